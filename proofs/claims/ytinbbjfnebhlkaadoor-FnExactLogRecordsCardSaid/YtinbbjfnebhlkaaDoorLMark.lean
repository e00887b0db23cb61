/- Marking a list of records and asking for the marks: the marks stand as they were written; for lists of at most 1000 records. -/
import Derived.Test.YtinbbjfnebhlkaaDoorPx0
import Derived.Test.YtinbbjfnebhlkaaDoorPx5
import Derived.Test.YtinbbjfnebhlkaaDoorPx6
import Derived.Test.YtinbbjfnebhlkaaDoorLBase
namespace Go.Proofs.YtinbbjfnebhlkaaDoor.P
open Go.RowKit Go.Proofs.YtinbbjfnebhlkaaDoorW.PrintWords Go.Proofs.YtinbbjfnebhlkaaDoorW.PrintLast Go.Proofs.YtinbbjfnebhlkaaDoorW.PrintMore
set_option linter.unusedVariables false
set_option linter.unusedSimpArgs false

def mtL : Nat → Nat → ByteArray → ByteArray
  | 0, _, s => (⟨#[109]⟩ : ByteArray) ++ s
  | d + 1, x, s => if x = 0 then (⟨#[109]⟩ : ByteArray) ++ s else mtL d (x / 10) (strOfNums [(wrap64 (48 + (Int.tmod (x : Int) 10))) % 256] ++ s)
/-- A mark's text. -/
def mt (x : Nat) : ByteArray := if x = 0 then (⟨#[109, 48]⟩ : ByteArray) else mtL 6 x (⟨#[]⟩ : ByteArray)
theorem markText_l0 (d : Nat) : ∀ (x k : Nat) (s : ByteArray), x < 10 ^ d → x ≤ 1000000 → d < k → s.size + d ≤ 1000 → laws_markText.l0 k (x : Int) s = some (mtL d x s) := by
  induction d with
  | zero =>
    intro x k s hx _ hk hs
    have h0 : x = 0 := by simpa using hx
    subst h0
    obtain ⟨k, rfl⟩ := succ_of hk
    rw [laws_markText.l0, if_neg (by omega), if_pos (by omega)]
    rfl
  | succ d ih =>
    intro x k s hx hm hk hs
    obtain ⟨k, rfl⟩ := succ_of hk
    unfold mtL
    by_cases h0 : x = 0
    · subst h0
      rw [laws_markText.l0, if_neg (by omega), if_pos (by omega), if_pos rfl]
    · have hz : ∀ y : Int, (strOfNums [y]).size = 1 := fun y => rfl
      have hd : Int.tdiv (x : Int) 10 = ((x / 10 : Nat) : Int) := rfl
      have hx2 : x / 10 < 10 ^ d := by rw [Nat.pow_succ] at hx; omega
      rw [laws_markText.l0, if_pos (by omega), if_neg h0]
      simp only [Option.bind_some]
      rw [if_pos (by rw [hz]; omega), hd, w64 (by omega) (by omega), ih (x / 10) k _ hx2 (by omega) (by omega) (by rw [ByteArray.size_append, hz]; omega)]
theorem markText_f (x : Nat) (hx : x < 1000000) (k : Nat) (hk : 6 < k) : laws_markText.f k (x : Int) = some (mt x) := by
  unfold laws_markText.f mt
  by_cases h0 : x = 0
  · rw [if_pos (by omega), if_pos h0]
  · rw [if_neg (by omega), if_neg h0, markText_l0 6 x k _ (by omega) (by omega) hk (by decide)]
theorem rd_T27_set (l : List S27) (i j : Nat) (v : S27) (hi : i < l.length) : rd_T27 (l.set i v) (j : Int) = if i = j then v else rd_T27 l (j : Int) := by
  unfold rd_T27
  rw [Int.toNat_natCast, List.getD_eq_getElem?_getD, List.getD_eq_getElem?_getD, List.getElem?_set]
  by_cases h : i = j
  · subst h
    rw [if_pos rfl, if_pos hi, if_pos rfl]
    rfl
  · rw [if_neg h, if_neg h]
theorem mark_l0 (d : Nat) : ∀ (k i : Nat) (l : List S27), l.length - i = d → d + 10 < k → i ≤ l.length → l.length ≤ 1000 →
    ∃ L, laws_markLogRecordS.l0 k l ((1 + 2 * i : Nat) : Int) (i : Int) = some (((1 + 2 * l.length : Nat) : Int), L) ∧ L.length = l.length ∧ (∀ j : Nat, j < i → rd_T27 L (j : Int) = rd_T27 l (j : Int)) ∧ (∀ j : Nat, i ≤ j → j < l.length → rd_T27 L (j : Int) = ⟨mt (1 + 2 * j), mt (1 + 2 * j + 1)⟩) := by
  induction d with
  | zero =>
    intro k i l hd hk hi hl
    obtain ⟨k, rfl⟩ : ∃ m, k = m + 1 := ⟨k - 1, by omega⟩
    have he : i = l.length := by omega
    rw [laws_markLogRecordS.l0, if_neg (by omega)]
    exact ⟨l, by rw [he], rfl, fun _ _ => rfl, fun j h1 h2 => by omega⟩
  | succ d ih =>
    intro k i l hd hk hi hl
    obtain ⟨k, rfl⟩ : ∃ m, k = m + 1 := ⟨k - 1, by omega⟩
    have hlt : i < l.length := by omega
    have hw1 : wrap64 (((1 + 2 * i : Nat) : Int) + 1) = ((1 + 2 * i + 1 : Nat) : Int) := by rw [w64 (by omega) (by omega)]; omega
    have hw2 : wrap64 (((1 + 2 * i + 1 : Nat) : Int) + 1) = ((1 + 2 * (i + 1) : Nat) : Int) := by rw [w64 (by omega) (by omega)]; omega
    rw [laws_markLogRecordS.l0, if_pos (by omega), markText_f _ (by omega) k (by omega), hw1, hw2, w64_succ hlt (by omega)]
    simp only [Option.bind_some]
    rw [if_pos (by omega), markText_f _ (by omega) k (by omega)]
    simp only [Option.bind_some, Int.toNat_natCast]
    rw [rd_T27_set l i i _ hlt, if_pos rfl]
    generalize hl2 : ((l.set i ⟨mt (1 + 2 * i), (rd_T27 l (i : Int)).f1⟩).set i ⟨mt (1 + 2 * i), mt (1 + 2 * i + 1)⟩) = l2
    have hlen : l2.length = l.length := by rw [← hl2, List.length_set, List.length_set]
    have hrd : ∀ j : Nat, rd_T27 l2 (j : Int) = if i = j then ⟨mt (1 + 2 * i), mt (1 + 2 * i + 1)⟩ else rd_T27 l (j : Int) := by
      intro j
      rw [← hl2, rd_T27_set _ i j _ (by rw [List.length_set]; exact hlt), rd_T27_set l i j _ hlt]
      by_cases h : i = j
      · rw [if_pos h, if_pos h]
      · rw [if_neg h, if_neg h, if_neg h]
    obtain ⟨L, h1, h2, h3, h4⟩ := ih k (i + 1) l2 (by omega) (by omega) (by omega) (by omega)
    refine ⟨L, by rw [h1, hlen], by omega, ?_, ?_⟩
    · intro j hj
      rw [h3 j (by omega), hrd, if_neg (by omega)]
    · intro j hj hj2
      by_cases h : i = j
      · subst h
        rw [h3 i (by omega), hrd, if_pos rfl]
      · exact h4 j (by omega) (by omega)
theorem held_l0 (L : List S27) (hL : L.length ≤ 1000) (hm : ∀ j : Nat, j < L.length → rd_T27 L (j : Int) = ⟨mt (1 + 2 * j), mt (1 + 2 * j + 1)⟩) (d : Nat) : ∀ (k i : Nat), L.length - i = d → d + 10 < k → i ≤ L.length →
    laws_heldLogRecordS.l0 k L ((1 + 2 * i : Nat) : Int) (i : Int) = some ((1 + 2 * L.length : Nat) : Int) := by
  induction d with
  | zero =>
    intro k i hd hk hi
    obtain ⟨k, rfl⟩ : ∃ m, k = m + 1 := ⟨k - 1, by omega⟩
    have he : i = L.length := by omega
    rw [laws_heldLogRecordS.l0, if_neg (by omega), he]
  | succ d ih =>
    intro k i hd hk hi
    obtain ⟨k, rfl⟩ : ∃ m, k = m + 1 := ⟨k - 1, by omega⟩
    have hlt : i < L.length := by omega
    have hw1 : wrap64 (((1 + 2 * i : Nat) : Int) + 1) = ((1 + 2 * i + 1 : Nat) : Int) := by rw [w64 (by omega) (by omega)]; omega
    have hw2 : wrap64 (((1 + 2 * i + 1 : Nat) : Int) + 1) = ((1 + 2 * (i + 1) : Nat) : Int) := by rw [w64 (by omega) (by omega)]; omega
    rw [laws_heldLogRecordS.l0, if_pos (by omega), if_pos (by omega), markText_f _ (by omega) k (by omega), hw1, hw2, w64_succ hlt (by omega)]
    simp only [Option.bind_some]
    rw [hm i hlt, if_pos rfl, markText_f _ (by omega) k (by omega)]
    simp only [Option.bind_some]
    rw [if_pos trivial, ih k (i + 1) (by omega) (by omega) (by omega)]
theorem markHeld (l : List S27) (hl : l.length ≤ 1000) (k : Nat) (hk : l.length + 10 < k) : ∃ L, laws_markLogRecordS.f k l 1 = some (((1 + 2 * l.length : Nat) : Int), L) ∧ L.length = l.length ∧ ∀ k2, l.length + 10 < k2 → laws_heldLogRecordS.f k2 L 1 = some ((1 + 2 * l.length : Nat) : Int) := by
  obtain ⟨L, h1, h2, _, h4⟩ := mark_l0 l.length k 0 l (by omega) (by omega) (by omega) hl
  refine ⟨L, h1, h2, fun k2 hk2 => ?_⟩
  have h5 := held_l0 L (by omega) (fun j hj => h4 j (by omega) (by omega)) L.length k2 0 (by omega) (by omega) (by omega)
  rw [h2] at h5
  exact h5
theorem eqRecs_l0 (l : List S27) (hl : l.length ≤ 1000000) (d : Nat) : ∀ (k i : Nat), l.length - i = d → d < k → i ≤ l.length → laws_eqLogRecordS.l0 k l l (i : Int) = some true := by
  induction d with
  | zero =>
    intro k i hd hk hi
    obtain ⟨k, rfl⟩ := succ_of hk
    rw [laws_eqLogRecordS.l0, if_neg (by omega)]
  | succ d ih =>
    intro k i hd hk hi
    obtain ⟨k, rfl⟩ := succ_of hk
    rw [laws_eqLogRecordS.l0, if_pos (by omega), if_pos (by omega), if_pos (by omega)]
    unfold laws_eqLogRecord.f
    rw [if_pos rfl, if_pos rfl]
    simp only [Option.bind_some]
    rw [if_pos trivial, w64_succ (n := l.length) (by omega) (by omega), ih k (i + 1) (by omega) (by omega) (by omega)]
theorem eqRecs (l : List S27) (hl : l.length ≤ 1000000) (k : Nat) (hk : l.length < k) : laws_eqLogRecordS.f k l l = some true := by
  unfold laws_eqLogRecordS.f
  rw [if_pos rfl]
  exact eqRecs_l0 l hl l.length k 0 (by omega) hk (by omega)

end Go.Proofs.YtinbbjfnebhlkaaDoor.P
