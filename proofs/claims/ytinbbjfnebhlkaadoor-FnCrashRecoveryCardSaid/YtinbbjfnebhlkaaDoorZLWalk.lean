/- Walking through a log: the records from a place of a text on, each with the place behind it; the program's walk and the reference's give these, for texts of at most 1000000 bytes; and the tests of a log agree. -/
import Derived.Test.YtinbbjfnebhlkaaDoorZPx0
import Derived.Test.YtinbbjfnebhlkaaDoorZPx4
import Derived.Test.YtinbbjfnebhlkaaDoorZPx6
import Derived.Test.YtinbbjfnebhlkaaDoorZLBase
import Derived.Test.YtinbbjfnebhlkaaDoorZLCut
import Derived.Test.YtinbbjfnebhlkaaDoorZLLog
namespace Go.Proofs.YtinbbjfnebhlkaaDoor.P
open Go.RowKit Go.Proofs.YtinbbjfnebhlkaaDoorW.PrintWords Go.Proofs.YtinbbjfnebhlkaaDoorW.PrintLast Go.Proofs.YtinbbjfnebhlkaaDoorW.PrintMore
set_option linter.unusedVariables false
set_option linter.unusedSimpArgs false
def walkB (s : ByteArray) : Nat → Nat → Nat → List (S27 × Nat)
 | 0, _, _ => []
 | d + 1, a, n => match readB (s.extract a s.size) (n : Int) with
  | none => []
  | some (c, r) => (⟨c, r⟩, a + (cutB (s.extract a s.size) 10).1.size + 1) :: walkB s d (a + (cutB (s.extract a s.size) 10).1.size + 1) (n + 1)
def endB : List (S27 × Nat) → Nat → Nat
 | [], a => a
 | x :: l, _ => endB l x.2
theorem cutB_true {t : ByteArray} {x : UInt8} (h : (cutB t x).2.2 = true) : posL t.data.toList x < t.size ∧ (cutB t x).1 = t.extract 0 (posL t.data.toList x) ∧ (cutB t x).1.size = posL t.data.toList x := by
 unfold cutB at h ⊢
 by_cases hp : posL t.data.toList x < t.size
 ·rw [if_pos hp]
  refine ⟨hp, rfl, ?_⟩
  show (t.extract 0 (posL t.data.toList x)).size = _
  rw [ByteArray.size_extract]
  omega
 ·rw [if_neg hp] at h
  cases h
theorem cutB_is {t : ByteArray} {x : UInt8} (h : posL t.data.toList x < t.size) : (cutB t x).2.2 = true ∧ (cutB t x).1 = t.extract 0 (posL t.data.toList x) := by
 unfold cutB
 rw [if_pos h]
 exact ⟨rfl, rfl⟩
theorem readB_some {t : ByteArray} {n : Int} {c r : ByteArray} (h : readB t n = some (c, r)) : (cutB t 10).2.2 = true ∧ n < 60 ∧ recQ (cutB t 10).1 n = some (c, r) := by
 unfold readB at h
 split at h
 ·rename_i hc
  exact ⟨hc.1, hc.2, h⟩
 ·cases h
theorem readB_most {t : ByteArray} {n : Int} (h : ¬ n < 60) : readB t n = none := by
 unfold readB
 rw [if_neg (fun hc => h hc.2)]
theorem readB_line {t : ByteArray} {n : Int} {c r : ByteArray} (h : readB t n = some (c, r)) (h0 : 0 ≤ n) : (cutB t 10).1.size + 1 ≤ 402 ∧ (cutB t 10).1.size + 1 ≤ t.size := by
 obtain ⟨h1, h2, h3⟩ := readB_some h
 obtain ⟨g, e⟩ := recQ_some h3
 have hz := recLine_size h0 (by omega) g
 rw [e, ByteArray.size_append] at hz
 have e1 : (⟨#[10]⟩ : ByteArray).size = 1 := rfl
 obtain ⟨c1, _, c3⟩ := cutB_true h1
 omega
theorem walkB_end (s : ByteArray) : ∀ (d a n : Nat), endB (walkB s d a n) a ≤ a + 402 * d ∧ a ≤ endB (walkB s d a n) a ∧ (a ≤ s.size → endB (walkB s d a n) a ≤ s.size) ∧ (∀ x ∈ walkB s d a n, a < x.2) ∧ (walkB s d a n).length ≤ d := by
 intro d
 induction d with
 | zero => intro a n; simp [walkB, endB]
 | succ d ih =>
  intro a n
  unfold walkB
  cases hq : readB (s.extract a s.size) (n : Int) with
  | none => simp [endB] <;> omega
  | some cr =>
   obtain ⟨l1, l2⟩ := readB_line hq (by omega)
   rw [ByteArray.size_extract] at l2
   obtain ⟨i1, i2, i3, i4, i5⟩ := ih (a + (cutB (s.extract a s.size) 10).1.size + 1) (n + 1)
   simp only [endB, List.length_cons]
   generalize (cutB (s.extract a s.size) 10).1.size = z at *
   refine ⟨by omega, by omega, fun h => i3 (by omega), ?_, by omega⟩
   intro x hx
   cases hx with
   | head => show a < a + z + 1; omega
   | tail _ hx => have := i4 x hx; omega
theorem implRecords_l0 (s : ByteArray) (hs : s.size ≤ 1048576) : ∀ (d k a n : Nat) (recs : List S27) (ends : List Int), recs.length = n → ends.length = n + 1 → n + d = 60 → a ≤ s.size → 2 * s.size + 300 + d < k →
  impl_readRecords.l0 k s recs ends (a : Int) = some (recs ++ (walkB s d a n).map (fun x => x.1), ends ++ (walkB s d a n).map (fun x => (x.2 : Int))) := by
 intro d
 induction d with
 | zero =>
  intro k a n recs ends hn he hd ha hk
  obtain ⟨k, rfl⟩ := succ_of hk
  have ht : (s.extract a s.size).size ≤ s.size := by rw [ByteArray.size_extract]; omega
  simp only [impl_readRecords.l0]
  rw [if_pos (by omega), if_pos (by omega)]
  simp only [Int.toNat_natCast]
  rw [hn, implRead _ _ (by omega) (by omega) k (by omega), readB_most (by omega)]
  simp [walkB]
 | succ d ih =>
  intro k a n recs ends hn he hd ha hk
  obtain ⟨k, rfl⟩ := succ_of hk
  have ht : (s.extract a s.size).size ≤ s.size - a := by rw [ByteArray.size_extract]; omega
  simp only [impl_readRecords.l0]
  rw [if_pos (by omega), if_pos (by omega)]
  simp only [Int.toNat_natCast]
  rw [hn, implRead _ _ (by omega) (by omega) k (by omega)]
  unfold walkB
  cases hq : readB (s.extract a s.size) (n : Int) with
  | none => simp
  | some cr =>
   obtain ⟨_, l2⟩ := readB_line hq (by omega)
   simp only [Option.bind_some, if_true]
   generalize (cutB (s.extract a s.size) 10).1.size = z at *
   have hw : wrap64 ((a : Int) + ((z : Int) + 1)) = ((a + z + 1 : Nat) : Int) := by rw [w64 (by omega) (by omega)]; omega
   have g1 : (recs ++ [(⟨cr.1, cr.2⟩ : S27)]).length = n + 1 := by rw [List.length_append, hn]; rfl
   have g2 : (ends ++ [((a + z + 1 : Nat) : Int)]).length = n + 1 + 1 := by rw [List.length_append, he]; rfl
   have q2 : a + z + 1 ≤ s.size := Nat.le_trans (Nat.add_le_add_left (Nat.le_trans l2 ht) a) (Nat.le_of_eq (Nat.add_sub_cancel' ha))
   have hi := ih k (a + z + 1) (n + 1) _ _ g1 g2 (by omega) q2 (by omega)
   rw [if_pos (by omega), if_pos (by omega), hw, hi]
   simp only [List.map_cons, List.append_assoc, List.cons_append, List.nil_append]
theorem specOpen_l0 (s : ByteArray) (hs : s.size ≤ 1000000) : ∀ (d k a n : Nat) (recs : List S27), recs.length = n → n + d = 60 → a ≤ s.size → 2 * s.size + 400 + 2 * d < k →
  spec_l26Open.l0 k s recs (a : Int) = some (recs ++ (walkB s d a n).map (fun x => x.1), ((endB (walkB s d a n) a : Nat) : Int)) := by
 have hend : ∀ (k a : Nat) (recs : List S27), spec_l26Open.j1 (k + 1) s recs (a : Int) false = some (recs, (a : Int)) := by
  intro k a recs
  rw [spec_l26Open.j1, if_neg (by simp)]
 intro d
 induction d with
 | zero =>
  intro k a n recs hn hd ha hk
  obtain ⟨k, rfl⟩ := succ_of hk
  obtain ⟨k, rfl⟩ : ∃ m, k = m + 1 := ⟨k - 1, by omega⟩
  have h60 : decide ((recs.length : Int) < 60) = false := decide_eq_false (by omega)
  rw [spec_l26Open.l0, h60, hend]
  simp [walkB, endB]
 | succ d ih =>
  intro k a n recs hn hd ha hk
  obtain ⟨k, rfl⟩ := succ_of hk
  obtain ⟨k, rfl⟩ : ∃ m, k = m + 1 := ⟨k - 1, by omega⟩
  have h60 : decide ((recs.length : Int) < 60) = true := decide_eq_true (by omega)
  have ht : (s.extract a s.size).size = s.size - a := by rw [ByteArray.size_extract]; omega
  rw [spec_l26Open.l0, h60]
  have hp := posL_le (s.extract a s.size).data.toList 10
  rw [← size_data] at hp
  by_cases hlt : (a : Int) < (s.size : Int)
  ·rw [if_pos hlt, spec_l26Open.j1, if_pos rfl, if_pos (by omega), if_pos (by omega)]
   simp only [Int.toNat_natCast]
   obtain ⟨l, hl, hl0⟩ := split_f (s.extract a s.size) 10 (by omega) k (by omega)
   have e10 : (((10 : UInt8).toNat : Nat) : Int) = 10 := rfl
   rw [e10] at hl
   rw [hl]
   simp only [Option.bind_some]
   have hr0 : rdOf ByteArray.empty ((s.extract a s.size).extract 0 (posL (s.extract a s.size).data.toList 10) :: l) 0 = (s.extract a s.size).extract 0 (posL (s.extract a s.size).data.toList 10) := rfl
   rw [hr0, if_pos (by simp), hn]
   have hLz : ((s.extract a s.size).extract 0 (posL (s.extract a s.size).data.toList 10)).size = posL (s.extract a s.size).data.toList 10 := by rw [ByteArray.size_extract]; omega
   obtain ⟨c, r, b, hrd, hb1, hb2⟩ := specRead ((s.extract a s.size).extract 0 (posL (s.extract a s.size).data.toList 10)) (n : Int) (by omega) (by omega) (by omega) k (by omega)
   rw [hrd]
   simp only [Option.bind_some]
   unfold walkB readB
   generalize hL : (s.extract a s.size).extract 0 (posL (s.extract a s.size).data.toList 10) = L at *
   by_cases hno : posL (s.extract a s.size).data.toList 10 < (s.extract a s.size).size
   ·obtain ⟨c1, c2⟩ := cutB_is hno
    have hll : ¬ ((((L :: l).length : Nat) : Int) < 2) := by simp only [List.length_cons]; omega
    have hg : (cutB (s.extract a s.size) 10).2.2 = true ∧ (n : Int) < 60 := ⟨c1, by omega⟩
    rw [if_neg hll, if_pos hg, c2, hL]
    clear c1 c2 hg hL hll hl hl0 hp hr0 hlt h60
    cases b with
    | false =>
     rw [hb2 rfl, if_neg (by simp)]
     simp only [List.map_nil, List.append_nil, endB]
    | true =>
     rw [hb1 rfl, hLz, if_pos rfl]
     generalize posL (s.extract a s.size).data.toList 10 = z at *
     have hw : wrap64 ((wrap64 ((a : Int) + (z : Int))) + 1) = ((a + z + 1 : Nat) : Int) := by rw [w64 (x := (a : Int) + (z : Int)) (by omega) (by omega), w64 (by omega) (by omega)]; omega
     have g1 : (recs ++ [(⟨c, r⟩ : S27)]).length = n + 1 := by rw [List.length_append, hn]; rfl
     have q2 : a + z + 1 ≤ s.size := Nat.le_trans (Nat.add_le_add_left (Nat.le_trans (Nat.succ_le_of_lt hno) (Nat.le_of_eq ht)) a) (Nat.le_of_eq (Nat.add_sub_cancel' ha))
     have hi := ih k (a + z + 1) (n + 1) _ g1 (by omega) q2 (by omega)
     rw [if_pos (by omega), hw, hi]
     simp only [List.map_cons, endB, List.append_assoc, List.cons_append, List.nil_append]
   ·have hll : (((L :: l).length : Nat) : Int) < 2 := by simp only [List.length_cons]; omega
    have hc : ¬ ((cutB (s.extract a s.size) 10).2.2 = true ∧ (n : Int) < 60) := fun h => hno (cutB_true h.1).1
    rw [if_pos hll, if_neg hc]
    simp only [List.map_nil, List.append_nil, endB]
  ·rw [if_neg hlt, hend]
   have hz : (s.extract a s.size).size = 0 := by omega
   unfold walkB readB
   have hc : ¬ ((cutB (s.extract a s.size) 10).2.2 = true ∧ (n : Int) < 60) := fun h => by have := (cutB_true h.1).1; omega
   rw [if_neg hc]
   simp [endB]
def recsB (s : ByteArray) : List (S27 × Nat) := walkB s 60 0 0
theorem implRecords (s : ByteArray) (hs : s.size ≤ 1048576) (k : Nat) (hk : 2 * s.size + 400 < k) : impl_readRecords.f k s = some ((recsB s).map (fun x => x.1), 0 :: (recsB s).map (fun x => (x.2 : Int))) := by
 have h := implRecords_l0 s hs 60 k 0 0 [] [0] rfl rfl rfl (by omega) (by omega)
 exact h
theorem specOpen (s : ByteArray) (hs : s.size ≤ 1000000) (k : Nat) (hk : 2 * s.size + 600 < k) : spec_l26Open.f k s = some ((recsB s).map (fun x => x.1), ((endB (recsB s) 0 : Nat) : Int)) := by
 have h := specOpen_l0 s hs 60 k 0 0 [] rfl rfl (by omega) (by omega)
 exact h
theorem rd_end (l : List (S27 × Nat)) : ∀ a : Nat, rd ((a : Int) :: l.map (fun x => (x.2 : Int))) (l.length : Int) = ((endB l a : Nat) : Int) := by
 induction l with
 | nil => intro a; rfl
 | cons x l ih =>
  intro a
  have h := ih x.2
  unfold rd at h ⊢
  rw [Int.toNat_natCast] at h ⊢
  simp only [List.map_cons, List.length_cons, endB]
  rw [← h]
  rfl
theorem recsB_facts (s : ByteArray) : endB (recsB s) 0 ≤ 24120 ∧ endB (recsB s) 0 ≤ s.size ∧ (recsB s).length ≤ 60 := by
 obtain ⟨h1, _, h3, _, h5⟩ := walkB_end s 60 0 0
 exact ⟨by unfold recsB; omega, h3 (by omega), h5⟩
end Go.Proofs.YtinbbjfnebhlkaaDoor.P
