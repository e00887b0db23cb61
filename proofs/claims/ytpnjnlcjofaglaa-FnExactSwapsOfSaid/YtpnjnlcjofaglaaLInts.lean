/- Lists of numbers are equal to themselves, and marks written into them stand. For lists of at most 2000000 numbers. -/
import Derived.Test.YtpnjnlcjofaglaaPx3
import Derived.Test.YtpnjnlcjofaglaaPx4
import Derived.Test.YtpnjnlcjofaglaaLBase
namespace Go.Proofs.Ytpnjnlcjofaglaa.P
open Go.RowKit Go.Proofs.YtpnjnlcjofaglaaW.PrintWords Go.Proofs.YtpnjnlcjofaglaaW.PrintLast Go.Proofs.YtpnjnlcjofaglaaW.PrintMore
set_option linter.unusedVariables false
set_option linter.unusedSimpArgs false

theorem eqInts_l0 (l : List Int) (hl : l.length ≤ 2000000) (d : Nat) : ∀ (k i : Nat), l.length - i = d → d < k → i ≤ l.length → laws_eqIntS.l0 k l l (i : Int) = some true := by
  induction d with
  | zero =>
    intro k i hd hk hi
    obtain ⟨k, rfl⟩ := succ_of hk
    rw [laws_eqIntS.l0, if_neg (by omega)]
  | succ d ih =>
    intro k i hd hk hi
    obtain ⟨k, rfl⟩ := succ_of hk
    rw [laws_eqIntS.l0, if_pos (by omega), if_pos (by omega), if_pos (by omega), if_pos rfl, w64_succ (n := l.length) (by omega) (by omega)]
    exact ih k (i + 1) (by omega) (by omega) (by omega)
theorem eqInts (l : List Int) (hl : l.length ≤ 2000000) (k : Nat) (hk : l.length < k) : laws_eqIntS.f k l l = some true := by
  unfold laws_eqIntS.f
  rw [if_pos rfl]
  exact eqInts_l0 l hl l.length k 0 (by omega) hk (by omega)
theorem rd_set (l : List Int) (i j : Nat) (v : Int) (hi : i < l.length) : rd (l.set i v) (j : Int) = if i = j then v else rd l (j : Int) := by
  unfold rd
  rw [Int.toNat_natCast, List.getD_eq_getElem?_getD, List.getD_eq_getElem?_getD, List.getElem?_set]
  by_cases h : i = j
  · subst h
    rw [if_pos rfl, if_pos hi, if_pos rfl]
    rfl
  · rw [if_neg h, if_neg h]
theorem markInts_l0 (d : Nat) : ∀ (k i : Nat) (l : List Int), l.length - i = d → d < k → i ≤ l.length → l.length ≤ 2000000 →
    ∃ L, laws_markIntS.l0 k l ((1 + i : Nat) : Int) (i : Int) = some (((1 + l.length : Nat) : Int), L) ∧ L.length = l.length ∧ (∀ j : Nat, j < i → rd L (j : Int) = rd l (j : Int)) ∧ (∀ j : Nat, i ≤ j → j < l.length → rd L (j : Int) = ((1 + j : Nat) : Int)) := by
  induction d with
  | zero =>
    intro k i l hd hk hi hl
    obtain ⟨k, rfl⟩ := succ_of hk
    have he : i = l.length := by omega
    rw [laws_markIntS.l0, if_neg (by omega)]
    exact ⟨l, by rw [he], rfl, fun _ _ => rfl, fun j h1 h2 => by omega⟩
  | succ d ih =>
    intro k i l hd hk hi hl
    obtain ⟨k, rfl⟩ := succ_of hk
    have hlt : i < l.length := by omega
    have hw1 : wrap64 (((1 + i : Nat) : Int) + 1) = ((1 + (i + 1) : Nat) : Int) := by rw [w64 (by omega) (by omega)]; omega
    obtain ⟨L, h1, h2, h3, h4⟩ := ih k (i + 1) (l.set i ((1 + i : Nat) : Int)) (by rw [List.length_set]; omega) (by omega) (by rw [List.length_set]; omega) (by rw [List.length_set]; omega)
    rw [List.length_set] at h1 h2 h4
    rw [laws_markIntS.l0, if_pos (by omega), if_pos (by omega), Int.toNat_natCast, hw1, w64_succ hlt (by omega)]
    refine ⟨L, h1, h2, ?_, ?_⟩
    · intro j hj
      rw [h3 j (by omega), rd_set l i j _ hlt, if_neg (by omega)]
    · intro j hj hj2
      by_cases h : i = j
      · subst h
        rw [h3 i (by omega), rd_set l i i _ hlt, if_pos rfl]
      · exact h4 j (by omega) hj2
theorem heldInts_l0 (L : List Int) (hL : L.length ≤ 2000000) (hm : ∀ j : Nat, j < L.length → rd L (j : Int) = ((1 + j : Nat) : Int)) (d : Nat) : ∀ (k i : Nat), L.length - i = d → d < k → i ≤ L.length →
    laws_heldIntS.l0 k L ((1 + i : Nat) : Int) (i : Int) = some ((1 + L.length : Nat) : Int) := by
  induction d with
  | zero =>
    intro k i hd hk hi
    obtain ⟨k, rfl⟩ := succ_of hk
    have he : i = L.length := by omega
    rw [laws_heldIntS.l0, if_neg (by omega), he]
  | succ d ih =>
    intro k i hd hk hi
    obtain ⟨k, rfl⟩ := succ_of hk
    have hlt : i < L.length := by omega
    have hw1 : wrap64 (((1 + i : Nat) : Int) + 1) = ((1 + (i + 1) : Nat) : Int) := by rw [w64 (by omega) (by omega)]; omega
    rw [laws_heldIntS.l0, if_pos (by omega), if_pos (by omega), hm i hlt, if_pos rfl, hw1, w64_succ hlt (by omega)]
    exact ih k (i + 1) (by omega) (by omega) (by omega)
theorem markHeldInts (l : List Int) (hl : l.length ≤ 2000000) (k : Nat) (hk : l.length < k) : ∃ L, laws_markIntS.f k l 1 = some (((1 + l.length : Nat) : Int), L) ∧ ∀ k2, l.length < k2 → laws_heldIntS.f k2 L 1 = some ((1 + l.length : Nat) : Int) := by
  obtain ⟨L, h1, h2, _, h4⟩ := markInts_l0 l.length k 0 l (by omega) hk (by omega) hl
  refine ⟨L, h1, fun k2 hk2 => ?_⟩
  have h5 := heldInts_l0 L (by omega) (fun j hj => h4 j (by omega) (by omega)) L.length k2 0 (by omega) (by omega) (by omega)
  rw [h2] at h5
  exact h5

end Go.Proofs.Ytpnjnlcjofaglaa.P
