/- A list of texts that is marked holds its marks. For lists of at most 2000000 texts. -/
import Derived.Test.YtmafmhgmdegplaaGreatDoorZPx31
import Derived.Test.YtmafmhgmdegplaaGreatDoorZLBase
import Derived.Test.YtmafmhgmdegplaaGreatDoorZLMtBig
namespace Go.Proofs.YtmafmhgmdegplaaGreatDoor.P
open Go.RowKit Go.Proofs.YtmafmhgmdegplaaGreatDoorW.PrintWords Go.Proofs.YtmafmhgmdegplaaGreatDoorW.PrintLast Go.Proofs.YtmafmhgmdegplaaGreatDoorW.PrintMore
set_option linter.unusedVariables false
set_option linter.unusedSimpArgs false
theorem rdS_set (l : List ByteArray) (i j : Nat) (v : ByteArray) (hi : i < l.length) : rdOf ByteArray.empty (l.set i v) (j : Int) = if i = j then v else rdOf ByteArray.empty l (j : Int) := by
 unfold rdOf
 rw [Int.toNat_natCast, List.getD_eq_getElem?_getD, List.getD_eq_getElem?_getD, List.getElem?_set]
 by_cases h : i = j
 ·subst h
  rw [if_pos rfl, if_pos hi, if_pos rfl]
  rfl
 ·rw [if_neg h, if_neg h]
theorem markStrs_l0 (d : Nat) : ∀ (k i : Nat) (l : List ByteArray), l.length - i = d → d + 20 < k → i ≤ l.length → l.length ≤ 2000000 →
  ∃ L, FaH.l0 k l ((1 + i : Nat) : Int) (i : Int) = some (((1 + l.length : Nat) : Int), L) ∧ L.length = l.length ∧ (∀ j : Nat, j < i → rdOf ByteArray.empty L (j : Int) = rdOf ByteArray.empty l (j : Int)) ∧ (∀ j : Nat, i ≤ j → j < l.length → rdOf ByteArray.empty L (j : Int) = mt2 (1 + j)) := by
 induction d with
 | zero =>
  intro k i l hd hk hi hl
  obtain ⟨k, rfl⟩ : ∃ m, k = m + 1 := ⟨k - 1, by omega⟩
  have he : i = l.length := by omega
  rw [FaH.l0, if_neg (by omega)]
  exact ⟨l, by rw [he], rfl, fun _ _ => rfl, fun j h1 h2 => by omega⟩
 | succ d ih =>
  intro k i l hd hk hi hl
  obtain ⟨k, rfl⟩ : ∃ m, k = m + 1 := ⟨k - 1, by omega⟩
  have hlt : i < l.length := by omega
  have hw1 : wrap64 (((1 + i : Nat) : Int) + 1) = ((1 + (i + 1) : Nat) : Int) := by rw [w64 (by omega) (by omega)]; omega
  rw [FaH.l0, if_pos (by omega), markText2_f _ (by omega) k (by omega), hw1, w64_succ hlt (by omega), Option.bind_some, if_pos (by omega), Int.toNat_natCast]
  obtain ⟨L, h1, h2, h3, h4⟩ := ih k (i + 1) (l.set i (mt2 (1 + i))) (by rw [List.length_set]; omega) (by omega) (by rw [List.length_set]; omega) (by rw [List.length_set]; omega)
  rw [List.length_set] at h1 h2 h4
  refine ⟨L, h1, h2, ?_, ?_⟩
  ·intro j hj
   rw [h3 j (by omega), rdS_set l i j _ hlt, if_neg (by omega)]
  ·intro j hj hj2
   by_cases h : i = j
   ·subst h
    rw [h3 i (by omega), rdS_set l i i _ hlt, if_pos rfl]
   ·exact h4 j (by omega) (by omega)
theorem heldStrs_l0 (L : List ByteArray) (hL : L.length ≤ 2000000) (hm : ∀ j : Nat, j < L.length → rdOf ByteArray.empty L (j : Int) = mt2 (1 + j)) (d : Nat) : ∀ (k i : Nat), L.length - i = d → d + 20 < k → i ≤ L.length →
  FaG.l0 k L ((1 + i : Nat) : Int) (i : Int) = some ((1 + L.length : Nat) : Int) := by
 induction d with
 | zero =>
  intro k i hd hk hi
  obtain ⟨k, rfl⟩ : ∃ m, k = m + 1 := ⟨k - 1, by omega⟩
  have he : i = L.length := by omega
  rw [FaG.l0, if_neg (by omega), he]
 | succ d ih =>
  intro k i hd hk hi
  obtain ⟨k, rfl⟩ : ∃ m, k = m + 1 := ⟨k - 1, by omega⟩
  have hlt : i < L.length := by omega
  have hw1 : wrap64 (((1 + i : Nat) : Int) + 1) = ((1 + (i + 1) : Nat) : Int) := by rw [w64 (by omega) (by omega)]; omega
  rw [FaG.l0, if_pos (by omega), if_pos (by omega), markText2_f _ (by omega) k (by omega), hw1, w64_succ hlt (by omega), Option.bind_some, hm i hlt, if_pos rfl, ih k (i + 1) (by omega) (by omega) (by omega)]
theorem markHeldStrs (l : List ByteArray) (hl : l.length ≤ 2000000) (k : Nat) (hk : l.length + 20 < k) : ∃ L, FaH.f k l 1 = some (((1 + l.length : Nat) : Int), L) ∧ ∀ k2, l.length + 20 < k2 → FaG.f k2 L 1 = some ((1 + l.length : Nat) : Int) := by
 obtain ⟨L, h1, h2, _, h4⟩ := markStrs_l0 l.length k 0 l (by omega) (by omega) (by omega) hl
 refine ⟨L, h1, fun k2 hk2 => ?_⟩
 have h5 := heldStrs_l0 L (by omega) (fun j hj => h4 j (by omega) (by omega)) L.length k2 0 (by omega) (by omega) (by omega)
 rw [h2] at h5
 exact h5
end Go.Proofs.YtmafmhgmdegplaaGreatDoor.P
