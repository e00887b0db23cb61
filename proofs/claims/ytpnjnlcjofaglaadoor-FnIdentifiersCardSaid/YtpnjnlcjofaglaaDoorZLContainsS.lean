/- The library's slices.Contains over strings: whether one of them is equal. For lists of at most 1000000 strings. -/
import Derived.Test.YtpnjnlcjofaglaaDoorZPx2
import Derived.Test.YtpnjnlcjofaglaaDoorZLBase
namespace Go.Proofs.YtpnjnlcjofaglaaDoor.P
open Go.RowKit Go.Proofs.YtpnjnlcjofaglaaDoorW.PrintWords Go.Proofs.YtpnjnlcjofaglaaDoorW.PrintLast Go.Proofs.YtpnjnlcjofaglaaDoorW.PrintMore
set_option linter.unusedVariables false
set_option linter.unusedSimpArgs false
theorem indexS_l0 (L : List ByteArray) (x : ByteArray) (hL : L.length ≤ 1000000) (d : Nat) : ∀ (k i : Nat), L.length - i = d → d < k → i ≤ L.length →
  ∃ r, slices_Index_string_string.l0 k L x (L.length : Int) (i : Int) = some r ∧ decide (r ≥ 0) = (L.drop i).any (fun y => x.toList == y.toList) := by
 induction d with
 | zero =>
  intro k i hd hk hi
  obtain ⟨k, rfl⟩ := succ_of hk
  rw [slices_Index_string_string.l0, if_neg (by omega), List.drop_of_length_le (by omega)]
  exact ⟨_, rfl, rfl⟩
 | succ d ih =>
  intro k i hd hk hi
  obtain ⟨k, rfl⟩ := succ_of hk
  have hlt : i < L.length := by omega
  obtain ⟨r, h1, h2⟩ := ih k (i + 1) (by omega) (by omega) (by omega)
  have hr : rdOf ByteArray.empty L (i : Int) = L[i] := by
   unfold rdOf
   rw [Int.toNat_natCast, List.getD_eq_getElem?_getD, List.getElem?_eq_getElem hlt]
   rfl
  rw [slices_Index_string_string.l0, if_pos (by omega), if_pos (by omega), if_pos (by omega), hr, w64_succ hlt (by omega), h1, List.drop_eq_getElem_cons hlt, List.any_cons]
  by_cases e : x.toList = L[i].toList
  ·have e2 : (x.toList == L[i].toList) = true := beq_iff_eq.2 e
   rw [if_pos e, e2]
   exact ⟨_, rfl, by simp⟩
  ·have e2 : (x.toList == L[i].toList) = false := beq_eq_false_iff_ne.2 e
   rw [if_neg e, e2]
   exact ⟨_, rfl, by rw [Bool.false_or]; exact h2⟩
theorem containsS_f (L : List ByteArray) (x : ByteArray) (hL : L.length ≤ 1000000) (k : Nat) (hk : L.length < k) : slices_Contains_string_string.f k L x = some (L.any (fun y => x.toList == y.toList)) := by
 obtain ⟨r, h1, h2⟩ := indexS_l0 L x hL L.length k 0 (by omega) hk (by omega)
 unfold slices_Contains_string_string.f slices_Index_string_string.f
 have e0 : ((0 : Nat) : Int) = 0 := rfl
 rw [e0] at h1
 rw [h1, Option.bind_some, h2, List.drop_zero]
end Go.Proofs.YtpnjnlcjofaglaaDoor.P
