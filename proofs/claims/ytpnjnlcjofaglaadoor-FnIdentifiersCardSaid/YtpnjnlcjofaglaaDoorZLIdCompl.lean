/- Digits of the right length have a completion as an identifier of each kind. Conditions: those of each lemma. -/
import Derived.Test.YtpnjnlcjofaglaaDoorZPx0
import Derived.Test.YtpnjnlcjofaglaaDoorZLComplete
import Derived.Test.YtpnjnlcjofaglaaDoorZLIdent
import Derived.Test.YtpnjnlcjofaglaaDoorZLLastB
import Derived.Test.YtpnjnlcjofaglaaDoorZLUniq
namespace Go.Proofs.YtpnjnlcjofaglaaDoor.P
open Go.RowKit Go.Proofs.YtpnjnlcjofaglaaDoorW.PrintWords Go.Proofs.YtpnjnlcjofaglaaDoorW.PrintLast Go.Proofs.YtpnjnlcjofaglaaDoorW.PrintMore
set_option linter.unusedVariables false
set_option linter.unusedSimpArgs false
def allDg (s : ByteArray) : Prop := ∀ j : Int, 0 ≤ j → j < s.size → isDg (bt s j) = true
theorem allDg_append {s t : ByteArray} (hs : allDg s) (ht : allDg t) : allDg (s ++ t) := by
 intro j h0 h1
 rw [ByteArray.size_append] at h1
 by_cases e : j < s.size
 ·rw [bt_append_left _ _ j h0 e]
  exact hs j h0 e
 ·have e2 : j = ((s.size : Nat) : Int) + ((j - s.size).toNat : Nat) := by omega
  rw [e2, bt_append_right _ _ _ (by omega)]
  exact ht _ (by omega) (by omega)
theorem allDg_last {v : Nat} (hv : v < 10) : allDg (lastB v) := by
 intro j h0 h1
 rw [lastB_size] at h1
 have : j = 0 := by omega
 subst this
 have h := bt_last (⟨#[]⟩ : ByteArray) v (by omega)
 have e : (⟨#[]⟩ : ByteArray) ++ lastB v = lastB v := toL_eq (by rw [toL_app]; rfl)
 rw [e, if_pos hv] at h
 have e0 : (((⟨#[]⟩ : ByteArray).size : Nat) : Int) = 0 := rfl
 rw [e0] at h
 rw [h]
 unfold isDg
 have a1 : decide ((48 : Int) ≤ 48 + (v : Int)) = true := decide_eq_true (by omega)
 have a2 : decide ((48 : Int) + (v : Int) ≤ 57) = true := decide_eq_true (by omega)
 rw [a1, a2]
 rfl
theorem allDg_drop {s : ByteArray} (a b : Nat) (hb : b ≤ s.size) (h : allDg s) : allDg (s.extract a b) := by
 intro j h0 h1
 have hz : (s.extract a b).size = b - a := by rw [ByteArray.size_extract]; omega
 rw [bt_extract2 s a b hb j h0 (by omega)]
 exact h _ (by omega) (by omega)
theorem compl_wtd {kind : Int} {s : ByteArray} (hk : kind = 1 ∨ kind = 3) (hz : (s.size : Int) = idLen kind - 1) (hd : allDg s) : ∃ t, compl kind s 0 11 = some t := by
 have key := wtd_last s
 generalize wtdFrom (s ++ lastB 0) 0 s.size 0 = S at key
 have hv : ((11 - S % 11) % 11).toNat < 11 := by omega
 have hvi : ((((11 - S % 11) % 11).toNat : Nat) : Int) = (11 - S % 11) % 11 := Int.toNat_of_nonneg (by omega)
 refine compl_some (v := ((11 - S % 11) % 11).toNat) (by omega) (by omega) ?_
 have hsz : (s ++ lastB ((11 - S % 11) % 11).toNat).size = s.size + 1 := by rw [ByteArray.size_append, lastB_size]
 unfold isId
 rw [idForm_last hv (fun _ => by omega) (by omega) (by omega) hz hd, if_neg (by omega), if_neg (by omega), hsz, key _ hv, hvi, Bool.true_and]
 have : (S + (11 - S % 11) % 11) % 11 = 0 := by omega
 rw [this]
 rfl
theorem compl_alt {s : ByteArray} (hz : s.size = 12) (hd : allDg s) (hp : ∀ v, v < 11 → pre978 (s ++ lastB v) = true ∨ pre979 (s ++ lastB v) = true) : ∃ t, compl 2 s 0 11 = some t := by
 have key := alt_last s hz
 generalize altFrom (s ++ lastB 0) 0 12 0 = S at key
 have hv : ((10 - S % 10) % 10).toNat < 11 := by omega
 have hvi : ((((10 - S % 10) % 10).toNat : Nat) : Int) = (10 - S % 10) % 10 := Int.toNat_of_nonneg (by omega)
 refine compl_some (v := ((10 - S % 10) % 10).toNat) (by omega) (by omega) ?_
 have hsz : (s ++ lastB ((10 - S % 10) % 10).toNat).size = 13 := by rw [ByteArray.size_append, lastB_size, hz]
 have hpp : (pre978 (s ++ lastB ((10 - S % 10) % 10).toNat) || pre979 (s ++ lastB ((10 - S % 10) % 10).toNat)) = true := by
  rw [Bool.or_eq_true]
  exact hp _ hv
 have e0 : (S + (10 - S % 10) % 10) % 10 = 0 := by omega
 unfold isId
 rw [idForm_last hv (fun h => by omega) (by decide) (by decide) (by rw [hz]; rfl) hd, if_pos rfl, hpp, hsz, key _ hv, hvi, e0]
 rfl
theorem compl_per {s : ByteArray} (hz : s.size = 15) (hd : allDg s) : ∃ t, compl 4 s 0 11 = some t := by
 have hP : ∀ v, per15 (s ++ lastB v) = per15 (s ++ lastB 0) := fun v => per_last s hz v 0
 have hr : 0 ≤ per15 (s ++ lastB 0) ∧ per15 (s ++ lastB 0) < 11 := by unfold per15; omega
 generalize per15 (s ++ lastB 0) = q at *
 refine compl_some (v := q.toNat) (by omega) (by omega) ?_
 have e1 := idVal_last s q.toNat (by omega)
 have e15 : ((s.size : Nat) : Int) = 15 := by omega
 rw [e15] at e1
 unfold isId
 rw [idForm_last (by omega) (fun _ => by decide) (by decide) (by decide) (by rw [hz]; rfl) hd, if_neg (by decide), if_pos rfl, hP, e1, Int.toNat_of_nonneg hr.1, Bool.true_and]
 exact beq_iff_eq.2 rfl
end Go.Proofs.YtpnjnlcjofaglaaDoor.P
