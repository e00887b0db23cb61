/- What the program's and the reference's ToBook13 and ToBook10 return, and that each undoes the other; for strings of at most 2097000 bytes. -/
import Derived.Test.YtpnjnlcjofaglaaDoorZPx2
import Derived.Test.YtpnjnlcjofaglaaDoorZPx3
import Derived.Test.YtpnjnlcjofaglaaDoorZLBase
import Derived.Test.YtpnjnlcjofaglaaDoorZLComplete
import Derived.Test.YtpnjnlcjofaglaaDoorZLIdent
import Derived.Test.YtpnjnlcjofaglaaDoorZLUniq
namespace Go.Proofs.YtpnjnlcjofaglaaDoor.P
open Go.RowKit Go.Proofs.YtpnjnlcjofaglaaDoorW.PrintWords Go.Proofs.YtpnjnlcjofaglaaDoorW.PrintLast Go.Proofs.YtpnjnlcjofaglaaDoorW.PrintMore
set_option linter.unusedVariables false
set_option linter.unusedSimpArgs false
theorem to13 (s : ByteArray) (hs : s.size ≤ 2097000) : ∃ t ok, (∀ k, s.size + 100 < k → impl_ToBook13.f k s = some (t, ok) ∧ spec_ToBook13.f k s = some (t, ok)) ∧ t.size ≤ 13 ∧
  (ok = true → isId 1 s = true ∧ compl 2 ((⟨#[57, 55, 56]⟩ : ByteArray) ++ s.extract 0 9) 0 11 = some t) ∧ (isId 1 s = true → ok = true) := by
 cases hi : isId 1 s with
 | false =>
  refine ⟨(⟨#[]⟩ : ByteArray), false, fun k hk => ?_, Nat.zero_le _, (fun h => by cases h), (fun h => by cases h)⟩
  unfold spec_ToBook13.f impl_ToBook13.f
  rw [specIs 1 s (by omega) k (by omega), implIs 1 s (by omega) (by omega) (by omega) k (by omega), hi]
  simp
 | true =>
  have hf := isId_form hi
  obtain ⟨hz, _, _⟩ := idForm_size hf
  have hz' : (s.size : Int) = 10 := hz
  have hn : s.size = 10 := by omega
  have hx : (s.extract 0 9).size = 9 := by rw [ByteArray.size_extract]; omega
  have c3 : (⟨#[57, 55, 56]⟩ : ByteArray).size = 3 := rfl
  have hy : ((⟨#[57, 55, 56]⟩ : ByteArray) ++ s.extract 0 9).size = 12 := by rw [ByteArray.size_append, hx, c3]
  obtain ⟨t, ht⟩ := compl_book13 ((⟨#[57, 55, 56]⟩ : ByteArray) ++ s.extract 0 9) hy (fun j h0 h1 => by
    rw [hy] at h1
    by_cases e : j < 3
    ·rw [bt_append_left _ _ j h0 (by rw [c3]; omega)]
     have : j = 0 ∨ j = 1 ∨ j = 2 := by omega
     rcases this with rfl | rfl | rfl <;> decide +kernel
    ·have e2 : j = (((⟨#[57, 55, 56]⟩ : ByteArray).size : Nat) : Int) + ((j - 3).toNat : Nat) := by rw [c3]; omega
     rw [e2, bt_append_right _ _ _ (by rw [hx]; omega), bt_extract s 9 (by omega) _ (by omega) (by omega)]
     have := idForm_at hf (((j - 3).toNat : Nat) : Int) (by omega) (by omega)
     unfold idAt at this
     simp only [Bool.or_eq_true, Bool.and_eq_true, decide_eq_true_eq] at this
     rcases this with h | ⟨⟨_, h⟩, _⟩
     ·exact h
     ·omega) (fun v hv => by
    unfold pre978
    rw [Go.ByteArray.toList_eq]
    have : ((⟨#[57, 55, 56]⟩ : ByteArray) ++ s.extract 0 9 ++ lastB v).extract 0 3 = ⟨#[57, 55, 56]⟩ := by
     rw [ByteArray.append_assoc, ByteArray.extract_append, c3]
     simp
     decide +kernel
    rw [this]; rfl)
  obtain ⟨_, _, tz⟩ := compl_ext ht
  refine ⟨t, true, fun k hk => ?_, by omega, fun _ => ⟨rfl, ht⟩, fun _ => rfl⟩
  unfold spec_ToBook13.f impl_ToBook13.f
  rw [specIs 1 s (by omega) k (by omega), implIs 1 s (by omega) (by omega) (by omega) k (by omega), hi]
  rw [Option.bind_some, Option.bind_some, if_pos rfl, if_pos rfl, if_pos (by omega), if_pos (by omega), if_pos (by omega), if_pos (by omega), if_pos (by omega), if_pos (by omega), specComplete 2 _ (by omega) _ (by omega), implComplete 2 _ (by omega) (by omega) (by omega) _ (by omega), ht]
  simp
theorem to10 (s : ByteArray) (hs : s.size ≤ 2097000) : ∃ t ok, (∀ k, s.size + 100 < k → impl_ToBook10.f k s = some (t, ok) ∧ spec_ToBook10.f k s = some (t, ok)) ∧ t.size ≤ 13 ∧
  (ok = true → isId 2 s = true ∧ pre978 s = true ∧ compl 1 (s.extract 3 12) 0 11 = some t) ∧ (isId 2 s = true → pre978 s = true → ok = true) := by
 cases hi : isId 2 s with
 | false =>
  refine ⟨(⟨#[]⟩ : ByteArray), false, fun k hk => ?_, Nat.zero_le _, (fun h => by cases h), (fun h => by cases h)⟩
  unfold spec_ToBook10.f impl_ToBook10.f
  rw [specIs 2 s (by omega) k (by omega), implIs 2 s (by omega) (by omega) (by omega) k (by omega), hi]
  simp
 | true =>
  have hf := isId_form hi
  obtain ⟨hz, _, _⟩ := idForm_size hf
  have hz' : (s.size : Int) = 13 := hz
  have hn : s.size = 13 := by omega
  have hp : strings_HasPrefix.f s (⟨#[57, 55, 56]⟩ : ByteArray) = some (pre978 s) := by
   have c3 : (((⟨#[57, 55, 56]⟩ : ByteArray).size : Int)) = 3 := rfl
   have b3 : (⟨#[57, 55, 56]⟩ : ByteArray).toList = [57, 55, 56] := by decide +kernel
   unfold strings_HasPrefix.f stringslite_HasPrefix.f pre978
   rw [c3, b3, if_pos (by omega), if_pos (by omega), if_pos (by omega)]
   rfl
  by_cases e : (s.extract 0 3).toList = ([57, 55, 56] : List UInt8)
  ·have e' : pre978 s = true := beq_iff_eq.mpr e
   have hx : (s.extract 3 12).size = 9 := by rw [ByteArray.size_extract]; omega
   obtain ⟨t, ht⟩ := compl_book10 (s.extract 3 12) hx (fun j h0 h1 => by
    rw [hx] at h1
    rw [bt_extract2 s 3 12 (by omega) j h0 (by omega)]
    have := idForm_at hf (((3 : Nat) : Int) + j) (by omega) (by omega)
    unfold idAt at this
    simpa using this)
   obtain ⟨_, _, tz⟩ := compl_ext ht
   refine ⟨t, true, fun k hk => ?_, by omega, fun _ => ⟨rfl, e', ht⟩, fun _ _ => rfl⟩
   unfold spec_ToBook10.f impl_ToBook10.f
   rw [specIs 2 s (by omega) k (by omega), implIs 2 s (by omega) (by omega) (by omega) k (by omega), hi]
   rw [Option.bind_some, Option.bind_some, if_pos rfl, if_pos rfl, if_pos (by omega), if_pos (by omega), hp]
   rw [Option.bind_some]
   rw [if_pos e, e', if_pos rfl, if_pos (by omega), if_pos (by omega), if_pos (by omega), if_pos (by omega), specComplete 1 _ (by omega) _ (by omega), implComplete 1 _ (by omega) (by omega) (by omega) _ (by omega), ht]
   simp
  ·have e' : pre978 s = false := beq_eq_false_iff_ne.mpr e
   refine ⟨(⟨#[]⟩ : ByteArray), false, fun k hk => ?_, Nat.zero_le _, (fun h => by cases h), (fun _ h => by rw [e'] at h; cases h)⟩
   unfold spec_ToBook10.f impl_ToBook10.f
   rw [specIs 2 s (by omega) k (by omega), implIs 2 s (by omega) (by omega) (by omega) k (by omega), hi]
   rw [Option.bind_some, Option.bind_some, if_pos rfl, if_pos rfl, if_pos (by omega), if_pos (by omega), hp]
   rw [Option.bind_some]
   rw [if_neg e, e']
   simp
   try omega
theorem toL_ext (s : ByteArray) (a b : Nat) : (s.extract a b).data.toList = (s.data.toList.take b).drop a := by
 rw [Lib.extract_data]
 rw [List.drop_take]
theorem pre978_toL {s : ByteArray} (h : pre978 s = true) : s.data.toList.take 3 = [57, 55, 56] := by
 unfold pre978 at h
 rw [Go.ByteArray.toList_eq, beq_iff_eq, toL_ext0] at h
 exact h
theorem back13 {s t : ByteArray} (h1 : isId 1 s = true) (h : compl 2 ((⟨#[57, 55, 56]⟩ : ByteArray) ++ s.extract 0 9) 0 11 = some t) : isId 2 t = true ∧ pre978 t = true ∧ compl 1 (t.extract 3 12) 0 11 = some s := by
 obtain ⟨hz, _, _⟩ := idForm_size (isId_form h1)
 have hz' : (s.size : Int) = 10 := hz
 have hn : s.size = 10 := by omega
 have hx : (s.extract 0 9).size = 9 := by rw [ByteArray.size_extract]; omega
 have c3 : (⟨#[57, 55, 56]⟩ : ByteArray).size = 3 := rfl
 have hy : ((⟨#[57, 55, 56]⟩ : ByteArray) ++ s.extract 0 9).size = 12 := by rw [ByteArray.size_append, hx, c3]
 obtain ⟨g1, g2, g3⟩ := compl_ext h
 rw [hy] at g2
 have hL : t.data.toList.take 12 = [57, 55, 56] ++ (s.data.toList.take 9) := by
  have := congrArg (fun x : ByteArray => x.data.toList) g2
  simp only [toL_ext0, toL_app] at this
  exact this
 refine ⟨g1, ?_, ?_⟩
 ·unfold pre978
  rw [Go.ByteArray.toList_eq, beq_iff_eq, toL_ext0]
  have := congrArg (List.take 3) hL
  rw [List.take_take] at this
  simpa using this
 ·have e : t.extract 3 12 = s.extract 0 9 := by
   apply toL_eq
   rw [toL_ext, hL, toL_ext0]
   rfl
  rw [e]
  have := compl_self h1
  rw [hn] at this
  exact this
theorem back10 {s t : ByteArray} (h1 : isId 2 s = true) (hp : pre978 s = true) (h : compl 1 (s.extract 3 12) 0 11 = some t) : isId 1 t = true ∧ compl 2 ((⟨#[57, 55, 56]⟩ : ByteArray) ++ t.extract 0 9) 0 11 = some s := by
 obtain ⟨hz, _, _⟩ := idForm_size (isId_form h1)
 have hz' : (s.size : Int) = 13 := hz
 have hn : s.size = 13 := by omega
 have hx : (s.extract 3 12).size = 9 := by rw [ByteArray.size_extract]; omega
 obtain ⟨g1, g2, g3⟩ := compl_ext h
 rw [hx] at g2
 refine ⟨g1, ?_⟩
 have e : (⟨#[57, 55, 56]⟩ : ByteArray) ++ t.extract 0 9 = s.extract 0 (s.size - 1) := by
  apply toL_eq
  rw [g2, toL_app, toL_ext, toL_ext0, hn]
  show [57, 55, 56] ++ (s.data.toList.take 12).drop 3 = s.data.toList.take 12
  rw [← pre978_toL hp]
  have : s.data.toList.take 3 = (s.data.toList.take 12).take 3 := by rw [List.take_take]; rfl
  rw [this, List.take_append_drop]
 rw [e]
 exact compl_self h1
end Go.Proofs.YtpnjnlcjofaglaaDoor.P
