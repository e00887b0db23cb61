/- For every string, the law FnExactToBook10 answers true: the program's ToBook10 returns what the reference's returns. No conditions beyond the given statement's. -/
import Derived.Test.YtpnjnlcjofaglaaDoorPx2
import Derived.Test.YtpnjnlcjofaglaaDoorPx3
import Derived.Test.YtpnjnlcjofaglaaDoorLComplete
import Derived.Test.YtpnjnlcjofaglaaDoorLIdent
namespace Go.Proofs.YtpnjnlcjofaglaaDoor.Pure
open Go.RowKit Go.Proofs.YtpnjnlcjofaglaaDoorW.PrintWords Go.Proofs.YtpnjnlcjofaglaaDoorW.PrintLast Go.Proofs.YtpnjnlcjofaglaaDoorW.PrintMore Go.Proofs.YtpnjnlcjofaglaaDoor.P
set_option linter.unusedVariables false
set_option linter.unusedSimpArgs false

theorem FnExactToBook10 : laws_FnExactToBook10.Pure := by
  intro s _
  refine ⟨s.size + 100, ?_⟩
  unfold laws_FnExactToBook10.f
  split
  · rfl
  · rename_i h
    have hs : s.size ≤ 2097152 := by omega
    unfold spec_ToBook10.f impl_ToBook10.f
    rw [specIs 2 s hs _ (by omega), implIs 2 s hs (by omega) (by omega) _ (by omega)]
    simp only [Option.bind_some]
    cases hi : isId 2 s with
    | false => simp
    | true =>
      have hf := isId_form hi
      obtain ⟨hz, _, _⟩ := idForm_size hf
      have hz' : (s.size : Int) = 13 := hz
      have hn : s.size = 13 := by omega
      have hp : strings_HasPrefix.f s (⟨#[57, 55, 56]⟩ : ByteArray) = some (pre978 s) := by
        have c3 : (((⟨#[57, 55, 56]⟩ : ByteArray).size : Int)) = 3 := rfl
        have b3 : (⟨#[57, 55, 56]⟩ : ByteArray).toList = [57, 55, 56] := by decide +kernel
        unfold strings_HasPrefix.f stringslite_HasPrefix.f pre978
        rw [c3, b3, if_pos (by omega), if_pos (by omega), if_pos (by omega)]
        rfl
      rw [if_pos rfl, if_pos rfl, if_pos (by omega), if_pos (by omega), hp]
      simp only [Option.bind_some]
      by_cases e : (s.extract 0 3).toList = ([57, 55, 56] : List UInt8)
      · have e' : pre978 s = true := beq_iff_eq.mpr e
        have hx : (s.extract 3 12).size = 9 := by rw [ByteArray.size_extract]; omega
        rw [if_pos e, e', if_pos rfl, if_pos (by omega), if_pos (by omega), if_pos (by omega), if_pos (by omega), specComplete 1 _ (by omega) _ (by omega), implComplete 1 _ (by omega) (by omega) (by omega) _ (by omega)]
        obtain ⟨t, ht⟩ := compl_book10 (s.extract 3 12) hx (fun j h0 h1 => by
          rw [hx] at h1
          rw [bt_extract2 s 3 12 (by omega) j h0 (by omega)]
          have := idForm_at hf (((3 : Nat) : Int) + j) (by omega) (by omega)
          unfold idAt at this
          simpa using this)
        rw [ht]
        simp
      · have e' : pre978 s = false := beq_eq_false_iff_ne.mpr e
        rw [if_neg e, e']
        simp

end Go.Proofs.YtpnjnlcjofaglaaDoor.Pure
