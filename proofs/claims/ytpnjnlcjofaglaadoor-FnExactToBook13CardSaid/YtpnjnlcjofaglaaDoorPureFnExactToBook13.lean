/- For every string, the law FnExactToBook13 answers true: the program's ToBook13 returns what the reference's returns. No conditions beyond the given statement's. -/
import Derived.Test.YtpnjnlcjofaglaaDoorPx3
import Derived.Test.YtpnjnlcjofaglaaDoorPx4
import Derived.Test.YtpnjnlcjofaglaaDoorLBase
import Derived.Test.YtpnjnlcjofaglaaDoorLComplete
import Derived.Test.YtpnjnlcjofaglaaDoorLIdent
namespace Go.Proofs.YtpnjnlcjofaglaaDoor.Pure
open Go.RowKit Go.Proofs.YtpnjnlcjofaglaaDoorW.PrintWords Go.Proofs.YtpnjnlcjofaglaaDoorW.PrintLast Go.Proofs.YtpnjnlcjofaglaaDoorW.PrintMore Go.Proofs.YtpnjnlcjofaglaaDoor.P
set_option linter.unusedVariables false
set_option linter.unusedSimpArgs false

theorem FnExactToBook13 : laws_FnExactToBook13.Pure := by
  intro s _
  refine ⟨s.size + 100, ?_⟩
  unfold laws_FnExactToBook13.f
  split
  · rfl
  · rename_i h
    have hs : s.size ≤ 2097152 := by omega
    unfold spec_ToBook13.f impl_ToBook13.f
    rw [specIs 1 s hs _ (by omega), implIs 1 s hs (by omega) (by omega) _ (by omega)]
    simp only [Option.bind_some]
    cases hi : isId 1 s with
    | false => simp
    | true =>
      have hf := isId_form hi
      obtain ⟨hz, _, _⟩ := idForm_size hf
      have hz' : (s.size : Int) = 10 := hz
      have hn : s.size = 10 := by omega
      have hx : (s.extract 0 9).size = 9 := by rw [ByteArray.size_extract]; omega
      have c3 : (⟨#[57, 55, 56]⟩ : ByteArray).size = 3 := rfl
      have hy : ((⟨#[57, 55, 56]⟩ : ByteArray) ++ s.extract 0 9).size = 12 := by rw [ByteArray.size_append, hx, c3]
      rw [if_pos rfl, if_pos rfl, if_pos (by omega), if_pos (by omega), if_pos (by omega), if_pos (by omega), if_pos (by omega), if_pos (by omega), specComplete 2 _ (by omega) _ (by omega), implComplete 2 _ (by omega) (by omega) (by omega) _ (by omega)]
      obtain ⟨t, ht⟩ := compl_book13 ((⟨#[57, 55, 56]⟩ : ByteArray) ++ s.extract 0 9) hy (fun j h0 h1 => by
          rw [hy] at h1
          by_cases e : j < 3
          · rw [bt_append_left _ _ j h0 (by rw [c3]; omega)]
            have : j = 0 ∨ j = 1 ∨ j = 2 := by omega
            rcases this with rfl | rfl | rfl <;> decide +kernel
          · have e2 : j = (((⟨#[57, 55, 56]⟩ : ByteArray).size : Nat) : Int) + ((j - 3).toNat : Nat) := by rw [c3]; omega
            rw [e2, bt_append_right _ _ _ (by rw [hx]; omega), bt_extract s 9 (by omega) _ (by omega) (by omega)]
            have := idForm_at hf (((j - 3).toNat : Nat) : Int) (by omega) (by omega)
            unfold idAt at this
            simp only [Bool.or_eq_true, Bool.and_eq_true, decide_eq_true_eq] at this
            rcases this with h | ⟨⟨_, h⟩, _⟩
            · exact h
            · omega) (fun v hv => by
          unfold pre978
          rw [Go.ByteArray.toList_eq]
          have : ((⟨#[57, 55, 56]⟩ : ByteArray) ++ s.extract 0 9 ++ lastB v).extract 0 3 = ⟨#[57, 55, 56]⟩ := by
            rw [ByteArray.append_assoc, ByteArray.extract_append, c3]
            simp
            decide +kernel
          rw [this]; rfl)
      rw [ht]
      simp

end Go.Proofs.YtpnjnlcjofaglaaDoor.Pure
