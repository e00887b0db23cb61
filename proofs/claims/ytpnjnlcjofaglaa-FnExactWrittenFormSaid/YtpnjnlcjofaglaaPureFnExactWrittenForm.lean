/- For every string, the law FnExactWrittenForm answers true: the program's WrittenForm returns what the reference's returns. No conditions beyond the given statement's. -/
import Derived.Test.YtpnjnlcjofaglaaPx4
import Derived.Test.YtpnjnlcjofaglaaLIdent
namespace Go.Proofs.Ytpnjnlcjofaglaa.Pure
open Go.RowKit Go.Proofs.YtpnjnlcjofaglaaW.PrintWords Go.Proofs.YtpnjnlcjofaglaaW.PrintLast Go.Proofs.YtpnjnlcjofaglaaW.PrintMore Go.Proofs.Ytpnjnlcjofaglaa.P
set_option linter.unusedVariables false
set_option linter.unusedSimpArgs false

theorem FnExactWrittenForm : laws_FnExactWrittenForm.Pure := by
  intro s _
  refine ⟨s.size + 40, ?_⟩
  unfold laws_FnExactWrittenForm.f
  split
  · rfl
  · rename_i h
    have hs : s.size ≤ 1048576 := by omega
    unfold spec_WrittenForm.f impl_WrittenForm.f
    rw [specKind s hs _ (by omega), implKind s hs _ (by omega)]
    simp only [Option.bind_some]
    rcases kindOf_cases s with h0 | ⟨h1, h4, hi⟩
    · simp [h0]
    · obtain ⟨hz, _, _⟩ := idForm_size (isId_form hi)
      have : kindOf s = 1 ∨ kindOf s = 2 ∨ kindOf s = 3 ∨ kindOf s = 4 := by omega
      have c1 : (⟨#[45]⟩ : ByteArray).size = 1 := rfl
      rcases this with e | e | e | e <;> rw [e] at hz ⊢
      · simp
      · simp
      · have hz' : (s.size : Int) = 8 := hz
        have hn : s.size = 8 := by omega
        simp [hn, c1, ByteArray.size_extract]
      · have hz' : (s.size : Int) = 16 := hz
        have hn : s.size = 16 := by omega
        simp [hn, c1, ByteArray.size_extract]

end Go.Proofs.Ytpnjnlcjofaglaa.Pure
