/- For every string, the law FnExactCheckIdentifier answers true: the program's CheckIdentifier returns what the reference's returns. No conditions beyond the given statement's. -/
import Derived.Test.YtpnjnlcjofaglaaPx2
import Derived.Test.YtpnjnlcjofaglaaPx3
import Derived.Test.YtpnjnlcjofaglaaLIdent
namespace Go.Proofs.Ytpnjnlcjofaglaa.Pure
open Go.RowKit Go.Proofs.YtpnjnlcjofaglaaW.PrintWords Go.Proofs.YtpnjnlcjofaglaaW.PrintLast Go.Proofs.YtpnjnlcjofaglaaW.PrintMore Go.Proofs.Ytpnjnlcjofaglaa.P
set_option linter.unusedVariables false
set_option linter.unusedSimpArgs false

theorem FnExactCheckIdentifier : laws_FnExactCheckIdentifier.Pure := by
  intro s _
  refine ⟨s.size + 40, ?_⟩
  unfold laws_FnExactCheckIdentifier.f
  split
  · rfl
  · rename_i h
    have hs : s.size ≤ 1048576 := by omega
    unfold spec_CheckIdentifier.f impl_CheckIdentifier.f
    rw [specKind s hs _ (by omega), implKind s hs _ (by omega)]
    simp

end Go.Proofs.Ytpnjnlcjofaglaa.Pure
