/- For every string, the law FnExactCompactForm answers true: the program's CompactForm returns what the reference's returns. No conditions beyond the given statement's. -/
import Derived.Test.YtpnjnlcjofaglaaDoorZPx3
import Derived.Test.YtpnjnlcjofaglaaDoorZLCompact
namespace Go.Proofs.YtpnjnlcjofaglaaDoor.Pure
open Go.RowKit Go.Proofs.YtpnjnlcjofaglaaDoorW.PrintWords Go.Proofs.YtpnjnlcjofaglaaDoorW.PrintLast Go.Proofs.YtpnjnlcjofaglaaDoorW.PrintMore Go.Proofs.YtpnjnlcjofaglaaDoor.P
set_option linter.unusedVariables false
set_option linter.unusedSimpArgs false
theorem FnExactCompactForm : laws_FnExactCompactForm.Pure := by
 intro s _
 obtain ⟨K, hK⟩ : ∃ K, 1000 < K := ⟨_, Nat.lt_succ_self _⟩
 refine ⟨K, ?_⟩
 unfold laws_FnExactCompactForm.f
 split
 ·rfl
 ·rw [specCompact s K (by omega), Option.bind_some, implCompact s K (by omega), Option.bind_some]
  generalize compactR s = R
  simp
end Go.Proofs.YtpnjnlcjofaglaaDoor.Pure
