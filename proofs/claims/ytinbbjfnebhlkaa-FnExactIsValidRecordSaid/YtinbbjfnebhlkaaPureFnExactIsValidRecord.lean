/- For every record, the law FnExactIsValidRecord answers true: the program's IsValidRecord returns what the reference's returns. No conditions beyond the given statement's. -/
import Derived.Test.YtinbbjfnebhlkaaPx1
import Derived.Test.YtinbbjfnebhlkaaLRec
namespace Go.Proofs.Ytinbbjfnebhlkaa.Pure
open Go.RowKit Go.Proofs.YtinbbjfnebhlkaaW.PrintWords Go.Proofs.YtinbbjfnebhlkaaW.PrintLast Go.Proofs.YtinbbjfnebhlkaaW.PrintMore Go.Proofs.Ytinbbjfnebhlkaa.P
set_option linter.unusedVariables false
set_option linter.unusedSimpArgs false

theorem FnExactIsValidRecord : laws_FnExactIsValidRecord.Pure := by
  intro a hB
  refine ⟨a.f0.size + a.f1.size + 10, ?_⟩
  obtain ⟨h0, h1⟩ := hB
  unfold laws_FnExactIsValidRecord.f laws_toLogRecord.f laws_szLogRecord.f spec_IsValidRecord.f
  simp only [Option.bind_some]
  rw [specGood a.f0 a.f1 h0 h1 _ (by omega) (by omega), implGood a.f0 a.f1 h0 h1 _ (by omega) (by omega)]
  split
  · simp
  · split
    · simp
    · simp

end Go.Proofs.Ytinbbjfnebhlkaa.Pure
