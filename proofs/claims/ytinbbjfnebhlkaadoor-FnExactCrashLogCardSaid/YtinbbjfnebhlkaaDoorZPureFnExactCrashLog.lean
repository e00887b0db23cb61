/- For every log, number and mark, the law FnExactCrashLog answers true: the program's CrashLog returns what the reference's returns. No conditions beyond the given statement's. -/
import Derived.Test.YtinbbjfnebhlkaaDoorZPx2
import Derived.Test.YtinbbjfnebhlkaaDoorZPx7
import Derived.Test.YtinbbjfnebhlkaaDoorZLLogCrash
import Derived.Test.YtinbbjfnebhlkaaDoorZLSzLog
namespace Go.Proofs.YtinbbjfnebhlkaaDoor.Pure
open Go.RowKit Go.Proofs.YtinbbjfnebhlkaaDoorW.PrintWords Go.Proofs.YtinbbjfnebhlkaaDoorW.PrintLast Go.Proofs.YtinbbjfnebhlkaaDoorW.PrintMore Go.Proofs.YtinbbjfnebhlkaaDoor.P
set_option linter.unusedVariables false
set_option linter.unusedSimpArgs false
theorem FnExactCrashLog : laws_FnExactCrashLog.Pure := by
 intro a n b hB _
 obtain ⟨hD, hP, _⟩ := hB
 obtain ⟨K, hK⟩ : ∃ K, 2 * (a.f0.size + a.f1.size) + 1000 < K := ⟨_, Nat.lt_succ_self _⟩
 refine ⟨K, ?_⟩
 obtain ⟨t, ht, hsz⟩ := szLog a.f0 a.f1 a.f2 hD hP
 unfold laws_FnExactCrashLog.f
 rw [ht, Option.bind_some]
 by_cases hneg : t < 0
 ·rw [if_pos hneg]
 ·have hs := hsz hneg
  obtain ⟨eS, eI⟩ := crashBoth a.f0 a.f1 a.f2 n b hs K (by omega)
  have hT : laws_toLog.f a.f0 a.f1 a.f2 = some (a.f0, a.f1, a.f2) := rfl
  rw [if_neg hneg, hT, Option.bind_some, eS, Option.bind_some, Option.bind_some, eI, Option.bind_some, if_pos rfl]
  have hn : ¬ (((crashR a.f0 a.f1 a.f2 n b).2 != (crashR a.f0 a.f1 a.f2 n b).2) = true) := by simp
  rw [if_neg hn]
end Go.Proofs.YtinbbjfnebhlkaaDoor.Pure
