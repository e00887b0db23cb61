/- For every log, the law FnExactIsValidLog answers true: the program's IsValidLog returns what the reference's returns. No conditions beyond the given statement's. -/
import Derived.Test.YtinbbjfnebhlkaaDoorPx5
import Derived.Test.YtinbbjfnebhlkaaDoorPx6
import Derived.Test.YtinbbjfnebhlkaaDoorLWalks
namespace Go.Proofs.YtinbbjfnebhlkaaDoor.Pure
open Go.RowKit Go.Proofs.YtinbbjfnebhlkaaDoorW.PrintWords Go.Proofs.YtinbbjfnebhlkaaDoorW.PrintLast Go.Proofs.YtinbbjfnebhlkaaDoorW.PrintMore Go.Proofs.YtinbbjfnebhlkaaDoor.P
set_option linter.unusedVariables false
set_option linter.unusedSimpArgs false

theorem FnExactIsValidLog : laws_FnExactIsValidLog.Pure := by
  intro a hB
  obtain ⟨hD, hP, _⟩ := hB
  obtain ⟨K, hK⟩ : ∃ K, 2 * (a.f0.size + a.f1.size) + 800 < K := ⟨_, Nat.lt_succ_self _⟩
  refine ⟨K, ?_⟩
  obtain ⟨t, ht, hsz⟩ := szLog a.f0 a.f1 a.f2 hD hP
  unfold laws_FnExactIsValidLog.f
  rw [ht]
  simp only [Option.bind_some]
  by_cases hneg : t < 0
  · rw [if_pos hneg]
  · have hs := hsz hneg
    rw [if_neg hneg]
    have eS : spec_IsValidLog.f K a.f0 a.f1 a.f2 = some (isLogB a.f0 a.f1 a.f2) := by
      unfold spec_IsValidLog.f
      rw [specLog a.f0 a.f1 a.f2 hs K hK]
      rfl
    have eI := implLog a.f0 a.f1 a.f2 hs K hK
    have hb : (isLogB a.f0 a.f1 a.f2 != isLogB a.f0 a.f1 a.f2) = false := bne_eq_false_iff_eq.2 rfl
    rw [show laws_toLog.f a.f0 a.f1 a.f2 = some (a.f0, a.f1, a.f2) from rfl, Option.bind_some, eS, Option.bind_some, Option.bind_some, eI, Option.bind_some, hb, if_neg (by simp)]

end Go.Proofs.YtinbbjfnebhlkaaDoor.Pure
