/- For every text, the law FnExactRecoverLog answers true: the program's RecoverLog returns what the reference's returns. No conditions beyond the given statement's. -/
import Derived.Test.YtinbbjfnebhlkaaDoorPx6
import Derived.Test.YtinbbjfnebhlkaaDoorLWalk
namespace Go.Proofs.YtinbbjfnebhlkaaDoor.Pure
open Go.RowKit Go.Proofs.YtinbbjfnebhlkaaDoorW.PrintWords Go.Proofs.YtinbbjfnebhlkaaDoorW.PrintLast Go.Proofs.YtinbbjfnebhlkaaDoorW.PrintMore Go.Proofs.YtinbbjfnebhlkaaDoor.P
set_option linter.unusedVariables false
set_option linter.unusedSimpArgs false

theorem FnExactRecoverLog : laws_FnExactRecoverLog.Pure := by
  intro s _
  refine ⟨2 * s.size + 1000, ?_⟩
  unfold laws_FnExactRecoverLog.f
  by_cases hbig : (s.size : Int) > 1048576
  · rw [if_pos hbig]
  · rw [if_neg hbig]
    unfold spec_RecoverLog.f impl_RecoverLog.f
    by_cases h3 : (s.size : Int) > 30000
    · rw [if_pos h3, if_pos h3]
      simp only [Option.bind_some]
      unfold laws_eqLog.f
      simp
    · obtain ⟨_, f2, _⟩ := recsB_facts s
      rw [if_neg h3, if_neg h3, specOpen s (by omega) _ (by omega), implRecords s (by omega) _ (by omega)]
      simp only [Option.bind_some, List.length_map, List.length_cons]
      have hr := rd_end (recsB s) 0
      have e0 : (((0 : Nat) : Int)) = 0 := rfl
      rw [e0] at hr
      rw [hr]
      repeat rw [if_pos (by omega)]
      simp only [Option.bind_some]
      unfold laws_eqLog.f
      simp

end Go.Proofs.YtinbbjfnebhlkaaDoor.Pure
