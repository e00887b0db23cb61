/- Recovering a log from a text: what the reference computes, for all texts. -/
import Derived.Test.YtinbbjfnebhlkaaDoorZPx13
import Derived.Test.YtinbbjfnebhlkaaDoorZLLogD
import Derived.Test.YtinbbjfnebhlkaaDoorZLWalk
namespace Go.Proofs.YtinbbjfnebhlkaaDoor.P
open Go.RowKit Go.Proofs.YtinbbjfnebhlkaaDoorW.PrintWords Go.Proofs.YtinbbjfnebhlkaaDoorW.PrintLast Go.Proofs.YtinbbjfnebhlkaaDoorW.PrintMore
set_option linter.unusedVariables false
set_option linter.unusedSimpArgs false
theorem specRecov (s : ByteArray) (k : Nat) (hk : 61000 < k) : spec_RecoverLog.f k s = some (recR s) := by
 unfold spec_RecoverLog.f recR
 by_cases h3 : (s.size : Int) > 30000
 ·rw [if_pos h3, if_pos h3]
 ·obtain ⟨_, f2, _⟩ := recsB_facts s
  rw [if_neg h3, if_neg h3, specOpen s (by omega) _ (by omega)]
  simp only [Option.bind_some, List.length_map]
  repeat rw [if_pos (by omega)]
  rfl
end Go.Proofs.YtinbbjfnebhlkaaDoor.P
