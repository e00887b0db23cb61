/- Recovering a log from a text: what the program computes, for all texts. -/
import Derived.Test.YtinbbjfnebhlkaaDoorZPx7
import Derived.Test.YtinbbjfnebhlkaaDoorZLWalk
namespace Go.Proofs.YtinbbjfnebhlkaaDoor.P
open Go.RowKit Go.Proofs.YtinbbjfnebhlkaaDoorW.PrintWords Go.Proofs.YtinbbjfnebhlkaaDoorW.PrintLast Go.Proofs.YtinbbjfnebhlkaaDoorW.PrintMore
set_option linter.unusedVariables false
set_option linter.unusedSimpArgs false
def recR (s : ByteArray) : ByteArray × ByteArray × Int × Int × Bool := if (s.size : Int) > 30000 then ((⟨#[]⟩ : ByteArray), (⟨#[]⟩ : ByteArray), 0, 0, false) else (s.extract 0 (endB (recsB s) 0), (⟨#[]⟩ : ByteArray), ((recsB s).length : Int), ((endB (recsB s) 0 : Nat) : Int), true)
theorem implRecov (s : ByteArray) (k : Nat) (hk : 61000 < k) : impl_RecoverLog.f k s = some (recR s) := by
 unfold impl_RecoverLog.f recR
 by_cases h3 : (s.size : Int) > 30000
 ·rw [if_pos h3, if_pos h3]
 ·obtain ⟨_, f2, _⟩ := recsB_facts s
  have hr := rd_end (recsB s) 0
  have e0 : (((0 : Nat) : Int)) = 0 := rfl
  rw [e0] at hr
  rw [if_neg h3, if_neg h3, implRecords s (by omega) _ (by omega)]
  simp only [Option.bind_some, List.length_map, List.length_cons]
  rw [hr]
  repeat rw [if_pos (by omega)]
  rfl
end Go.Proofs.YtinbbjfnebhlkaaDoor.P
