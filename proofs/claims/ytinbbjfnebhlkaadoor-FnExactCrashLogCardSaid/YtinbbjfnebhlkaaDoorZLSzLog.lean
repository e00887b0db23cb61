/- How large a log is: what the statements' size tests answer, for the lengths that strings can have. -/
import Derived.Test.YtinbbjfnebhlkaaDoorZPx2
import Derived.Test.YtinbbjfnebhlkaaDoorZLBase
namespace Go.Proofs.YtinbbjfnebhlkaaDoor.P
open Go.RowKit Go.Proofs.YtinbbjfnebhlkaaDoorW.PrintWords Go.Proofs.YtinbbjfnebhlkaaDoorW.PrintLast Go.Proofs.YtinbbjfnebhlkaaDoorW.PrintMore
set_option linter.unusedVariables false
set_option linter.unusedSimpArgs false
theorem szLog (D P : ByteArray) (c : Int) (hD : D.size ≤ 140737488351232) (hP : P.size ≤ 140737488351232) : ∃ t, laws_szLog.f D P c 1048576 = some t ∧ (¬ t < 0 → D.size + P.size ≤ 1048576) := by
 unfold laws_szLog.f
 rw [w64 (x := 1048576 - (D.size : Int)) (by omega) (by omega)]
 split
 ·exact ⟨_, rfl, fun h => absurd (by omega) h⟩
 ·rw [w64 (by omega) (by omega)]
  split
  ·exact ⟨_, rfl, fun h => absurd (by omega) h⟩
  ·exact ⟨_, rfl, fun _ => by omega⟩
end Go.Proofs.YtinbbjfnebhlkaaDoor.P
