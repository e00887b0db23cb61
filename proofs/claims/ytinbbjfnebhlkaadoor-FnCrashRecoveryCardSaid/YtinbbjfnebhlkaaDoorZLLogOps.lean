/- What an appended record does to a log: the log's records, and what is recovered and synchronized. Conditions: those of each lemma. -/
import Derived.Test.YtinbbjfnebhlkaaDoorZPx0
import Derived.Test.YtinbbjfnebhlkaaDoorZLBase
import Derived.Test.YtinbbjfnebhlkaaDoorZLLog
import Derived.Test.YtinbbjfnebhlkaaDoorZLLogA
import Derived.Test.YtinbbjfnebhlkaaDoorZLLogC
import Derived.Test.YtinbbjfnebhlkaaDoorZLLogCat
import Derived.Test.YtinbbjfnebhlkaaDoorZLLogD
import Derived.Test.YtinbbjfnebhlkaaDoorZLLogF
import Derived.Test.YtinbbjfnebhlkaaDoorZLNum
import Derived.Test.YtinbbjfnebhlkaaDoorZLRec
import Derived.Test.YtinbbjfnebhlkaaDoorZLSeal
import Derived.Test.YtinbbjfnebhlkaaDoorZLWalk
import Derived.Test.YtinbbjfnebhlkaaDoorZLWalks
namespace Go.Proofs.YtinbbjfnebhlkaaDoor.P
open Go.RowKit Go.Proofs.YtinbbjfnebhlkaaDoorW.PrintWords Go.Proofs.YtinbbjfnebhlkaaDoorW.PrintLast Go.Proofs.YtinbbjfnebhlkaaDoorW.PrintMore
set_option linter.unusedVariables false
set_option linter.unusedSimpArgs false
theorem empty_append (s : ByteArray) : s ++ (⟨#[]⟩ : ByteArray) = s := bytes_eq (by rw [toL_append]; simp)
end Go.Proofs.YtinbbjfnebhlkaaDoor.P
