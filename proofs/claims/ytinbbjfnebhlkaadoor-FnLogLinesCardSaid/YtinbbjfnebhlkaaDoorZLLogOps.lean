/- What an appended record does to a log: the log's records, and what is recovered and synchronized. Conditions: those of each lemma. -/
import Derived.Test.YtinbbjfnebhlkaaDoorZPx0
import Derived.Test.YtinbbjfnebhlkaaDoorZLBase
import Derived.Test.YtinbbjfnebhlkaaDoorZLLog
import Derived.Test.YtinbbjfnebhlkaaDoorZLLogA
import Derived.Test.YtinbbjfnebhlkaaDoorZLLogB
import Derived.Test.YtinbbjfnebhlkaaDoorZLLogCat
import Derived.Test.YtinbbjfnebhlkaaDoorZLLogD
import Derived.Test.YtinbbjfnebhlkaaDoorZPx8
import Derived.Test.YtinbbjfnebhlkaaDoorZLWalk
import Derived.Test.YtinbbjfnebhlkaaDoorZLWalks
import Derived.Test.YtinbbjfnebhlkaaDoorZLNum
import Derived.Test.YtinbbjfnebhlkaaDoorZLRec
import Derived.Test.YtinbbjfnebhlkaaDoorZLSeal
namespace Go.Proofs.YtinbbjfnebhlkaaDoor.P
open Go.RowKit Go.Proofs.YtinbbjfnebhlkaaDoorW.PrintWords Go.Proofs.YtinbbjfnebhlkaaDoorW.PrintLast Go.Proofs.YtinbbjfnebhlkaaDoorW.PrintMore
set_option linter.unusedVariables false
set_option linter.unusedSimpArgs false
theorem empty_append (s : ByteArray) : s ++ (⟨#[]⟩ : ByteArray) = s := bytes_eq (by rw [toL_append]; simp)
theorem recR_whole {s : ByteArray} {l : List S27} (hg : goodL l) (hl : l.length ≤ 60) (h : s.data.toList = catL l 0) : recR s = (s, (⟨#[]⟩ : ByteArray), (l.length : Int), ((s.size : Nat) : Int), true) := by
 obtain ⟨_, h2, h3, _⟩ := recs_cat hg hl h
 obtain ⟨b1, _, _⟩ := recsB_facts s
 unfold recR
 rw [if_neg (by omega), h2, h3]
 have : s.extract 0 s.size = s := bytes_eq (by rw [extract_zero_toL, size_data, List.take_length])
 rw [this]
end Go.Proofs.YtinbbjfnebhlkaaDoor.P
