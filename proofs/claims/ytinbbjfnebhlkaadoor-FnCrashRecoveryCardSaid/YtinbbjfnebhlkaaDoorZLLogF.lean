/- The records of a log: what the program computes, for logs of at most 1048576 bytes. -/
import Derived.Test.YtinbbjfnebhlkaaDoorZPx0
import Derived.Test.YtinbbjfnebhlkaaDoorZPx7
import Derived.Test.YtinbbjfnebhlkaaDoorZLWalk
import Derived.Test.YtinbbjfnebhlkaaDoorZLWalks
namespace Go.Proofs.YtinbbjfnebhlkaaDoor.P
open Go.RowKit Go.Proofs.YtinbbjfnebhlkaaDoorW.PrintWords Go.Proofs.YtinbbjfnebhlkaaDoorW.PrintLast Go.Proofs.YtinbbjfnebhlkaaDoorW.PrintMore
set_option linter.unusedVariables false
set_option linter.unusedSimpArgs false
def recsR (D P : ByteArray) (n : Int) : List S27 × Bool := if isLogB D P n = true then ((recsB (D ++ P)).map (fun x => x.1), true) else ([], false)
theorem implRecsR (D P : ByteArray) (n : Int) (hs : D.size + P.size ≤ 1048576) (k : Nat) (hk : 2 * (D.size + P.size) + 800 < k) : impl_LogRecords.f k D P n = some (recsR D P n) := by
 have hz : (D ++ P).size = D.size + P.size := ByteArray.size_append
 unfold impl_LogRecords.f recsR
 rw [implLog D P n hs k hk]
 simp only [Option.bind_some]
 cases hl : isLogB D P n with
 | false => rfl
 | true =>
  rw [if_pos rfl, if_pos (by omega), implRecords (D ++ P) (by omega) k (by omega)]
  rfl
end Go.Proofs.YtinbbjfnebhlkaaDoor.P
