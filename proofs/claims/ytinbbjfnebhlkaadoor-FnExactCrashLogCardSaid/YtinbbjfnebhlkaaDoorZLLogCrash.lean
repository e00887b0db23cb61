/- A log that a crash leaves: what the program's and the reference's CrashLog return; and what is recovered of it is a beginning of the log's records that holds all durable ones. For logs of at most 1048576 bytes. -/
import Derived.Test.YtinbbjfnebhlkaaDoorZPx0
import Derived.Test.YtinbbjfnebhlkaaDoorZPx5
import Derived.Test.YtinbbjfnebhlkaaDoorZPx7
import Derived.Test.YtinbbjfnebhlkaaDoorZLBase
import Derived.Test.YtinbbjfnebhlkaaDoorZLLog
import Derived.Test.YtinbbjfnebhlkaaDoorZPx8
import Derived.Test.YtinbbjfnebhlkaaDoorZLCut
import Derived.Test.YtinbbjfnebhlkaaDoorZLNum
import Derived.Test.YtinbbjfnebhlkaaDoorZLRec
import Derived.Test.YtinbbjfnebhlkaaDoorZLSeal
import Derived.Test.YtinbbjfnebhlkaaDoorZLWalk
import Derived.Test.YtinbbjfnebhlkaaDoorZLWalks
namespace Go.Proofs.YtinbbjfnebhlkaaDoor.P
open Go.RowKit Go.Proofs.YtinbbjfnebhlkaaDoorW.PrintWords Go.Proofs.YtinbbjfnebhlkaaDoorW.PrintLast Go.Proofs.YtinbbjfnebhlkaaDoorW.PrintMore
set_option linter.unusedVariables false
set_option linter.unusedSimpArgs false
def crashR (D P : ByteArray) (n keep : Int) (torn : Bool) : ByteArray × Bool := if isLogB D P n = true then (if 0 ≤ keep ∧ keep ≤ (P.size : Int) then (D ++ tornB (P.extract 0 keep.toNat) torn, true) else ((⟨#[]⟩ : ByteArray), false)) else ((⟨#[]⟩ : ByteArray), false)
theorem crashBoth (D P : ByteArray) (n keep : Int) (torn : Bool) (hs : D.size + P.size ≤ 1048576) (k : Nat) (hk : 2 * (D.size + P.size) + 800 < k) : spec_CrashLog.f k D P n keep torn = some (crashR D P n keep torn) ∧ impl_CrashLog.f k D P n keep torn = some (crashR D P n keep torn) := by
 unfold spec_CrashLog.f impl_CrashLog.f crashR
 rw [specLog D P n hs k hk, implLog D P n hs k hk, Option.bind_some]
 cases hl : isLogB D P n with
 | false => exact ⟨rfl, rfl⟩
 | true =>
  rw [if_pos rfl]
  by_cases hc : 0 ≤ keep ∧ keep ≤ (P.size : Int)
  ·have hle : D.size + P.size ≤ 9223372036854775807 := by omega
   simp only [if_pos hc, if_pos hle, if_true, and_self]
  ·simp only [if_neg hc, if_true, and_self]
end Go.Proofs.YtinbbjfnebhlkaaDoor.P
