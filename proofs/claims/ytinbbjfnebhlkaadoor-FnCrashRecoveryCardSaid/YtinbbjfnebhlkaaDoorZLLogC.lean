/- Synchronizing a log: what the reference computes, for logs of at most 1048576 bytes. -/
import Derived.Test.YtinbbjfnebhlkaaDoorZPx8
import Derived.Test.YtinbbjfnebhlkaaDoorZLWalks
namespace Go.Proofs.YtinbbjfnebhlkaaDoor.P
open Go.RowKit Go.Proofs.YtinbbjfnebhlkaaDoorW.PrintWords Go.Proofs.YtinbbjfnebhlkaaDoorW.PrintLast Go.Proofs.YtinbbjfnebhlkaaDoorW.PrintMore
set_option linter.unusedVariables false
set_option linter.unusedSimpArgs false
def syncR (D P : ByteArray) (n : Int) : ByteArray × ByteArray × Int × Bool := if isLogB D P n = true then (D ++ P, (⟨#[]⟩ : ByteArray), n, true) else ((⟨#[]⟩ : ByteArray), (⟨#[]⟩ : ByteArray), 0, false)
theorem specSync (D P : ByteArray) (n : Int) (hs : D.size + P.size ≤ 1048576) (k : Nat) (hk : 2 * (D.size + P.size) + 800 < k) : spec_SyncLog.f k D P n = some (syncR D P n) := by
 have hle : D.size + P.size ≤ 9223372036854775807 := Nat.le_trans hs (by decide)
 unfold spec_SyncLog.f syncR
 rw [specLog D P n hs k hk, Option.bind_some, if_pos hle]
 split <;> rfl
end Go.Proofs.YtinbbjfnebhlkaaDoor.P
