/- The records of a log: what the reference computes, for logs of at most 1048576 bytes. -/
import Derived.Test.YtinbbjfnebhlkaaDoorZPx7
import Derived.Test.YtinbbjfnebhlkaaDoorZLLogF
import Derived.Test.YtinbbjfnebhlkaaDoorZLWalk
import Derived.Test.YtinbbjfnebhlkaaDoorZLWalks
namespace Go.Proofs.YtinbbjfnebhlkaaDoor.P
open Go.RowKit Go.Proofs.YtinbbjfnebhlkaaDoorW.PrintWords Go.Proofs.YtinbbjfnebhlkaaDoorW.PrintLast Go.Proofs.YtinbbjfnebhlkaaDoorW.PrintMore
set_option linter.unusedVariables false
set_option linter.unusedSimpArgs false
theorem specRecsR (D P : ByteArray) (n : Int) (hs : D.size + P.size ≤ 1048576) (k : Nat) (hk : 2 * (D.size + P.size) + 800 < k) : spec_LogRecords.f k D P n = some (recsR D P n) := by
 have hz : (D ++ P).size = D.size + P.size := ByteArray.size_append
 obtain ⟨b1, _, _⟩ := recsB_facts (D ++ P)
 unfold spec_LogRecords.f recsR
 rw [specLog D P n hs k hk]
 simp only [Option.bind_some]
 cases hl : isLogB D P n with
 | false => rfl
 | true =>
  have : endB (recsB (D ++ P)) 0 = D.size + P.size := by
   unfold isLogB at hl
   simp only [Bool.and_eq_true, decide_eq_true_eq] at hl
   exact hl.1.1
  rw [if_pos rfl, if_pos (by omega), specOpen (D ++ P) (by omega) k (by omega)]
  rfl
end Go.Proofs.YtinbbjfnebhlkaaDoor.P
