/- For every text, the law FnExactReadRow answers true: the program's ReadRow returns what the reference's returns, and what it returns belongs to the caller alone. No conditions beyond the given statement's. -/
import Derived.Test.YtbinfdheapjpnaaDoorZPx6
import Derived.Test.YtbinfdheapjpnaaDoorZLEqStrs
import Derived.Test.YtbinfdheapjpnaaDoorZLMtBig
import Derived.Test.YtbinfdheapjpnaaDoorZLReadRow
namespace Go.Proofs.YtbinfdheapjpnaaDoor.Pure
open Go.RowKit Go.Proofs.YtbinfdheapjpnaaDoorW.PrintWords Go.Proofs.YtbinfdheapjpnaaDoorW.PrintLast Go.Proofs.YtbinfdheapjpnaaDoorW.PrintMore Go.Proofs.YtbinfdheapjpnaaDoor.P
set_option linter.unusedVariables false
set_option linter.unusedSimpArgs false
theorem FnExactReadRow : laws_FnExactReadRow.Pure := by
 intro s _
 obtain ⟨K, hK⟩ : ∃ K, 9000000 < K := ⟨_, Nat.lt_succ_self _⟩
 refine ⟨K + 2, ?_⟩
 unfold laws_FnExactReadRow.f
 by_cases h : (s.size : Int) > 1048576
 ·rw [if_pos h]
 ·have hb : ∀ b : Bool, (b != b) = false := by intro b; simp
  have hl := readRowR_len s
  have hS := specReadRow s (by omega) (K + 2) (by omega)
  have hI := implReadRow s (by omega) (K + 2) (by omega)
  have hI2 := implReadRow s (by omega) (K + 1) (by omega)
  generalize readRowR s = R at *
  have q := fun k hk => eqStrs R.1 (by omega) k hk
  obtain ⟨L, n1, n2⟩ := markHeldStrs R.1 (by omega) (K + 1) (by omega)
  rw [if_neg h, hS, Option.bind_some, hI, Option.bind_some, q _ (by omega), Option.bind_some, if_pos rfl, hb, laws_FnExactReadRow.j0, if_neg Bool.false_ne_true, n1, Option.bind_some]
  dsimp only
  rw [n2 _ (by omega), Option.bind_some, if_neg (by omega), if_pos rfl, hI2, Option.bind_some, q _ (by omega), Option.bind_some, if_pos rfl, hb, laws_FnExactReadRow.j1, if_neg Bool.false_ne_true, n2 _ (by omega), Option.bind_some, if_neg (by omega), if_pos rfl]
end Go.Proofs.YtbinfdheapjpnaaDoor.Pure
