/- For every row of cells, the law FnExactWriteRow answers true: the program's WriteRow returns what the reference's returns, and leaves its argument as it was. No conditions beyond the given statement's. -/
import Derived.Test.YtbinfdheapjpnaaDoorZPx3
import Derived.Test.YtbinfdheapjpnaaDoorZLEqStrs
import Derived.Test.YtbinfdheapjpnaaDoorZLRowOk
import Derived.Test.YtbinfdheapjpnaaDoorZLStrs
namespace Go.Proofs.YtbinfdheapjpnaaDoor.Pure
open Go.RowKit Go.Proofs.YtbinfdheapjpnaaDoorW.PrintWords Go.Proofs.YtbinfdheapjpnaaDoorW.PrintLast Go.Proofs.YtbinfdheapjpnaaDoorW.PrintMore Go.Proofs.YtbinfdheapjpnaaDoor.P
set_option linter.unusedVariables false
set_option linter.unusedSimpArgs false
theorem FnExactWriteRow : laws_FnExactWriteRow.Pure := by
 intro L hB
 obtain ⟨h1, _, h2⟩ := hB
 obtain ⟨K, hK⟩ : ∃ K, 9000000 < K := ⟨_, Nat.lt_succ_self _⟩
 refine ⟨K + 1, ?_⟩
 unfold laws_FnExactWriteRow.f
 obtain ⟨t, ht, _, hto⟩ := szStrs L (by omega) h2 (K + 1) 1048576 (by omega) (by omega) (by omega)
 rw [ht, Option.bind_some]
 by_cases g : t < 0
 ·rw [if_pos g]
 ·obtain ⟨o1, o2⟩ := hto g
  have hb : ∀ b : Bool, (b != b) = false := by intro b; simp
  rw [if_neg g, toStrs L (by omega) (K + 1) (by omega), Option.bind_some, specWrite L o1 o2 (K + 1) (by omega), Option.bind_some, Option.bind_some, implWrite L o1 o2 (K + 1) (by omega), Option.bind_some, if_pos rfl, hb, laws_FnExactWriteRow.j0, if_neg Bool.false_ne_true, toStrs L (by omega) K (by omega), Option.bind_some, eqStrs L (by omega) K (by omega), Option.bind_some, if_pos rfl]
end Go.Proofs.YtbinfdheapjpnaaDoor.Pure
