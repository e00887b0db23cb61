/- For every text, the law FnExactWriteCell answers true: the program's WriteCell returns what the reference's returns. No conditions beyond the given statement's. -/
import Derived.Test.YtbinfdheapjpnaaDoorZPx1
import Derived.Test.YtbinfdheapjpnaaDoorZPx2
import Derived.Test.YtbinfdheapjpnaaDoorZLCell
import Derived.Test.YtbinfdheapjpnaaDoorZLCellOk
import Derived.Test.YtbinfdheapjpnaaDoorZLLocBytes
namespace Go.Proofs.YtbinfdheapjpnaaDoor.Pure
open Go.RowKit Go.Proofs.YtbinfdheapjpnaaDoorW.PrintWords Go.Proofs.YtbinfdheapjpnaaDoorW.PrintLast Go.Proofs.YtbinfdheapjpnaaDoorW.PrintMore Go.Proofs.YtbinfdheapjpnaaDoor.P
set_option linter.unusedVariables false
set_option linter.unusedSimpArgs false
theorem FnExactWriteCell : laws_FnExactWriteCell.Pure := by
 intro s _
 obtain ⟨K, hK⟩ : ∃ K, 3000000 < K := ⟨_, Nat.lt_succ_self _⟩
 refine ⟨K, ?_⟩
 unfold laws_FnExactWriteCell.f
 by_cases h : (s.size : Int) > 1048576
 ·rw [if_pos h]
 ·have hb : ∀ b : Bool, (b != b) = false := by intro b; simp
  rw [if_neg h]
  unfold spec_WriteCell.f impl_WriteCell.f
  rw [specBytes s (by omega) 0 200 32 K (by omega), implIsCell s (by omega) K (by omega), Option.bind_some, Option.bind_some]
  by_cases g : bytesOk s 0 200 32 = true
  ·obtain ⟨g1, g2⟩ := bytesOk_small g
   rw [if_pos g, if_pos g, specCell s (by omega) K (by omega), implCell s (by omega) g1]
   simp
  ·rw [if_neg g, if_neg g]
   simp
end Go.Proofs.YtbinfdheapjpnaaDoor.Pure
