/- The draw of a log to crash comes to something. Conditions: those of each lemma. -/
import Derived.Test.YtinbbjfnebhlkaaDoorZPx10
import Derived.Test.YtinbbjfnebhlkaaDoorZLDraw
import Derived.Test.YtinbbjfnebhlkaaDoorZLLogDraw
namespace Go.Proofs.YtinbbjfnebhlkaaDoor.P
open Go.RowKit Go.Proofs.YtinbbjfnebhlkaaDoorW.PrintWords Go.Proofs.YtinbbjfnebhlkaaDoorW.PrintLast Go.Proofs.YtinbbjfnebhlkaaDoorW.PrintMore
set_option linter.unusedVariables false
set_option linter.unusedSimpArgs false
theorem drawCrash_t {l : List Int} (hb : Byt l) (k : Nat) (hk : 70200 < k) : Tot (spec_DrawCrashLog.f k l) (fun r => r.1.size + r.2.1.size ≤ 7000) := by
 unfold spec_DrawCrashLog.f
 refine Tot.bind (anyLog_t hb 0 0 (by omega) (by omega) k (by omega)) (fun x hx => ?_)
 obtain ⟨z1, p1, q1⟩ := hx
 refine Tot.bind (pick_t hb _ _ _ (by omega) (by omega)) (fun y hy => ?_)
 obtain ⟨_, _, p2, q2⟩ := hy
 refine Tot.bind (one_t hb _ _ _ (by omega) (by omega)) (fun z hz => Tot.some ?_)
 exact z1
end Go.Proofs.YtinbbjfnebhlkaaDoor.P
