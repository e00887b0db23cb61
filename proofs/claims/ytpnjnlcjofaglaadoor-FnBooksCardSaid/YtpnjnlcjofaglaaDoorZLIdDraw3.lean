/- The draws of texts for ToBook13 and ToBook10 come to something short. Conditions: those of each lemma. -/
import Derived.Test.YtpnjnlcjofaglaaDoorZPx5
import Derived.Test.YtpnjnlcjofaglaaDoorZLDraw
import Derived.Test.YtpnjnlcjofaglaaDoorZLIdDraw
import Derived.Test.YtpnjnlcjofaglaaDoorZLIdDraw2
namespace Go.Proofs.YtpnjnlcjofaglaaDoor.P
open Go.RowKit Go.Proofs.YtpnjnlcjofaglaaDoorW.PrintWords Go.Proofs.YtpnjnlcjofaglaaDoorW.PrintLast Go.Proofs.YtpnjnlcjofaglaaDoorW.PrintMore
set_option linter.unusedVariables false
set_option linter.unusedSimpArgs false
theorem draw13_t {l : List Int} (hb : Byt l) (k : Nat) (hk : 300 < k) : Tot (spec_DrawToBook13.f k l) (fun r => r.size ≤ 100) := by
 unfold spec_DrawToBook13.f
 refine Tot.bind (one_t hb _ _ _ (by omega) (by omega)) (fun x hx => ?_)
 obtain ⟨p1, q1⟩ := hx
 refine Tot.ite (fun _ => Tot.bind (drawCheck_t hb k hk) (fun y hy => Tot.some hy)) (fun _ => ?_)
 refine Tot.bind (id24_t hb 1 (by omega) (by omega) _ _ (by omega) (by omega) k (by omega)) (fun y hy => Tot.some ?_)
 have := isId_le hy.1
 omega
theorem draw10_t {l : List Int} (hb : Byt l) (k : Nat) (hk : 300 < k) : Tot (spec_DrawToBook10.f k l) (fun r => r.size ≤ 100) := by
 unfold spec_DrawToBook10.f
 refine Tot.bind (one_t hb _ _ _ (by omega) (by omega)) (fun x hx => ?_)
 obtain ⟨p1, q1⟩ := hx
 refine Tot.ite (fun _ => Tot.bind (drawCheck_t hb k hk) (fun y hy => Tot.some hy)) (fun _ => ?_)
 refine Tot.bind (id24_t hb 2 (by omega) (by omega) _ _ (by omega) (by omega) k (by omega)) (fun y hy => Tot.some ?_)
 have := isId_le hy.1
 omega
end Go.Proofs.YtpnjnlcjofaglaaDoor.P
