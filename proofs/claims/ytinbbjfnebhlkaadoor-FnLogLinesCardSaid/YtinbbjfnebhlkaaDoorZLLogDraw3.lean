/- The draws of a record to encode and of a text to recover come to something. Conditions: those of each lemma. -/
import Derived.Test.YtinbbjfnebhlkaaDoorZPx13
import Derived.Test.YtinbbjfnebhlkaaDoorZLBase
import Derived.Test.YtinbbjfnebhlkaaDoorZLDraw
import Derived.Test.YtinbbjfnebhlkaaDoorZLDraw2
import Derived.Test.YtinbbjfnebhlkaaDoorZLDraw3
import Derived.Test.YtinbbjfnebhlkaaDoorZLLogDraw
import Derived.Test.YtinbbjfnebhlkaaDoorZLNum
import Derived.Test.YtinbbjfnebhlkaaDoorZLSeal
namespace Go.Proofs.YtinbbjfnebhlkaaDoor.P
open Go.RowKit Go.Proofs.YtinbbjfnebhlkaaDoorW.PrintWords Go.Proofs.YtinbbjfnebhlkaaDoorW.PrintLast Go.Proofs.YtinbbjfnebhlkaaDoorW.PrintMore
set_option linter.unusedVariables false
set_option linter.unusedSimpArgs false
theorem drawEnc_t {l : List Int} (hb : Byt l) : Tot (spec_DrawEncodeRecord.f l) (fun r => r.2.1.size ≤ 20 ∧ r.2.2.size ≤ 20) := by
 unfold spec_DrawEncodeRecord.f
 refine Tot.bind (among_t hb _ _ _ (by decide) (by omega) (by omega)) (fun x hx => ?_)
 obtain ⟨_, p1, q1⟩ := hx
 refine Tot.bind (logRecord_t hb _ _ (by omega) (by omega)) (fun y hy => Tot.some ?_)
 obtain ⟨z1, z2, _⟩ := hy
 exact ⟨z1, z2⟩
theorem drawRec_j0 {l : List Int} (hb : Byt l) (k : Nat) (t : ByteArray) (a sd : Int) (h0 : 0 ≤ a) (h1 : a ≤ 1000000000000000000) : Tot (spec_DrawRecoverLog.j0 (k + 1) t l a sd) (fun _ => True) := by
 rw [spec_DrawRecoverLog.j0]
 refine Tot.bind (one_t hb _ _ _ h0 (by omega)) (fun x hx => ?_)
 obtain ⟨p1, q1⟩ := hx
 refine Tot.ite (fun _ => ?_) (fun _ => Tot.some trivial)
 refine Tot.bind (pick_t hb _ _ _ (by omega) (by omega)) (fun y hy => ?_)
 obtain ⟨y0, y1, _⟩ := hy
 have hw : wrap64 (30000 + y.1) = 30000 + y.1 := w64 (by omega) (by omega)
 rw [hw]
 exact Tot.pos (by omega) (Tot.pos (by omega) (Tot.some trivial))
theorem recLine_any (n : Int) (c r : ByteArray) (h0 : -1000000000000000000 < n) (h1 : n < 1000000000000000000) : (recLine n c r).size ≤ c.size + r.size + 42 := by
 have hn := numB_size n h0 h1
 have e1 : (⟨#[10]⟩ : ByteArray).size = 1 := rfl
 have ht := recText_size n c r
 have hz := sealB_size (recText n c r)
 unfold recLine
 rw [ByteArray.size_append, e1]
 omega
theorem drawRec_t {l : List Int} (hb : Byt l) (k : Nat) (hk : 70200 < k) : Tot (spec_DrawRecoverLog.f k l) (fun _ => True) := by
 obtain ⟨k, rfl⟩ := succ_of hk
 unfold spec_DrawRecoverLog.f
 refine Tot.bind (log_t hb 0 0 (by omega) (by omega) (k + 1) (by omega)) (fun x hx => ?_)
 obtain ⟨z1, p1, q1⟩ := hx
 have hz : (x.1 ++ x.2.1).size = x.1.size + x.2.1.size := ByteArray.size_append
 refine Tot.pos (by omega) (Tot.bind (pick_t hb _ _ _ (by omega) (by omega)) (fun y hy => ?_))
 obtain ⟨_, _, p2, q2⟩ := hy
 generalize x.1 ++ x.2.1 = S at *
 refine Tot.ite (fun _ => ?_) (fun _ => Tot.ite (fun _ => ?_) (fun _ => Tot.ite (fun _ => ?_) (fun _ => ?_)))
 ·refine Tot.bind (spoilt_t hb _ _ _ _ (by decide) (by omega) (by omega) (by omega)) (fun z hz => ?_)
  obtain ⟨_, p3, q3⟩ := hz
  exact drawRec_j0 hb k _ _ _ (by omega) (by omega)
 ·have hw : wrap64 ((S.size : Int) + 1) = (S.size : Int) + 1 := w64 (by omega) (by omega)
  rw [hw]
  refine Tot.bind (pick_t hb _ _ _ (by omega) (by omega)) (fun z hz => ?_)
  obtain ⟨z0, z2, p3, q3⟩ := hz
  exact Tot.pos (by omega) (Tot.pos (by omega) (drawRec_j0 hb k _ _ _ (by omega) (by omega)))
 ·refine Tot.bind (pick_t hb _ _ _ (by omega) (by omega)) (fun z hz => ?_)
  obtain ⟨z0, z2, p3, q3⟩ := hz
  refine Tot.bind (logRecord_t hb _ _ (by omega) (by omega)) (fun v hv => ?_)
  obtain ⟨v1, v2, p4, q4⟩ := hv
  have hL := recLine_any z.1 v.1 v.2.1 (by omega) (by omega)
  rw [specLine z.1 v.1 v.2.1 (by omega) (by omega) (by omega) (by omega) (by omega) (k + 1) (by omega), Option.bind_some]
  exact Tot.pos (by omega) (drawRec_j0 hb k _ _ _ (by omega) (by omega))
 ·exact drawRec_j0 hb k _ _ _ (by omega) (by omega)
end Go.Proofs.YtinbbjfnebhlkaaDoor.P
