/- The draws of a text to check come to something short. Conditions: those of each lemma. -/
import Derived.Test.YtpnjnlcjofaglaaDoorZPx5
import Derived.Test.YtpnjnlcjofaglaaDoorZLDraw
import Derived.Test.YtpnjnlcjofaglaaDoorZLDraw2
import Derived.Test.YtpnjnlcjofaglaaDoorZLDraw3
import Derived.Test.YtpnjnlcjofaglaaDoorZLIdDraw
namespace Go.Proofs.YtpnjnlcjofaglaaDoor.P
open Go.RowKit Go.Proofs.YtpnjnlcjofaglaaDoorW.PrintWords Go.Proofs.YtpnjnlcjofaglaaDoorW.PrintLast Go.Proofs.YtpnjnlcjofaglaaDoorW.PrintMore
set_option linter.unusedVariables false
set_option linter.unusedSimpArgs false
theorem drawCheck_t {l : List Int} (hb : Byt l) (k : Nat) (hk : 300 < k) : Tot (spec_DrawCheckIdentifier.f k l) (fun r => r.size ≤ 100) := by
 unfold spec_DrawCheckIdentifier.f
 refine Tot.bind (kind24_t hb _ _ (by omega) (by omega)) (fun x hx => ?_)
 obtain ⟨x1, x4, p1, q1⟩ := hx
 refine Tot.bind (id24_t hb _ x1 x4 _ _ (by omega) (by omega) k (by omega)) (fun y hy => ?_)
 obtain ⟨i1, p2, q2⟩ := hy
 have hz := isId_le i1
 refine Tot.bind (pick_t hb _ _ _ (by omega) (by omega)) (fun z hz => ?_)
 obtain ⟨_, _, p3, q3⟩ := hz
 refine Tot.ite (fun _ => ?_) (fun _ => Tot.ite (fun _ => ?_) (fun _ => Tot.some (by omega)))
 ·refine Tot.bind (spoilt_t hb _ _ _ _ (by decide) (by omega) (by omega) (by omega)) (fun u hu => Tot.some ?_)
  obtain ⟨u1, _⟩ := hu
  omega
 ·refine Tot.bind (among_t hb _ _ _ (by decide) (by omega) (by omega)) (fun u hu => ?_)
  obtain ⟨m, p4, q4⟩ := hu
  have hm : ∃ n : Nat, u.1 = (n : Int) ∧ n ≤ 16 := by
   simp only [List.mem_cons, List.not_mem_nil, or_false] at m
   rcases m with m | m | m | m | m
   ·exact ⟨8, m, by omega⟩
   ·exact ⟨10, m, by omega⟩
   ·exact ⟨13, m, by omega⟩
   ·exact ⟨16, m, by omega⟩
   ·exact ⟨9, m, by omega⟩
  obtain ⟨n, hn, hn16⟩ := hm
  rw [hn]
  refine Tot.bind (digits24_t hb n (by omega) _ _ (by omega) (by omega) k (by omega)) (fun v hv => Tot.some ?_)
  obtain ⟨v1, _⟩ := hv
  omega
end Go.Proofs.YtpnjnlcjofaglaaDoor.P
