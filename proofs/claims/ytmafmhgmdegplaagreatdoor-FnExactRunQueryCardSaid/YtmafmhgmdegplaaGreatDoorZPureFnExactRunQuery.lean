/- For every query and library that the row's form lets in, the law FnExactRunQuery answers true. No conditions beyond the form's own. -/
import Derived.Test.YtmafmhgmdegplaaGreatDoorZPx31
import Derived.Test.YtmafmhgmdegplaaGreatDoorZPx32
import Derived.Test.YtmafmhgmdegplaaGreatDoorZLEv
import Derived.Test.YtmafmhgmdegplaaGreatDoorZLMtStrs
import Derived.Test.YtmafmhgmdegplaaGreatDoorZLQC
import Derived.Test.YtmafmhgmdegplaaGreatDoorZLQD
import Derived.Test.YtmafmhgmdegplaaGreatDoorZLQE
namespace Go.Proofs.YtmafmhgmdegplaaGreatDoor.Pure
open Go.RowKit Go.Proofs.YtmafmhgmdegplaaGreatDoorW.PrintWords Go.Proofs.YtmafmhgmdegplaaGreatDoorW.PrintLast Go.Proofs.YtmafmhgmdegplaaGreatDoorW.PrintMore Go.Proofs.YtmafmhgmdegplaaGreatDoor.P
set_option linter.unusedVariables false
set_option linter.unusedSimpArgs false
theorem Ev.more {α : Type} {f : Nat → Option α} {r : α} (hm : ∀ k, LeO (f k) (f (k + 1))) (K : Nat) (h : f K = some r) : Ev f r := by
 have : ∀ d, f (K + d) = some r := fun d => by
  induction d with
  | zero => exact h
  | succ d ih => exact hm _ _ ih
 exact ⟨K, fun k hk => by rw [← Nat.add_sub_cancel' hk]; exact this _⟩
theorem FnExactRunQuery : Fac.Pure := by
 intro x e hx he
 obtain ⟨el, -, eb⟩ := he
 replace el : e.f0.length * 192 ≤ 140737488351232 := el
 have whole : Ev (fun k => Fac.f k x.f0 x.f1 x.f2 x.f3 e.f0) true := by
  unfold Fac.f
  obtain ⟨t, s1, s2, s3, s4⟩ := sz_query x hx 1048576 (by omega) (by omega)
  refine Ev.b1 s1 ?_
  by_cases c : t < 0
  ·exact Ev.pos c (Ev.now _)
  refine Ev.neg c ?_
  obtain ⟨t2, u1, u2, u3, u4⟩ := szl e.f0 (by omega) eb t (by omega) s3
  refine Ev.b1 u1 ?_
  by_cases c2 : t2 < 0
  ·exact Ev.pos c2 (Ev.now _)
  refine Ev.neg c2 ?_
  obtain ⟨k1, k2⟩ := s4 (by omega)
  obtain ⟨y, q1, q2, q3⟩ := to_query x k1
  obtain ⟨l, p1, p2⟩ := tol e.f0 (u4 (by omega))
  obtain ⟨r, r1, r2, r3⟩ := q_run y q2 (by omega) l p2
  refine Ev.b1 q1 ?_
  refine Ev.b1 p1 ?_
  refine Ev.b1 r2 ?_
  refine Ev.b1 q1 ?_
  refine Ev.b1 p1 ?_
  refine Ev.b1 r1 ?_
  refine Ev.b1 (eqs r.1 r3) (Ev.tt rfl ?_)
  have b2 : (r.2 != r.2) = false := bne_self_eq_false r.2
  rw [b2]
  refine Ev.st (fun k => by rw [Fac.j0]) ?_
  refine Ev.ff rfl ?_
  refine Ev.b1 q1 ?_
  refine Ev.b1 (eq_query y q2) (Ev.tt rfl ?_)
  refine Ev.b1 p1 ?_
  refine Ev.b1 (eql l p2) (Ev.tt rfl ?_)
  have hq := mkq_ok y q2 1 (by omega) (by have := ndQ_eq y; omega)
  obtain ⟨m, m1, m2⟩ := mkl_ok l p2 (1 + 3 * (ndQL y.f3 : Int)) (by omega) (by have := ndQ_eq y; omega)
  refine Ev.b1 hq ?_
  refine Ev.b1 m1 ?_
  refine vN ?_
  refine Ev.b1 (eqs r.1 r3) (Ev.tt rfl ?_)
  rw [b2]
  refine Ev.st (fun k => by rw [Fac.j1]) ?_
  refine Ev.ff rfl ?_
  obtain ⟨L, h1, h2⟩ := markHeldStrs r.1 (by omega) (r.1.length + 21) (by omega)
  have hm : Ev (fun k => FaH.f k r.1 1) (((1 + r.1.length : Nat) : Int), L) := Ev.more (fun k => FaH.mono _ _ k) _ h1
  have hh : Ev (fun k => FaG.f k L 1) ((1 + r.1.length : Nat) : Int) := ⟨r.1.length + 21, fun k hk => h2 k (by omega)⟩
  refine Ev.b1 hm ?_
  refine Ev.b1 hh ?_
  refine vN ?_
  refine Ev.pos rfl ?_
  refine Ev.b1 q1 ?_
  refine Ev.b1 p1 ?_
  refine Ev.b1 r1 ?_
  refine Ev.b1 (eqs r.1 r3) (Ev.tt rfl ?_)
  rw [b2]
  refine Ev.st (fun k => by rw [Fac.j2]) ?_
  refine Ev.ff rfl ?_
  refine Ev.b1 hh ?_
  refine vN ?_
  exact Ev.pos rfl (Ev.now _)
 obtain ⟨K, hK⟩ := whole
 exact ⟨K, hK K (Nat.le_refl _)⟩
end Go.Proofs.YtmafmhgmdegplaaGreatDoor.Pure
