/- For every library that the row's form lets in, the law FnExactWordIndex answers true. No conditions beyond the form's own. -/
import Derived.Test.YtmafmhgmdegplaaGreatDoorZPx27
import Derived.Test.YtmafmhgmdegplaaGreatDoorZLEv
import Derived.Test.YtmafmhgmdegplaaGreatDoorZLQD
import Derived.Test.YtmafmhgmdegplaaGreatDoorZLQE
import Derived.Test.YtmafmhgmdegplaaGreatDoorZLQL
import Derived.Test.YtmafmhgmdegplaaGreatDoorZLQX
namespace Go.Proofs.YtmafmhgmdegplaaGreatDoor.Pure
open Go.RowKit Go.Proofs.YtmafmhgmdegplaaGreatDoorW.PrintWords Go.Proofs.YtmafmhgmdegplaaGreatDoorW.PrintLast Go.Proofs.YtmafmhgmdegplaaGreatDoorW.PrintMore Go.Proofs.YtmafmhgmdegplaaGreatDoor.P
set_option linter.unusedVariables false
set_option linter.unusedSimpArgs false
theorem FnExactWordIndex : Fac.Pure := by
 intro e he
 obtain ⟨el, -, eb⟩ := he
 replace el : e.f0.length * 192 ≤ 140737488351232 := el
 have whole : Ev (fun k => Fac.f k e.f0) true := by
  unfold Fac.f
  obtain ⟨t2, u1, u2, u3, u4⟩ := szl e.f0 (by omega) eb 1048576 (by omega) (by omega)
  refine Ev.b1 u1 ?_
  by_cases c2 : t2 < 0
  ·exact Ev.pos c2 (Ev.now _)
  refine Ev.neg c2 ?_
  obtain ⟨l, p1, p2⟩ := tol e.f0 (u4 (by omega))
  obtain ⟨r, r1, r2, r3, r4⟩ := q_index l p2
  refine Ev.b1 p1 ?_
  refine Ev.b1 r2 ?_
  refine Ev.b1 p1 ?_
  refine Ev.b1 r1 ?_
  refine Ev.b1 (eqI r.1 r3 r4) (Ev.tt rfl ?_)
  have b2 : (r.2 != r.2) = false := bne_self_eq_false r.2
  rw [b2]
  refine Ev.st (fun k => by rw [Fac.j0]) ?_
  refine Ev.ff rfl ?_
  refine Ev.b1 p1 ?_
  refine Ev.b1 (eql l p2) (Ev.tt rfl ?_)
  obtain ⟨m, m1, m2⟩ := mkl_ok l p2 1 (by omega) (by omega)
  refine Ev.b1 m1 ?_
  refine vN ?_
  refine Ev.b1 (eqI r.1 r3 r4) (Ev.tt rfl ?_)
  rw [b2]
  refine Ev.st (fun k => by rw [Fac.j1]) ?_
  refine Ev.ff rfl ?_
  obtain ⟨hm, hh⟩ := mkL1_ok r.1 r3 r4
  refine Ev.b1 hm ?_
  refine Ev.b1 hh ?_
  refine vN ?_
  refine Ev.pos rfl ?_
  refine Ev.b1 p1 ?_
  refine Ev.b1 r1 ?_
  refine Ev.b1 (eqI r.1 r3 r4) (Ev.tt rfl ?_)
  rw [b2]
  refine Ev.st (fun k => by rw [Fac.j2]) ?_
  refine Ev.ff rfl ?_
  refine Ev.b1 hh ?_
  refine vN ?_
  exact Ev.pos rfl (Ev.now _)
 obtain ⟨K, hK⟩ := whole
 exact ⟨K, hK K (Nat.le_refl _)⟩
end Go.Proofs.YtmafmhgmdegplaaGreatDoor.Pure
