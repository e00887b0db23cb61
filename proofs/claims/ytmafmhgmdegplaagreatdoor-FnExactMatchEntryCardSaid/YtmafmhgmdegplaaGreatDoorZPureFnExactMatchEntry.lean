/- For every query and entry that the row's form lets in, the law FnExactMatchEntry answers true. No conditions beyond the form's own. -/
import Derived.Test.YtmafmhgmdegplaaGreatDoorZPx0
import Derived.Test.YtmafmhgmdegplaaGreatDoorZPx13
import Derived.Test.YtmafmhgmdegplaaGreatDoorZPx2
import Derived.Test.YtmafmhgmdegplaaGreatDoorZPx26
import Derived.Test.YtmafmhgmdegplaaGreatDoorZLBase
import Derived.Test.YtmafmhgmdegplaaGreatDoorZLEv
import Derived.Test.YtmafmhgmdegplaaGreatDoorZLQA
import Derived.Test.YtmafmhgmdegplaaGreatDoorZLQC
namespace Go.Proofs.YtmafmhgmdegplaaGreatDoor.Pure
open Go.RowKit Go.Proofs.YtmafmhgmdegplaaGreatDoorW.PrintWords Go.Proofs.YtmafmhgmdegplaaGreatDoorW.PrintLast Go.Proofs.YtmafmhgmdegplaaGreatDoorW.PrintMore Go.Proofs.YtmafmhgmdegplaaGreatDoor.P
set_option linter.unusedVariables false
set_option linter.unusedSimpArgs false
def chS : List ByteArray → Int → Option Int
 | [], m => some m
 | z :: r, m => if wrap64 (m - (z.size : Int)) < 0 then some (-1) else chS r (wrap64 (m - (z.size : Int)))
theorem ch_ok : ∀ (zs : List ByteArray), (∀ z ∈ zs, z.size ≤ 140737488351232) → ∀ m : Int, 0 ≤ m → m ≤ 1048576 → ∃ t, chS zs m = some t ∧ -1 ≤ t ∧ t ≤ m ∧ (0 ≤ t → ∀ z ∈ zs, z.size ≤ 1048576)
 | [], _, m, h0, h1 => ⟨m, rfl, by omega, by omega, fun _ z hz => absurd hz List.not_mem_nil⟩
 | z :: r, h, m, h0, h1 => by
  have hz := h z List.mem_cons_self
  have w1 : wrap64 (m - (z.size : Int)) = m - (z.size : Int) := w64 (by omega) (by omega)
  rw [chS, w1]
  by_cases c : m - (z.size : Int) < 0
  ·rw [if_pos c]
   exact ⟨-1, rfl, by omega, by omega, fun h => by omega⟩
  ·rw [if_neg c]
   obtain ⟨t, e1, e2, e3, e4⟩ := ch_ok r (fun y hy => h y (List.mem_cons_of_mem _ hy)) (m - (z.size : Int)) (by omega) (by omega)
   refine ⟨t, e1, e2, by omega, fun ht y hy => ?_⟩
   rcases List.mem_cons.1 hy with g | g
   ·rw [g]; omega
   ·exact e4 ht y g
theorem sze (x : S29) (hB : B29 x) (n : Int) (h0 : 0 ≤ n) (h1 : n ≤ 1048576) : ∃ t, Ev (fun k => laws_szEntry.f k x.f0 x.f1 x.f2 x.f3 x.f4 x.f5 x.f6 x.f7.f0 x.f7.f1 x.f7.f2 x.f7.f3 x.f8 x.f9 x.f10 n) t ∧ (0 ≤ t → x.f0.size ≤ 1048576 ∧ SzM x.f2 ∧ SzM x.f3 ∧ x.f10.size ≤ 1048576) := by
 obtain ⟨b0, -, ⟨b2, b2', b2''⟩, ⟨b3, b3', b3''⟩, b4, b5, b6, -, -, b9, b10⟩ := hB
 replace b0 : x.f0.size ≤ 140737488351232 := b0
 replace b2 : x.f2.length * 72 ≤ 140737488351232 := b2
 replace b3 : x.f3.length * 72 ≤ 140737488351232 := b3
 have w1 : wrap64 (n - (x.f0.size : Int)) = n - (x.f0.size : Int) := w64 (by omega) (by omega)
 unfold laws_szEntry.f
 rw [w1]
 by_cases c : n - (x.f0.size : Int) < 0
 ·exact ⟨-1, Ev.pos c (Ev.now _), fun h => by omega⟩
 obtain ⟨t2, e1, e2, e3, e4⟩ := szm x.f2 (by omega) b2'' (n - (x.f0.size : Int)) (by omega) (by omega)
 by_cases c2 : t2 < 0
 ·exact ⟨-1, Ev.neg c (Ev.b1 e1 (Ev.pos c2 (Ev.now _))), fun h => by omega⟩
 obtain ⟨t3, f1, f2, f3, f4⟩ := szm x.f3 (by omega) b3'' t2 (by omega) (by omega)
 by_cases c3 : t3 < 0
 ·exact ⟨-1, Ev.neg c (Ev.b1 e1 (Ev.neg c2 (Ev.b1 f1 (Ev.pos c3 (Ev.now _))))), fun h => by omega⟩
 obtain ⟨t, g1, g2, g3, g4⟩ := ch_ok [x.f4, x.f5, x.f6, x.f9, x.f10] (by
  intro z hz
  simp only [List.mem_cons, List.not_mem_nil, or_false] at hz
  rcases hz with e | e | e | e | e
  ·rw [e]; exact b4
  ·rw [e]; exact b5
  ·rw [e]; exact b6
  ·rw [e]; exact b9
  ·rw [e]; exact b10) t3 (by omega) (by omega)
 refine ⟨t, Ev.neg c (Ev.b1 e1 (Ev.neg c2 (Ev.b1 f1 (Ev.neg c3 ?_)))), fun h => ⟨by omega, e4 (by omega), f4 (by omega), g4 h _ (by simp)⟩⟩
 exact ⟨0, fun _ _ => g1⟩
theorem toe (x : S29) (h2 : SzM x.f2) (h3 : SzM x.f3) : ∃ l2 l3 : List S157, szNs l2 ∧ szNs l3 ∧ Ev (fun k => laws_toEntry.f k x.f0 x.f1 x.f2 x.f3 x.f4 x.f5 x.f6 x.f7.f0 x.f7.f1 x.f7.f2 x.f7.f3 x.f8 x.f9 x.f10) (x.f0, x.f1, l2, l3, x.f4, x.f5, x.f6, x.f7.f0, x.f7.f1, x.f7.f2, x.f7.f3, x.f8, x.f9, x.f10) := by
 obtain ⟨l2, e1, z2⟩ := tom x.f2 h2
 obtain ⟨l3, e2, z3⟩ := tom x.f3 h3
 refine ⟨l2, l3, z2, z3, ?_⟩
 unfold laws_toEntry.f laws_toDate.f
 exact Ev.b1 e1 (Ev.b1 e2 (Ev.now _))
theorem FnExactMatchEntry : laws_FnExactMatchEntry.Pure := by
 intro x e hx he
 have whole : Ev (fun k => laws_FnExactMatchEntry.f k x.f0 x.f1 x.f2 x.f3 e.f0 e.f1 e.f2 e.f3 e.f4 e.f5 e.f6 e.f7.f0 e.f7.f1 e.f7.f2 e.f7.f3 e.f8 e.f9 e.f10) true := by
  unfold laws_FnExactMatchEntry.f
  obtain ⟨t, s1, s2, s3, s4⟩ := sz_query x hx 1048576 (by omega) (by omega)
  refine Ev.b1 s1 ?_
  by_cases c : t < 0
  ·exact Ev.pos c (Ev.now _)
  refine Ev.neg c ?_
  obtain ⟨t2, u1, u2⟩ := sze e he t (by omega) s3
  refine Ev.b1 u1 ?_
  by_cases c2 : t2 < 0
  ·exact Ev.pos c2 (Ev.now _)
  refine Ev.neg c2 ?_
  obtain ⟨k1, k2⟩ := s4 (by omega)
  obtain ⟨h0, hm2, hm3, h13⟩ := u2 (by omega)
  obtain ⟨y, q1, q2, q3⟩ := to_query x k1
  obtain ⟨l2, l3, z2, z3, p1⟩ := toe e hm2 hm3
  obtain ⟨r, r1, r2⟩ := q_entry e.f0 e.f1 l2 l3 e.f4 e.f5 e.f6 e.f7.f0 e.f7.f1 e.f7.f2 e.f7.f3 e.f8 e.f9 e.f10 h0 z2 z3 h13 y q2 (by omega)
  refine Ev.b1 q1 ?_
  refine Ev.b1 p1 ?_
  refine Ev.b1 r2 ?_
  refine Ev.b1 q1 ?_
  refine Ev.b1 p1 ?_
  refine Ev.b1 r1 ?_
  refine Ev.ff (bne_self_eq_false r.1) ?_
  have b2 : (r.2 != r.2) = false := bne_self_eq_false r.2
  rw [b2]
  refine Ev.st (fun k => by rw [laws_FnExactMatchEntry.j0]) ?_
  refine Ev.ff rfl ?_
  refine Ev.b1 q1 ?_
  refine Ev.b1 (eq_query y q2) (Ev.tt rfl ?_)
  refine Ev.b1 p1 ?_
  exact Ev.b1 (eqe e.f0 e.f1 l2 l3 e.f4 e.f5 e.f6 e.f7.f0 e.f7.f1 e.f7.f2 e.f7.f3 e.f8 e.f9 e.f10 z2 z3) (Ev.tt rfl (Ev.now _))
 obtain ⟨K, hK⟩ := whole
 exact ⟨K, hK K (Nat.le_refl _)⟩
end Go.Proofs.YtmafmhgmdegplaaGreatDoor.Pure
