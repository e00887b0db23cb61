/- Libraries of entries: their size, their conversion, their comparison, whether they are valid. No conditions beyond each lemma's own. -/
import Derived.Test.YtmafmhgmdegplaaGreatDoorZPx0
import Derived.Test.YtmafmhgmdegplaaGreatDoorZPx8
import Derived.Test.YtmafmhgmdegplaaGreatDoorZPx11
import Derived.Test.YtmafmhgmdegplaaGreatDoorZPx1
import Derived.Test.YtmafmhgmdegplaaGreatDoorZPx20
import Derived.Test.YtmafmhgmdegplaaGreatDoorZPx3
import Derived.Test.YtmafmhgmdegplaaGreatDoorZPx4
import Derived.Test.YtmafmhgmdegplaaGreatDoorZLBase
import Derived.Test.YtmafmhgmdegplaaGreatDoorZLEv
import Derived.Test.YtmafmhgmdegplaaGreatDoorZLQA
import Derived.Test.YtmafmhgmdegplaaGreatDoorZLQC
namespace Go.Proofs.YtmafmhgmdegplaaGreatDoor.P
open Go.RowKit Go.Proofs.YtmafmhgmdegplaaGreatDoorW.PrintWords Go.Proofs.YtmafmhgmdegplaaGreatDoorW.PrintLast Go.Proofs.YtmafmhgmdegplaaGreatDoorW.PrintMore
set_option linter.unusedVariables false
set_option linter.unusedSimpArgs false
def chS : List ByteArray → Int → Option Int
 | [], m => some m
 | z :: r, m => if wrap64 (m - (z.size : Int)) < 0 then some (-1) else chS r (wrap64 (m - (z.size : Int)))
theorem ch_ok : ∀ (zs : List ByteArray), (∀ z ∈ zs, z.size ≤ 140737488351232) → ∀ m : Int, 0 ≤ m → m ≤ 1048576 → ∃ t, chS zs m = some t ∧ -1 ≤ t ∧ t ≤ m ∧ (0 ≤ t → ∀ z ∈ zs, z.size ≤ 1048576)
 | [], _, m, h0, h1 => ⟨m, rfl, by omega, by omega, fun _ z hz => absurd hz List.not_mem_nil⟩
 | z :: r, h, m, h0, h1 => by
  have hz := h z List.mem_cons_self
  have w1 : wrap64 (m - (z.size : Int)) = m - (z.size : Int) := w64 (by omega) (by omega)
  rw [chS, w1]
  by_cases c : m - (z.size : Int) < 0
  ·rw [if_pos c]
   exact ⟨-1, rfl, by omega, by omega, fun h => by omega⟩
  ·rw [if_neg c]
   obtain ⟨t, e1, e2, e3, e4⟩ := ch_ok r (fun y hy => h y (List.mem_cons_of_mem _ hy)) (m - (z.size : Int)) (by omega) (by omega)
   refine ⟨t, e1, e2, by omega, fun ht y hy => ?_⟩
   rcases List.mem_cons.1 hy with g | g
   ·rw [g]; omega
   ·exact e4 ht y g
def SzX (x : S29) : Prop := x.f0.size ≤ 1048576 ∧ SzM x.f2 ∧ SzM x.f3 ∧ x.f10.size ≤ 1048576
theorem szx (x : S29) (hB : B29 x) (n : Int) (h0 : 0 ≤ n) (h1 : n ≤ 1048576) : ∃ t, Ev (fun k => FbA.f k x.f0 x.f1 x.f2 x.f3 x.f4 x.f5 x.f6 x.f7.f0 x.f7.f1 x.f7.f2 x.f7.f3 x.f8 x.f9 x.f10 n) t ∧ -1 ≤ t ∧ t ≤ n ∧ (0 ≤ t → SzX x) := by
 obtain ⟨b0, -, ⟨b2, b2', b2''⟩, ⟨b3, b3', b3''⟩, b4, b5, b6, -, -, b9, b10⟩ := hB
 replace b0 : x.f0.size ≤ 140737488351232 := b0
 replace b2 : x.f2.length * 72 ≤ 140737488351232 := b2
 replace b3 : x.f3.length * 72 ≤ 140737488351232 := b3
 have w1 : wrap64 (n - (x.f0.size : Int)) = n - (x.f0.size : Int) := w64 (by omega) (by omega)
 unfold FbA.f
 rw [w1]
 by_cases c : n - (x.f0.size : Int) < 0
 ·exact ⟨-1, Ev.pos c (Ev.now _), by omega, by omega, fun h => by omega⟩
 obtain ⟨t2, e1, e2, e3, e4⟩ := szm x.f2 (by omega) b2'' (n - (x.f0.size : Int)) (by omega) (by omega)
 by_cases c2 : t2 < 0
 ·exact ⟨-1, Ev.neg c (Ev.b1 e1 (Ev.pos c2 (Ev.now _))), by omega, by omega, fun h => by omega⟩
 obtain ⟨t3, f1, f2, f3, f4⟩ := szm x.f3 (by omega) b3'' t2 (by omega) (by omega)
 by_cases c3 : t3 < 0
 ·exact ⟨-1, Ev.neg c (Ev.b1 e1 (Ev.neg c2 (Ev.b1 f1 (Ev.pos c3 (Ev.now _))))), by omega, by omega, fun h => by omega⟩
 obtain ⟨t, g1, g2, g3, g4⟩ := ch_ok [x.f4, x.f5, x.f6, x.f9, x.f10] (by
  intro z hz
  simp only [List.mem_cons, List.not_mem_nil, or_false] at hz
  rcases hz with e | e | e | e | e
  ·rw [e]; exact b4
  ·rw [e]; exact b5
  ·rw [e]; exact b6
  ·rw [e]; exact b9
  ·rw [e]; exact b10) t3 (by omega) (by omega)
 refine ⟨t, Ev.neg c (Ev.b1 e1 (Ev.neg c2 (Ev.b1 f1 (Ev.neg c3 ?_)))), g2, by omega, fun h => ⟨by omega, e4 (by omega), f4 (by omega), g4 h _ (by simp)⟩⟩
 exact ⟨0, fun _ _ => g1⟩
theorem rdX29_drop (l : List S29) (i : Nat) (h : i < l.length) : l.drop i = FaK l i :: l.drop (i + 1) := by
 rw [List.drop_eq_getElem_cons h]
 congr 1
 simp [FaK, List.getD_eq_getElem?_getD, List.getElem?_eq_getElem h]
theorem rdX29_mem (l : List S29) (i : Nat) (h : i < l.length) : FaK l i ∈ l := by
 have := rdX29_drop l i h
 exact List.mem_of_mem_drop (by rw [this]; exact List.mem_cons_self)
def SzL (l : List S29) : Prop := l.length ≤ 1048576 ∧ ∀ x ∈ l, SzX x
theorem szl_l0 (l : List S29) (hl : l.length ≤ 140737488351232) (hz : ∀ x ∈ l, B29 x) (d : Nat) : ∀ (i : Nat) (n : Int), i + d = l.length → 0 ≤ n → n ≤ 1048576 →
  ∃ t, Ev (fun k => Fa2.l0 k l n (i : Int)) t ∧ -1 ≤ t ∧ t ≤ n ∧ (0 ≤ t → ∀ x ∈ l.drop i, SzX x) := by
 induction d with
 | zero =>
  intro i n hi h0 h1
  obtain rfl : i = l.length := by omega
  refine ⟨n, Ev.st (fun k => by rw [Fa2.l0]) (vN (Ev.now _)), by omega, by omega, fun _ a ha => ?_⟩
  rw [List.drop_of_length_le (Nat.le_refl _)] at ha
  exact absurd ha List.not_mem_nil
 | succ d ih =>
  intro i n hi h0 h1
  obtain ⟨t, e1, e2, e3, e4⟩ := szx _ (hz _ (rdX29_mem l i (by omega))) n h0 h1
  by_cases ht : t < 0
  ·refine ⟨-1, ?_, by omega, by omega, fun h => by omega⟩
   refine Ev.st (fun k => by rw [Fa2.l0]) ?_
   refine vP ?_
   refine vP ?_
   refine Ev.b1 e1 ?_
   exact Ev.pos ht (Ev.now _)
  ·obtain ⟨t', f1, f2, f3, f4⟩ := ih (i + 1) t (by omega) (by omega) (by omega)
   refine ⟨t', ?_, f2, by omega, fun h a ha => ?_⟩
   ·refine Ev.st (fun k => by rw [Fa2.l0]) ?_
    refine vP ?_
    refine vP ?_
    refine Ev.b1 e1 ?_
    refine Ev.neg ht ?_
    rw [nsucc (n := l.length) (by omega) (by omega)]
    exact f1
   ·rw [rdX29_drop l i (by omega)] at ha
    rcases List.mem_cons.1 ha with g | g
    ·rw [g]; exact e4 (by omega)
    ·exact f4 h a g
theorem szl (l : List S29) (hl : l.length ≤ 140737488351232) (hz : ∀ x ∈ l, B29 x) (n : Int) (h0 : 0 ≤ n) (h1 : n ≤ 1048576) : ∃ t, Ev (fun k => Fbn.f k l n) t ∧ -1 ≤ t ∧ t ≤ n ∧ (0 ≤ t → SzL l) := by
 have w1 : wrap64 (n - (l.length : Int)) = n - (l.length : Int) := w64 (by omega) (by omega)
 unfold Fbn.f Fa2.f
 rw [w1]
 by_cases c : n - (l.length : Int) < 0
 ·exact ⟨-1, Ev.b1 (Ev.pos c (Ev.now _)) (vP (Ev.now _)), by omega, by omega, fun h => by omega⟩
 ·obtain ⟨t, e1, e2, e3, e4⟩ := szl_l0 l hl hz l.length 0 (n - (l.length : Int)) (by omega) (by omega) (by omega)
  by_cases ht : t < 0
  ·exact ⟨-1, Ev.b1 (Ev.neg c e1) (Ev.pos ht (Ev.now _)), by omega, by omega, fun h => by omega⟩
  ·exact ⟨t, Ev.b1 (Ev.neg c e1) (Ev.neg ht (Ev.now _)), e2, by omega, fun h => ⟨by omega, by have := e4 h; rw [List.drop_zero] at this; exact this⟩⟩
def GE (y : S41) : Prop := y.f0.size ≤ 1048576 ∧ szNs y.f2 ∧ szNs y.f3 ∧ y.f10.size ≤ 1048576
def GL (l : List S41) : Prop := l.length ≤ 1048576 ∧ ∀ y ∈ l, GE y
theorem tox (x : S29) (h : SzX x) : ∃ y : S41, GE y ∧ Ev (fun k => FbB.f k x.f0 x.f1 x.f2 x.f3 x.f4 x.f5 x.f6 x.f7.f0 x.f7.f1 x.f7.f2 x.f7.f3 x.f8 x.f9 x.f10) (y.f0, y.f1, y.f2, y.f3, y.f4, y.f5, y.f6, y.f7.f0, y.f7.f1, y.f7.f2, y.f7.f3, y.f8, y.f9, y.f10) := by
 obtain ⟨l2, e1, z2⟩ := tom x.f2 h.2.1
 obtain ⟨l3, e2, z3⟩ := tom x.f3 h.2.2.1
 refine ⟨⟨x.f0, x.f1, l2, l3, x.f4, x.f5, x.f6, ⟨x.f7.f0, x.f7.f1, x.f7.f2, x.f7.f3⟩, x.f8, x.f9, x.f10⟩, ⟨h.1, z2, z3, h.2.2.2⟩, ?_⟩
 unfold FbB.f Fcb.f
 exact Ev.b1 e1 (Ev.b1 e2 (Ev.now _))
theorem tol (l : List S29) (h : SzL l) : ∃ ys, Ev (fun k => Fbc.f k l) ys ∧ GL ys := by
 have hl := h.1
 have key : ∀ (d : Nat) (acc : List S41) (i : Nat), i + d = l.length → acc.length = l.length → (∀ a ∈ acc.take i, GE a) → ∃ ys : List S41, Ev (fun k => FaX.l0 k l acc (i : Int)) ys ∧ ys.length = l.length ∧ ∀ a ∈ ys, GE a := by
  intro d
  induction d with
  | zero =>
   intro acc i hi ha hk
   rw [List.take_of_length_le (by omega)] at hk
   exact ⟨acc, Ev.st (fun k => by rw [FaX.l0]) (vN (Ev.now _)), ha, hk⟩
  | succ d ih =>
   intro acc i hi ha hk
   obtain ⟨y, g, e1⟩ := tox _ (h.2 _ (rdX29_mem l i (by omega)))
   obtain ⟨ys, f1, f2, f3⟩ := ih (acc.set i y) (i + 1) (by omega) (by rw [List.length_set]; exact ha) (set_keep GE acc i _ (by omega) hk g)
   refine ⟨ys, ?_, f2, f3⟩
   refine Ev.st (fun k => by rw [FaX.l0]) ?_
   refine vP ?_
   refine vP ?_
   refine Ev.b1 e1 ?_
   refine vP ?_
   rw [nsucc (n := l.length) (by omega) (by omega)]
   exact f1
 obtain ⟨ys, e1, e2, e3⟩ := key l.length (List.replicate ((l.length : Int) : Int).toNat z41) 0 (by omega) (by rw [List.length_replicate]; omega) (fun a ha => by rw [List.take_zero] at ha; exact absurd ha List.not_mem_nil)
 refine ⟨ys, ?_, by rw [e2]; exact hl, e3⟩
 unfold Fbc.f FaX.f
 refine Ev.b1 ?_ (Ev.now _)
 refine vP ?_
 refine vP ?_
 exact e1
theorem rdE_drop (l : List S41) (i : Nat) (h : i < l.length) : l.drop i = Faa l i :: l.drop (i + 1) := by
 rw [List.drop_eq_getElem_cons h]
 congr 1
 simp [Faa, List.getD_eq_getElem?_getD, List.getElem?_eq_getElem h]
theorem rdE_mem (l : List S41) (i : Nat) (h : i < l.length) : Faa l i ∈ l := by
 have := rdE_drop l i h
 exact List.mem_of_mem_drop (by rw [this]; exact List.mem_cons_self)
theorem eql (l : List S41) (h : GL l) : Ev (fun k => Fbv.f k l l) true := by
 have hl := h.1
 have key : ∀ (d i : Nat), i + d = l.length → Ev (fun k => FaF.l0 k l l (i : Int)) true := by
  intro d
  induction d with
  | zero =>
   intro i hi
   refine Ev.st (fun k => by rw [FaF.l0]) ?_
   exact vN (Ev.now _)
  | succ d ihd =>
   intro i hi
   have g := h.2 _ (rdE_mem l i (by omega))
   refine Ev.st (fun k => by rw [FaF.l0]) ?_
   refine vP ?_
   refine vP ?_
   refine vP ?_
   refine Ev.b1 (eqe _ _ _ _ _ _ _ _ _ _ _ _ _ _ g.2.1 g.2.2.1) (Ev.tt rfl ?_)
   rw [nsucc (n := l.length) (by omega) (by omega)]
   exact ihd (i + 1) (by omega)
 unfold Fbv.f FaF.f
 exact Ev.b1 (Ev.pos rfl (key l.length 0 (by omega))) (Ev.tt rfl (Ev.now _))
def enX (y : S41) : Bool := enB y.f0 y.f1 y.f2 y.f3 y.f4 y.f5 y.f6 y.f7.f0 y.f7.f1 y.f7.f2 y.f7.f3 y.f8 y.f9 y.f10
theorem lib_l0 (l : List S41) (h : GL l) (d : Nat) : ∀ i : Nat, i + d = l.length → ∃ c : Bool, Ev (fun k => Faf.l0 k l (l.length : Int) (i : Int) l) (c && decide ((l.length : Int) ≤ 8)) ∧ Ev (fun k => FaA.l0 k (i : Int) l) c ∧ (c = true → ∀ y ∈ l.drop i, enX y = true) := by
 have hl := h.1
 induction d with
 | zero =>
  intro i hi
  obtain rfl : i = l.length := by omega
  refine ⟨true, ?_, ?_, fun _ y hy => ?_⟩
  ·refine Ev.st (fun k => by rw [Faf.l0]) ?_
   refine vN ?_
   rw [Bool.true_and]
   exact Ev.now _
  ·refine Ev.st (fun k => by rw [FaA.l0]) ?_
   exact vN (Ev.now _)
  ·rw [List.drop_of_length_le (Nat.le_refl _)] at hy
   exact absurd hy List.not_mem_nil
 | succ d ih =>
  intro i hi
  have g := h.2 _ (rdE_mem l i (by omega))
  have ie := i_entry (Faa l i).f0 (Faa l i).f1 _ _ (Faa l i).f4 (Faa l i).f5 (Faa l i).f6 (Faa l i).f7.f0 (Faa l i).f7.f1 (Faa l i).f7.f2 (Faa l i).f7.f3 (Faa l i).f8 (Faa l i).f9 (Faa l i).f10 g.1 g.2.1 g.2.2.1 g.2.2.2
  have se := s_entry (Faa l i).f0 (Faa l i).f1 _ _ (Faa l i).f4 (Faa l i).f5 (Faa l i).f6 (Faa l i).f7.f0 (Faa l i).f7.f1 (Faa l i).f7.f2 (Faa l i).f7.f3 (Faa l i).f8 (Faa l i).f9 (Faa l i).f10 g.1 g.2.1 g.2.2.1 g.2.2.2
  have ei : ∀ {c : Bool}, Ev (fun k => (Far.f k (Faa l i).f0 (Faa l i).f1 (Faa l i).f2 (Faa l i).f3 (Faa l i).f4 (Faa l i).f5 (Faa l i).f6 (Faa l i).f7.f0 (Faa l i).f7.f1 (Faa l i).f7.f2 (Faa l i).f7.f3 (Faa l i).f8 (Faa l i).f9 (Faa l i).f10).bind fun t536 => (if t536 = true then (if (i : Int) > 0 then (if 0 ≤ (wrap64 ((i : Int) - 1)) then (if (wrap64 ((i : Int) - 1)) < (l.length : Int) then (if ((Op.bytesLess (((Faa l (wrap64 ((i : Int) - 1))).f0).toList) (((Faa l i).f0).toList)) = true) then (Faf.l0 k l (l.length : Int) (wrap64 ((i : Int) + 1)) l) else (some false)) else (none)) else (none)) else (Faf.l0 k l (l.length : Int) (wrap64 ((i : Int) + 1)) l)) else (some false))) c → Ev (fun k => Faf.l0 k l (l.length : Int) (i : Int) l) c := fun e => by
   refine Ev.st (fun k => by rw [Faf.l0]) ?_
   refine vP ?_
   refine vP ?_
   refine vP ?_
   exact e
  have si : ∀ {c : Bool}, Ev (fun k => (Fav.f k (Faa l i).f0 (Faa l i).f1 (Faa l i).f2 (Faa l i).f3 (Faa l i).f4 (Faa l i).f5 (Faa l i).f6 (Faa l i).f7.f0 (Faa l i).f7.f1 (Faa l i).f7.f2 (Faa l i).f7.f3 (Faa l i).f8 (Faa l i).f9 (Faa l i).f10).bind fun t311 => (if t311 = true then (if (i : Int) > 0 then (if 0 ≤ (wrap64 ((i : Int) - 1)) then (if (wrap64 ((i : Int) - 1)) < (l.length : Int) then (if ((Op.bytesLess (((Faa l (wrap64 ((i : Int) - 1))).f0).toList) (((Faa l i).f0).toList)) = true) then (FaA.l0 k (wrap64 ((i : Int) + 1)) l) else (some false)) else (none)) else (none)) else (FaA.l0 k (wrap64 ((i : Int) + 1)) l)) else (some false))) c → Ev (fun k => FaA.l0 k (i : Int) l) c := fun e => by
   refine Ev.st (fun k => by rw [FaA.l0]) ?_
   refine vP ?_
   refine vP ?_
   exact e
  cases he : enX (Faa l i) with
  | false =>
   rw [show enB _ _ _ _ _ _ _ _ _ _ _ _ _ _ = false from he] at ie se
   refine ⟨false, ei ?_, si ?_, fun h => absurd h Bool.false_ne_true⟩
   ·rw [Bool.false_and]
    exact Ev.b1 ie (Ev.ff rfl (Ev.now _))
   ·exact Ev.b1 se (Ev.ff rfl (Ev.now _))
  | true =>
   rw [show enB _ _ _ _ _ _ _ _ _ _ _ _ _ _ = true from he] at ie se
   obtain ⟨c, c1, c2, c3⟩ := ih (i + 1) (by omega)
   rw [← nsucc (n := l.length) (by omega) (by omega)] at c1 c2
   have all : c = true → ∀ y ∈ l.drop i, enX y = true := fun hc y hy => by
    rw [rdE_drop l i (by omega)] at hy
    rcases List.mem_cons.1 hy with e | e
    ·rw [e]; exact he
    ·exact c3 hc y e
   by_cases hp : (i : Int) > 0
   ·have wi : wrap64 ((i : Int) - 1) = ((i - 1 : Nat) : Int) := by rw [w64 (by omega) (by omega)]; omega
    have q0 : 0 ≤ wrap64 ((i : Int) - 1) := by rw [wi]; omega
    have q1 : wrap64 ((i : Int) - 1) < (l.length : Int) := by rw [wi]; omega
    by_cases hq : Op.bytesLess (((Faa l (wrap64 ((i : Int) - 1))).f0).toList) (((Faa l i).f0).toList) = true
    ·exact ⟨c, ei (Ev.b1 ie (Ev.tt rfl (Ev.pos hp (Ev.pos q0 (Ev.pos q1 (Ev.pos hq c1)))))), si (Ev.b1 se (Ev.tt rfl (Ev.pos hp (Ev.pos q0 (Ev.pos q1 (Ev.pos hq c2)))))), all⟩
    ·refine ⟨false, ei ?_, si (Ev.b1 se (Ev.tt rfl (Ev.pos hp (Ev.pos q0 (Ev.pos q1 (Ev.neg hq (Ev.now _))))))), fun h => absurd h Bool.false_ne_true⟩
     rw [Bool.false_and]
     exact Ev.b1 ie (Ev.tt rfl (Ev.pos hp (Ev.pos q0 (Ev.pos q1 (Ev.neg hq (Ev.now _))))))
   ·exact ⟨c, ei (Ev.b1 ie (Ev.tt rfl (Ev.neg hp c1))), si (Ev.b1 se (Ev.tt rfl (Ev.neg hp c2))), all⟩
end Go.Proofs.YtmafmhgmdegplaaGreatDoor.P
