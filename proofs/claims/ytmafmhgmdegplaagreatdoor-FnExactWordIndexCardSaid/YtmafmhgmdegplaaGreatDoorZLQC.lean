/- Queries are trees: their size, conversion, equality, which are valid, what they match; the same for entries. -/
import Derived.Test.YtmafmhgmdegplaaGreatDoorZPx0
import Derived.Test.YtmafmhgmdegplaaGreatDoorZPx1
import Derived.Test.YtmafmhgmdegplaaGreatDoorZPx3
import Derived.Test.YtmafmhgmdegplaaGreatDoorZPx4
import Derived.Test.YtmafmhgmdegplaaGreatDoorZLBase
import Derived.Test.YtmafmhgmdegplaaGreatDoorZLEv
import Derived.Test.YtmafmhgmdegplaaGreatDoorZLQA
import Derived.Test.YtmafmhgmdegplaaGreatDoorZLQB
namespace Go.Proofs.YtmafmhgmdegplaaGreatDoor.P
open Go.RowKit Go.Proofs.YtmafmhgmdegplaaGreatDoorW.PrintWords Go.Proofs.YtmafmhgmdegplaaGreatDoorW.PrintLast Go.Proofs.YtmafmhgmdegplaaGreatDoorW.PrintMore
set_option linter.unusedVariables false
set_option linter.unusedSimpArgs false
theorem set_take {α : Type} (acc : List α) (i : Nat) (y : α) (hi : i < acc.length) : (acc.set i y).take (i + 1) = acc.take i ++ [y] := by
 have hl : (acc.take i).length = i := by rw [List.length_take]; omega
 rw [List.take_set, List.take_add_one, List.getElem?_eq_getElem hi, Option.toList_some, List.set_append_right _ _ (by omega), hl]
 simp
theorem set_keep {α : Type} (P : α → Prop) (acc : List α) (i : Nat) (y : α) (hi : i < acc.length) (h : ∀ a ∈ acc.take i, P a) (hy : P y) : ∀ a ∈ (acc.set i y).take (i + 1), P a := by
 intro a ha
 rw [set_take acc i y hi] at ha
 rcases List.mem_append.1 ha with q | q
 ·exact h a q
 ·rw [List.mem_singleton.1 q]; exact hy
def SzS (l : List ByteArray) : Prop := l.length ≤ 1048576 ∧ ∀ x ∈ l, x.size ≤ 1048576
theorem szs_l0 (l : List ByteArray) (hl : l.length ≤ 140737488351232) (hz : ∀ x ∈ l, x.size ≤ 140737488351232) (d : Nat) : ∀ (i : Nat) (n : Int), i + d = l.length → 0 ≤ n → n ≤ 1048576 →
  ∃ t, Ev (fun k => FaU.l0 k l n (i : Int)) t ∧ -1 ≤ t ∧ t ≤ n ∧ (0 ≤ t → ∀ x ∈ l.drop i, x.size ≤ 1048576) := by
 induction d with
 | zero =>
  intro i n hi h0 h1
  obtain rfl : i = l.length := by omega
  refine ⟨n, Ev.st (fun k => by rw [FaU.l0]) (vN (Ev.now _)), by omega, by omega, fun _ a ha => ?_⟩
  rw [List.drop_of_length_le (Nat.le_refl _)] at ha
  exact absurd ha List.not_mem_nil
 | succ d ih =>
  intro i n hi h0 h1
  have hx := hz _ (rd_mem l i (by omega))
  have w1 : wrap64 (n - ((rdOf ByteArray.empty l (i : Int)).size : Int)) = n - ((rdOf ByteArray.empty l (i : Int)).size : Int) := w64 (by omega) (by omega)
  by_cases c : n - ((rdOf ByteArray.empty l (i : Int)).size : Int) < 0
  ·refine ⟨-1, ?_, by omega, by omega, fun h => by omega⟩
   refine Ev.st (fun k => by rw [FaU.l0]) ?_
   refine vP ?_
   refine vP ?_
   rw [w1]
   exact Ev.pos c (Ev.now _)
  ·obtain ⟨t, e1, e2, e3, e4⟩ := ih (i + 1) (n - ((rdOf ByteArray.empty l (i : Int)).size : Int)) (by omega) (by omega) (by omega)
   refine ⟨t, ?_, e2, by omega, fun h a ha => ?_⟩
   ·refine Ev.st (fun k => by rw [FaU.l0]) ?_
    refine vP ?_
    refine vP ?_
    rw [w1]
    refine Ev.neg c ?_
    rw [nsucc (n := l.length) (by omega) (by omega)]
    exact e1
   ·rw [rdOf_drop l i (by omega)] at ha
    rcases List.mem_cons.1 ha with g | g
    ·rw [g]; omega
    ·exact e4 h a g
theorem szs (l : List ByteArray) (hl : l.length ≤ 140737488351232) (hz : ∀ x ∈ l, x.size ≤ 140737488351232) (n : Int) (h0 : 0 ≤ n) (h1 : n ≤ 1048576) : ∃ t, Ev (fun k => FaU.f k l n) t ∧ -1 ≤ t ∧ t ≤ n ∧ (0 ≤ t → SzS l) := by
 have w1 : wrap64 (n - (l.length : Int)) = n - (l.length : Int) := w64 (by omega) (by omega)
 unfold FaU.f
 rw [w1]
 by_cases c : n - (l.length : Int) < 0
 ·exact ⟨-1, Ev.pos c (Ev.now _), by omega, by omega, fun h => by omega⟩
 ·obtain ⟨t, e1, e2, e3, e4⟩ := szs_l0 l hl hz l.length 0 (n - (l.length : Int)) (by omega) (by omega) (by omega)
  exact ⟨t, Ev.neg c e1, e2, by omega, fun h => ⟨by omega, by have := e4 h; rw [List.drop_zero] at this; exact this⟩⟩
theorem sub_one (A : Nat → Int → Option Int) (m : Int) (z : Nat) (hm : 0 ≤ m) (hm1 : m ≤ 1048576) (hz : z ≤ 140737488351232) (P : Prop)
  (h : z ≤ 1048576 → ∀ m' : Int, m' = m - (z : Int) → 0 ≤ m' → m' ≤ 1048576 → ∃ t, Ev (fun k => A k m') t ∧ -1 ≤ t ∧ t ≤ m' ∧ (0 ≤ t → P)) :
  ∃ t, Ev (fun k => if wrap64 (m - (z : Int)) < 0 then some (-1) else A k (wrap64 (m - (z : Int)))) t ∧ -1 ≤ t ∧ t ≤ m ∧ (0 ≤ t → P ∧ z ≤ 1048576) := by
 have w1 : wrap64 (m - (z : Int)) = m - (z : Int) := w64 (by omega) (by omega)
 rw [w1]
 by_cases c : m - (z : Int) < 0
 ·exact ⟨-1, Ev.pos c (Ev.now _), by omega, by omega, fun h => by omega⟩
 ·obtain ⟨t, e1, e2, e3, e4⟩ := h (by omega) _ rfl (by omega) (by omega)
  exact ⟨t, Ev.neg c e1, e2, by omega, fun h => ⟨e4 h, by omega⟩⟩
theorem szn (x : S152) (hB : B152 x) (n : Int) (h0 : 0 ≤ n) (h1 : n ≤ 1048576) : ∃ t, Ev (fun k => FbL.f k x.f0 x.f1 x.f2 x.f3 n) t ∧ -1 ≤ t ∧ t ≤ n ∧ (0 ≤ t → szN x.f0 x.f1 x.f2 x.f3) := by
 obtain ⟨⟨b0, b0', b0''⟩, b1, b2, b3⟩ := hB
 obtain ⟨t0, e1, e2, e3, e4⟩ := szs x.f0 (by omega) b0'' n h0 h1
 unfold FbL.f
 by_cases c : t0 < 0
 ·exact ⟨-1, Ev.b1 e1 (Ev.pos c (Ev.now _)), by omega, by omega, fun h => by omega⟩
 obtain ⟨t, f1, f2, f3, f4⟩ := sub_one (fun _ m => if wrap64 (m - (x.f2.size : Int)) < 0 then some (-1) else if wrap64 (wrap64 (m - (x.f2.size : Int)) - (x.f3.size : Int)) < 0 then some (-1) else some (wrap64 (wrap64 (m - (x.f2.size : Int)) - (x.f3.size : Int)))) t0 x.f1.size (by omega) (by omega) b1 (x.f2.size ≤ 1048576 ∧ x.f3.size ≤ 1048576) (fun _ m hm q0 q1 => by
  obtain ⟨t, g1, g2, g3, g4⟩ := sub_one (fun _ m => if wrap64 (m - (x.f3.size : Int)) < 0 then some (-1) else some (wrap64 (m - (x.f3.size : Int)))) m x.f2.size q0 q1 b2 (x.f3.size ≤ 1048576) (fun _ m hm q0 q1 => by
   obtain ⟨t, g1, g2, g3, g4⟩ := sub_one (fun _ m => some m) m x.f3.size q0 q1 b3 True (fun _ m hm q0 q1 => ⟨m, Ev.now _, by omega, by omega, fun _ => trivial⟩)
   exact ⟨t, g1, g2, g3, fun h => (g4 h).2⟩)
  exact ⟨t, g1, g2, g3, fun h => ⟨(g4 h).2, (g4 h).1⟩⟩)
 refine ⟨t, Ev.b1 e1 (Ev.neg c f1), f2, by omega, fun h => ?_⟩
 obtain ⟨⟨k1, k2⟩, k3⟩ := f4 h
 obtain ⟨k4, k5⟩ := e4 (by omega)
 exact ⟨k4, k5, k3, k1, k2⟩
theorem rdM_drop (l : List S152) (i : Nat) (h : i < l.length) : l.drop i = Fbu l i :: l.drop (i + 1) := by
 rw [List.drop_eq_getElem_cons h]
 congr 1
 simp [Fbu, List.getD_eq_getElem?_getD, List.getElem?_eq_getElem h]
theorem rdM_mem (l : List S152) (i : Nat) (h : i < l.length) : Fbu l i ∈ l := by
 exact List.mem_of_mem_drop (i := i) (by rw [rdM_drop l i h]; exact List.mem_cons_self)
def SzM (l : List S152) : Prop := l.length ≤ 1048576 ∧ ∀ x ∈ l, szN x.f0 x.f1 x.f2 x.f3
theorem szm_l0 (l : List S152) (hl : l.length ≤ 140737488351232) (hz : ∀ x ∈ l, B152 x) (d : Nat) : ∀ (i : Nat) (n : Int), i + d = l.length → 0 ≤ n → n ≤ 1048576 →
  ∃ t, Ev (fun k => FaY.l0 k l n (i : Int)) t ∧ -1 ≤ t ∧ t ≤ n ∧ (0 ≤ t → ∀ x ∈ l.drop i, szN x.f0 x.f1 x.f2 x.f3) := by
 induction d with
 | zero =>
  intro i n hi h0 h1
  obtain rfl : i = l.length := by omega
  refine ⟨n, Ev.st (fun k => by rw [FaY.l0]) (vN (Ev.now _)), by omega, by omega, fun _ a ha => ?_⟩
  rw [List.drop_of_length_le (Nat.le_refl _)] at ha
  exact absurd ha List.not_mem_nil
 | succ d ih =>
  intro i n hi h0 h1
  obtain ⟨t, e1, e2, e3, e4⟩ := szn _ (hz _ (rdM_mem l i (by omega))) n h0 h1
  by_cases ht : t < 0
  ·refine ⟨-1, ?_, by omega, by omega, fun h => by omega⟩
   refine Ev.st (fun k => by rw [FaY.l0]) ?_
   refine vP ?_
   refine vP ?_
   refine Ev.b1 e1 ?_
   exact Ev.pos ht (Ev.now _)
  ·obtain ⟨t', f1, f2, f3, f4⟩ := ih (i + 1) t (by omega) (by omega) (by omega)
   refine ⟨t', ?_, f2, by omega, fun h a ha => ?_⟩
   ·refine Ev.st (fun k => by rw [FaY.l0]) ?_
    refine vP ?_
    refine vP ?_
    refine Ev.b1 e1 ?_
    refine Ev.neg ht ?_
    rw [nsucc (n := l.length) (by omega) (by omega)]
    exact f1
   ·rw [rdM_drop l i (by omega)] at ha
    rcases List.mem_cons.1 ha with g | g
    ·rw [g]; exact e4 (by omega)
    ·exact f4 h a g
theorem szm (l : List S152) (hl : l.length ≤ 140737488351232) (hz : ∀ x ∈ l, B152 x) (n : Int) (h0 : 0 ≤ n) (h1 : n ≤ 1048576) : ∃ t, Ev (fun k => FaY.f k l n) t ∧ -1 ≤ t ∧ t ≤ n ∧ (0 ≤ t → SzM l) := by
 have w1 : wrap64 (n - (l.length : Int)) = n - (l.length : Int) := w64 (by omega) (by omega)
 unfold FaY.f
 rw [w1]
 by_cases c : n - (l.length : Int) < 0
 ·exact ⟨-1, Ev.pos c (Ev.now _), by omega, by omega, fun h => by omega⟩
 ·obtain ⟨t, e1, e2, e3, e4⟩ := szm_l0 l hl hz l.length 0 (n - (l.length : Int)) (by omega) (by omega) (by omega)
  exact ⟨t, Ev.neg c e1, e2, by omega, fun h => ⟨by omega, by have := e4 h; rw [List.drop_zero] at this; exact this⟩⟩
theorem tos (l : List ByteArray) (h : SzS l) : ∃ ys, Ev (fun k => FaR.f k l) ys ∧ SzS ys := by
 have key : ∀ (d : Nat) (acc : List ByteArray) (i : Nat), i + d = l.length → acc.length = l.length → (∀ a ∈ acc.take i, a.size ≤ 1048576) → ∃ ys : List ByteArray, Ev (fun k => FaR.l0 k l acc (i : Int)) ys ∧ ys.length = l.length ∧ ∀ a ∈ ys, a.size ≤ 1048576 := by
  have hl := h.1
  intro d
  induction d with
  | zero =>
   intro acc i hi ha hk
   rw [List.take_of_length_le (by omega)] at hk
   exact ⟨acc, Ev.st (fun k => by rw [FaR.l0]) (vN (Ev.now _)), ha, hk⟩
  | succ d ih =>
   intro acc i hi ha hk
   obtain ⟨ys, f1, f2, f3⟩ := ih (acc.set i (rdOf ByteArray.empty l (i : Int))) (i + 1) (by omega) (by rw [List.length_set]; exact ha) (set_keep (fun a : ByteArray => a.size ≤ 1048576) acc i _ (by omega) hk (h.2 _ (rd_mem l i (by omega))))
   refine ⟨ys, ?_, f2, f3⟩
   refine Ev.st (fun k => by rw [FaR.l0]) ?_
   refine vP ?_
   refine vP ?_
   refine vP ?_
   rw [nsucc (n := l.length) (by omega) (by omega)]
   exact f1
 have hl := h.1
 obtain ⟨ys, e1, e2, e3⟩ := key l.length (List.replicate ((l.length : Int) : Int).toNat (⟨#[]⟩ : ByteArray)) 0 (by omega) (by rw [List.length_replicate]; omega) (fun a ha => by rw [List.take_zero] at ha; exact absurd ha List.not_mem_nil)
 refine ⟨ys, ?_, by rw [e2]; exact hl, e3⟩
 unfold FaR.f
 refine vP ?_
 refine vP ?_
 exact e1
theorem ton (x : S152) (h : szN x.f0 x.f1 x.f2 x.f3) : ∃ y : S157, Ev (fun k => FbM.f k x.f0 x.f1 x.f2 x.f3) (y.f0, y.f1, y.f2, y.f3) ∧ szN y.f0 y.f1 y.f2 y.f3 := by
 obtain ⟨ys, e1, e2⟩ := tos x.f0 ⟨h.1, h.2.1⟩
 refine ⟨⟨ys, x.f1, x.f2, x.f3⟩, ?_, e2.1, e2.2, h.2.2⟩
 unfold FbM.f
 exact Ev.b1 e1 (Ev.now _)
theorem tom (l : List S152) (h : SzM l) : ∃ ys, Ev (fun k => FaV.f k l) ys ∧ szNs ys := by
 have hl := h.1
 have key : ∀ (d : Nat) (acc : List S157) (i : Nat), i + d = l.length → acc.length = l.length → (∀ a ∈ acc.take i, szN a.f0 a.f1 a.f2 a.f3) → ∃ ys : List S157, Ev (fun k => FaV.l0 k l acc (i : Int)) ys ∧ ys.length = l.length ∧ ∀ a ∈ ys, szN a.f0 a.f1 a.f2 a.f3 := by
  intro d
  induction d with
  | zero =>
   intro acc i hi ha hk
   rw [List.take_of_length_le (by omega)] at hk
   exact ⟨acc, Ev.st (fun k => by rw [FaV.l0]) (vN (Ev.now _)), ha, hk⟩
  | succ d ih =>
   intro acc i hi ha hk
   obtain ⟨y, e1, e2⟩ := ton _ (h.2 _ (rdM_mem l i (by omega)))
   obtain ⟨ys, f1, f2, f3⟩ := ih (acc.set i y) (i + 1) (by omega) (by rw [List.length_set]; exact ha) (set_keep (fun a : S157 => szN a.f0 a.f1 a.f2 a.f3) acc i _ (by omega) hk e2)
   refine ⟨ys, ?_, f2, f3⟩
   refine Ev.st (fun k => by rw [FaV.l0]) ?_
   refine vP ?_
   refine vP ?_
   refine Ev.b1 e1 ?_
   refine vP ?_
   rw [nsucc (n := l.length) (by omega) (by omega)]
   exact f1
 obtain ⟨ys, e1, e2, e3⟩ := key l.length (List.replicate ((l.length : Int) : Int).toNat z157) 0 (by omega) (by rw [List.length_replicate]; omega) (fun a ha => by rw [List.take_zero] at ha; exact absurd ha List.not_mem_nil)
 refine ⟨ys, ?_, by rw [e2]; exact hl, e3⟩
 unfold FaV.f
 refine vP ?_
 refine vP ?_
 exact e1
theorem eqs (l : List ByteArray) (hl : l.length ≤ 1048576) : Ev (fun k => FaP.f k l l) true := by
 have key : ∀ (d i : Nat), i + d = l.length → Ev (fun k => FaP.l0 k l l (i : Int)) true := by
  intro d
  induction d with
  | zero =>
   intro i hi
   refine Ev.st (fun k => by rw [FaP.l0]) ?_
   exact vN (Ev.now _)
  | succ d ihd =>
   intro i hi
   refine Ev.st (fun k => by rw [FaP.l0]) ?_
   refine vP ?_
   refine vP ?_
   refine vP ?_
   refine Ev.pos rfl ?_
   rw [nsucc (n := l.length) (by omega) (by omega)]
   exact ihd (i + 1) (by omega)
 unfold FaP.f
 exact Ev.pos rfl (key l.length 0 (by omega))
theorem eqm (l : List S157) (h : szNs l) : Ev (fun k => FaC.f k l l) true := by
 have hl := h.1
 have key : ∀ (d i : Nat), i + d = l.length → Ev (fun k => FaC.l0 k l l (i : Int)) true := by
  intro d
  induction d with
  | zero =>
   intro i hi
   refine Ev.st (fun k => by rw [FaC.l0]) ?_
   exact vN (Ev.now _)
  | succ d ihd =>
   intro i hi
   refine Ev.st (fun k => by rw [FaC.l0]) ?_
   refine vP ?_
   refine vP ?_
   refine vP ?_
   refine Ev.b1 (a := true) ?_ (Ev.tt rfl ?_)
   ·unfold FbN.f
    refine Ev.b1 (eqs _ (h.2 _ (rdN_mem l i (by omega))).1) (Ev.tt rfl ?_)
    refine Ev.pos rfl ?_
    refine Ev.pos rfl ?_
    exact Ev.pos rfl (Ev.now _)
   ·rw [nsucc (n := l.length) (by omega) (by omega)]
    exact ihd (i + 1) (by omega)
 unfold FaC.f
 exact Ev.pos rfl (key l.length 0 (by omega))
theorem eqe (a0 : ByteArray) (a1 : Int) (l2 l3 : List S157) (a4 a5 a6 : ByteArray) (a7 a8 a9 : Int) (a10 : Bool) (a11 : Int) (a12 a13 : ByteArray) (z2 : szNs l2) (z3 : szNs l3) :
  Ev (fun k => FbC.f k a0 a1 l2 l3 a4 a5 a6 a7 a8 a9 a10 a11 a12 a13 a0 a1 l2 l3 a4 a5 a6 a7 a8 a9 a10 a11 a12 a13) true := by
 unfold FbC.f
 refine Ev.pos rfl ?_
 refine Ev.pos rfl ?_
 refine Ev.b1 (eqm l2 z2) (Ev.tt rfl ?_)
 refine Ev.b1 (eqm l3 z3) (Ev.tt rfl ?_)
 refine Ev.pos rfl ?_
 refine Ev.pos rfl ?_
 refine Ev.pos rfl ?_
 refine Ev.b0 (a := true) ?_ (Ev.tt rfl ?_)
 ·unfold Fcc.f
  rw [if_pos rfl, if_pos rfl, if_pos rfl]
  cases a10 <;> rfl
 refine Ev.pos rfl ?_
 refine Ev.pos rfl ?_
 exact Ev.pos rfl (Ev.now _)
end Go.Proofs.YtmafmhgmdegplaaGreatDoor.P
