/- Queries are trees: their size, conversion, equality, which are valid, what they match; the same for entries. -/
import Derived.Test.YtmafmhgmdegplaaGreatDoorZPx0
import Derived.Test.YtmafmhgmdegplaaGreatDoorZPx15
import Derived.Test.YtmafmhgmdegplaaGreatDoorZPx17
import Derived.Test.YtmafmhgmdegplaaGreatDoorZPx18
import Derived.Test.YtmafmhgmdegplaaGreatDoorZPx1
import Derived.Test.YtmafmhgmdegplaaGreatDoorZPx22
import Derived.Test.YtmafmhgmdegplaaGreatDoorZPx27
import Derived.Test.YtmafmhgmdegplaaGreatDoorZPx29
import Derived.Test.YtmafmhgmdegplaaGreatDoorZPx4
import Derived.Test.YtmafmhgmdegplaaGreatDoorZPx9
import Derived.Test.YtmafmhgmdegplaaGreatDoorZLBase
import Derived.Test.YtmafmhgmdegplaaGreatDoorZLEv
import Derived.Test.YtmafmhgmdegplaaGreatDoorZLQA
import Derived.Test.YtmafmhgmdegplaaGreatDoorZLQB
namespace Go.Proofs.YtmafmhgmdegplaaGreatDoor.P
open Go.RowKit Go.Proofs.YtmafmhgmdegplaaGreatDoorW.PrintWords Go.Proofs.YtmafmhgmdegplaaGreatDoorW.PrintLast Go.Proofs.YtmafmhgmdegplaaGreatDoorW.PrintMore
set_option linter.unusedVariables false
set_option linter.unusedSimpArgs false
inductive OkX : S24 → Prop
 | mk (x : S24) (h1 : x.f1.size ≤ 1048576) (h2 : x.f2.size ≤ 1048576) (h3 : x.f3.length ≤ 1048576) (h : ∀ a ∈ x.f3, OkX a) : OkX x
inductive OkQ : S36 → Prop
 | mk (x : S36) (h1 : x.f1.size ≤ 1048576) (h2 : x.f2.size ≤ 1048576) (h3 : x.f3.length ≤ 1048576) (h : ∀ a ∈ x.f3, OkQ a) : OkQ x
mutual
def ndX : S24 → Nat
 | ⟨_, _, _, l⟩ => 1 + ndXL l
def ndXL : List S24 → Nat
 | [] => 0
 | x :: r => ndX x + ndXL r
end
mutual
def ndQ : S36 → Nat
 | ⟨_, _, _, l⟩ => 1 + ndQL l
def ndQL : List S36 → Nat
 | [] => 0
 | x :: r => ndQ x + ndQL r
end
theorem ndX_eq (x : S24) : ndX x = 1 + ndXL x.f3 := by cases x; rw [ndX]
theorem ndQ_eq (x : S36) : ndQ x = 1 + ndQL x.f3 := by cases x; rw [ndQ]
theorem ndXL_app (a b : List S24) : ndXL (a ++ b) = ndXL a + ndXL b := by
 induction a with
 | nil => rw [List.nil_append, ndXL, Nat.zero_add]
 | cons x r ih => rw [List.cons_append, ndXL, ndXL, ih, Nat.add_assoc]
theorem ndQL_app (a b : List S36) : ndQL (a ++ b) = ndQL a + ndQL b := by
 induction a with
 | nil => rw [List.nil_append, ndQL, Nat.zero_add]
 | cons x r ih => rw [List.cons_append, ndQL, ndQL, ih, Nat.add_assoc]
theorem rdX_drop (l : List S24) (i : Nat) (h : i < l.length) : l.drop i = Fbv l i :: l.drop (i + 1) := by
 rw [List.drop_eq_getElem_cons h]
 congr 1
 simp [Fbv, List.getD_eq_getElem?_getD, List.getElem?_eq_getElem h]
theorem rdX_mem (l : List S24) (i : Nat) (h : i < l.length) : Fbv l i ∈ l := by
 exact List.mem_of_mem_drop (i := i) (by rw [rdX_drop l i h]; exact List.mem_cons_self)
theorem rdQ_drop (l : List S36) (i : Nat) (h : i < l.length) : l.drop i = Fab l i :: l.drop (i + 1) := by
 rw [List.drop_eq_getElem_cons h]
 congr 1
 simp [Fab, List.getD_eq_getElem?_getD, List.getElem?_eq_getElem h]
theorem rdQ_mem (l : List S36) (i : Nat) (h : i < l.length) : Fab l i ∈ l := by
 exact List.mem_of_mem_drop (i := i) (by rw [rdQ_drop l i h]; exact List.mem_cons_self)
def SzOk (x : S24) : Prop := ∀ n : Int, 0 ≤ n → n ≤ 1048576 → ∃ t, Ev (fun k => Fbm.f k x.f0 x.f1 x.f2 x.f3 n) t ∧ -1 ≤ t ∧ t ≤ n ∧ (0 ≤ t → OkX x ∧ (ndX x : Int) ≤ 1 + n - t)
theorem sz_list (l : List S24) (hl : l.length ≤ 140737488351232) (hx : ∀ a ∈ l, SzOk a) (d : Nat) : ∀ (i : Nat) (n : Int), i + d = l.length → 0 ≤ n → n ≤ 1048576 →
  ∃ t, Ev (fun k => FaC.l0 k l n (i : Int)) t ∧ -1 ≤ t ∧ t ≤ n ∧ (0 ≤ t → (∀ a ∈ l.drop i, OkX a) ∧ (ndXL (l.drop i) : Int) ≤ (d : Int) + n - t) := by
 induction d with
 | zero =>
  intro i n hi h0 h1
  obtain rfl : i = l.length := by omega
  refine ⟨n, Ev.st (fun k => by rw [FaC.l0]) (vN (Ev.now _)), by omega, by omega, fun _ => ?_⟩
  rw [List.drop_of_length_le (Nat.le_refl _), ndXL]
  exact ⟨fun a ha => absurd ha List.not_mem_nil, by omega⟩
 | succ d ih =>
  intro i n hi h0 h1
  obtain ⟨t, e1, e2, e3, e4⟩ := hx _ (rdX_mem l i (by omega)) n h0 h1
  by_cases ht : t < 0
  ·refine ⟨-1, ?_, by omega, by omega, fun h => by omega⟩
   refine Ev.st (fun k => by rw [FaC.l0]) ?_
   refine vP ?_
   refine vP ?_
   refine Ev.b1 e1 ?_
   exact Ev.pos ht (Ev.now _)
  ·obtain ⟨t', f1, f2, f3, f4⟩ := ih (i + 1) t (by omega) (by omega) (by omega)
   refine ⟨t', ?_, f2, by omega, fun h => ?_⟩
   ·refine Ev.st (fun k => by rw [FaC.l0]) ?_
    refine vP ?_
    refine vP ?_
    refine Ev.b1 e1 ?_
    refine Ev.neg ht ?_
    rw [nsucc (n := l.length) (by omega) (by omega)]
    exact f1
   ·obtain ⟨g1, g2⟩ := e4 (by omega)
    obtain ⟨k1, k2⟩ := f4 h
    rw [rdX_drop l i (by omega), ndXL]
    refine ⟨fun a ha => ?_, by omega⟩
    rcases List.mem_cons.1 ha with g | g
    ·rw [g]; exact g1
    ·exact k1 a g
theorem sz_query (x : S24) (hB : B24 x) : SzOk x := by
 induction hB with
 | mk x h0 h1 h2 h3l h3m h3 ih =>
  intro n hn0 hn1
  have w1 : wrap64 (n - (x.f1.size : Int)) = n - (x.f1.size : Int) := w64 (by omega) (by omega)
  by_cases c1 : n - (x.f1.size : Int) < 0
  ·refine ⟨-1, ?_, by omega, by omega, fun h => by omega⟩
   refine Ev.st (fun k => by rw [Fbm.f]) ?_
   rw [w1]
   exact Ev.pos c1 (Ev.now _)
  have w2 : wrap64 ((n - (x.f1.size : Int)) - (x.f2.size : Int)) = (n - (x.f1.size : Int)) - (x.f2.size : Int) := w64 (by omega) (by omega)
  by_cases c2 : (n - (x.f1.size : Int)) - (x.f2.size : Int) < 0
  ·refine ⟨-1, ?_, by omega, by omega, fun h => by omega⟩
   refine Ev.st (fun k => by rw [Fbm.f]) ?_
   rw [w1, w2]
   refine Ev.neg c1 ?_
   exact Ev.pos c2 (Ev.now _)
  generalize hm : (n - (x.f1.size : Int)) - (x.f2.size : Int) = m at w2 c2
  have w3 : wrap64 (m - (x.f3.length : Int)) = m - (x.f3.length : Int) := w64 (by omega) (by omega)
  have head : ∀ t : Int, Ev (fun k => FaC.f k x.f3 m) t → Ev (fun k => if t < 0 then some (-1) else some t) (if t < 0 then -1 else t) → Ev (fun k => Fbm.f k x.f0 x.f1 x.f2 x.f3 n) (if t < 0 then -1 else t) := by
   intro t e e2
   refine Ev.st (fun k => by rw [Fbm.f]) ?_
   rw [w1, hm, w2]
   refine Ev.neg c1 ?_
   refine Ev.neg c2 ?_
   exact Ev.b1 e e2
  by_cases c3 : m - (x.f3.length : Int) < 0
  ·refine ⟨-1, ?_, by omega, by omega, fun h => by omega⟩
   refine Ev.eq (head (-1) ?_ (vP (Ev.now _))) (if_pos (by omega))
   refine Ev.st (fun k => by rw [FaC.f]) ?_
   rw [w3]
   exact Ev.pos c3 (Ev.now _)
  ·obtain ⟨t, e1, e2, e3, e4⟩ := sz_list x.f3 (by omega) ih x.f3.length 0 (m - (x.f3.length : Int)) (by omega) (by omega) (by omega)
   have eS : Ev (fun k => FaC.f k x.f3 m) t := by
    refine Ev.st (fun k => by rw [FaC.f]) ?_
    rw [w3]
    exact Ev.neg c3 e1
   by_cases ht : t < 0
   ·exact ⟨-1, Ev.eq (head t eS (Ev.eq (Ev.pos ht (Ev.now _)) (if_pos ht).symm)) (if_pos ht), by omega, by omega, fun h => by omega⟩
   ·refine ⟨t, Ev.eq (head t eS (Ev.eq (Ev.neg ht (Ev.now _)) (if_neg ht).symm)) (if_neg ht), by omega, by omega, fun h => ?_⟩
    obtain ⟨g1, g2⟩ := e4 h
    rw [List.drop_zero] at g1 g2
    exact ⟨OkX.mk x (by omega) (by omega) (by omega) g1, by rw [ndX_eq]; omega⟩
theorem set_take {α : Type} (acc : List α) (i : Nat) (y : α) (hi : i < acc.length) : (acc.set i y).take (i + 1) = acc.take i ++ [y] := by
 have hl : (acc.take i).length = i := by rw [List.length_take]; omega
 rw [List.take_set, List.take_add_one, List.getElem?_eq_getElem hi, Option.toList_some, List.set_append_right _ _ (by omega), hl]
 simp
theorem set_keep {α : Type} (P : α → Prop) (acc : List α) (i : Nat) (y : α) (hi : i < acc.length) (h : ∀ a ∈ acc.take i, P a) (hy : P y) : ∀ a ∈ (acc.set i y).take (i + 1), P a := by
 intro a ha
 rw [set_take acc i y hi] at ha
 rcases List.mem_append.1 ha with q | q
 ·exact h a q
 ·rw [List.mem_singleton.1 q]; exact hy
theorem takeX (l : List S24) (i : Nat) (h : i < l.length) : ndXL (l.take (i + 1)) = ndXL (l.take i) + ndX (Fbv l i) := by
 have e2 : l[i]? = some (Fbv l i) := by
  have := congrArg List.head? (rdX_drop l i h)
  rw [List.head?_drop, List.head?_cons] at this
  exact this
 rw [List.take_add_one, e2, Option.toList_some, ndXL_app, ndXL, ndXL, Nat.add_zero]
def ToOk (x : S24) : Prop := ∃ y : S36, Ev (fun k => Fbe.f k x.f0 x.f1 x.f2 x.f3) (y.f0, y.f1, y.f2, y.f3) ∧ OkQ y ∧ ndQ y = ndX x
theorem to_list (l : List S24) (hl : l.length ≤ 1048576) (hx : ∀ a ∈ l, ToOk a) (d : Nat) : ∀ (acc : List S36) (i : Nat), i + d = l.length → acc.length = l.length → (∀ a ∈ acc.take i, OkQ a) → ndQL (acc.take i) = ndXL (l.take i) →
  ∃ ys : List S36, Ev (fun k => FaD.l0 k l acc (i : Int)) ys ∧ ys.length = l.length ∧ (∀ a ∈ ys, OkQ a) ∧ ndQL ys = ndXL l := by
 induction d with
 | zero =>
  intro acc i hi ha hk hc
  obtain rfl : i = l.length := by omega
  rw [List.take_of_length_le (by omega)] at hk hc
  rw [List.take_of_length_le (Nat.le_refl _)] at hc
  exact ⟨acc, Ev.st (fun k => by rw [FaD.l0]) (vN (Ev.now _)), ha, hk, hc⟩
 | succ d ih =>
  intro acc i hi ha hk hc
  obtain ⟨y, e1, e2, e3⟩ := hx _ (rdX_mem l i (by omega))
  obtain ⟨ys, f1, f2, f3⟩ := ih (acc.set i y) (i + 1) (by omega) (by rw [List.length_set]; exact ha) (set_keep OkQ acc i y (by omega) hk e2) (by
   rw [set_take acc i y (by omega), ndQL_app, ndQL, ndQL, Nat.add_zero, takeX l i (by omega), hc, e3])
  refine ⟨ys, ?_, f2, f3⟩
  refine Ev.st (fun k => by rw [FaD.l0]) ?_
  refine vP ?_
  refine vP ?_
  refine Ev.b1 e1 ?_
  refine vP ?_
  rw [nsucc (n := l.length) (by omega) (by omega)]
  have ey : (⟨y.f0, y.f1, y.f2, y.f3⟩ : S36) = y := by cases y; rfl
  show Ev (fun n => FaD.l0 n l (acc.set ((i : Int)).toNat (⟨y.f0, y.f1, y.f2, y.f3⟩ : S36)) _) ys
  rw [ey, Int.toNat_natCast]
  exact f1
theorem to_query (x : S24) (h : OkX x) : ToOk x := by
 induction h with
 | mk x h1 h2 h3 h ih =>
  obtain ⟨ys, e1, e2, e3, e4⟩ := to_list x.f3 h3 ih x.f3.length (List.replicate ((x.f3.length : Int) : Int).toNat z36) 0 (by omega) (by rw [List.length_replicate]; omega) (fun a ha => by rw [List.take_zero] at ha; exact absurd ha List.not_mem_nil) (by rw [List.take_zero, List.take_zero, ndQL, ndXL])
  refine ⟨⟨x.f0, x.f1, x.f2, ys⟩, ?_, OkQ.mk _ h1 h2 (by show ys.length ≤ _; omega) e3, by rw [ndQ_eq, ndX_eq]; show 1 + ndQL ys = _; rw [e4]⟩
  refine Ev.st (fun k => by rw [Fbe.f]) ?_
  refine Ev.b1 (a := ys) ?_ (Ev.now _)
  refine Ev.st (fun k => by rw [FaD.f]) ?_
  refine vP ?_
  refine vP ?_
  exact e1
def EqOk (y : S36) : Prop := Ev (fun k => Fbr.f k y.f0 y.f1 y.f2 y.f3 y.f0 y.f1 y.f2 y.f3) true
theorem eq_query (y : S36) (h : OkQ y) : EqOk y := by
 induction h with
 | mk y h1 h2 h3 h ih =>
  have key : ∀ (d i : Nat), i + d = y.f3.length → Ev (fun k => Faz.l0 k y.f3 y.f3 (i : Int)) true := by
   intro d
   induction d with
   | zero =>
    intro i hi
    refine Ev.st (fun k => by rw [Faz.l0]) ?_
    exact vN (Ev.now _)
   | succ d ihd =>
    intro i hi
    refine Ev.st (fun k => by rw [Faz.l0]) ?_
    refine vP ?_
    refine vP ?_
    refine vP ?_
    refine Ev.b1 (ih _ (rdQ_mem y.f3 i (by omega))) ?_
    refine Ev.tt rfl ?_
    rw [nsucc (n := y.f3.length) (by omega) (by omega)]
    exact ihd (i + 1) (by omega)
  refine Ev.st (fun k => by rw [Fbr.f]) ?_
  refine Ev.pos rfl ?_
  refine Ev.pos rfl ?_
  refine Ev.pos rfl ?_
  refine Ev.b1 (a := true) ?_ (Ev.tt rfl (Ev.now _))
  refine Ev.st (fun k => by rw [Faz.f]) ?_
  exact Ev.pos rfl (key y.f3.length 0 (by omega))
def emB (s : ByteArray) : Bool := decide (s.toList = ([] : List UInt8))
def fmB (k : Int) (f w : ByteArray) (n : Int) : Bool :=
 if k = 1 then qwB w && (fqB f && (n == 0)) else if k = 2 then emB w && (emB f && (n == 1)) else if k = 3 then emB w && (emB f && (n == 2)) else if k = 4 then emB w && (emB f && (n == 2)) else false
theorem fm1 {k : Int} {f w : ByteArray} {n : Int} (h : k = 1) : fmB k f w n = (qwB w && (fqB f && (n == 0))) := if_pos h
theorem fm2 {k : Int} {f w : ByteArray} {n : Int} (h : k = 2) : fmB k f w n = (emB w && (emB f && (n == 1))) := by subst h; rfl
theorem fm3 {k : Int} {f w : ByteArray} {n : Int} (h : k = 3) : fmB k f w n = (emB w && (emB f && (n == 2))) := by subst h; rfl
theorem fm4 {k : Int} {f w : ByteArray} {n : Int} (h : k = 4) : fmB k f w n = (emB w && (emB f && (n == 2))) := by subst h; rfl
theorem fm0 {k : Int} {f w : ByteArray} {n : Int} (h1 : ¬ k = 1) (h2 : ¬ k = 2) (h3 : ¬ k = 3) (h4 : ¬ k = 4) : fmB k f w n = false := by
 unfold fmB
 rw [if_neg h1, if_neg h2, if_neg h3, if_neg h4]
theorem em_two (w f : ByteArray) (x : Bool) : Ev (fun _ => if w.toList = ([] : List UInt8) then (if f.toList = ([] : List UInt8) then some x else some false) else some false) (emB w && (emB f && x)) := by
 unfold emB
 by_cases h1 : w.toList = ([] : List UInt8)
 ·rw [decide_eq_true h1, Bool.true_and]
  refine Ev.pos h1 ?_
  by_cases h2 : f.toList = ([] : List UInt8)
  ·rw [decide_eq_true h2, Bool.true_and]
   exact Ev.pos h2 (Ev.now _)
  ·rw [decide_eq_false h2, Bool.false_and]
   exact Ev.neg h2 (Ev.now _)
 ·rw [decide_eq_false h1, Bool.false_and]
  exact Ev.neg h1 (Ev.now _)
theorem s_form (k : Int) (f w : ByteArray) (l : List S36) (hw : w.size ≤ 1048576) : Ev (fun n => FbM.f n k f w l) (fmB k f w (l.length : Int)) := by
 unfold FbM.f
 by_cases h1 : k = 1
 ·rw [fm1 h1]
  refine Ev.pos h1 ?_
  refine Ev.an1 (s_qword w (by omega)) (fun _ => ?_) (fun _ => Ev.now _)
  exact Ev.an1 (s_qfield f) (fun _ => Ev.now _) (fun _ => Ev.now _)
 refine Ev.neg h1 ?_
 by_cases h2 : k = 2
 ·rw [fm2 h2]
  exact Ev.pos h2 (em_two w f _)
 refine Ev.neg h2 ?_
 by_cases h3 : k = 3
 ·rw [fm3 h3]
  exact Ev.pos h3 (em_two w f _)
 refine Ev.neg h3 ?_
 by_cases h4 : k = 4
 ·rw [fm4 h4]
  exact Ev.pos h4 (em_two w f _)
 ·rw [fm0 h1 h2 h3 h4]
  exact Ev.neg h4 (Ev.now _)
theorem em_br {α : Type} (w f : ByteArray) (x : Bool) (T : Nat → Bool → Option α) (r : α) (h : Ev (fun n => T n (emB w && (emB f && x))) r) : Ev (fun n => if w.toList = ([] : List UInt8) then (if f.toList = ([] : List UInt8) then T n x else T n false) else T n false) r := by
 unfold emB at h
 by_cases h1 : w.toList = ([] : List UInt8)
 ·rw [decide_eq_true h1, Bool.true_and] at h
  refine Ev.pos h1 ?_
  by_cases h2 : f.toList = ([] : List UInt8)
  ·rw [decide_eq_true h2, Bool.true_and] at h
   exact Ev.pos h2 h
  ·rw [decide_eq_false h2, Bool.false_and] at h
   exact Ev.neg h2 h
 ·rw [decide_eq_false h1, Bool.false_and] at h
  exact Ev.neg h1 h
theorem i_qhead (k : Int) (f w : ByteArray) (l : List S36) (b : Int) (hw : w.size ≤ 1048576) (hb : ¬ b < 1) (r : Int × Bool) (h : Ev (fun n => Fad.j0 n b (fmB k f w (l.length : Int)) k f w l) r) : Ev (fun n => Fad.f n k f w l b) r := by
 refine Ev.st (fun n => by rw [Fad.f]) ?_
 refine Ev.neg hb ?_
 by_cases h1 : k = 1
 ·rw [fm1 h1] at h
  refine Ev.pos h1 ?_
  refine Ev.b1 (i_qword w (by omega)) ?_
  cases hq : qwB w with
  | false =>
   rw [hq, Bool.false_and] at h
   exact Ev.ff rfl h
  | true =>
   rw [hq, Bool.true_and] at h
   refine Ev.tt rfl ?_
   unfold fqB at h
   by_cases he : f.toList = ([] : List UInt8)
   ·rw [beq_iff_eq.2 he, Bool.or_true, Bool.true_and] at h
    exact Ev.pos he h
   ·rw [beq_eq_false_iff_ne.2 he, Bool.or_false] at h
    refine Ev.neg he ?_
    refine Ev.b1 (i_isfield f) ?_
    cases hf : hasB fieldL f with
    | false =>
     rw [hf, Bool.false_and] at h
     exact Ev.ff rfl h
    | true =>
     rw [hf, Bool.true_and] at h
     exact Ev.tt rfl h
 refine Ev.neg h1 ?_
 by_cases h2 : k = 2
 ·rw [fm2 h2] at h
  exact Ev.pos h2 (em_br w f _ (fun n x => Fad.j0 n b x k f w l) r h)
 refine Ev.neg h2 ?_
 by_cases h3 : k = 3
 ·rw [fm3 h3] at h
  exact Ev.pos h3 (em_br w f _ (fun n x => Fad.j0 n b x k f w l) r h)
 refine Ev.neg h3 ?_
 by_cases h4 : k = 4
 ·rw [fm4 h4] at h
  exact Ev.pos h4 (em_br w f _ (fun n x => Fad.j0 n b x k f w l) r h)
 ·rw [fm0 h1 h2 h3 h4] at h
  exact Ev.neg h4 h
inductive GoodQ : S36 → Prop
 | mk (y : S36) (hf : fmB y.f0 y.f1 y.f2 (y.f3.length : Int) = true) (h : ∀ a ∈ y.f3, GoodQ a) : GoodQ y
def QOk (y : S36) : Prop := ∃ g : Bool, Ev (fun k => FaU.f k y.f0 y.f1 y.f2 y.f3) g ∧ (g = true → GoodQ y) ∧ (ndQ y ≤ 2000000 → Ev (fun k => Fa0.f k y.f0 y.f1 y.f2 y.f3) (ndQ y : Int)) ∧
 ∀ b : Int, 0 ≤ b → b ≤ 15 → ∃ c : Int, Ev (fun k => Fad.f k y.f0 y.f1 y.f2 y.f3 b) (c, g && decide ((ndQ y : Int) ≤ b)) ∧ ((g && decide ((ndQ y : Int) ≤ b)) = true → c = (ndQ y : Int))
theorem nd_pos (y : S36) : 1 ≤ ndQ y := by rw [ndQ_eq]; omega
theorem q_forms (k0 : Int) (f w : ByteArray) (l : List S36) (hl : l.length ≤ 1048576) (hx : ∀ a ∈ l, QOk a) (d : Nat) : ∀ i : Nat, i + d = l.length →
  ∃ g : Bool, Ev (fun k => FaU.l0 k (i : Int) k0 f w l) g ∧ (g = true → ∀ a ∈ l.drop i, GoodQ a) ∧
   ∀ (c b : Int), 0 ≤ c → c ≤ b → b ≤ 15 → ∃ c' : Int, Ev (fun k => Fad.l0 k b true c l (l.length : Int) (i : Int)) (c', g && decide (c + (ndQL (l.drop i) : Int) ≤ b)) ∧ ((g && decide (c + (ndQL (l.drop i) : Int) ≤ b)) = true → c' = c + (ndQL (l.drop i) : Int)) := by
 induction d with
 | zero =>
  intro i hi
  obtain rfl : i = l.length := by omega
  rw [List.drop_of_length_le (Nat.le_refl _), ndQL]
  refine ⟨true, Ev.st (fun k => by rw [FaU.l0]) (vN (Ev.now _)), fun _ a ha => absurd ha List.not_mem_nil, fun c b h0 h1 h2 => ⟨c, ?_, fun _ => by omega⟩⟩
  rw [decide_eq_true (show c + ((0 : Nat) : Int) ≤ b by omega)]
  refine Ev.st (fun k => by rw [Fad.l0]) ?_
  exact vN (Ev.now _)
 | succ d ih =>
  intro i hi
  obtain ⟨gr, r1, r2, r3⟩ := ih (i + 1) (by omega)
  obtain ⟨g, g1, g2, g3, g4⟩ := hx _ (rdQ_mem l i (by omega))
  rw [rdQ_drop l i (by omega), ndQL]
  have hp := nd_pos (Fab l (i : Int))
  refine ⟨g && gr, ?_, fun h a ha => ?_, fun c b h0 h1 h2 => ?_⟩
  ·refine Ev.st (fun k => by rw [FaU.l0]) ?_
   refine vP ?_
   refine vP ?_
   rw [nsucc (n := l.length) (by omega) (by omega)]
   exact Ev.an1 g1 (fun _ => r1) (fun _ => Ev.now _)
  ·obtain ⟨q1, q2⟩ := Bool.and_eq_true_iff.1 h
   rcases List.mem_cons.1 ha with e | e
   ·rw [e]; exact g2 q1
   ·exact r2 q2 a e
  ·have w1 : wrap64 (b - c) = b - c := w64 (by omega) (by omega)
   obtain ⟨c1, k1, k2⟩ := g4 (b - c) (by omega) (by omega)
   have start : ∀ r : Int × Bool, Ev (fun k => Fad.l0 k b (g && decide ((ndQ (Fab l (i : Int)) : Int) ≤ b - c)) (wrap64 (c + c1)) l (l.length : Int) ((i + 1 : Nat) : Int)) r → Ev (fun k => Fad.l0 k b true c l (l.length : Int) (i : Int)) r := by
    intro r hr
    refine Ev.st (fun k => by rw [Fad.l0]) ?_
    refine vP ?_
    refine vP ?_
    refine vP ?_
    refine Ev.tt rfl ?_
    rw [w1, nsucc (n := l.length) (by omega) (by omega)]
    exact Ev.b1 k1 hr
   cases hok : (g && decide ((ndQ (Fab l (i : Int)) : Int) ≤ b - c)) with
   | true =>
    rw [hok] at start k2
    obtain rfl := k2 rfl
    obtain ⟨q1, q2⟩ := Bool.and_eq_true_iff.1 hok
    have q3 := of_decide_eq_true q2
    have w2 : wrap64 (c + (ndQ (Fab l (i : Int)) : Int)) = c + (ndQ (Fab l (i : Int)) : Int) := w64 (by omega) (by omega)
    rw [w2] at start
    obtain ⟨c', m1, m2⟩ := r3 (c + (ndQ (Fab l (i : Int)) : Int)) b (by omega) (by omega) h2
    have e : c + ((ndQ (Fab l (i : Int)) + ndQL (l.drop (i + 1)) : Nat) : Int) = c + (ndQ (Fab l (i : Int)) : Int) + (ndQL (l.drop (i + 1)) : Int) := by omega
    rw [e, q1, Bool.true_and]
    exact ⟨c', start _ m1, m2⟩
   | false =>
    rw [hok] at start
    have e : (g && gr && decide (c + ((ndQ (Fab l (i : Int)) + ndQL (l.drop (i + 1)) : Nat) : Int) ≤ b)) = false := by
     cases hg : g with
     | false => rfl
     | true =>
      rw [hg, Bool.true_and] at hok
      have h3 := of_decide_eq_false hok
      rw [decide_eq_false (by omega), Bool.and_false]
    rw [e]
    by_cases hn : i + 1 < l.length
    ·refine ⟨0, start _ ?_, fun h => absurd h Bool.false_ne_true⟩
     refine Ev.st (fun k => by rw [Fad.l0]) ?_
     refine vP ?_
     refine vP ?_
     refine vP ?_
     exact Ev.ff rfl (Ev.now _)
    ·refine ⟨wrap64 (c + c1), start _ ?_, fun h => absurd h Bool.false_ne_true⟩
     refine Ev.st (fun k => by rw [Fad.l0]) ?_
     exact vN (Ev.now _)
theorem q_size (k0 : Int) (f w : ByteArray) (l : List S36) (hl : l.length ≤ 1048576) (hx : ∀ a ∈ l, QOk a) (d : Nat) : ∀ (n : Nat) (i : Nat), i + d = l.length → n + ndQL (l.drop i) ≤ 2000000 →
  Ev (fun k => Fa0.l0 k (n : Int) (i : Int) k0 f w l) ((n + ndQL (l.drop i) : Nat) : Int) := by
 induction d with
 | zero =>
  intro n i hi _
  obtain rfl : i = l.length := by omega
  rw [List.drop_of_length_le (Nat.le_refl _), ndQL, Nat.add_zero]
  refine Ev.st (fun k => by rw [Fa0.l0]) ?_
  exact vN (Ev.now _)
 | succ d ih =>
  intro n i hi hn
  obtain ⟨g, g1, g2, g3, g4⟩ := hx _ (rdQ_mem l i (by omega))
  rw [rdQ_drop l i (by omega), ndQL] at hn ⊢
  refine Ev.st (fun k => by rw [Fa0.l0]) ?_
  refine vP ?_
  refine vP ?_
  refine Ev.b1 (g3 (by omega)) ?_
  have w1 : wrap64 ((n : Int) + (ndQ (Fab l (i : Int)) : Int)) = ((n + ndQ (Fab l (i : Int)) : Nat) : Int) := by
   rw [w64 (by omega) (by omega)]
   omega
  rw [w1, nsucc (n := l.length) (by omega) (by omega)]
  refine Ev.eq (ih (n + ndQ (Fab l (i : Int))) (i + 1) (by omega) (by omega)) ?_
  rw [Nat.add_assoc]
theorem q_ok (y : S36) (h : OkQ y) : QOk y := by
 induction h with
 | mk y h1 h2 h3 h ih =>
  obtain ⟨g, g1, g2, g3⟩ := q_forms y.f0 y.f1 y.f2 y.f3 h3 ih y.f3.length 0 (by omega)
  rw [List.drop_zero] at g2 g3
  refine ⟨fmB y.f0 y.f1 y.f2 (y.f3.length : Int) && g, ?_, fun hg => ?_, fun hn => ?_, fun b hb0 hb1 => ?_⟩
  ·refine Ev.st (fun k => by rw [FaU.f]) ?_
   exact Ev.an1 (s_form y.f0 y.f1 y.f2 y.f3 h2) (fun _ => g1) (fun _ => Ev.now _)
  ·obtain ⟨q1, q2⟩ := Bool.and_eq_true_iff.1 hg
   exact GoodQ.mk y q1 (g2 q2)
  ·rw [ndQ_eq] at hn ⊢
   refine Ev.st (fun k => by rw [Fa0.f]) ?_
   exact q_size y.f0 y.f1 y.f2 y.f3 h3 ih y.f3.length 1 0 (by omega) (by rw [List.drop_zero]; exact hn)
  ·have hp := nd_pos y
   by_cases hb : b < 1
   ·refine ⟨0, ?_, fun hh => ?_⟩
    ·rw [decide_eq_false (by omega), Bool.and_false]
     refine Ev.st (fun k => by rw [Fad.f]) ?_
     exact Ev.pos hb (Ev.now _)
    ·rw [decide_eq_false (by omega), Bool.and_false] at hh
     exact absurd hh Bool.false_ne_true
   ·cases hf : fmB y.f0 y.f1 y.f2 (y.f3.length : Int) with
    | true =>
     obtain ⟨c', m1, m2⟩ := g3 1 b (by omega) (by omega) hb1
     have e : (1 : Int) + (ndQL y.f3 : Int) = (ndQ y : Int) := by rw [ndQ_eq]; omega
     rw [e] at m1 m2
     rw [Bool.true_and]
     refine ⟨c', i_qhead y.f0 y.f1 y.f2 y.f3 b h2 hb _ ?_, m2⟩
     rw [hf]
     refine Ev.st (fun k => by rw [Fad.j0]) ?_
     exact m1
    | false =>
     rw [Bool.false_and, Bool.false_and]
     by_cases hn : 0 < y.f3.length
     ·refine ⟨0, i_qhead y.f0 y.f1 y.f2 y.f3 b h2 hb _ ?_, fun h => absurd h Bool.false_ne_true⟩
      rw [hf]
      refine Ev.st (fun k => by rw [Fad.j0]) ?_
      refine Ev.st (fun k => by rw [Fad.l0]) ?_
      refine vP ?_
      refine vP ?_
      refine vP ?_
      exact Ev.ff rfl (Ev.now _)
     ·refine ⟨1, i_qhead y.f0 y.f1 y.f2 y.f3 b h2 hb _ ?_, fun h => absurd h Bool.false_ne_true⟩
      rw [hf]
      refine Ev.st (fun k => by rw [Fad.j0]) ?_
      refine Ev.st (fun k => by rw [Fad.l0]) ?_
      exact vN (Ev.now _)
theorem good_len {y : S36} (h : fmB y.f0 y.f1 y.f2 (y.f3.length : Int) = true) (h1 : ¬ y.f0 = 1) : (y.f0 = 2 ∧ y.f3.length = 1) ∨ (y.f0 = 3 ∧ y.f3.length = 2) ∨ (y.f0 = 4 ∧ y.f3.length = 2) := by
 by_cases h2 : y.f0 = 2
 ·rw [fm2 h2, Bool.and_eq_true_iff, Bool.and_eq_true_iff, beq_iff_eq] at h
  exact Or.inl ⟨h2, by omega⟩
 by_cases h3 : y.f0 = 3
 ·rw [fm3 h3, Bool.and_eq_true_iff, Bool.and_eq_true_iff, beq_iff_eq] at h
  exact Or.inr (Or.inl ⟨h3, by omega⟩)
 by_cases h4 : y.f0 = 4
 ·rw [fm4 h4, Bool.and_eq_true_iff, Bool.and_eq_true_iff, beq_iff_eq] at h
  exact Or.inr (Or.inr ⟨h4, by omega⟩)
 ·rw [fm0 h1 h2 h3 h4] at h
  exact absurd h Bool.false_ne_true
theorem q_match (a0 : ByteArray) (a1 : Int) (l2 l3 : List S157) (a4 a5 a6 : ByteArray) (a7 a8 a9 : Int) (a10 : Bool) (a11 : Int) (a12 a13 : ByteArray) (z2 : szNs l2) (z3 : szNs l3) (h : EnOk l2 l3 a4 a5 a6 a7 a8 a9 a10 a11 a12) (y : S36) (hy : GoodQ y) :
  ∃ m : Bool, Ev (fun k => Fag.f k y.f0 y.f1 y.f2 y.f3 a0 a1 l2 l3 a4 a5 a6 a7 a8 a9 a10 a11 a12 a13) m ∧ Ev (fun k => Faf.f k y.f0 y.f1 y.f2 y.f3 a0 a1 l2 l3 a4 a5 a6 a7 a8 a9 a10 a11 a12 a13) m := by
 induction hy with
 | mk y hf hc ih =>
  by_cases h1 : y.f0 = 1
  ·rw [fm1 h1, Bool.and_eq_true_iff, Bool.and_eq_true_iff] at hf
   have hq := hf.2.1
   have hl : (ewL (fdB l2 l3 a4 a5 a6 a7 a8 a9 a10 a11 a12) y.f1 fieldL).length ≤ 4611686018427387904 := by
    have := ewL_len (fdB l2 l3 a4 a5 a6 a7 a8 a9 a10 a11 a12) (fun x => fd_size z2 z3 h x) y.f1 fieldL
    have h8 : fieldL.length = 8 := rfl
    rw [h8] at this
    omega
   refine ⟨hasB (ewL (fdB l2 l3 a4 a5 a6 a7 a8 a9 a10 a11 a12) y.f1 fieldL) y.f2, ?_, ?_⟩
   ·refine Ev.st (fun k => by rw [Fag.f]) ?_
    refine Ev.pos h1 ?_
    refine Ev.b1 (i_ewords a0 a1 l2 l3 a4 a5 a6 a7 a8 a9 a10 a11 a12 a13 z2 z3 h y.f1) ?_
    exact Ev.b1 (i_has _ y.f2 hl) (Ev.now _)
   ·refine Ev.st (fun k => by rw [Faf.f]) ?_
    refine Ev.pos h1 ?_
    refine Ev.b1 (s_words a0 a1 l2 l3 a4 a5 a6 a7 a8 a9 a10 a11 a12 a13 z2 z3 h y.f1 hq) ?_
    exact Ev.b1 (s_has _ y.f2 hl) (Ev.now _)
  rcases good_len hf h1 with ⟨k2, n⟩ | ⟨k3, n⟩ | ⟨k4, n⟩
  ·obtain ⟨m, e1, e2⟩ := ih _ (rdQ_mem y.f3 0 (by omega))
   refine ⟨!m, ?_, ?_⟩
   ·refine Ev.st (fun k => by rw [Fag.f]) ?_
    refine Ev.neg h1 ?_
    refine Ev.pos k2 ?_
    refine vP ?_
    exact Ev.b1 e1 (Ev.now _)
   ·refine Ev.st (fun k => by rw [Faf.f]) ?_
    refine Ev.neg h1 ?_
    refine Ev.pos k2 ?_
    refine vP ?_
    exact Ev.b1 e2 (Ev.now _)
  ·obtain ⟨m, e1, e2⟩ := ih _ (rdQ_mem y.f3 0 (by omega))
   obtain ⟨m', f1, f2⟩ := ih _ (rdQ_mem y.f3 1 (by omega))
   have h2 : ¬ y.f0 = 2 := by omega
   cases m with
   | false =>
    refine ⟨false, ?_, ?_⟩
    ·refine Ev.st (fun k => by rw [Fag.f]) ?_
     refine Ev.neg h1 (Ev.neg h2 (Ev.pos k3 ?_))
     refine vP ?_
     exact Ev.b1 e1 (Ev.ff rfl (Ev.now _))
    ·refine Ev.st (fun k => by rw [Faf.f]) ?_
     refine Ev.neg h1 (Ev.neg h2 (Ev.pos k3 ?_))
     refine vP ?_
     exact Ev.b1 e2 (Ev.ff rfl (Ev.now _))
   | true =>
    refine ⟨m', ?_, ?_⟩
    ·refine Ev.st (fun k => by rw [Fag.f]) ?_
     refine Ev.neg h1 (Ev.neg h2 (Ev.pos k3 ?_))
     refine vP ?_
     refine Ev.b1 e1 (Ev.tt rfl ?_)
     refine vP ?_
     exact Ev.b1 f1 (Ev.now _)
    ·refine Ev.st (fun k => by rw [Faf.f]) ?_
     refine Ev.neg h1 (Ev.neg h2 (Ev.pos k3 ?_))
     refine vP ?_
     refine Ev.b1 e2 (Ev.tt rfl ?_)
     refine vP ?_
     exact Ev.b1 f2 (Ev.now _)
  ·obtain ⟨m, e1, e2⟩ := ih _ (rdQ_mem y.f3 0 (by omega))
   obtain ⟨m', f1, f2⟩ := ih _ (rdQ_mem y.f3 1 (by omega))
   have h2 : ¬ y.f0 = 2 := by omega
   have h3 : ¬ y.f0 = 3 := by omega
   cases m with
   | true =>
    refine ⟨true, ?_, ?_⟩
    ·refine Ev.st (fun k => by rw [Fag.f]) ?_
     refine Ev.neg h1 (Ev.neg h2 (Ev.neg h3 ?_))
     refine vP ?_
     exact Ev.b1 e1 (Ev.tt rfl (Ev.now _))
    ·refine Ev.st (fun k => by rw [Faf.f]) ?_
     refine Ev.neg h1 (Ev.neg h2 (Ev.neg h3 ?_))
     refine vP ?_
     exact Ev.b1 e2 (Ev.tt rfl (Ev.now _))
   | false =>
    refine ⟨m', ?_, ?_⟩
    ·refine Ev.st (fun k => by rw [Fag.f]) ?_
     refine Ev.neg h1 (Ev.neg h2 (Ev.neg h3 ?_))
     refine vP ?_
     refine Ev.b1 e1 (Ev.ff rfl ?_)
     refine vP ?_
     exact Ev.b1 f1 (Ev.now _)
    ·refine Ev.st (fun k => by rw [Faf.f]) ?_
     refine Ev.neg h1 (Ev.neg h2 (Ev.neg h3 ?_))
     refine vP ?_
     refine Ev.b1 e2 (Ev.ff rfl ?_)
     refine vP ?_
     exact Ev.b1 f2 (Ev.now _)
def SzS (l : List ByteArray) : Prop := l.length ≤ 1048576 ∧ ∀ x ∈ l, x.size ≤ 1048576
theorem szs_l0 (l : List ByteArray) (hl : l.length ≤ 140737488351232) (hz : ∀ x ∈ l, x.size ≤ 140737488351232) (d : Nat) : ∀ (i : Nat) (n : Int), i + d = l.length → 0 ≤ n → n ≤ 1048576 →
  ∃ t, Ev (fun k => FaZ.l0 k l n (i : Int)) t ∧ -1 ≤ t ∧ t ≤ n ∧ (0 ≤ t → ∀ x ∈ l.drop i, x.size ≤ 1048576) := by
 induction d with
 | zero =>
  intro i n hi h0 h1
  obtain rfl : i = l.length := by omega
  refine ⟨n, Ev.st (fun k => by rw [FaZ.l0]) (vN (Ev.now _)), by omega, by omega, fun _ a ha => ?_⟩
  rw [List.drop_of_length_le (Nat.le_refl _)] at ha
  exact absurd ha List.not_mem_nil
 | succ d ih =>
  intro i n hi h0 h1
  have hx := hz _ (rd_mem l i (by omega))
  have w1 : wrap64 (n - ((rdOf ByteArray.empty l (i : Int)).size : Int)) = n - ((rdOf ByteArray.empty l (i : Int)).size : Int) := w64 (by omega) (by omega)
  by_cases c : n - ((rdOf ByteArray.empty l (i : Int)).size : Int) < 0
  ·refine ⟨-1, ?_, by omega, by omega, fun h => by omega⟩
   refine Ev.st (fun k => by rw [FaZ.l0]) ?_
   refine vP ?_
   refine vP ?_
   rw [w1]
   exact Ev.pos c (Ev.now _)
  ·obtain ⟨t, e1, e2, e3, e4⟩ := ih (i + 1) (n - ((rdOf ByteArray.empty l (i : Int)).size : Int)) (by omega) (by omega) (by omega)
   refine ⟨t, ?_, e2, by omega, fun h a ha => ?_⟩
   ·refine Ev.st (fun k => by rw [FaZ.l0]) ?_
    refine vP ?_
    refine vP ?_
    rw [w1]
    refine Ev.neg c ?_
    rw [nsucc (n := l.length) (by omega) (by omega)]
    exact e1
   ·rw [rdOf_drop l i (by omega)] at ha
    rcases List.mem_cons.1 ha with g | g
    ·rw [g]; omega
    ·exact e4 h a g
theorem szs (l : List ByteArray) (hl : l.length ≤ 140737488351232) (hz : ∀ x ∈ l, x.size ≤ 140737488351232) (n : Int) (h0 : 0 ≤ n) (h1 : n ≤ 1048576) : ∃ t, Ev (fun k => FaZ.f k l n) t ∧ -1 ≤ t ∧ t ≤ n ∧ (0 ≤ t → SzS l) := by
 have w1 : wrap64 (n - (l.length : Int)) = n - (l.length : Int) := w64 (by omega) (by omega)
 unfold FaZ.f
 rw [w1]
 by_cases c : n - (l.length : Int) < 0
 ·exact ⟨-1, Ev.pos c (Ev.now _), by omega, by omega, fun h => by omega⟩
 ·obtain ⟨t, e1, e2, e3, e4⟩ := szs_l0 l hl hz l.length 0 (n - (l.length : Int)) (by omega) (by omega) (by omega)
  exact ⟨t, Ev.neg c e1, e2, by omega, fun h => ⟨by omega, by have := e4 h; rw [List.drop_zero] at this; exact this⟩⟩
theorem sub_one (A : Nat → Int → Option Int) (m : Int) (z : Nat) (hm : 0 ≤ m) (hm1 : m ≤ 1048576) (hz : z ≤ 140737488351232) (P : Prop)
  (h : z ≤ 1048576 → ∀ m' : Int, m' = m - (z : Int) → 0 ≤ m' → m' ≤ 1048576 → ∃ t, Ev (fun k => A k m') t ∧ -1 ≤ t ∧ t ≤ m' ∧ (0 ≤ t → P)) :
  ∃ t, Ev (fun k => if wrap64 (m - (z : Int)) < 0 then some (-1) else A k (wrap64 (m - (z : Int)))) t ∧ -1 ≤ t ∧ t ≤ m ∧ (0 ≤ t → P ∧ z ≤ 1048576) := by
 have w1 : wrap64 (m - (z : Int)) = m - (z : Int) := w64 (by omega) (by omega)
 rw [w1]
 by_cases c : m - (z : Int) < 0
 ·exact ⟨-1, Ev.pos c (Ev.now _), by omega, by omega, fun h => by omega⟩
 ·obtain ⟨t, e1, e2, e3, e4⟩ := h (by omega) _ rfl (by omega) (by omega)
  exact ⟨t, Ev.neg c e1, e2, by omega, fun h => ⟨e4 h, by omega⟩⟩
theorem szn (x : S152) (hB : B152 x) (n : Int) (h0 : 0 ≤ n) (h1 : n ≤ 1048576) : ∃ t, Ev (fun k => FbY.f k x.f0 x.f1 x.f2 x.f3 n) t ∧ -1 ≤ t ∧ t ≤ n ∧ (0 ≤ t → szN x.f0 x.f1 x.f2 x.f3) := by
 obtain ⟨⟨b0, b0', b0''⟩, b1, b2, b3⟩ := hB
 obtain ⟨t0, e1, e2, e3, e4⟩ := szs x.f0 (by omega) b0'' n h0 h1
 unfold FbY.f
 by_cases c : t0 < 0
 ·exact ⟨-1, Ev.b1 e1 (Ev.pos c (Ev.now _)), by omega, by omega, fun h => by omega⟩
 obtain ⟨t, f1, f2, f3, f4⟩ := sub_one (fun _ m => if wrap64 (m - (x.f2.size : Int)) < 0 then some (-1) else if wrap64 (wrap64 (m - (x.f2.size : Int)) - (x.f3.size : Int)) < 0 then some (-1) else some (wrap64 (wrap64 (m - (x.f2.size : Int)) - (x.f3.size : Int)))) t0 x.f1.size (by omega) (by omega) b1 (x.f2.size ≤ 1048576 ∧ x.f3.size ≤ 1048576) (fun _ m hm q0 q1 => by
  obtain ⟨t, g1, g2, g3, g4⟩ := sub_one (fun _ m => if wrap64 (m - (x.f3.size : Int)) < 0 then some (-1) else some (wrap64 (m - (x.f3.size : Int)))) m x.f2.size q0 q1 b2 (x.f3.size ≤ 1048576) (fun _ m hm q0 q1 => by
   obtain ⟨t, g1, g2, g3, g4⟩ := sub_one (fun _ m => some m) m x.f3.size q0 q1 b3 True (fun _ m hm q0 q1 => ⟨m, Ev.now _, by omega, by omega, fun _ => trivial⟩)
   exact ⟨t, g1, g2, g3, fun h => (g4 h).2⟩)
  exact ⟨t, g1, g2, g3, fun h => ⟨(g4 h).2, (g4 h).1⟩⟩)
 refine ⟨t, Ev.b1 e1 (Ev.neg c f1), f2, by omega, fun h => ?_⟩
 obtain ⟨⟨k1, k2⟩, k3⟩ := f4 h
 obtain ⟨k4, k5⟩ := e4 (by omega)
 exact ⟨k4, k5, k3, k1, k2⟩
theorem rdM_drop (l : List S152) (i : Nat) (h : i < l.length) : l.drop i = FbE l i :: l.drop (i + 1) := by
 rw [List.drop_eq_getElem_cons h]
 congr 1
 simp [FbE, List.getD_eq_getElem?_getD, List.getElem?_eq_getElem h]
theorem rdM_mem (l : List S152) (i : Nat) (h : i < l.length) : FbE l i ∈ l := by
 exact List.mem_of_mem_drop (i := i) (by rw [rdM_drop l i h]; exact List.mem_cons_self)
def SzM (l : List S152) : Prop := l.length ≤ 1048576 ∧ ∀ x ∈ l, szN x.f0 x.f1 x.f2 x.f3
theorem szm_l0 (l : List S152) (hl : l.length ≤ 140737488351232) (hz : ∀ x ∈ l, B152 x) (d : Nat) : ∀ (i : Nat) (n : Int), i + d = l.length → 0 ≤ n → n ≤ 1048576 →
  ∃ t, Ev (fun k => Fa4.l0 k l n (i : Int)) t ∧ -1 ≤ t ∧ t ≤ n ∧ (0 ≤ t → ∀ x ∈ l.drop i, szN x.f0 x.f1 x.f2 x.f3) := by
 induction d with
 | zero =>
  intro i n hi h0 h1
  obtain rfl : i = l.length := by omega
  refine ⟨n, Ev.st (fun k => by rw [Fa4.l0]) (vN (Ev.now _)), by omega, by omega, fun _ a ha => ?_⟩
  rw [List.drop_of_length_le (Nat.le_refl _)] at ha
  exact absurd ha List.not_mem_nil
 | succ d ih =>
  intro i n hi h0 h1
  obtain ⟨t, e1, e2, e3, e4⟩ := szn _ (hz _ (rdM_mem l i (by omega))) n h0 h1
  by_cases ht : t < 0
  ·refine ⟨-1, ?_, by omega, by omega, fun h => by omega⟩
   refine Ev.st (fun k => by rw [Fa4.l0]) ?_
   refine vP ?_
   refine vP ?_
   refine Ev.b1 e1 ?_
   exact Ev.pos ht (Ev.now _)
  ·obtain ⟨t', f1, f2, f3, f4⟩ := ih (i + 1) t (by omega) (by omega) (by omega)
   refine ⟨t', ?_, f2, by omega, fun h a ha => ?_⟩
   ·refine Ev.st (fun k => by rw [Fa4.l0]) ?_
    refine vP ?_
    refine vP ?_
    refine Ev.b1 e1 ?_
    refine Ev.neg ht ?_
    rw [nsucc (n := l.length) (by omega) (by omega)]
    exact f1
   ·rw [rdM_drop l i (by omega)] at ha
    rcases List.mem_cons.1 ha with g | g
    ·rw [g]; exact e4 (by omega)
    ·exact f4 h a g
theorem szm (l : List S152) (hl : l.length ≤ 140737488351232) (hz : ∀ x ∈ l, B152 x) (n : Int) (h0 : 0 ≤ n) (h1 : n ≤ 1048576) : ∃ t, Ev (fun k => Fa4.f k l n) t ∧ -1 ≤ t ∧ t ≤ n ∧ (0 ≤ t → SzM l) := by
 have w1 : wrap64 (n - (l.length : Int)) = n - (l.length : Int) := w64 (by omega) (by omega)
 unfold Fa4.f
 rw [w1]
 by_cases c : n - (l.length : Int) < 0
 ·exact ⟨-1, Ev.pos c (Ev.now _), by omega, by omega, fun h => by omega⟩
 ·obtain ⟨t, e1, e2, e3, e4⟩ := szm_l0 l hl hz l.length 0 (n - (l.length : Int)) (by omega) (by omega) (by omega)
  exact ⟨t, Ev.neg c e1, e2, by omega, fun h => ⟨by omega, by have := e4 h; rw [List.drop_zero] at this; exact this⟩⟩
theorem tos (l : List ByteArray) (h : SzS l) : ∃ ys, Ev (fun k => FaX.f k l) ys ∧ SzS ys := by
 have key : ∀ (d : Nat) (acc : List ByteArray) (i : Nat), i + d = l.length → acc.length = l.length → (∀ a ∈ acc.take i, a.size ≤ 1048576) → ∃ ys : List ByteArray, Ev (fun k => FaX.l0 k l acc (i : Int)) ys ∧ ys.length = l.length ∧ ∀ a ∈ ys, a.size ≤ 1048576 := by
  have hl := h.1
  intro d
  induction d with
  | zero =>
   intro acc i hi ha hk
   rw [List.take_of_length_le (by omega)] at hk
   exact ⟨acc, Ev.st (fun k => by rw [FaX.l0]) (vN (Ev.now _)), ha, hk⟩
  | succ d ih =>
   intro acc i hi ha hk
   obtain ⟨ys, f1, f2, f3⟩ := ih (acc.set i (rdOf ByteArray.empty l (i : Int))) (i + 1) (by omega) (by rw [List.length_set]; exact ha) (set_keep (fun a : ByteArray => a.size ≤ 1048576) acc i _ (by omega) hk (h.2 _ (rd_mem l i (by omega))))
   refine ⟨ys, ?_, f2, f3⟩
   refine Ev.st (fun k => by rw [FaX.l0]) ?_
   refine vP ?_
   refine vP ?_
   refine vP ?_
   rw [nsucc (n := l.length) (by omega) (by omega)]
   exact f1
 have hl := h.1
 obtain ⟨ys, e1, e2, e3⟩ := key l.length (List.replicate ((l.length : Int) : Int).toNat (⟨#[]⟩ : ByteArray)) 0 (by omega) (by rw [List.length_replicate]; omega) (fun a ha => by rw [List.take_zero] at ha; exact absurd ha List.not_mem_nil)
 refine ⟨ys, ?_, by rw [e2]; exact hl, e3⟩
 unfold FaX.f
 refine vP ?_
 refine vP ?_
 exact e1
theorem ton (x : S152) (h : szN x.f0 x.f1 x.f2 x.f3) : ∃ y : S157, Ev (fun k => FbZ.f k x.f0 x.f1 x.f2 x.f3) (y.f0, y.f1, y.f2, y.f3) ∧ szN y.f0 y.f1 y.f2 y.f3 := by
 obtain ⟨ys, e1, e2⟩ := tos x.f0 ⟨h.1, h.2.1⟩
 refine ⟨⟨ys, x.f1, x.f2, x.f3⟩, ?_, e2.1, e2.2, h.2.2⟩
 unfold FbZ.f
 exact Ev.b1 e1 (Ev.now _)
theorem tom (l : List S152) (h : SzM l) : ∃ ys, Ev (fun k => Fa1.f k l) ys ∧ szNs ys := by
 have hl := h.1
 have key : ∀ (d : Nat) (acc : List S157) (i : Nat), i + d = l.length → acc.length = l.length → (∀ a ∈ acc.take i, szN a.f0 a.f1 a.f2 a.f3) → ∃ ys : List S157, Ev (fun k => Fa1.l0 k l acc (i : Int)) ys ∧ ys.length = l.length ∧ ∀ a ∈ ys, szN a.f0 a.f1 a.f2 a.f3 := by
  intro d
  induction d with
  | zero =>
   intro acc i hi ha hk
   rw [List.take_of_length_le (by omega)] at hk
   exact ⟨acc, Ev.st (fun k => by rw [Fa1.l0]) (vN (Ev.now _)), ha, hk⟩
  | succ d ih =>
   intro acc i hi ha hk
   obtain ⟨y, e1, e2⟩ := ton _ (h.2 _ (rdM_mem l i (by omega)))
   obtain ⟨ys, f1, f2, f3⟩ := ih (acc.set i y) (i + 1) (by omega) (by rw [List.length_set]; exact ha) (set_keep (fun a : S157 => szN a.f0 a.f1 a.f2 a.f3) acc i _ (by omega) hk e2)
   refine ⟨ys, ?_, f2, f3⟩
   refine Ev.st (fun k => by rw [Fa1.l0]) ?_
   refine vP ?_
   refine vP ?_
   refine Ev.b1 e1 ?_
   refine vP ?_
   rw [nsucc (n := l.length) (by omega) (by omega)]
   exact f1
 obtain ⟨ys, e1, e2, e3⟩ := key l.length (List.replicate ((l.length : Int) : Int).toNat z157) 0 (by omega) (by rw [List.length_replicate]; omega) (fun a ha => by rw [List.take_zero] at ha; exact absurd ha List.not_mem_nil)
 refine ⟨ys, ?_, by rw [e2]; exact hl, e3⟩
 unfold Fa1.f
 refine vP ?_
 refine vP ?_
 exact e1
theorem eqs (l : List ByteArray) (hl : l.length ≤ 1048576) : Ev (fun k => Faw.f k l l) true := by
 have key : ∀ (d i : Nat), i + d = l.length → Ev (fun k => Faw.l0 k l l (i : Int)) true := by
  intro d
  induction d with
  | zero =>
   intro i hi
   refine Ev.st (fun k => by rw [Faw.l0]) ?_
   exact vN (Ev.now _)
  | succ d ihd =>
   intro i hi
   refine Ev.st (fun k => by rw [Faw.l0]) ?_
   refine vP ?_
   refine vP ?_
   refine vP ?_
   refine Ev.pos rfl ?_
   rw [nsucc (n := l.length) (by omega) (by omega)]
   exact ihd (i + 1) (by omega)
 unfold Faw.f
 exact Ev.pos rfl (key l.length 0 (by omega))
theorem eqm (l : List S157) (h : szNs l) : Ev (fun k => FaI.f k l l) true := by
 have hl := h.1
 have key : ∀ (d i : Nat), i + d = l.length → Ev (fun k => FaI.l0 k l l (i : Int)) true := by
  intro d
  induction d with
  | zero =>
   intro i hi
   refine Ev.st (fun k => by rw [FaI.l0]) ?_
   exact vN (Ev.now _)
  | succ d ihd =>
   intro i hi
   refine Ev.st (fun k => by rw [FaI.l0]) ?_
   refine vP ?_
   refine vP ?_
   refine vP ?_
   refine Ev.b1 (a := true) ?_ (Ev.tt rfl ?_)
   ·unfold Fb2.f
    refine Ev.b1 (eqs _ (h.2 _ (rdN_mem l i (by omega))).1) (Ev.tt rfl ?_)
    refine Ev.pos rfl ?_
    refine Ev.pos rfl ?_
    exact Ev.pos rfl (Ev.now _)
   ·rw [nsucc (n := l.length) (by omega) (by omega)]
    exact ihd (i + 1) (by omega)
 unfold FaI.f
 exact Ev.pos rfl (key l.length 0 (by omega))
theorem eqe (a0 : ByteArray) (a1 : Int) (l2 l3 : List S157) (a4 a5 a6 : ByteArray) (a7 a8 a9 : Int) (a10 : Bool) (a11 : Int) (a12 a13 : ByteArray) (z2 : szNs l2) (z3 : szNs l3) :
  Ev (fun k => FbR.f k a0 a1 l2 l3 a4 a5 a6 a7 a8 a9 a10 a11 a12 a13 a0 a1 l2 l3 a4 a5 a6 a7 a8 a9 a10 a11 a12 a13) true := by
 unfold FbR.f
 refine Ev.pos rfl ?_
 refine Ev.pos rfl ?_
 refine Ev.b1 (eqm l2 z2) (Ev.tt rfl ?_)
 refine Ev.b1 (eqm l3 z3) (Ev.tt rfl ?_)
 refine Ev.pos rfl ?_
 refine Ev.pos rfl ?_
 refine Ev.pos rfl ?_
 refine Ev.b0 (a := true) ?_ (Ev.tt rfl ?_)
 ·unfold Fcp.f
  rw [if_pos rfl, if_pos rfl, if_pos rfl]
  cases a10 <;> rfl
 refine Ev.pos rfl ?_
 refine Ev.pos rfl ?_
 exact Ev.pos rfl (Ev.now _)
end Go.Proofs.YtmafmhgmdegplaaGreatDoor.P
