/- Lines of an index that are marked hold their marks. For at most 2147840064 lines of at most 8 keys each. -/
import Derived.Test.YtmafmhgmdegplaaGreatDoorZPx0
import Derived.Test.YtmafmhgmdegplaaGreatDoorZPx26
import Derived.Test.YtmafmhgmdegplaaGreatDoorZPx27
import Derived.Test.YtmafmhgmdegplaaGreatDoorZPx4
import Derived.Test.YtmafmhgmdegplaaGreatDoorZLBase
import Derived.Test.YtmafmhgmdegplaaGreatDoorZLEv
import Derived.Test.YtmafmhgmdegplaaGreatDoorZLQC
import Derived.Test.YtmafmhgmdegplaaGreatDoorZLQE
namespace Go.Proofs.YtmafmhgmdegplaaGreatDoor.P
open Go.RowKit Go.Proofs.YtmafmhgmdegplaaGreatDoorW.PrintWords Go.Proofs.YtmafmhgmdegplaaGreatDoorW.PrintLast Go.Proofs.YtmafmhgmdegplaaGreatDoorW.PrintMore
set_option linter.unusedVariables false
set_option linter.unusedSimpArgs false
noncomputable def mtx (m : Nat) : ByteArray := if h : m ≤ 4611686018427387904 then Classical.choose (mkT (m : Int) (by omega) (by omega)) else ByteArray.empty
theorem mtx_ev (m : Nat) (h : m ≤ 4611686018427387904) : Ev (fun k => Fag.f k (m : Int)) (mtx m) := by
 unfold mtx
 rw [dif_pos h]
 exact Classical.choose_spec (mkT (m : Int) (by omega) (by omega))
noncomputable def mkS1 : List ByteArray → Nat → List ByteArray
 | [], _ => []
 | _ :: r, m => mtx m :: mkS1 r (m + 1)
theorem mkS1_len : ∀ (l : List ByteArray) (m : Nat), (mkS1 l m).length = l.length
 | [], _ => rfl
 | _ :: r, m => by rw [mkS1, List.length_cons, List.length_cons, mkS1_len r]
theorem wr64 (m : Nat) (h : m ≤ 4611686018427387904) : wrap64 ((m : Int) + 1) = ((m + 1 : Nat) : Int) := by rw [w64 (by omega) (by omega)]; omega
theorem mkS1_l0 (d : Nat) : ∀ (D R : List ByteArray) (m : Nat), R.length = d → m + d ≤ 4611686018427387904 → D.length + d ≤ 2147840064 → Ev (fun k => FaN.l0 k (D ++ R) (m : Int) (D.length : Int)) (((m + d : Nat) : Int), D ++ mkS1 R m) := by
 induction d with
 | zero =>
  intro D R m hR hm hD
  obtain rfl := List.length_eq_zero_iff.1 hR
  refine Ev.st (fun k => by rw [FaN.l0]) ?_
  refine Ev.neg (by rw [List.append_nil]; omega) ?_
  exact Ev.now _
 | succ d ih =>
  intro D R m hR hm hD
  match R, hR with
  | x :: R, hR =>
   rw [List.length_cons] at hR
   have e := ih (D ++ [mtx m]) R (m + 1) (by omega) (by omega) (by rw [List.length_append, List.length_singleton]; omega)
   rw [List.append_assoc, List.length_append, List.length_singleton] at e
   refine Ev.st (fun k => by rw [FaN.l0]) ?_
   refine Ev.pos (by rw [List.length_append, List.length_cons]; omega) ?_
   refine Ev.b1 (mtx_ev m (by omega)) ?_
   refine vP ?_
   rw [Int.toNat_natCast, List.set_append_right _ _ (Nat.le_refl _), Nat.sub_self, List.set_cons_zero, wr64 m (by omega), nsucc (n := D.length + 1) (by omega) (by omega), mkS1]
   refine Ev.eq e ?_
   rw [show m + 1 + d = m + (d + 1) by omega, List.append_assoc]
   rfl
theorem mkS1_f (l : List ByteArray) (m : Nat) (hl : l.length ≤ 2147840064) (hm : m + l.length ≤ 4611686018427387904) : Ev (fun k => FaN.f k l (m : Int)) (((m + l.length : Nat) : Int), mkS1 l m) := by
 unfold FaN.f
 exact mkS1_l0 l.length [] l m rfl hm (by rw [List.length_nil]; omega)
theorem hdS1_l0 (d : Nat) : ∀ (D R : List ByteArray) (m : Nat), R.length = d → m + d ≤ 4611686018427387904 → D.length + d ≤ 2147840064 → Ev (fun k => FaO.l0 k (D ++ mkS1 R m) (m : Int) (D.length : Int)) ((m + d : Nat) : Int) := by
 induction d with
 | zero =>
  intro D R m hR hm hD
  obtain rfl := List.length_eq_zero_iff.1 hR
  refine Ev.st (fun k => by rw [FaO.l0]) ?_
  refine Ev.neg (by rw [mkS1, List.append_nil]; omega) ?_
  exact Ev.now _
 | succ d ih =>
  intro D R m hR hm hD
  match R, hR with
  | x :: R, hR =>
   rw [List.length_cons] at hR
   have e := ih (D ++ [mtx m]) R (m + 1) (by omega) (by omega) (by rw [List.length_append, List.length_singleton]; omega)
   rw [List.append_assoc, List.length_append, List.length_singleton] at e
   have hr : rdOf ByteArray.empty (D ++ mkS1 (x :: R) m) (D.length : Int) = mtx m := by
    unfold rdOf
    rw [Int.toNat_natCast, List.getD_eq_getElem?_getD, List.getElem?_append_right (Nat.le_refl _), Nat.sub_self]
    rfl
   refine Ev.st (fun k => by rw [FaO.l0]) ?_
   refine Ev.pos (by rw [List.length_append, mkS1_len, List.length_cons]; omega) ?_
   refine vP ?_
   refine Ev.b1 (mtx_ev m (by omega)) ?_
   rw [hr]
   refine Ev.pos rfl ?_
   rw [wr64 m (by omega), nsucc (n := D.length + 1) (by omega) (by omega)]
   refine Ev.eq e ?_
   rw [show m + 1 + d = m + (d + 1) by omega]
theorem hdS1_f (l : List ByteArray) (m : Nat) (hl : l.length ≤ 2147840064) (hm : m + l.length ≤ 4611686018427387904) : Ev (fun k => FaO.f k (mkS1 l m) (m : Int)) ((m + l.length : Nat) : Int) := by
 unfold FaO.f
 exact hdS1_l0 l.length [] l m rfl hm (by rw [List.length_nil]; omega)
noncomputable def mkL1 : List S90 → Nat → List S90
 | [], _ => []
 | x :: r, m => ⟨mtx m, mkS1 x.f1 (m + 1)⟩ :: mkL1 r (m + 1 + x.f1.length)
def nL1 : List S90 → Nat → Nat
 | [], m => m
 | x :: r, m => nL1 r (m + 1 + x.f1.length)
theorem mkL1_len : ∀ (l : List S90) (m : Nat), (mkL1 l m).length = l.length
 | [], _ => rfl
 | _ :: r, m => by rw [mkL1, List.length_cons, List.length_cons, mkL1_len r]
theorem rdI_app (D R : List S90) (x : S90) : Fbi (D ++ x :: R) (D.length : Int) = x := by
 unfold Fbi
 rw [Int.toNat_natCast, List.getD_eq_getElem?_getD, List.getElem?_append_right (Nat.le_refl _), Nat.sub_self]
 rfl
theorem mkL1_l0 (d : Nat) : ∀ (D R : List S90) (m : Nat), R.length = d → (∀ x ∈ R, x.f1.length ≤ 8) → m + d * 9 ≤ 4611686018427387904 → D.length + d ≤ 2147840064 → Ev (fun k => Faz.l0 k (D ++ R) (m : Int) (D.length : Int)) ((nL1 R m : Int), D ++ mkL1 R m) := by
 induction d with
 | zero =>
  intro D R m hR hx hm hD
  obtain rfl := List.length_eq_zero_iff.1 hR
  refine Ev.st (fun k => by rw [Faz.l0]) ?_
  refine Ev.neg (by rw [List.append_nil]; omega) ?_
  exact Ev.now _
 | succ d ih =>
  intro D R m hR hx hm hD
  match R, hR, hx with
  | x :: R, hR, hx =>
   rw [List.length_cons] at hR
   have h8 := hx x List.mem_cons_self
   rw [Nat.succ_mul] at hm
   have e := ih (D ++ [(⟨mtx m, mkS1 x.f1 (m + 1)⟩ : S90)]) R (m + 1 + x.f1.length) (by omega) (fun y hy => hx y (List.mem_cons_of_mem _ hy)) (by omega) (by rw [List.length_append, List.length_singleton]; omega)
   rw [List.append_assoc, List.length_append, List.length_singleton] at e
   refine Ev.st (fun k => by rw [Faz.l0]) ?_
   refine Ev.pos (by rw [List.length_append, List.length_cons]; omega) ?_
   refine Ev.b1 (mtx_ev m (by omega)) ?_
   refine vP ?_
   rw [rdI_app D R x, wr64 m (by omega)]
   refine Ev.b1 (mkS1_f x.f1 (m + 1) (by omega) (by omega)) ?_
   rw [Int.toNat_natCast, List.set_append_right _ _ (Nat.le_refl _), Nat.sub_self, List.set_cons_zero, nsucc (n := D.length + 1) (by omega) (by omega), mkL1, nL1]
   refine Ev.eq e ?_
   rw [List.append_assoc]
   rfl
theorem hdL1_l0 (d : Nat) : ∀ (D R : List S90) (m : Nat), R.length = d → (∀ x ∈ R, x.f1.length ≤ 8) → m + d * 9 ≤ 4611686018427387904 → D.length + d ≤ 2147840064 → Ev (fun k => Faj.l0 k (D ++ mkL1 R m) (m : Int) (D.length : Int)) (nL1 R m : Int) := by
 induction d with
 | zero =>
  intro D R m hR hx hm hD
  obtain rfl := List.length_eq_zero_iff.1 hR
  refine Ev.st (fun k => by rw [Faj.l0]) ?_
  refine Ev.neg (by rw [mkL1, List.append_nil]; omega) ?_
  exact Ev.now _
 | succ d ih =>
  intro D R m hR hx hm hD
  match R, hR, hx with
  | x :: R, hR, hx =>
   rw [List.length_cons] at hR
   have h8 := hx x List.mem_cons_self
   rw [Nat.succ_mul] at hm
   have e := ih (D ++ [(⟨mtx m, mkS1 x.f1 (m + 1)⟩ : S90)]) R (m + 1 + x.f1.length) (by omega) (fun y hy => hx y (List.mem_cons_of_mem _ hy)) (by omega) (by rw [List.length_append, List.length_singleton]; omega)
   rw [List.append_assoc, List.length_append, List.length_singleton] at e
   refine Ev.st (fun k => by rw [Faj.l0]) ?_
   refine Ev.pos (by rw [List.length_append, mkL1_len, List.length_cons]; omega) ?_
   refine vP ?_
   refine Ev.b1 (mtx_ev m (by omega)) ?_
   rw [mkL1, rdI_app D _ _]
   refine Ev.pos rfl ?_
   rw [wr64 m (by omega)]
   refine Ev.b1 (hdS1_f x.f1 (m + 1) (by omega) (by omega)) ?_
   refine vN ?_
   rw [nsucc (n := D.length + 1) (by omega) (by omega), nL1]
   exact e
theorem mkL1_ok (l : List S90) (hl : l.length ≤ 2147840064) (hx : ∀ x ∈ l, x.f1.length ≤ 8) : Ev (fun k => Faz.f k l 1) ((nL1 l 1 : Int), mkL1 l 1) ∧ Ev (fun k => Faj.f k (mkL1 l 1) 1) (nL1 l 1 : Int) := by
 unfold Faz.f Faj.f
 exact ⟨mkL1_l0 l.length [] l 1 rfl hx (by omega) (by rw [List.length_nil]; omega), hdL1_l0 l.length [] l 1 rfl hx (by omega) (by rw [List.length_nil]; omega)⟩
theorem eqI (l : List S90) (hl : l.length ≤ 2147840064) (hx : ∀ x ∈ l, x.f1.length ≤ 8) : Ev (fun k => Fah.f k l l) true := by
 have key : ∀ (d i : Nat), i + d = l.length → Ev (fun k => Fah.l0 k l l (i : Int)) true := by
  intro d
  induction d with
  | zero =>
   intro i hi
   refine Ev.st (fun k => by rw [Fah.l0]) ?_
   exact vN (Ev.now _)
  | succ d ihd =>
   intro i hi
   have hm : Fbi l (i : Int) ∈ l := by
    unfold Fbi
    rw [Int.toNat_natCast, List.getD_eq_getElem?_getD, List.getElem?_eq_getElem (by omega : i < l.length)]
    exact List.getElem_mem _
   refine Ev.st (fun k => by rw [Fah.l0]) ?_
   refine vP ?_
   refine vP ?_
   refine vP ?_
   refine Ev.b1 (a := true) ?_ (Ev.tt rfl ?_)
   ·unfold Fbt.f
    refine Ev.pos rfl ?_
    exact Ev.b1 (eqs _ (by have := hx _ hm; omega)) (Ev.tt rfl (Ev.now _))
   ·rw [nsucc (n := l.length) (by omega) (by omega)]
    exact ihd (i + 1) (by omega)
 unfold Fah.f
 exact Ev.pos rfl (key l.length 0 (by omega))
end Go.Proofs.YtmafmhgmdegplaaGreatDoor.P
