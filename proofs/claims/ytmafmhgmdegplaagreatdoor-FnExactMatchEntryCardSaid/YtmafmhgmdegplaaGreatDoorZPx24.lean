/- Written by a program in this session: each theorem here says that a Go function computes the Lean function beside it, or that a law's row holds, under the conditions that the theorem itself states. -/
import Derived.Test.YtmafmhgmdegplaaGreatDoorZPx0
import Derived.Test.YtmafmhgmdegplaaGreatDoorZPx15
import Derived.Test.YtmafmhgmdegplaaGreatDoorZPx19
import Derived.Test.YtmafmhgmdegplaaGreatDoorZPx23
namespace Go.Proofs.YtmafmhgmdegplaaGreatDoor.P
open Go.RowKit Go.Proofs.YtmafmhgmdegplaaGreatDoorW.PrintWords Go.Proofs.YtmafmhgmdegplaaGreatDoorW.PrintLast Go.Proofs.YtmafmhgmdegplaaGreatDoorW.PrintMore
attribute [local go_sem] max2_int min2_int max_two min_two max_three min_three max_four min_four   -- for this text's walks alone
set_option linter.unusedVariables false
set_option linter.unusedSimpArgs false
def impl_MatchEntry.f (k : Nat) (a0_0 : Int) (a0_1 : ByteArray) (a0_2 : ByteArray) (l0_3 : List (S36)) (a1_0 : ByteArray) (a1_1 : Int) (l1_2 : List (S157)) (l1_3 : List (S157)) (a1_4 : ByteArray) (a1_5 : ByteArray) (a1_6 : ByteArray) (a1_7 : Int) (a1_8 : Int) (a1_9 : Int) (a1_10 : Bool) (a1_11 : Int) (a1_12 : ByteArray) (a1_13 : ByteArray) : Option (Bool × Bool) := (impl_IsValidQuery.f k a0_0 a0_1 a0_2 l0_3).bind fun t483 => (if t483 = true then ((impl_IsValidEntry.f k a1_0 a1_1 l1_2 l1_3 a1_4 a1_5 a1_6 a1_7 a1_8 a1_9 a1_10 a1_11 a1_12 a1_13).bind fun t484 => (if t484 = true then ((impl_matches.f k a0_0 a0_1 a0_2 l0_3 a1_0 a1_1 l1_2 l1_3 a1_4 a1_5 a1_6 a1_7 a1_8 a1_9 a1_10 a1_11 a1_12 a1_13).bind fun t485 => (some (t485,true))) else (some (false,false)))) else (some (false,false)))
theorem impl_MatchEntry.mono : ∀ a0 a1 a2 a3 a4 a5 a6 a7 a8 a9 a10 a11 a12 a13 a14 a15 a16 a17 k,LeO (impl_MatchEntry.f k a0 a1 a2 a3 a4 a5 a6 a7 a8 a9 a10 a11 a12 a13 a14 a15 a16 a17) (impl_MatchEntry.f (k + 1) a0 a1 a2 a3 a4 a5 a6 a7 a8 a9 a10 a11 a12 a13 a14 a15 a16 a17) := by
 intro a0 a1 a2 a3 a4 a5 a6 a7 a8 a9 a10 a11 a12 a13 a14 a15 a16 a17 k
 unfold impl_MatchEntry.f
 repeat' (first|with_reducible (first|exact impl_IsValidEntry.mono _ _ _ _ _ _ _ _ _ _ _ _ _ _ _|exact impl_IsValidQuery.mono _ _ _ _ _|exact impl_matches.mono _ _ _ _ _ _ _ _ _ _ _ _ _ _ _ _ _ _ _|exact LeO.refl _|exact LeO.none _|refine LeO.ite ?_ ?_|refine LeO.bind ?_ (fun _ => ?_))|exact LeO.none _|refine LeO.ite ?_ ?_|refine LeO.bind ?_ (fun _ => ?_))
set_option maxHeartbeats 8000000 in
set_option maxRecDepth 100000 in
theorem impl_MatchEntry.calls (k : Nat) (a0_0 : Int) (a0_1 : ByteArray) (a0_2 : ByteArray) (A0_3 : Option Addr) (c0_3 : Nat) (l0_3 : List (S36)) (a1_0 : ByteArray) (a1_1 : Int) (A1_2 : Option Addr) (c1_2 : Nat) (l1_2 : List (S157)) (A1_3 : Option Addr) (c1_3 : Nat) (l1_3 : List (S157)) (a1_4 : ByteArray) (a1_5 : ByteArray) (a1_6 : ByteArray) (a1_7 : Int) (a1_8 : Int) (a1_9 : Int) (a1_10 : Bool) (a1_11 : Int) (a1_12 : ByteArray) (a1_13 : ByteArray) (r1 : Bool) (r2 : Bool) (w : World) (hr0_3 : Kd.C k36 w A0_3 l0_3.length l0_3) (hc0_3 : l0_3.length ≤ c0_3) (hr1_2 : Kd.C k157 w A1_2 l1_2.length l1_2) (hc1_2 : l1_2.length ≤ c1_2) (hr1_3 : Kd.C k157 w A1_3 l1_3.length l1_3) (hc1_3 : l1_3.length ≤ c1_3) (hG : Gfb w) (h : impl_MatchEntry.f k a0_0 a0_1 a0_2 l0_3 a1_0 a1_1 l1_2 l1_3 a1_4 a1_5 a1_6 a1_7 a1_8 a1_9 a1_10 a1_11 a1_12 a1_13 = some (r1,r2)) :
  Calls Tryz.prog 14 #[.agg #[.int .i64 a0_0,.string a0_1,.string a0_2,.slice A0_3 l0_3.length c0_3],.agg #[.string a1_0,.int .i64 a1_1,.slice A1_2 l1_2.length c1_2,.slice A1_3 l1_3.length c1_3,.string a1_4,.string a1_5,.string a1_6,.int .i64 a1_7,.int .i64 a1_8,.int .i64 a1_9,.bool a1_10,.int .i64 a1_11,.string a1_12,.string a1_13]] w fun e w' => e = .returned (.tuple #[.bool r1,.bool r2]) ∧ Below w.heap.size w w' := by
 have hu36 := Tryz.underlying36;have hu41 := Tryz.underlying41;have HR0_3 := aM hr0_3;have HC0_3 := aM hc0_3;clear hr0_3 hc0_3;have HR1_2 := aM hr1_2;have HC1_2 := aM hc1_2;clear hr1_2 hc1_2;have HR1_3 := aM hr1_3;have HC1_3 := aM hc1_3;clear hr1_3 hc1_3;have HB := aM (Below.refl w.heap.size w);have HG := aM hG;clear hG;have H : ((impl_IsValidQuery.f k a0_0 a0_1 a0_2 l0_3).bind fun t483 => (if t483 = true then ((impl_IsValidEntry.f k a1_0 a1_1 l1_2 l1_3 a1_4 a1_5 a1_6 a1_7 a1_8 a1_9 a1_10 a1_11 a1_12 a1_13).bind fun t484 => (if t484 = true then ((impl_matches.f k a0_0 a0_1 a0_2 l0_3 a1_0 a1_1 l1_2 l1_3 a1_4 a1_5 a1_6 a1_7 a1_8 a1_9 a1_10 a1_11 a1_12 a1_13).bind fun t485 => (some (t485,true))) else (some (false,false)))) else (some (false,false)))) = some (r1,r2) := h;clear h;obtain ⟨t483,A3,H⟩ := bE_ H
 by_cases c4 : t483 = true
 focus
  subst c4;rw [if_pos rfl] at H;obtain ⟨t484,A5,H⟩ := bE_ H
  by_cases c6 : t484 = true
  focus
   subst c6;rw [if_pos rfl] at H;obtain ⟨t485,A7,H⟩ := bE_ H;simp only [eS,eP] at H;obtain ⟨rfl,rfl⟩ := H
  rotate_left
  focus
   replace c6 := Bool.eq_false_iff.mpr c6;subst c6;rw [if_neg Bool.false_ne_true] at H;simp only [eS,eP] at H;obtain ⟨rfl,rfl⟩ := H
 rotate_left 2
 focus
  replace c4 := Bool.eq_false_iff.mpr c4;subst c4;rw [if_neg Bool.false_ne_true] at H;simp only [eS,eP] at H;obtain ⟨rfl,rfl⟩ := H
 all_goals
  go_enter Tryz.func14,Tryz.ntmps14;go_wp2_with (first|((with_reducible refine gate_dst (N := 2) rfl ?_);refine bx_ (N := 2) (cs := #[.int .i64 a0_0,.string a0_1,.string a0_2,.slice A0_3 l0_3.length c0_3]) (t := 36) ?_;intro gb481 hg Wgb481 hbox hb;have BK481 := aM (hbox);have GW481 := aM ((by rw [hg];exact (lZ wB_) : w.heap.size ≤ gb481));have GE481 := GW481;replace HB := aM (lT wB_ hb);clear hb hbox hg)|((with_reducible refine gate_dst (N := 3) rfl ?_);refine bx_ (N := 3) (cs := #[.string a1_0,.int .i64 a1_1,.slice A1_2 l1_2.length c1_2,.slice A1_3 l1_3.length c1_3,.string a1_4,.string a1_5,.string a1_6,.int .i64 a1_7,.int .i64 a1_8,.int .i64 a1_9,.bool a1_10,.int .i64 a1_11,.string a1_12,.string a1_13]) (t := 41) ?_;intro gb482 hg Wgb482 hbox hb;have BK482 := aM (hbox);have GW482 := aM ((by rw [hg];exact (lZ wB_) : w.heap.size ≤ gb482));have GE482 := GW482;have NB481_482 := aM (nl_ hg BK481.out);have NB482_481 := aM (ng_ hg BK481.out);replace BK481 := aM (bw_ BK481.out hb);replace HB := aM (lT wB_ hb);clear hb hbox hg;have hnby481_482 := NB481_482.out;have hncy482_481 := NB482_481.out;obtain ⟨hcz482x481_0,hcz482x481_1,hcz482x481_2,hcz482x481_3,hfz482x481_0,hfz482x481_1,hfz482x481_2,hfz482x481_3⟩ := z4_ BK481.out)|((with_reducible refine gate_callee (f := 31) rfl ?_);refine gl_ (some 7) Tryz.func31 #[.agg #[.int .i64 a0_0,.string a0_1,.string a0_2,.slice A0_3 l0_3.length c0_3]] ?_;(with_reducible refine (impl_IsValidQuery.calls _ _ _ _ _ _ _ _ _ ?side1 ?side2 ?side3 A3.out).mono ?_);(case side1 => exact wX_ HR0_3.out);(case side2 => exact HC0_3.out);(case side3 => exact Gfw.below HG.out.toGfw wB_);rintro e WA3 ⟨rfl,hb⟩;refine ⟨_,rfl,?_⟩;replace BK481 := aM (bw_ BK481.out hb);replace BK482 := aM (bw_ BK482.out hb);replace HB := aM (lT wB_ hb);obtain ⟨hcz3x482_0,hcz3x482_1,hcz3x482_2,hcz3x482_3,hcz3x482_4,hcz3x482_5,hcz3x482_6,hcz3x482_7,hcz3x482_8,hcz3x482_9,hcz3x482_10,hcz3x482_11,hcz3x482_12,hcz3x482_13,hfz3x482_0,hfz3x482_1,hfz3x482_2,hfz3x482_3,hfz3x482_4,hfz3x482_5,hfz3x482_6,hfz3x482_7,hfz3x482_8,hfz3x482_9,hfz3x482_10,hfz3x482_11,hfz3x482_12,hfz3x482_13⟩ := z14_ BK482.out)|(go_at_call 65;(with_reducible refine (impl_IsValidEntry.calls _ _ _ _ _ _ _ _ _ _ _ _ _ _ _ _ _ _ _ _ _ ?side1 ?side2 ?side3 ?side4 ?side5 A5.out).mono ?_);(case side1 => exact wX_ HR1_2.out);(case side2 => exact HC1_2.out);(case side3 => exact wX_ HR1_3.out);(case side4 => exact HC1_3.out);(case side5 => exact Gm.below HG.out.toGm wB_);rintro e WA5 ⟨rfl,hb⟩;replace BK481 := aM (bw_ BK481.out hb);replace BK482 := aM (bw_ BK482.out hb);replace HB := aM (lT wB_ hb);obtain ⟨hcz5x481_0,hcz5x481_1,hcz5x481_2,hcz5x481_3,hfz5x481_0,hfz5x481_1,hfz5x481_2,hfz5x481_3⟩ := z4_ BK481.out;obtain ⟨hcz5x482_0,hcz5x482_1,hcz5x482_2,hcz5x482_3,hcz5x482_4,hcz5x482_5,hcz5x482_6,hcz5x482_7,hcz5x482_8,hcz5x482_9,hcz5x482_10,hcz5x482_11,hcz5x482_12,hcz5x482_13,hfz5x482_0,hfz5x482_1,hfz5x482_2,hfz5x482_3,hfz5x482_4,hfz5x482_5,hfz5x482_6,hfz5x482_7,hfz5x482_8,hfz5x482_9,hfz5x482_10,hfz5x482_11,hfz5x482_12,hfz5x482_13⟩ := z14_ BK482.out)|((with_reducible refine gate_callee (f := 66) rfl ?_);refine gl_ (some 16) Tryz.func66 #[.agg #[.int .i64 a0_0,.string a0_1,.string a0_2,.slice A0_3 l0_3.length c0_3],.agg #[.string a1_0,.int .i64 a1_1,.slice A1_2 l1_2.length c1_2,.slice A1_3 l1_3.length c1_3,.string a1_4,.string a1_5,.string a1_6,.int .i64 a1_7,.int .i64 a1_8,.int .i64 a1_9,.bool a1_10,.int .i64 a1_11,.string a1_12,.string a1_13]] ?_;(with_reducible refine (impl_matches.calls _ _ _ _ _ _ _ _ _ _ _ _ _ _ _ _ _ _ _ _ _ _ _ _ _ _ _ ?side1 ?side2 ?side3 ?side4 ?side5 ?side6 ?side7 A7.out).mono ?_);(case side1 => exact wX_ HR0_3.out);(case side2 => exact HC0_3.out);(case side3 => exact wX_ HR1_2.out);(case side4 => exact HC1_2.out);(case side5 => exact wX_ HR1_3.out);(case side6 => exact HC1_3.out);(case side7 => exact Gfb.below HG.out wB_);rintro e WA7 ⟨rfl,hb⟩;refine ⟨_,rfl,?_⟩;replace BK481 := aM (bw_ BK481.out hb);replace BK482 := aM (bw_ BK482.out hb);replace HB := aM (lT wB_ hb)));go_ret2;exact ⟨vR_,wB_⟩
mutual
def laws_eqQueryS.l0 : Nat → List (S36) → List (S36) → Int → Option (Bool)
 | 0,_,_,_ => none
 | k + 1,x0,x1,x5 => if x5 < (x0.length : Int) then (if 0 ≤ x5 then (if x5 < (x1.length : Int) then ((laws_eqQuery.f k ((rd_T36 x0 x5).f0) ((rd_T36 x0 x5).f1) ((rd_T36 x0 x5).f2) ((rd_T36 x0 x5).f3) ((rd_T36 x1 x5).f0) ((rd_T36 x1 x5).f1) ((rd_T36 x1 x5).f2) ((rd_T36 x1 x5).f3)).bind fun t488 => (if t488 = true then (laws_eqQueryS.l0 k x0 x1 (wrap64 (x5 + 1))) else (some false))) else (none)) else (none)) else (some true)
def laws_eqQueryS.f : Nat → List (S36) → List (S36) → Option (Bool)
 | 0,_,_ => none
 | k + 1,l0,l1 => if (l0.length : Int) = (l1.length : Int) then (laws_eqQueryS.l0 k l0 l1 0) else (some false)
def laws_eqQuery.f : Nat → Int → ByteArray → ByteArray → List (S36) → Int → ByteArray → ByteArray → List (S36) → Option (Bool)
 | 0,_,_,_,_,_,_,_,_ => none
 | k + 1,a0_0,a0_1,a0_2,l0_3,a1_0,a1_1,a1_2,l1_3 => if a0_0 = a1_0 then (if a0_1.toList = a1_1.toList then (if a0_2.toList = a1_2.toList then ((laws_eqQueryS.f k l0_3 l1_3).bind fun t491 => (if t491 = true then (some true) else (some false))) else (some false)) else (some false)) else (some false)
end
theorem laws_eqQueryS.mono_l : ∀ k,(∀ y0 y1,LeO (laws_eqQueryS.f k y0 y1) (laws_eqQueryS.f (k + 1) y0 y1)) ∧ (∀ y0 y1 y2,LeO (laws_eqQueryS.l0 k y0 y1 y2) (laws_eqQueryS.l0 (k + 1) y0 y1 y2)) ∧ (∀ y0 y1 y2 y3 y4 y5 y6 y7,LeO (laws_eqQuery.f k y0 y1 y2 y3 y4 y5 y6 y7) (laws_eqQuery.f (k + 1) y0 y1 y2 y3 y4 y5 y6 y7))
 | 0 => ⟨fun _ _ r h => by simp [laws_eqQueryS.f] at h,fun _ _ _ r h => by simp [laws_eqQueryS.l0] at h,fun _ _ _ _ _ _ _ _ r h => by simp [laws_eqQuery.f] at h⟩
 | k + 1 => by
  obtain ⟨ih0,ih1,ih2⟩ := laws_eqQueryS.mono_l k
  refine ⟨?_,?_,?_⟩
  all_goals (intros;first|unfold laws_eqQueryS.f|unfold laws_eqQueryS.l0|unfold laws_eqQuery.f)
  all_goals repeat' (first|with_reducible (first|exact ih0 _ _|exact ih1 _ _ _|exact ih2 _ _ _ _ _ _ _ _|exact LeO.refl _|exact LeO.none _|refine LeO.ite ?_ ?_|refine LeO.bind ?_ (fun _ => ?_))|exact LeO.none _|refine LeO.ite ?_ ?_|refine LeO.bind ?_ (fun _ => ?_))
theorem laws_eqQueryS.mono : ∀ a0 a1 k,LeO (laws_eqQueryS.f k a0 a1) (laws_eqQueryS.f (k + 1) a0 a1) := by
 intro a0 a1 k;obtain ⟨ih0,ih1,ih2⟩ := laws_eqQueryS.mono_l k;exact ih0 a0 a1
theorem laws_eqQuery.mono : ∀ a0 a1 a2 a3 a4 a5 a6 a7 k,LeO (laws_eqQuery.f k a0 a1 a2 a3 a4 a5 a6 a7) (laws_eqQuery.f (k + 1) a0 a1 a2 a3 a4 a5 a6 a7) := by
 intro a0 a1 a2 a3 a4 a5 a6 a7 k;obtain ⟨ih0,ih1,ih2⟩ := laws_eqQueryS.mono_l k;exact ih2 a0 a1 a2 a3 a4 a5 a6 a7
def laws_eqQueryS.T6 : Bool × List (List Nat × List Nat) := (true,[([],[]),([],[]),([0,1],[0,1]),([2],[2]),([],[]),([],[]),([4,5],[4,5]),([6],[6]),([3,7],[3,7]),([8],[8])])
def laws_eqQueryS.B6 : List Nat := [0,0,3,7,0,0,48,112,255,511]
theorem laws_eqQueryS.tab6 : rtab .any (opsOf Tryz.f67 6) = laws_eqQueryS.T6 := by kernel_rfl
theorem laws_eqQueryS.bits6 : waitsOk laws_eqQueryS.T6.2 laws_eqQueryS.B6 = true := by kernel_rfl
set_option maxHeartbeats 8000000 in
set_option maxRecDepth 100000 in
theorem laws_eqQueryS.both (k : Nat) : (∀ (A0 : Option Addr) (c0 : Nat) (l0 : List (S36)) (A1 : Option Addr) (c1 : Nat) (l1 : List (S36)) (r : Bool) (w : World) (hr0 : Kd.C k36 w A0 l0.length l0) (hc0 : l0.length ≤ c0) (hr1 : Kd.C k36 w A1 l1.length l1) (hc1 : l1.length ≤ c1) (h : laws_eqQueryS.f k l0 l1 = some r),
  Calls Tryz.prog 67 #[.slice A0 l0.length c0,.slice A1 l1.length c1] w fun e w' => e = .returned (.bool r) ∧ Below w.heap.size w w') ∧ (∀ (a0_0 : Int) (a0_1 : ByteArray) (a0_2 : ByteArray) (A0_3 : Option Addr) (c0_3 : Nat) (l0_3 : List (S36)) (a1_0 : Int) (a1_1 : ByteArray) (a1_2 : ByteArray) (A1_3 : Option Addr) (c1_3 : Nat) (l1_3 : List (S36)) (r : Bool) (w : World) (hr0_3 : Kd.C k36 w A0_3 l0_3.length l0_3) (hc0_3 : l0_3.length ≤ c0_3) (hr1_3 : Kd.C k36 w A1_3 l1_3.length l1_3) (hc1_3 : l1_3.length ≤ c1_3) (h : laws_eqQuery.f k a0_0 a0_1 a0_2 l0_3 a1_0 a1_1 a1_2 l1_3 = some r),
  Calls Tryz.prog 15 #[.agg #[.int .i64 a0_0,.string a0_1,.string a0_2,.slice A0_3 l0_3.length c0_3],.agg #[.int .i64 a1_0,.string a1_1,.string a1_2,.slice A1_3 l1_3.length c1_3]] w fun e w' => e = .returned (.bool r) ∧ Below w.heap.size w w') := by
 induction k using Nat.strongRecOn with
 | _ k ih0 =>
 refine ⟨?_,?_⟩
 ·have ih := fun j (hj : j < k) => (ih0 j hj).1;have ihP := fun j (hj : j < k) => (ih0 j hj).2;clear ih0;intro A0 c0 l0 A1 c1 l1 r w hr0 hc0 hr1 hc1 h
  cases k with
  | zero => exact absurd h (by simp [laws_eqQueryS.f])
  | succ k =>
  simp only [laws_eqQueryS.f] at h;have hu36 := Tryz.underlying36;have HR0 := aM hr0;have HC0 := aM hc0;clear hr0 hc0;have HR1 := aM hr1;have HC1 := aM hc1;clear hr1 hc1;have HB := aM (Below.refl w.heap.size w);have H : (if (l0.length : Int) = (l1.length : Int) then (laws_eqQueryS.l0 k l0 l1 0) else (some false)) = some r := h;clear h
  by_cases c3 : (l0.length : Int) = (l1.length : Int)
  ·rw [if_pos c3] at H;have c3b0 : ((l0.length : Int) == (l1.length : Int)) = true := beq_iff_eq.mpr c3;have c3b1 : ((l0.length : Int) != (l1.length : Int)) = false := bne_eq_false_iff_eq.mpr c3;have c3b2 : (l0.length == l1.length) = true := (by first|simpa using c3|(simp at c3 ⊢;omega));clear c3;have H' := aM H;clear H;go_enter Tryz.func67,Tryz.ntmps67;go_wp2;go_loopg [5] k (fun kq v5 w' => ∃ (x5_1 : Int),v5 = .int .i64 x5_1 ∧ Aside0 (laws_eqQueryS.l0 kq l0 l1 x5_1 = some r) ∧ Aside0 (kq ≤ k) ∧ Aside0 (Below w.heap.size w w'))
   case atStart => exact ⟨(0),vR_,H',⟨Nat.le_refl _⟩,⟨wB_⟩⟩
   case round =>
    clear H';obtain ⟨x5_1,rfl,HA,HK1,HB⟩ := hrel
    cases gk with
    | zero => exact absurd HA.out (by simp [laws_eqQueryS.l0])
    | succ k1 =>
     have H := HA.out;clear HA;simp only [laws_eqQueryS.l0] at H
     by_cases c4 : x5_1 < (l0.length : Int)
     focus
      rw [if_pos c4] at H;have c4b0 : decide (x5_1 < (l0.length : Int)) = true := dT c4;clear c4
      by_cases c5 : 0 ≤ x5_1
      rotate_left;rw [if_neg c5] at H;exact absurd H (by simp);rw [if_pos c5] at H;have c5b0 : decide (0 ≤ x5_1) = true := dT c5;clear c5
      by_cases c6 : x5_1 < (l1.length : Int)
      rotate_left;rw [if_neg c6] at H;exact absurd H (by simp);rw [if_pos c6] at H;have c6b0 : decide (x5_1 < (l1.length : Int)) = true := dT c6;clear c6;obtain ⟨t488,A7,H⟩ := bE_ H
      by_cases c8 : t488 = true
      focus
       subst c8;rw [if_pos rfl] at H;have H' := aM H;clear H
      rotate_left
      focus
       replace c8 := Bool.eq_false_iff.mpr c8;subst c8;rw [if_neg Bool.false_ne_true] at H;obtain rfl := Option.some.inj H;simp only [eS,eP] at H;obtain ⟨rfl⟩ := H
     rotate_left 2
     focus
      rw [if_neg c4] at H;have c4b0 : decide (x5_1 < (l0.length : Int)) = false := dF c4;clear c4;obtain rfl := Option.some.inj H;simp only [eS,eP] at H;obtain ⟨rfl⟩ := H
     all_goals
      (try go_wp2)
      first
       |
        go_ret;exact ⟨vR_,wB_⟩
       |
        replace HB := aM (lD HB.out);have p01 : 0 ≤ (x5_1 : Int) := oD (by assumption);have q01 : x5_1 < (l0.length : Int) := oD (by assumption);obtain ⟨ad01,aF,aG,e01,hx01_0,ak,al,am,az,aA⟩ := at_T36 HR0.out x5_1 p01 q01;have ab := am;have ac := al;have ae := ak;have af := hx01_0;cases e01;replace hx01_0 := (HB.out.cell (wB w _ hx01_0)).trans hx01_0;replace ak := (HB.out.cell (wB w _ ak)).trans ak;replace al := (HB.out.cell (wB w _ al)).trans al;replace am := (HB.out.cell (wB w _ am)).trans am;have av := aM aA;have aB := aM az;clear aA az;replace p01 := eq_true p01;replace q01 := eq_true q01;have p02 : 0 ≤ (x5_1 : Int) := oD (by assumption);have q02 : x5_1 < (l1.length : Int) := oD (by assumption);obtain ⟨ad02,aH,aI,e02,hx02_0,an,ap,ar,aC,aD⟩ := at_T36 HR1.out x5_1 p02 q02;have ag := ar;have ah := ap;have ai := an;have aj := hx02_0;cases e02;replace hx02_0 := (HB.out.cell (wB w _ hx02_0)).trans hx02_0;replace an := (HB.out.cell (wB w _ an)).trans an;replace ap := (HB.out.cell (wB w _ ap)).trans ap;replace ar := (HB.out.cell (wB w _ ar)).trans ar;have aw := aM aD;have aE := aM aC;clear aD aC;replace p02 := eq_true p02;replace q02 := eq_true q02;refine start_ (n := 10) (S := fun w' => w'.cell? (ad01.add ((x5_1).toNat * 4)) = some (.int .i64 ((rd_T36 l0 x5_1).f0)) ∧ w'.cell? ⟨(ad01.add ((x5_1).toNat * 4)).block,(ad01.add ((x5_1).toNat * 4)).off + 1,none⟩ = some (.string ((rd_T36 l0 x5_1).f1)) ∧ w'.cell? ⟨(ad01.add ((x5_1).toNat * 4)).block,(ad01.add ((x5_1).toNat * 4)).off + 2,none⟩ = some (.string ((rd_T36 l0 x5_1).f2)) ∧ w'.cell? ⟨(ad01.add ((x5_1).toNat * 4)).block,(ad01.add ((x5_1).toNat * 4)).off + 3,none⟩ = some (.slice aF ((rd_T36 l0 x5_1).f3).length aG) ∧ w'.cell? (ad02.add ((x5_1).toNat * 4)) = some (.int .i64 ((rd_T36 l1 x5_1).f0)) ∧ w'.cell? ⟨(ad02.add ((x5_1).toNat * 4)).block,(ad02.add ((x5_1).toNat * 4)).off + 1,none⟩ = some (.string ((rd_T36 l1 x5_1).f1)) ∧ w'.cell? ⟨(ad02.add ((x5_1).toNat * 4)).block,(ad02.add ((x5_1).toNat * 4)).off + 2,none⟩ = some (.string ((rd_T36 l1 x5_1).f2)) ∧ w'.cell? ⟨(ad02.add ((x5_1).toNat * 4)).block,(ad02.add ((x5_1).toNat * 4)).off + 3,none⟩ = some (.slice aH ((rd_T36 l1 x5_1).f3).length aI)) (ds := []) (mk_ 10 0) (by kernel_rfl) rfl (by kernel_rfl) ⟨((HB.out.cell (wB w _ af)).trans af),((HB.out.cell (wB w _ ae)).trans ae),((HB.out.cell (wB w _ ac)).trans ac),((HB.out.cell (wB w _ ab)).trans ab),((HB.out.cell (wB w _ aj)).trans aj),((HB.out.cell (wB w _ ai)).trans ai),((HB.out.cell (wB w _ ah)).trans ah),((HB.out.cell (wB w _ ag)).trans ag)⟩ (fun hHeld => ?_);refine with_tabW laws_eqQueryS.tab6 laws_eqQueryS.bits6 (fun HT_ HW_ => ?_);generalize wr.drew = wk0 at HB av aw hx01_0 ak al am hx02_0 an ap ar hHeld ⊢;refine pure_ (i := 0) (N := some 17) (v := ?_) (a' := ?_) (mk_ 10 1) rfl rfl (any_of HT_.out (by kernel_rfl)) (fun _ _ _ h => h) (Or.inl ⟨by rfl,?_⟩) ?_ ?_;rotate_left;intro w';go_simp;(with_reducible rfl);rotate_left;simp only [Act.put,lI,sZ,sS,i64_w,i32_w];rfl;refine pure_ (i := 1) (N := some 18) (v := ?_) (a' := ?_) (mk_ 10 3) rfl rfl (any_of HT_.out (by kernel_rfl)) (fun _ _ _ h => h) (Or.inl ⟨by rfl,?_⟩) ?_ ?_;rotate_left;intro w';go_simp;(with_reducible rfl);rotate_left;simp only [Act.put,lI,sZ,sS,i64_w,i32_w];rfl;refine pure_ (i := 2) (N := some 19) (v := ?_) (a' := ?_) (mk_ 10 7) rfl rfl (any_of HT_.out (by kernel_rfl)) (fun _ _ _ h => h) (Or.inl ⟨by rfl,?_⟩) ?_ ?_;rotate_left;intro w';go_simp;(with_reducible rfl);rotate_left;simp only [Act.put,lI,sZ,sS,i64_w,i32_w];rfl;refine pure_ (i := 4) (N := some 21) (v := ?_) (a' := ?_) (mk_ 10 23) rfl rfl (any_of HT_.out (by kernel_rfl)) (fun _ _ _ h => h) (Or.inl ⟨by rfl,?_⟩) ?_ ?_;rotate_left;intro w';go_simp;(with_reducible rfl);rotate_left;simp only [Act.put,lI,sZ,sS,i64_w,i32_w];rfl;refine pure_ (i := 5) (N := some 22) (v := ?_) (a' := ?_) (mk_ 10 55) rfl rfl (any_of HT_.out (by kernel_rfl)) (fun _ _ _ h => h) (Or.inl ⟨by rfl,?_⟩) ?_ ?_;rotate_left;intro w';go_simp;(with_reducible rfl);rotate_left;simp only [Act.put,lI,sZ,sS,i64_w,i32_w];rfl;refine pure_ (i := 6) (N := some 23) (v := ?_) (a' := ?_) (mk_ 10 119) rfl rfl (any_of HT_.out (by kernel_rfl)) (fun _ _ _ h => h) (Or.inl ⟨by rfl,?_⟩) ?_ ?_;rotate_left;intro w';go_simp;(with_reducible rfl);rotate_left;simp only [Act.put,lI,sZ,sS,i64_w,i32_w];rfl;refine take_ (i := 3) (N := some 20) (v := ?_) (a' := ?_) (mk_ 10 127) rfl rfl (take_ofW HT_.out HW_.out (by kernel_rfl)) (fun _ _ _ h => h) (Or.inl ⟨by rfl,?_⟩) hHeld ?_ ?_;rotate_left;rintro w' ⟨s0,s1,s2,s3,s4,s5,s6,s7⟩;go_simp;(with_reducible rfl);rotate_left;simp only [Act.put,lI,sZ,sS,i64_w,i32_w];rfl;refine take_ (i := 7) (N := some 24) (v := ?_) (a' := ?_) (mk_ 10 255) rfl rfl (take_ofW HT_.out HW_.out (by kernel_rfl)) (fun _ _ _ h => h) (Or.inl ⟨by rfl,?_⟩) hHeld ?_ ?_;rotate_left;rintro w' ⟨s0,s1,s2,s3,s4,s5,s6,s7⟩;go_simp;(with_reducible rfl);rotate_left;simp only [Act.put,lI,sZ,sS,i64_w,i32_w];rfl;refine one_ (i := 8) (N := some 25) (mk_ 10 511) rfl rfl (one_of HT_.out (by kernel_rfl)) (by decide) (fun K hK => ?_);refine gs_ Tryz.func15 #[.agg #[.int .i64 ((rd_T36 l0 x5_1).f0),.string ((rd_T36 l0 x5_1).f1),.string ((rd_T36 l0 x5_1).f2),.slice aF ((rd_T36 l0 x5_1).f3).length aG],.agg #[.int .i64 ((rd_T36 l1 x5_1).f0),.string ((rd_T36 l1 x5_1).f1),.string ((rd_T36 l1 x5_1).f2),.slice aH ((rd_T36 l1 x5_1).f3).length aI]] ?_
        first
         |
          (with_reducible refine (ihP k1 (by have := HK1.out;omega) ((rd_T36 l0 x5_1).f0) ((rd_T36 l0 x5_1).f1) ((rd_T36 l0 x5_1).f2) _ _ ((rd_T36 l0 x5_1).f3) ((rd_T36 l1 x5_1).f0) ((rd_T36 l1 x5_1).f1) ((rd_T36 l1 x5_1).f2) _ _ ((rd_T36 l1 x5_1).f3) false _ ?side1 ?side2 ?side3 ?side4 A7.out).mono ?_);(case side1 => exact wX_ av.out);(case side2 => exact aB.out);(case side3 => exact wX_ aw.out);(case side4 => exact aE.out);rintro e wk1 ⟨rfl,hb⟩;refine ⟨_,rfl,?_⟩;replace HB := aM (lT wB_ hb);refine hK.out _ _ ⟨((HB.out.cell (wB w _ af)).trans af),((HB.out.cell (wB w _ ae)).trans ae),((HB.out.cell (wB w _ ac)).trans ac),((HB.out.cell (wB w _ ab)).trans ab),((HB.out.cell (wB w _ aj)).trans aj),((HB.out.cell (wB w _ ai)).trans ai),((HB.out.cell (wB w _ ah)).trans ah),((HB.out.cell (wB w _ ag)).trans ag)⟩ (fun hHeld => ?_);clear hK K;refine norm_ (a' := ?_) ?_ ?_;rotate_left;show Act.put _ (some 25) _ = _;simp only [Act.put,lI,sZ,sS,i64_w,i32_w];rfl;refine pure_ (i := 9) (N := some 26) (v := ?_) (a' := ?_) (mk_ 10 1023) rfl rfl (any_of HT_.out (by kernel_rfl)) (fun _ _ _ h => h) (Or.inl ⟨by rfl,?_⟩) ?_ ?_;rotate_left;intro w';go_simp;(with_reducible rfl);rotate_left;simp only [Act.put,lI,sZ,sS,i64_w,i32_w];rfl;refine done_ (done_of HT_.out (by kernel_rfl)) ?_;(try go_wp2);go_ret;exact ⟨vR_,wB_⟩
         |
          (with_reducible refine (ihP k1 (by have := HK1.out;omega) ((rd_T36 l0 x5_1).f0) ((rd_T36 l0 x5_1).f1) ((rd_T36 l0 x5_1).f2) _ _ ((rd_T36 l0 x5_1).f3) ((rd_T36 l1 x5_1).f0) ((rd_T36 l1 x5_1).f1) ((rd_T36 l1 x5_1).f2) _ _ ((rd_T36 l1 x5_1).f3) true _ ?side1 ?side2 ?side3 ?side4 A7.out).mono ?_);(case side1 => exact wX_ av.out);(case side2 => exact aB.out);(case side3 => exact wX_ aw.out);(case side4 => exact aE.out);rintro e wk1 ⟨rfl,hb⟩;refine ⟨_,rfl,?_⟩;replace HB := aM (lT wB_ hb);refine hK.out _ _ ⟨((HB.out.cell (wB w _ af)).trans af),((HB.out.cell (wB w _ ae)).trans ae),((HB.out.cell (wB w _ ac)).trans ac),((HB.out.cell (wB w _ ab)).trans ab),((HB.out.cell (wB w _ aj)).trans aj),((HB.out.cell (wB w _ ai)).trans ai),((HB.out.cell (wB w _ ah)).trans ah),((HB.out.cell (wB w _ ag)).trans ag)⟩ (fun hHeld => ?_);clear hK K;refine norm_ (a' := ?_) ?_ ?_;rotate_left;show Act.put _ (some 25) _ = _;simp only [Act.put,lI,sZ,sS,i64_w,i32_w];rfl;refine pure_ (i := 9) (N := some 26) (v := ?_) (a' := ?_) (mk_ 10 1023) rfl rfl (any_of HT_.out (by kernel_rfl)) (fun _ _ _ h => h) (Or.inl ⟨by rfl,?_⟩) ?_ ?_;rotate_left;intro w';go_simp;(with_reducible rfl);rotate_left;simp only [Act.put,lI,sZ,sS,i64_w,i32_w];rfl;refine done_ (done_of HT_.out (by kernel_rfl)) ?_;(try go_wp2);go_roundg k1
          case measure => have := HK1.out;omega
          case rel => exact ⟨(wrap64 (x5_1 + 1)),vR_,H',⟨by have := HK1.out;omega⟩,⟨wB_⟩⟩
  ·rw [if_neg c3] at H;have c3b0 : ((l0.length : Int) == (l1.length : Int)) = false := beq_eq_false_iff_ne.mpr c3;have c3b1 : ((l0.length : Int) != (l1.length : Int)) = true := bne_iff_ne.mpr c3;have c3b2 : (l0.length == l1.length) = false := (by first|simpa using c3|(simp at c3 ⊢;omega));obtain rfl := Option.some.inj H;simp only [eS,eP] at H;obtain ⟨rfl⟩ := H;go_enter Tryz.func67,Tryz.ntmps67;go_wp2;go_ret;exact ⟨vR_,wB_⟩
 ·have ih := fun j (hj : j < k) => (ih0 j hj).2;have ihP := fun j (hj : j < k) => (ih0 j hj).1;clear ih0;intro a0_0 a0_1 a0_2 A0_3 c0_3 l0_3 a1_0 a1_1 a1_2 A1_3 c1_3 l1_3 r w hr0_3 hc0_3 hr1_3 hc1_3 h
  cases k with
  | zero => exact absurd h (by simp [laws_eqQuery.f])
  | succ k =>
  simp only [laws_eqQuery.f] at h;have hu36 := Tryz.underlying36;have HR0_3 := aM hr0_3;have HC0_3 := aM hc0_3;clear hr0_3 hc0_3;have HR1_3 := aM hr1_3;have HC1_3 := aM hc1_3;clear hr1_3 hc1_3;have HB := aM (Below.refl w.heap.size w);have H : (if a0_0 = a1_0 then (if a0_1.toList = a1_1.toList then (if a0_2.toList = a1_2.toList then ((laws_eqQueryS.f k l0_3 l1_3).bind fun t491 => (if t491 = true then (some true) else (some false))) else (some false)) else (some false)) else (some false)) = some r := h;clear h
  by_cases c3 : a0_0 = a1_0
  focus
   rw [if_pos c3] at H;have c3b0 : (a0_0 == a1_0) = true := beq_iff_eq.mpr c3;have c3b1 : (a0_0 != a1_0) = false := bne_eq_false_iff_eq.mpr c3;clear c3
   by_cases c4 : a0_1.toList = a1_1.toList
   focus
    rw [if_pos c4] at H;have c4b0 : (a0_1.toList == a1_1.toList) = true := beq_iff_eq.mpr c4;have aO : (a0_1.toList != a1_1.toList) = false := bne_eq_false_iff_eq.mpr c4;clear c4
    by_cases c5 : a0_2.toList = a1_2.toList
    focus
     rw [if_pos c5] at H;have c5b0 : (a0_2.toList == a1_2.toList) = true := beq_iff_eq.mpr c5;have aP : (a0_2.toList != a1_2.toList) = false := bne_eq_false_iff_eq.mpr c5;clear c5;obtain ⟨t491,A6,H⟩ := bE_ H
     by_cases c7 : t491 = true
     focus
      subst c7;rw [if_pos rfl] at H;obtain rfl := Option.some.inj H;simp only [eS,eP] at H;obtain ⟨rfl⟩ := H
     rotate_left
     focus
      replace c7 := Bool.eq_false_iff.mpr c7;subst c7;rw [if_neg Bool.false_ne_true] at H;obtain rfl := Option.some.inj H;simp only [eS,eP] at H;obtain ⟨rfl⟩ := H
    rotate_left 2
    focus
     rw [if_neg c5] at H;have c5b0 : (a0_2.toList == a1_2.toList) = false := beq_eq_false_iff_ne.mpr c5;have aP : (a0_2.toList != a1_2.toList) = true := bne_iff_ne.mpr c5;obtain rfl := Option.some.inj H;simp only [eS,eP] at H;obtain ⟨rfl⟩ := H
   rotate_left 3
   focus
    rw [if_neg c4] at H;have c4b0 : (a0_1.toList == a1_1.toList) = false := beq_eq_false_iff_ne.mpr c4;have aO : (a0_1.toList != a1_1.toList) = true := bne_iff_ne.mpr c4;obtain rfl := Option.some.inj H;simp only [eS,eP] at H;obtain ⟨rfl⟩ := H
  rotate_left 4
  focus
   rw [if_neg c3] at H;have c3b0 : (a0_0 == a1_0) = false := beq_eq_false_iff_ne.mpr c3;have c3b1 : (a0_0 != a1_0) = true := bne_iff_ne.mpr c3;obtain rfl := Option.some.inj H;simp only [eS,eP] at H;obtain ⟨rfl⟩ := H
  all_goals
   go_enter Tryz.func15,Tryz.ntmps15;go_wp2_with (first|((with_reducible refine gate_dst (N := 2) rfl ?_);refine bx_ (N := 2) (cs := #[.int .i64 a0_0,.string a0_1,.string a0_2,.slice A0_3 l0_3.length c0_3]) (t := 36) ?_;intro aJ hg Wgb489 hbox hb;have aa := aM (hbox);have aK := aM ((by rw [hg];exact (lZ wB_) : w.heap.size ≤ aJ));have GE489 := aK;replace HB := aM (lT wB_ hb);clear hb hbox hg)|((with_reducible refine gate_dst (N := 3) rfl ?_);refine bx_ (N := 3) (cs := #[.int .i64 a1_0,.string a1_1,.string a1_2,.slice A1_3 l1_3.length c1_3]) (t := 36) ?_;intro aL hg Wgb490 hbox hb;have au := aM (hbox);have aN := aM ((by rw [hg];exact (lZ wB_) : w.heap.size ≤ aL));have GE490 := aN;have ax := aM (nl_ hg aa.out);have ay := aM (ng_ hg aa.out);replace aa := aM (bw_ aa.out hb);replace HB := aM (lT wB_ hb);clear hb hbox hg;have hnby489_490 := ax.out;have hncy490_489 := ay.out;obtain ⟨hcz490x489_0,hcz490x489_1,hcz490x489_2,hcz490x489_3,hfz490x489_0,hfz490x489_1,hfz490x489_2,hfz490x489_3⟩ := z4_ aa.out;obtain ⟨hcz490x490_0,hcz490x490_1,hcz490x490_2,hcz490x490_3,hfz490x490_0,hfz490x490_1,hfz490x490_2,hfz490x490_3⟩ := z4_ au.out)|((with_reducible refine gate_callee (f := 67) rfl ?_);refine gl_ (some 24) Tryz.func67 #[.slice A0_3 l0_3.length c0_3,.slice A1_3 l1_3.length c1_3] ?_;(with_reducible refine (ihP k (by omega) _ _ l0_3 _ _ l1_3 false _ ?side1 ?side2 ?side3 ?side4 A6.out).mono ?_);(case side1 => exact wX_ HR0_3.out);(case side2 => exact HC0_3.out);(case side3 => exact wX_ HR1_3.out);(case side4 => exact HC1_3.out);rintro e WA6 ⟨rfl,hb⟩;refine ⟨_,rfl,?_⟩;replace aa := aM (bw_ aa.out hb);replace au := aM (bw_ au.out hb);replace HB := aM (lT wB_ hb))|((with_reducible refine gate_callee (f := 67) rfl ?_);refine gl_ (some 24) Tryz.func67 #[.slice A0_3 l0_3.length c0_3,.slice A1_3 l1_3.length c1_3] ?_;(with_reducible refine (ihP k (by omega) _ _ l0_3 _ _ l1_3 true _ ?side1 ?side2 ?side3 ?side4 A6.out).mono ?_);(case side1 => exact wX_ HR0_3.out);(case side2 => exact HC0_3.out);(case side3 => exact wX_ HR1_3.out);(case side4 => exact HC1_3.out);rintro e WA6 ⟨rfl,hb⟩;refine ⟨_,rfl,?_⟩;replace aa := aM (bw_ aa.out hb);replace au := aM (bw_ au.out hb);replace HB := aM (lT wB_ hb)));go_ret;exact ⟨vR_,wB_⟩
theorem laws_eqQueryS.calls (k : Nat) : ∀ (A0 : Option Addr) (c0 : Nat) (l0 : List (S36)) (A1 : Option Addr) (c1 : Nat) (l1 : List (S36)) (r : Bool) (w : World) (hr0 : Kd.C k36 w A0 l0.length l0) (hc0 : l0.length ≤ c0) (hr1 : Kd.C k36 w A1 l1.length l1) (hc1 : l1.length ≤ c1) (h : laws_eqQueryS.f k l0 l1 = some r),
  Calls Tryz.prog 67 #[.slice A0 l0.length c0,.slice A1 l1.length c1] w fun e w' => e = .returned (.bool r) ∧ Below w.heap.size w w' := (laws_eqQueryS.both k).1
theorem laws_eqQuery.calls (k : Nat) : ∀ (a0_0 : Int) (a0_1 : ByteArray) (a0_2 : ByteArray) (A0_3 : Option Addr) (c0_3 : Nat) (l0_3 : List (S36)) (a1_0 : Int) (a1_1 : ByteArray) (a1_2 : ByteArray) (A1_3 : Option Addr) (c1_3 : Nat) (l1_3 : List (S36)) (r : Bool) (w : World) (hr0_3 : Kd.C k36 w A0_3 l0_3.length l0_3) (hc0_3 : l0_3.length ≤ c0_3) (hr1_3 : Kd.C k36 w A1_3 l1_3.length l1_3) (hc1_3 : l1_3.length ≤ c1_3) (h : laws_eqQuery.f k a0_0 a0_1 a0_2 l0_3 a1_0 a1_1 a1_2 l1_3 = some r),
  Calls Tryz.prog 15 #[.agg #[.int .i64 a0_0,.string a0_1,.string a0_2,.slice A0_3 l0_3.length c0_3],.agg #[.int .i64 a1_0,.string a1_1,.string a1_2,.slice A1_3 l1_3.length c1_3]] w fun e w' => e = .returned (.bool r) ∧ Below w.heap.size w w' := (laws_eqQueryS.both k).2
def laws_eqStringS.l0 : Nat → List ByteArray → List ByteArray → Int → Option (Bool)
 | 0,_,_,_ => none
 | k + 1,x0,x1,x5 => if x5 < (x0.length : Int) then (if 0 ≤ x5 then (if x5 < (x1.length : Int) then (if (rdOf ByteArray.empty x0 x5).toList = (rdOf ByteArray.empty x1 x5).toList then (laws_eqStringS.l0 k x0 x1 (wrap64 (x5 + 1))) else (some false)) else (none)) else (none)) else (some true)
def laws_eqStringS.f (k : Nat) (l0 : List ByteArray) (l1 : List ByteArray) : Option (Bool) := if (l0.length : Int) = (l1.length : Int) then (laws_eqStringS.l0 k l0 l1 0) else (some false)
theorem laws_eqStringS.mono_l : ∀ k,(∀ y0 y1 y2,LeO (laws_eqStringS.l0 k y0 y1 y2) (laws_eqStringS.l0 (k + 1) y0 y1 y2))
 | 0 => fun _ _ _ r h => by simp [laws_eqStringS.l0] at h
 | k + 1 => by
  have ih0 := laws_eqStringS.mono_l k
  ·intro y0 y1 y2
   unfold laws_eqStringS.l0
   repeat' (first|with_reducible (first|exact ih0 _ _ _|exact LeO.refl _|exact LeO.none _|refine LeO.ite ?_ ?_|refine LeO.bind ?_ (fun _ => ?_))|exact LeO.none _|refine LeO.ite ?_ ?_|refine LeO.bind ?_ (fun _ => ?_))
theorem laws_eqStringS.mono : ∀ a0 a1 k,LeO (laws_eqStringS.f k a0 a1) (laws_eqStringS.f (k + 1) a0 a1) := by
 intro a0 a1 k
 have ih0 := laws_eqStringS.mono_l k
 unfold laws_eqStringS.f
 repeat' (first|with_reducible (first|exact ih0 _ _ _|exact LeO.refl _|exact LeO.none _|refine LeO.ite ?_ ?_|refine LeO.bind ?_ (fun _ => ?_))|exact LeO.none _|refine LeO.ite ?_ ?_|refine LeO.bind ?_ (fun _ => ?_))
set_option maxHeartbeats 8000000 in
set_option maxRecDepth 100000 in
theorem laws_eqStringS.calls (k : Nat) (A0 : Option Addr) (c0 : Nat) (l0 : List ByteArray) (A1 : Option Addr) (c1 : Nat) (l1 : List ByteArray) (r : Bool) (w : World) (hr0 : Kd.C Kd.string w A0 l0.length l0) (hc0 : l0.length ≤ c0) (hr1 : Kd.C Kd.string w A1 l1.length l1) (hc1 : l1.length ≤ c1) (h : laws_eqStringS.f k l0 l1 = some r) :
  Calls Tryz.prog 21 #[.slice A0 l0.length c0,.slice A1 l1.length c1] w fun e w' => e = .returned (.bool r) ∧ Drawn0 w w' := by
 have HR0 := aM hr0;have HC0 := aM hc0;clear hr0 hc0;have HR1 := aM hr1;have HC1 := aM hc1;clear hr1 hc1;have H : (if (l0.length : Int) = (l1.length : Int) then (laws_eqStringS.l0 k l0 l1 0) else (some false)) = some r := h;clear h
 by_cases c3 : (l0.length : Int) = (l1.length : Int)
 ·rw [if_pos c3] at H;have c3b0 : ((l0.length : Int) == (l1.length : Int)) = true := beq_iff_eq.mpr c3;have c3b1 : ((l0.length : Int) != (l1.length : Int)) = false := bne_eq_false_iff_eq.mpr c3;have c3b2 : (l0.length == l1.length) = true := (by first|simpa using c3|(simp at c3 ⊢;omega));clear c3;have H' := aM H;clear H;go_enter Tryz.func21,Tryz.ntmps21;go_wp2;(repeat (go_quiet (fail);try go_wp2));go_loopg [5] k (fun kq v5 w' => ∃ (x5_1 : Int),v5 = .int .i64 x5_1 ∧ Aside0 (laws_eqStringS.l0 kq l0 l1 x5_1 = some r) ∧ Aside0 (kq ≤ k) ∧ Drawn0 w w')
  case atStart => exact ⟨(0),vR_,H',⟨Nat.le_refl _⟩,dw_⟩
  case round =>
   clear H';obtain ⟨x5_1,rfl,HA,HK1,⟨m1,rfl⟩⟩ := hrel
   cases gk with
   | zero => exact absurd HA.out (by simp [laws_eqStringS.l0])
   | succ k1 =>
    have H := HA.out;clear HA;simp only [laws_eqStringS.l0] at H
    by_cases c4 : x5_1 < (l0.length : Int)
    focus
     rw [if_pos c4] at H;have c4b0 : decide (x5_1 < (l0.length : Int)) = true := dT c4;clear c4
     by_cases c5 : 0 ≤ x5_1
     rotate_left;rw [if_neg c5] at H;exact absurd H (by simp);rw [if_pos c5] at H;have c5b0 : decide (0 ≤ x5_1) = true := dT c5;clear c5
     by_cases c6 : x5_1 < (l1.length : Int)
     rotate_left;rw [if_neg c6] at H;exact absurd H (by simp);rw [if_pos c6] at H;have c6b0 : decide (x5_1 < (l1.length : Int)) = true := dT c6;clear c6
     by_cases c7 : (rdOf ByteArray.empty l0 x5_1).toList = (rdOf ByteArray.empty l1 x5_1).toList
     focus
      rw [if_pos c7] at H;have c7b0 : ((rdOf ByteArray.empty l0 x5_1).toList == (rdOf ByteArray.empty l1 x5_1).toList) = true := beq_iff_eq.mpr c7;have c7b1 : ((rdOf ByteArray.empty l0 x5_1).toList != (rdOf ByteArray.empty l1 x5_1).toList) = false := bne_eq_false_iff_eq.mpr c7;clear c7;have H' := aM H;clear H
     rotate_left
     focus
      rw [if_neg c7] at H;have c7b0 : ((rdOf ByteArray.empty l0 x5_1).toList == (rdOf ByteArray.empty l1 x5_1).toList) = false := beq_eq_false_iff_ne.mpr c7;have c7b1 : ((rdOf ByteArray.empty l0 x5_1).toList != (rdOf ByteArray.empty l1 x5_1).toList) = true := bne_iff_ne.mpr c7;obtain rfl := Option.some.inj H;simp only [eS,eP] at H;obtain ⟨rfl⟩ := H
    rotate_left 2
    focus
     rw [if_neg c4] at H;have c4b0 : decide (x5_1 < (l0.length : Int)) = false := dF c4;clear c4;obtain rfl := Option.some.inj H;simp only [eS,eP] at H;obtain ⟨rfl⟩ := H
    all_goals
     (try (have p01 : 0 ≤ (x5_1 : Int) := oD (by assumption);have q01 : x5_1 < (l0.length : Int) := oD (by assumption);obtain ⟨ad01,e01,hx01_0⟩ := Kd.at_string HR0.out x5_1 p01 q01;cases e01;replace p01 := eq_true p01;replace q01 := eq_true q01));(try (have p02 : 0 ≤ (x5_1 : Int) := oD (by assumption);have q02 : x5_1 < (l1.length : Int) := oD (by assumption);obtain ⟨ad02,e02,hx02_0⟩ := Kd.at_string HR1.out x5_1 p02 q02;cases e02;replace p02 := eq_true p02;replace q02 := eq_true q02));go_wp2;(repeat (go_quiet (fail);try go_wp2))
     first
      |
       go_ret;exact ⟨vR_,dw_⟩
      |
       go_roundg k1
       case measure => have := HK1.out;omega
       case rel => exact ⟨(wrap64 (x5_1 + 1)),vR_,H',⟨by have := HK1.out;omega⟩,dw_⟩
 ·rw [if_neg c3] at H;have c3b0 : ((l0.length : Int) == (l1.length : Int)) = false := beq_eq_false_iff_ne.mpr c3;have c3b1 : ((l0.length : Int) != (l1.length : Int)) = true := bne_iff_ne.mpr c3;have c3b2 : (l0.length == l1.length) = false := (by first|simpa using c3|(simp at c3 ⊢;omega));obtain rfl := Option.some.inj H;simp only [eS,eP] at H;obtain ⟨rfl⟩ := H;go_enter Tryz.func21,Tryz.ntmps21;go_wp2;(repeat (go_quiet (fail);try go_wp2));go_ret;exact ⟨vR_,dw_⟩
end Go.Proofs.YtmafmhgmdegplaaGreatDoor.P
