/- Written by a program in this session: each theorem here says that a Go function computes the Lean function beside it, or that a law's row holds, under the conditions that the theorem itself states. -/
import Derived.Test.YtmafmhgmdegplaaGreatDoorZPx0
import Derived.Test.YtmafmhgmdegplaaGreatDoorZPx1
import Derived.Test.YtmafmhgmdegplaaGreatDoorZPx13
import Derived.Test.YtmafmhgmdegplaaGreatDoorZPx17
import Derived.Test.YtmafmhgmdegplaaGreatDoorZShelf
namespace Go.Proofs.YtmafmhgmdegplaaGreatDoor.P
open Go.RowKit Go.Proofs.YtmafmhgmdegplaaGreatDoorW.PrintWords Go.Proofs.YtmafmhgmdegplaaGreatDoorW.PrintLast Go.Proofs.YtmafmhgmdegplaaGreatDoorW.PrintMore
attribute [local go_sem] max2_int min2_int max_two min_two max_three min_three max_four min_four   -- for this text's walks alone
set_option linter.unusedVariables false
set_option linter.unusedSimpArgs false
attribute [local go_sem high] eqA39
def impl_Name_213.l0 : Nat → List (S157) → Int → Int → Option (Int)
 | 0,_,_,_ => none
 | k + 1,x0,x7,x8 => if x8 < x7 then (if 0 ≤ x8 then (if x8 < (x0.length : Int) then ((impl_areNames_1.f k ((rd_T157 x0 x8).f0) ((rd_T157 x0 x8).f1) ((rd_T157 x0 x8).f2) ((rd_T157 x0 x8).f3)).bind fun t390 => (if t390 = true then (some x8) else (impl_Name_213.l0 k x0 x7 (wrap64 (x8 + 1))))) else (none)) else (none)) else (some (-1))
def impl_Name_213.f (k : Nat) (l0 : List (S157)) (a1 : Int) : Option (Int) := impl_Name_213.l0 k l0 (l0.length : Int) 0
theorem impl_Name_213.mono_l : ∀ k,(∀ y0 y1 y2,LeO (impl_Name_213.l0 k y0 y1 y2) (impl_Name_213.l0 (k + 1) y0 y1 y2))
 | 0 => fun _ _ _ r h => by simp [impl_Name_213.l0] at h
 | k + 1 => by
  have ih0 := impl_Name_213.mono_l k
  ·intro y0 y1 y2
   unfold impl_Name_213.l0
   repeat' (first|with_reducible (first|exact ih0 _ _ _|exact impl_areNames_1.mono _ _ _ _ _|exact LeO.refl _|exact LeO.none _|refine LeO.ite ?_ ?_|refine LeO.bind ?_ (fun _ => ?_))|exact LeO.none _|refine LeO.ite ?_ ?_|refine LeO.bind ?_ (fun _ => ?_))
theorem impl_Name_213.mono : ∀ a0 a1 k,LeO (impl_Name_213.f k a0 a1) (impl_Name_213.f (k + 1) a0 a1) := by
 intro a0 a1 k
 have ih0 := impl_Name_213.mono_l k
 unfold impl_Name_213.f
 repeat' (first|with_reducible (first|exact ih0 _ _ _|exact impl_areNames_1.mono _ _ _ _ _|exact LeO.refl _|exact LeO.none _|refine LeO.ite ?_ ?_|refine LeO.bind ?_ (fun _ => ?_))|exact LeO.none _|refine LeO.ite ?_ ?_|refine LeO.bind ?_ (fun _ => ?_))
set_option maxHeartbeats 8000000 in
set_option maxRecDepth 100000 in
theorem impl_Name_213.calls (k : Nat) (A0 : Option Addr) (c0 : Nat) (l0 : List (S157)) (a1 : Int) (r : Int) (w : World) (hr0 : Kd.C k157 w A0 l0.length l0) (hc0 : l0.length ≤ c0) (hG : Gm w) (h : impl_Name_213.f k l0 a1 = some r) :
  Calls Tryz.prog 213 #[.slice A0 l0.length c0,.func (.func 166) #[] #[]] w fun e w' => e = .returned (.int .i64 r) ∧ Below w.heap.size w w' := by
 have hu157 := Tryz.underlying157;have HR0 := aM hr0;have HC0 := aM hc0;clear hr0 hc0;have HB := aM (Below.refl w.heap.size w);have HG := aM hG;clear hG;have H : (impl_Name_213.l0 k l0 (l0.length : Int) 0) = some r := h;clear h;have H' := aM H;clear H;go_enter Tryz.func213,Tryz.ntmps213;go_wp2;go_loopg [8] k (fun kq v8 w' => ∃ (x8_1 : Int),v8 = .int .i64 x8_1 ∧ Aside0 (impl_Name_213.l0 kq l0 (l0.length : Int) x8_1 = some r) ∧ Aside0 (kq ≤ k) ∧ Aside0 (Below w.heap.size w w'))
 case atStart => exact ⟨(0),vR_,H',⟨Nat.le_refl _⟩,⟨wB_⟩⟩
 case round =>
  clear H';obtain ⟨x8_1,rfl,HA,HK1,HB⟩ := hrel
  cases gk with
  | zero => exact absurd HA.out (by simp [impl_Name_213.l0])
  | succ k1 =>
   have H := HA.out;clear HA;simp only [impl_Name_213.l0] at H
   by_cases c3 : x8_1 < (l0.length : Int)
   focus
    rw [if_pos c3] at H;have c3b0 : decide (x8_1 < (l0.length : Int)) = true := dT c3;clear c3
    by_cases c4 : 0 ≤ x8_1
    rotate_left;rw [if_neg c4] at H;exact absurd H (by simp);rw [if_pos c4] at H;have c4b0 : decide (0 ≤ x8_1) = true := dT c4;clear c4
    by_cases c5 : x8_1 < (l0.length : Int)
    rotate_left;rw [if_neg c5] at H;exact absurd H (by simp);rw [if_pos c5] at H;have c5b0 : decide (x8_1 < (l0.length : Int)) = true := dT c5;clear c5;obtain ⟨t390,A6,H⟩ := bE_ H
    by_cases c7 : t390 = true
    focus
     subst c7;rw [if_pos rfl] at H;obtain rfl := Option.some.inj H;simp only [eS,eP] at H;obtain ⟨rfl⟩ := H
    rotate_left
    focus
     replace c7 := Bool.eq_false_iff.mpr c7;subst c7;rw [if_neg Bool.false_ne_true] at H;have H' := aM H;clear H
   rotate_left 2
   focus
    rw [if_neg c3] at H;have c3b0 : decide (x8_1 < (l0.length : Int)) = false := dF c3;clear c3;obtain rfl := Option.some.inj H;simp only [eS,eP] at H;obtain ⟨rfl⟩ := H
   all_goals
    (try (have p01 : 0 ≤ (x8_1 : Int) := oD (by assumption);have q01 : x8_1 < (l0.length : Int) := oD (by assumption);obtain ⟨ad01,A01_0,c01_0,e01,hx01_0,hx01_1,hx01_2,hx01_3,hl01_0,hi01_0⟩ := at_T157 HR0.out x8_1 p01 q01;cases e01;replace hx01_0 := (HB.out.cell (wB w _ hx01_0)).trans hx01_0;replace hx01_1 := (HB.out.cell (wB w _ hx01_1)).trans hx01_1;replace hx01_2 := (HB.out.cell (wB w _ hx01_2)).trans hx01_2;replace hx01_3 := (HB.out.cell (wB w _ hx01_3)).trans hx01_3;have HR01_0 := aM hi01_0;have HC01_0 := aM hl01_0;clear hi01_0 hl01_0;replace p01 := eq_true p01;replace q01 := eq_true q01));go_wp2_with (first|(go_at_call 166;(with_reducible refine (impl_areNames_1.calls _ _ _ _ _ _ _ _ _ ?side1 ?side2 ?side3 A6.out).mono ?_);(case side1 => exact wX_ HR01_0.out);(case side2 => exact HC01_0.out);(case side3 => exact Gm.below HG.out wB_);rintro e WA6 ⟨rfl,hb⟩;replace HB := aM (lT wB_ hb)))
    first
     |
      go_ret;exact ⟨vR_,wB_⟩
     |
      go_roundg k1
      case measure => have := HK1.out;omega
      case rel => exact ⟨(wrap64 (x8_1 + 1)),vR_,H',⟨by have := HK1.out;omega⟩,⟨wB_⟩⟩
def impl_Name_165.f (k : Nat) (l0 : List (S157)) (a1 : Int) : Option (Bool) := (impl_Name_213.f k l0 a1).bind fun t391 => (some (decide (t391 ≥ 0)))
theorem impl_Name_165.mono : ∀ a0 a1 k,LeO (impl_Name_165.f k a0 a1) (impl_Name_165.f (k + 1) a0 a1) := by
 intro a0 a1 k
 unfold impl_Name_165.f
 repeat' (first|with_reducible (first|exact impl_Name_213.mono _ _ _|exact LeO.refl _|exact LeO.none _|refine LeO.ite ?_ ?_|refine LeO.bind ?_ (fun _ => ?_))|exact LeO.none _|refine LeO.ite ?_ ?_|refine LeO.bind ?_ (fun _ => ?_))
set_option maxHeartbeats 8000000 in
set_option maxRecDepth 100000 in
theorem impl_Name_165.calls (k : Nat) (A0 : Option Addr) (c0 : Nat) (l0 : List (S157)) (a1 : Int) (r : Bool) (w : World) (hr0 : Kd.C k157 w A0 l0.length l0) (hc0 : l0.length ≤ c0) (hG : Gm w) (h : impl_Name_165.f k l0 a1 = some r) :
  Calls Tryz.prog 165 #[.slice A0 l0.length c0,.func (.func 166) #[] #[]] w fun e w' => e = .returned (.bool r) ∧ Below w.heap.size w w' := by
 have HR0 := aM hr0;have HC0 := aM hc0;clear hr0 hc0;have HB := aM (Below.refl w.heap.size w);have HG := aM hG;clear hG;have H : ((impl_Name_213.f k l0 a1).bind fun t391 => (some (decide (t391 ≥ 0)))) = some r := h;clear h;obtain ⟨t391,A3,H⟩ := bE_ H;obtain rfl := Option.some.inj H;simp only [eS,eP] at H;obtain ⟨rfl⟩ := H;go_enter Tryz.func165,Tryz.ntmps165;go_wp2_with (first|((with_reducible refine gate_callee (f := 213) rfl ?_);refine gl_ (some 7) Tryz.func213 #[.slice A0 l0.length c0,.func (.func 166) #[] #[]] ?_;(with_reducible refine (impl_Name_213.calls k _ _ l0 a1 t391 _ ?side1 ?side2 ?side3 A3.out).mono ?_);(case side1 => repeat (first|exact HR0.out|(with_reducible first|refine cA ?_ _|refine cN ?_ _|refine cD ?_)));(case side2 => exact HC0.out);(case side3 => exact Gm.below HG.out wB_);rintro e w4 ⟨rfl,hb⟩;refine ⟨_,rfl,?_⟩;replace HB := aM (lT wB_ hb)));go_ret;exact ⟨vR_,wB_⟩
def impl_areNames.f (k : Nat) (l0 : List (S157)) : Option (Bool) := if (l0.length : Int) ≤ 4 then ((impl_Name_165.f k l0 0).bind fun t392 => (some (!t392))) else (some false)
theorem impl_areNames.mono : ∀ a0 k,LeO (impl_areNames.f k a0) (impl_areNames.f (k + 1) a0) := by
 intro a0 k
 unfold impl_areNames.f
 repeat' (first|with_reducible (first|exact impl_Name_165.mono _ _ _|exact LeO.refl _|exact LeO.none _|refine LeO.ite ?_ ?_|refine LeO.bind ?_ (fun _ => ?_))|exact LeO.none _|refine LeO.ite ?_ ?_|refine LeO.bind ?_ (fun _ => ?_))
set_option maxHeartbeats 8000000 in
set_option maxRecDepth 100000 in
theorem impl_areNames.calls (k : Nat) (A0 : Option Addr) (c0 : Nat) (l0 : List (S157)) (r : Bool) (w : World) (hr0 : Kd.C k157 w A0 l0.length l0) (hc0 : l0.length ≤ c0) (hG : Gm w) (h : impl_areNames.f k l0 = some r) :
  Calls Tryz.prog 128 #[.slice A0 l0.length c0] w fun e w' => e = .returned (.bool r) ∧ Below w.heap.size w w' := by
 have HR0 := aM hr0;have HC0 := aM hc0;clear hr0 hc0;have HB := aM (Below.refl w.heap.size w);have HG := aM hG;clear hG;have H : (if (l0.length : Int) ≤ 4 then ((impl_Name_165.f k l0 0).bind fun t392 => (some (!t392))) else (some false)) = some r := h;clear h
 by_cases c2 : (l0.length : Int) ≤ 4
 focus
  rw [if_pos c2] at H;have c2b0 : decide ((l0.length : Int) ≤ 4) = true := dT c2;have c2b1 : decide (l0.length ≤ 4) = true := dT (by omega);clear c2;obtain ⟨t392,A3,H⟩ := bE_ H;obtain rfl := Option.some.inj H;simp only [eS,eP] at H;obtain ⟨rfl⟩ := H
 rotate_left
 focus
  rw [if_neg c2] at H;have c2b0 : decide ((l0.length : Int) ≤ 4) = false := dF c2;have c2b1 : decide (l0.length ≤ 4) = false := dF (by omega);clear c2;obtain rfl := Option.some.inj H;simp only [eS,eP] at H;obtain ⟨rfl⟩ := H
 all_goals
  go_enter Tryz.func128,Tryz.ntmps128;go_wp2_with (first|(go_at_call 165;(with_reducible refine (impl_Name_165.calls _ _ _ _ _ _ _ ?side1 ?side2 ?side3 A3.out).mono ?_);(case side1 => repeat (first|exact HR0.out|(with_reducible first|refine cA ?_ _|refine cN ?_ _|refine cD ?_)));(case side2 => exact HC0.out);(case side3 => exact Gm.below HG.out wB_);rintro e WA3 ⟨rfl,hb⟩;replace HB := aM (lT wB_ hb)));go_ret;exact ⟨vR_,wB_⟩
def impl_daysInMonth.f (a0 : Int) (a1 : Int) : Option (Int) := if a1 = 2 then (if (Int.tmod a0 4) = 0 then (if (Int.tmod a0 100) = 0 then (if (Int.tmod a0 400) = 0 then (some 29) else (some 28)) else (some 29)) else (some 28)) else (if a1 = 4 then (some 30) else (if a1 = 6 then (some 30) else (if a1 = 9 then (some 30) else (if a1 = 11 then (some 30) else (some 31)))))
set_option maxHeartbeats 8000000 in
set_option maxRecDepth 100000 in
theorem impl_daysInMonth.calls (a0 : Int) (a1 : Int) (r : Int) (w : World) (h : impl_daysInMonth.f a0 a1 = some r) :
  Calls Tryz.prog 168 #[.int .i64 a0,.int .i64 a1] w fun e w' => e = .returned (.int .i64 r) ∧ Drawn0 w w' := by
 have H : (if a1 = 2 then (if (Int.tmod a0 4) = 0 then (if (Int.tmod a0 100) = 0 then (if (Int.tmod a0 400) = 0 then (some 29) else (some 28)) else (some 29)) else (some 28)) else (if a1 = 4 then (some 30) else (if a1 = 6 then (some 30) else (if a1 = 9 then (some 30) else (if a1 = 11 then (some 30) else (some 31)))))) = some r := h;clear h
 by_cases c3 : a1 = 2
 focus
  rw [if_pos c3] at H;have c3b0 : (a1 == 2) = true := beq_iff_eq.mpr c3;have c3b1 : (a1 != 2) = false := bne_eq_false_iff_eq.mpr c3;clear c3
  by_cases c4 : (Int.tmod a0 4) = 0
  focus
   rw [if_pos c4] at H;have c4b0 : ((Int.tmod a0 4) == 0) = true := beq_iff_eq.mpr c4;have c4b1 : ((Int.tmod a0 4) != 0) = false := bne_eq_false_iff_eq.mpr c4;clear c4
   by_cases c5 : (Int.tmod a0 100) = 0
   focus
    rw [if_pos c5] at H;have c5b0 : ((Int.tmod a0 100) == 0) = true := beq_iff_eq.mpr c5;have c5b1 : ((Int.tmod a0 100) != 0) = false := bne_eq_false_iff_eq.mpr c5;clear c5
    by_cases c6 : (Int.tmod a0 400) = 0
    focus
     rw [if_pos c6] at H;have c6b0 : ((Int.tmod a0 400) == 0) = true := beq_iff_eq.mpr c6;have c6b1 : ((Int.tmod a0 400) != 0) = false := bne_eq_false_iff_eq.mpr c6;clear c6;obtain rfl := Option.some.inj H;simp only [eS,eP] at H;obtain ⟨rfl⟩ := H
    rotate_left
    focus
     rw [if_neg c6] at H;have c6b0 : ((Int.tmod a0 400) == 0) = false := beq_eq_false_iff_ne.mpr c6;have c6b1 : ((Int.tmod a0 400) != 0) = true := bne_iff_ne.mpr c6;obtain rfl := Option.some.inj H;simp only [eS,eP] at H;obtain ⟨rfl⟩ := H
   rotate_left 2
   focus
    rw [if_neg c5] at H;have c5b0 : ((Int.tmod a0 100) == 0) = false := beq_eq_false_iff_ne.mpr c5;have c5b1 : ((Int.tmod a0 100) != 0) = true := bne_iff_ne.mpr c5;obtain rfl := Option.some.inj H;simp only [eS,eP] at H;obtain ⟨rfl⟩ := H
  rotate_left 3
  focus
   rw [if_neg c4] at H;have c4b0 : ((Int.tmod a0 4) == 0) = false := beq_eq_false_iff_ne.mpr c4;have c4b1 : ((Int.tmod a0 4) != 0) = true := bne_iff_ne.mpr c4;obtain rfl := Option.some.inj H;simp only [eS,eP] at H;obtain ⟨rfl⟩ := H
 rotate_left 4
 focus
  rw [if_neg c3] at H;have c3b0 : (a1 == 2) = false := beq_eq_false_iff_ne.mpr c3;have c3b1 : (a1 != 2) = true := bne_iff_ne.mpr c3
  by_cases c7 : a1 = 4
  focus
   rw [if_pos c7] at H;have c7b0 : (a1 == 4) = true := beq_iff_eq.mpr c7;have c7b1 : (a1 != 4) = false := bne_eq_false_iff_eq.mpr c7;clear c7;obtain rfl := Option.some.inj H;simp only [eS,eP] at H;obtain ⟨rfl⟩ := H
  rotate_left
  focus
   rw [if_neg c7] at H;have c7b0 : (a1 == 4) = false := beq_eq_false_iff_ne.mpr c7;have c7b1 : (a1 != 4) = true := bne_iff_ne.mpr c7
   by_cases c8 : a1 = 6
   focus
    rw [if_pos c8] at H;have c8b0 : (a1 == 6) = true := beq_iff_eq.mpr c8;have c8b1 : (a1 != 6) = false := bne_eq_false_iff_eq.mpr c8;clear c8;obtain rfl := Option.some.inj H;simp only [eS,eP] at H;obtain ⟨rfl⟩ := H
   rotate_left
   focus
    rw [if_neg c8] at H;have c8b0 : (a1 == 6) = false := beq_eq_false_iff_ne.mpr c8;have c8b1 : (a1 != 6) = true := bne_iff_ne.mpr c8
    by_cases c9 : a1 = 9
    focus
     rw [if_pos c9] at H;have c9b0 : (a1 == 9) = true := beq_iff_eq.mpr c9;have c9b1 : (a1 != 9) = false := bne_eq_false_iff_eq.mpr c9;clear c9;obtain rfl := Option.some.inj H;simp only [eS,eP] at H;obtain ⟨rfl⟩ := H
    rotate_left
    focus
     rw [if_neg c9] at H;have c9b0 : (a1 == 9) = false := beq_eq_false_iff_ne.mpr c9;have c9b1 : (a1 != 9) = true := bne_iff_ne.mpr c9
     by_cases c10 : a1 = 11
     focus
      rw [if_pos c10] at H;have c10b0 : (a1 == 11) = true := beq_iff_eq.mpr c10;have c10b1 : (a1 != 11) = false := bne_eq_false_iff_eq.mpr c10;clear c10;obtain rfl := Option.some.inj H;simp only [eS,eP] at H;obtain ⟨rfl⟩ := H
     rotate_left
     focus
      rw [if_neg c10] at H;have c10b0 : (a1 == 11) = false := beq_eq_false_iff_ne.mpr c10;have c10b1 : (a1 != 11) = true := bne_iff_ne.mpr c10;obtain rfl := Option.some.inj H;simp only [eS,eP] at H;obtain ⟨rfl⟩ := H
 all_goals
  go_enter Tryz.func168,Tryz.ntmps168;go_wp2;go_ret;exact ⟨vR_,dw_⟩
def impl_IsValidDate.j0 : Nat → Bool → Int → Int → Int → Bool → Option (Bool)
 | 0,_,_,_,_,_ => none
 | k + 1,x24,x394000,x394001,x394002,x394003 => if x24 = true then (some false) else (if x394001 = 0 then (some (x394002 == 0)) else ((impl_daysInMonth.f x394000 x394001).bind fun t396 => ((impl_inside.f x394002 0 t396).bind fun t397 => (some t397))))
def impl_IsValidDate.f (k : Nat) (a0_0 : Int) (a0_1 : Int) (a0_2 : Int) (a0_3 : Bool) : Option (Bool) := if (a0_0 == 0 && (a0_1 == 0 && (a0_2 == 0 && (!a0_3)))) = true then (some true) else ((impl_inside.f a0_0 1 2999).bind fun t394 => (if t394 = true then ((impl_inside.f a0_1 0 12).bind fun t395 => (if t395 = true then (if a0_3 = true then (impl_IsValidDate.j0 k (a0_1 != 0) a0_0 a0_1 a0_2 a0_3) else (impl_IsValidDate.j0 k false a0_0 a0_1 a0_2 a0_3)) else (impl_IsValidDate.j0 k true a0_0 a0_1 a0_2 a0_3))) else (impl_IsValidDate.j0 k true a0_0 a0_1 a0_2 a0_3)))
theorem impl_IsValidDate.mono_l : ∀ k,(∀ y0 y1 y2 y3 y4,LeO (impl_IsValidDate.j0 k y0 y1 y2 y3 y4) (impl_IsValidDate.j0 (k + 1) y0 y1 y2 y3 y4))
 | 0 => fun _ _ _ _ _ r h => by simp [impl_IsValidDate.j0] at h
 | k + 1 => by
  have ih0 := impl_IsValidDate.mono_l k
  ·intro y0 y1 y2 y3 y4
   unfold impl_IsValidDate.j0
   repeat' (first|with_reducible (first|exact ih0 _ _ _ _ _|exact LeO.refl _|exact LeO.none _|refine LeO.ite ?_ ?_|refine LeO.bind ?_ (fun _ => ?_))|exact LeO.none _|refine LeO.ite ?_ ?_|refine LeO.bind ?_ (fun _ => ?_))
theorem impl_IsValidDate.mono : ∀ a0 a1 a2 a3 k,LeO (impl_IsValidDate.f k a0 a1 a2 a3) (impl_IsValidDate.f (k + 1) a0 a1 a2 a3) := by
 intro a0 a1 a2 a3 k
 have ih0 := impl_IsValidDate.mono_l k
 unfold impl_IsValidDate.f
 repeat' (first|with_reducible (first|exact ih0 _ _ _ _ _|exact LeO.refl _|exact LeO.none _|refine LeO.ite ?_ ?_|refine LeO.bind ?_ (fun _ => ?_))|exact LeO.none _|refine LeO.ite ?_ ?_|refine LeO.bind ?_ (fun _ => ?_))
set_option maxHeartbeats 8000000 in
set_option maxRecDepth 100000 in
theorem impl_IsValidDate.calls (k : Nat) (a0_0 : Int) (a0_1 : Int) (a0_2 : Int) (a0_3 : Bool) (r : Bool) (w : World) (h : impl_IsValidDate.f k a0_0 a0_1 a0_2 a0_3 = some r) :
  Calls Tryz.prog 129 #[.agg #[.int .i64 a0_0,.int .i64 a0_1,.int .i64 a0_2,.bool a0_3]] w fun e w' => e = .returned (.bool r) ∧ Below w.heap.size w w' := by
 have hu39 := Tryz.underlying39;have HB := aM (Below.refl w.heap.size w);have H : (if (a0_0 == 0 && (a0_1 == 0 && (a0_2 == 0 && (!a0_3)))) = true then (some true) else ((impl_inside.f a0_0 1 2999).bind fun t394 => (if t394 = true then ((impl_inside.f a0_1 0 12).bind fun t395 => (if t395 = true then (if a0_3 = true then (impl_IsValidDate.j0 k (a0_1 != 0) a0_0 a0_1 a0_2 a0_3) else (impl_IsValidDate.j0 k false a0_0 a0_1 a0_2 a0_3)) else (impl_IsValidDate.j0 k true a0_0 a0_1 a0_2 a0_3))) else (impl_IsValidDate.j0 k true a0_0 a0_1 a0_2 a0_3)))) = some r := h;clear h
 by_cases c2 : (a0_0 == 0 && (a0_1 == 0 && (a0_2 == 0 && (!a0_3)))) = true
 ·rw [if_pos c2] at H;have c2b0 : (a0_0 == 0 && (a0_1 == 0 && (a0_2 == 0 && (!a0_3)))) = true := c2;(try (have c2b1 : decide (a0_0 = 0 && (a0_1 == 0 && (a0_2 == 0 && (!a0_3)))) = true := by simpa using c2));(try (have aK : (a0_0 == 0 && (a0_1 == 0 && (a0_2 == 0 && (!a0_3)))) = true := by simpa using c2));clear c2;obtain rfl := Option.some.inj H;simp only [eS,eP] at H;obtain ⟨rfl⟩ := H;go_enter Tryz.func129,Tryz.ntmps129;go_wp2_with (first|((with_reducible refine gate_dst (N := 1) rfl ?_);refine bx_ (N := 1) (cs := #[.int .i64 a0_0,.int .i64 a0_1,.int .i64 a0_2,.bool a0_3]) (t := 39) ?_;intro ab hg w3 hbox hb;have aa := aM (hbox);have ac := aM ((by rw [hg];exact (lZ wB_) : w.heap.size ≤ ab));have ae := ac;replace HB := aM (lT wB_ hb);clear hb hbox hg;obtain ⟨ap,ar,au,av,aw,ax,ay,az⟩ := z4_ aa.out));(repeat (go_quiet (first|((with_reducible refine gate_dst (N := 1) rfl ?_);refine bx_ (N := 1) (cs := #[.int .i64 a0_0,.int .i64 a0_1,.int .i64 a0_2,.bool a0_3]) (t := 39) ?_;intro ab hg w3 hbox hb;have n0_ := aM (lT wB_ hb);have n1_ := aM (hbox);have n2_ := aM ((by rw [hg];exact (lZ wB_) : w.heap.size ≤ ab));have n3_ := aM ((by rw [hg];exact (lZ wB_) : w.heap.size ≤ ab));clear HB;have HB := n0_;have aa := n1_;have ac := n2_;have ae := n3_;clear n0_ n1_ n2_ n3_;clear hb hbox hg;obtain ⟨ap,ar,au,av,aw,ax,ay,az⟩ := z4_ aa.out));try go_wp2_with (first|((with_reducible refine gate_dst (N := 1) rfl ?_);refine bx_ (N := 1) (cs := #[.int .i64 a0_0,.int .i64 a0_1,.int .i64 a0_2,.bool a0_3]) (t := 39) ?_;intro ab hg w3 hbox hb;have n0_ := aM (lT wB_ hb);have n1_ := aM (hbox);have n2_ := aM ((by rw [hg];exact (lZ wB_) : w.heap.size ≤ ab));have n3_ := aM ((by rw [hg];exact (lZ wB_) : w.heap.size ≤ ab));clear HB;have HB := n0_;have aa := n1_;have ac := n2_;have ae := n3_;clear n0_ n1_ n2_ n3_;clear hb hbox hg;obtain ⟨ap,ar,au,av,aw,ax,ay,az⟩ := z4_ aa.out))));go_ret;exact ⟨vR_,wB_⟩
 ·rw [if_neg c2] at H;have c2b0 : (a0_0 == 0 && (a0_1 == 0 && (a0_2 == 0 && (!a0_3)))) = false := (by simpa using c2);(try (have c2b1 : decide (a0_0 = 0 && (a0_1 == 0 && (a0_2 == 0 && (!a0_3)))) = false := by simpa using c2));(try (have aK : (a0_0 == 0 && (a0_1 == 0 && (a0_2 == 0 && (!a0_3)))) = false := by simpa using c2));(try (have c2b3 : ¬ (a0_0 = 0 && (a0_1 == 0 && (a0_2 == 0 && (!a0_3)))) := by simpa using c2));clear c2;have HC5 := aM H;clear H;go_enter Tryz.func129,Tryz.ntmps129;go_upto_region 3 with (first|((with_reducible refine gate_dst (N := 1) rfl ?_);refine bx_ (N := 1) (cs := #[.int .i64 a0_0,.int .i64 a0_1,.int .i64 a0_2,.bool a0_3]) (t := 39) ?_;intro ab hg w6 hbox hb;have aa := aM (hbox);have ac := aM ((by rw [hg];exact (lZ wB_) : w.heap.size ≤ ab));have ae := ac;replace HB := aM (lT wB_ hb);clear hb hbox hg;obtain ⟨aA,aB,aC,aD,aE,aF,aG,aH⟩ := z4_ aa.out));(repeat (go_quiet (first|((with_reducible refine gate_dst (N := 1) rfl ?_);refine bx_ (N := 1) (cs := #[.int .i64 a0_0,.int .i64 a0_1,.int .i64 a0_2,.bool a0_3]) (t := 39) ?_;intro ab hg w6 hbox hb;have n0_ := aM (lT wB_ hb);have n1_ := aM (hbox);have n2_ := aM ((by rw [hg];exact (lZ wB_) : w.heap.size ≤ ab));have n3_ := aM ((by rw [hg];exact (lZ wB_) : w.heap.size ≤ ab));clear HB;have HB := n0_;have aa := n1_;have ac := n2_;have ae := n3_;clear n0_ n1_ n2_ n3_;clear hb hbox hg;obtain ⟨aA,aB,aC,aD,aE,aF,aG,aH⟩ := z4_ aa.out));go_upto_region 3 with (first|((with_reducible refine gate_dst (N := 1) rfl ?_);refine bx_ (N := 1) (cs := #[.int .i64 a0_0,.int .i64 a0_1,.int .i64 a0_2,.bool a0_3]) (t := 39) ?_;intro ab hg w6 hbox hb;have n0_ := aM (lT wB_ hb);have n1_ := aM (hbox);have n2_ := aM ((by rw [hg];exact (lZ wB_) : w.heap.size ≤ ab));have n3_ := aM ((by rw [hg];exact (lZ wB_) : w.heap.size ≤ ab));clear HB;have HB := n0_;have aa := n1_;have ac := n2_;have ae := n3_;clear n0_ n1_ n2_ n3_;clear hb hbox hg;obtain ⟨aA,aB,aC,aD,aE,aF,aG,aH⟩ := z4_ aa.out))));(try simp only [Act.put,lI,sZ,sS]);go_cut [24] (fun v24 wc => ∃ (kq : Nat) (af : Bool),v24 = .bool af ∧ Aside0 (impl_IsValidDate.j0 kq af a0_0 a0_1 a0_2 a0_3 = some r) ∧ Aside0 (kq ≤ k) ∧ Aside0 (wc.heap[ab]? = some (.cells #[.int .i64 a0_0,.int .i64 a0_1,.int .i64 a0_2,.bool a0_3] 39 (0,0))) ∧ Aside0 (Below w.heap.size w wc))
  case first =>
   have H := HC5.out;clear HC5;obtain ⟨t394,A8,H⟩ := bE_ H
   by_cases c9 : t394 = true
   focus
    subst c9;rw [if_pos rfl] at H;obtain ⟨t395,A10,H⟩ := bE_ H
    by_cases c11 : t395 = true
    focus
     subst c11;rw [if_pos rfl] at H
     by_cases c12 : a0_3 = true
     focus
      subst c12;rw [if_pos rfl] at H;have H' := aM H;clear H
     rotate_left
     focus
      replace c12 := Bool.eq_false_iff.mpr c12;subst c12;rw [if_neg Bool.false_ne_true] at H;have H' := aM H;clear H
    rotate_left 2
    focus
     replace c11 := Bool.eq_false_iff.mpr c11;subst c11;rw [if_neg Bool.false_ne_true] at H;have H' := aM H;clear H
   rotate_left 3
   focus
    replace c9 := Bool.eq_false_iff.mpr c9;subst c9;rw [if_neg Bool.false_ne_true] at H;have H' := aM H;clear H
   all_goals
    obtain ⟨ag,ah,ai,aj,ak,al,am,an⟩ := z4_ aa.out;go_wp2_with (first|(go_at_call 130;(with_reducible refine (impl_inside.calls _ _ _ _ _ A8.out).mono ?_);rintro e w' ⟨rfl,⟨nd,rfl⟩⟩;(try first|exact ⟨rfl,_,World.drewN_drewN _ _ _⟩|exact ⟨rfl,_,Eq.trans (World.drewN_drewN _ _ _) (congrArg (World.drewN _) (Nat.add_assoc _ _ _))⟩))|(go_at_call 130;(with_reducible refine (impl_inside.calls _ _ _ _ _ A10.out).mono ?_);rintro e w' ⟨rfl,⟨nd,rfl⟩⟩;(try first|exact ⟨rfl,_,World.drewN_drewN _ _ _⟩|exact ⟨rfl,_,Eq.trans (World.drewN_drewN _ _ _) (congrArg (World.drewN _) (Nat.add_assoc _ _ _))⟩)))
    first
     |
      (repeat (go_quiet (first|(go_at_call 130;(with_reducible refine (impl_inside.calls _ _ _ _ _ A8.out).mono ?_);rintro e w' ⟨rfl,⟨nd,rfl⟩⟩;(try first|exact ⟨rfl,_,World.drewN_drewN _ _ _⟩|exact ⟨rfl,_,Eq.trans (World.drewN_drewN _ _ _) (congrArg (World.drewN _) (Nat.add_assoc _ _ _))⟩)));try go_wp2_with (first|(go_at_call 130;(with_reducible refine (impl_inside.calls _ _ _ _ _ A8.out).mono ?_);rintro e w' ⟨rfl,⟨nd,rfl⟩⟩;(try first|exact ⟨rfl,_,World.drewN_drewN _ _ _⟩|exact ⟨rfl,_,Eq.trans (World.drewN_drewN _ _ _) (congrArg (World.drewN _) (Nat.add_assoc _ _ _))⟩)))));go_meet
      case rel => exact ⟨_,(true),vR_,H',⟨by first|omega|exact Nat.le_refl _⟩,⟨wC_ aa.out⟩,⟨wB_⟩⟩
     |
      (repeat (go_quiet (first|(go_at_call 130;(with_reducible refine (impl_inside.calls _ _ _ _ _ A8.out).mono ?_);rintro e w' ⟨rfl,⟨nd,rfl⟩⟩;(try first|exact ⟨rfl,_,World.drewN_drewN _ _ _⟩|exact ⟨rfl,_,Eq.trans (World.drewN_drewN _ _ _) (congrArg (World.drewN _) (Nat.add_assoc _ _ _))⟩))|(go_at_call 130;(with_reducible refine (impl_inside.calls _ _ _ _ _ A10.out).mono ?_);rintro e w' ⟨rfl,⟨nd,rfl⟩⟩;(try first|exact ⟨rfl,_,World.drewN_drewN _ _ _⟩|exact ⟨rfl,_,Eq.trans (World.drewN_drewN _ _ _) (congrArg (World.drewN _) (Nat.add_assoc _ _ _))⟩)));try go_wp2_with (first|(go_at_call 130;(with_reducible refine (impl_inside.calls _ _ _ _ _ A8.out).mono ?_);rintro e w' ⟨rfl,⟨nd,rfl⟩⟩;(try first|exact ⟨rfl,_,World.drewN_drewN _ _ _⟩|exact ⟨rfl,_,Eq.trans (World.drewN_drewN _ _ _) (congrArg (World.drewN _) (Nat.add_assoc _ _ _))⟩))|(go_at_call 130;(with_reducible refine (impl_inside.calls _ _ _ _ _ A10.out).mono ?_);rintro e w' ⟨rfl,⟨nd,rfl⟩⟩;(try first|exact ⟨rfl,_,World.drewN_drewN _ _ _⟩|exact ⟨rfl,_,Eq.trans (World.drewN_drewN _ _ _) (congrArg (World.drewN _) (Nat.add_assoc _ _ _))⟩)))));go_meet
      case rel => first|(exact ⟨_,((a0_1 != 0)),vR_,H',⟨by first|omega|exact Nat.le_refl _⟩,⟨wC_ aa.out⟩,⟨wB_⟩⟩)|(exact ⟨_,(false),vR_,H',⟨by first|omega|exact Nat.le_refl _⟩,⟨wC_ aa.out⟩,⟨wB_⟩⟩)|(exact ⟨_,(true),vR_,H',⟨by first|omega|exact Nat.le_refl _⟩,⟨wC_ aa.out⟩,⟨wB_⟩⟩)
  case rest =>
   clear HC5;obtain ⟨kq,af,rfl,HA,HJ4,aa,HB⟩ := hcut
   cases kq with
   | zero => exact absurd HA.out (by simp [impl_IsValidDate.j0])
   | succ kj4 =>
    have H := HA.out;clear HA;simp only [impl_IsValidDate.j0] at H
    by_cases c17 : af = true
    focus
     subst c17;rw [if_pos rfl] at H;obtain rfl := Option.some.inj H;simp only [eS,eP] at H;obtain ⟨rfl⟩ := H
    rotate_left
    focus
     replace c17 := Bool.eq_false_iff.mpr c17;subst c17;rw [if_neg Bool.false_ne_true] at H
     by_cases c18 : a0_1 = 0
     focus
      rw [if_pos c18] at H;have aI : (a0_1 == 0) = true := beq_iff_eq.mpr c18;have aJ : (a0_1 != 0) = false := bne_eq_false_iff_eq.mpr c18;clear c18;obtain rfl := Option.some.inj H;simp only [eS,eP] at H;obtain ⟨rfl⟩ := H
     rotate_left
     focus
      rw [if_neg c18] at H;have aI : (a0_1 == 0) = false := beq_eq_false_iff_ne.mpr c18;have aJ : (a0_1 != 0) = true := bne_iff_ne.mpr c18;obtain ⟨t396,A20,H⟩ := bE_ H;obtain ⟨t397,A21,H⟩ := bE_ H;obtain rfl := Option.some.inj H;simp only [eS,eP] at H;obtain ⟨rfl⟩ := H
    all_goals
     (try obtain ⟨ag,ah,ai,aj,ak,al,am,an⟩ := z4_ aa.out);go_wp2_with (first|(go_at_call 168;(with_reducible refine (impl_daysInMonth.calls _ _ _ _ A20.out).mono ?_);rintro e w' ⟨rfl,⟨nd,rfl⟩⟩;(try first|exact ⟨rfl,_,World.drewN_drewN _ _ _⟩|exact ⟨rfl,_,Eq.trans (World.drewN_drewN _ _ _) (congrArg (World.drewN _) (Nat.add_assoc _ _ _))⟩))|(go_at_call 130;(with_reducible refine (impl_inside.calls _ _ _ _ _ A21.out).mono ?_);rintro e w' ⟨rfl,⟨nd,rfl⟩⟩;(try first|exact ⟨rfl,_,World.drewN_drewN _ _ _⟩|exact ⟨rfl,_,Eq.trans (World.drewN_drewN _ _ _) (congrArg (World.drewN _) (Nat.add_assoc _ _ _))⟩)))
     first
      |
       (repeat (go_quiet (fail);try go_wp2));go_ret;exact ⟨vR_,wB_⟩
      |
       (repeat (go_quiet (first|(go_at_call 168;(with_reducible refine (impl_daysInMonth.calls _ _ _ _ A20.out).mono ?_);rintro e w' ⟨rfl,⟨nd,rfl⟩⟩;(try first|exact ⟨rfl,_,World.drewN_drewN _ _ _⟩|exact ⟨rfl,_,Eq.trans (World.drewN_drewN _ _ _) (congrArg (World.drewN _) (Nat.add_assoc _ _ _))⟩))|(go_at_call 130;(with_reducible refine (impl_inside.calls _ _ _ _ _ A21.out).mono ?_);rintro e w' ⟨rfl,⟨nd,rfl⟩⟩;(try first|exact ⟨rfl,_,World.drewN_drewN _ _ _⟩|exact ⟨rfl,_,Eq.trans (World.drewN_drewN _ _ _) (congrArg (World.drewN _) (Nat.add_assoc _ _ _))⟩)));try go_wp2_with (first|(go_at_call 168;(with_reducible refine (impl_daysInMonth.calls _ _ _ _ A20.out).mono ?_);rintro e w' ⟨rfl,⟨nd,rfl⟩⟩;(try first|exact ⟨rfl,_,World.drewN_drewN _ _ _⟩|exact ⟨rfl,_,Eq.trans (World.drewN_drewN _ _ _) (congrArg (World.drewN _) (Nat.add_assoc _ _ _))⟩))|(go_at_call 130;(with_reducible refine (impl_inside.calls _ _ _ _ _ A21.out).mono ?_);rintro e w' ⟨rfl,⟨nd,rfl⟩⟩;(try first|exact ⟨rfl,_,World.drewN_drewN _ _ _⟩|exact ⟨rfl,_,Eq.trans (World.drewN_drewN _ _ _) (congrArg (World.drewN _) (Nat.add_assoc _ _ _))⟩)))));go_ret;exact ⟨vR_,wB_⟩
def strings_Trim.f (a0 a1 : ByteArray) : Option ByteArray := if a0.size ≤ 9223372036854775807 ∧ a1 = ⟨#[32]⟩ then some ⟨(Lib.trimB a0.data.toList 32).toArray⟩ else none
theorem strings_Trim.calls (a0 a1 : ByteArray) (r : ByteArray) (w : World) (h : strings_Trim.f a0 a1 = some r) :
  Calls Tryz.prog 218 #[.string a0,.string a1] w fun e w' => e = .returned (.string r) ∧ Drawn0 w w' := by
 unfold strings_Trim.f at h;split at h
 ·rename_i hs;obtain rfl := Option.some.inj h;obtain ⟨h1,rfl⟩ := hs;refine (Tryz.strings_Trim_one a0 32 (by decide) w h1).mono ?_;rintro e w' ⟨rfl,rfl|rfl⟩
  ·exact ⟨rfl,Drawn0.refl _⟩
  ·exact ⟨rfl,⟨⟨1,rfl⟩⟩⟩
 ·cases h
def impl_isPrintable.l0 : Nat → ByteArray → Int → Option (Bool)
 | 0,_,_ => none
 | k + 1,x0,x3 => if x3 < (x0.size : Int) then (if 0 ≤ x3 then (if (bt x0 x3) < 32 then (some false) else (if (bt x0 x3) > 126 then (some false) else (impl_isPrintable.l0 k x0 (wrap64 (x3 + 1))))) else (none)) else ((strings_Trim.f x0 (⟨#[32]⟩ : ByteArray)).bind fun t398 => (some (t398.toList == x0.toList)))
def impl_isPrintable.f (k : Nat) (a0 : ByteArray) : Option (Bool) := impl_isPrintable.l0 k a0 0
theorem impl_isPrintable.mono_l : ∀ k,(∀ y0 y1,LeO (impl_isPrintable.l0 k y0 y1) (impl_isPrintable.l0 (k + 1) y0 y1))
 | 0 => fun _ _ r h => by simp [impl_isPrintable.l0] at h
 | k + 1 => by
  have ih0 := impl_isPrintable.mono_l k
  ·intro y0 y1
   unfold impl_isPrintable.l0
   repeat' (first|with_reducible (first|exact ih0 _ _|exact LeO.refl _|exact LeO.none _|refine LeO.ite ?_ ?_|refine LeO.bind ?_ (fun _ => ?_))|exact LeO.none _|refine LeO.ite ?_ ?_|refine LeO.bind ?_ (fun _ => ?_))
theorem impl_isPrintable.mono : ∀ a0 k,LeO (impl_isPrintable.f k a0) (impl_isPrintable.f (k + 1) a0) := by
 intro a0 k
 have ih0 := impl_isPrintable.mono_l k
 unfold impl_isPrintable.f
 repeat' (first|with_reducible (first|exact ih0 _ _|exact LeO.refl _|exact LeO.none _|refine LeO.ite ?_ ?_|refine LeO.bind ?_ (fun _ => ?_))|exact LeO.none _|refine LeO.ite ?_ ?_|refine LeO.bind ?_ (fun _ => ?_))
set_option maxHeartbeats 8000000 in
set_option maxRecDepth 100000 in
theorem impl_isPrintable.calls (k : Nat) (a0 : ByteArray) (r : Bool) (w : World) (h : impl_isPrintable.f k a0 = some r) :
  Calls Tryz.prog 169 #[.string a0] w fun e w' => e = .returned (.bool r) ∧ Drawn0 w w' := by
 have H : (impl_isPrintable.l0 k a0 0) = some r := h;clear h;have H' := aM H;clear H;go_enter Tryz.func169,Tryz.ntmps169;go_wp2;go_loopg [3] k (fun kq v3 w' => ∃ (x3_1 : Int),v3 = .int .i64 x3_1 ∧ Aside0 (impl_isPrintable.l0 kq a0 x3_1 = some r) ∧ Aside0 (kq ≤ k) ∧ Drawn0 w w')
 case atStart => exact ⟨(0),vR_,H',⟨Nat.le_refl _⟩,dw_⟩
 case round =>
  clear H';obtain ⟨x3_1,rfl,HA,HK1,⟨m1,rfl⟩⟩ := hrel
  cases gk with
  | zero => exact absurd HA.out (by simp [impl_isPrintable.l0])
  | succ k1 =>
   have H := HA.out;clear HA;simp only [impl_isPrintable.l0] at H
   by_cases c2 : x3_1 < (a0.size : Int)
   focus
    rw [if_pos c2] at H;have c2b0 : decide (x3_1 < (a0.size : Int)) = true := dT c2;clear c2
    by_cases c3 : 0 ≤ x3_1
    rotate_left;rw [if_neg c3] at H;exact absurd H (by simp);rw [if_pos c3] at H;have c3b0 : decide (0 ≤ x3_1) = true := dT c3;clear c3
    by_cases c5 : (bt a0 x3_1) < 32
    focus
     rw [if_pos c5] at H;have c5b0 : decide ((bt a0 x3_1) < 32) = true := dT c5;clear c5;obtain rfl := Option.some.inj H;simp only [eS,eP] at H;obtain ⟨rfl⟩ := H
    rotate_left
    focus
     rw [if_neg c5] at H;have c5b0 : decide ((bt a0 x3_1) < 32) = false := dF c5;clear c5
     by_cases c7 : (bt a0 x3_1) > 126
     focus
      rw [if_pos c7] at H;have c7b0 : decide (126 < (bt a0 x3_1)) = true := dT c7;clear c7;obtain rfl := Option.some.inj H;simp only [eS,eP] at H;obtain ⟨rfl⟩ := H
     rotate_left
     focus
      rw [if_neg c7] at H;have c7b0 : decide (126 < (bt a0 x3_1)) = false := dF c7;clear c7;have H' := aM H;clear H
   rotate_left 3
   focus
    rw [if_neg c2] at H;have c2b0 : decide (x3_1 < (a0.size : Int)) = false := dF c2;clear c2;obtain ⟨t398,A8,H⟩ := bE_ H;obtain rfl := Option.some.inj H;simp only [eS,eP] at H;obtain ⟨rfl⟩ := H
   all_goals
    (try (have p01 : 0 ≤ (x3_1 : Int) := oD (by assumption);have q01 : x3_1 < (a0.size : Int) := oD (by assumption);have hx01 := bt_at a0 x3_1;replace p01 := eq_true p01;replace q01 := eq_true q01));go_wp2_with (first|((with_reducible refine gate_callee (f := 218) rfl ?_);refine gl_ (some 21) Tryz.func218 #[.string a0,.string (⟨#[32]⟩ : ByteArray)] ?_;(with_reducible refine (strings_Trim.calls _ _ _ _ A8.out).mono ?_);rintro e w' ⟨rfl,⟨nd,rfl⟩⟩;refine ⟨_,rfl,?_⟩))
    first
     |
      go_ret;exact ⟨vR_,dw_⟩
     |
      go_roundg k1
      case measure => have := HK1.out;omega
      case rel => exact ⟨(wrap64 (x3_1 + 1)),vR_,H',⟨by have := HK1.out;omega⟩,dw_⟩
def impl_isText.f (k : Nat) (a0 : ByteArray) : Option (Bool) := if (a0.size : Int) ≤ 40 then ((impl_isPrintable.f k a0).bind fun t399 => (some t399)) else (some false)
theorem impl_isText.mono : ∀ a0 k,LeO (impl_isText.f k a0) (impl_isText.f (k + 1) a0) := by
 intro a0 k
 unfold impl_isText.f
 repeat' (first|with_reducible (first|exact impl_isPrintable.mono _ _|exact LeO.refl _|exact LeO.none _|refine LeO.ite ?_ ?_|refine LeO.bind ?_ (fun _ => ?_))|exact LeO.none _|refine LeO.ite ?_ ?_|refine LeO.bind ?_ (fun _ => ?_))
set_option maxHeartbeats 8000000 in
set_option maxRecDepth 100000 in
theorem impl_isText.calls (k : Nat) (a0 : ByteArray) (r : Bool) (w : World) (h : impl_isText.f k a0 = some r) :
  Calls Tryz.prog 131 #[.string a0] w fun e w' => e = .returned (.bool r) ∧ Drawn0 w w' := by
 have H : (if (a0.size : Int) ≤ 40 then ((impl_isPrintable.f k a0).bind fun t399 => (some t399)) else (some false)) = some r := h;clear h
 by_cases c2 : (a0.size : Int) ≤ 40
 focus
  rw [if_pos c2] at H;have c2b0 : decide ((a0.size : Int) ≤ 40) = true := dT c2;have c2b1 : decide (a0.size ≤ 40) = true := dT (by omega);clear c2;obtain ⟨t399,A3,H⟩ := bE_ H;obtain rfl := Option.some.inj H;simp only [eS,eP] at H;obtain ⟨rfl⟩ := H
 rotate_left
 focus
  rw [if_neg c2] at H;have c2b0 : decide ((a0.size : Int) ≤ 40) = false := dF c2;have c2b1 : decide (a0.size ≤ 40) = false := dF (by omega);clear c2;obtain rfl := Option.some.inj H;simp only [eS,eP] at H;obtain ⟨rfl⟩ := H
 all_goals
  go_enter Tryz.func131,Tryz.ntmps131;go_wp2_with (first|(go_at_call 169;(with_reducible refine (impl_isPrintable.calls _ _ _ _ A3.out).mono ?_);rintro e w' ⟨rfl,⟨nd,rfl⟩⟩));go_ret;exact ⟨vR_,dw_⟩
end Go.Proofs.YtmafmhgmdegplaaGreatDoor.P
