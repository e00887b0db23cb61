/- Written by a program in this session: each theorem here says that a Go function computes the Lean function beside it, or that a law's row holds, under the conditions that the theorem itself states. -/
import Derived.Test.YtmafmhgmdegplaaGreatDoorZPx0
import Derived.Test.YtmafmhgmdegplaaGreatDoorZPx1
import Derived.Test.YtmafmhgmdegplaaGreatDoorZPx2
namespace Go.Proofs.YtmafmhgmdegplaaGreatDoor.P
open Go.RowKit Go.Proofs.YtmafmhgmdegplaaGreatDoorW.PrintWords Go.Proofs.YtmafmhgmdegplaaGreatDoorW.PrintLast Go.Proofs.YtmafmhgmdegplaaGreatDoorW.PrintMore
attribute [local go_sem] max2_int min2_int max_two min_two max_three min_three max_four min_four   -- for this text's walks alone
set_option linter.unusedVariables false
set_option linter.unusedSimpArgs false
attribute [local go_sem high] eqA39
def spec_l4Text.l0 : Nat → ByteArray → Int → Option (Bool)
 | 0,_,_ => none
 | k + 1,x0,x3 => if x3 < (x0.size : Int) then (if 0 ≤ x3 then (if (bt x0 x3) < 32 then (some false) else (if (bt x0 x3) > 126 then (some false) else (spec_l4Text.l0 k x0 (wrap64 (x3 + 1))))) else (none)) else (if x0.toList = ([] : List UInt8) then (some true) else (if 0 < (x0.size : Int) then (if (bt x0 0) = 32 then (some false) else (if 0 ≤ (wrap64 ((x0.size : Int) - 1)) then (if (wrap64 ((x0.size : Int) - 1)) < (x0.size : Int) then (some ((bt x0 (wrap64 ((x0.size : Int) - 1))) != 32)) else (none)) else (none))) else (none)))
def spec_l4Text.f (k : Nat) (a0 : ByteArray) : Option (Bool) := if (a0.size : Int) > 40 then (some false) else (spec_l4Text.l0 k a0 0)
theorem spec_l4Text.mono_l : ∀ k,(∀ y0 y1,LeO (spec_l4Text.l0 k y0 y1) (spec_l4Text.l0 (k + 1) y0 y1))
 | 0 => fun _ _ r h => by simp [spec_l4Text.l0] at h
 | k + 1 => by
  have ih0 := spec_l4Text.mono_l k
  ·intro y0 y1
   unfold spec_l4Text.l0
   repeat' (first|with_reducible (first|exact ih0 _ _|exact LeO.refl _|exact LeO.none _|refine LeO.ite ?_ ?_|refine LeO.bind ?_ (fun _ => ?_))|exact LeO.none _|refine LeO.ite ?_ ?_|refine LeO.bind ?_ (fun _ => ?_))
theorem spec_l4Text.mono : ∀ a0 k,LeO (spec_l4Text.f k a0) (spec_l4Text.f (k + 1) a0) := by
 intro a0 k
 have ih0 := spec_l4Text.mono_l k
 unfold spec_l4Text.f
 repeat' (first|with_reducible (first|exact ih0 _ _|exact LeO.refl _|exact LeO.none _|refine LeO.ite ?_ ?_|refine LeO.bind ?_ (fun _ => ?_))|exact LeO.none _|refine LeO.ite ?_ ?_|refine LeO.bind ?_ (fun _ => ?_))
set_option maxHeartbeats 8000000 in
set_option maxRecDepth 100000 in
theorem spec_l4Text.calls (k : Nat) (a0 : ByteArray) (r : Bool) (w : World) (h : spec_l4Text.f k a0 = some r) :
  Calls Tryz.prog 123 #[.string a0] w fun e w' => e = .returned (.bool r) ∧ Drawn0 w w' := by
 have H : (if (a0.size : Int) > 40 then (some false) else (spec_l4Text.l0 k a0 0)) = some r := h;clear h
 by_cases c2 : (a0.size : Int) > 40
 ·rw [if_pos c2] at H;have c2b0 : decide (40 < (a0.size : Int)) = true := dT c2;have c2b1 : decide (40 < a0.size) = true := dT (by omega);clear c2;obtain rfl := Option.some.inj H;simp only [eS,eP] at H;obtain ⟨rfl⟩ := H;go_enter Tryz.func123,Tryz.ntmps123;go_wp2;go_ret;exact ⟨vR_,dw_⟩
 ·rw [if_neg c2] at H;have c2b0 : decide (40 < (a0.size : Int)) = false := dF c2;have c2b1 : decide (40 < a0.size) = false := dF (by omega);clear c2;have H' := aM H;clear H;go_enter Tryz.func123,Tryz.ntmps123;go_wp2;go_loopg [3] k (fun kq v3 w' => ∃ (x3_1 : Int),v3 = .int .i64 x3_1 ∧ Aside0 (spec_l4Text.l0 kq a0 x3_1 = some r) ∧ Aside0 (kq ≤ k) ∧ Drawn0 w w')
  case atStart => exact ⟨(0),vR_,H',⟨Nat.le_refl _⟩,dw_⟩
  case round =>
   clear H';obtain ⟨x3_1,rfl,HA,HK1,⟨m1,rfl⟩⟩ := hrel
   cases gk with
   | zero => exact absurd HA.out (by simp [spec_l4Text.l0])
   | succ k1 =>
    have H := HA.out;clear HA;simp only [spec_l4Text.l0] at H
    by_cases c3 : x3_1 < (a0.size : Int)
    ·rw [if_pos c3] at H;have c3b0 : decide (x3_1 < (a0.size : Int)) = true := dT c3;clear c3
     by_cases c4 : 0 ≤ x3_1
     ·rw [if_pos c4] at H;have c4b0 : decide (0 ≤ x3_1) = true := dT c4;clear c4
      by_cases c6 : (bt a0 x3_1) < 32
      ·rw [if_pos c6] at H;have c6b0 : decide ((bt a0 x3_1) < 32) = true := dT c6;clear c6;obtain rfl := Option.some.inj H;simp only [eS,eP] at H;obtain ⟨rfl⟩ := H;have p5 : 0 ≤ (x3_1 : Int) := oD (by assumption);have q5 : x3_1 < (a0.size : Int) := oD (by assumption);have hx5 := bt_at a0 x3_1;replace p5 := eq_true p5;replace q5 := eq_true q5;go_wp2;go_ret;exact ⟨vR_,dw_⟩
      ·rw [if_neg c6] at H;have c6b0 : decide ((bt a0 x3_1) < 32) = false := dF c6;clear c6
       by_cases c8 : (bt a0 x3_1) > 126
       ·rw [if_pos c8] at H;have c8b0 : decide (126 < (bt a0 x3_1)) = true := dT c8;clear c8;obtain rfl := Option.some.inj H;simp only [eS,eP] at H;obtain ⟨rfl⟩ := H;have p5 : 0 ≤ (x3_1 : Int) := oD (by assumption);have q5 : x3_1 < (a0.size : Int) := oD (by assumption);have hx5 := bt_at a0 x3_1;replace p5 := eq_true p5;replace q5 := eq_true q5;have p7 : 0 ≤ (x3_1 : Int) := oD (by assumption);have q7 : x3_1 < (a0.size : Int) := oD (by assumption);have hx7 := bt_at a0 x3_1;replace p7 := eq_true p7;replace q7 := eq_true q7;go_wp2;go_ret;exact ⟨vR_,dw_⟩
       ·rw [if_neg c8] at H;have c8b0 : decide (126 < (bt a0 x3_1)) = false := dF c8;clear c8;have H' := aM H;clear H;have p5 : 0 ≤ (x3_1 : Int) := oD (by assumption);have q5 : x3_1 < (a0.size : Int) := oD (by assumption);have hx5 := bt_at a0 x3_1;replace p5 := eq_true p5;replace q5 := eq_true q5;have p7 : 0 ≤ (x3_1 : Int) := oD (by assumption);have q7 : x3_1 < (a0.size : Int) := oD (by assumption);have hx7 := bt_at a0 x3_1;replace p7 := eq_true p7;replace q7 := eq_true q7;go_wp2;go_roundg k1
        case measure => have := HK1.out;omega
        case rel => exact ⟨(wrap64 (x3_1 + 1)),vR_,H',⟨by have := HK1.out;omega⟩,dw_⟩
     ·rw [if_neg c4] at H;exact absurd H (by simp)
    ·rw [if_neg c3] at H;have c3b0 : decide (x3_1 < (a0.size : Int)) = false := dF c3;clear c3
     by_cases c9 : a0.toList = ([] : List UInt8)
     ·rw [if_pos c9] at H;have c9b0 : (a0.toList == ([] : List UInt8)) = true := beq_iff_eq.mpr c9;have c9b1 : (a0.toList != ([] : List UInt8)) = false := bne_eq_false_iff_eq.mpr c9;clear c9;obtain rfl := Option.some.inj H;simp only [eS,eP] at H;obtain ⟨rfl⟩ := H;go_wp2;go_ret;exact ⟨vR_,dw_⟩
     ·rw [if_neg c9] at H;have c9b0 : (a0.toList == ([] : List UInt8)) = false := beq_eq_false_iff_ne.mpr c9;have c9b1 : (a0.toList != ([] : List UInt8)) = true := bne_iff_ne.mpr c9
      by_cases c10 : 0 < (a0.size : Int)
      ·rw [if_pos c10] at H;have c10b0 : decide (0 < (a0.size : Int)) = true := dT c10;have c10b1 : decide (0 < a0.size) = true := dT (by omega);clear c10
       by_cases c12 : (bt a0 0) = 32
       ·rw [if_pos c12] at H;have c12b0 : ((bt a0 0) == 32) = true := beq_iff_eq.mpr c12;have c12b1 : ((bt a0 0) != 32) = false := bne_eq_false_iff_eq.mpr c12;clear c12;obtain rfl := Option.some.inj H;simp only [eS,eP] at H;obtain ⟨rfl⟩ := H;have p11 : 0 ≤ (0 : Int) := (by omega);have q11 : 0 < a0.size := (by have : (0 : Int) < (a0.size : Int) := oD (by assumption);omega);have hx11 : ∀ h : 0 < a0.size,((a0[0]'h).toNat : Int) = bt a0 0 := bt_at a0 0;clear p11;have qi11 : (0 < (a0.size : Int)) = True := eq_true (oD (by assumption));replace q11 := eq_true q11;go_wp2;go_ret;exact ⟨vR_,dw_⟩
       ·rw [if_neg c12] at H;have c12b0 : ((bt a0 0) == 32) = false := beq_eq_false_iff_ne.mpr c12;have c12b1 : ((bt a0 0) != 32) = true := bne_iff_ne.mpr c12;obtain ⟨ji13,hji13⟩ : ∃ j_ : Int,(wrap64 ((a0.size : Int) - 1)) = j_ := ⟨_,rfl⟩;replace H : (if 0 ≤ (ji13) then (if (ji13) < (a0.size : Int) then (some ((bt a0 (ji13)) != 32)) else (none)) else (none)) = some r := (by first|(rw [hji13] at H;exact H)|(simp only [hji13] at H ⊢;exact H));have hji13w : (IntKind.i64.wrap ((a0.size : Int) - 1)) = ji13 := (i64_w _).trans hji13
        by_cases c14 : 0 ≤ (ji13)
        ·rw [if_pos c14] at H;have c14b0 : decide (0 ≤ (ji13)) = true := dT c14;clear c14
         by_cases c15 : (ji13) < (a0.size : Int)
         ·rw [if_pos c15] at H;have c15b0 : decide ((ji13) < (a0.size : Int)) = true := dT c15;clear c15;obtain rfl := Option.some.inj H;simp only [eS,eP] at H;obtain ⟨rfl⟩ := H;have p11 : 0 ≤ (0 : Int) := (by omega);have q11 : 0 < a0.size := (by have : (0 : Int) < (a0.size : Int) := oD (by assumption);omega);have hx11 : ∀ h : 0 < a0.size,((a0[0]'h).toNat : Int) = bt a0 0 := bt_at a0 0;clear p11;have qi11 : (0 < (a0.size : Int)) = True := eq_true (oD (by assumption));replace q11 := eq_true q11;have p16 : 0 ≤ ((ji13) : Int) := oD (by assumption);have q16 : (ji13) < (a0.size : Int) := oD (by assumption);have hx16 := bt_at a0 (ji13);replace p16 := eq_true p16;replace q16 := eq_true q16;go_wp2;go_ret;exact ⟨by first|rfl|(simp;done)|(simp [my_isEmpty];done)|(simp only [← hji13] <;> (first|rfl|simp))|(simp [*];done),dw_⟩
         ·rw [if_neg c15] at H;exact absurd H (by simp)
        ·rw [if_neg c14] at H;exact absurd H (by simp)
      ·rw [if_neg c10] at H;exact absurd H (by simp)
def spec_l3Days.j0 : Nat → Bool → Option (Int)
 | 0,_ => none
 | k + 1,x19 => if x19 = true then (some 29) else (some 28)
def spec_l3Days.f (k : Nat) (a0 : Int) (a1 : Int) : Option (Int) := if a1 = 2 then (if (Int.tmod a0 4) = 0 then (if (Int.tmod a0 100) = 0 then (spec_l3Days.j0 k ((Int.tmod a0 400) == 0)) else (spec_l3Days.j0 k true)) else (spec_l3Days.j0 k ((Int.tmod a0 400) == 0))) else (if a1 = 4 then (some 30) else (if a1 = 6 then (some 30) else (if a1 = 9 then (some 30) else (if a1 = 11 then (some 30) else (some 31)))))
theorem spec_l3Days.mono_l : ∀ k,(∀ y0,LeO (spec_l3Days.j0 k y0) (spec_l3Days.j0 (k + 1) y0))
 | 0 => fun _ r h => by simp [spec_l3Days.j0] at h
 | k + 1 => by
  have ih0 := spec_l3Days.mono_l k
  ·intro y0
   unfold spec_l3Days.j0
   repeat' (first|with_reducible (first|exact ih0 _|exact LeO.refl _|exact LeO.none _|refine LeO.ite ?_ ?_|refine LeO.bind ?_ (fun _ => ?_))|exact LeO.none _|refine LeO.ite ?_ ?_|refine LeO.bind ?_ (fun _ => ?_))
theorem spec_l3Days.mono : ∀ a0 a1 k,LeO (spec_l3Days.f k a0 a1) (spec_l3Days.f (k + 1) a0 a1) := by
 intro a0 a1 k
 have ih0 := spec_l3Days.mono_l k
 unfold spec_l3Days.f
 repeat' (first|with_reducible (first|exact ih0 _|exact LeO.refl _|exact LeO.none _|refine LeO.ite ?_ ?_|refine LeO.bind ?_ (fun _ => ?_))|exact LeO.none _|refine LeO.ite ?_ ?_|refine LeO.bind ?_ (fun _ => ?_))
set_option maxHeartbeats 8000000 in
set_option maxRecDepth 100000 in
theorem spec_l3Days.calls (k : Nat) (a0 : Int) (a1 : Int) (r : Int) (w : World) (h : spec_l3Days.f k a0 a1 = some r) :
  Calls Tryz.prog 164 #[.int .i64 a0,.int .i64 a1] w fun e w' => e = .returned (.int .i64 r) ∧ Drawn0 w w' := by
 have H : (if a1 = 2 then (if (Int.tmod a0 4) = 0 then (if (Int.tmod a0 100) = 0 then (spec_l3Days.j0 k ((Int.tmod a0 400) == 0)) else (spec_l3Days.j0 k true)) else (spec_l3Days.j0 k ((Int.tmod a0 400) == 0))) else (if a1 = 4 then (some 30) else (if a1 = 6 then (some 30) else (if a1 = 9 then (some 30) else (if a1 = 11 then (some 30) else (some 31)))))) = some r := h;clear h
 by_cases c3 : a1 = 2
 focus
  rw [if_pos c3] at H;have c3b0 : (a1 == 2) = true := beq_iff_eq.mpr c3;have c3b1 : (a1 != 2) = false := bne_eq_false_iff_eq.mpr c3;clear c3;have HC4 := aM H;clear H
 rotate_left
 focus
  rw [if_neg c3] at H;have c3b0 : (a1 == 2) = false := beq_eq_false_iff_ne.mpr c3;have c3b1 : (a1 != 2) = true := bne_iff_ne.mpr c3
  by_cases c8 : a1 = 4
  focus
   rw [if_pos c8] at H;have c8b0 : (a1 == 4) = true := beq_iff_eq.mpr c8;have c8b1 : (a1 != 4) = false := bne_eq_false_iff_eq.mpr c8;clear c8;obtain rfl := Option.some.inj H;simp only [eS,eP] at H;obtain ⟨rfl⟩ := H
  rotate_left
  focus
   rw [if_neg c8] at H;have c8b0 : (a1 == 4) = false := beq_eq_false_iff_ne.mpr c8;have c8b1 : (a1 != 4) = true := bne_iff_ne.mpr c8
   by_cases c9 : a1 = 6
   focus
    rw [if_pos c9] at H;have c9b0 : (a1 == 6) = true := beq_iff_eq.mpr c9;have c9b1 : (a1 != 6) = false := bne_eq_false_iff_eq.mpr c9;clear c9;obtain rfl := Option.some.inj H;simp only [eS,eP] at H;obtain ⟨rfl⟩ := H
   rotate_left
   focus
    rw [if_neg c9] at H;have c9b0 : (a1 == 6) = false := beq_eq_false_iff_ne.mpr c9;have c9b1 : (a1 != 6) = true := bne_iff_ne.mpr c9
    by_cases c10 : a1 = 9
    focus
     rw [if_pos c10] at H;have c10b0 : (a1 == 9) = true := beq_iff_eq.mpr c10;have c10b1 : (a1 != 9) = false := bne_eq_false_iff_eq.mpr c10;clear c10;obtain rfl := Option.some.inj H;simp only [eS,eP] at H;obtain ⟨rfl⟩ := H
    rotate_left
    focus
     rw [if_neg c10] at H;have c10b0 : (a1 == 9) = false := beq_eq_false_iff_ne.mpr c10;have c10b1 : (a1 != 9) = true := bne_iff_ne.mpr c10
     by_cases c11 : a1 = 11
     focus
      rw [if_pos c11] at H;have c11b0 : (a1 == 11) = true := beq_iff_eq.mpr c11;have c11b1 : (a1 != 11) = false := bne_eq_false_iff_eq.mpr c11;clear c11;obtain rfl := Option.some.inj H;simp only [eS,eP] at H;obtain ⟨rfl⟩ := H
     rotate_left
     focus
      rw [if_neg c11] at H;have c11b0 : (a1 == 11) = false := beq_eq_false_iff_ne.mpr c11;have c11b1 : (a1 != 11) = true := bne_iff_ne.mpr c11;obtain rfl := Option.some.inj H;simp only [eS,eP] at H;obtain ⟨rfl⟩ := H
 all_goals
  go_enter Tryz.func164,Tryz.ntmps164
  first
   |
    go_wp2;go_ret;exact ⟨vR_,dw_⟩
   |
    go_upto_region 2 with (fail);go_cut [19] (fun v19 wc => ∃ (kq : Nat) (x19_3 : Bool),v19 = .bool x19_3 ∧ Aside0 (spec_l3Days.j0 kq x19_3 = some r) ∧ Aside0 (kq ≤ k) ∧ Drawn0 w wc)
    case first =>
     have H := HC4.out;clear HC4
     by_cases c5 : (Int.tmod a0 4) = 0
     focus
      rw [if_pos c5] at H;have c5b0 : ((Int.tmod a0 4) == 0) = true := beq_iff_eq.mpr c5;have c5b1 : ((Int.tmod a0 4) != 0) = false := bne_eq_false_iff_eq.mpr c5;clear c5;(first|rw [c5b0]|(simp only [i64_w,i32_w];rw [c5b0])|skip)
      by_cases c6 : (Int.tmod a0 100) = 0
      focus
       rw [if_pos c6] at H;have c6b0 : ((Int.tmod a0 100) == 0) = true := beq_iff_eq.mpr c6;have c6b1 : ((Int.tmod a0 100) != 0) = false := bne_eq_false_iff_eq.mpr c6;clear c6;have H' := aM H;clear H
      rotate_left
      focus
       rw [if_neg c6] at H;have c6b0 : ((Int.tmod a0 100) == 0) = false := beq_eq_false_iff_ne.mpr c6;have c6b1 : ((Int.tmod a0 100) != 0) = true := bne_iff_ne.mpr c6;have H' := aM H;clear H
     rotate_left 2
     focus
      rw [if_neg c5] at H;have c5b0 : ((Int.tmod a0 4) == 0) = false := beq_eq_false_iff_ne.mpr c5;have c5b1 : ((Int.tmod a0 4) != 0) = true := bne_iff_ne.mpr c5;(first|rw [c5b0]|(simp only [i64_w,i32_w];rw [c5b0])|skip);have H' := aM H;clear H
     all_goals
      go_wp2;go_meet
      case rel => first|(exact ⟨_,(((Int.tmod a0 400) == 0)),vR_,H',⟨by first|omega|exact Nat.le_refl _⟩,dw_⟩)|(exact ⟨_,(true),vR_,H',⟨by first|omega|exact Nat.le_refl _⟩,dw_⟩)
    case rest =>
     clear HC4;obtain ⟨kq,x19_3,rfl,HA,HJ3,⟨mc3,rfl⟩⟩ := hcut
     cases kq with
     | zero => exact absurd HA.out (by simp [spec_l3Days.j0])
     | succ kj3 =>
      have H := HA.out;clear HA;simp only [spec_l3Days.j0] at H
      by_cases c7 : x19_3 = true
      focus
       subst c7;rw [if_pos rfl] at H;obtain rfl := Option.some.inj H;simp only [eS,eP] at H;obtain ⟨rfl⟩ := H
      rotate_left
      focus
       replace c7 := Bool.eq_false_iff.mpr c7;subst c7;rw [if_neg Bool.false_ne_true] at H;obtain rfl := Option.some.inj H;simp only [eS,eP] at H;obtain ⟨rfl⟩ := H
      all_goals
       go_wp2;go_ret;exact ⟨vR_,dw_⟩
def spec_l3Good.j0 : Nat → Bool → Int → Int → Int → Bool → Option (Bool)
 | 0,_,_,_,_,_ => none
 | k + 1,x7,x177000,x177001,x177002,x177003 => if x7 = true then (some false) else (if x177003 = true then (if x177001 = 0 then (some (x177002 == 0)) else (some false)) else (if x177001 = 0 then (some (x177002 == 0)) else ((spec_l3Days.f k x177000 x177001).bind fun t179 => ((spec_l1In.f x177002 0 t179).bind fun t180 => (some t180)))))
def spec_l3Good.f (k : Nat) (a0_0 : Int) (a0_1 : Int) (a0_2 : Int) (a0_3 : Bool) : Option (Bool) := if (a0_0 == 0 && (a0_1 == 0 && (a0_2 == 0 && (!a0_3)))) = true then (some true) else ((spec_l1In.f a0_0 1 2999).bind fun t177 => (if t177 = true then ((spec_l1In.f a0_1 0 12).bind fun t178 => (spec_l3Good.j0 k (!t178) a0_0 a0_1 a0_2 a0_3)) else (spec_l3Good.j0 k true a0_0 a0_1 a0_2 a0_3)))
theorem spec_l3Good.mono_l : ∀ k,(∀ y0 y1 y2 y3 y4,LeO (spec_l3Good.j0 k y0 y1 y2 y3 y4) (spec_l3Good.j0 (k + 1) y0 y1 y2 y3 y4))
 | 0 => fun _ _ _ _ _ r h => by simp [spec_l3Good.j0] at h
 | k + 1 => by
  have ih0 := spec_l3Good.mono_l k
  ·intro y0 y1 y2 y3 y4
   unfold spec_l3Good.j0
   repeat' (first|with_reducible (first|exact ih0 _ _ _ _ _|exact spec_l3Days.mono _ _ _|exact LeO.refl _|exact LeO.none _|refine LeO.ite ?_ ?_|refine LeO.bind ?_ (fun _ => ?_))|exact LeO.none _|refine LeO.ite ?_ ?_|refine LeO.bind ?_ (fun _ => ?_))
theorem spec_l3Good.mono : ∀ a0 a1 a2 a3 k,LeO (spec_l3Good.f k a0 a1 a2 a3) (spec_l3Good.f (k + 1) a0 a1 a2 a3) := by
 intro a0 a1 a2 a3 k
 have ih0 := spec_l3Good.mono_l k
 unfold spec_l3Good.f
 repeat' (first|with_reducible (first|exact ih0 _ _ _ _ _|exact spec_l3Days.mono _ _ _|exact LeO.refl _|exact LeO.none _|refine LeO.ite ?_ ?_|refine LeO.bind ?_ (fun _ => ?_))|exact LeO.none _|refine LeO.ite ?_ ?_|refine LeO.bind ?_ (fun _ => ?_))
set_option maxHeartbeats 8000000 in
set_option maxRecDepth 100000 in
theorem spec_l3Good.calls (k : Nat) (a0_0 : Int) (a0_1 : Int) (a0_2 : Int) (a0_3 : Bool) (r : Bool) (w : World) (h : spec_l3Good.f k a0_0 a0_1 a0_2 a0_3 = some r) :
  Calls Tryz.prog 124 #[.agg #[.int .i64 a0_0,.int .i64 a0_1,.int .i64 a0_2,.bool a0_3]] w fun e w' => e = .returned (.bool r) ∧ Below w.heap.size w w' := by
 have hu39 := Tryz.underlying39;have HB := aM (Below.refl w.heap.size w);have H : (if (a0_0 == 0 && (a0_1 == 0 && (a0_2 == 0 && (!a0_3)))) = true then (some true) else ((spec_l1In.f a0_0 1 2999).bind fun t177 => (if t177 = true then ((spec_l1In.f a0_1 0 12).bind fun t178 => (spec_l3Good.j0 k (!t178) a0_0 a0_1 a0_2 a0_3)) else (spec_l3Good.j0 k true a0_0 a0_1 a0_2 a0_3)))) = some r := h;clear h
 by_cases c2 : (a0_0 == 0 && (a0_1 == 0 && (a0_2 == 0 && (!a0_3)))) = true
 ·rw [if_pos c2] at H;have c2b0 : (a0_0 == 0 && (a0_1 == 0 && (a0_2 == 0 && (!a0_3)))) = true := c2;(try (have c2b1 : decide (a0_0 = 0 && (a0_1 == 0 && (a0_2 == 0 && (!a0_3)))) = true := by simpa using c2));(try (have c2b2 : (a0_0 == 0 && (a0_1 == 0 && (a0_2 == 0 && (!a0_3)))) = true := by simpa using c2));clear c2;obtain rfl := Option.some.inj H;simp only [eS,eP] at H;obtain ⟨rfl⟩ := H;go_enter Tryz.func124,Tryz.ntmps124;go_wp2_with (first|((with_reducible refine gate_dst (N := 1) rfl ?_);refine bx_ (N := 1) (cs := #[.int .i64 a0_0,.int .i64 a0_1,.int .i64 a0_2,.bool a0_3]) (t := 39) ?_;intro gb176 hg w3 hbox hb;have BK176 := aM (hbox);have GW176 := aM ((by rw [hg];exact (lZ wB_) : w.heap.size ≤ gb176));have GE176 := GW176;replace HB := aM (lT wB_ hb);clear hb hbox hg;obtain ⟨hcz4_0,hcz4_1,hcz4_2,hcz4_3,hfz4_0,hfz4_1,hfz4_2,hfz4_3⟩ := z4_ BK176.out));(repeat (go_quiet (first|((with_reducible refine gate_dst (N := 1) rfl ?_);refine bx_ (N := 1) (cs := #[.int .i64 a0_0,.int .i64 a0_1,.int .i64 a0_2,.bool a0_3]) (t := 39) ?_;intro gb176 hg w3 hbox hb;have n0_ := aM (lT wB_ hb);have n1_ := aM (hbox);have n2_ := aM ((by rw [hg];exact (lZ wB_) : w.heap.size ≤ gb176));have n3_ := aM ((by rw [hg];exact (lZ wB_) : w.heap.size ≤ gb176));clear HB;have HB := n0_;have BK176 := n1_;have GW176 := n2_;have GE176 := n3_;clear n0_ n1_ n2_ n3_;clear hb hbox hg;obtain ⟨hcz4_0,hcz4_1,hcz4_2,hcz4_3,hfz4_0,hfz4_1,hfz4_2,hfz4_3⟩ := z4_ BK176.out));try go_wp2_with (first|((with_reducible refine gate_dst (N := 1) rfl ?_);refine bx_ (N := 1) (cs := #[.int .i64 a0_0,.int .i64 a0_1,.int .i64 a0_2,.bool a0_3]) (t := 39) ?_;intro gb176 hg w3 hbox hb;have n0_ := aM (lT wB_ hb);have n1_ := aM (hbox);have n2_ := aM ((by rw [hg];exact (lZ wB_) : w.heap.size ≤ gb176));have n3_ := aM ((by rw [hg];exact (lZ wB_) : w.heap.size ≤ gb176));clear HB;have HB := n0_;have BK176 := n1_;have GW176 := n2_;have GE176 := n3_;clear n0_ n1_ n2_ n3_;clear hb hbox hg;obtain ⟨hcz4_0,hcz4_1,hcz4_2,hcz4_3,hfz4_0,hfz4_1,hfz4_2,hfz4_3⟩ := z4_ BK176.out))));go_ret;exact ⟨vR_,wB_⟩
 ·rw [if_neg c2] at H;have c2b0 : (a0_0 == 0 && (a0_1 == 0 && (a0_2 == 0 && (!a0_3)))) = false := (by simpa using c2);(try (have c2b1 : decide (a0_0 = 0 && (a0_1 == 0 && (a0_2 == 0 && (!a0_3)))) = false := by simpa using c2));(try (have c2b2 : (a0_0 == 0 && (a0_1 == 0 && (a0_2 == 0 && (!a0_3)))) = false := by simpa using c2));(try (have c2b3 : ¬ (a0_0 = 0 && (a0_1 == 0 && (a0_2 == 0 && (!a0_3)))) := by simpa using c2));clear c2;have HC5 := aM H;clear H;go_enter Tryz.func124,Tryz.ntmps124;go_upto_region 3 with (first|((with_reducible refine gate_dst (N := 1) rfl ?_);refine bx_ (N := 1) (cs := #[.int .i64 a0_0,.int .i64 a0_1,.int .i64 a0_2,.bool a0_3]) (t := 39) ?_;intro gb176 hg w6 hbox hb;have BK176 := aM (hbox);have GW176 := aM ((by rw [hg];exact (lZ wB_) : w.heap.size ≤ gb176));have GE176 := GW176;replace HB := aM (lT wB_ hb);clear hb hbox hg;obtain ⟨hcz7_0,hcz7_1,hcz7_2,hcz7_3,hfz7_0,hfz7_1,hfz7_2,hfz7_3⟩ := z4_ BK176.out));(repeat (go_quiet (first|((with_reducible refine gate_dst (N := 1) rfl ?_);refine bx_ (N := 1) (cs := #[.int .i64 a0_0,.int .i64 a0_1,.int .i64 a0_2,.bool a0_3]) (t := 39) ?_;intro gb176 hg w6 hbox hb;have n0_ := aM (lT wB_ hb);have n1_ := aM (hbox);have n2_ := aM ((by rw [hg];exact (lZ wB_) : w.heap.size ≤ gb176));have n3_ := aM ((by rw [hg];exact (lZ wB_) : w.heap.size ≤ gb176));clear HB;have HB := n0_;have BK176 := n1_;have GW176 := n2_;have GE176 := n3_;clear n0_ n1_ n2_ n3_;clear hb hbox hg;obtain ⟨hcz7_0,hcz7_1,hcz7_2,hcz7_3,hfz7_0,hfz7_1,hfz7_2,hfz7_3⟩ := z4_ BK176.out));go_upto_region 3 with (first|((with_reducible refine gate_dst (N := 1) rfl ?_);refine bx_ (N := 1) (cs := #[.int .i64 a0_0,.int .i64 a0_1,.int .i64 a0_2,.bool a0_3]) (t := 39) ?_;intro gb176 hg w6 hbox hb;have n0_ := aM (lT wB_ hb);have n1_ := aM (hbox);have n2_ := aM ((by rw [hg];exact (lZ wB_) : w.heap.size ≤ gb176));have n3_ := aM ((by rw [hg];exact (lZ wB_) : w.heap.size ≤ gb176));clear HB;have HB := n0_;have BK176 := n1_;have GW176 := n2_;have GE176 := n3_;clear n0_ n1_ n2_ n3_;clear hb hbox hg;obtain ⟨hcz7_0,hcz7_1,hcz7_2,hcz7_3,hfz7_0,hfz7_1,hfz7_2,hfz7_3⟩ := z4_ BK176.out))));(try simp only [Act.put,lI,sZ,sS]);go_cut [7] (fun v7 wc => ∃ (kq : Nat) (x7_4 : Bool),v7 = .bool x7_4 ∧ Aside0 (spec_l3Good.j0 kq x7_4 a0_0 a0_1 a0_2 a0_3 = some r) ∧ Aside0 (kq ≤ k) ∧ Aside0 (wc.heap[gb176]? = some (.cells #[.int .i64 a0_0,.int .i64 a0_1,.int .i64 a0_2,.bool a0_3] 39 (0,0))) ∧ Aside0 (Below w.heap.size w wc))
  case first =>
   have H := HC5.out;clear HC5;obtain ⟨t177,A8,H⟩ := bE_ H
   by_cases c9 : t177 = true
   focus
    subst c9;rw [if_pos rfl] at H;obtain ⟨t178,A10,H⟩ := bE_ H;have H' := aM H;clear H
   rotate_left
   focus
    replace c9 := Bool.eq_false_iff.mpr c9;subst c9;rw [if_neg Bool.false_ne_true] at H;have H' := aM H;clear H
   all_goals
    obtain ⟨hczx176_0,hczx176_1,hczx176_2,hczx176_3,hfzx176_0,hfzx176_1,hfzx176_2,hfzx176_3⟩ := z4_ BK176.out;go_wp2_with (first|(go_at_call 121;(with_reducible refine (spec_l1In.calls _ _ _ _ _ A8.out).mono ?_);rintro e w' ⟨rfl,⟨nd,rfl⟩⟩;(try first|exact ⟨rfl,_,World.drewN_drewN _ _ _⟩|exact ⟨rfl,_,Eq.trans (World.drewN_drewN _ _ _) (congrArg (World.drewN _) (Nat.add_assoc _ _ _))⟩))|(go_at_call 121;(with_reducible refine (spec_l1In.calls _ _ _ _ _ A10.out).mono ?_);rintro e w' ⟨rfl,⟨nd,rfl⟩⟩;(try first|exact ⟨rfl,_,World.drewN_drewN _ _ _⟩|exact ⟨rfl,_,Eq.trans (World.drewN_drewN _ _ _) (congrArg (World.drewN _) (Nat.add_assoc _ _ _))⟩)))
    first
     |
      (repeat (go_quiet (first|(go_at_call 121;(with_reducible refine (spec_l1In.calls _ _ _ _ _ A8.out).mono ?_);rintro e w' ⟨rfl,⟨nd,rfl⟩⟩;(try first|exact ⟨rfl,_,World.drewN_drewN _ _ _⟩|exact ⟨rfl,_,Eq.trans (World.drewN_drewN _ _ _) (congrArg (World.drewN _) (Nat.add_assoc _ _ _))⟩)));try go_wp2_with (first|(go_at_call 121;(with_reducible refine (spec_l1In.calls _ _ _ _ _ A8.out).mono ?_);rintro e w' ⟨rfl,⟨nd,rfl⟩⟩;(try first|exact ⟨rfl,_,World.drewN_drewN _ _ _⟩|exact ⟨rfl,_,Eq.trans (World.drewN_drewN _ _ _) (congrArg (World.drewN _) (Nat.add_assoc _ _ _))⟩)))));go_meet
      case rel => exact ⟨_,(true),vR_,H',⟨by first|omega|exact Nat.le_refl _⟩,⟨wC_ BK176.out⟩,⟨wB_⟩⟩
     |
      (repeat (go_quiet (first|(go_at_call 121;(with_reducible refine (spec_l1In.calls _ _ _ _ _ A8.out).mono ?_);rintro e w' ⟨rfl,⟨nd,rfl⟩⟩;(try first|exact ⟨rfl,_,World.drewN_drewN _ _ _⟩|exact ⟨rfl,_,Eq.trans (World.drewN_drewN _ _ _) (congrArg (World.drewN _) (Nat.add_assoc _ _ _))⟩))|(go_at_call 121;(with_reducible refine (spec_l1In.calls _ _ _ _ _ A10.out).mono ?_);rintro e w' ⟨rfl,⟨nd,rfl⟩⟩;(try first|exact ⟨rfl,_,World.drewN_drewN _ _ _⟩|exact ⟨rfl,_,Eq.trans (World.drewN_drewN _ _ _) (congrArg (World.drewN _) (Nat.add_assoc _ _ _))⟩)));try go_wp2_with (first|(go_at_call 121;(with_reducible refine (spec_l1In.calls _ _ _ _ _ A8.out).mono ?_);rintro e w' ⟨rfl,⟨nd,rfl⟩⟩;(try first|exact ⟨rfl,_,World.drewN_drewN _ _ _⟩|exact ⟨rfl,_,Eq.trans (World.drewN_drewN _ _ _) (congrArg (World.drewN _) (Nat.add_assoc _ _ _))⟩))|(go_at_call 121;(with_reducible refine (spec_l1In.calls _ _ _ _ _ A10.out).mono ?_);rintro e w' ⟨rfl,⟨nd,rfl⟩⟩;(try first|exact ⟨rfl,_,World.drewN_drewN _ _ _⟩|exact ⟨rfl,_,Eq.trans (World.drewN_drewN _ _ _) (congrArg (World.drewN _) (Nat.add_assoc _ _ _))⟩)))));go_meet
      case rel => exact ⟨_,(!t178),vR_,H',⟨by first|omega|exact Nat.le_refl _⟩,⟨wC_ BK176.out⟩,⟨wB_⟩⟩
  case rest =>
   clear HC5;obtain ⟨kq,x7_4,rfl,HA,HJ4,BK176,HB⟩ := hcut
   cases kq with
   | zero => exact absurd HA.out (by simp [spec_l3Good.j0])
   | succ kj4 =>
    have H := HA.out;clear HA;simp only [spec_l3Good.j0] at H
    by_cases c13 : x7_4 = true
    focus
     subst c13;rw [if_pos rfl] at H;obtain rfl := Option.some.inj H;simp only [eS,eP] at H;obtain ⟨rfl⟩ := H
    rotate_left
    focus
     replace c13 := Bool.eq_false_iff.mpr c13;subst c13;rw [if_neg Bool.false_ne_true] at H
     by_cases c14 : a0_3 = true
     focus
      subst c14;rw [if_pos rfl] at H
      by_cases c15 : a0_1 = 0
      focus
       rw [if_pos c15] at H;have c15b0 : (a0_1 == 0) = true := beq_iff_eq.mpr c15;have c15b1 : (a0_1 != 0) = false := bne_eq_false_iff_eq.mpr c15;clear c15;obtain rfl := Option.some.inj H;simp only [eS,eP] at H;obtain ⟨rfl⟩ := H
      rotate_left
      focus
       rw [if_neg c15] at H;have c15b0 : (a0_1 == 0) = false := beq_eq_false_iff_ne.mpr c15;have c15b1 : (a0_1 != 0) = true := bne_iff_ne.mpr c15;obtain rfl := Option.some.inj H;simp only [eS,eP] at H;obtain ⟨rfl⟩ := H
     rotate_left 2
     focus
      replace c14 := Bool.eq_false_iff.mpr c14;subst c14;rw [if_neg Bool.false_ne_true] at H
      by_cases c18 : a0_1 = 0
      focus
       rw [if_pos c18] at H;have c18b0 : (a0_1 == 0) = true := beq_iff_eq.mpr c18;have c18b1 : (a0_1 != 0) = false := bne_eq_false_iff_eq.mpr c18;clear c18;obtain rfl := Option.some.inj H;simp only [eS,eP] at H;obtain ⟨rfl⟩ := H
      rotate_left
      focus
       rw [if_neg c18] at H;have c18b0 : (a0_1 == 0) = false := beq_eq_false_iff_ne.mpr c18;have c18b1 : (a0_1 != 0) = true := bne_iff_ne.mpr c18;obtain ⟨t179,A20,H⟩ := bE_ H;obtain ⟨t180,A21,H⟩ := bE_ H;obtain rfl := Option.some.inj H;simp only [eS,eP] at H;obtain ⟨rfl⟩ := H
    all_goals
     (try obtain ⟨hczx176_0,hczx176_1,hczx176_2,hczx176_3,hfzx176_0,hfzx176_1,hfzx176_2,hfzx176_3⟩ := z4_ BK176.out);go_wp2_with (first|(go_at_call 164;(with_reducible refine (spec_l3Days.calls _ _ _ _ _ A20.out).mono ?_);rintro e w' ⟨rfl,⟨nd,rfl⟩⟩;(try first|exact ⟨rfl,_,World.drewN_drewN _ _ _⟩|exact ⟨rfl,_,Eq.trans (World.drewN_drewN _ _ _) (congrArg (World.drewN _) (Nat.add_assoc _ _ _))⟩))|(go_at_call 121;(with_reducible refine (spec_l1In.calls _ _ _ _ _ A21.out).mono ?_);rintro e w' ⟨rfl,⟨nd,rfl⟩⟩;(try first|exact ⟨rfl,_,World.drewN_drewN _ _ _⟩|exact ⟨rfl,_,Eq.trans (World.drewN_drewN _ _ _) (congrArg (World.drewN _) (Nat.add_assoc _ _ _))⟩)))
     first
      |
       (repeat (go_quiet (fail);try go_wp2));go_ret;exact ⟨vR_,wB_⟩
      |
       (repeat (go_quiet (first|(go_at_call 164;(with_reducible refine (spec_l3Days.calls _ _ _ _ _ A20.out).mono ?_);rintro e w' ⟨rfl,⟨nd,rfl⟩⟩;(try first|exact ⟨rfl,_,World.drewN_drewN _ _ _⟩|exact ⟨rfl,_,Eq.trans (World.drewN_drewN _ _ _) (congrArg (World.drewN _) (Nat.add_assoc _ _ _))⟩))|(go_at_call 121;(with_reducible refine (spec_l1In.calls _ _ _ _ _ A21.out).mono ?_);rintro e w' ⟨rfl,⟨nd,rfl⟩⟩;(try first|exact ⟨rfl,_,World.drewN_drewN _ _ _⟩|exact ⟨rfl,_,Eq.trans (World.drewN_drewN _ _ _) (congrArg (World.drewN _) (Nat.add_assoc _ _ _))⟩)));try go_wp2_with (first|(go_at_call 164;(with_reducible refine (spec_l3Days.calls _ _ _ _ _ A20.out).mono ?_);rintro e w' ⟨rfl,⟨nd,rfl⟩⟩;(try first|exact ⟨rfl,_,World.drewN_drewN _ _ _⟩|exact ⟨rfl,_,Eq.trans (World.drewN_drewN _ _ _) (congrArg (World.drewN _) (Nat.add_assoc _ _ _))⟩))|(go_at_call 121;(with_reducible refine (spec_l1In.calls _ _ _ _ _ A21.out).mono ?_);rintro e w' ⟨rfl,⟨nd,rfl⟩⟩;(try first|exact ⟨rfl,_,World.drewN_drewN _ _ _⟩|exact ⟨rfl,_,Eq.trans (World.drewN_drewN _ _ _) (congrArg (World.drewN _) (Nat.add_assoc _ _ _))⟩)))));go_ret;exact ⟨vR_,wB_⟩
end Go.Proofs.YtmafmhgmdegplaaGreatDoor.P
