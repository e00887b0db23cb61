/- Written by a program in this session: each theorem here says that a Go function computes the Lean function beside it, or that a law's row holds, under the conditions that the theorem itself states. -/
import Derived.Test.YtmafmhgmdegplaaGreatDoorZPx0
import Derived.Test.YtmafmhgmdegplaaGreatDoorZPx2
import Derived.Test.YtmafmhgmdegplaaGreatDoorZPx4
namespace Go.Proofs.YtmafmhgmdegplaaGreatDoor.P
open Go.RowKit Go.Proofs.YtmafmhgmdegplaaGreatDoorW.PrintWords Go.Proofs.YtmafmhgmdegplaaGreatDoorW.PrintLast Go.Proofs.YtmafmhgmdegplaaGreatDoorW.PrintMore
attribute [local go_sem] max2_int min2_int max_two min_two max_three min_three max_four min_four   -- for this text's walks alone
set_option linter.unusedVariables false
set_option linter.unusedSimpArgs false
mutual
def spec_l2Word.j0 : Nat → ByteArray → Bool → Option (Bool)
 | 0,_,_ => none
 | k + 1,x0,x22 => if x22 = true then (some false) else (spec_l2Word.l0 k x0 1)
def spec_l2Word.l0 : Nat → ByteArray → Int → Option (Bool)
 | 0,_,_ => none
 | k + 1,x0,x3 => if x3 < (x0.size : Int) then (if 0 ≤ x3 then ((spec_l2Letter.f (bt x0 x3)).bind fun t145 => (if t145 = true then (spec_l2Word.l0 k x0 (wrap64 (x3 + 1))) else (if (bt x0 x3) = 45 then (if 0 ≤ (wrap64 (x3 - 1)) then (if (wrap64 (x3 - 1)) < (x0.size : Int) then ((spec_l2Letter.f (bt x0 (wrap64 (x3 - 1)))).bind fun t146 => (if t146 = true then (spec_l2Word.l0 k x0 (wrap64 (x3 + 1))) else (some false))) else (none)) else (none)) else (if (bt x0 x3) = 39 then (if 0 ≤ (wrap64 (x3 - 1)) then (if (wrap64 (x3 - 1)) < (x0.size : Int) then ((spec_l2Letter.f (bt x0 (wrap64 (x3 - 1)))).bind fun t147 => (if t147 = true then (spec_l2Word.l0 k x0 (wrap64 (x3 + 1))) else (some false))) else (none)) else (none)) else (some false))))) else (none)) else (some true)
end
def spec_l2Word.f (k : Nat) (a0 : ByteArray) : Option (Bool) := (spec_l1In.f (a0.size : Int) 1 12).bind fun t142 => (if t142 = true then (if 0 < (a0.size : Int) then ((spec_l2Letter.f (bt a0 0)).bind fun t143 => (if t143 = true then (if 0 ≤ (wrap64 ((a0.size : Int) - 1)) then (if (wrap64 ((a0.size : Int) - 1)) < (a0.size : Int) then ((spec_l2Letter.f (bt a0 (wrap64 ((a0.size : Int) - 1)))).bind fun t144 => (spec_l2Word.j0 k a0 (!t144))) else (none)) else (none)) else (spec_l2Word.j0 k a0 true))) else (none)) else (spec_l2Word.j0 k a0 true))
theorem spec_l2Word.mono_l : ∀ k,(∀ y0 y1,LeO (spec_l2Word.j0 k y0 y1) (spec_l2Word.j0 (k + 1) y0 y1)) ∧ (∀ y0 y1,LeO (spec_l2Word.l0 k y0 y1) (spec_l2Word.l0 (k + 1) y0 y1))
 | 0 => ⟨fun _ _ r h => by simp [spec_l2Word.j0] at h,fun _ _ r h => by simp [spec_l2Word.l0] at h⟩
 | k + 1 => by
  obtain ⟨ih0,ih1⟩ := spec_l2Word.mono_l k
  refine ⟨?_,?_⟩
  all_goals (intros;first|unfold spec_l2Word.j0|unfold spec_l2Word.l0)
  all_goals repeat' (first|with_reducible (first|exact ih0 _ _|exact ih1 _ _|exact LeO.refl _|exact LeO.none _|refine LeO.ite ?_ ?_|refine LeO.bind ?_ (fun _ => ?_))|exact LeO.none _|refine LeO.ite ?_ ?_|refine LeO.bind ?_ (fun _ => ?_))
theorem spec_l2Word.mono : ∀ a0 k,LeO (spec_l2Word.f k a0) (spec_l2Word.f (k + 1) a0) := by
 intro a0 k
 obtain ⟨ih0,ih1⟩ := spec_l2Word.mono_l k
 unfold spec_l2Word.f
 repeat' (first|with_reducible (first|exact ih0 _ _|exact ih1 _ _|exact LeO.refl _|exact LeO.none _|refine LeO.ite ?_ ?_|refine LeO.bind ?_ (fun _ => ?_))|exact LeO.none _|refine LeO.ite ?_ ?_|refine LeO.bind ?_ (fun _ => ?_))
set_option maxHeartbeats 8000000 in
set_option maxRecDepth 100000 in
theorem spec_l2Word.calls (k : Nat) (a0 : ByteArray) (r : Bool) (w : World) (h : spec_l2Word.f k a0 = some r) :
  Calls Tryz.prog 210 #[.string a0] w fun e w' => e = .returned (.bool r) ∧ Drawn0 w w' := by
 have H : ((spec_l1In.f (a0.size : Int) 1 12).bind fun t142 => (if t142 = true then (if 0 < (a0.size : Int) then ((spec_l2Letter.f (bt a0 0)).bind fun t143 => (if t143 = true then (if 0 ≤ (wrap64 ((a0.size : Int) - 1)) then (if (wrap64 ((a0.size : Int) - 1)) < (a0.size : Int) then ((spec_l2Letter.f (bt a0 (wrap64 ((a0.size : Int) - 1)))).bind fun t144 => (spec_l2Word.j0 k a0 (!t144))) else (none)) else (none)) else (spec_l2Word.j0 k a0 true))) else (none)) else (spec_l2Word.j0 k a0 true))) = some r := h;clear h;have HC2 := aM H;clear H;go_enter Tryz.func210,Tryz.ntmps210;go_upto_region 1 with (fail);go_cut [22] (fun v22 wc => ∃ (kq : Nat) (x22_1 : Bool),v22 = .bool x22_1 ∧ Aside0 (spec_l2Word.j0 kq a0 x22_1 = some r) ∧ Aside0 (kq ≤ k) ∧ Drawn0 w wc)
 case first =>
  have H := HC2.out;clear HC2;obtain ⟨t142,A3,H⟩ := bE_ H
  by_cases c4 : t142 = true
  focus
   subst c4;rw [if_pos rfl] at H
   by_cases c5 : 0 < (a0.size : Int)
   rotate_left;rw [if_neg c5] at H;exact absurd H (by simp);rw [if_pos c5] at H;have c5b0 : decide (0 < (a0.size : Int)) = true := dT c5;have c5b1 : decide (0 < a0.size) = true := dT (by omega);clear c5;(first|rw [c5b0]|(simp only [i64_w,i32_w];rw [c5b0])|skip);obtain ⟨t143,A7,H⟩ := bE_ H
   by_cases c8 : t143 = true
   focus
    subst c8;rw [if_pos rfl] at H;obtain ⟨ji9,hji9⟩ : ∃ j_ : Int,(wrap64 ((a0.size : Int) - 1)) = j_ := ⟨_,rfl⟩;replace H : (if 0 ≤ (ji9) then (if (ji9) < (a0.size : Int) then ((spec_l2Letter.f (bt a0 (ji9))).bind fun t144 => (spec_l2Word.j0 k a0 (!t144))) else (none)) else (none)) = some r := (by first|(rw [hji9] at H;exact H)|(simp only [hji9] at H ⊢;exact H));(try rw [hji9] at A3);(try rw [hji9] at A7);have hji9w : (IntKind.i64.wrap ((a0.size : Int) - 1)) = ji9 := (i64_w _).trans hji9
    by_cases c10 : 0 ≤ (ji9)
    rotate_left;rw [if_neg c10] at H;exact absurd H (by simp);rw [if_pos c10] at H;have c10b0 : decide (0 ≤ (ji9)) = true := dT c10;clear c10
    by_cases c11 : (ji9) < (a0.size : Int)
    rotate_left;rw [if_neg c11] at H;exact absurd H (by simp);rw [if_pos c11] at H;have c11b0 : decide ((ji9) < (a0.size : Int)) = true := dT c11;clear c11;obtain ⟨t144,A13,H⟩ := bE_ H;have H' := aM H;clear H
   rotate_left
   focus
    replace c8 := Bool.eq_false_iff.mpr c8;subst c8;rw [if_neg Bool.false_ne_true] at H;have H' := aM H;clear H
  rotate_left 2
  focus
   replace c4 := Bool.eq_false_iff.mpr c4;subst c4;rw [if_neg Bool.false_ne_true] at H;have H' := aM H;clear H
  all_goals
   go_wp2_with (first|((with_reducible refine gate_callee (f := 121) rfl ?_);refine gl_ (some 6) Tryz.func121 #[.int .i64 (a0.size : Int),.int .i64 1,.int .i64 12] ?_;(with_reducible refine (spec_l1In.calls _ _ _ _ _ A3.out).mono ?_);rintro e w' ⟨rfl,⟨nd,rfl⟩⟩;refine ⟨_,rfl,?_⟩;have p01 : 0 ≤ (0 : Int) := (by omega);have q01 : 0 < a0.size := (by have : (0 : Int) < (a0.size : Int) := oD (by assumption);omega);have hx01 : ∀ h : 0 < a0.size,((a0[0]'h).toNat : Int) = bt a0 0 := bt_at a0 0;clear p01;have qi6 : (0 < (a0.size : Int)) = True := eq_true (oD (by assumption));replace q01 := eq_true q01)|((with_reducible refine gate_callee (f := 121) rfl ?_);refine gl_ (some 6) Tryz.func121 #[.int .i64 (a0.size : Int),.int .i64 1,.int .i64 12] ?_;(with_reducible refine (spec_l1In.calls _ _ _ _ _ A3.out).mono ?_);rintro e w' ⟨rfl,⟨nd,rfl⟩⟩;refine ⟨_,rfl,?_⟩)|(go_at_call 243;(with_reducible refine (spec_l2Letter.calls _ _ _ A7.out).mono ?_);rintro e w' ⟨rfl,⟨nd,rfl⟩⟩;(try (have p02 : 0 ≤ ((ji9) : Int) := oD (by assumption);have q02 : (ji9) < (a0.size : Int) := oD (by assumption);have hx02 := bt_at a0 (ji9);replace p02 := eq_true p02;replace q02 := eq_true q02)))|(go_at_call 243;(with_reducible refine (spec_l2Letter.calls _ _ _ A13.out).mono ?_);rintro e w' ⟨rfl,⟨nd,rfl⟩⟩));go_meet
   case rel => first|(exact ⟨_,(!t144),vR_,H',⟨by first|omega|exact Nat.le_refl _⟩,dw_⟩)|(exact ⟨_,(true),vR_,H',⟨by first|omega|exact Nat.le_refl _⟩,dw_⟩)
 case rest =>
  clear HC2;obtain ⟨kq,x22_1,rfl,HA,HJ1,⟨mc1,rfl⟩⟩ := hcut
  cases kq with
  | zero => exact absurd HA.out (by simp [spec_l2Word.j0])
  | succ kj1 =>
   have H := HA.out;clear HA;simp only [spec_l2Word.j0] at H
   by_cases c14 : x22_1 = true
   ·subst c14;rw [if_pos rfl] at H;obtain rfl := Option.some.inj H;simp only [eS,eP] at H;obtain ⟨rfl⟩ := H;go_wp2;go_ret;exact ⟨vR_,dw_⟩
   ·replace c14 := Bool.eq_false_iff.mpr c14;subst c14;rw [if_neg Bool.false_ne_true] at H;have H' := aM H;clear H;go_wp2;go_loopg [3] kj1 (fun kq v3 w' => ∃ (x3_2 : Int),v3 = .int .i64 x3_2 ∧ Aside0 (spec_l2Word.l0 kq a0 x3_2 = some r) ∧ Aside0 (kq ≤ kj1) ∧ Drawn0 w w')
    case atStart => exact ⟨(1),vR_,H',⟨Nat.le_refl _⟩,dw_⟩
    case round =>
     clear H';obtain ⟨x3_2,rfl,HA,HK2,⟨m2,rfl⟩⟩ := hrel
     cases gk with
     | zero => exact absurd HA.out (by simp [spec_l2Word.l0])
     | succ k2 =>
      have H := HA.out;clear HA;simp only [spec_l2Word.l0] at H
      by_cases c15 : x3_2 < (a0.size : Int)
      focus
       rw [if_pos c15] at H;have c15b0 : decide (x3_2 < (a0.size : Int)) = true := dT c15;clear c15
       by_cases c16 : 0 ≤ x3_2
       rotate_left;rw [if_neg c16] at H;exact absurd H (by simp);rw [if_pos c16] at H;have c16b0 : decide (0 ≤ x3_2) = true := dT c16;clear c16;obtain ⟨t145,A18,H⟩ := bE_ H
       by_cases c19 : t145 = true
       focus
        subst c19;rw [if_pos rfl] at H;have H' := aM H;clear H
       rotate_left
       focus
        replace c19 := Bool.eq_false_iff.mpr c19;subst c19;rw [if_neg Bool.false_ne_true] at H
        by_cases c21 : (bt a0 x3_2) = 45
        focus
         rw [if_pos c21] at H;have c21b0 : ((bt a0 x3_2) == 45) = true := beq_iff_eq.mpr c21;have c21b1 : ((bt a0 x3_2) != 45) = false := bne_eq_false_iff_eq.mpr c21;clear c21;obtain ⟨ji22,hji22⟩ : ∃ j_ : Int,(wrap64 (x3_2 - 1)) = j_ := ⟨_,rfl⟩;replace H : (if 0 ≤ (ji22) then (if (ji22) < (a0.size : Int) then ((spec_l2Letter.f (bt a0 (ji22))).bind fun t146 => (if t146 = true then (spec_l2Word.l0 k2 a0 (wrap64 (x3_2 + 1))) else (some false))) else (none)) else (none)) = some r := (by first|(rw [hji22] at H;exact H)|(simp only [hji22] at H ⊢;exact H));(try rw [hji22] at A18);have hji22w : (IntKind.i64.wrap (x3_2 - 1)) = ji22 := (i64_w _).trans hji22
         by_cases c23 : 0 ≤ (ji22)
         rotate_left;rw [if_neg c23] at H;exact absurd H (by simp);rw [if_pos c23] at H;have c23b0 : decide (0 ≤ (ji22)) = true := dT c23;clear c23
         by_cases c24 : (ji22) < (a0.size : Int)
         rotate_left;rw [if_neg c24] at H;exact absurd H (by simp);rw [if_pos c24] at H;have c24b0 : decide ((ji22) < (a0.size : Int)) = true := dT c24;clear c24;obtain ⟨t146,A26,H⟩ := bE_ H
         by_cases c27 : t146 = true
         focus
          subst c27;rw [if_pos rfl] at H;have H' := aM H;clear H
         rotate_left
         focus
          replace c27 := Bool.eq_false_iff.mpr c27;subst c27;rw [if_neg Bool.false_ne_true] at H;obtain rfl := Option.some.inj H;simp only [eS,eP] at H;obtain ⟨rfl⟩ := H
        rotate_left 2
        focus
         rw [if_neg c21] at H;have c21b0 : ((bt a0 x3_2) == 45) = false := beq_eq_false_iff_ne.mpr c21;have c21b1 : ((bt a0 x3_2) != 45) = true := bne_iff_ne.mpr c21
         by_cases c29 : (bt a0 x3_2) = 39
         focus
          rw [if_pos c29] at H;have c29b0 : ((bt a0 x3_2) == 39) = true := beq_iff_eq.mpr c29;have c29b1 : ((bt a0 x3_2) != 39) = false := bne_eq_false_iff_eq.mpr c29;clear c29;obtain ⟨ji30,hji30⟩ : ∃ j_ : Int,(wrap64 (x3_2 - 1)) = j_ := ⟨_,rfl⟩;replace H : (if 0 ≤ (ji30) then (if (ji30) < (a0.size : Int) then ((spec_l2Letter.f (bt a0 (ji30))).bind fun t147 => (if t147 = true then (spec_l2Word.l0 k2 a0 (wrap64 (x3_2 + 1))) else (some false))) else (none)) else (none)) = some r := (by first|(rw [hji30] at H;exact H)|(simp only [hji30] at H ⊢;exact H));(try rw [hji30] at A18);have hji30w : (IntKind.i64.wrap (x3_2 - 1)) = ji30 := (i64_w _).trans hji30
          by_cases c31 : 0 ≤ (ji30)
          rotate_left;rw [if_neg c31] at H;exact absurd H (by simp);rw [if_pos c31] at H;have c31b0 : decide (0 ≤ (ji30)) = true := dT c31;clear c31
          by_cases c32 : (ji30) < (a0.size : Int)
          rotate_left;rw [if_neg c32] at H;exact absurd H (by simp);rw [if_pos c32] at H;have c32b0 : decide ((ji30) < (a0.size : Int)) = true := dT c32;clear c32;obtain ⟨t147,A34,H⟩ := bE_ H
          by_cases c35 : t147 = true
          focus
           subst c35;rw [if_pos rfl] at H;have H' := aM H;clear H
          rotate_left
          focus
           replace c35 := Bool.eq_false_iff.mpr c35;subst c35;rw [if_neg Bool.false_ne_true] at H;obtain rfl := Option.some.inj H;simp only [eS,eP] at H;obtain ⟨rfl⟩ := H
         rotate_left 2
         focus
          rw [if_neg c29] at H;have c29b0 : ((bt a0 x3_2) == 39) = false := beq_eq_false_iff_ne.mpr c29;have c29b1 : ((bt a0 x3_2) != 39) = true := bne_iff_ne.mpr c29;obtain rfl := Option.some.inj H;simp only [eS,eP] at H;obtain ⟨rfl⟩ := H
      rotate_left 6
      focus
       rw [if_neg c15] at H;have c15b0 : decide (x3_2 < (a0.size : Int)) = false := dF c15;clear c15;obtain rfl := Option.some.inj H;simp only [eS,eP] at H;obtain ⟨rfl⟩ := H
      all_goals
       (try (have p03 : 0 ≤ (x3_2 : Int) := oD (by assumption);have q03 : x3_2 < (a0.size : Int) := oD (by assumption);have hx03 := bt_at a0 x3_2;replace p03 := eq_true p03;replace q03 := eq_true q03));go_wp2_with (first|((with_reducible refine gate_callee (f := 243) rfl ?_);refine gl_ (some 32) Tryz.func243 #[.int .u8 (bt a0 x3_2)] ?_;(with_reducible refine (spec_l2Letter.calls _ _ _ A18.out).mono ?_);rintro e w' ⟨rfl,⟨nd,rfl⟩⟩;refine ⟨_,rfl,?_⟩;(try (have p03 : 0 ≤ (x3_2 : Int) := oD (by assumption);have q03 : x3_2 < (a0.size : Int) := oD (by assumption);have hx03 := bt_at a0 x3_2;replace p03 := eq_true p03;replace q03 := eq_true q03));(try (have p04 : 0 ≤ ((ji22) : Int) := oD (by assumption);have q04 : (ji22) < (a0.size : Int) := oD (by assumption);have hx04 := bt_at a0 (ji22);replace p04 := eq_true p04;replace q04 := eq_true q04));(try (have p05 : 0 ≤ ((ji30) : Int) := oD (by assumption);have q05 : (ji30) < (a0.size : Int) := oD (by assumption);have hx05 := bt_at a0 (ji30);replace p05 := eq_true p05;replace q05 := eq_true q05)))|(go_at_call 243;(with_reducible refine (spec_l2Letter.calls _ _ _ A34.out).mono ?_);rintro e w' ⟨rfl,⟨nd,rfl⟩⟩)|(go_at_call 243;(with_reducible refine (spec_l2Letter.calls _ _ _ A26.out).mono ?_);rintro e w' ⟨rfl,⟨nd,rfl⟩⟩))
       first
        |
         go_roundg k2
         case measure => have := HJ1.out;have := HK2.out;omega
         case rel => exact ⟨(wrap64 (x3_2 + 1)),vR_,H',⟨by have := HJ1.out;have := HK2.out;omega⟩,dw_⟩
        |
         go_ret;(first|exact ⟨by first|rfl|(simp;done)|(simp [my_isEmpty];done)|(simp only [← hji22] <;> (first|rfl|simp))|(simp [*];done),dw_⟩|exact ⟨by first|rfl|(simp;done)|(simp [my_isEmpty];done)|(simp only [← hji30] <;> (first|rfl|simp))|(simp [*];done),dw_⟩|exact ⟨vR_,dw_⟩)
def spec_l1Split.l0 : Nat → ByteArray → Int → List ByteArray → Int → Int → Option (List ByteArray)
 | 0,_,_,_,_,_ => none
 | k + 1,x0,x1,x5,x6,x7 => if x7 < (x0.size : Int) then (if 0 ≤ x7 then (if (bt x0 x7) = x1 then (if 0 ≤ x6 then (if x6 ≤ x7 then (if x7 ≤ (x0.size : Int) then (if x5.length < 8796093022208 then (spec_l1Split.l0 k x0 x1 (x5 ++ [x0.extract (x6 : Int).toNat (x7 : Int).toNat]) (wrap64 (x7 + 1)) (wrap64 (x7 + 1))) else (none)) else (none)) else (none)) else (none)) else (spec_l1Split.l0 k x0 x1 x5 x6 (wrap64 (x7 + 1)))) else (none)) else (if 0 ≤ x6 then (if x6 ≤ (x0.size : Int) then (if x5.length < 8796093022208 then (some (x5 ++ [x0.extract (x6 : Int).toNat x0.size])) else (none)) else (none)) else (none))
def spec_l1Split.f (k : Nat) (a0 : ByteArray) (a1 : Int) : Option (List ByteArray) := spec_l1Split.l0 k a0 a1 (([] : List ByteArray)) 0 0
theorem spec_l1Split.mono_l : ∀ k,(∀ y0 y1 y2 y3 y4,LeO (spec_l1Split.l0 k y0 y1 y2 y3 y4) (spec_l1Split.l0 (k + 1) y0 y1 y2 y3 y4))
 | 0 => fun _ _ _ _ _ r h => by simp [spec_l1Split.l0] at h
 | k + 1 => by
  have ih0 := spec_l1Split.mono_l k
  ·intro y0 y1 y2 y3 y4
   unfold spec_l1Split.l0
   repeat' (first|with_reducible (first|exact ih0 _ _ _ _ _|exact LeO.refl _|exact LeO.none _|refine LeO.ite ?_ ?_|refine LeO.bind ?_ (fun _ => ?_))|exact LeO.none _|refine LeO.ite ?_ ?_|refine LeO.bind ?_ (fun _ => ?_))
theorem spec_l1Split.mono : ∀ a0 a1 k,LeO (spec_l1Split.f k a0 a1) (spec_l1Split.f (k + 1) a0 a1) := by
 intro a0 a1 k
 have ih0 := spec_l1Split.mono_l k
 unfold spec_l1Split.f
 repeat' (first|with_reducible (first|exact ih0 _ _ _ _ _|exact LeO.refl _|exact LeO.none _|refine LeO.ite ?_ ?_|refine LeO.bind ?_ (fun _ => ?_))|exact LeO.none _|refine LeO.ite ?_ ?_|refine LeO.bind ?_ (fun _ => ?_))
set_option maxHeartbeats 8000000 in
set_option maxRecDepth 100000 in
theorem spec_l1Split.calls (k : Nat) (a0 : ByteArray) (a1 : Int) (r : List ByteArray) (w : World) (h : spec_l1Split.f k a0 a1 = some r) :
  Calls Tryz.prog 244 #[.string a0,.int .u8 a1] w fun e w' => ∃ v0_ : Value,e = .returned (v0_) ∧ Kd.R Kd.string 9 w' w.heap.size (fun _ => True) v0_ r ∧ Below w.heap.size w w' := by
 have HB := aM (Below.refl w.heap.size w);have H : (spec_l1Split.l0 k a0 a1 (([] : List ByteArray)) 0 0) = some r := h;clear h;obtain ⟨y148,hy148⟩ : ∃ y_ : List ByteArray,y_ = (([] : List ByteArray)) := ⟨_,rfl⟩;replace H : (spec_l1Split.l0 k a0 a1 y148 0 0) = some r := (by first|(rw [hy148];with_reducible exact H)|(have H2_ := (Option.bind_some _ _).symm.trans H;rw [hy148];with_reducible exact H2_)|(have H2_ := (Option.bind_some _ _).symm.trans H;with_reducible exact H2_)|with_reducible exact H|(rw [hy148];exact H)|exact H);have Ny148 := aM hy148;clear hy148;have H' := aM H;clear H;go_enter Tryz.func244,Tryz.ntmps244;go_wp2_with (first|((with_reducible refine gate_dst (N := 8) rfl ?_);refine Kd.R_lit Kd.string _ 9 ?hg (N := 8) ?hd (xs := ([] : List ByteArray)) (inner := []) (ok := fun _ => True) (okp := fun _ => True) ?hr ?hp (fun _ hk => hk) trivial (Below.refl _ _) (Nat.le_refl _) (by simp) ?_;(case hd => rfl);(case hg => rfl);(case hr => first|(go_simp;done)|(go_simp;rfl));(case hp => exact (Reps.none _ _));intro v149 w3 ho4 hb hg_ hnew_;clear hg_ hnew_;(first|rw [← Ny148.out] at ho4|(simp only [Int.reduceToNat] at ho4;rw [← Ny148.out] at ho4));have HO150 := aM (Kd.R_lower ho4 (lZ wB_));replace HB := aM (lT wB_ hb);clear hb ho4));go_loopg [5,6,7] k (fun kq v5 v6 v7 w' => ∃ (x5_1 : List ByteArray) (x6_1 : Int) (x7_1 : Int),v6 = .int .i64 x6_1 ∧ v7 = .int .i64 x7_1 ∧ Aside0 (spec_l1Split.l0 kq a0 a1 x5_1 x6_1 x7_1 = some r) ∧ Aside0 (kq ≤ k) ∧ Aside0 (Kd.R Kd.string 9 w' w.heap.size (fun _ => True) v5 x5_1) ∧ Aside0 (Below w.heap.size w w'))
 case atStart => exact ⟨(y148),(0),(0),vR_,vR_,H',⟨Nat.le_refl _⟩,⟨wO_ HO150.out⟩,⟨wB_⟩⟩
 case round =>
  clear H';obtain ⟨x5_1,x6_1,x7_1,rfl,rfl,HA,HK1,HO_5,HB⟩ := hrel
  cases gk with
  | zero => exact absurd HA.out (by simp [spec_l1Split.l0])
  | succ k1 =>
   have H := HA.out;clear HA;simp only [spec_l1Split.l0] at H
   by_cases c5 : x7_1 < (a0.size : Int)
   focus
    rw [if_pos c5] at H;have c5b0 : decide (x7_1 < (a0.size : Int)) = true := dT c5;clear c5
    by_cases c6 : 0 ≤ x7_1
    rotate_left;rw [if_neg c6] at H;exact absurd H (by simp);rw [if_pos c6] at H;have c6b0 : decide (0 ≤ x7_1) = true := dT c6;clear c6
    by_cases c8 : (bt a0 x7_1) = a1
    focus
     rw [if_pos c8] at H;have c8b0 : ((bt a0 x7_1) == a1) = true := beq_iff_eq.mpr c8;have c8b1 : ((bt a0 x7_1) != a1) = false := bne_eq_false_iff_eq.mpr c8;clear c8
     by_cases c9 : 0 ≤ x6_1
     rotate_left;rw [if_neg c9] at H;exact absurd H (by simp);rw [if_pos c9] at H;have c9b0 := eq_true c9;have c9b1 : decide (0 ≤ x6_1) = true := dT c9;clear c9
     by_cases c10 : x6_1 ≤ x7_1
     rotate_left;rw [if_neg c10] at H;exact absurd H (by simp);rw [if_pos c10] at H;have c10b0 := eq_true c10;have c10b1 : decide (x6_1 ≤ x7_1) = true := dT c10;clear c10
     by_cases c11 : x7_1 ≤ (a0.size : Int)
     rotate_left;rw [if_neg c11] at H;exact absurd H (by simp);rw [if_pos c11] at H;have c11b0 := eq_true c11;have c11b1 : decide (x7_1 ≤ (a0.size : Int)) = true := dT c11;clear c11
     by_cases c12 : x5_1.length < 8796093022208
     rotate_left;rw [if_neg c12] at H;exact absurd H (by simp);rw [if_pos c12] at H;have LMc12 := aM c12;clear c12;obtain ⟨y151,hy151⟩ : ∃ y_ : List ByteArray,y_ = (x5_1 ++ [a0.extract (x6_1 : Int).toNat (x7_1 : Int).toNat]) := ⟨_,rfl⟩;replace H : (spec_l1Split.l0 k1 a0 a1 y151 (wrap64 (x7_1 + 1)) (wrap64 (x7_1 + 1))) = some r := (by first|(rw [hy151];with_reducible exact H)|(have H2_ := (Option.bind_some _ _).symm.trans H;rw [hy151];with_reducible exact H2_)|(have H2_ := (Option.bind_some _ _).symm.trans H;with_reducible exact H2_)|with_reducible exact H|(rw [hy151];exact H)|exact H);have Ny151 := aM hy151;clear hy151;have H' := aM H;clear H
    rotate_left
    focus
     rw [if_neg c8] at H;have c8b0 : ((bt a0 x7_1) == a1) = false := beq_eq_false_iff_ne.mpr c8;have c8b1 : ((bt a0 x7_1) != a1) = true := bne_iff_ne.mpr c8;have H' := aM H;clear H
   rotate_left 2
   focus
    rw [if_neg c5] at H;have c5b0 : decide (x7_1 < (a0.size : Int)) = false := dF c5;clear c5
    by_cases c14 : 0 ≤ x6_1
    rotate_left;rw [if_neg c14] at H;exact absurd H (by simp);rw [if_pos c14] at H;have c14b0 := eq_true c14;have c14b1 : decide (0 ≤ x6_1) = true := dT c14;clear c14
    by_cases c15 : x6_1 ≤ (a0.size : Int)
    rotate_left;rw [if_neg c15] at H;exact absurd H (by simp);rw [if_pos c15] at H;have c15b0 := eq_true c15;have c15b1 : decide (x6_1 ≤ (a0.size : Int)) = true := dT c15;clear c15
    by_cases c16 : x5_1.length < 8796093022208
    rotate_left;rw [if_neg c16] at H;exact absurd H (by simp);rw [if_pos c16] at H;have LMc16 := aM c16;clear c16;obtain ⟨y154,hy154⟩ : ∃ y_ : List ByteArray,y_ = (x5_1 ++ [a0.extract (x6_1 : Int).toNat a0.size]) := ⟨_,rfl⟩;replace H : (some y154) = some r := (by first|(rw [hy154];with_reducible exact H)|(have H2_ := (Option.bind_some _ _).symm.trans H;rw [hy154];with_reducible exact H2_)|(have H2_ := (Option.bind_some _ _).symm.trans H;with_reducible exact H2_)|with_reducible exact H|(rw [hy154];exact H)|exact H);have Ny154 := aM hy154;clear hy154;obtain rfl := Option.some.inj H;simp only [eS,eP] at H;obtain ⟨rfl⟩ := H
   all_goals
    (try (have p01 : 0 ≤ (x7_1 : Int) := oD (by assumption);have q01 : x7_1 < (a0.size : Int) := oD (by assumption);have hx01 := bt_at a0 x7_1;replace p01 := eq_true p01;replace q01 := eq_true q01));go_wp2_with (first|((with_reducible refine gate_builtin (b := .append) (xs := #[.tmp 29,.tmp 33]) rfl ?_);at_builtin;refine Kd.R_append Kd.string (w0 := w) w.heap.size rfl (.tmp 29) (.tmp 33) 50 9 (.string ⟨#[]⟩) 16 rfl Tryz.underlying50 info9 rfl (by decide) (by omega) u5 x5_1 (a0.extract (x6_1 : Int).toNat a0.size) [.string (a0.extract (x6_1 : Int).toNat a0.size)] (fun _ => True) (fun _ => False) rfl rfl ?aP (fun _ hk => hk.elim) ?aF ?aO ?aB ?aS ?aL ?_;(case aP => exact rfl);(case aB => exact wB_);(case aF => exact (fun _ _ => trivial));(case aO => exact (wO_ HO_5.out));(case aS => exact (lZ wB_));(case aL => have := LMc16.out;omega);intro v155 w17 ho hb hg hat;rw [← Ny154.out] at ho;have n0_ := aM (hb);have n1_ := aM (ho);clear HB;clear HO_5;have HB := n0_;have HO156 := n1_;clear n0_ n1_;clear ho hb hg hat)|((with_reducible refine gate_builtin (b := .append) (xs := #[.tmp 20,.tmp 25]) rfl ?_);at_builtin;refine Kd.R_append Kd.string (w0 := w) w.heap.size rfl (.tmp 20) (.tmp 25) 50 9 (.string ⟨#[]⟩) 16 rfl Tryz.underlying50 info9 rfl (by decide) (by omega) u5 x5_1 (a0.extract (x6_1 : Int).toNat (x7_1 : Int).toNat) [.string (a0.extract (x6_1 : Int).toNat (x7_1 : Int).toNat)] (fun _ => True) (fun _ => False) rfl rfl ?aP (fun _ hk => hk.elim) ?aF ?aO ?aB ?aS ?aL ?_;(case aP => exact rfl);(case aB => exact wB_);(case aF => exact (fun _ _ => trivial));(case aO => exact (wO_ HO_5.out));(case aS => exact (lZ wB_));(case aL => have := LMc12.out;omega);intro v152 w13 ho hb hg hat;rw [← Ny151.out] at ho;have n0_ := aM (hb);have n1_ := aM (ho);clear HB;clear HO_5;have HB := n0_;have HO153 := n1_;clear n0_ n1_;clear ho hb hg hat))
    first
     |
      go_ret;exact ⟨_,vR_,wO_ HO156.out,wB_⟩
     |
      go_roundg k1
      case measure => have := HK1.out;omega
      case rel => first|(exact ⟨(y151),(wrap64 (x7_1 + 1)),(wrap64 (x7_1 + 1)),vR_,vR_,H',⟨by have := HK1.out;omega⟩,⟨wO_ HO153.out⟩,⟨wB_⟩⟩)|(exact ⟨(x5_1),(x6_1),(wrap64 (x7_1 + 1)),vR_,vR_,H',⟨by have := HK1.out;omega⟩,⟨wO_ HO_5.out⟩,⟨wB_⟩⟩)
end Go.Proofs.YtmafmhgmdegplaaGreatDoor.P
