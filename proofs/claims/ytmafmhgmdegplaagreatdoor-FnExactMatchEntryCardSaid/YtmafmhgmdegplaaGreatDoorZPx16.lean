/- Written by a program in this session: each theorem here says that a Go function computes the Lean function beside it, or that a law's row holds, under the conditions that the theorem itself states. -/
import Derived.Test.YtmafmhgmdegplaaGreatDoorZPx0
import Derived.Test.YtmafmhgmdegplaaGreatDoorZPx13
namespace Go.Proofs.YtmafmhgmdegplaaGreatDoor.P
open Go.RowKit Go.Proofs.YtmafmhgmdegplaaGreatDoorW.PrintWords Go.Proofs.YtmafmhgmdegplaaGreatDoorW.PrintLast Go.Proofs.YtmafmhgmdegplaaGreatDoorW.PrintMore
attribute [local go_sem] max2_int min2_int max_two min_two max_three min_three max_four min_four   -- for this text's walks alone
set_option linter.unusedVariables false
set_option linter.unusedSimpArgs false
mutual
def impl_isKey.j0 : Nat → ByteArray → Bool → Option (Bool)
 | 0,_,_ => none
 | k + 1,x0,x13 => if x13 = true then (some false) else (impl_isKey.l0 k x0 0)
def impl_isKey.l0 : Nat → ByteArray → Int → Option (Bool)
 | 0,_,_ => none
 | k + 1,x0,x3 => if x3 < (x0.size : Int) then (if 0 ≤ x3 then ((impl_isLower.f (bt x0 x3)).bind fun t359 => (if t359 = true then (impl_isKey.l0 k x0 (wrap64 (x3 + 1))) else ((impl_isDigit.f (bt x0 x3)).bind fun t360 => (if t360 = true then (impl_isKey.l0 k x0 (wrap64 (x3 + 1))) else (some false))))) else (none)) else (some true)
end
def impl_isKey.f (k : Nat) (a0 : ByteArray) : Option (Bool) := (impl_inside.f (a0.size : Int) 1 10).bind fun t357 => (if t357 = true then (if 0 < (a0.size : Int) then ((impl_isLower.f (bt a0 0)).bind fun t358 => (impl_isKey.j0 k a0 (!t358))) else (none)) else (impl_isKey.j0 k a0 true))
theorem impl_isKey.mono_l : ∀ k,(∀ y0 y1,LeO (impl_isKey.j0 k y0 y1) (impl_isKey.j0 (k + 1) y0 y1)) ∧ (∀ y0 y1,LeO (impl_isKey.l0 k y0 y1) (impl_isKey.l0 (k + 1) y0 y1))
 | 0 => ⟨fun _ _ r h => by simp [impl_isKey.j0] at h,fun _ _ r h => by simp [impl_isKey.l0] at h⟩
 | k + 1 => by
  obtain ⟨ih0,ih1⟩ := impl_isKey.mono_l k
  refine ⟨?_,?_⟩
  all_goals (intros;first|unfold impl_isKey.j0|unfold impl_isKey.l0)
  all_goals repeat' (first|with_reducible (first|exact ih0 _ _|exact ih1 _ _|exact LeO.refl _|exact LeO.none _|refine LeO.ite ?_ ?_|refine LeO.bind ?_ (fun _ => ?_))|exact LeO.none _|refine LeO.ite ?_ ?_|refine LeO.bind ?_ (fun _ => ?_))
theorem impl_isKey.mono : ∀ a0 k,LeO (impl_isKey.f k a0) (impl_isKey.f (k + 1) a0) := by
 intro a0 k
 obtain ⟨ih0,ih1⟩ := impl_isKey.mono_l k
 unfold impl_isKey.f
 repeat' (first|with_reducible (first|exact ih0 _ _|exact ih1 _ _|exact LeO.refl _|exact LeO.none _|refine LeO.ite ?_ ?_|refine LeO.bind ?_ (fun _ => ?_))|exact LeO.none _|refine LeO.ite ?_ ?_|refine LeO.bind ?_ (fun _ => ?_))
set_option maxHeartbeats 8000000 in
set_option maxRecDepth 100000 in
theorem impl_isKey.calls (k : Nat) (a0 : ByteArray) (r : Bool) (w : World) (h : impl_isKey.f k a0 = some r) :
  Calls Tryz.prog 126 #[.string a0] w fun e w' => e = .returned (.bool r) ∧ Drawn0 w w' := by
 have H : ((impl_inside.f (a0.size : Int) 1 10).bind fun t357 => (if t357 = true then (if 0 < (a0.size : Int) then ((impl_isLower.f (bt a0 0)).bind fun t358 => (impl_isKey.j0 k a0 (!t358))) else (none)) else (impl_isKey.j0 k a0 true))) = some r := h;clear h;have HC2 := aM H;clear H;go_enter Tryz.func126,Tryz.ntmps126;go_upto_region 1 with (fail);go_cut [13] (fun v13 wc => ∃ (kq : Nat) (x13_1 : Bool),v13 = .bool x13_1 ∧ Aside0 (impl_isKey.j0 kq a0 x13_1 = some r) ∧ Aside0 (kq ≤ k) ∧ Drawn0 w wc)
 case first =>
  have H := HC2.out;clear HC2;obtain ⟨t357,A3,H⟩ := bE_ H
  by_cases c4 : t357 = true
  focus
   subst c4;rw [if_pos rfl] at H
   by_cases c5 : 0 < (a0.size : Int)
   rotate_left;rw [if_neg c5] at H;exact absurd H (by simp);rw [if_pos c5] at H;have c5b0 : decide (0 < (a0.size : Int)) = true := dT c5;have c5b1 : decide (0 < a0.size) = true := dT (by omega);clear c5;(first|rw [c5b0]|(simp only [i64_w,i32_w];rw [c5b0])|skip);obtain ⟨t358,A7,H⟩ := bE_ H;have H' := aM H;clear H
  rotate_left
  focus
   replace c4 := Bool.eq_false_iff.mpr c4;subst c4;rw [if_neg Bool.false_ne_true] at H;have H' := aM H;clear H
  all_goals
   go_wp2_with (first|((with_reducible refine gate_callee (f := 130) rfl ?_);refine gl_ (some 6) Tryz.func130 #[.int .i64 (a0.size : Int),.int .i64 1,.int .i64 10] ?_;(with_reducible refine (impl_inside.calls _ _ _ _ _ A3.out).mono ?_);rintro e w' ⟨rfl,⟨nd,rfl⟩⟩;refine ⟨_,rfl,?_⟩;have p01 : 0 ≤ (0 : Int) := (by omega);have q01 : 0 < a0.size := (by have : (0 : Int) < (a0.size : Int) := oD (by assumption);omega);have hx01 : ∀ h : 0 < a0.size,((a0[0]'h).toNat : Int) = bt a0 0 := bt_at a0 0;clear p01;have qi6 : (0 < (a0.size : Int)) = True := eq_true (oD (by assumption));replace q01 := eq_true q01)|((with_reducible refine gate_callee (f := 130) rfl ?_);refine gl_ (some 6) Tryz.func130 #[.int .i64 (a0.size : Int),.int .i64 1,.int .i64 10] ?_;(with_reducible refine (impl_inside.calls _ _ _ _ _ A3.out).mono ?_);rintro e w' ⟨rfl,⟨nd,rfl⟩⟩;refine ⟨_,rfl,?_⟩)|(go_at_call 153;(with_reducible refine (impl_isLower.calls _ _ _ A7.out).mono ?_);rintro e w' ⟨rfl,⟨nd,rfl⟩⟩));go_meet
   case rel => first|(exact ⟨_,(!t358),vR_,H',⟨by first|omega|exact Nat.le_refl _⟩,dw_⟩)|(exact ⟨_,(true),vR_,H',⟨by first|omega|exact Nat.le_refl _⟩,dw_⟩)
 case rest =>
  clear HC2;obtain ⟨kq,x13_1,rfl,HA,HJ1,⟨mc1,rfl⟩⟩ := hcut
  cases kq with
  | zero => exact absurd HA.out (by simp [impl_isKey.j0])
  | succ kj1 =>
   have H := HA.out;clear HA;simp only [impl_isKey.j0] at H
   by_cases c8 : x13_1 = true
   ·subst c8;rw [if_pos rfl] at H;obtain rfl := Option.some.inj H;simp only [eS,eP] at H;obtain ⟨rfl⟩ := H;go_wp2;go_ret;exact ⟨vR_,dw_⟩
   ·replace c8 := Bool.eq_false_iff.mpr c8;subst c8;rw [if_neg Bool.false_ne_true] at H;have H' := aM H;clear H;go_wp2;go_loopg [3] kj1 (fun kq v3 w' => ∃ (x3_2 : Int),v3 = .int .i64 x3_2 ∧ Aside0 (impl_isKey.l0 kq a0 x3_2 = some r) ∧ Aside0 (kq ≤ kj1) ∧ Drawn0 w w')
    case atStart => exact ⟨(0),vR_,H',⟨Nat.le_refl _⟩,dw_⟩
    case round =>
     clear H';obtain ⟨x3_2,rfl,HA,HK2,⟨m2,rfl⟩⟩ := hrel
     cases gk with
     | zero => exact absurd HA.out (by simp [impl_isKey.l0])
     | succ k2 =>
      have H := HA.out;clear HA;simp only [impl_isKey.l0] at H
      by_cases c9 : x3_2 < (a0.size : Int)
      focus
       rw [if_pos c9] at H;have c9b0 : decide (x3_2 < (a0.size : Int)) = true := dT c9;clear c9
       by_cases c10 : 0 ≤ x3_2
       rotate_left;rw [if_neg c10] at H;exact absurd H (by simp);rw [if_pos c10] at H;have c10b0 : decide (0 ≤ x3_2) = true := dT c10;clear c10;obtain ⟨t359,A12,H⟩ := bE_ H
       by_cases c13 : t359 = true
       focus
        subst c13;rw [if_pos rfl] at H;have H' := aM H;clear H
       rotate_left
       focus
        replace c13 := Bool.eq_false_iff.mpr c13;subst c13;rw [if_neg Bool.false_ne_true] at H;obtain ⟨t360,A15,H⟩ := bE_ H
        by_cases c16 : t360 = true
        focus
         subst c16;rw [if_pos rfl] at H;have H' := aM H;clear H
        rotate_left
        focus
         replace c16 := Bool.eq_false_iff.mpr c16;subst c16;rw [if_neg Bool.false_ne_true] at H;obtain rfl := Option.some.inj H;simp only [eS,eP] at H;obtain ⟨rfl⟩ := H
      rotate_left 3
      focus
       rw [if_neg c9] at H;have c9b0 : decide (x3_2 < (a0.size : Int)) = false := dF c9;clear c9;obtain rfl := Option.some.inj H;simp only [eS,eP] at H;obtain ⟨rfl⟩ := H
      all_goals
       (try (have p02 : 0 ≤ (x3_2 : Int) := oD (by assumption);have q02 : x3_2 < (a0.size : Int) := oD (by assumption);have hx02 := bt_at a0 x3_2;replace p02 := eq_true p02;replace q02 := eq_true q02));go_wp2_with (first|((with_reducible refine gate_callee (f := 153) rfl ?_);refine gl_ (some 23) Tryz.func153 #[.int .u8 (bt a0 x3_2)] ?_;(with_reducible refine (impl_isLower.calls _ _ _ A12.out).mono ?_);rintro e w' ⟨rfl,⟨nd,rfl⟩⟩;refine ⟨_,rfl,?_⟩;(try (have p02 : 0 ≤ (x3_2 : Int) := oD (by assumption);have q02 : x3_2 < (a0.size : Int) := oD (by assumption);have hx02 := bt_at a0 x3_2;replace p02 := eq_true p02;replace q02 := eq_true q02)))|(go_at_call 154;(with_reducible refine (impl_isDigit.calls _ _ _ A15.out).mono ?_);rintro e w' ⟨rfl,⟨nd,rfl⟩⟩))
       first
        |
         go_ret;exact ⟨vR_,dw_⟩
        |
         go_roundg k2
         case measure => have := HJ1.out;have := HK2.out;omega
         case rel => exact ⟨(wrap64 (x3_2 + 1)),vR_,H',⟨by have := HJ1.out;have := HK2.out;omega⟩,dw_⟩
def impl_isKind.f (a0 : Int) : Option (Bool) := (impl_inside.f a0 1 4).bind fun t361 => (some t361)
set_option maxHeartbeats 8000000 in
set_option maxRecDepth 100000 in
theorem impl_isKind.calls (a0 : Int) (r : Bool) (w : World) (h : impl_isKind.f a0 = some r) :
  Calls Tryz.prog 127 #[.int .i64 a0] w fun e w' => e = .returned (.bool r) ∧ Drawn0 w w' := by
 have H : ((impl_inside.f a0 1 4).bind fun t361 => (some t361)) = some r := h;clear h;obtain ⟨t361,A2,H⟩ := bE_ H;obtain rfl := Option.some.inj H;simp only [eS,eP] at H;obtain ⟨rfl⟩ := H;go_enter Tryz.func127,Tryz.ntmps127;go_wp2_with (first|((with_reducible refine gate_callee (f := 130) rfl ?_);refine gl_ (some 4) Tryz.func130 #[.int .i64 a0,.int .i64 1,.int .i64 4] ?_;(with_reducible refine (impl_inside.calls a0 1 4 t361 _ A2.out).mono ?_);rintro e w' ⟨rfl,⟨nd,rfl⟩⟩;refine ⟨_,rfl,?_⟩));go_ret;exact ⟨vR_,dw_⟩
def impl_isUpper.f (a0 : Int) : Option (Bool) := if a0 ≥ 65 then (some (decide (a0 ≤ 90))) else (some false)
set_option maxHeartbeats 8000000 in
set_option maxRecDepth 100000 in
theorem impl_isUpper.calls (a0 : Int) (r : Bool) (w : World) (h : impl_isUpper.f a0 = some r) :
  Calls Tryz.prog 229 #[.int .u8 a0] w fun e w' => e = .returned (.bool r) ∧ Drawn0 w w' := by
 have H : (if a0 ≥ 65 then (some (decide (a0 ≤ 90))) else (some false)) = some r := h;clear h
 by_cases c2 : a0 ≥ 65
 focus
  rw [if_pos c2] at H;have c2b0 : decide (65 ≤ a0) = true := dT c2;clear c2;obtain rfl := Option.some.inj H;simp only [eS,eP] at H;obtain ⟨rfl⟩ := H
 rotate_left
 focus
  rw [if_neg c2] at H;have c2b0 : decide (65 ≤ a0) = false := dF c2;clear c2;obtain rfl := Option.some.inj H;simp only [eS,eP] at H;obtain ⟨rfl⟩ := H
 all_goals
  go_enter Tryz.func229,Tryz.ntmps229;go_wp2;go_ret;exact ⟨vR_,dw_⟩
def impl_isLetter.f (a0 : Int) : Option (Bool) := (impl_isUpper.f a0).bind fun t362 => (if t362 = true then (some true) else ((impl_isLower.f a0).bind fun t363 => (some t363)))
set_option maxHeartbeats 8000000 in
set_option maxRecDepth 100000 in
theorem impl_isLetter.calls (a0 : Int) (r : Bool) (w : World) (h : impl_isLetter.f a0 = some r) :
  Calls Tryz.prog 245 #[.int .u8 a0] w fun e w' => e = .returned (.bool r) ∧ Drawn0 w w' := by
 have H : ((impl_isUpper.f a0).bind fun t362 => (if t362 = true then (some true) else ((impl_isLower.f a0).bind fun t363 => (some t363)))) = some r := h;clear h;obtain ⟨t362,A2,H⟩ := bE_ H
 by_cases c3 : t362 = true
 focus
  subst c3;rw [if_pos rfl] at H;obtain rfl := Option.some.inj H;simp only [eS,eP] at H;obtain ⟨rfl⟩ := H
 rotate_left
 focus
  replace c3 := Bool.eq_false_iff.mpr c3;subst c3;rw [if_neg Bool.false_ne_true] at H;obtain ⟨t363,A4,H⟩ := bE_ H;obtain rfl := Option.some.inj H;simp only [eS,eP] at H;obtain ⟨rfl⟩ := H
 all_goals
  go_enter Tryz.func245,Tryz.ntmps245;go_wp2_with (first|((with_reducible refine gate_callee (f := 229) rfl ?_);refine gl_ (some 4) Tryz.func229 #[.int .u8 a0] ?_;(with_reducible refine (impl_isUpper.calls _ _ _ A2.out).mono ?_);rintro e w' ⟨rfl,⟨nd,rfl⟩⟩;refine ⟨_,rfl,?_⟩)|(go_at_call 153;(with_reducible refine (impl_isLower.calls _ _ _ A4.out).mono ?_);rintro e w' ⟨rfl,⟨nd,rfl⟩⟩));go_ret;exact ⟨vR_,dw_⟩
mutual
def impl_isNameWord.j0 : Nat → ByteArray → Bool → Option (Bool)
 | 0,_,_ => none
 | k + 1,x0,x22 => if x22 = true then (some false) else (impl_isNameWord.l0 k x0 0)
def impl_isNameWord.l0 : Nat → ByteArray → Int → Option (Bool)
 | 0,_,_ => none
 | k + 1,x0,x3 => if x3 < (x0.size : Int) then (if 0 ≤ x3 then ((impl_isLetter.f (bt x0 x3)).bind fun t367 => (if t367 = true then (impl_isNameWord.l0 k x0 (wrap64 (x3 + 1))) else (if (bt x0 x3) = 45 then (if 0 ≤ (wrap64 (x3 - 1)) then (if (wrap64 (x3 - 1)) < (x0.size : Int) then ((impl_isLetter.f (bt x0 (wrap64 (x3 - 1)))).bind fun t368 => (if t368 = true then (impl_isNameWord.l0 k x0 (wrap64 (x3 + 1))) else (some false))) else (none)) else (none)) else (if (bt x0 x3) = 39 then (if 0 ≤ (wrap64 (x3 - 1)) then (if (wrap64 (x3 - 1)) < (x0.size : Int) then ((impl_isLetter.f (bt x0 (wrap64 (x3 - 1)))).bind fun t369 => (if t369 = true then (impl_isNameWord.l0 k x0 (wrap64 (x3 + 1))) else (some false))) else (none)) else (none)) else (some false))))) else (none)) else (some true)
end
def impl_isNameWord.f (k : Nat) (a0 : ByteArray) : Option (Bool) := (impl_inside.f (a0.size : Int) 1 12).bind fun t364 => (if t364 = true then (if 0 ≤ (wrap64 ((a0.size : Int) - 1)) then (if (wrap64 ((a0.size : Int) - 1)) < (a0.size : Int) then ((impl_isLetter.f (bt a0 (wrap64 ((a0.size : Int) - 1)))).bind fun t365 => (if t365 = true then (if 0 < (a0.size : Int) then ((impl_isLetter.f (bt a0 0)).bind fun t366 => (impl_isNameWord.j0 k a0 (!t366))) else (none)) else (impl_isNameWord.j0 k a0 true))) else (none)) else (none)) else (impl_isNameWord.j0 k a0 true))
theorem impl_isNameWord.mono_l : ∀ k,(∀ y0 y1,LeO (impl_isNameWord.j0 k y0 y1) (impl_isNameWord.j0 (k + 1) y0 y1)) ∧ (∀ y0 y1,LeO (impl_isNameWord.l0 k y0 y1) (impl_isNameWord.l0 (k + 1) y0 y1))
 | 0 => ⟨fun _ _ r h => by simp [impl_isNameWord.j0] at h,fun _ _ r h => by simp [impl_isNameWord.l0] at h⟩
 | k + 1 => by
  obtain ⟨ih0,ih1⟩ := impl_isNameWord.mono_l k
  refine ⟨?_,?_⟩
  all_goals (intros;first|unfold impl_isNameWord.j0|unfold impl_isNameWord.l0)
  all_goals repeat' (first|with_reducible (first|exact ih0 _ _|exact ih1 _ _|exact LeO.refl _|exact LeO.none _|refine LeO.ite ?_ ?_|refine LeO.bind ?_ (fun _ => ?_))|exact LeO.none _|refine LeO.ite ?_ ?_|refine LeO.bind ?_ (fun _ => ?_))
theorem impl_isNameWord.mono : ∀ a0 k,LeO (impl_isNameWord.f k a0) (impl_isNameWord.f (k + 1) a0) := by
 intro a0 k
 obtain ⟨ih0,ih1⟩ := impl_isNameWord.mono_l k
 unfold impl_isNameWord.f
 repeat' (first|with_reducible (first|exact ih0 _ _|exact ih1 _ _|exact LeO.refl _|exact LeO.none _|refine LeO.ite ?_ ?_|refine LeO.bind ?_ (fun _ => ?_))|exact LeO.none _|refine LeO.ite ?_ ?_|refine LeO.bind ?_ (fun _ => ?_))
set_option maxHeartbeats 8000000 in
set_option maxRecDepth 100000 in
theorem impl_isNameWord.calls (k : Nat) (a0 : ByteArray) (r : Bool) (w : World) (h : impl_isNameWord.f k a0 = some r) :
  Calls Tryz.prog 217 #[.string a0] w fun e w' => e = .returned (.bool r) ∧ Drawn0 w w' := by
 have H : ((impl_inside.f (a0.size : Int) 1 12).bind fun t364 => (if t364 = true then (if 0 ≤ (wrap64 ((a0.size : Int) - 1)) then (if (wrap64 ((a0.size : Int) - 1)) < (a0.size : Int) then ((impl_isLetter.f (bt a0 (wrap64 ((a0.size : Int) - 1)))).bind fun t365 => (if t365 = true then (if 0 < (a0.size : Int) then ((impl_isLetter.f (bt a0 0)).bind fun t366 => (impl_isNameWord.j0 k a0 (!t366))) else (none)) else (impl_isNameWord.j0 k a0 true))) else (none)) else (none)) else (impl_isNameWord.j0 k a0 true))) = some r := h;clear h;have HC2 := aM H;clear H;go_enter Tryz.func217,Tryz.ntmps217;go_upto_region 1 with (fail);go_cut [22] (fun v22 wc => ∃ (kq : Nat) (x22_1 : Bool),v22 = .bool x22_1 ∧ Aside0 (impl_isNameWord.j0 kq a0 x22_1 = some r) ∧ Aside0 (kq ≤ k) ∧ Drawn0 w wc)
 case first =>
  have H := HC2.out;clear HC2;obtain ⟨t364,A3,H⟩ := bE_ H
  by_cases c4 : t364 = true
  focus
   subst c4;rw [if_pos rfl] at H;obtain ⟨ji5,hji5⟩ : ∃ j_ : Int,(wrap64 ((a0.size : Int) - 1)) = j_ := ⟨_,rfl⟩;replace H : (if 0 ≤ (ji5) then (if (ji5) < (a0.size : Int) then ((impl_isLetter.f (bt a0 (ji5))).bind fun t365 => (if t365 = true then (if 0 < (a0.size : Int) then ((impl_isLetter.f (bt a0 0)).bind fun t366 => (impl_isNameWord.j0 k a0 (!t366))) else (none)) else (impl_isNameWord.j0 k a0 true))) else (none)) else (none)) = some r := (by first|(rw [hji5] at H;exact H)|(simp only [hji5] at H ⊢;exact H));(try rw [hji5] at A3);have hji5w : (IntKind.i64.wrap ((a0.size : Int) - 1)) = ji5 := (i64_w _).trans hji5
   by_cases c6 : 0 ≤ (ji5)
   rotate_left;rw [if_neg c6] at H;exact absurd H (by simp);rw [if_pos c6] at H;have c6b0 : decide (0 ≤ (ji5)) = true := dT c6;clear c6;(first|rw [c6b0]|(simp only [i64_w,i32_w];rw [c6b0])|skip)
   by_cases c7 : (ji5) < (a0.size : Int)
   rotate_left;rw [if_neg c7] at H;exact absurd H (by simp);rw [if_pos c7] at H;have c7b0 : decide ((ji5) < (a0.size : Int)) = true := dT c7;clear c7;obtain ⟨t365,A9,H⟩ := bE_ H
   by_cases c10 : t365 = true
   focus
    subst c10;rw [if_pos rfl] at H
    by_cases c11 : 0 < (a0.size : Int)
    rotate_left;rw [if_neg c11] at H;exact absurd H (by simp);rw [if_pos c11] at H;have c11b0 : decide (0 < (a0.size : Int)) = true := dT c11;have c11b1 : decide (0 < a0.size) = true := dT (by omega);clear c11;obtain ⟨t366,A13,H⟩ := bE_ H;have H' := aM H;clear H
   rotate_left
   focus
    replace c10 := Bool.eq_false_iff.mpr c10;subst c10;rw [if_neg Bool.false_ne_true] at H;have H' := aM H;clear H
  rotate_left 2
  focus
   replace c4 := Bool.eq_false_iff.mpr c4;subst c4;rw [if_neg Bool.false_ne_true] at H;have H' := aM H;clear H
  all_goals
   go_wp2_with (first|((with_reducible refine gate_callee (f := 130) rfl ?_);refine gl_ (some 6) Tryz.func130 #[.int .i64 (a0.size : Int),.int .i64 1,.int .i64 12] ?_;(with_reducible refine (impl_inside.calls _ _ _ _ _ A3.out).mono ?_);rintro e w' ⟨rfl,⟨nd,rfl⟩⟩;refine ⟨_,rfl,?_⟩;(try (have p01 : 0 ≤ ((ji5) : Int) := oD (by assumption);have q01 : (ji5) < (a0.size : Int) := oD (by assumption);have hx01 := bt_at a0 (ji5);replace p01 := eq_true p01;replace q01 := eq_true q01)))|(go_at_call 245;(with_reducible refine (impl_isLetter.calls _ _ _ A9.out).mono ?_);rintro e w' ⟨rfl,⟨nd,rfl⟩⟩;have p02 : 0 ≤ (0 : Int) := (by omega);have q02 : 0 < a0.size := (by have : (0 : Int) < (a0.size : Int) := oD (by assumption);omega);have hx02 : ∀ h : 0 < a0.size,((a0[0]'h).toNat : Int) = bt a0 0 := bt_at a0 0;clear p02;have qi12 : (0 < (a0.size : Int)) = True := eq_true (oD (by assumption));replace q02 := eq_true q02)|(go_at_call 245;(with_reducible refine (impl_isLetter.calls _ _ _ A9.out).mono ?_);rintro e w' ⟨rfl,⟨nd,rfl⟩⟩)|(go_at_call 245;(with_reducible refine (impl_isLetter.calls _ _ _ A13.out).mono ?_);rintro e w' ⟨rfl,⟨nd,rfl⟩⟩));go_meet
   case rel => first|(exact ⟨_,(!t366),vR_,H',⟨by first|omega|exact Nat.le_refl _⟩,dw_⟩)|(exact ⟨_,(true),vR_,H',⟨by first|omega|exact Nat.le_refl _⟩,dw_⟩)
 case rest =>
  clear HC2;obtain ⟨kq,x22_1,rfl,HA,HJ1,⟨mc1,rfl⟩⟩ := hcut
  cases kq with
  | zero => exact absurd HA.out (by simp [impl_isNameWord.j0])
  | succ kj1 =>
   have H := HA.out;clear HA;simp only [impl_isNameWord.j0] at H
   by_cases c14 : x22_1 = true
   ·subst c14;rw [if_pos rfl] at H;obtain rfl := Option.some.inj H;simp only [eS,eP] at H;obtain ⟨rfl⟩ := H;go_wp2;go_ret;exact ⟨vR_,dw_⟩
   ·replace c14 := Bool.eq_false_iff.mpr c14;subst c14;rw [if_neg Bool.false_ne_true] at H;have H' := aM H;clear H;go_wp2;go_loopg [3] kj1 (fun kq v3 w' => ∃ (x3_2 : Int),v3 = .int .i64 x3_2 ∧ Aside0 (impl_isNameWord.l0 kq a0 x3_2 = some r) ∧ Aside0 (kq ≤ kj1) ∧ Drawn0 w w')
    case atStart => exact ⟨(0),vR_,H',⟨Nat.le_refl _⟩,dw_⟩
    case round =>
     clear H';obtain ⟨x3_2,rfl,HA,HK2,⟨m2,rfl⟩⟩ := hrel
     cases gk with
     | zero => exact absurd HA.out (by simp [impl_isNameWord.l0])
     | succ k2 =>
      have H := HA.out;clear HA;simp only [impl_isNameWord.l0] at H
      by_cases c15 : x3_2 < (a0.size : Int)
      focus
       rw [if_pos c15] at H;have c15b0 : decide (x3_2 < (a0.size : Int)) = true := dT c15;clear c15
       by_cases c16 : 0 ≤ x3_2
       rotate_left;rw [if_neg c16] at H;exact absurd H (by simp);rw [if_pos c16] at H;have c16b0 : decide (0 ≤ x3_2) = true := dT c16;clear c16;obtain ⟨t367,A18,H⟩ := bE_ H
       by_cases c19 : t367 = true
       focus
        subst c19;rw [if_pos rfl] at H;have H' := aM H;clear H
       rotate_left
       focus
        replace c19 := Bool.eq_false_iff.mpr c19;subst c19;rw [if_neg Bool.false_ne_true] at H
        by_cases c21 : (bt a0 x3_2) = 45
        focus
         rw [if_pos c21] at H;have c21b0 : ((bt a0 x3_2) == 45) = true := beq_iff_eq.mpr c21;have c21b1 : ((bt a0 x3_2) != 45) = false := bne_eq_false_iff_eq.mpr c21;clear c21;obtain ⟨ji22,hji22⟩ : ∃ j_ : Int,(wrap64 (x3_2 - 1)) = j_ := ⟨_,rfl⟩;replace H : (if 0 ≤ (ji22) then (if (ji22) < (a0.size : Int) then ((impl_isLetter.f (bt a0 (ji22))).bind fun t368 => (if t368 = true then (impl_isNameWord.l0 k2 a0 (wrap64 (x3_2 + 1))) else (some false))) else (none)) else (none)) = some r := (by first|(rw [hji22] at H;exact H)|(simp only [hji22] at H ⊢;exact H));(try rw [hji22] at A18);have hji22w : (IntKind.i64.wrap (x3_2 - 1)) = ji22 := (i64_w _).trans hji22
         by_cases c23 : 0 ≤ (ji22)
         rotate_left;rw [if_neg c23] at H;exact absurd H (by simp);rw [if_pos c23] at H;have c23b0 : decide (0 ≤ (ji22)) = true := dT c23;clear c23
         by_cases c24 : (ji22) < (a0.size : Int)
         rotate_left;rw [if_neg c24] at H;exact absurd H (by simp);rw [if_pos c24] at H;have c24b0 : decide ((ji22) < (a0.size : Int)) = true := dT c24;clear c24;obtain ⟨t368,A26,H⟩ := bE_ H
         by_cases c27 : t368 = true
         focus
          subst c27;rw [if_pos rfl] at H;have H' := aM H;clear H
         rotate_left
         focus
          replace c27 := Bool.eq_false_iff.mpr c27;subst c27;rw [if_neg Bool.false_ne_true] at H;obtain rfl := Option.some.inj H;simp only [eS,eP] at H;obtain ⟨rfl⟩ := H
        rotate_left 2
        focus
         rw [if_neg c21] at H;have c21b0 : ((bt a0 x3_2) == 45) = false := beq_eq_false_iff_ne.mpr c21;have c21b1 : ((bt a0 x3_2) != 45) = true := bne_iff_ne.mpr c21
         by_cases c29 : (bt a0 x3_2) = 39
         focus
          rw [if_pos c29] at H;have c29b0 : ((bt a0 x3_2) == 39) = true := beq_iff_eq.mpr c29;have c29b1 : ((bt a0 x3_2) != 39) = false := bne_eq_false_iff_eq.mpr c29;clear c29;obtain ⟨ji30,hji30⟩ : ∃ j_ : Int,(wrap64 (x3_2 - 1)) = j_ := ⟨_,rfl⟩;replace H : (if 0 ≤ (ji30) then (if (ji30) < (a0.size : Int) then ((impl_isLetter.f (bt a0 (ji30))).bind fun t369 => (if t369 = true then (impl_isNameWord.l0 k2 a0 (wrap64 (x3_2 + 1))) else (some false))) else (none)) else (none)) = some r := (by first|(rw [hji30] at H;exact H)|(simp only [hji30] at H ⊢;exact H));(try rw [hji30] at A18);have hji30w : (IntKind.i64.wrap (x3_2 - 1)) = ji30 := (i64_w _).trans hji30
          by_cases c31 : 0 ≤ (ji30)
          rotate_left;rw [if_neg c31] at H;exact absurd H (by simp);rw [if_pos c31] at H;have c31b0 : decide (0 ≤ (ji30)) = true := dT c31;clear c31
          by_cases c32 : (ji30) < (a0.size : Int)
          rotate_left;rw [if_neg c32] at H;exact absurd H (by simp);rw [if_pos c32] at H;have c32b0 : decide ((ji30) < (a0.size : Int)) = true := dT c32;clear c32;obtain ⟨t369,A34,H⟩ := bE_ H
          by_cases c35 : t369 = true
          focus
           subst c35;rw [if_pos rfl] at H;have H' := aM H;clear H
          rotate_left
          focus
           replace c35 := Bool.eq_false_iff.mpr c35;subst c35;rw [if_neg Bool.false_ne_true] at H;obtain rfl := Option.some.inj H;simp only [eS,eP] at H;obtain ⟨rfl⟩ := H
         rotate_left 2
         focus
          rw [if_neg c29] at H;have c29b0 : ((bt a0 x3_2) == 39) = false := beq_eq_false_iff_ne.mpr c29;have c29b1 : ((bt a0 x3_2) != 39) = true := bne_iff_ne.mpr c29;obtain rfl := Option.some.inj H;simp only [eS,eP] at H;obtain ⟨rfl⟩ := H
      rotate_left 6
      focus
       rw [if_neg c15] at H;have c15b0 : decide (x3_2 < (a0.size : Int)) = false := dF c15;clear c15;obtain rfl := Option.some.inj H;simp only [eS,eP] at H;obtain ⟨rfl⟩ := H
      all_goals
       (try (have p03 : 0 ≤ (x3_2 : Int) := oD (by assumption);have q03 : x3_2 < (a0.size : Int) := oD (by assumption);have hx03 := bt_at a0 x3_2;replace p03 := eq_true p03;replace q03 := eq_true q03));go_wp2_with (first|((with_reducible refine gate_callee (f := 245) rfl ?_);refine gl_ (some 32) Tryz.func245 #[.int .u8 (bt a0 x3_2)] ?_;(with_reducible refine (impl_isLetter.calls _ _ _ A18.out).mono ?_);rintro e w' ⟨rfl,⟨nd,rfl⟩⟩;refine ⟨_,rfl,?_⟩;(try (have p03 : 0 ≤ (x3_2 : Int) := oD (by assumption);have q03 : x3_2 < (a0.size : Int) := oD (by assumption);have hx03 := bt_at a0 x3_2;replace p03 := eq_true p03;replace q03 := eq_true q03));(try (have p04 : 0 ≤ ((ji22) : Int) := oD (by assumption);have q04 : (ji22) < (a0.size : Int) := oD (by assumption);have hx04 := bt_at a0 (ji22);replace p04 := eq_true p04;replace q04 := eq_true q04));(try (have p05 : 0 ≤ ((ji30) : Int) := oD (by assumption);have q05 : (ji30) < (a0.size : Int) := oD (by assumption);have hx05 := bt_at a0 (ji30);replace p05 := eq_true p05;replace q05 := eq_true q05)))|(go_at_call 245;(with_reducible refine (impl_isLetter.calls _ _ _ A34.out).mono ?_);rintro e w' ⟨rfl,⟨nd,rfl⟩⟩)|(go_at_call 245;(with_reducible refine (impl_isLetter.calls _ _ _ A26.out).mono ?_);rintro e w' ⟨rfl,⟨nd,rfl⟩⟩))
       first
        |
         go_roundg k2
         case measure => have := HJ1.out;have := HK2.out;omega
         case rel => exact ⟨(wrap64 (x3_2 + 1)),vR_,H',⟨by have := HJ1.out;have := HK2.out;omega⟩,dw_⟩
        |
         go_ret;(first|exact ⟨by first|rfl|(simp;done)|(simp [my_isEmpty];done)|(simp only [← hji22] <;> (first|rfl|simp))|(simp [*];done),dw_⟩|exact ⟨by first|rfl|(simp;done)|(simp [my_isEmpty];done)|(simp only [← hji30] <;> (first|rfl|simp))|(simp [*];done),dw_⟩|exact ⟨vR_,dw_⟩)
def impl_isGreatWord.f (k : Nat) (a0 : ByteArray) : Option (Bool) := (impl_isNameWord.f k a0).bind fun t370 => (if t370 = true then (if 0 < (a0.size : Int) then ((impl_isUpper.f (bt a0 0)).bind fun t371 => (some t371)) else (none)) else (some false))
theorem impl_isGreatWord.mono : ∀ a0 k,LeO (impl_isGreatWord.f k a0) (impl_isGreatWord.f (k + 1) a0) := by
 intro a0 k
 unfold impl_isGreatWord.f
 repeat' (first|with_reducible (first|exact impl_isNameWord.mono _ _|exact LeO.refl _|exact LeO.none _|refine LeO.ite ?_ ?_|refine LeO.bind ?_ (fun _ => ?_))|exact LeO.none _|refine LeO.ite ?_ ?_|refine LeO.bind ?_ (fun _ => ?_))
set_option maxHeartbeats 8000000 in
set_option maxRecDepth 100000 in
theorem impl_isGreatWord.calls (k : Nat) (a0 : ByteArray) (r : Bool) (w : World) (h : impl_isGreatWord.f k a0 = some r) :
  Calls Tryz.prog 215 #[.string a0] w fun e w' => e = .returned (.bool r) ∧ Drawn0 w w' := by
 have H : ((impl_isNameWord.f k a0).bind fun t370 => (if t370 = true then (if 0 < (a0.size : Int) then ((impl_isUpper.f (bt a0 0)).bind fun t371 => (some t371)) else (none)) else (some false))) = some r := h;clear h;obtain ⟨t370,A2,H⟩ := bE_ H
 by_cases c3 : t370 = true
 focus
  subst c3;rw [if_pos rfl] at H
  by_cases c4 : 0 < (a0.size : Int)
  rotate_left;rw [if_neg c4] at H;exact absurd H (by simp);rw [if_pos c4] at H;have c4b0 : decide (0 < (a0.size : Int)) = true := dT c4;have c4b1 : decide (0 < a0.size) = true := dT (by omega);clear c4;obtain ⟨t371,A6,H⟩ := bE_ H;obtain rfl := Option.some.inj H;simp only [eS,eP] at H;obtain ⟨rfl⟩ := H
 rotate_left
 focus
  replace c3 := Bool.eq_false_iff.mpr c3;subst c3;rw [if_neg Bool.false_ne_true] at H;obtain rfl := Option.some.inj H;simp only [eS,eP] at H;obtain ⟨rfl⟩ := H
 all_goals
  go_enter Tryz.func215,Tryz.ntmps215;go_wp2_with (first|((with_reducible refine gate_callee (f := 217) rfl ?_);refine gl_ (some 4) Tryz.func217 #[.string a0] ?_;(with_reducible refine (impl_isNameWord.calls _ _ _ _ A2.out).mono ?_);rintro e w' ⟨rfl,⟨nd,rfl⟩⟩;refine ⟨_,rfl,?_⟩;have p01 : 0 ≤ (0 : Int) := (by omega);have q01 : 0 < a0.size := (by have : (0 : Int) < (a0.size : Int) := oD (by assumption);omega);have hx01 : ∀ h : 0 < a0.size,((a0[0]'h).toNat : Int) = bt a0 0 := bt_at a0 0;clear p01;have qi5 : (0 < (a0.size : Int)) = True := eq_true (oD (by assumption));replace q01 := eq_true q01)|((with_reducible refine gate_callee (f := 217) rfl ?_);refine gl_ (some 4) Tryz.func217 #[.string a0] ?_;(with_reducible refine (impl_isNameWord.calls _ _ _ _ A2.out).mono ?_);rintro e w' ⟨rfl,⟨nd,rfl⟩⟩;refine ⟨_,rfl,?_⟩)|(go_at_call 229;(with_reducible refine (impl_isUpper.calls _ _ _ A6.out).mono ?_);rintro e w' ⟨rfl,⟨nd,rfl⟩⟩));go_ret;exact ⟨vR_,dw_⟩
def impl_IsValidName_1.f (k : Nat) (a0 : ByteArray) : Option (Bool) := (impl_isGreatWord.f k a0).bind fun t372 => (some (!t372))
theorem impl_IsValidName_1.mono : ∀ a0 k,LeO (impl_IsValidName_1.f k a0) (impl_IsValidName_1.f (k + 1) a0) := by
 intro a0 k
 unfold impl_IsValidName_1.f
 repeat' (first|with_reducible (first|exact impl_isGreatWord.mono _ _|exact LeO.refl _|exact LeO.none _|refine LeO.ite ?_ ?_|refine LeO.bind ?_ (fun _ => ?_))|exact LeO.none _|refine LeO.ite ?_ ?_|refine LeO.bind ?_ (fun _ => ?_))
set_option maxHeartbeats 8000000 in
set_option maxRecDepth 100000 in
theorem impl_IsValidName_1.calls (k : Nat) (a0 : ByteArray) (r : Bool) (w : World) (h : impl_IsValidName_1.f k a0 = some r) :
  Calls Tryz.prog 214 #[.string a0] w fun e w' => e = .returned (.bool r) ∧ Drawn0 w w' := by
 have H : ((impl_isGreatWord.f k a0).bind fun t372 => (some (!t372))) = some r := h;clear h;obtain ⟨t372,A2,H⟩ := bE_ H;obtain rfl := Option.some.inj H;simp only [eS,eP] at H;obtain ⟨rfl⟩ := H;go_enter Tryz.func214,Tryz.ntmps214;go_wp2_with (first|((with_reducible refine gate_callee (f := 215) rfl ?_);refine gl_ (some 4) Tryz.func215 #[.string a0] ?_;(with_reducible refine (impl_isGreatWord.calls k a0 t372 _ A2.out).mono ?_);rintro e w' ⟨rfl,⟨nd,rfl⟩⟩;refine ⟨_,rfl,?_⟩));go_ret;exact ⟨vR_,dw_⟩
end Go.Proofs.YtmafmhgmdegplaaGreatDoor.P
