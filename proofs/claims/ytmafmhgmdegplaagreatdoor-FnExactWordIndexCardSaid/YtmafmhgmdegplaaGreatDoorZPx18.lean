/- Walks: each Go function computes the Lean function beside it; conditions: those of each theorem. -/
import Derived.Test.YtmafmhgmdegplaaGreatDoorZPx0
import Derived.Lib.SplitLaws
import Derived.Test.YtmafmhgmdegplaaGreatDoorZShelf
namespace Go.Proofs.YtmafmhgmdegplaaGreatDoor.P
open Go.RowKit Go.Proofs.YtmafmhgmdegplaaGreatDoorW.PrintWords Go.Proofs.YtmafmhgmdegplaaGreatDoorW.PrintLast Go.Proofs.YtmafmhgmdegplaaGreatDoorW.PrintMore
attribute [local go_sem] max2_int min2_int max_two min_two max_three min_three max_four min_four   -- for this text's walks alone
set_option linter.unusedVariables false
set_option linter.unusedSimpArgs false
set_option maxHeartbeats 8000000
set_option maxRecDepth 100000
def Fa5.f (a0 : Int) (a1 : Int) (a2 : Int) : Option (Bool) := if a0 ≥ a1 then (some (decide (a0 ≤ a2))) else (some false)
theorem Fa5.calls (a0 : Int) (a1 : Int) (a2 : Int) (r : Bool) (w : World) (h : Fa5.f a0 a1 a2 = some r) :
  Calls Tryz.prog 130 #[.int .i64 a0,.int .i64 a1,.int .i64 a2] w fun e w' => e = .returned (.bool r) ∧ Drawn0 w w' := by
 have H : (if a0 ≥ a1 then (some (decide (a0 ≤ a2))) else (some false)) = some r := h;clear h
 by_cases c4 : a0 ≥ a1
 focus
  rw [if_pos c4] at H;have aa : decide (a1 ≤ a0) = true := dT c4;clear c4;obtain rfl := oI H
 rotate_left
 focus
  rw [if_neg c4] at H;have aa : decide (a1 ≤ a0) = false := dF c4;clear c4;obtain rfl := oI H
 all_goals
  go_enter Tryz.func130,Tryz.ntmps130;go_wp2;go_ret;exact ⟨vR_,dw_⟩
def Fbg.f (a0 : Int) : Option (Bool) := if a0 ≥ 97 then (some (decide (a0 ≤ 122))) else (some false)
theorem Fbg.calls (a0 : Int) (r : Bool) (w : World) (h : Fbg.f a0 = some r) :
  Calls Tryz.prog 153 #[.int .u8 a0] w fun e w' => e = .returned (.bool r) ∧ Drawn0 w w' := by
 have H : (if a0 ≥ 97 then (some (decide (a0 ≤ 122))) else (some false)) = some r := h;clear h
 by_cases c2 : a0 ≥ 97
 focus
  rw [if_pos c2] at H;have aa : decide (97 ≤ a0) = true := dT c2;clear c2;obtain rfl := oI H
 rotate_left
 focus
  rw [if_neg c2] at H;have aa : decide (97 ≤ a0) = false := dF c2;clear c2;obtain rfl := oI H
 all_goals
  go_enter Tryz.func153,Tryz.ntmps153;go_wp2;go_ret;exact ⟨vR_,dw_⟩
def FbE.f (a0 : Int) : Option (Bool) := if a0 ≥ 48 then (some (decide (a0 ≤ 57))) else (some false)
theorem FbE.calls (a0 : Int) (r : Bool) (w : World) (h : FbE.f a0 = some r) :
  Calls Tryz.prog 154 #[.int .u8 a0] w fun e w' => e = .returned (.bool r) ∧ Drawn0 w w' := by
 have H : (if a0 ≥ 48 then (some (decide (a0 ≤ 57))) else (some false)) = some r := h;clear h
 by_cases c2 : a0 ≥ 48
 focus
  rw [if_pos c2] at H;have aa : decide (48 ≤ a0) = true := dT c2;clear c2;obtain rfl := oI H
 rotate_left
 focus
  rw [if_neg c2] at H;have aa : decide (48 ≤ a0) = false := dF c2;clear c2;obtain rfl := oI H
 all_goals
  go_enter Tryz.func154,Tryz.ntmps154;go_wp2;go_ret;exact ⟨vR_,dw_⟩
mutual
def FaE.j0 : Nat → ByteArray → Bool → Option (Bool)
 | 0,_,_ => none
 | k + 1,x0,aa => if aa = true then (some false) else (FaE.l0 k x0 0)
def FaE.l0 : Nat → ByteArray → Int → Option (Bool)
 | 0,_,_ => none
 | k + 1,x0,x3 => if x3 < (x0.size : Int) then (if 0 ≤ x3 then ((Fbg.f (bt x0 x3)).bind fun aa => (if aa = true then (FaE.l0 k x0 (wrap64 (x3 + 1))) else ((FbE.f (bt x0 x3)).bind fun ab => (if ab = true then (FaE.l0 k x0 (wrap64 (x3 + 1))) else (some false))))) else (none)) else (some true)
end
def FaE.f (k : Nat) (a0 : ByteArray) : Option (Bool) := (Fa5.f (a0.size : Int) 1 10).bind fun aa => (if aa = true then (if 0 < (a0.size : Int) then ((Fbg.f (bt a0 0)).bind fun ab => (FaE.j0 k a0 (!ab))) else (none)) else (FaE.j0 k a0 true))
theorem FaE.mono_l : ∀ k,(∀ y0 y1,LeO (FaE.j0 k y0 y1) (FaE.j0 (k + 1) y0 y1)) ∧ (∀ y0 y1,LeO (FaE.l0 k y0 y1) (FaE.l0 (k + 1) y0 y1))
 | 0 => ⟨fun _ _ r h => by simp [FaE.j0] at h,fun _ _ r h => by simp [FaE.l0] at h⟩
 | k + 1 => by
  obtain ⟨ih0,ih1⟩ := FaE.mono_l k
  refine ⟨?_,?_⟩
  all_goals (intros;first|unfold FaE.j0|unfold FaE.l0)
  all_goals repeat' (first|with_reducible (first|exact ih0 _ _|exact ih1 _ _|exact LeO.refl _|exact LeO.none _|refine LeO.ite ?_ ?_|refine LeO.bind ?_ (fun _ => ?_))|exact LeO.none _|refine LeO.ite ?_ ?_|refine LeO.bind ?_ (fun _ => ?_))
theorem FaE.mono : ∀ a0 k,LeO (FaE.f k a0) (FaE.f (k + 1) a0) := by
 intro a0 k
 obtain ⟨ih0,ih1⟩ := FaE.mono_l k
 unfold FaE.f
 repeat' (first|with_reducible (first|exact ih0 _ _|exact ih1 _ _|exact LeO.refl _|exact LeO.none _|refine LeO.ite ?_ ?_|refine LeO.bind ?_ (fun _ => ?_))|exact LeO.none _|refine LeO.ite ?_ ?_|refine LeO.bind ?_ (fun _ => ?_))
theorem FaE.calls (k : Nat) (a0 : ByteArray) (r : Bool) (w : World) (h : FaE.f k a0 = some r) :
  Calls Tryz.prog 126 #[.string a0] w fun e w' => e = .returned (.bool r) ∧ Drawn0 w w' := by
 have H : ((Fa5.f (a0.size : Int) 1 10).bind fun ac => (if ac = true then (if 0 < (a0.size : Int) then ((Fbg.f (bt a0 0)).bind fun ad => (FaE.j0 k a0 (!ad))) else (none)) else (FaE.j0 k a0 true))) = some r := h;clear h;have HC2 := aM H;clear H;go_enter Tryz.func126,Tryz.ntmps126;go_upto_region 1 with (fail);go_cut [13] (fun ak wc => ∃ (kq : Nat) (ab : Bool),ak = .bool ab ∧ Aside0 (FaE.j0 kq a0 ab = some r) ∧ Aside0 (kq ≤ k) ∧ Drawn0 w wc)
 case first =>
  have H := HC2.out;clear HC2;obtain ⟨ac,A3,H⟩ := bE_ H
  by_cases c4 : ac = true
  focus
   subst c4;rw [if_pos rfl] at H
   by_cases c5 : 0 < (a0.size : Int)
   rotate_left;rw [if_neg c5] at H;exact nH_ H;rw [if_pos c5] at H;have ae := dT c5;have c5b1 : decide (0 < a0.size) = true := dT (by omega);clear c5;(first|rw [ae]|(simp only [i64_w,i32_w];rw [ae])|skip);obtain ⟨ad,A7,H⟩ := bE_ H;have H' := aM H;clear H
  rotate_left
  focus
   replace c4 := qO.mpr c4;subst c4;rw [if_neg qT] at H;have H' := aM H;clear H
  all_goals
   go_wp2_with (first|((with_reducible refine gate_callee (f := 130) rfl ?_);refine gl_ (some 6) Tryz.func130 #[.int .i64 (a0.size : Int),.int .i64 1,.int .i64 10] ?_;(with_reducible refine (Fa5.calls _ _ _ _ _ A3.out).mono ?_);rintro e w' ⟨rfl,⟨nd,rfl⟩⟩;refine ⟨_,rfl,?_⟩;have p01 : 0 ≤ (0 : Int) := (by omega);have q01 : 0 < a0.size := (by have : (0 : Int) < (a0.size : Int) := oD (by assumption);omega);have hx01 : ∀ h : 0 < a0.size,((a0[0]'h).toNat : Int) = bt a0 0 := bt_at a0 0;clear p01;have qi6 : (0 < (a0.size : Int)) = True := eq_true (oD (by assumption));replace q01 := eq_true q01)|((with_reducible refine gate_callee (f := 130) rfl ?_);refine gl_ (some 6) Tryz.func130 #[.int .i64 (a0.size : Int),.int .i64 1,.int .i64 10] ?_;(with_reducible refine (Fa5.calls _ _ _ _ _ A3.out).mono ?_);rintro e w' ⟨rfl,⟨nd,rfl⟩⟩;refine ⟨_,rfl,?_⟩)|(go_at_call 153;(with_reducible refine (Fbg.calls _ _ _ A7.out).mono ?_);rintro e w' ⟨rfl,⟨nd,rfl⟩⟩));go_meet
   case rel => first|(exact ⟨_,(!ad),vR_,H',⟨by first|omega|exact Nat.le_refl _⟩,dw_⟩)|(exact ⟨_,(true),vR_,H',⟨by first|omega|exact Nat.le_refl _⟩,dw_⟩)
 case rest =>
  clear HC2;obtain ⟨kq,ab,rfl,HA,HJ1,⟨mc1,rfl⟩⟩ := hcut
  cases kq with
  | zero => exact absurd HA.out (by simp [FaE.j0])
  | succ kj1 =>
   have H := HA.out;clear HA;simp only [FaE.j0] at H
   by_cases c8 : ab = true
   ·subst c8;rw [if_pos rfl] at H;obtain rfl := oI H;go_wp2;go_ret;exact ⟨vR_,dw_⟩
   ·replace c8 := qO.mpr c8;subst c8;rw [if_neg qT] at H;have H' := aM H;clear H;go_wp2;go_loopg [3] kj1 (fun kq v3 w' => ∃ (aa : Int),v3 = .int .i64 aa ∧ Aside0 (FaE.l0 kq a0 aa = some r) ∧ Aside0 (kq ≤ kj1) ∧ Drawn0 w w')
    case atStart => exact ⟨(0),vR_,H',⟨Nat.le_refl _⟩,dw_⟩
    case round =>
     clear H';obtain ⟨aa,rfl,HA,aj,⟨m2,rfl⟩⟩ := hrel
     cases gk with
     | zero => exact absurd HA.out (by simp [FaE.l0])
     | succ k2 =>
      have H := HA.out;clear HA;simp only [FaE.l0] at H
      by_cases c9 : aa < (a0.size : Int)
      focus
       rw [if_pos c9] at H;have ag := dT c9;clear c9
       by_cases c10 : 0 ≤ aa
       rotate_left;rw [if_neg c10] at H;exact nH_ H;rw [if_pos c10] at H;have c10b0 := dT c10;clear c10;obtain ⟨ah,al,H⟩ := bE_ H
       by_cases af : ah = true
       focus
        subst af;rw [if_pos rfl] at H;have H' := aM H;clear H
       rotate_left
       focus
        replace af := qO.mpr af;subst af;rw [if_neg qT] at H;obtain ⟨ai,am,H⟩ := bE_ H
        by_cases c16 : ai = true
        focus
         subst c16;rw [if_pos rfl] at H;have H' := aM H;clear H
        rotate_left
        focus
         replace c16 := qO.mpr c16;subst c16;rw [if_neg qT] at H;obtain rfl := oI H
      rotate_left 3
      focus
       rw [if_neg c9] at H;have ag := dF c9;clear c9;obtain rfl := oI H
      all_goals
       (try (have p02 : 0 ≤ (aa : Int) := oD (by assumption);have q02 : aa < (a0.size : Int) := oD (by assumption);have hx02 := bt_at a0 aa;replace p02 := eq_true p02;replace q02 := eq_true q02));go_wp2_with (first|((with_reducible refine gate_callee (f := 153) rfl ?_);refine gl_ (some 23) Tryz.func153 #[.int .u8 (bt a0 aa)] ?_;(with_reducible refine (Fbg.calls _ _ _ al.out).mono ?_);rintro e w' ⟨rfl,⟨nd,rfl⟩⟩;refine ⟨_,rfl,?_⟩;(try (have p02 : 0 ≤ (aa : Int) := oD (by assumption);have q02 : aa < (a0.size : Int) := oD (by assumption);have hx02 := bt_at a0 aa;replace p02 := eq_true p02;replace q02 := eq_true q02)))|(go_at_call 154;(with_reducible refine (FbE.calls _ _ _ am.out).mono ?_);rintro e w' ⟨rfl,⟨nd,rfl⟩⟩))
       first
        |
         go_ret;exact ⟨vR_,dw_⟩
        |
         go_roundg k2
         case measure => have := HJ1.out;have := aj.out;omega
         case rel => exact ⟨(wrap64 (aa + 1)),vR_,H',⟨by have := HJ1.out;have := aj.out;omega⟩,dw_⟩
def Fb2.f (a0 : Int) : Option (Bool) := (Fa5.f a0 1 4).bind fun aa => (some aa)
theorem Fb2.calls (a0 : Int) (r : Bool) (w : World) (h : Fb2.f a0 = some r) :
  Calls Tryz.prog 127 #[.int .i64 a0] w fun e w' => e = .returned (.bool r) ∧ Drawn0 w w' := by
 have H : ((Fa5.f a0 1 4).bind fun aa => (some aa)) = some r := h;clear h;obtain ⟨aa,A2,H⟩ := bE_ H;obtain rfl := oI H;go_enter Tryz.func127,Tryz.ntmps127;go_wp2_with (first|((with_reducible refine gate_callee (f := 130) rfl ?_);refine gl_ (some 4) Tryz.func130 #[.int .i64 a0,.int .i64 1,.int .i64 4] ?_;(with_reducible refine (Fa5.calls a0 1 4 aa _ A2.out).mono ?_);rintro e w' ⟨rfl,⟨nd,rfl⟩⟩;refine ⟨_,rfl,?_⟩));go_ret;exact ⟨vR_,dw_⟩
def Fbr.f (a0 : Int) : Option (Bool) := if a0 ≥ 65 then (some (decide (a0 ≤ 90))) else (some false)
theorem Fbr.calls (a0 : Int) (r : Bool) (w : World) (h : Fbr.f a0 = some r) :
  Calls Tryz.prog 229 #[.int .u8 a0] w fun e w' => e = .returned (.bool r) ∧ Drawn0 w w' := by
 have H : (if a0 ≥ 65 then (some (decide (a0 ≤ 90))) else (some false)) = some r := h;clear h
 by_cases c2 : a0 ≥ 65
 focus
  rw [if_pos c2] at H;have aa : decide (65 ≤ a0) = true := dT c2;clear c2;obtain rfl := oI H
 rotate_left
 focus
  rw [if_neg c2] at H;have aa : decide (65 ≤ a0) = false := dF c2;clear c2;obtain rfl := oI H
 all_goals
  go_enter Tryz.func229,Tryz.ntmps229;go_wp2;go_ret;exact ⟨vR_,dw_⟩
def Fbe.f (a0 : Int) : Option (Bool) := (Fbr.f a0).bind fun aa => (if aa = true then (some true) else ((Fbg.f a0).bind fun ab => (some ab)))
theorem Fbe.calls (a0 : Int) (r : Bool) (w : World) (h : Fbe.f a0 = some r) :
  Calls Tryz.prog 245 #[.int .u8 a0] w fun e w' => e = .returned (.bool r) ∧ Drawn0 w w' := by
 have H : ((Fbr.f a0).bind fun aa => (if aa = true then (some true) else ((Fbg.f a0).bind fun ab => (some ab)))) = some r := h;clear h;obtain ⟨aa,A2,H⟩ := bE_ H
 by_cases c3 : aa = true
 focus
  subst c3;rw [if_pos rfl] at H;obtain rfl := oI H
 rotate_left
 focus
  replace c3 := qO.mpr c3;subst c3;rw [if_neg qT] at H;obtain ⟨ab,A4,H⟩ := bE_ H;obtain rfl := oI H
 all_goals
  go_enter Tryz.func245,Tryz.ntmps245;go_wp2_with (first|((with_reducible refine gate_callee (f := 229) rfl ?_);refine gl_ (some 4) Tryz.func229 #[.int .u8 a0] ?_;(with_reducible refine (Fbr.calls _ _ _ A2.out).mono ?_);rintro e w' ⟨rfl,⟨nd,rfl⟩⟩;refine ⟨_,rfl,?_⟩)|(go_at_call 153;(with_reducible refine (Fbg.calls _ _ _ A4.out).mono ?_);rintro e w' ⟨rfl,⟨nd,rfl⟩⟩));go_ret;exact ⟨vR_,dw_⟩
mutual
def Fae.j0 : Nat → ByteArray → Bool → Option (Bool)
 | 0,_,_ => none
 | k + 1,x0,aa => if aa = true then (some false) else (Fae.l0 k x0 0)
def Fae.l0 : Nat → ByteArray → Int → Option (Bool)
 | 0,_,_ => none
 | k + 1,x0,x3 => if x3 < (x0.size : Int) then (if 0 ≤ x3 then ((Fbe.f (bt x0 x3)).bind fun aa => (if aa = true then (Fae.l0 k x0 (wrap64 (x3 + 1))) else (if (bt x0 x3) = 45 then (if 0 ≤ (wrap64 (x3 - 1)) then (if (wrap64 (x3 - 1)) < (x0.size : Int) then ((Fbe.f (bt x0 (wrap64 (x3 - 1)))).bind fun ab => (if ab = true then (Fae.l0 k x0 (wrap64 (x3 + 1))) else (some false))) else (none)) else (none)) else (if (bt x0 x3) = 39 then (if 0 ≤ (wrap64 (x3 - 1)) then (if (wrap64 (x3 - 1)) < (x0.size : Int) then ((Fbe.f (bt x0 (wrap64 (x3 - 1)))).bind fun ac => (if ac = true then (Fae.l0 k x0 (wrap64 (x3 + 1))) else (some false))) else (none)) else (none)) else (some false))))) else (none)) else (some true)
end
def Fae.f (k : Nat) (a0 : ByteArray) : Option (Bool) := (Fa5.f (a0.size : Int) 1 12).bind fun aa => (if aa = true then (if 0 ≤ (wrap64 ((a0.size : Int) - 1)) then (if (wrap64 ((a0.size : Int) - 1)) < (a0.size : Int) then ((Fbe.f (bt a0 (wrap64 ((a0.size : Int) - 1)))).bind fun ab => (if ab = true then (if 0 < (a0.size : Int) then ((Fbe.f (bt a0 0)).bind fun ac => (Fae.j0 k a0 (!ac))) else (none)) else (Fae.j0 k a0 true))) else (none)) else (none)) else (Fae.j0 k a0 true))
theorem Fae.mono_l : ∀ k,(∀ y0 y1,LeO (Fae.j0 k y0 y1) (Fae.j0 (k + 1) y0 y1)) ∧ (∀ y0 y1,LeO (Fae.l0 k y0 y1) (Fae.l0 (k + 1) y0 y1))
 | 0 => ⟨fun _ _ r h => by simp [Fae.j0] at h,fun _ _ r h => by simp [Fae.l0] at h⟩
 | k + 1 => by
  obtain ⟨ih0,ih1⟩ := Fae.mono_l k
  refine ⟨?_,?_⟩
  all_goals (intros;first|unfold Fae.j0|unfold Fae.l0)
  all_goals repeat' (first|with_reducible (first|exact ih0 _ _|exact ih1 _ _|exact LeO.refl _|exact LeO.none _|refine LeO.ite ?_ ?_|refine LeO.bind ?_ (fun _ => ?_))|exact LeO.none _|refine LeO.ite ?_ ?_|refine LeO.bind ?_ (fun _ => ?_))
theorem Fae.mono : ∀ a0 k,LeO (Fae.f k a0) (Fae.f (k + 1) a0) := by
 intro a0 k
 obtain ⟨ih0,ih1⟩ := Fae.mono_l k
 unfold Fae.f
 repeat' (first|with_reducible (first|exact ih0 _ _|exact ih1 _ _|exact LeO.refl _|exact LeO.none _|refine LeO.ite ?_ ?_|refine LeO.bind ?_ (fun _ => ?_))|exact LeO.none _|refine LeO.ite ?_ ?_|refine LeO.bind ?_ (fun _ => ?_))
theorem Fae.calls (k : Nat) (a0 : ByteArray) (r : Bool) (w : World) (h : Fae.f k a0 = some r) :
  Calls Tryz.prog 217 #[.string a0] w fun e w' => e = .returned (.bool r) ∧ Drawn0 w w' := by
 have H : ((Fa5.f (a0.size : Int) 1 12).bind fun ak => (if ak = true then (if 0 ≤ (wrap64 ((a0.size : Int) - 1)) then (if (wrap64 ((a0.size : Int) - 1)) < (a0.size : Int) then ((Fbe.f (bt a0 (wrap64 ((a0.size : Int) - 1)))).bind fun ag => (if ag = true then (if 0 < (a0.size : Int) then ((Fbe.f (bt a0 0)).bind fun ah => (Fae.j0 k a0 (!ah))) else (none)) else (Fae.j0 k a0 true))) else (none)) else (none)) else (Fae.j0 k a0 true))) = some r := h;clear h;have HC2 := aM H;clear H;go_enter Tryz.func217,Tryz.ntmps217;go_upto_region 1 with (fail);go_cut [22] (fun aW wc => ∃ (kq : Nat) (af : Bool),aW = .bool af ∧ Aside0 (Fae.j0 kq a0 af = some r) ∧ Aside0 (kq ≤ k) ∧ Drawn0 w wc)
 case first =>
  have H := HC2.out;clear HC2;obtain ⟨ak,A3,H⟩ := bE_ H
  by_cases c4 : ak = true
  focus
   subst c4;rw [if_pos rfl] at H;obtain ⟨ai,aj⟩ : ∃ j_ : Int,(wrap64 ((a0.size : Int) - 1)) = j_ := ⟨_,rfl⟩;replace H : (if 0 ≤ (ai) then (if (ai) < (a0.size : Int) then ((Fbe.f (bt a0 (ai))).bind fun ag => (if ag = true then (if 0 < (a0.size : Int) then ((Fbe.f (bt a0 0)).bind fun ah => (Fae.j0 k a0 (!ah))) else (none)) else (Fae.j0 k a0 true))) else (none)) else (none)) = some r := (by first|(rw [aj] at H;exact H)|(simp only [aj] at H ⊢;exact H));(try rw [aj] at A3);have hji5w : (IntKind.i64.wrap ((a0.size : Int) - 1)) = ai := (i64_w _).trans aj
   by_cases c6 : 0 ≤ (ai)
   rotate_left;rw [if_neg c6] at H;exact nH_ H;rw [if_pos c6] at H;have ar := dT c6;clear c6;(first|rw [ar]|(simp only [i64_w,i32_w];rw [ar])|skip)
   by_cases c7 : (ai) < (a0.size : Int)
   rotate_left;rw [if_neg c7] at H;exact nH_ H;rw [if_pos c7] at H;have c7b0 := dT c7;clear c7;obtain ⟨ag,A9,H⟩ := bE_ H
   by_cases c10 : ag = true
   focus
    subst c10;rw [if_pos rfl] at H
    by_cases aC : 0 < (a0.size : Int)
    rotate_left;rw [if_neg aC] at H;exact nH_ H;rw [if_pos aC] at H;have c11b0 := dT aC;have c11b1 : decide (0 < a0.size) = true := dT (by omega);clear aC;obtain ⟨ah,aX,H⟩ := bE_ H;have H' := aM H;clear H
   rotate_left
   focus
    replace c10 := qO.mpr c10;subst c10;rw [if_neg qT] at H;have H' := aM H;clear H
  rotate_left 2
  focus
   replace c4 := qO.mpr c4;subst c4;rw [if_neg qT] at H;have H' := aM H;clear H
  all_goals
   go_wp2_with (first|((with_reducible refine gate_callee (f := 130) rfl ?_);refine gl_ (some 6) Tryz.func130 #[.int .i64 (a0.size : Int),.int .i64 1,.int .i64 12] ?_;(with_reducible refine (Fa5.calls _ _ _ _ _ A3.out).mono ?_);rintro e w' ⟨rfl,⟨nd,rfl⟩⟩;refine ⟨_,rfl,?_⟩;(try (have p01 : 0 ≤ ((ai) : Int) := oD (by assumption);have q01 : (ai) < (a0.size : Int) := oD (by assumption);have hx01 := bt_at a0 (ai);replace p01 := eq_true p01;replace q01 := eq_true q01)))|(go_at_call 245;(with_reducible refine (Fbe.calls _ _ _ A9.out).mono ?_);rintro e w' ⟨rfl,⟨nd,rfl⟩⟩;have p02 : 0 ≤ (0 : Int) := (by omega);have q02 : 0 < a0.size := (by have : (0 : Int) < (a0.size : Int) := oD (by assumption);omega);have hx02 : ∀ h : 0 < a0.size,((a0[0]'h).toNat : Int) = bt a0 0 := bt_at a0 0;clear p02;have qi12 : (0 < (a0.size : Int)) = True := eq_true (oD (by assumption));replace q02 := eq_true q02)|(go_at_call 245;(with_reducible refine (Fbe.calls _ _ _ A9.out).mono ?_);rintro e w' ⟨rfl,⟨nd,rfl⟩⟩)|(go_at_call 245;(with_reducible refine (Fbe.calls _ _ _ aX.out).mono ?_);rintro e w' ⟨rfl,⟨nd,rfl⟩⟩));go_meet
   case rel => first|(exact ⟨_,(!ah),vR_,H',⟨by first|omega|exact Nat.le_refl _⟩,dw_⟩)|(exact ⟨_,(true),vR_,H',⟨by first|omega|exact Nat.le_refl _⟩,dw_⟩)
 case rest =>
  clear HC2;obtain ⟨kq,af,rfl,HA,HJ1,⟨mc1,rfl⟩⟩ := hcut
  cases kq with
  | zero => exact absurd HA.out (by simp [Fae.j0])
  | succ kj1 =>
   have H := HA.out;clear HA;simp only [Fae.j0] at H
   by_cases aD : af = true
   ·subst aD;rw [if_pos rfl] at H;obtain rfl := oI H;go_wp2;go_ret;exact ⟨vR_,dw_⟩
   ·replace aD := qO.mpr aD;subst aD;rw [if_neg qT] at H;have H' := aM H;clear H;go_wp2;go_loopg [3] kj1 (fun kq v3 w' => ∃ (aa : Int),v3 = .int .i64 aa ∧ Aside0 (Fae.l0 kq a0 aa = some r) ∧ Aside0 (kq ≤ kj1) ∧ Drawn0 w w')
    case atStart => exact ⟨(0),vR_,H',⟨Nat.le_refl _⟩,dw_⟩
    case round =>
     clear H';obtain ⟨aa,rfl,HA,aQ,⟨m2,rfl⟩⟩ := hrel
     cases gk with
     | zero => exact absurd HA.out (by simp [Fae.l0])
     | succ k2 =>
      have H := HA.out;clear HA;simp only [Fae.l0] at H
      by_cases ap : aa < (a0.size : Int)
      focus
       rw [if_pos ap] at H;have au := dT ap;clear ap
       by_cases c16 : 0 ≤ aa
       rotate_left;rw [if_neg c16] at H;exact nH_ H;rw [if_pos c16] at H;have c16b0 := dT c16;clear c16;obtain ⟨aN,aO,H⟩ := bE_ H
       by_cases aE : aN = true
       focus
        subst aE;rw [if_pos rfl] at H;have H' := aM H;clear H
       rotate_left
       focus
        replace aE := qO.mpr aE;subst aE;rw [if_neg qT] at H
        by_cases al : (bt a0 aa) = 45
        focus
         rw [if_pos al] at H;have av := qE.mpr al;have aw := qN.mpr al;clear al;obtain ⟨ab,ad⟩ : ∃ j_ : Int,(wrap64 (aa - 1)) = j_ := ⟨_,rfl⟩;replace H : (if 0 ≤ (ab) then (if (ab) < (a0.size : Int) then ((Fbe.f (bt a0 (ab))).bind fun am => (if am = true then (Fae.l0 k2 a0 (wrap64 (aa + 1))) else (some false))) else (none)) else (none)) = some r := (by first|(rw [ad] at H;exact H)|(simp only [ad] at H ⊢;exact H));(try rw [ad] at aO);have hji22w : (IntKind.i64.wrap (aa - 1)) = ab := (i64_w _).trans ad
         by_cases aF : 0 ≤ (ab)
         rotate_left;rw [if_neg aF] at H;exact nH_ H;rw [if_pos aF] at H;have c23b0 := dT aF;clear aF
         by_cases aG : (ab) < (a0.size : Int)
         rotate_left;rw [if_neg aG] at H;exact nH_ H;rw [if_pos aG] at H;have c24b0 := dT aG;clear aG;obtain ⟨am,aY,H⟩ := bE_ H
         by_cases aH : am = true
         focus
          subst aH;rw [if_pos rfl] at H;have H' := aM H;clear H
         rotate_left
         focus
          replace aH := qO.mpr aH;subst aH;rw [if_neg qT] at H;obtain rfl := oI H
        rotate_left 2
        focus
         rw [if_neg al] at H;have av := qF.mpr al;have aw := qB.mpr al
         by_cases an : (bt a0 aa) = 39
         focus
          rw [if_pos an] at H;have ax := qE.mpr an;have ay := qN.mpr an;clear an;obtain ⟨ac,ae⟩ : ∃ j_ : Int,(wrap64 (aa - 1)) = j_ := ⟨_,rfl⟩;replace H : (if 0 ≤ (ac) then (if (ac) < (a0.size : Int) then ((Fbe.f (bt a0 (ac))).bind fun ao => (if ao = true then (Fae.l0 k2 a0 (wrap64 (aa + 1))) else (some false))) else (none)) else (none)) = some r := (by first|(rw [ae] at H;exact H)|(simp only [ae] at H ⊢;exact H));(try rw [ae] at aO);have hji30w : (IntKind.i64.wrap (aa - 1)) = ac := (i64_w _).trans ae
          by_cases aJ : 0 ≤ (ac)
          rotate_left;rw [if_neg aJ] at H;exact nH_ H;rw [if_pos aJ] at H;have c31b0 := dT aJ;clear aJ
          by_cases aK : (ac) < (a0.size : Int)
          rotate_left;rw [if_neg aK] at H;exact nH_ H;rw [if_pos aK] at H;have c32b0 := dT aK;clear aK;obtain ⟨ao,aZ,H⟩ := bE_ H
          by_cases aL : ao = true
          focus
           subst aL;rw [if_pos rfl] at H;have H' := aM H;clear H
          rotate_left
          focus
           replace aL := qO.mpr aL;subst aL;rw [if_neg qT] at H;obtain rfl := oI H
         rotate_left 2
         focus
          rw [if_neg an] at H;have ax := qF.mpr an;have ay := qB.mpr an;obtain rfl := oI H
      rotate_left 6
      focus
       rw [if_neg ap] at H;have au := dF ap;clear ap;obtain rfl := oI H
      all_goals
       (try (have az : 0 ≤ (aa : Int) := oD (by assumption);have aA : aa < (a0.size : Int) := oD (by assumption);have aP := bt_at a0 aa;replace az := eq_true az;replace aA := eq_true aA));go_wp2_with (first|((with_reducible refine gate_callee (f := 245) rfl ?_);refine gl_ (some 32) Tryz.func245 #[.int .u8 (bt a0 aa)] ?_;(with_reducible refine (Fbe.calls _ _ _ aO.out).mono ?_);rintro e w' ⟨rfl,⟨nd,rfl⟩⟩;refine ⟨_,rfl,?_⟩;(try (have az : 0 ≤ (aa : Int) := oD (by assumption);have aA : aa < (a0.size : Int) := oD (by assumption);have aP := bt_at a0 aa;replace az := eq_true az;replace aA := eq_true aA));(try (have aR : 0 ≤ ((ab) : Int) := oD (by assumption);have aT : (ab) < (a0.size : Int) := oD (by assumption);have hx04 := bt_at a0 (ab);replace aR := eq_true aR;replace aT := eq_true aT));(try (have aU : 0 ≤ ((ac) : Int) := oD (by assumption);have aV : (ac) < (a0.size : Int) := oD (by assumption);have hx05 := bt_at a0 (ac);replace aU := eq_true aU;replace aV := eq_true aV)))|(go_at_call 245;(with_reducible refine (Fbe.calls _ _ _ aZ.out).mono ?_);rintro e w' ⟨rfl,⟨nd,rfl⟩⟩)|(go_at_call 245;(with_reducible refine (Fbe.calls _ _ _ aY.out).mono ?_);rintro e w' ⟨rfl,⟨nd,rfl⟩⟩))
       first
        |
         go_roundg k2
         case measure => have := HJ1.out;have := aQ.out;omega
         case rel => exact ⟨(wrap64 (aa + 1)),vR_,H',⟨by have := HJ1.out;have := aQ.out;omega⟩,dw_⟩
        |
         go_ret;(first|exact ⟨by first|rfl|(simp;done)|(simp [my_isEmpty];done)|(simp only [← ad] <;> (first|rfl|simp))|(simp [*];done),dw_⟩|exact ⟨by first|rfl|(simp;done)|(simp [my_isEmpty];done)|(simp only [← ae] <;> (first|rfl|simp))|(simp [*];done),dw_⟩|exact ⟨vR_,dw_⟩)
def Fbf.f (k : Nat) (a0 : ByteArray) : Option (Bool) := (Fae.f k a0).bind fun aa => (if aa = true then (if 0 < (a0.size : Int) then ((Fbr.f (bt a0 0)).bind fun ab => (some ab)) else (none)) else (some false))
theorem Fbf.mono : ∀ a0 k,LeO (Fbf.f k a0) (Fbf.f (k + 1) a0) := by
 intro a0 k
 unfold Fbf.f
 repeat' (first|with_reducible (first|exact Fae.mono _ _|exact LeO.refl _|exact LeO.none _|refine LeO.ite ?_ ?_|refine LeO.bind ?_ (fun _ => ?_))|exact LeO.none _|refine LeO.ite ?_ ?_|refine LeO.bind ?_ (fun _ => ?_))
theorem Fbf.calls (k : Nat) (a0 : ByteArray) (r : Bool) (w : World) (h : Fbf.f k a0 = some r) :
  Calls Tryz.prog 215 #[.string a0] w fun e w' => e = .returned (.bool r) ∧ Drawn0 w w' := by
 have H : ((Fae.f k a0).bind fun aa => (if aa = true then (if 0 < (a0.size : Int) then ((Fbr.f (bt a0 0)).bind fun ab => (some ab)) else (none)) else (some false))) = some r := h;clear h;obtain ⟨aa,A2,H⟩ := bE_ H
 by_cases c3 : aa = true
 focus
  subst c3;rw [if_pos rfl] at H
  by_cases c4 : 0 < (a0.size : Int)
  rotate_left;rw [if_neg c4] at H;exact nH_ H;rw [if_pos c4] at H;have c4b0 := dT c4;have c4b1 : decide (0 < a0.size) = true := dT (by omega);clear c4;obtain ⟨ab,A6,H⟩ := bE_ H;obtain rfl := oI H
 rotate_left
 focus
  replace c3 := qO.mpr c3;subst c3;rw [if_neg qT] at H;obtain rfl := oI H
 all_goals
  go_enter Tryz.func215,Tryz.ntmps215;go_wp2_with (first|((with_reducible refine gate_callee (f := 217) rfl ?_);refine gl_ (some 4) Tryz.func217 #[.string a0] ?_;(with_reducible refine (Fae.calls _ _ _ _ A2.out).mono ?_);rintro e w' ⟨rfl,⟨nd,rfl⟩⟩;refine ⟨_,rfl,?_⟩;have p01 : 0 ≤ (0 : Int) := (by omega);have q01 : 0 < a0.size := (by have : (0 : Int) < (a0.size : Int) := oD (by assumption);omega);have hx01 : ∀ h : 0 < a0.size,((a0[0]'h).toNat : Int) = bt a0 0 := bt_at a0 0;clear p01;have qi5 : (0 < (a0.size : Int)) = True := eq_true (oD (by assumption));replace q01 := eq_true q01)|((with_reducible refine gate_callee (f := 217) rfl ?_);refine gl_ (some 4) Tryz.func217 #[.string a0] ?_;(with_reducible refine (Fae.calls _ _ _ _ A2.out).mono ?_);rintro e w' ⟨rfl,⟨nd,rfl⟩⟩;refine ⟨_,rfl,?_⟩)|(go_at_call 229;(with_reducible refine (Fbr.calls _ _ _ A6.out).mono ?_);rintro e w' ⟨rfl,⟨nd,rfl⟩⟩));go_ret;exact ⟨vR_,dw_⟩
def Fbm.f (k : Nat) (a0 : ByteArray) : Option (Bool) := (Fbf.f k a0).bind fun aa => (some (!aa))
theorem Fbm.mono : ∀ a0 k,LeO (Fbm.f k a0) (Fbm.f (k + 1) a0) := by
 intro a0 k
 unfold Fbm.f
 repeat' (first|with_reducible (first|exact Fbf.mono _ _|exact LeO.refl _|exact LeO.none _|refine LeO.ite ?_ ?_|refine LeO.bind ?_ (fun _ => ?_))|exact LeO.none _|refine LeO.ite ?_ ?_|refine LeO.bind ?_ (fun _ => ?_))
theorem Fbm.calls (k : Nat) (a0 : ByteArray) (r : Bool) (w : World) (h : Fbm.f k a0 = some r) :
  Calls Tryz.prog 214 #[.string a0] w fun e w' => e = .returned (.bool r) ∧ Drawn0 w w' := by
 have H : ((Fbf.f k a0).bind fun aa => (some (!aa))) = some r := h;clear h;obtain ⟨aa,A2,H⟩ := bE_ H;obtain rfl := oI H;go_enter Tryz.func214,Tryz.ntmps214;go_wp2_with (first|((with_reducible refine gate_callee (f := 215) rfl ?_);refine gl_ (some 4) Tryz.func215 #[.string a0] ?_;(with_reducible refine (Fbf.calls k a0 aa _ A2.out).mono ?_);rintro e w' ⟨rfl,⟨nd,rfl⟩⟩;refine ⟨_,rfl,?_⟩));go_ret;exact ⟨vR_,dw_⟩
theorem R_strs (w : World) (e : TypeId) (L : List ByteArray) (hL : L.length ≤ 9223372036854775807) : Kd.R Kd.string e (w.alloc (.cells (L.map Value.string).toArray e)) w.heap.size (fun _ => True) (.slice (some ⟨w.heap.size,0,none⟩) L.length L.length) L := by
 refine ⟨fun _ _ => trivial,L.map Value.string,?_,?_⟩
 ·have h2 := World.ownsRow_lit (base := w.heap.size) (e := e) (size := 1) w (L.map Value.string).toArray L.length (Nat.le_refl _) (by simpa [maxLen] using hL) (by simp);have h3 : (w.alloc (Obj.cells (L.map Value.string).toArray e)).ownsRow w.heap.size e 1 (.slice (some ⟨w.heap.size,0,none⟩) L.length L.length) L.length (L.map Value.string) := (by simpa using h2);exact h3
 ·refine ⟨by show (L.map Value.string).length = L.length * 1;simp,fun j p hj => ?_⟩;show ((L.map Value.string).drop (j * 1)).take 1 = [Value.string p];obtain ⟨hjl,hp⟩ := List.getElem?_eq_some_iff.1 hj;rw [Nat.mul_one,← List.map_drop,List.drop_eq_getElem_cons hjl,hp];rfl
def FbF.f (a0 a1 : ByteArray) : Option (List ByteArray) := if a0.size < 4294967281 ∧ 1 ≤ a1.size ∧ Lib.countB a0 a1 ≤ 4294967281 then some (Lib.splitB a1 0 (Lib.countB a0 a1) a0) else none
theorem FbF.calls (a0 a1 : ByteArray) (r : List ByteArray) (w : World) (hG : Gm w) (h : FbF.f a0 a1 = some r) :
  Calls Tryz.prog 185 #[.string a0,.string a1] w fun e w' => ∃ aa : Value,e = .returned (aa) ∧ Kd.R Kd.string 9 w' w.heap.size (fun _ => True) aa r ∧ Below w.heap.size w w' := by
 unfold FbF.f at h
 by_cases hs : a0.size < 4294967281 ∧ 1 ≤ a1.size ∧ Lib.countB a0 a1 ≤ 4294967281
 ·rw [if_pos hs] at h;obtain rfl := oI h;obtain ⟨m,hm⟩ := hG.max;refine (Tryz.strings_Split a0 a1 m w hs.1 hm hs.2.1).mono ?_;rintro e w' ⟨rfl,rfl⟩;have hl : (Lib.splitB a1 0 (Lib.countB a0 a1) a0).length = Lib.countB a0 a1 + 1 := Lib.splitB_all a1 hs.2.1 0 _ a0 rfl;refine ⟨_,rfl,?_,lA (Below.refl _ _) _⟩;have hle : Lib.countB a0 a1 + 1 ≤ 9223372036854775807 := (by omega);rw [← hl] at hle ⊢;generalize Lib.splitB a1 0 (Lib.countB a0 a1) a0 = L at *;exact R_strs w _ L hle
 ·rw [if_neg hs] at h;cases h
mutual
def Fan.l0 : Nat → List ByteArray → List ByteArray → Int → Int → Option (Bool)
 | 0,_,_,_,_ => none
 | k + 1,x3,x11,x12,x13 => if x13 < x12 then (if 0 ≤ x13 then (if x13 < (x11.length : Int) then ((Fa5.f ((rdOf ByteArray.empty x11 x13).size : Int) 1 12).bind fun aa => (if aa = true then (Fan.l1 k x3 (rdOf ByteArray.empty x11 x13) 0 x11 x12 x13) else (some false))) else (none)) else (none)) else (some (decide ((x3.length : Int) ≤ 2)))
def Fan.l1 : Nat → List ByteArray → ByteArray → Int → List ByteArray → Int → Int → Option (Bool)
 | 0,_,_,_,_,_,_ => none
 | k + 1,x3,x5,x6,x11,x12,x13 => if x6 < (x5.size : Int) then (if 0 ≤ x6 then ((Fbg.f (bt x5 x6)).bind fun aa => (if aa = true then (Fan.l1 k x3 x5 (wrap64 (x6 + 1)) x11 x12 x13) else (some false))) else (none)) else (Fan.l0 k x3 x11 x12 (wrap64 (x13 + 1)))
end
def Fan.f (k : Nat) (a0 : ByteArray) : Option (Bool) := if a0.toList = ([] : List UInt8) then (some true) else ((FbF.f a0 (⟨#[32]⟩ : ByteArray)).bind fun aa => (Fan.l0 k aa aa (aa.length : Int) 0))
theorem Fan.mono_l : ∀ k,(∀ y0 y1 y2 y3,LeO (Fan.l0 k y0 y1 y2 y3) (Fan.l0 (k + 1) y0 y1 y2 y3)) ∧ (∀ y0 y1 y2 y3 y4 y5,LeO (Fan.l1 k y0 y1 y2 y3 y4 y5) (Fan.l1 (k + 1) y0 y1 y2 y3 y4 y5))
 | 0 => ⟨fun _ _ _ _ r h => by simp [Fan.l0] at h,fun _ _ _ _ _ _ r h => by simp [Fan.l1] at h⟩
 | k + 1 => by
  obtain ⟨ih0,ih1⟩ := Fan.mono_l k
  refine ⟨?_,?_⟩
  all_goals (intros;first|unfold Fan.l0|unfold Fan.l1)
  all_goals repeat' (first|with_reducible (first|exact ih0 _ _ _ _|exact ih1 _ _ _ _ _ _|exact LeO.refl _|exact LeO.none _|refine LeO.ite ?_ ?_|refine LeO.bind ?_ (fun _ => ?_))|exact LeO.none _|refine LeO.ite ?_ ?_|refine LeO.bind ?_ (fun _ => ?_))
theorem Fan.mono : ∀ a0 k,LeO (Fan.f k a0) (Fan.f (k + 1) a0) := by
 intro a0 k
 obtain ⟨ih0,ih1⟩ := Fan.mono_l k
 unfold Fan.f
 repeat' (first|with_reducible (first|exact ih0 _ _ _ _|exact ih1 _ _ _ _ _ _|exact LeO.refl _|exact LeO.none _|refine LeO.ite ?_ ?_|refine LeO.bind ?_ (fun _ => ?_))|exact LeO.none _|refine LeO.ite ?_ ?_|refine LeO.bind ?_ (fun _ => ?_))
theorem Fan.calls (k : Nat) (a0 : ByteArray) (r : Bool) (w : World) (hG : Gm w) (h : Fan.f k a0 = some r) :
  Calls Tryz.prog 216 #[.string a0] w fun e w' => e = .returned (.bool r) ∧ Below w.heap.size w w' := by
 have HB := aM (Below.refl w.heap.size w);have HG := aM hG;clear hG;have H : (if a0.toList = ([] : List UInt8) then (some true) else ((FbF.f a0 (⟨#[32]⟩ : ByteArray)).bind fun aa => (Fan.l0 k aa aa (aa.length : Int) 0))) = some r := h;clear h
 by_cases c2 : a0.toList = ([] : List UInt8)
 ·rw [if_pos c2] at H;have am := qE.mpr c2;have an := qN.mpr c2;clear c2;obtain rfl := oI H;go_enter Tryz.func216,Tryz.ntmps216;go_wp2;go_ret;exact ⟨vR_,wB_⟩
 ·rw [if_neg c2] at H;have am := qF.mpr c2;have an := qB.mpr c2;obtain ⟨aa,A3,H⟩ := bE_ H;have H' := aM H;clear H;go_enter Tryz.func216,Tryz.ntmps216;go_wp2_with (first|((with_reducible refine gate_callee (f := 185) rfl ?_);refine gl_ (some 10) Tryz.func185 #[.string a0,.string (⟨#[32]⟩ : ByteArray)] ?_;(with_reducible refine (FbF.calls a0 (⟨#[32]⟩ : ByteArray) aa _ ?side1 A3.out).mono ?_);(case side1 => exact Gm.below HG.out wB_);rintro e w4 ⟨v444,rfl,az,hb⟩;refine ⟨_,rfl,?_⟩;have ae := aM (Kd.R_lower az (lZ wB_));replace HB := aM (lT wB_ hb);obtain ⟨ai,af,ao⟩ := Kd.R_slice ae.out;subst ao));go_loopg [13] k (fun kq aA w' => ∃ (ab : Int),aA = .int .i64 ab ∧ Aside0 (Fan.l0 kq aa aa (aa.length : Int) ab = some r) ∧ Aside0 (kq ≤ k) ∧ Aside0 (Kd.R Kd.string 9 w' w.heap.size (fun _ => True) (.slice ai aa.length af) aa) ∧ Aside0 (Kd.R Kd.string 9 w' w.heap.size (fun _ => True) (.slice ai aa.length af) aa) ∧ Aside0 (Below w.heap.size w w'))
  case atStart => exact ⟨(0),vR_,H',⟨Nat.le_refl _⟩,⟨wO_ ae.out⟩,⟨wO_ ae.out⟩,⟨wB_⟩⟩
  case round =>
   clear H';obtain ⟨ab,rfl,HA,ap,ag,ad,HB⟩ := hrel
   cases gk with
   | zero => exact absurd HA.out (by simp [Fan.l0])
   | succ k1 =>
    have H := HA.out;clear HA;simp only [Fan.l0] at H
    by_cases c6 : ab < (aa.length : Int)
    focus
     rw [if_pos c6] at H;have ar := dT c6;clear c6
     by_cases c7 : 0 ≤ ab
     rotate_left;rw [if_neg c7] at H;exact nH_ H;rw [if_pos c7] at H;have c7b0 := dT c7;clear c7
     by_cases c8 : ab < (aa.length : Int)
     rotate_left;rw [if_neg c8] at H;exact nH_ H;rw [if_pos c8] at H;have c8b0 := dT c8;clear c8;obtain ⟨au,A9,H⟩ := bE_ H
     by_cases c10 : au = true
     focus
      subst c10;rw [if_pos rfl] at H;have H' := aM H;clear H
     rotate_left
     focus
      replace c10 := qO.mpr c10;subst c10;rw [if_neg qT] at H;obtain rfl := oI H
    rotate_left 2
    focus
     rw [if_neg c6] at H;have ar := dF c6;clear c6;obtain rfl := oI H
    all_goals
     (try (have av : 0 ≤ (ab : Int) := oD (by assumption);have aw : ab < (aa.length : Int) := oD (by assumption);obtain ⟨aj,aC,hx02_0⟩ := Kd.at_string (rR ad.out).2.2 ab av aw;cases aC;replace av := eq_true av;replace aw := eq_true aw));go_wp2_with (first|((with_reducible refine gate_callee (f := 130) rfl ?_);refine gl_ (some 19) Tryz.func130 #[.int .i64 ((rdOf ByteArray.empty aa ab).size : Int),.int .i64 1,.int .i64 12] ?_;(with_reducible refine (Fa5.calls _ _ _ _ _ A9.out).mono ?_);rintro e w' ⟨rfl,⟨nd,rfl⟩⟩;refine ⟨_,rfl,?_⟩))
     first
      |
       go_ret;exact ⟨vR_,wB_⟩
      |
       go_loopg [6] k1 (fun kq v6 w' => ∃ (ac : Int),v6 = .int .i64 ac ∧ Aside0 (Fan.l1 kq aa (rdOf ByteArray.empty aa ab) ac aa (aa.length : Int) ab = some r) ∧ Aside0 (kq ≤ k1) ∧ Aside0 (Kd.R Kd.string 9 w' w.heap.size (fun _ => True) (.slice (some aj) aa.length af) aa) ∧ Aside0 (Kd.R Kd.string 9 w' w.heap.size (fun _ => True) (.slice (some aj) aa.length af) aa) ∧ Aside0 (Below w.heap.size w w'))
       case atStart => exact ⟨(0),vR_,H',⟨Nat.le_refl _⟩,⟨wO_ ag.out⟩,⟨wO_ ad.out⟩,⟨wB_⟩⟩
       case round =>
        clear H';obtain ⟨ac,rfl,HA,ax,ag,ad,HB⟩ := hrel
        cases gk with
        | zero => exact absurd HA.out (by simp [Fan.l1])
        | succ k2 =>
         have H := HA.out;clear HA;simp only [Fan.l1] at H
         by_cases ah : ac < ((rdOf ByteArray.empty aa ab).size : Int)
         focus
          rw [if_pos ah] at H;have ak := dT ah;clear ah
          by_cases c12 : 0 ≤ ac
          rotate_left;rw [if_neg c12] at H;exact nH_ H;rw [if_pos c12] at H;have c12b0 := dT c12;clear c12;obtain ⟨ay,aD,H⟩ := bE_ H
          by_cases al : ay = true
          focus
           subst al;rw [if_pos rfl] at H;have H' := aM H;clear H
          rotate_left
          focus
           replace al := qO.mpr al;subst al;rw [if_neg qT] at H;obtain rfl := oI H
         rotate_left 2
         focus
          rw [if_neg ah] at H;have ak := dF ah;clear ah;have H' := aM H;clear H
         all_goals
          (try (have p01 : 0 ≤ (ac : Int) := oD (by assumption);have q01 : ac < ((rdOf ByteArray.empty aa ab).size : Int) := oD (by assumption);have hx01 := bt_at (rdOf ByteArray.empty aa ab) ac;replace p01 := eq_true p01;replace q01 := eq_true q01));go_wp2_with (first|((with_reducible refine gate_callee (f := 153) rfl ?_);refine gl_ (some 30) Tryz.func153 #[.int .u8 (bt (rdOf ByteArray.empty aa ab) ac)] ?_;(with_reducible refine (Fbg.calls _ _ _ aD.out).mono ?_);rintro e w' ⟨rfl,⟨nd,rfl⟩⟩;refine ⟨_,rfl,?_⟩))
          first
           |
            go_ret;exact ⟨vR_,wB_⟩
           |
            go_roundg k2
            case measure => have := ap.out;have := ax.out;omega
            case rel => first|(exact ⟨(wrap64 (ac + 1)),vR_,H',⟨by have := ap.out;have := ax.out;omega⟩,⟨wO_ ag.out⟩,⟨wO_ ad.out⟩,⟨wB_⟩⟩)|(exact ⟨(wrap64 (ab + 1)),vR_,H',⟨by have := ap.out;have := ax.out;omega⟩,⟨wO_ ag.out⟩,⟨wO_ ad.out⟩,⟨wB_⟩⟩)
def Fad.l0 : Nat → List ByteArray → Int → Int → Option (Int)
 | 0,_,_,_ => none
 | k + 1,x0,x7,x8 => if x8 < x7 then (if 0 ≤ x8 then (if x8 < (x0.length : Int) then ((Fbm.f k (rdOf ByteArray.empty x0 x8)).bind fun aa => (if aa = true then (some x8) else (Fad.l0 k x0 x7 (wrap64 (x8 + 1))))) else (none)) else (none)) else (some (-1))
def Fad.f (k : Nat) (l0 : List ByteArray) (a1 : Int) : Option (Int) := Fad.l0 k l0 (l0.length : Int) 0
theorem Fad.mono_l : ∀ k,(∀ y0 y1 y2,LeO (Fad.l0 k y0 y1 y2) (Fad.l0 (k + 1) y0 y1 y2))
 | 0 => fun _ _ _ r h => by simp [Fad.l0] at h
 | k + 1 => by
  have ih0 := Fad.mono_l k
  ·intro y0 y1 y2
   unfold Fad.l0
   repeat' (first|with_reducible (first|exact ih0 _ _ _|exact Fbm.mono _ _|exact LeO.refl _|exact LeO.none _|refine LeO.ite ?_ ?_|refine LeO.bind ?_ (fun _ => ?_))|exact LeO.none _|refine LeO.ite ?_ ?_|refine LeO.bind ?_ (fun _ => ?_))
theorem Fad.mono : ∀ a0 a1 k,LeO (Fad.f k a0 a1) (Fad.f (k + 1) a0 a1) := by
 intro a0 a1 k
 have ih0 := Fad.mono_l k
 unfold Fad.f
 repeat' (first|with_reducible (first|exact ih0 _ _ _|exact Fbm.mono _ _|exact LeO.refl _|exact LeO.none _|refine LeO.ite ?_ ?_|refine LeO.bind ?_ (fun _ => ?_))|exact LeO.none _|refine LeO.ite ?_ ?_|refine LeO.bind ?_ (fun _ => ?_))
theorem Fad.calls (k : Nat) (A0 : Option Addr) (c0 : Nat) (l0 : List ByteArray) (a1 : Int) (r : Int) (w : World) (hr0 : Kd.C Kd.string w A0 l0.length l0) (hc0 : l0.length ≤ c0) (h : Fad.f k l0 a1 = some r) :
  Calls Tryz.prog 152 #[.slice A0 l0.length c0,.func (.func 214) #[] #[]] w fun e w' => e = .returned (.int .i64 r) ∧ Drawn0 w w' := by
 have HR0 := aM hr0;have HC0 := aM hc0;clear hr0 hc0;have H : (Fad.l0 k l0 (l0.length : Int) 0) = some r := h;clear h;have H' := aM H;clear H;go_enter Tryz.func152,Tryz.ntmps152;go_wp2;go_loopg [8] k (fun kq v8 w' => ∃ (aa : Int),v8 = .int .i64 aa ∧ Aside0 (Fad.l0 kq l0 (l0.length : Int) aa = some r) ∧ Aside0 (kq ≤ k) ∧ Drawn0 w w')
 case atStart => exact ⟨(0),vR_,H',⟨Nat.le_refl _⟩,dw_⟩
 case round =>
  clear H';obtain ⟨aa,rfl,HA,ad,⟨m1,rfl⟩⟩ := hrel
  cases gk with
  | zero => exact absurd HA.out (by simp [Fad.l0])
  | succ k1 =>
   have H := HA.out;clear HA;simp only [Fad.l0] at H
   by_cases c3 : aa < (l0.length : Int)
   focus
    rw [if_pos c3] at H;have ab := dT c3;clear c3
    by_cases c4 : 0 ≤ aa
    rotate_left;rw [if_neg c4] at H;exact nH_ H;rw [if_pos c4] at H;have c4b0 := dT c4;clear c4
    by_cases c5 : aa < (l0.length : Int)
    rotate_left;rw [if_neg c5] at H;exact nH_ H;rw [if_pos c5] at H;have c5b0 := dT c5;clear c5;obtain ⟨ac,A6,H⟩ := bE_ H
    by_cases c7 : ac = true
    focus
     subst c7;rw [if_pos rfl] at H;obtain rfl := oI H
    rotate_left
    focus
     replace c7 := qO.mpr c7;subst c7;rw [if_neg qT] at H;have H' := aM H;clear H
   rotate_left 2
   focus
    rw [if_neg c3] at H;have ab := dF c3;clear c3;obtain rfl := oI H
   all_goals
    (try (have p01 : 0 ≤ (aa : Int) := oD (by assumption);have q01 : aa < (l0.length : Int) := oD (by assumption);obtain ⟨ad01,ae,hx01_0⟩ := Kd.at_string HR0.out aa p01 q01;cases ae;replace p01 := eq_true p01;replace q01 := eq_true q01));go_wp2_with (first|(go_at_call 214;(with_reducible refine (Fbm.calls _ _ _ _ A6.out).mono ?_);rintro e w' ⟨rfl,⟨nd,rfl⟩⟩))
    first
     |
      go_ret;exact ⟨vR_,dw_⟩
     |
      go_roundg k1
      case measure => have := ad.out;omega
      case rel => exact ⟨(wrap64 (aa + 1)),vR_,H',⟨by have := ad.out;omega⟩,dw_⟩
def FaJ.f (k : Nat) (l0 : List ByteArray) (a1 : Int) : Option (Bool) := (Fad.f k l0 a1).bind fun aa => (some (decide (aa ≥ 0)))
theorem FaJ.mono : ∀ a0 a1 k,LeO (FaJ.f k a0 a1) (FaJ.f (k + 1) a0 a1) := by
 intro a0 a1 k
 unfold FaJ.f
 repeat' (first|with_reducible (first|exact Fad.mono _ _ _|exact LeO.refl _|exact LeO.none _|refine LeO.ite ?_ ?_|refine LeO.bind ?_ (fun _ => ?_))|exact LeO.none _|refine LeO.ite ?_ ?_|refine LeO.bind ?_ (fun _ => ?_))
theorem FaJ.calls (k : Nat) (A0 : Option Addr) (c0 : Nat) (l0 : List ByteArray) (a1 : Int) (r : Bool) (w : World) (hr0 : Kd.C Kd.string w A0 l0.length l0) (hc0 : l0.length ≤ c0) (h : FaJ.f k l0 a1 = some r) :
  Calls Tryz.prog 99 #[.slice A0 l0.length c0,.func (.func 214) #[] #[]] w fun e w' => e = .returned (.bool r) ∧ Drawn0 w w' := by
 have HR0 := aM hr0;have HC0 := aM hc0;clear hr0 hc0;have H : ((Fad.f k l0 a1).bind fun aa => (some (decide (aa ≥ 0)))) = some r := h;clear h;obtain ⟨aa,A3,H⟩ := bE_ H;obtain rfl := oI H;go_enter Tryz.func99,Tryz.ntmps99;go_wp2_with (first|((with_reducible refine gate_callee (f := 152) rfl ?_);refine gl_ (some 7) Tryz.func152 #[.slice A0 l0.length c0,.func (.func 214) #[] #[]] ?_;(with_reducible refine (Fad.calls k _ _ l0 a1 aa _ ?side1 ?side2 A3.out).mono ?_);(case side1 => repeat (first|exact HR0.out|(with_reducible first|refine cA ?_ _|refine cN ?_ _|refine cD ?_)));(case side2 => exact HC0.out);rintro e w' ⟨rfl,⟨nd,rfl⟩⟩;refine ⟨_,rfl,?_⟩));go_ret;exact ⟨vR_,dw_⟩
def FaL.j0 : Nat → Bool → List ByteArray → ByteArray → ByteArray → ByteArray → Option (Bool)
 | 0,_,_,_,_,_ => none
 | k + 1,x11,x453000,ab,ac,aa => if x11 = true then (some false) else ((Fan.f k ab).bind fun ad => (if ad = true then ((Fbf.f k ac).bind fun ae => (if ae = true then (if aa.toList = ([] : List UInt8) then (some true) else ((Fae.f k aa).bind fun af => (some af))) else (some false))) else (some false)))
def FaL.f (k : Nat) (aa : List ByteArray) (ab : ByteArray) (ac : ByteArray) (ad : ByteArray) : Option (Bool) := if (aa.length : Int) > 3 then (FaL.j0 k true aa ab ac ad) else ((FaJ.f k aa 0).bind fun ae => (FaL.j0 k ae aa ab ac ad))
theorem FaL.mono_l : ∀ k,(∀ y0 y1 y2 y3 y4,LeO (FaL.j0 k y0 y1 y2 y3 y4) (FaL.j0 (k + 1) y0 y1 y2 y3 y4))
 | 0 => fun _ _ _ _ _ r h => by simp [FaL.j0] at h
 | k + 1 => by
  have ih0 := FaL.mono_l k
  ·intro y0 y1 y2 y3 y4
   unfold FaL.j0
   repeat' (first|with_reducible (first|exact ih0 _ _ _ _ _|exact Fbf.mono _ _|exact Fae.mono _ _|exact Fan.mono _ _|exact FaJ.mono _ _ _|exact LeO.refl _|exact LeO.none _|refine LeO.ite ?_ ?_|refine LeO.bind ?_ (fun _ => ?_))|exact LeO.none _|refine LeO.ite ?_ ?_|refine LeO.bind ?_ (fun _ => ?_))
theorem FaL.mono : ∀ a0 a1 a2 a3 k,LeO (FaL.f k a0 a1 a2 a3) (FaL.f (k + 1) a0 a1 a2 a3) := by
 intro a0 a1 a2 a3 k
 have ih0 := FaL.mono_l k
 unfold FaL.f
 repeat' (first|with_reducible (first|exact ih0 _ _ _ _ _|exact Fbf.mono _ _|exact Fae.mono _ _|exact Fan.mono _ _|exact FaJ.mono _ _ _|exact LeO.refl _|exact LeO.none _|refine LeO.ite ?_ ?_|refine LeO.bind ?_ (fun _ => ?_))|exact LeO.none _|refine LeO.ite ?_ ?_|refine LeO.bind ?_ (fun _ => ?_))
theorem FaL.calls (k : Nat) (ap : Option Addr) (ar : Nat) (aa : List ByteArray) (ac : ByteArray) (ae : ByteArray) (ad : ByteArray) (r : Bool) (w : World) (au : Kd.C Kd.string w ap aa.length aa) (av : aa.length ≤ ar) (hG : Gm w) (h : FaL.f k aa ac ae ad = some r) :
  Calls Tryz.prog 167 #[.agg #[.slice ap aa.length ar,.string ac,.string ae,.string ad]] w fun e w' => e = .returned (.bool r) ∧ Below w.heap.size w w' := by
 have hu157 := Tryz.underlying157;have az := aM au;have aA := aM av;clear au av;have HB := aM (Below.refl w.heap.size w);have HG := aM hG;clear hG;have H : (if (aa.length : Int) > 3 then (FaL.j0 k true aa ac ae ad) else ((FaJ.f k aa 0).bind fun ax => (FaL.j0 k ax aa ac ae ad))) = some r := h;clear h;have aF := aM H;clear H;go_enter Tryz.func167,Tryz.ntmps167;go_upto_region 1 with (first|((with_reducible refine gate_dst (N := 1) rfl ?_);refine bx_ (N := 1) (cs := #[.slice ap aa.length ar,.string ac,.string ae,.string ad]) (t := 157) ?_;intro aw hg w3 hbox hb;have ab := aM (hbox);have aC := aM ((by rw [hg];exact (lZ wB_) : w.heap.size ≤ aw));have GE452 := aC;replace HB := aM (lT wB_ hb);clear hb hbox hg));(try simp only [Act.put,lI,sZ,sS]);go_cut [11] (fun aK wc => ∃ (kq : Nat) (af : Bool),aK = .bool af ∧ Aside0 (FaL.j0 kq af aa ac ae ad = some r) ∧ Aside0 (kq ≤ k) ∧ Aside0 (wc.heap[aw]? = some (.cells #[(.slice ap aa.length ar),.string ac,.string ae,.string ad] 157 (0,0))) ∧ Aside0 (Below w.heap.size w wc))
 case first =>
  have H := aF.out;clear aF
  by_cases c4 : (aa.length : Int) > 3
  focus
   rw [if_pos c4] at H;have ao : decide (3 < (aa.length : Int)) = true := dT c4;have aG : decide (3 < aa.length) = true := dT (by omega);clear c4;(first|rw [ao]|(simp only [i64_w,i32_w];rw [ao])|skip);have H' := aM H;clear H
  rotate_left
  focus
   rw [if_neg c4] at H;have ao : decide (3 < (aa.length : Int)) = false := dF c4;have aG : decide (3 < aa.length) = false := dF (by omega);clear c4;(first|rw [ao]|(simp only [i64_w,i32_w];rw [ao])|skip);obtain ⟨ax,A6,H⟩ := bE_ H;have H' := aM H;clear H
  all_goals
   obtain ⟨ag,ah,ai,aj,ak,al,am,an⟩ := z4_ ab.out;go_wp2_with (first|(go_at_call 99;(with_reducible refine (FaJ.calls _ _ _ _ _ _ _ ?side1 ?side2 A6.out).mono ?_);(case side1 => exact wX_ az.out);(case side2 => exact aA.out);rintro e w' ⟨rfl,⟨nd,rfl⟩⟩));go_meet
   case rel => first|(exact ⟨_,(true),vR_,H',⟨by first|omega|exact Nat.le_refl _⟩,⟨wC_ ab.out⟩,⟨wB_⟩⟩)|(exact ⟨_,(ax),vR_,H',⟨by first|omega|exact Nat.le_refl _⟩,⟨wC_ ab.out⟩,⟨wB_⟩⟩)
 case rest =>
  clear aF;obtain ⟨kq,af,rfl,HA,HJ1,ab,HB⟩ := hcut
  cases kq with
  | zero => exact absurd HA.out (by simp [FaL.j0])
  | succ kj1 =>
   have H := HA.out;clear HA;simp only [FaL.j0] at H
   by_cases c8 : af = true
   focus
    subst c8;rw [if_pos rfl] at H;obtain rfl := oI H
   rotate_left
   focus
    replace c8 := qO.mpr c8;subst c8;rw [if_neg qT] at H;obtain ⟨aH,A9,H⟩ := bE_ H
    by_cases c10 : aH = true
    focus
     subst c10;rw [if_pos rfl] at H;obtain ⟨aJ,aL,H⟩ := bE_ H
     by_cases c12 : aJ = true
     focus
      subst c12;rw [if_pos rfl] at H
      by_cases ay : ad.toList = ([] : List UInt8)
      focus
       rw [if_pos ay] at H;have aD := qE.mpr ay;have aE := qN.mpr ay;clear ay;obtain rfl := oI H
      rotate_left
      focus
       rw [if_neg ay] at H;have aD := qF.mpr ay;have aE := qB.mpr ay;obtain ⟨t456,aN,H⟩ := bE_ H;obtain rfl := oI H
     rotate_left 2
     focus
      replace c12 := qO.mpr c12;subst c12;rw [if_neg qT] at H;obtain rfl := oI H
    rotate_left 3
    focus
     replace c10 := qO.mpr c10;subst c10;rw [if_neg qT] at H;obtain rfl := oI H
   all_goals
    (try obtain ⟨ag,ah,ai,aj,ak,al,am,an⟩ := z4_ ab.out);go_wp2_with (first|((with_reducible refine gate_callee (f := 216) rfl ?_);refine gl_ (some 14) Tryz.func216 #[.string ac] ?_;(with_reducible refine (Fan.calls _ _ _ _ ?side1 A9.out).mono ?_);(case side1 => exact Gm.below HG.out wB_);rintro e WA9 ⟨rfl,hb⟩;refine ⟨_,rfl,?_⟩;replace ab := aM (bw_ ab.out hb);replace HB := aM (lT wB_ hb);obtain ⟨_,_,_,_,_,_,_,_⟩ := z4_ ab.out)|(go_at_call 215;(with_reducible refine (Fbf.calls _ _ _ _ aL.out).mono ?_);rintro e w' ⟨rfl,⟨nd,rfl⟩⟩)|(go_at_call 217;(with_reducible refine (Fae.calls _ _ _ _ aN.out).mono ?_);rintro e w' ⟨rfl,⟨nd,rfl⟩⟩));go_ret;exact ⟨vR_,wB_⟩
def Fbx.f (k : Nat) (aa : List ByteArray) (ab : ByteArray) (ac : ByteArray) (ad : ByteArray) : Option (Bool) := (FaL.f k aa ab ac ad).bind fun ae => (some (!ae))
theorem Fbx.mono : ∀ a0 a1 a2 a3 k,LeO (Fbx.f k a0 a1 a2 a3) (Fbx.f (k + 1) a0 a1 a2 a3) := by
 intro a0 a1 a2 a3 k
 unfold Fbx.f
 repeat' (first|with_reducible (first|exact FaL.mono _ _ _ _ _|exact LeO.refl _|exact LeO.none _|refine LeO.ite ?_ ?_|refine LeO.bind ?_ (fun _ => ?_))|exact LeO.none _|refine LeO.ite ?_ ?_|refine LeO.bind ?_ (fun _ => ?_))
theorem Fbx.calls (k : Nat) (af : Option Addr) (ag : Nat) (aa : List ByteArray) (ab : ByteArray) (ac : ByteArray) (ad : ByteArray) (r : Bool) (w : World) (ah : Kd.C Kd.string w af aa.length aa) (ai : aa.length ≤ ag) (hG : Gm w) (h : Fbx.f k aa ab ac ad = some r) :
  Calls Tryz.prog 166 #[.agg #[.slice af aa.length ag,.string ab,.string ac,.string ad]] w fun e w' => e = .returned (.bool r) ∧ Below w.heap.size w w' := by
 have hu157 := Tryz.underlying157;have ak := aM ah;have al := aM ai;clear ah ai;have HB := aM (Below.refl w.heap.size w);have HG := aM hG;clear hG;have H : ((FaL.f k aa ab ac ad).bind fun aj => (some (!aj))) = some r := h;clear h;obtain ⟨aj,A2,H⟩ := bE_ H;obtain rfl := oI H;go_enter Tryz.func166,Tryz.ntmps166;go_wp2_with (first|((with_reducible refine gate_dst (N := 1) rfl ?_);refine bx_ (N := 1) (cs := #[.slice af aa.length ag,.string ab,.string ac,.string ad]) (t := 157) ?_;intro am hg w3 hbox hb;have ae := aM (hbox);have an := aM ((by rw [hg];exact (lZ wB_) : w.heap.size ≤ am));have GE457 := an;replace HB := aM (lT wB_ hb);clear hb hbox hg;obtain ⟨_,_,_,_,_,_,_,_⟩ := z4_ ae.out)|((with_reducible refine gate_callee (f := 167) rfl ?_);refine gl_ (some 4) Tryz.func167 #[.agg #[.slice af aa.length ag,.string ab,.string ac,.string ad]] ?_;(with_reducible refine (FaL.calls k _ _ aa ab ac ad aj _ ?side1 ?side2 ?side3 A2.out).mono ?_);(case side1 => exact wX_ ak.out);(case side2 => exact al.out);(case side3 => exact Gm.below HG.out wB_);rintro e w5 ⟨rfl,hb⟩;refine ⟨_,rfl,?_⟩;replace ae := aM (bw_ ae.out hb);replace HB := aM (lT wB_ hb)));go_ret;exact ⟨vR_,wB_⟩
end Go.Proofs.YtmafmhgmdegplaaGreatDoor.P
