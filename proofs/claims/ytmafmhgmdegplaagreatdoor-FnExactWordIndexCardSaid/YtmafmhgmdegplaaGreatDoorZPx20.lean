/- Walks: each Go function computes the Lean function beside it; conditions: those of each theorem. -/
import Derived.Test.YtmafmhgmdegplaaGreatDoorZPx0
import Derived.Test.YtmafmhgmdegplaaGreatDoorZPx1
import Derived.Test.YtmafmhgmdegplaaGreatDoorZPx18
import Derived.Test.YtmafmhgmdegplaaGreatDoorZShelf
namespace Go.Proofs.YtmafmhgmdegplaaGreatDoor.P
open Go.RowKit Go.Proofs.YtmafmhgmdegplaaGreatDoorW.PrintWords Go.Proofs.YtmafmhgmdegplaaGreatDoorW.PrintLast Go.Proofs.YtmafmhgmdegplaaGreatDoorW.PrintMore
attribute [local go_sem] max2_int min2_int max_two min_two max_three min_three max_four min_four   -- for this text's walks alone
set_option linter.unusedVariables false
set_option linter.unusedSimpArgs false
set_option maxHeartbeats 8000000
set_option maxRecDepth 100000
attribute [local go_sem high] eqA39
def Fa3.l0 : Nat → List (S157) → Int → Int → Option (Int)
 | 0,_,_,_ => none
 | k + 1,x0,x7,x8 => if x8 < x7 then (if 0 ≤ x8 then (if x8 < (x0.length : Int) then ((Fbx.f k ((Fas x0 x8).f0) ((Fas x0 x8).f1) ((Fas x0 x8).f2) ((Fas x0 x8).f3)).bind fun aa => (if aa = true then (some x8) else (Fa3.l0 k x0 x7 (wrap64 (x8 + 1))))) else (none)) else (none)) else (some (-1))
def Fa3.f (k : Nat) (l0 : List (S157)) (a1 : Int) : Option (Int) := Fa3.l0 k l0 (l0.length : Int) 0
theorem Fa3.mono_l : ∀ k,(∀ y0 y1 y2,LeO (Fa3.l0 k y0 y1 y2) (Fa3.l0 (k + 1) y0 y1 y2))
 | 0 => fun _ _ _ r h => by simp [Fa3.l0] at h
 | k + 1 => by
  have ih0 := Fa3.mono_l k
  ·intro y0 y1 y2
   unfold Fa3.l0
   repeat' (first|with_reducible (first|exact ih0 _ _ _|exact Fbx.mono _ _ _ _ _|exact LeO.refl _|exact LeO.none _|refine LeO.ite ?_ ?_|refine LeO.bind ?_ (fun _ => ?_))|exact LeO.none _|refine LeO.ite ?_ ?_|refine LeO.bind ?_ (fun _ => ?_))
theorem Fa3.mono : ∀ a0 a1 k,LeO (Fa3.f k a0 a1) (Fa3.f (k + 1) a0 a1) := by
 intro a0 a1 k
 have ih0 := Fa3.mono_l k
 unfold Fa3.f
 repeat' (first|with_reducible (first|exact ih0 _ _ _|exact Fbx.mono _ _ _ _ _|exact LeO.refl _|exact LeO.none _|refine LeO.ite ?_ ?_|refine LeO.bind ?_ (fun _ => ?_))|exact LeO.none _|refine LeO.ite ?_ ?_|refine LeO.bind ?_ (fun _ => ?_))
theorem Fa3.calls (k : Nat) (A0 : Option Addr) (c0 : Nat) (l0 : List (S157)) (a1 : Int) (r : Int) (w : World) (hr0 : Kd.C k157 w A0 l0.length l0) (hc0 : l0.length ≤ c0) (hG : Gm w) (h : Fa3.f k l0 a1 = some r) :
  Calls Tryz.prog 213 #[.slice A0 l0.length c0,.func (.func 166) #[] #[]] w fun e w' => e = .returned (.int .i64 r) ∧ Below w.heap.size w w' := by
 have hu157 := Tryz.underlying157;have HR0 := aM hr0;have HC0 := aM hc0;clear hr0 hc0;have HB := aM (Below.refl w.heap.size w);have HG := aM hG;clear hG;have H : (Fa3.l0 k l0 (l0.length : Int) 0) = some r := h;clear h;have H' := aM H;clear H;go_enter Tryz.func213,Tryz.ntmps213;go_wp2;go_loopg [8] k (fun kq v8 w' => ∃ (aa : Int),v8 = .int .i64 aa ∧ Aside0 (Fa3.l0 kq l0 (l0.length : Int) aa = some r) ∧ Aside0 (kq ≤ k) ∧ Aside0 (Below w.heap.size w w'))
 case atStart => exact ⟨(0),vR_,H',⟨Nat.le_refl _⟩,⟨wB_⟩⟩
 case round =>
  clear H';obtain ⟨aa,rfl,HA,al,HB⟩ := hrel
  cases gk with
  | zero => exact absurd HA.out (by simp [Fa3.l0])
  | succ k1 =>
   have H := HA.out;clear HA;simp only [Fa3.l0] at H
   by_cases c3 : aa < (l0.length : Int)
   focus
    rw [if_pos c3] at H;have aj := dT c3;clear c3
    by_cases c4 : 0 ≤ aa
    rotate_left;rw [if_neg c4] at H;exact nH_ H;rw [if_pos c4] at H;have c4b0 := dT c4;clear c4
    by_cases c5 : aa < (l0.length : Int)
    rotate_left;rw [if_neg c5] at H;exact nH_ H;rw [if_pos c5] at H;have c5b0 := dT c5;clear c5;obtain ⟨ak,A6,H⟩ := bE_ H
    by_cases c7 : ak = true
    focus
     subst c7;rw [if_pos rfl] at H;obtain rfl := oI H
    rotate_left
    focus
     replace c7 := qO.mpr c7;subst c7;rw [if_neg qT] at H;have H' := aM H;clear H
   rotate_left 2
   focus
    rw [if_neg c3] at H;have aj := dF c3;clear c3;obtain rfl := oI H
   all_goals
    (try (have p01 : 0 ≤ (aa : Int) := oD (by assumption);have q01 : aa < (l0.length : Int) := oD (by assumption);obtain ⟨ad01,A01_0,c01_0,am,ab,ac,ad,ae,af,ag⟩ := Fcf HR0.out aa p01 q01;cases am;replace ab := mv_ HB.out ab;replace ac := mv_ HB.out ac;replace ad := mv_ HB.out ad;replace ae := mv_ HB.out ae;have ah := aM ag;have ai := aM af;clear ag af;replace p01 := eq_true p01;replace q01 := eq_true q01));go_wp2_with (first|(go_at_call 166;(with_reducible refine (Fbx.calls _ _ _ _ _ _ _ _ _ ?side1 ?side2 ?side3 A6.out).mono ?_);(case side1 => exact wX_ ah.out);(case side2 => exact ai.out);(case side3 => exact Gm.below HG.out wB_);rintro e WA6 ⟨rfl,hb⟩;replace HB := aM (lT wB_ hb)))
    first
     |
      go_ret;exact ⟨vR_,wB_⟩
     |
      go_roundg k1
      case measure => have := al.out;omega
      case rel => exact ⟨(wrap64 (aa + 1)),vR_,H',⟨by have := al.out;omega⟩,⟨wB_⟩⟩
def FbG.f (k : Nat) (l0 : List (S157)) (a1 : Int) : Option (Bool) := (Fa3.f k l0 a1).bind fun aa => (some (decide (aa ≥ 0)))
theorem FbG.mono : ∀ a0 a1 k,LeO (FbG.f k a0 a1) (FbG.f (k + 1) a0 a1) := by
 intro a0 a1 k
 unfold FbG.f
 repeat' (first|with_reducible (first|exact Fa3.mono _ _ _|exact LeO.refl _|exact LeO.none _|refine LeO.ite ?_ ?_|refine LeO.bind ?_ (fun _ => ?_))|exact LeO.none _|refine LeO.ite ?_ ?_|refine LeO.bind ?_ (fun _ => ?_))
theorem FbG.calls (k : Nat) (A0 : Option Addr) (c0 : Nat) (l0 : List (S157)) (a1 : Int) (r : Bool) (w : World) (hr0 : Kd.C k157 w A0 l0.length l0) (hc0 : l0.length ≤ c0) (hG : Gm w) (h : FbG.f k l0 a1 = some r) :
  Calls Tryz.prog 165 #[.slice A0 l0.length c0,.func (.func 166) #[] #[]] w fun e w' => e = .returned (.bool r) ∧ Below w.heap.size w w' := by
 have HR0 := aM hr0;have HC0 := aM hc0;clear hr0 hc0;have HB := aM (Below.refl w.heap.size w);have HG := aM hG;clear hG;have H : ((Fa3.f k l0 a1).bind fun aa => (some (decide (aa ≥ 0)))) = some r := h;clear h;obtain ⟨aa,A3,H⟩ := bE_ H;obtain rfl := oI H;go_enter Tryz.func165,Tryz.ntmps165;go_wp2_with (first|((with_reducible refine gate_callee (f := 213) rfl ?_);refine gl_ (some 7) Tryz.func213 #[.slice A0 l0.length c0,.func (.func 166) #[] #[]] ?_;(with_reducible refine (Fa3.calls k _ _ l0 a1 aa _ ?side1 ?side2 ?side3 A3.out).mono ?_);(case side1 => repeat (first|exact HR0.out|(with_reducible first|refine cA ?_ _|refine cN ?_ _|refine cD ?_)));(case side2 => exact HC0.out);(case side3 => exact Gm.below HG.out wB_);rintro e w4 ⟨rfl,hb⟩;refine ⟨_,rfl,?_⟩;replace HB := aM (lT wB_ hb)));go_ret;exact ⟨vR_,wB_⟩
def Fbl.f (k : Nat) (l0 : List (S157)) : Option (Bool) := if (l0.length : Int) ≤ 4 then ((FbG.f k l0 0).bind fun aa => (some (!aa))) else (some false)
theorem Fbl.mono : ∀ a0 k,LeO (Fbl.f k a0) (Fbl.f (k + 1) a0) := by
 intro a0 k
 unfold Fbl.f
 repeat' (first|with_reducible (first|exact FbG.mono _ _ _|exact LeO.refl _|exact LeO.none _|refine LeO.ite ?_ ?_|refine LeO.bind ?_ (fun _ => ?_))|exact LeO.none _|refine LeO.ite ?_ ?_|refine LeO.bind ?_ (fun _ => ?_))
theorem Fbl.calls (k : Nat) (A0 : Option Addr) (c0 : Nat) (l0 : List (S157)) (r : Bool) (w : World) (hr0 : Kd.C k157 w A0 l0.length l0) (hc0 : l0.length ≤ c0) (hG : Gm w) (h : Fbl.f k l0 = some r) :
  Calls Tryz.prog 128 #[.slice A0 l0.length c0] w fun e w' => e = .returned (.bool r) ∧ Below w.heap.size w w' := by
 have HR0 := aM hr0;have HC0 := aM hc0;clear hr0 hc0;have HB := aM (Below.refl w.heap.size w);have HG := aM hG;clear hG;have H : (if (l0.length : Int) ≤ 4 then ((FbG.f k l0 0).bind fun aa => (some (!aa))) else (some false)) = some r := h;clear h
 by_cases c2 : (l0.length : Int) ≤ 4
 focus
  rw [if_pos c2] at H;have ab := dT c2;have ac : decide (l0.length ≤ 4) = true := dT (by omega);clear c2;obtain ⟨aa,A3,H⟩ := bE_ H;obtain rfl := oI H
 rotate_left
 focus
  rw [if_neg c2] at H;have ab := dF c2;have ac : decide (l0.length ≤ 4) = false := dF (by omega);clear c2;obtain rfl := oI H
 all_goals
  go_enter Tryz.func128,Tryz.ntmps128;go_wp2_with (first|(go_at_call 165;(with_reducible refine (FbG.calls _ _ _ _ _ _ _ ?side1 ?side2 ?side3 A3.out).mono ?_);(case side1 => repeat (first|exact HR0.out|(with_reducible first|refine cA ?_ _|refine cN ?_ _|refine cD ?_)));(case side2 => exact HC0.out);(case side3 => exact Gm.below HG.out wB_);rintro e WA3 ⟨rfl,hb⟩;replace HB := aM (lT wB_ hb)));go_ret;exact ⟨vR_,wB_⟩
def FbJ.f (a0 : Int) (a1 : Int) : Option (Int) := if a1 = 2 then (if (Int.tmod a0 4) = 0 then (if (Int.tmod a0 100) = 0 then (if (Int.tmod a0 400) = 0 then (some 29) else (some 28)) else (some 29)) else (some 28)) else (if a1 = 4 then (some 30) else (if a1 = 6 then (some 30) else (if a1 = 9 then (some 30) else (if a1 = 11 then (some 30) else (some 31)))))
theorem FbJ.calls (a0 : Int) (a1 : Int) (r : Int) (w : World) (h : FbJ.f a0 a1 = some r) :
  Calls Tryz.prog 168 #[.int .i64 a0,.int .i64 a1] w fun e w' => e = .returned (.int .i64 r) ∧ Drawn0 w w' := by
 have H : (if a1 = 2 then (if (Int.tmod a0 4) = 0 then (if (Int.tmod a0 100) = 0 then (if (Int.tmod a0 400) = 0 then (some 29) else (some 28)) else (some 29)) else (some 28)) else (if a1 = 4 then (some 30) else (if a1 = 6 then (some 30) else (if a1 = 9 then (some 30) else (if a1 = 11 then (some 30) else (some 31)))))) = some r := h;clear h
 by_cases c3 : a1 = 2
 focus
  rw [if_pos c3] at H;have ac := qE.mpr c3;have ad := qN.mpr c3;clear c3
  by_cases c4 : (Int.tmod a0 4) = 0
  focus
   rw [if_pos c4] at H;have ae := qE.mpr c4;have af := qN.mpr c4;clear c4
   by_cases c5 : (Int.tmod a0 100) = 0
   focus
    rw [if_pos c5] at H;have ag := qE.mpr c5;have ah := qN.mpr c5;clear c5
    by_cases c6 : (Int.tmod a0 400) = 0
    focus
     rw [if_pos c6] at H;have ai := qE.mpr c6;have aj := qN.mpr c6;clear c6;obtain rfl := oI H
    rotate_left
    focus
     rw [if_neg c6] at H;have ai := qF.mpr c6;have aj := qB.mpr c6;obtain rfl := oI H
   rotate_left 2
   focus
    rw [if_neg c5] at H;have ag := qF.mpr c5;have ah := qB.mpr c5;obtain rfl := oI H
  rotate_left 3
  focus
   rw [if_neg c4] at H;have ae := qF.mpr c4;have af := qB.mpr c4;obtain rfl := oI H
 rotate_left 4
 focus
  rw [if_neg c3] at H;have ac := qF.mpr c3;have ad := qB.mpr c3
  by_cases c7 : a1 = 4
  focus
   rw [if_pos c7] at H;have ak := qE.mpr c7;have al := qN.mpr c7;clear c7;obtain rfl := oI H
  rotate_left
  focus
   rw [if_neg c7] at H;have ak := qF.mpr c7;have al := qB.mpr c7
   by_cases c8 : a1 = 6
   focus
    rw [if_pos c8] at H;have am := qE.mpr c8;have an := qN.mpr c8;clear c8;obtain rfl := oI H
   rotate_left
   focus
    rw [if_neg c8] at H;have am := qF.mpr c8;have an := qB.mpr c8
    by_cases c9 : a1 = 9
    focus
     rw [if_pos c9] at H;have ao := qE.mpr c9;have ap := qN.mpr c9;clear c9;obtain rfl := oI H
    rotate_left
    focus
     rw [if_neg c9] at H;have ao := qF.mpr c9;have ap := qB.mpr c9
     by_cases c10 : a1 = 11
     focus
      rw [if_pos c10] at H;have aa := qE.mpr c10;have ab := qN.mpr c10;clear c10;obtain rfl := oI H
     rotate_left
     focus
      rw [if_neg c10] at H;have aa := qF.mpr c10;have ab := qB.mpr c10;obtain rfl := oI H
 all_goals
  go_enter Tryz.func168,Tryz.ntmps168;go_wp2;go_ret;exact ⟨vR_,dw_⟩
def Faw.j0 : Nat → Bool → Int → Int → Int → Bool → Option (Bool)
 | 0,_,_,_,_,_ => none
 | k + 1,af,ac,aa,ab,x464003 => if af = true then (some false) else (if aa = 0 then (some (ab == 0)) else ((FbJ.f ac aa).bind fun ad => ((Fa5.f ab 0 ad).bind fun ae => (some ae))))
def Faw.f (k : Nat) (ab : Int) (aa : Int) (ad : Int) (ac : Bool) : Option (Bool) := if (ab == 0 && (aa == 0 && (ad == 0 && (!ac)))) = true then (some true) else ((Fa5.f ab 1 2999).bind fun ae => (if ae = true then ((Fa5.f aa 0 12).bind fun af => (if af = true then (if ac = true then (Faw.j0 k (aa != 0) ab aa ad ac) else (Faw.j0 k false ab aa ad ac)) else (Faw.j0 k true ab aa ad ac))) else (Faw.j0 k true ab aa ad ac)))
theorem Faw.mono_l : ∀ k,(∀ y0 y1 y2 y3 y4,LeO (Faw.j0 k y0 y1 y2 y3 y4) (Faw.j0 (k + 1) y0 y1 y2 y3 y4))
 | 0 => fun _ _ _ _ _ r h => by simp [Faw.j0] at h
 | k + 1 => by
  have ih0 := Faw.mono_l k
  ·intro y0 y1 y2 y3 y4
   unfold Faw.j0
   repeat' (first|with_reducible (first|exact ih0 _ _ _ _ _|exact LeO.refl _|exact LeO.none _|refine LeO.ite ?_ ?_|refine LeO.bind ?_ (fun _ => ?_))|exact LeO.none _|refine LeO.ite ?_ ?_|refine LeO.bind ?_ (fun _ => ?_))
theorem Faw.mono : ∀ a0 a1 a2 a3 k,LeO (Faw.f k a0 a1 a2 a3) (Faw.f (k + 1) a0 a1 a2 a3) := by
 intro a0 a1 a2 a3 k
 have ih0 := Faw.mono_l k
 unfold Faw.f
 repeat' (first|with_reducible (first|exact ih0 _ _ _ _ _|exact LeO.refl _|exact LeO.none _|refine LeO.ite ?_ ?_|refine LeO.bind ?_ (fun _ => ?_))|exact LeO.none _|refine LeO.ite ?_ ?_|refine LeO.bind ?_ (fun _ => ?_))
theorem Faw.calls (k : Nat) (ae : Int) (ab : Int) (af : Int) (ac : Bool) (r : Bool) (w : World) (h : Faw.f k ae ab af ac = some r) :
  Calls Tryz.prog 129 #[.agg #[.int .i64 ae,.int .i64 ab,.int .i64 af,.bool ac]] w fun e w' => e = .returned (.bool r) ∧ Below w.heap.size w w' := by
 have hu39 := Tryz.underlying39;have HB := aM (Below.refl w.heap.size w);have H : (if (ae == 0 && (ab == 0 && (af == 0 && (!ac)))) = true then (some true) else ((Fa5.f ae 1 2999).bind fun aR => (if aR = true then ((Fa5.f ab 0 12).bind fun aT => (if aT = true then (if ac = true then (Faw.j0 k (ab != 0) ae ab af ac) else (Faw.j0 k false ae ab af ac)) else (Faw.j0 k true ae ab af ac))) else (Faw.j0 k true ae ab af ac)))) = some r := h;clear h
 by_cases c2 : (ae == 0 && (ab == 0 && (af == 0 && (!ac)))) = true
 ·rw [if_pos c2] at H;have a0 : (ae == 0 && (ab == 0 && (af == 0 && (!ac)))) = true := c2;(try (have a1 : decide (ae = 0 && (ab == 0 && (af == 0 && (!ac)))) = true := by simpa using c2));(try (have a2 : (ae == 0 && (ab == 0 && (af == 0 && (!ac)))) = true := by simpa using c2));clear c2;obtain rfl := oI H;go_enter Tryz.func129,Tryz.ntmps129;go_wp2_with (first|((with_reducible refine gate_dst (N := 1) rfl ?_);refine bx_ (N := 1) (cs := #[.int .i64 ae,.int .i64 ab,.int .i64 af,.bool ac]) (t := 39) ?_;intro ad hg w3 hbox hb;have aa := aM (hbox);have ag := aM ((by rw [hg];exact (lZ wB_) : w.heap.size ≤ ad));have ah := ag;replace HB := aM (lT wB_ hb);clear hb hbox hg;obtain ⟨au,av,aw,ax,ay,az,aA,aC⟩ := z4_ aa.out));(repeat (go_quiet (first|((with_reducible refine gate_dst (N := 1) rfl ?_);refine bx_ (N := 1) (cs := #[.int .i64 ae,.int .i64 ab,.int .i64 af,.bool ac]) (t := 39) ?_;intro ad hg w3 hbox hb;have aD := aM (lT wB_ hb);have aE := aM (hbox);have aF := aM ((by rw [hg];exact (lZ wB_) : w.heap.size ≤ ad));have aG := aM ((by rw [hg];exact (lZ wB_) : w.heap.size ≤ ad));clear HB;have HB := aD;have aa := aE;have ag := aF;have ah := aG;clear aD aE aF aG;clear hb hbox hg;obtain ⟨au,av,aw,ax,ay,az,aA,aC⟩ := z4_ aa.out));try go_wp2_with (first|((with_reducible refine gate_dst (N := 1) rfl ?_);refine bx_ (N := 1) (cs := #[.int .i64 ae,.int .i64 ab,.int .i64 af,.bool ac]) (t := 39) ?_;intro ad hg w3 hbox hb;have aD := aM (lT wB_ hb);have aE := aM (hbox);have aF := aM ((by rw [hg];exact (lZ wB_) : w.heap.size ≤ ad));have aG := aM ((by rw [hg];exact (lZ wB_) : w.heap.size ≤ ad));clear HB;have HB := aD;have aa := aE;have ag := aF;have ah := aG;clear aD aE aF aG;clear hb hbox hg;obtain ⟨au,av,aw,ax,ay,az,aA,aC⟩ := z4_ aa.out))));go_ret;exact ⟨vR_,wB_⟩
 ·rw [if_neg c2] at H;have a0 : (ae == 0 && (ab == 0 && (af == 0 && (!ac)))) = false := (by simpa using c2);(try (have a1 : decide (ae = 0 && (ab == 0 && (af == 0 && (!ac)))) = false := by simpa using c2));(try (have a2 : (ae == 0 && (ab == 0 && (af == 0 && (!ac)))) = false := by simpa using c2));(try (have c2b3 : ¬ (ae = 0 && (ab == 0 && (af == 0 && (!ac)))) := by simpa using c2));clear c2;have a3 := aM H;clear H;go_enter Tryz.func129,Tryz.ntmps129;go_upto_region 3 with (first|((with_reducible refine gate_dst (N := 1) rfl ?_);refine bx_ (N := 1) (cs := #[.int .i64 ae,.int .i64 ab,.int .i64 af,.bool ac]) (t := 39) ?_;intro ad hg w6 hbox hb;have aa := aM (hbox);have ag := aM ((by rw [hg];exact (lZ wB_) : w.heap.size ≤ ad));have ah := ag;replace HB := aM (lT wB_ hb);clear hb hbox hg;obtain ⟨aH,aJ,aK,aL,aN,aO,aP,aQ⟩ := z4_ aa.out));(repeat (go_quiet (first|((with_reducible refine gate_dst (N := 1) rfl ?_);refine bx_ (N := 1) (cs := #[.int .i64 ae,.int .i64 ab,.int .i64 af,.bool ac]) (t := 39) ?_;intro ad hg w6 hbox hb;have aD := aM (lT wB_ hb);have aE := aM (hbox);have aF := aM ((by rw [hg];exact (lZ wB_) : w.heap.size ≤ ad));have aG := aM ((by rw [hg];exact (lZ wB_) : w.heap.size ≤ ad));clear HB;have HB := aD;have aa := aE;have ag := aF;have ah := aG;clear aD aE aF aG;clear hb hbox hg;obtain ⟨aH,aJ,aK,aL,aN,aO,aP,aQ⟩ := z4_ aa.out));go_upto_region 3 with (first|((with_reducible refine gate_dst (N := 1) rfl ?_);refine bx_ (N := 1) (cs := #[.int .i64 ae,.int .i64 ab,.int .i64 af,.bool ac]) (t := 39) ?_;intro ad hg w6 hbox hb;have aD := aM (lT wB_ hb);have aE := aM (hbox);have aF := aM ((by rw [hg];exact (lZ wB_) : w.heap.size ≤ ad));have aG := aM ((by rw [hg];exact (lZ wB_) : w.heap.size ≤ ad));clear HB;have HB := aD;have aa := aE;have ag := aF;have ah := aG;clear aD aE aF aG;clear hb hbox hg;obtain ⟨aH,aJ,aK,aL,aN,aO,aP,aQ⟩ := z4_ aa.out))));(try simp only [Act.put,lI,sZ,sS]);go_cut [24] (fun a7 wc => ∃ (kq : Nat) (ai : Bool),a7 = .bool ai ∧ Aside0 (Faw.j0 kq ai ae ab af ac = some r) ∧ Aside0 (kq ≤ k) ∧ Aside0 (wc.heap[ad]? = some (.cells #[.int .i64 ae,.int .i64 ab,.int .i64 af,.bool ac] 39 (0,0))) ∧ Aside0 (Below w.heap.size w wc))
  case first =>
   have H := a3.out;clear a3;obtain ⟨aR,A8,H⟩ := bE_ H
   by_cases c9 : aR = true
   focus
    subst c9;rw [if_pos rfl] at H;obtain ⟨aT,a4,H⟩ := bE_ H
    by_cases aX : aT = true
    focus
     subst aX;rw [if_pos rfl] at H
     by_cases aY : ac = true
     focus
      subst aY;rw [if_pos rfl] at H;have H' := aM H;clear H
     rotate_left
     focus
      replace aY := qO.mpr aY;subst aY;rw [if_neg qT] at H;have H' := aM H;clear H
    rotate_left 2
    focus
     replace aX := qO.mpr aX;subst aX;rw [if_neg qT] at H;have H' := aM H;clear H
   rotate_left 3
   focus
    replace c9 := qO.mpr c9;subst c9;rw [if_neg qT] at H;have H' := aM H;clear H
   all_goals
    obtain ⟨aj,ak,al,am,an,ao,ap,ar⟩ := z4_ aa.out;go_wp2_with (first|(go_at_call 130;(with_reducible refine (Fa5.calls _ _ _ _ _ A8.out).mono ?_);rintro e w' ⟨rfl,⟨nd,rfl⟩⟩;(try first|exact ⟨rfl,_,wD _ _ _⟩|exact ⟨rfl,_,Eq.trans (wD _ _ _) (congrArg (World.drewN _) (Nat.add_assoc _ _ _))⟩))|(go_at_call 130;(with_reducible refine (Fa5.calls _ _ _ _ _ a4.out).mono ?_);rintro e w' ⟨rfl,⟨nd,rfl⟩⟩;(try first|exact ⟨rfl,_,wD _ _ _⟩|exact ⟨rfl,_,Eq.trans (wD _ _ _) (congrArg (World.drewN _) (Nat.add_assoc _ _ _))⟩)))
    first
     |
      (repeat (go_quiet (first|(go_at_call 130;(with_reducible refine (Fa5.calls _ _ _ _ _ A8.out).mono ?_);rintro e w' ⟨rfl,⟨nd,rfl⟩⟩;(try first|exact ⟨rfl,_,wD _ _ _⟩|exact ⟨rfl,_,Eq.trans (wD _ _ _) (congrArg (World.drewN _) (Nat.add_assoc _ _ _))⟩)));try go_wp2_with (first|(go_at_call 130;(with_reducible refine (Fa5.calls _ _ _ _ _ A8.out).mono ?_);rintro e w' ⟨rfl,⟨nd,rfl⟩⟩;(try first|exact ⟨rfl,_,wD _ _ _⟩|exact ⟨rfl,_,Eq.trans (wD _ _ _) (congrArg (World.drewN _) (Nat.add_assoc _ _ _))⟩)))));go_meet
      case rel => exact ⟨_,(true),vR_,H',⟨by first|omega|exact Nat.le_refl _⟩,⟨wC_ aa.out⟩,⟨wB_⟩⟩
     |
      (repeat (go_quiet (first|(go_at_call 130;(with_reducible refine (Fa5.calls _ _ _ _ _ A8.out).mono ?_);rintro e w' ⟨rfl,⟨nd,rfl⟩⟩;(try first|exact ⟨rfl,_,wD _ _ _⟩|exact ⟨rfl,_,Eq.trans (wD _ _ _) (congrArg (World.drewN _) (Nat.add_assoc _ _ _))⟩))|(go_at_call 130;(with_reducible refine (Fa5.calls _ _ _ _ _ a4.out).mono ?_);rintro e w' ⟨rfl,⟨nd,rfl⟩⟩;(try first|exact ⟨rfl,_,wD _ _ _⟩|exact ⟨rfl,_,Eq.trans (wD _ _ _) (congrArg (World.drewN _) (Nat.add_assoc _ _ _))⟩)));try go_wp2_with (first|(go_at_call 130;(with_reducible refine (Fa5.calls _ _ _ _ _ A8.out).mono ?_);rintro e w' ⟨rfl,⟨nd,rfl⟩⟩;(try first|exact ⟨rfl,_,wD _ _ _⟩|exact ⟨rfl,_,Eq.trans (wD _ _ _) (congrArg (World.drewN _) (Nat.add_assoc _ _ _))⟩))|(go_at_call 130;(with_reducible refine (Fa5.calls _ _ _ _ _ a4.out).mono ?_);rintro e w' ⟨rfl,⟨nd,rfl⟩⟩;(try first|exact ⟨rfl,_,wD _ _ _⟩|exact ⟨rfl,_,Eq.trans (wD _ _ _) (congrArg (World.drewN _) (Nat.add_assoc _ _ _))⟩)))));go_meet
      case rel => first|(exact ⟨_,((ab != 0)),vR_,H',⟨by first|omega|exact Nat.le_refl _⟩,⟨wC_ aa.out⟩,⟨wB_⟩⟩)|(exact ⟨_,(false),vR_,H',⟨by first|omega|exact Nat.le_refl _⟩,⟨wC_ aa.out⟩,⟨wB_⟩⟩)|(exact ⟨_,(true),vR_,H',⟨by first|omega|exact Nat.le_refl _⟩,⟨wC_ aa.out⟩,⟨wB_⟩⟩)
  case rest =>
   clear a3;obtain ⟨kq,ai,rfl,HA,HJ4,aa,HB⟩ := hcut
   cases kq with
   | zero => exact absurd HA.out (by simp [Faw.j0])
   | succ kj4 =>
    have H := HA.out;clear HA;simp only [Faw.j0] at H
    by_cases aZ : ai = true
    focus
     subst aZ;rw [if_pos rfl] at H;obtain rfl := oI H
    rotate_left
    focus
     replace aZ := qO.mpr aZ;subst aZ;rw [if_neg qT] at H
     by_cases aU : ab = 0
     focus
      rw [if_pos aU] at H;have aV := qE.mpr aU;have aW := qN.mpr aU;clear aU;obtain rfl := oI H
     rotate_left
     focus
      rw [if_neg aU] at H;have aV := qF.mpr aU;have aW := qB.mpr aU;obtain ⟨t466,a5,H⟩ := bE_ H;obtain ⟨t467,a6,H⟩ := bE_ H;obtain rfl := oI H
    all_goals
     (try obtain ⟨aj,ak,al,am,an,ao,ap,ar⟩ := z4_ aa.out);go_wp2_with (first|(go_at_call 168;(with_reducible refine (FbJ.calls _ _ _ _ a5.out).mono ?_);rintro e w' ⟨rfl,⟨nd,rfl⟩⟩;(try first|exact ⟨rfl,_,wD _ _ _⟩|exact ⟨rfl,_,Eq.trans (wD _ _ _) (congrArg (World.drewN _) (Nat.add_assoc _ _ _))⟩))|(go_at_call 130;(with_reducible refine (Fa5.calls _ _ _ _ _ a6.out).mono ?_);rintro e w' ⟨rfl,⟨nd,rfl⟩⟩;(try first|exact ⟨rfl,_,wD _ _ _⟩|exact ⟨rfl,_,Eq.trans (wD _ _ _) (congrArg (World.drewN _) (Nat.add_assoc _ _ _))⟩)))
     first
      |
       (repeat (go_quiet (fail);try go_wp2));go_ret;exact ⟨vR_,wB_⟩
      |
       (repeat (go_quiet (first|(go_at_call 168;(with_reducible refine (FbJ.calls _ _ _ _ a5.out).mono ?_);rintro e w' ⟨rfl,⟨nd,rfl⟩⟩;(try first|exact ⟨rfl,_,wD _ _ _⟩|exact ⟨rfl,_,Eq.trans (wD _ _ _) (congrArg (World.drewN _) (Nat.add_assoc _ _ _))⟩))|(go_at_call 130;(with_reducible refine (Fa5.calls _ _ _ _ _ a6.out).mono ?_);rintro e w' ⟨rfl,⟨nd,rfl⟩⟩;(try first|exact ⟨rfl,_,wD _ _ _⟩|exact ⟨rfl,_,Eq.trans (wD _ _ _) (congrArg (World.drewN _) (Nat.add_assoc _ _ _))⟩)));try go_wp2_with (first|(go_at_call 168;(with_reducible refine (FbJ.calls _ _ _ _ a5.out).mono ?_);rintro e w' ⟨rfl,⟨nd,rfl⟩⟩;(try first|exact ⟨rfl,_,wD _ _ _⟩|exact ⟨rfl,_,Eq.trans (wD _ _ _) (congrArg (World.drewN _) (Nat.add_assoc _ _ _))⟩))|(go_at_call 130;(with_reducible refine (Fa5.calls _ _ _ _ _ a6.out).mono ?_);rintro e w' ⟨rfl,⟨nd,rfl⟩⟩;(try first|exact ⟨rfl,_,wD _ _ _⟩|exact ⟨rfl,_,Eq.trans (wD _ _ _) (congrArg (World.drewN _) (Nat.add_assoc _ _ _))⟩)))));go_ret;exact ⟨vR_,wB_⟩
def Fb4.f (a0 a1 : ByteArray) : Option ByteArray := if a0.size ≤ 9223372036854775807 ∧ a1 = ⟨#[32]⟩ then some ⟨(Lib.trimB a0.data.toList 32).toArray⟩ else none
theorem Fb4.calls (a0 a1 : ByteArray) (r : ByteArray) (w : World) (h : Fb4.f a0 a1 = some r) :
  Calls Tryz.prog 218 #[.string a0,.string a1] w fun e w' => e = .returned (.string r) ∧ Drawn0 w w' := by
 unfold Fb4.f at h;split at h
 ·rename_i hs;obtain rfl := oI h;obtain ⟨h1,rfl⟩ := hs;refine (Tryz.strings_Trim_one a0 32 (by decide) w h1).mono ?_;rintro e w' ⟨rfl,rfl|rfl⟩
  ·exact ⟨rfl,Drawn0.refl _⟩
  ·exact ⟨rfl,⟨⟨1,rfl⟩⟩⟩
 ·cases h
def FaM.l0 : Nat → ByteArray → Int → Option (Bool)
 | 0,_,_ => none
 | k + 1,x0,x3 => if x3 < (x0.size : Int) then (if 0 ≤ x3 then (if (bt x0 x3) < 32 then (some false) else (if (bt x0 x3) > 126 then (some false) else (FaM.l0 k x0 (wrap64 (x3 + 1))))) else (none)) else ((Fb4.f x0 (⟨#[32]⟩ : ByteArray)).bind fun aa => (some (aa.toList == x0.toList)))
def FaM.f (k : Nat) (a0 : ByteArray) : Option (Bool) := FaM.l0 k a0 0
theorem FaM.mono_l : ∀ k,(∀ y0 y1,LeO (FaM.l0 k y0 y1) (FaM.l0 (k + 1) y0 y1))
 | 0 => fun _ _ r h => by simp [FaM.l0] at h
 | k + 1 => by
  have ih0 := FaM.mono_l k
  ·intro y0 y1
   unfold FaM.l0
   repeat' (first|with_reducible (first|exact ih0 _ _|exact LeO.refl _|exact LeO.none _|refine LeO.ite ?_ ?_|refine LeO.bind ?_ (fun _ => ?_))|exact LeO.none _|refine LeO.ite ?_ ?_|refine LeO.bind ?_ (fun _ => ?_))
theorem FaM.mono : ∀ a0 k,LeO (FaM.f k a0) (FaM.f (k + 1) a0) := by
 intro a0 k
 have ih0 := FaM.mono_l k
 unfold FaM.f
 repeat' (first|with_reducible (first|exact ih0 _ _|exact LeO.refl _|exact LeO.none _|refine LeO.ite ?_ ?_|refine LeO.bind ?_ (fun _ => ?_))|exact LeO.none _|refine LeO.ite ?_ ?_|refine LeO.bind ?_ (fun _ => ?_))
theorem FaM.calls (k : Nat) (a0 : ByteArray) (r : Bool) (w : World) (h : FaM.f k a0 = some r) :
  Calls Tryz.prog 169 #[.string a0] w fun e w' => e = .returned (.bool r) ∧ Drawn0 w w' := by
 have H : (FaM.l0 k a0 0) = some r := h;clear h;have H' := aM H;clear H;go_enter Tryz.func169,Tryz.ntmps169;go_wp2;go_loopg [3] k (fun kq v3 w' => ∃ (aa : Int),v3 = .int .i64 aa ∧ Aside0 (FaM.l0 kq a0 aa = some r) ∧ Aside0 (kq ≤ k) ∧ Drawn0 w w')
 case atStart => exact ⟨(0),vR_,H',⟨Nat.le_refl _⟩,dw_⟩
 case round =>
  clear H';obtain ⟨aa,rfl,HA,ae,⟨m1,rfl⟩⟩ := hrel
  cases gk with
  | zero => exact absurd HA.out (by simp [FaM.l0])
  | succ k1 =>
   have H := HA.out;clear HA;simp only [FaM.l0] at H
   by_cases c2 : aa < (a0.size : Int)
   focus
    rw [if_pos c2] at H;have ab := dT c2;clear c2
    by_cases c3 : 0 ≤ aa
    rotate_left;rw [if_neg c3] at H;exact nH_ H;rw [if_pos c3] at H;have c3b0 := dT c3;clear c3
    by_cases c5 : (bt a0 aa) < 32
    focus
     rw [if_pos c5] at H;have ac := dT c5;clear c5;obtain rfl := oI H
    rotate_left
    focus
     rw [if_neg c5] at H;have ac := dF c5;clear c5
     by_cases c7 : (bt a0 aa) > 126
     focus
      rw [if_pos c7] at H;have ad : decide (126 < (bt a0 aa)) = true := dT c7;clear c7;obtain rfl := oI H
     rotate_left
     focus
      rw [if_neg c7] at H;have ad : decide (126 < (bt a0 aa)) = false := dF c7;clear c7;have H' := aM H;clear H
   rotate_left 3
   focus
    rw [if_neg c2] at H;have ab := dF c2;clear c2;obtain ⟨t468,A8,H⟩ := bE_ H;obtain rfl := oI H
   all_goals
    (try (have p01 : 0 ≤ (aa : Int) := oD (by assumption);have q01 : aa < (a0.size : Int) := oD (by assumption);have hx01 := bt_at a0 aa;replace p01 := eq_true p01;replace q01 := eq_true q01));go_wp2_with (first|((with_reducible refine gate_callee (f := 218) rfl ?_);refine gl_ (some 21) Tryz.func218 #[.string a0,.string (⟨#[32]⟩ : ByteArray)] ?_;(with_reducible refine (Fb4.calls _ _ _ _ A8.out).mono ?_);rintro e w' ⟨rfl,⟨nd,rfl⟩⟩;refine ⟨_,rfl,?_⟩))
    first
     |
      go_ret;exact ⟨vR_,dw_⟩
     |
      go_roundg k1
      case measure => have := ae.out;omega
      case rel => exact ⟨(wrap64 (aa + 1)),vR_,H',⟨by have := ae.out;omega⟩,dw_⟩
def Fbo.f (k : Nat) (a0 : ByteArray) : Option (Bool) := if (a0.size : Int) ≤ 40 then ((FaM.f k a0).bind fun aa => (some aa)) else (some false)
theorem Fbo.mono : ∀ a0 k,LeO (Fbo.f k a0) (Fbo.f (k + 1) a0) := by
 intro a0 k
 unfold Fbo.f
 repeat' (first|with_reducible (first|exact FaM.mono _ _|exact LeO.refl _|exact LeO.none _|refine LeO.ite ?_ ?_|refine LeO.bind ?_ (fun _ => ?_))|exact LeO.none _|refine LeO.ite ?_ ?_|refine LeO.bind ?_ (fun _ => ?_))
theorem Fbo.calls (k : Nat) (a0 : ByteArray) (r : Bool) (w : World) (h : Fbo.f k a0 = some r) :
  Calls Tryz.prog 131 #[.string a0] w fun e w' => e = .returned (.bool r) ∧ Drawn0 w w' := by
 have H : (if (a0.size : Int) ≤ 40 then ((FaM.f k a0).bind fun aa => (some aa)) else (some false)) = some r := h;clear h
 by_cases c2 : (a0.size : Int) ≤ 40
 focus
  rw [if_pos c2] at H;have ab := dT c2;have ac : decide (a0.size ≤ 40) = true := dT (by omega);clear c2;obtain ⟨aa,A3,H⟩ := bE_ H;obtain rfl := oI H
 rotate_left
 focus
  rw [if_neg c2] at H;have ab := dF c2;have ac : decide (a0.size ≤ 40) = false := dF (by omega);clear c2;obtain rfl := oI H
 all_goals
  go_enter Tryz.func131,Tryz.ntmps131;go_wp2_with (first|(go_at_call 169;(with_reducible refine (FaM.calls _ _ _ _ A3.out).mono ?_);rintro e w' ⟨rfl,⟨nd,rfl⟩⟩));go_ret;exact ⟨vR_,dw_⟩
def Far.j0 : Nat → Bool → ByteArray → Int → List (S157) → List (S157) → ByteArray → ByteArray → ByteArray → Int → Int → Int → Bool → Int → ByteArray → ByteArray → Option (Bool)
 | 0,_,_,_,_,_,_,_,_,_,_,_,_,_,_,_ => none
 | k + 1,al,ab,x471001,x471002,x471003,ac,ad,ae,x471007,x471008,x471009,x471010,x471011,af,aa => if al = true then (some false) else ((Fbo.f k ac).bind fun ag => (if ag = true then ((Fbo.f k ad).bind fun ah => (if ah = true then ((Fbo.f k ae).bind fun ai => (if ai = true then ((Fbo.f k af).bind fun aj => (if aj = true then (if aa.toList = ([] : List UInt8) then (some true) else ((FaE.f k aa).bind fun ak => (if ak = true then (some (aa.toList != ab.toList)) else (some false)))) else (some false))) else (some false))) else (some false))) else (some false)))
def Far.f (k : Nat) (ae : ByteArray) (af : Int) (ag : List (S157)) (ah : List (S157)) (al : ByteArray) (am : ByteArray) (an : ByteArray) (ai : Int) (aj : Int) (ak : Int) (aa : Bool) (ab : Int) (ac : ByteArray) (ad : ByteArray) : Option (Bool) := (FaE.f k ae).bind fun ao => (if ao = true then ((Fb2.f af).bind fun ap => (if ap = true then ((Fbl.f k ag).bind fun ar => (if ar = true then ((Fbl.f k ah).bind fun au => (if au = true then ((Faw.f k ai aj ak aa).bind fun av => (if av = true then ((Fa5.f ab 0 9999).bind fun aw => (Far.j0 k (!aw) ae af ag ah al am an ai aj ak aa ab ac ad)) else (Far.j0 k true ae af ag ah al am an ai aj ak aa ab ac ad))) else (Far.j0 k true ae af ag ah al am an ai aj ak aa ab ac ad))) else (Far.j0 k true ae af ag ah al am an ai aj ak aa ab ac ad))) else (Far.j0 k true ae af ag ah al am an ai aj ak aa ab ac ad))) else (Far.j0 k true ae af ag ah al am an ai aj ak aa ab ac ad))
theorem Far.mono_l : ∀ k,(∀ y0 y1 y2 y3 y4 y5 y6 y7 y8 y9 aa ab ac ad ae,LeO (Far.j0 k y0 y1 y2 y3 y4 y5 y6 y7 y8 y9 aa ab ac ad ae) (Far.j0 (k + 1) y0 y1 y2 y3 y4 y5 y6 y7 y8 y9 aa ab ac ad ae))
 | 0 => fun _ _ _ _ _ _ _ _ _ _ _ _ _ _ _ r h => by simp [Far.j0] at h
 | k + 1 => by
  have ih0 := Far.mono_l k
  ·intro y0 y1 y2 y3 y4 y5 y6 y7 y8 y9 aa ab ac ad ae
   unfold Far.j0
   repeat' (first|with_reducible (first|exact ih0 _ _ _ _ _ _ _ _ _ _ _ _ _ _ _|exact Faw.mono _ _ _ _ _|exact Fbl.mono _ _|exact FaE.mono _ _|exact Fbo.mono _ _|exact LeO.refl _|exact LeO.none _|refine LeO.ite ?_ ?_|refine LeO.bind ?_ (fun _ => ?_))|exact LeO.none _|refine LeO.ite ?_ ?_|refine LeO.bind ?_ (fun _ => ?_))
theorem Far.mono : ∀ a0 a1 a2 a3 a4 a5 a6 a7 a8 a9 aa ab ac ad k,LeO (Far.f k a0 a1 a2 a3 a4 a5 a6 a7 a8 a9 aa ab ac ad) (Far.f (k + 1) a0 a1 a2 a3 a4 a5 a6 a7 a8 a9 aa ab ac ad) := by
 intro a0 a1 a2 a3 a4 a5 a6 a7 a8 a9 aa ab ac ad k
 have ih0 := Far.mono_l k
 unfold Far.f
 repeat' (first|with_reducible (first|exact ih0 _ _ _ _ _ _ _ _ _ _ _ _ _ _ _|exact Faw.mono _ _ _ _ _|exact Fbl.mono _ _|exact FaE.mono _ _|exact Fbo.mono _ _|exact LeO.refl _|exact LeO.none _|refine LeO.ite ?_ ?_|refine LeO.bind ?_ (fun _ => ?_))|exact LeO.none _|refine LeO.ite ?_ ?_|refine LeO.bind ?_ (fun _ => ?_))
theorem Far.calls (k : Nat) (ah : ByteArray) (ai : Int) (aZ : Option Addr) (a0 : Nat) (af : List (S157)) (a1 : Option Addr) (a2 : Nat) (ag : List (S157)) (aj : ByteArray) (an : ByteArray) (ao : ByteArray) (ak : Int) (al : Int) (am : Int) (ab : Bool) (ac : Int) (ae : ByteArray) (ad : ByteArray) (r : Bool) (w : World) (a3 : Kd.C k157 w aZ af.length af) (a4 : af.length ≤ a0) (a5 : Kd.C k157 w a1 ag.length ag) (a6 : ag.length ≤ a2) (hG : Gm w) (h : Far.f k ah ai af ag aj an ao ak al am ab ac ae ad = some r) :
  Calls Tryz.prog 65 #[.agg #[.string ah,.int .i64 ai,.slice aZ af.length a0,.slice a1 ag.length a2,.string aj,.string an,.string ao,.int .i64 ak,.int .i64 al,.int .i64 am,.bool ab,.int .i64 ac,.string ae,.string ad]] w fun e w' => e = .returned (.bool r) ∧ Below w.heap.size w w' := by
 have hu41 := Tryz.underlying41;have hu39 := Tryz.underlying39;have bf := aM a3;have bg := aM a4;clear a3 a4;have bh := aM a5;have bi := aM a6;clear a5 a6;have HB := aM (Below.refl w.heap.size w);have HG := aM hG;clear hG;have H : ((FaE.f k ah).bind fun a8 => (if a8 = true then ((Fb2.f ai).bind fun a9 => (if a9 = true then ((Fbl.f k af).bind fun ba => (if ba = true then ((Fbl.f k ag).bind fun bb => (if bb = true then ((Faw.f k ak al am ab).bind fun bc => (if bc = true then ((Fa5.f ac 0 9999).bind fun bd => (Far.j0 k (!bd) ah ai af ag aj an ao ak al am ab ac ae ad)) else (Far.j0 k true ah ai af ag aj an ao ak al am ab ac ae ad))) else (Far.j0 k true ah ai af ag aj an ao ak al am ab ac ae ad))) else (Far.j0 k true ah ai af ag aj an ao ak al am ab ac ae ad))) else (Far.j0 k true ah ai af ag aj an ao ak al am ab ac ae ad))) else (Far.j0 k true ah ai af ag aj an ao ak al am ab ac ae ad))) = some r := h;clear h;have bv := aM H;clear H;go_enter Tryz.func65,Tryz.ntmps65;go_upto_region 1 with (first|((with_reducible refine gate_dst (N := 1) rfl ?_);refine bx_ (N := 1) (cs := #[.string ah,.int .i64 ai,.slice aZ af.length a0,.slice a1 ag.length a2,.string aj,.string an,.string ao,.int .i64 ak,.int .i64 al,.int .i64 am,.bool ab,.int .i64 ac,.string ae,.string ad]) (t := 41) ?_;intro a7 hg w3 hbox hb;have aa := aM (hbox);have bj := aM ((by rw [hg];exact (lZ wB_) : w.heap.size ≤ a7));have GE470 := bj;replace HB := aM (lT wB_ hb);clear hb hbox hg));(try simp only [Act.put,lI,sZ,sS]);go_cut [36] (fun bH wc => ∃ (kq : Nat) (aA : Bool),bH = .bool aA ∧ Aside0 (Far.j0 kq aA ah ai af ag aj an ao ak al am ab ac ae ad = some r) ∧ Aside0 (kq ≤ k) ∧ Aside0 (wc.heap[a7]? = some (.cells #[.string ah,.int .i64 ai,(.slice aZ af.length a0),(.slice a1 ag.length a2),.string aj,.string an,.string ao,.int .i64 ak,.int .i64 al,.int .i64 am,.bool ab,.int .i64 ac,.string ae,.string ad] 41 (0,0))) ∧ Aside0 (Below w.heap.size w wc))
 case first =>
  have H := bv.out;clear bv;obtain ⟨a8,A4,H⟩ := bE_ H
  by_cases c5 : a8 = true
  focus
   subst c5;rw [if_pos rfl] at H;obtain ⟨a9,A6,H⟩ := bE_ H
   by_cases c7 : a9 = true
   focus
    subst c7;rw [if_pos rfl] at H;obtain ⟨ba,A8,H⟩ := bE_ H
    by_cases c9 : ba = true
    focus
     subst c9;rw [if_pos rfl] at H;obtain ⟨bb,bI,H⟩ := bE_ H
     by_cases bm : bb = true
     focus
      subst bm;rw [if_pos rfl] at H;obtain ⟨bc,bJ,H⟩ := bE_ H
      by_cases bn : bc = true
      focus
       subst bn;rw [if_pos rfl] at H;obtain ⟨bd,bK,H⟩ := bE_ H;have H' := aM H;clear H
      rotate_left
      focus
       replace bn := qO.mpr bn;subst bn;rw [if_neg qT] at H;have H' := aM H;clear H
     rotate_left 2
     focus
      replace bm := qO.mpr bm;subst bm;rw [if_neg qT] at H;have H' := aM H;clear H
    rotate_left 3
    focus
     replace c9 := qO.mpr c9;subst c9;rw [if_neg qT] at H;have H' := aM H;clear H
   rotate_left 4
   focus
    replace c7 := qO.mpr c7;subst c7;rw [if_neg qT] at H;have H' := aM H;clear H
  rotate_left 5
  focus
   replace c5 := qO.mpr c5;subst c5;rw [if_neg qT] at H;have H' := aM H;clear H
  all_goals
   obtain ⟨aC,aD,aE,aF,aG,aH,aJ,aK,aL,aN,ap,ar,au,av,aO,aP,aQ,aR,aT,aU,aV,aW,aX,aY,aw,ax,ay,az⟩ := z14_ aa.out;go_wp2_with (first|((with_reducible refine gate_callee (f := 126) rfl ?_);refine gl_ (some 5) Tryz.func126 #[.string ah] ?_;(with_reducible refine (FaE.calls _ _ _ _ A4.out).mono ?_);rintro e w' ⟨rfl,⟨nd,rfl⟩⟩;refine ⟨_,rfl,?_⟩)|(go_at_call 127;(with_reducible refine (Fb2.calls _ _ _ A6.out).mono ?_);rintro e w' ⟨rfl,⟨nd,rfl⟩⟩)|(go_at_call 128;(with_reducible refine (Fbl.calls _ _ _ _ _ _ ?side1 ?side2 ?side3 A8.out).mono ?_);(case side1 => repeat (first|exact (cB bf.out wB_)|(with_reducible first|refine cA ?_ _|refine cN ?_ _|refine cD ?_)));(case side2 => exact bg.out);(case side3 => exact Gm.below HG.out wB_);rintro e WA8 ⟨rfl,hb⟩;replace aa := aM (bw_ aa.out hb);replace HB := aM (lT wB_ hb);obtain ⟨_,_,_,_,_,_,_,_,_,_,_,_,_,_,_,_,_,_,_,_,_,_,_,_,_,_,_,_⟩ := z14_ aa.out)|(go_at_call 128;(with_reducible refine (Fbl.calls _ _ _ _ _ _ ?side1 ?side2 ?side3 bI.out).mono ?_);(case side1 => exact wX_ bh.out);(case side2 => exact bi.out);(case side3 => exact Gm.below HG.out wB_);rintro e WA10 ⟨rfl,hb⟩;replace aa := aM (bw_ aa.out hb);replace HB := aM (lT wB_ hb);obtain ⟨_,_,_,_,_,_,_,_,_,_,_,_,_,_,_,_,_,_,_,_,_,_,_,_,_,_,_,_⟩ := z14_ aa.out)|(go_at_call 129;(with_reducible refine (Faw.calls _ _ _ _ _ _ _ bJ.out).mono ?_);rintro e WA12 ⟨rfl,hb⟩;replace aa := aM (bw_ aa.out hb);replace HB := aM (lT wB_ hb);obtain ⟨_,_,_,_,_,_,_,_,_,_,_,_,_,_,_,_,_,_,_,_,_,_,_,_,_,_,_,_⟩ := z14_ aa.out)|(go_at_call 130;(with_reducible refine (Fa5.calls _ _ _ _ _ bK.out).mono ?_);rintro e w' ⟨rfl,⟨nd,rfl⟩⟩));go_meet
   case rel => first|(exact ⟨_,(!bd),vR_,H',⟨by first|omega|exact Nat.le_refl _⟩,⟨wC_ aa.out⟩,⟨wB_⟩⟩)|(exact ⟨_,(true),vR_,H',⟨by first|omega|exact Nat.le_refl _⟩,⟨wC_ aa.out⟩,⟨wB_⟩⟩)
 case rest =>
  clear bv;obtain ⟨kq,aA,rfl,HA,HJ1,aa,HB⟩ := hcut
  cases kq with
  | zero => exact absurd HA.out (by simp [Far.j0])
  | succ kj1 =>
   have H := HA.out;clear HA;simp only [Far.j0] at H
   by_cases bo : aA = true
   focus
    subst bo;rw [if_pos rfl] at H;obtain rfl := oI H
   rotate_left
   focus
    replace bo := qO.mpr bo;subst bo;rw [if_neg qT] at H;obtain ⟨bw,bL,H⟩ := bE_ H
    by_cases bp : bw = true
    focus
     subst bp;rw [if_pos rfl] at H;obtain ⟨bz,bM,H⟩ := bE_ H
     by_cases bq : bz = true
     focus
      subst bq;rw [if_pos rfl] at H;obtain ⟨bB,bO,H⟩ := bE_ H
      by_cases br : bB = true
      focus
       subst br;rw [if_pos rfl] at H;obtain ⟨bE,bP,H⟩ := bE_ H
       by_cases bs : bE = true
       focus
        subst bs;rw [if_pos rfl] at H
        by_cases be : ad.toList = ([] : List UInt8)
        focus
         rw [if_pos be] at H;have bk := qE.mpr be;have bl := qN.mpr be;clear be;obtain rfl := oI H
        rotate_left
        focus
         rw [if_neg be] at H;have bk := qF.mpr be;have bl := qB.mpr be;obtain ⟨bG,bQ,H⟩ := bE_ H
         by_cases bu : bG = true
         focus
          subst bu;rw [if_pos rfl] at H;obtain rfl := oI H
         rotate_left
         focus
          replace bu := qO.mpr bu;subst bu;rw [if_neg qT] at H;obtain rfl := oI H
       rotate_left 3
       focus
        replace bs := qO.mpr bs;subst bs;rw [if_neg qT] at H;obtain rfl := oI H
      rotate_left 4
      focus
       replace br := qO.mpr br;subst br;rw [if_neg qT] at H;obtain rfl := oI H
     rotate_left 5
     focus
      replace bq := qO.mpr bq;subst bq;rw [if_neg qT] at H;obtain rfl := oI H
    rotate_left 6
    focus
     replace bp := qO.mpr bp;subst bp;rw [if_neg qT] at H;obtain rfl := oI H
   all_goals
    (try obtain ⟨aC,aD,aE,aF,aG,aH,aJ,aK,aL,aN,ap,ar,au,av,aO,aP,aQ,aR,aT,aU,aV,aW,aX,aY,aw,ax,ay,az⟩ := z14_ aa.out);go_wp2_with (first|((with_reducible refine gate_callee (f := 131) rfl ?_);refine gl_ (some 39) Tryz.func131 #[.string aj] ?_;(with_reducible refine (Fbo.calls _ _ _ _ bL.out).mono ?_);rintro e w' ⟨rfl,⟨nd,rfl⟩⟩;refine ⟨_,rfl,?_⟩)|(go_at_call 131;(with_reducible refine (Fbo.calls _ _ _ _ bM.out).mono ?_);rintro e w' ⟨rfl,⟨nd,rfl⟩⟩)|(go_at_call 131;(with_reducible refine (Fbo.calls _ _ _ _ bO.out).mono ?_);rintro e w' ⟨rfl,⟨nd,rfl⟩⟩)|(go_at_call 131;(with_reducible refine (Fbo.calls _ _ _ _ bP.out).mono ?_);rintro e w' ⟨rfl,⟨nd,rfl⟩⟩)|(go_at_call 126;(with_reducible refine (FaE.calls _ _ _ _ bQ.out).mono ?_);rintro e w' ⟨rfl,⟨nd,rfl⟩⟩));go_ret;exact ⟨vR_,wB_⟩
attribute [local go_sem] geqStr max2_int min2_int max_two min_two max_three min_three max_four min_four   -- for this text's walks alone
set_option linter.unusedVariables false
set_option linter.unusedSimpArgs false
def Faf.l0 : Nat → List (S41) → Int → Int → List (S41) → Option (Bool)
 | 0,_,_,_,_ => none
 | k + 1,x6,x7,x8,aa => if x8 < x7 then (if 0 ≤ x8 then (if x8 < (x6.length : Int) then ((Far.f k ((Faa x6 x8).f0) ((Faa x6 x8).f1) ((Faa x6 x8).f2) ((Faa x6 x8).f3) ((Faa x6 x8).f4) ((Faa x6 x8).f5) ((Faa x6 x8).f6) ((Faa x6 x8).f7.f0) ((Faa x6 x8).f7.f1) ((Faa x6 x8).f7.f2) ((Faa x6 x8).f7.f3) ((Faa x6 x8).f8) ((Faa x6 x8).f9) ((Faa x6 x8).f10)).bind fun ab => (if ab = true then (if x8 > 0 then (if 0 ≤ (wrap64 (x8 - 1)) then (if (wrap64 (x8 - 1)) < (aa.length : Int) then (if ((Op.bytesLess (((Faa aa (wrap64 (x8 - 1))).f0).toList) (((Faa x6 x8).f0).toList)) = true) then (Faf.l0 k x6 x7 (wrap64 (x8 + 1)) aa) else (some false)) else (none)) else (none)) else (Faf.l0 k x6 x7 (wrap64 (x8 + 1)) aa)) else (some false))) else (none)) else (none)) else (some (decide ((aa.length : Int) ≤ 8)))
def Faf.f (k : Nat) (aa : List (S41)) : Option (Bool) := Faf.l0 k aa (aa.length : Int) 0 aa
theorem Faf.mono_l : ∀ k,(∀ y0 y1 y2 y3,LeO (Faf.l0 k y0 y1 y2 y3) (Faf.l0 (k + 1) y0 y1 y2 y3))
 | 0 => fun _ _ _ _ r h => by simp [Faf.l0] at h
 | k + 1 => by
  have ih0 := Faf.mono_l k
  ·intro y0 y1 y2 y3
   unfold Faf.l0
   repeat' (first|with_reducible (first|exact ih0 _ _ _ _|exact Far.mono _ _ _ _ _ _ _ _ _ _ _ _ _ _ _|exact LeO.refl _|exact LeO.none _|refine LeO.ite ?_ ?_|refine LeO.bind ?_ (fun _ => ?_))|exact LeO.none _|refine LeO.ite ?_ ?_|refine LeO.bind ?_ (fun _ => ?_))
theorem Faf.mono : ∀ a0 k,LeO (Faf.f k a0) (Faf.f (k + 1) a0) := by
 intro a0 k
 have ih0 := Faf.mono_l k
 unfold Faf.f
 repeat' (first|with_reducible (first|exact ih0 _ _ _ _|exact Far.mono _ _ _ _ _ _ _ _ _ _ _ _ _ _ _|exact LeO.refl _|exact LeO.none _|refine LeO.ite ?_ ?_|refine LeO.bind ?_ (fun _ => ?_))|exact LeO.none _|refine LeO.ite ?_ ?_|refine LeO.bind ?_ (fun _ => ?_))
def Faf.T4 : Bool × List (List Nat × List Nat) := (true,[([],[]),([0],[0]),([1],[1]),([2,1],[2]),([3],[3]),([4,3],[3,4]),([5,3,3],[3,5]),([6],[6]),([7,6],[6,7]),([6],[6]),([9,6],[6,9]),([8,10,6],[6,8,10]),([11,6],[6,11]),([12,6],[6,12]),([6],[6]),([14,6],[6,14]),([13,15,6],[6,13,15]),([6,16,3],[3,6,16]),([3,17],[3,17])])
def Faf.B4 : List Nat := [0,1,3,7,15,31,63,127,255,127,639,2047,4095,8191,127,16511,65535,131071,262143]
theorem Faf.tab4 : rtab .any (opsOf Tryz.f73 4) = Faf.T4 := by kernel_rfl
theorem Faf.bits4 : waitsOk Faf.T4.2 Faf.B4 = true := by kernel_rfl
theorem Faf.calls (k : Nat) (bp : Option Addr) (aQ : Nat) (aa : List (S41)) (r : Bool) (w : World) (bq : Kd.C k41 w bp aa.length aa) (br : aa.length ≤ aQ) (hG : Gm w) (h : Faf.f k aa = some r) :
  Calls Tryz.prog 73 #[.agg #[.slice bp aa.length aQ]] w fun e w' => e = .returned (.bool r) ∧ Below w.heap.size w w' := by
 have hu55 := Tryz.underlying55;have hu41 := Tryz.underlying41;have bs := aM bq;have HC0_0 := aM br;clear bq br;have HB := aM (Below.refl w.heap.size w);have HG := aM hG;clear hG;have H : (Faf.l0 k aa (aa.length : Int) 0 aa) = some r := h;clear h;have H' := aM H;clear H;go_enter Tryz.func73,Tryz.ntmps73;go_wp2_with (first|((with_reducible refine gate_dst (N := 1) rfl ?_);refine bx_ (N := 1) (cs := #[.slice bp aa.length aQ]) (t := 55) ?_;intro aF hg w2 hbox hb;have ae := aM (hbox);have bB := aM ((by rw [hg];exact (lZ wB_) : w.heap.size ≤ aF));have GE482 := bB;replace HB := aM (lT wB_ hb);clear hb hbox hg;obtain ⟨_,_⟩ := z1_ ae.out));go_loopg [8] k (fun kq v8 w' => ∃ (ab : Int),v8 = .int .i64 ab ∧ Aside0 (Faf.l0 kq aa (aa.length : Int) ab aa = some r) ∧ Aside0 (kq ≤ k) ∧ Aside0 (w'.heap[aF]? = some (.cells #[(.slice bp aa.length aQ)] 55 (0,0))) ∧ Aside0 (Below w.heap.size w w'))
 case atStart => exact ⟨(0),vR_,H',⟨Nat.le_refl _⟩,⟨wC_ ae.out⟩,⟨wB_⟩⟩
 case round =>
  clear H';obtain ⟨ab,rfl,HA,bM,ae,HB⟩ := hrel
  cases gk with
  | zero => exact absurd HA.out (by simp [Faf.l0])
  | succ k1 =>
   have H := HA.out;clear HA;simp only [Faf.l0] at H
   by_cases c4 : ab < (aa.length : Int)
   focus
    rw [if_pos c4] at H;have bQ := dT c4;clear c4
    by_cases c5 : 0 ≤ ab
    rotate_left;rw [if_neg c5] at H;exact nH_ H;rw [if_pos c5] at H;have c5b0 := dT c5;clear c5
    by_cases c6 : ab < (aa.length : Int)
    rotate_left;rw [if_neg c6] at H;exact nH_ H;rw [if_pos c6] at H;have c6b0 := dT c6;clear c6;obtain ⟨bR,A7,H⟩ := bE_ H
    by_cases c8 : bR = true
    focus
     subst c8;rw [if_pos rfl] at H
     by_cases c9 : ab > 0
     focus
      rw [if_pos c9] at H;have bS : decide (0 < ab) = true := dT c9;clear c9;obtain ⟨ad,aE⟩ : ∃ j_ : Int,(wrap64 (ab - 1)) = j_ := ⟨_,rfl⟩;replace H : (if 0 ≤ (ad) then (if (ad) < (aa.length : Int) then (if ((Op.bytesLess (((Faa aa (ad)).f0).toList) (((Faa aa ab).f0).toList)) = true) then (Faf.l0 k1 aa (aa.length : Int) (wrap64 (ab + 1)) aa) else (some false)) else (none)) else (none)) = some r := (by first|(rw [aE] at H;exact H)|(simp only [aE] at H ⊢;exact H));(try rw [aE] at A7);have hji10w : (IntKind.i64.wrap (ab - 1)) = ad := (i64_w _).trans aE
      by_cases bO : 0 ≤ (ad)
      rotate_left;rw [if_neg bO] at H;exact nH_ H;rw [if_pos bO] at H;have c11b0 := dT bO;clear bO
      by_cases bP : (ad) < (aa.length : Int)
      rotate_left;rw [if_neg bP] at H;exact nH_ H;rw [if_pos bP] at H;have c12b0 := dT bP;clear bP
      by_cases bz : ((Op.bytesLess (((Faa aa (ad)).f0).toList) (((Faa aa ab).f0).toList)) = true)
      focus
       rw [if_pos bz] at H;have bE : (Op.bytesLess (((Faa aa (ad)).f0).toList) (((Faa aa ab).f0).toList)) = true := bz;clear bz;have H' := aM H;clear H
      rotate_left
      focus
       rw [if_neg bz] at H;have bE : (Op.bytesLess (((Faa aa (ad)).f0).toList) (((Faa aa ab).f0).toList)) = false := (by simpa using bz);clear bz;obtain rfl := oI H
     rotate_left 2
     focus
      rw [if_neg c9] at H;have bS : decide (0 < ab) = false := dF c9;clear c9;have H' := aM H;clear H
    rotate_left 3
    focus
     replace c8 := qO.mpr c8;subst c8;rw [if_neg qT] at H;obtain rfl := oI H
   rotate_left 4
   focus
    rw [if_neg c4] at H;have bQ := dF c4;clear c4;obtain rfl := oI H
   all_goals
    (try (have bT : 0 ≤ (ab : Int) := oD (by assumption);have bU : ab < (aa.length : Int) := oD (by assumption);obtain ⟨af,al,am,an,ao,b4,aT,aU,aV,aW,aX,aY,aZ,a0,a1,a2,aG,aH,aJ,aK,a3,a4,a5,a6⟩ := Fb3 bs.out ab bT bU;cases b4;replace aT := mv_ HB.out aT;replace aU := mv_ HB.out aU;replace aV := mv_ HB.out aV;replace aW := mv_ HB.out aW;replace aX := mv_ HB.out aX;replace aY := mv_ HB.out aY;replace aZ := mv_ HB.out aZ;replace a0 := mv_ HB.out a0;replace a1 := mv_ HB.out a1;replace a2 := mv_ HB.out a2;replace aG := mv_ HB.out aG;replace aH := mv_ HB.out aH;replace aJ := mv_ HB.out aJ;replace aK := mv_ HB.out aK;have a7 := aM a4;have a8 := aM a3;clear a4 a3;have a9 := aM a6;have ba := aM a5;clear a6 a5;replace bT := eq_true bT;replace bU := eq_true bU));(try obtain ⟨_,_⟩ := z1_ ae.out);(try go_wp2_with (first|((with_reducible refine gate_dst (N := 4) rfl ?_);refine bx_ (N := 4) (cs := #[.string (⟨#[]⟩ : ByteArray),.int .i64 0,.slice none 0 0,.slice none 0 0,.string (⟨#[]⟩ : ByteArray),.string (⟨#[]⟩ : ByteArray),.string (⟨#[]⟩ : ByteArray),.int .i64 0,.int .i64 0,.int .i64 0,.bool false,.int .i64 0,.string (⟨#[]⟩ : ByteArray),.string (⟨#[]⟩ : ByteArray)]) (t := 41) ?_;intro ac hg bu hbox hb;have ag := aM (hbox);have bG := aM ((by rw [hg];exact (lZ wB_) : w.heap.size ≤ ac));have GE484 := bG;have ap := aM (nl_ hg ae.out);have aR := aM (ng_ hg ae.out);replace ae := aM (bw_ ae.out hb);replace HB := aM (lT wB_ hb);clear hb hbox hg;have hnby484_482 := aR.out;have hncy482_484 := ap.out;obtain ⟨_,_,_,_,_,_,_,_,_,_,_,_,_,_,_,_,_,_,_,_,_,_,_,_,_,_,_,_⟩ := z14_ ag.out)))
    first
     |
      go_ret;exact ⟨vR_,wB_⟩
     |
      obtain ⟨bH,hW_⟩ : ∃ W_ : World,W_ = (((((((((((((bu.setCell ⟨ac,0,none⟩ (.string ((Faa aa ab).f0))).setCell ⟨ac,1,none⟩ (.int .i64 ((Faa aa ab).f1))).setCell ⟨ac,2,none⟩ (.slice al ((Faa aa ab).f2).length am)).setCell ⟨ac,3,none⟩ (.slice an ((Faa aa ab).f3).length ao)).setCell ⟨ac,4,none⟩ (.string ((Faa aa ab).f4))).setCell ⟨ac,5,none⟩ (.string ((Faa aa ab).f5))).setCell ⟨ac,6,none⟩ (.string ((Faa aa ab).f6))).setCell ⟨ac,7,none⟩ (.int .i64 ((Faa aa ab).f7.f0))).setCell ⟨ac,8,none⟩ (.int .i64 ((Faa aa ab).f7.f1))).setCell ⟨ac,9,none⟩ (.int .i64 ((Faa aa ab).f7.f2))).setCell ⟨ac,10,none⟩ (.bool ((Faa aa ab).f7.f3))).setCell ⟨ac,11,none⟩ (.int .i64 ((Faa aa ab).f8))).setCell ⟨ac,12,none⟩ (.string ((Faa aa ab).f9))).setCell ⟨ac,13,none⟩ (.string ((Faa aa ab).f10)) := ⟨_,rfl⟩;have bZ : Aside0 (bH.heap[aF]? = some (.cells #[.slice (some af) aa.length aQ] 55 (0,0))) := ⟨by rw [hW_];exact bf_ ap.out ae.out⟩;have b2 : Aside0 (bH.heap[ac]? = some (.cells #[.string ((Faa aa ab).f0),.int .i64 ((Faa aa ab).f1),.slice al ((Faa aa ab).f2).length am,.slice an ((Faa aa ab).f3).length ao,.string ((Faa aa ab).f4),.string ((Faa aa ab).f5),.string ((Faa aa ab).f6),.int .i64 ((Faa aa ab).f7.f0),.int .i64 ((Faa aa ab).f7.f1),.int .i64 ((Faa aa ab).f7.f2),.bool ((Faa aa ab).f7.f3),.int .i64 ((Faa aa ab).f8),.string ((Faa aa ab).f9),.string ((Faa aa ab).f10)] 41 (0,0))) := ⟨by rw [hW_];exact bq14_ ag.out⟩;have b3 : Aside0 (Below w.heap.size w bH) := ⟨by rw [hW_];exact wB_⟩;rewrite [← hW_];clear hW_;have ae := bZ;have ag := b2;have HB := b3;clear bZ b2 b3;replace ae := aM (bD ae.out);replace ag := aM (bD ag.out);replace HB := aM (lD HB.out)
      first
       |
        refine start_ (n := 19) (S := fun w' => w'.cell? ⟨ac,0,none⟩ = some (.string ((Faa aa ab).f0)) ∧ w'.cell? ⟨ac,1,none⟩ = some (.int .i64 ((Faa aa ab).f1)) ∧ w'.cell? ⟨ac,2,none⟩ = some (.slice al ((Faa aa ab).f2).length am) ∧ w'.cell? ⟨ac,3,none⟩ = some (.slice an ((Faa aa ab).f3).length ao) ∧ w'.cell? ⟨ac,4,none⟩ = some (.string ((Faa aa ab).f4)) ∧ w'.cell? ⟨ac,5,none⟩ = some (.string ((Faa aa ab).f5)) ∧ w'.cell? ⟨ac,6,none⟩ = some (.string ((Faa aa ab).f6)) ∧ w'.cell? ⟨ac,7,none⟩ = some (.int .i64 ((Faa aa ab).f7.f0)) ∧ w'.cell? ⟨ac,8,none⟩ = some (.int .i64 ((Faa aa ab).f7.f1)) ∧ w'.cell? ⟨ac,9,none⟩ = some (.int .i64 ((Faa aa ab).f7.f2)) ∧ w'.cell? ⟨ac,10,none⟩ = some (.bool ((Faa aa ab).f7.f3)) ∧ w'.cell? ⟨ac,11,none⟩ = some (.int .i64 ((Faa aa ab).f8)) ∧ w'.cell? ⟨ac,12,none⟩ = some (.string ((Faa aa ab).f9)) ∧ w'.cell? ⟨ac,13,none⟩ = some (.string ((Faa aa ab).f10))) (ds := []) (mk_ 19 0) (by kernel_rfl) rfl (by kernel_rfl) (zf14_ ag.out) (fun hHeld => ?_);refine with_tabW Faf.tab4 Faf.bits4 (fun HT_ HW_ => ?_);generalize bH.drew = b5 at ae ag HB hHeld ⊢;refine tV_ (i := 0) (N := some 13) (mk_ 19 1) rfl rfl HT_.out HW_.out hHeld ?_;refine one_ (i := 1) (N := some 14) (mk_ 19 3) rfl rfl (one_of HT_.out (by kernel_rfl)) (by decide) (fun K hK => ?_);refine gs_ Tryz.func65 #[.agg #[.string ((Faa aa ab).f0),.int .i64 ((Faa aa ab).f1),.slice al ((Faa aa ab).f2).length am,.slice an ((Faa aa ab).f3).length ao,.string ((Faa aa ab).f4),.string ((Faa aa ab).f5),.string ((Faa aa ab).f6),.int .i64 ((Faa aa ab).f7.f0),.int .i64 ((Faa aa ab).f7.f1),.int .i64 ((Faa aa ab).f7.f2),.bool ((Faa aa ab).f7.f3),.int .i64 ((Faa aa ab).f8),.string ((Faa aa ab).f9),.string ((Faa aa ab).f10)]] ?_;(with_reducible refine (Far.calls _ _ _ _ _ _ _ _ _ _ _ _ _ _ _ _ _ _ _ _ _ ?side1 ?side2 ?side3 ?side4 ?side5 A7.out).mono ?_);(case side1 => exact wX_ a7.out);(case side2 => exact a8.out);(case side3 => exact wX_ a9.out);(case side4 => exact ba.out);(case side5 => exact Gm.below HG.out wB_);rintro e b6 ⟨rfl,hb⟩;refine ⟨_,rfl,?_⟩;replace ae := aM (bw_ ae.out hb);replace ag := aM (bw_ ag.out hb);replace HB := aM (lT wB_ hb);refine hK.out _ _ (zf14_ ag.out) (fun hHeld => ?_);clear hK K;refine norm_ (a' := ?_) ?_ ?_;rotate_left;show Act.put _ (some 14) _ = _;simp only [Act.put,lI,sZ,sS,i64_w,i32_w];rfl;refine pV_ (i := 2) (N := some 15) (mk_ 19 7) rfl rfl HT_.out ?_;refine pV_ (i := 3) (N := some 16) (mk_ 19 15) rfl rfl HT_.out ?_
        first
         |
          refine pU_ (i := 4) (N := some 17) (mk_ 19 31) rfl rfl HT_.out ?_;refine pU_ (i := 5) (N := some 18) (mk_ 19 63) rfl rfl HT_.out ?_;refine pU_ (i := 6) (N := some 19) (mk_ 19 127) rfl rfl HT_.out ?_;refine pU_ (i := 7) (N := some 20) (mk_ 19 255) rfl rfl HT_.out ?_;refine pU_ (i := 8) (N := some 21) (mk_ 19 511) rfl rfl HT_.out ?_;refine pU_ (i := 9) (N := some 22) (mk_ 19 1023) rfl rfl HT_.out ?_;refine pU_ (i := 10) (N := some 23) (mk_ 19 2047) rfl rfl HT_.out ?_;refine pU_ (i := 11) (N := some 24) (mk_ 19 4095) rfl rfl HT_.out ?_;refine pU_ (i := 12) (N := some 25) (mk_ 19 8191) rfl rfl HT_.out ?_;refine pU_ (i := 13) (N := some 26) (mk_ 19 16383) rfl rfl HT_.out ?_;refine pU_ (i := 14) (N := some 27) (mk_ 19 32767) rfl rfl HT_.out ?_;refine pU_ (i := 15) (N := some 28) (mk_ 19 65535) rfl rfl HT_.out ?_;refine pU_ (i := 16) (N := some 29) (mk_ 19 131071) rfl rfl HT_.out ?_;refine pU_ (i := 17) (N := some 30) (mk_ 19 262143) rfl rfl HT_.out ?_;refine pV_ (i := 18) (N := some 31) (mk_ 19 524287) rfl rfl HT_.out ?_;refine done_ (done_of HT_.out (by kernel_rfl)) ?_;(try go_wp2);go_ret;exact ⟨vR_,wB_⟩
         |
          refine pV_ (i := 4) (N := some 17) (mk_ 19 31) rfl rfl HT_.out ?_;refine pV_ (i := 5) (N := some 18) (mk_ 19 63) rfl rfl HT_.out ?_;refine pV_ (i := 6) (N := some 19) (mk_ 19 127) rfl rfl HT_.out ?_;refine pU_ (i := 7) (N := some 20) (mk_ 19 255) rfl rfl HT_.out ?_;refine pU_ (i := 8) (N := some 21) (mk_ 19 511) rfl rfl HT_.out ?_;refine pU_ (i := 9) (N := some 22) (mk_ 19 1023) rfl rfl HT_.out ?_;refine pU_ (i := 10) (N := some 23) (mk_ 19 2047) rfl rfl HT_.out ?_;refine pU_ (i := 11) (N := some 24) (mk_ 19 4095) rfl rfl HT_.out ?_;refine pU_ (i := 12) (N := some 25) (mk_ 19 8191) rfl rfl HT_.out ?_;refine pU_ (i := 13) (N := some 26) (mk_ 19 16383) rfl rfl HT_.out ?_;refine pU_ (i := 14) (N := some 27) (mk_ 19 32767) rfl rfl HT_.out ?_;refine pU_ (i := 15) (N := some 28) (mk_ 19 65535) rfl rfl HT_.out ?_;refine pU_ (i := 16) (N := some 29) (mk_ 19 131071) rfl rfl HT_.out ?_;refine pV_ (i := 17) (N := some 30) (mk_ 19 262143) rfl rfl HT_.out ?_;refine pV_ (i := 18) (N := some 31) (mk_ 19 524287) rfl rfl HT_.out ?_;refine done_ (done_of HT_.out (by kernel_rfl)) ?_;(try go_wp2);go_roundg k1
          case measure => have := bM.out;omega
          case rel => exact ⟨(wrap64 (ab + 1)),vR_,H',⟨by have := bM.out;omega⟩,⟨wC_ ae.out⟩,⟨wB_⟩⟩
       |
        have bV : 0 ≤ ((ad) : Int) := oD (by assumption);have bX : (ad) < (aa.length : Int) := oD (by assumption);obtain ⟨bY,bI,bJ,bK,bL,b7,ar,au,av,aw,ax,ay,az,aA,aC,aD,ah,ai,aj,ak,bb,bc,bd,be⟩ := Fb3 bs.out (ad) bV bX;have aL := ak;have aN := aj;have aO := ai;have aP := ah;have bf := aD;have bg := aC;have bh := aA;have bi := az;have bj := ay;have bk := ax;have bl := aw;have bm := av;have bn := au;have bo := ar;obtain rfl : af = bY := (by injection b7);replace ar := mv_ HB.out ar;replace au := mv_ HB.out au;replace av := mv_ HB.out av;replace aw := mv_ HB.out aw;replace ax := mv_ HB.out ax;replace ay := mv_ HB.out ay;replace az := mv_ HB.out az;replace aA := mv_ HB.out aA;replace aC := mv_ HB.out aC;replace aD := mv_ HB.out aD;replace ah := mv_ HB.out ah;replace ai := mv_ HB.out ai;replace aj := mv_ HB.out aj;replace ak := mv_ HB.out ak;have bv := aM bc;have HC02_2 := aM bb;clear bc bb;have bw := aM be;have HC02_3 := aM bd;clear be bd;replace bV := eq_true bV;replace bX := eq_true bX;refine start_ (n := 19) (S := fun w' => w'.cell? ⟨ac,0,none⟩ = some (.string ((Faa aa ab).f0)) ∧ w'.cell? ⟨ac,1,none⟩ = some (.int .i64 ((Faa aa ab).f1)) ∧ w'.cell? ⟨ac,2,none⟩ = some (.slice al ((Faa aa ab).f2).length am) ∧ w'.cell? ⟨ac,3,none⟩ = some (.slice an ((Faa aa ab).f3).length ao) ∧ w'.cell? ⟨ac,4,none⟩ = some (.string ((Faa aa ab).f4)) ∧ w'.cell? ⟨ac,5,none⟩ = some (.string ((Faa aa ab).f5)) ∧ w'.cell? ⟨ac,6,none⟩ = some (.string ((Faa aa ab).f6)) ∧ w'.cell? ⟨ac,7,none⟩ = some (.int .i64 ((Faa aa ab).f7.f0)) ∧ w'.cell? ⟨ac,8,none⟩ = some (.int .i64 ((Faa aa ab).f7.f1)) ∧ w'.cell? ⟨ac,9,none⟩ = some (.int .i64 ((Faa aa ab).f7.f2)) ∧ w'.cell? ⟨ac,10,none⟩ = some (.bool ((Faa aa ab).f7.f3)) ∧ w'.cell? ⟨ac,11,none⟩ = some (.int .i64 ((Faa aa ab).f8)) ∧ w'.cell? ⟨ac,12,none⟩ = some (.string ((Faa aa ab).f9)) ∧ w'.cell? ⟨ac,13,none⟩ = some (.string ((Faa aa ab).f10)) ∧ w'.cell? ⟨aF,0,none⟩ = some (.slice (some af) aa.length aQ) ∧ w'.cell? (af.add (((ad)).toNat * 14)) = some (.string ((Faa aa (ad)).f0)) ∧ w'.cell? ⟨(af.add (((ad)).toNat * 14)).block,(af.add (((ad)).toNat * 14)).off + 1,none⟩ = some (.int .i64 ((Faa aa (ad)).f1)) ∧ w'.cell? ⟨(af.add (((ad)).toNat * 14)).block,(af.add (((ad)).toNat * 14)).off + 2,none⟩ = some (.slice bI ((Faa aa (ad)).f2).length bJ) ∧ w'.cell? ⟨(af.add (((ad)).toNat * 14)).block,(af.add (((ad)).toNat * 14)).off + 3,none⟩ = some (.slice bK ((Faa aa (ad)).f3).length bL) ∧ w'.cell? ⟨(af.add (((ad)).toNat * 14)).block,(af.add (((ad)).toNat * 14)).off + 4,none⟩ = some (.string ((Faa aa (ad)).f4)) ∧ w'.cell? ⟨(af.add (((ad)).toNat * 14)).block,(af.add (((ad)).toNat * 14)).off + 5,none⟩ = some (.string ((Faa aa (ad)).f5)) ∧ w'.cell? ⟨(af.add (((ad)).toNat * 14)).block,(af.add (((ad)).toNat * 14)).off + 6,none⟩ = some (.string ((Faa aa (ad)).f6)) ∧ w'.cell? ⟨(af.add (((ad)).toNat * 14)).block,(af.add (((ad)).toNat * 14)).off + 7,none⟩ = some (.int .i64 ((Faa aa (ad)).f7.f0)) ∧ w'.cell? ⟨(af.add (((ad)).toNat * 14)).block,(af.add (((ad)).toNat * 14)).off + 8,none⟩ = some (.int .i64 ((Faa aa (ad)).f7.f1)) ∧ w'.cell? ⟨(af.add (((ad)).toNat * 14)).block,(af.add (((ad)).toNat * 14)).off + 9,none⟩ = some (.int .i64 ((Faa aa (ad)).f7.f2)) ∧ w'.cell? ⟨(af.add (((ad)).toNat * 14)).block,(af.add (((ad)).toNat * 14)).off + 10,none⟩ = some (.bool ((Faa aa (ad)).f7.f3)) ∧ w'.cell? ⟨(af.add (((ad)).toNat * 14)).block,(af.add (((ad)).toNat * 14)).off + 11,none⟩ = some (.int .i64 ((Faa aa (ad)).f8)) ∧ w'.cell? ⟨(af.add (((ad)).toNat * 14)).block,(af.add (((ad)).toNat * 14)).off + 12,none⟩ = some (.string ((Faa aa (ad)).f9)) ∧ w'.cell? ⟨(af.add (((ad)).toNat * 14)).block,(af.add (((ad)).toNat * 14)).off + 13,none⟩ = some (.string ((Faa aa (ad)).f10))) (ds := []) (mk_ 19 0) (by kernel_rfl) rfl (by kernel_rfl) (ze14_ ag.out ⟨(bC ae.out 0).trans rfl,mv_ HB.out bo,mv_ HB.out bn,mv_ HB.out bm,mv_ HB.out bl,mv_ HB.out bk,mv_ HB.out bj,mv_ HB.out bi,mv_ HB.out bh,mv_ HB.out bg,mv_ HB.out bf,mv_ HB.out aP,mv_ HB.out aO,mv_ HB.out aN,mv_ HB.out aL⟩) (fun hHeld => ?_);refine with_tabW Faf.tab4 Faf.bits4 (fun HT_ HW_ => ?_);generalize bH.drew = b5 at ae ag HB bv bw ar au ah ai aj ak av aw ax ay az aA aC aD hHeld ⊢;refine tV_ (i := 0) (N := some 13) (mk_ 19 1) rfl rfl HT_.out HW_.out hHeld ?_;refine one_ (i := 1) (N := some 14) (mk_ 19 3) rfl rfl (one_of HT_.out (by kernel_rfl)) (by decide) (fun K hK => ?_);refine gs_ Tryz.func65 #[.agg #[.string ((Faa aa ab).f0),.int .i64 ((Faa aa ab).f1),.slice al ((Faa aa ab).f2).length am,.slice an ((Faa aa ab).f3).length ao,.string ((Faa aa ab).f4),.string ((Faa aa ab).f5),.string ((Faa aa ab).f6),.int .i64 ((Faa aa ab).f7.f0),.int .i64 ((Faa aa ab).f7.f1),.int .i64 ((Faa aa ab).f7.f2),.bool ((Faa aa ab).f7.f3),.int .i64 ((Faa aa ab).f8),.string ((Faa aa ab).f9),.string ((Faa aa ab).f10)]] ?_;(with_reducible refine (Far.calls _ _ _ _ _ _ _ _ _ _ _ _ _ _ _ _ _ _ _ _ _ ?side1 ?side2 ?side3 ?side4 ?side5 A7.out).mono ?_);(case side1 => exact wX_ a7.out);(case side2 => exact a8.out);(case side3 => exact wX_ a9.out);(case side4 => exact ba.out);(case side5 => exact Gm.below HG.out wB_);rintro e b6 ⟨rfl,hb⟩;refine ⟨_,rfl,?_⟩;replace ae := aM (bw_ ae.out hb);replace ag := aM (bw_ ag.out hb);replace HB := aM (lT wB_ hb);refine hK.out _ _ (ze14_ ag.out ⟨(bC ae.out 0).trans rfl,mv_ HB.out bo,mv_ HB.out bn,mv_ HB.out bm,mv_ HB.out bl,mv_ HB.out bk,mv_ HB.out bj,mv_ HB.out bi,mv_ HB.out bh,mv_ HB.out bg,mv_ HB.out bf,mv_ HB.out aP,mv_ HB.out aO,mv_ HB.out aN,mv_ HB.out aL⟩) (fun hHeld => ?_);clear hK K;refine norm_ (a' := ?_) ?_ ?_;rotate_left;show Act.put _ (some 14) _ = _;simp only [Act.put,lI,sZ,sS,i64_w,i32_w];rfl;refine pV_ (i := 2) (N := some 15) (mk_ 19 7) rfl rfl HT_.out ?_;refine pV_ (i := 3) (N := some 16) (mk_ 19 15) rfl rfl HT_.out ?_;refine pV_ (i := 4) (N := some 17) (mk_ 19 31) rfl rfl HT_.out ?_;refine pV_ (i := 5) (N := some 18) (mk_ 19 63) rfl rfl HT_.out ?_;refine pV_ (i := 6) (N := some 19) (mk_ 19 127) rfl rfl HT_.out ?_;refine pV_ (i := 7) (N := some 20) (mk_ 19 255) rfl rfl HT_.out ?_;refine pV_ (i := 9) (N := some 22) (mk_ 19 767) rfl rfl HT_.out ?_;refine pV_ (i := 10) (N := some 23) (mk_ 19 1791) rfl rfl HT_.out ?_;refine pV_ (i := 14) (N := some 27) (mk_ 19 18175) rfl rfl HT_.out ?_;refine tV_ (i := 8) (N := some 21) (mk_ 19 18431) rfl rfl HT_.out HW_.out hHeld ?_;refine pV_ (i := 11) (N := some 24) (mk_ 19 20479) rfl rfl HT_.out ?_;refine pV_ (i := 12) (N := some 25) (mk_ 19 24575) rfl rfl HT_.out ?_;refine tV_ (i := 13) (N := some 26) (mk_ 19 32767) rfl rfl HT_.out HW_.out hHeld ?_;refine tV_ (i := 15) (N := some 28) (mk_ 19 65535) rfl rfl HT_.out HW_.out hHeld ?_;refine pV_ (i := 16) (N := some 29) (mk_ 19 131071) rfl rfl HT_.out ?_;refine pV_ (i := 17) (N := some 30) (mk_ 19 262143) rfl rfl HT_.out ?_;refine pV_ (i := 18) (N := some 31) (mk_ 19 524287) rfl rfl HT_.out ?_;refine done_ (done_of HT_.out (by kernel_rfl)) ?_;(try go_wp2)
        first
         |
          go_ret;exact ⟨by first|rfl|(simp [errW_none,errW_some] <;> rfl)|(simp only [← aE];first|rfl|(simp [errW_none,errW_some] <;> rfl))|(simp [*,errW_none,errW_some] <;> rfl),wB_⟩
         |
          go_roundg k1
          case measure => have := bM.out;omega
          case rel => exact ⟨(wrap64 (ab + 1)),vR_,H',⟨by have := bM.out;omega⟩,⟨wC_ ae.out⟩,⟨wB_⟩⟩
end Go.Proofs.YtmafmhgmdegplaaGreatDoor.P
