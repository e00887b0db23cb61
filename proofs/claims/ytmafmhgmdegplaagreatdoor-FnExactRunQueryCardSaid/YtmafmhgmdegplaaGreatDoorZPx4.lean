/- Walks: each Go function computes the Lean function beside it; conditions: those of each theorem. -/
import Derived.Test.YtmafmhgmdegplaaGreatDoorZPx0
import Derived.Test.YtmafmhgmdegplaaGreatDoorZPx1
namespace Go.Proofs.YtmafmhgmdegplaaGreatDoor.P
open Go.RowKit Go.Proofs.YtmafmhgmdegplaaGreatDoorW.PrintWords Go.Proofs.YtmafmhgmdegplaaGreatDoorW.PrintLast Go.Proofs.YtmafmhgmdegplaaGreatDoorW.PrintMore
attribute [local go_sem] max2_int min2_int max_two min_two max_three min_three max_four min_four   -- for this text's walks alone
set_option linter.unusedVariables false
set_option linter.unusedSimpArgs false
set_option maxHeartbeats 8000000
set_option maxRecDepth 100000
def Fa4.l0 : Nat → List (S152) → Int → Int → Option (Int)
 | 0,_,_,_ => none
 | k + 1,x0,x1,x5 => if x5 < (x0.length : Int) then (if 0 ≤ x5 then ((FbY.f k ((FbE x0 x5).f0) ((FbE x0 x5).f1) ((FbE x0 x5).f2) ((FbE x0 x5).f3) x1).bind fun aa => (if aa < 0 then (some (-1)) else (Fa4.l0 k x0 aa (wrap64 (x5 + 1))))) else (none)) else (some x1)
def Fa4.f (k : Nat) (l0 : List (S152)) (a1 : Int) : Option (Int) := if (wrap64 (a1 - (l0.length : Int))) < 0 then (some (-1)) else (Fa4.l0 k l0 (wrap64 (a1 - (l0.length : Int))) 0)
theorem Fa4.mono_l : ∀ k,(∀ y0 y1 y2,LeO (Fa4.l0 k y0 y1 y2) (Fa4.l0 (k + 1) y0 y1 y2))
 | 0 => fun _ _ _ r h => by simp [Fa4.l0] at h
 | k + 1 => by
  have ih0 := Fa4.mono_l k
  ·intro y0 y1 y2
   unfold Fa4.l0
   repeat' (first|with_reducible (first|exact ih0 _ _ _|exact FbY.mono _ _ _ _ _ _|exact LeO.refl _|exact LeO.none _|refine LeO.ite ?_ ?_|refine LeO.bind ?_ (fun _ => ?_))|exact LeO.none _|refine LeO.ite ?_ ?_|refine LeO.bind ?_ (fun _ => ?_))
theorem Fa4.mono : ∀ a0 a1 k,LeO (Fa4.f k a0 a1) (Fa4.f (k + 1) a0 a1) := by
 intro a0 a1 k
 have ih0 := Fa4.mono_l k
 unfold Fa4.f
 repeat' (first|with_reducible (first|exact ih0 _ _ _|exact FbY.mono _ _ _ _ _ _|exact LeO.refl _|exact LeO.none _|refine LeO.ite ?_ ?_|refine LeO.bind ?_ (fun _ => ?_))|exact LeO.none _|refine LeO.ite ?_ ?_|refine LeO.bind ?_ (fun _ => ?_))
theorem Fa4.calls (k : Nat) (A0 : Option Addr) (c0 : Nat) (l0 : List (S152)) (a1 : Int) (r : Int) (w : World) (hr0 : Kd.C k152 w A0 l0.length l0) (hc0 : l0.length ≤ c0) (h : Fa4.f k l0 a1 = some r) :
  Calls Tryz.prog 58 #[.slice A0 l0.length c0,.int .i64 a1] w fun e w' => e = .returned (.int .i64 r) ∧ Below w.heap.size w w' := by
 have hu152 := Tryz.underlying152;have HR0 := aM hr0;have HC0 := aM hc0;clear hr0 hc0;have HB := aM (Below.refl w.heap.size w);have H : (if (wrap64 (a1 - (l0.length : Int))) < 0 then (some (-1)) else (Fa4.l0 k l0 (wrap64 (a1 - (l0.length : Int))) 0)) = some r := h;clear h
 by_cases c3 : (wrap64 (a1 - (l0.length : Int))) < 0
 ·rw [if_pos c3] at H;have an := dT c3;clear c3;obtain rfl := oI H;go_enter Tryz.func58,Tryz.ntmps58;go_wp2;go_ret;exact ⟨vR_,wB_⟩
 ·rw [if_neg c3] at H;have an := dF c3;clear c3;have H' := aM H;clear H;go_enter Tryz.func58,Tryz.ntmps58;go_wp2;go_loopg [1,5] k (fun kq v1 v5 w' => ∃ (ah : Int) (aa : Int),v1 = .int .i64 ah ∧ v5 = .int .i64 aa ∧ Aside0 (Fa4.l0 kq l0 ah aa = some r) ∧ Aside0 (kq ≤ k) ∧ Aside0 (Below w.heap.size w w'))
  case atStart => exact ⟨(wrap64 (a1 - (l0.length : Int))),(0),vR_,vR_,H',⟨Nat.le_refl _⟩,⟨wB_⟩⟩
  case round =>
   clear H';obtain ⟨ah,aa,rfl,rfl,HA,ar,HB⟩ := hrel
   cases gk with
   | zero => exact absurd HA.out (by simp [Fa4.l0])
   | succ k1 =>
    have H := HA.out;clear HA;simp only [Fa4.l0] at H
    by_cases c4 : aa < (l0.length : Int)
    focus
     rw [if_pos c4] at H;have ao := dT c4;clear c4
     by_cases c5 : 0 ≤ aa
     rotate_left;rw [if_neg c5] at H;exact nH_ H;rw [if_pos c5] at H;have c5b0 := dT c5;clear c5;obtain ⟨ak,A6,H⟩ := bE_ H
     by_cases c7 : ak < 0
     focus
      rw [if_pos c7] at H;have ap := dT c7;clear c7;obtain rfl := oI H
     rotate_left
     focus
      rw [if_neg c7] at H;have ap := dF c7;clear c7;have H' := aM H;clear H
    rotate_left 2
    focus
     rw [if_neg c4] at H;have ao := dF c4;clear c4;obtain rfl := oI H
    all_goals
     (try (have p01 : 0 ≤ (aa : Int) := oD (by assumption);have q01 : aa < (l0.length : Int) := oD (by assumption);obtain ⟨ad01,al,am,e01,ab,ac,ad,ae,af,ag⟩ := Fcw HR0.out aa p01 q01;cases e01;replace ab := mv_ HB.out ab;replace ac := mv_ HB.out ac;replace ad := mv_ HB.out ad;replace ae := mv_ HB.out ae;have ai := aM ag;have aj := aM af;clear ag af;replace p01 := eq_true p01;replace q01 := eq_true q01));go_wp2_with (first|((with_reducible refine gate_callee (f := 117) rfl ?_);refine gl_ (some 23) Tryz.func117 #[.agg #[.slice al ((FbE l0 aa).f0).length am,.string ((FbE l0 aa).f1),.string ((FbE l0 aa).f2),.string ((FbE l0 aa).f3)],.int .i64 ah] ?_;(with_reducible refine (FbY.calls _ _ _ _ _ _ _ _ _ _ ?side1 ?side2 A6.out).mono ?_);(case side1 => exact wX_ ai.out);(case side2 => exact aj.out);rintro e WA6 ⟨rfl,hb⟩;refine ⟨_,rfl,?_⟩;replace HB := aM (lT wB_ hb)))
     first
      |
       go_ret;exact ⟨vR_,wB_⟩
      |
       go_roundg k1
       case measure => have := ar.out;omega
       case rel => exact ⟨(ak),(wrap64 (aa + 1)),vR_,vR_,H',⟨by have := ar.out;omega⟩,⟨wB_⟩⟩
def FbK.f (k : Nat) (ag : ByteArray) (a0_1 : Int) (ai : List (S152)) (aj : List (S152)) (ab : ByteArray) (ac : ByteArray) (ae : ByteArray) (a0_7 : Int) (a0_8 : Int) (a0_9 : Int) (a0_10 : Bool) (a0_11 : Int) (ad : ByteArray) (af : ByteArray) (a1 : Int) : Option (Int) := if (wrap64 (a1 - (ag.size : Int))) < 0 then (some (-1)) else ((Fa4.f k ai (wrap64 (a1 - (ag.size : Int)))).bind fun ah => (if ah < 0 then (some (-1)) else ((Fa4.f k aj ah).bind fun aa => (if aa < 0 then (some (-1)) else (if (wrap64 (aa - (ab.size : Int))) < 0 then (some (-1)) else (if (wrap64 ((wrap64 (aa - (ab.size : Int))) - (ac.size : Int))) < 0 then (some (-1)) else (if (wrap64 ((wrap64 ((wrap64 (aa - (ab.size : Int))) - (ac.size : Int))) - (ae.size : Int))) < 0 then (some (-1)) else (if (wrap64 ((wrap64 ((wrap64 ((wrap64 (aa - (ab.size : Int))) - (ac.size : Int))) - (ae.size : Int))) - (ad.size : Int))) < 0 then (some (-1)) else (if (wrap64 ((wrap64 ((wrap64 ((wrap64 ((wrap64 (aa - (ab.size : Int))) - (ac.size : Int))) - (ae.size : Int))) - (ad.size : Int))) - (af.size : Int))) < 0 then (some (-1)) else (some (wrap64 ((wrap64 ((wrap64 ((wrap64 ((wrap64 (aa - (ab.size : Int))) - (ac.size : Int))) - (ae.size : Int))) - (ad.size : Int))) - (af.size : Int)))))))))))))
theorem FbK.mono : ∀ a0 a1 a2 a3 a4 a5 a6 a7 a8 a9 aa ab ac ad ae k,LeO (FbK.f k a0 a1 a2 a3 a4 a5 a6 a7 a8 a9 aa ab ac ad ae) (FbK.f (k + 1) a0 a1 a2 a3 a4 a5 a6 a7 a8 a9 aa ab ac ad ae) := by
 intro a0 a1 a2 a3 a4 a5 a6 a7 a8 a9 aa ab ac ad ae k
 unfold FbK.f
 repeat' (first|with_reducible (first|exact Fa4.mono _ _ _|exact LeO.refl _|exact LeO.none _|refine LeO.ite ?_ ?_|refine LeO.bind ?_ (fun _ => ?_))|exact LeO.none _|refine LeO.ite ?_ ?_|refine LeO.bind ?_ (fun _ => ?_))
theorem FbK.calls (k : Nat) (aj : ByteArray) (ay : Int) (an : Option Addr) (ao : Nat) (ah : List (S152)) (ap : Option Addr) (ar : Nat) (ai : List (S152)) (aa : ByteArray) (ad : ByteArray) (af : ByteArray) (az : Int) (aA : Int) (aC : Int) (ak : Bool) (al : Int) (ac : ByteArray) (ag : ByteArray) (a1 : Int) (r : Int) (w : World) (au : Kd.C k152 w an ah.length ah) (av : ah.length ≤ ao) (aw : Kd.C k152 w ap ai.length ai) (ax : ai.length ≤ ar) (h : FbK.f k aj ay ah ai aa ad af az aA aC ak al ac ag a1 = some r) :
  Calls Tryz.prog 10 #[.agg #[.string aj,.int .i64 ay,.slice an ah.length ao,.slice ap ai.length ar,.string aa,.string ad,.string af,.int .i64 az,.int .i64 aA,.int .i64 aC,.bool ak,.int .i64 al,.string ac,.string ag],.int .i64 a1] w fun e w' => e = .returned (.int .i64 r) ∧ Below w.heap.size w w' := by
 have hu29 := Tryz.underlying29;have aK := aM au;have aL := aM av;clear au av;have aN := aM aw;have aO := aM ax;clear aw ax;have HB := aM (Below.refl w.heap.size w);have H : (if (wrap64 (a1 - (aj.size : Int))) < 0 then (some (-1)) else ((Fa4.f k ah (wrap64 (a1 - (aj.size : Int)))).bind fun am => (if am < 0 then (some (-1)) else ((Fa4.f k ai am).bind fun ab => (if ab < 0 then (some (-1)) else (if (wrap64 (ab - (aa.size : Int))) < 0 then (some (-1)) else (if (wrap64 ((wrap64 (ab - (aa.size : Int))) - (ad.size : Int))) < 0 then (some (-1)) else (if (wrap64 ((wrap64 ((wrap64 (ab - (aa.size : Int))) - (ad.size : Int))) - (af.size : Int))) < 0 then (some (-1)) else (if (wrap64 ((wrap64 ((wrap64 ((wrap64 (ab - (aa.size : Int))) - (ad.size : Int))) - (af.size : Int))) - (ac.size : Int))) < 0 then (some (-1)) else (if (wrap64 ((wrap64 ((wrap64 ((wrap64 ((wrap64 (ab - (aa.size : Int))) - (ad.size : Int))) - (af.size : Int))) - (ac.size : Int))) - (ag.size : Int))) < 0 then (some (-1)) else (some (wrap64 ((wrap64 ((wrap64 ((wrap64 ((wrap64 (ab - (aa.size : Int))) - (ad.size : Int))) - (af.size : Int))) - (ac.size : Int))) - (ag.size : Int)))))))))))))) = some r := h;clear h
 by_cases c3 : (wrap64 (a1 - (aj.size : Int))) < 0
 focus
  rw [if_pos c3] at H;have aY := dT c3;clear c3;obtain rfl := oI H
 rotate_left
 focus
  rw [if_neg c3] at H;have aY := dF c3;clear c3;obtain ⟨am,A6,H⟩ := bE_ H
  by_cases c7 : am < 0
  focus
   rw [if_pos c7] at H;have aZ := dT c7;clear c7;obtain rfl := oI H
  rotate_left
  focus
   rw [if_neg c7] at H;have aZ := dF c7;clear c7;obtain ⟨ab,a0,H⟩ := bE_ H
   by_cases aD : ab < 0
   focus
    rw [if_pos aD] at H;have aP := dT aD;clear aD;obtain rfl := oI H
   rotate_left
   focus
    rw [if_neg aD] at H;have aP := dF aD;clear aD
    by_cases aE : (wrap64 (ab - (aa.size : Int))) < 0
    focus
     rw [if_pos aE] at H;have aQ := dT aE;clear aE;obtain rfl := oI H
    rotate_left
    focus
     rw [if_neg aE] at H;have aQ := dF aE;clear aE
     by_cases aF : (wrap64 ((wrap64 (ab - (aa.size : Int))) - (ad.size : Int))) < 0
     focus
      rw [if_pos aF] at H;have aR := dT aF;clear aF;obtain rfl := oI H
     rotate_left
     focus
      rw [if_neg aF] at H;have aR := dF aF;clear aF
      by_cases aG : (wrap64 ((wrap64 ((wrap64 (ab - (aa.size : Int))) - (ad.size : Int))) - (af.size : Int))) < 0
      focus
       rw [if_pos aG] at H;have aT := dT aG;clear aG;obtain rfl := oI H
      rotate_left
      focus
       rw [if_neg aG] at H;have aT := dF aG;clear aG
       by_cases aH : (wrap64 ((wrap64 ((wrap64 ((wrap64 (ab - (aa.size : Int))) - (ad.size : Int))) - (af.size : Int))) - (ac.size : Int))) < 0
       focus
        rw [if_pos aH] at H;have aU := dT aH;clear aH;obtain rfl := oI H
       rotate_left
       focus
        rw [if_neg aH] at H;have aU := dF aH;clear aH
        by_cases aJ : (wrap64 ((wrap64 ((wrap64 ((wrap64 ((wrap64 (ab - (aa.size : Int))) - (ad.size : Int))) - (af.size : Int))) - (ac.size : Int))) - (ag.size : Int))) < 0
        focus
         rw [if_pos aJ] at H;have aV := dT aJ;clear aJ;obtain rfl := oI H
        rotate_left
        focus
         rw [if_neg aJ] at H;have aV := dF aJ;clear aJ;obtain rfl := oI H
 all_goals
  go_enter Tryz.func10,Tryz.ntmps10;go_wp2_with (first|((with_reducible refine gate_dst (N := 2) rfl ?_);refine bx_ (N := 2) (cs := #[.string aj,.int .i64 ay,.slice an ah.length ao,.slice ap ai.length ar,.string aa,.string ad,.string af,.int .i64 az,.int .i64 aA,.int .i64 aC,.bool ak,.int .i64 al,.string ac,.string ag]) (t := 29) ?_;intro aW hg Wgb133 hbox hb;have ae := aM (hbox);have aX := aM ((by rw [hg];exact (lZ wB_) : w.heap.size ≤ aW));have GE133 := aX;replace HB := aM (lT wB_ hb);clear hb hbox hg;obtain ⟨_,_,_,_,_,_,_,_,_,_,_,_,_,_,_,_,_,_,_,_,_,_,_,_,_,_,_,_⟩ := z14_ ae.out)|((with_reducible refine gate_callee (f := 58) rfl ?_);refine gl_ (some 15) Tryz.func58 #[.slice an ah.length ao,.int .i64 (wrap64 (a1 - (aj.size : Int)))] ?_;(with_reducible refine (Fa4.calls _ _ _ _ _ _ _ ?side1 ?side2 A6.out).mono ?_);(case side1 => exact wX_ aK.out);(case side2 => exact aL.out);rintro e WA6 ⟨rfl,hb⟩;refine ⟨_,rfl,?_⟩;replace ae := aM (bw_ ae.out hb);replace HB := aM (lT wB_ hb);obtain ⟨_,_,_,_,_,_,_,_,_,_,_,_,_,_,_,_,_,_,_,_,_,_,_,_,_,_,_,_⟩ := z14_ ae.out)|((with_reducible refine gate_callee (f := 58) rfl ?_);refine gl_ (some 21) Tryz.func58 #[.slice ap ai.length ar,.int .i64 am] ?_;(with_reducible refine (Fa4.calls _ _ _ _ _ _ _ ?side1 ?side2 a0.out).mono ?_);(case side1 => exact wX_ aN.out);(case side2 => exact aO.out);rintro e WA11 ⟨rfl,hb⟩;refine ⟨_,rfl,?_⟩;replace ae := aM (bw_ ae.out hb);replace HB := aM (lT wB_ hb);obtain ⟨_,_,_,_,_,_,_,_,_,_,_,_,_,_,_,_,_,_,_,_,_,_,_,_,_,_,_,_⟩ := z14_ ae.out));go_ret;exact ⟨vR_,wB_⟩
def Fbb.l0 : Nat → List (S29) → Int → Int → Option (Int)
 | 0,_,_,_ => none
 | k + 1,x0,x1,x5 => if x5 < (x0.length : Int) then (if 0 ≤ x5 then ((FbK.f k ((FaR x0 x5).f0) ((FaR x0 x5).f1) ((FaR x0 x5).f2) ((FaR x0 x5).f3) ((FaR x0 x5).f4) ((FaR x0 x5).f5) ((FaR x0 x5).f6) ((FaR x0 x5).f7.f0) ((FaR x0 x5).f7.f1) ((FaR x0 x5).f7.f2) ((FaR x0 x5).f7.f3) ((FaR x0 x5).f8) ((FaR x0 x5).f9) ((FaR x0 x5).f10) x1).bind fun aa => (if aa < 0 then (some (-1)) else (Fbb.l0 k x0 aa (wrap64 (x5 + 1))))) else (none)) else (some x1)
def Fbb.f (k : Nat) (l0 : List (S29)) (a1 : Int) : Option (Int) := if (wrap64 (a1 - (l0.length : Int))) < 0 then (some (-1)) else (Fbb.l0 k l0 (wrap64 (a1 - (l0.length : Int))) 0)
theorem Fbb.mono_l : ∀ k,(∀ y0 y1 y2,LeO (Fbb.l0 k y0 y1 y2) (Fbb.l0 (k + 1) y0 y1 y2))
 | 0 => fun _ _ _ r h => by simp [Fbb.l0] at h
 | k + 1 => by
  have ih0 := Fbb.mono_l k
  ·intro y0 y1 y2
   unfold Fbb.l0
   repeat' (first|with_reducible (first|exact ih0 _ _ _|exact FbK.mono _ _ _ _ _ _ _ _ _ _ _ _ _ _ _ _|exact LeO.refl _|exact LeO.none _|refine LeO.ite ?_ ?_|refine LeO.bind ?_ (fun _ => ?_))|exact LeO.none _|refine LeO.ite ?_ ?_|refine LeO.bind ?_ (fun _ => ?_))
theorem Fbb.mono : ∀ a0 a1 k,LeO (Fbb.f k a0 a1) (Fbb.f (k + 1) a0 a1) := by
 intro a0 a1 k
 have ih0 := Fbb.mono_l k
 unfold Fbb.f
 repeat' (first|with_reducible (first|exact ih0 _ _ _|exact FbK.mono _ _ _ _ _ _ _ _ _ _ _ _ _ _ _ _|exact LeO.refl _|exact LeO.none _|refine LeO.ite ?_ ?_|refine LeO.bind ?_ (fun _ => ?_))|exact LeO.none _|refine LeO.ite ?_ ?_|refine LeO.bind ?_ (fun _ => ?_))
theorem Fbb.calls (k : Nat) (A0 : Option Addr) (c0 : Nat) (l0 : List (S29)) (a1 : Int) (r : Int) (w : World) (hr0 : Kd.C k29 w A0 l0.length l0) (hc0 : l0.length ≤ c0) (h : Fbb.f k l0 a1 = some r) :
  Calls Tryz.prog 70 #[.slice A0 l0.length c0,.int .i64 a1] w fun e w' => e = .returned (.int .i64 r) ∧ Below w.heap.size w w' := by
 have hu29 := Tryz.underlying29;have HR0 := aM hr0;have HC0 := aM hc0;clear hr0 hc0;have HB := aM (Below.refl w.heap.size w);have H : (if (wrap64 (a1 - (l0.length : Int))) < 0 then (some (-1)) else (Fbb.l0 k l0 (wrap64 (a1 - (l0.length : Int))) 0)) = some r := h;clear h
 by_cases c3 : (wrap64 (a1 - (l0.length : Int))) < 0
 ·rw [if_pos c3] at H;have aH := dT c3;clear c3;obtain rfl := oI H;go_enter Tryz.func70,Tryz.ntmps70;go_wp2;go_ret;exact ⟨vR_,wB_⟩
 ·rw [if_neg c3] at H;have aH := dF c3;clear c3;have H' := aM H;clear H;go_enter Tryz.func70,Tryz.ntmps70;go_wp2;go_loopg [1,5] k (fun kq v1 v5 w' => ∃ (aw : Int) (aa : Int),v1 = .int .i64 aw ∧ v5 = .int .i64 aa ∧ Aside0 (Fbb.l0 kq l0 aw aa = some r) ∧ Aside0 (kq ≤ k) ∧ Aside0 (Below w.heap.size w w'))
  case atStart => exact ⟨(wrap64 (a1 - (l0.length : Int))),(0),vR_,vR_,H',⟨Nat.le_refl _⟩,⟨wB_⟩⟩
  case round =>
   clear H';obtain ⟨aw,aa,rfl,rfl,HA,aL,HB⟩ := hrel
   cases gk with
   | zero => exact absurd HA.out (by simp [Fbb.l0])
   | succ k1 =>
    have H := HA.out;clear HA;simp only [Fbb.l0] at H
    by_cases c4 : aa < (l0.length : Int)
    focus
     rw [if_pos c4] at H;have aJ := dT c4;clear c4
     by_cases c5 : 0 ≤ aa
     rotate_left;rw [if_neg c5] at H;exact nH_ H;rw [if_pos c5] at H;have c5b0 := dT c5;clear c5;obtain ⟨aC,A6,H⟩ := bE_ H
     by_cases c7 : aC < 0
     focus
      rw [if_pos c7] at H;have aK := dT c7;clear c7;obtain rfl := oI H
     rotate_left
     focus
      rw [if_neg c7] at H;have aK := dF c7;clear c7;have H' := aM H;clear H
    rotate_left 2
    focus
     rw [if_neg c4] at H;have aJ := dF c4;clear c4;obtain rfl := oI H
    all_goals
     (try (have p01 : 0 ≤ (aa : Int) := oD (by assumption);have q01 : aa < (l0.length : Int) := oD (by assumption);obtain ⟨ad01,aD,aE,aF,aG,e01,af,ag,ah,ai,aj,ak,al,am,an,ao,ab,ac,ad,ae,ap,ar,au,av⟩ := Fcy HR0.out aa p01 q01;cases e01;replace af := mv_ HB.out af;replace ag := mv_ HB.out ag;replace ah := mv_ HB.out ah;replace ai := mv_ HB.out ai;replace aj := mv_ HB.out aj;replace ak := mv_ HB.out ak;replace al := mv_ HB.out al;replace am := mv_ HB.out am;replace an := mv_ HB.out an;replace ao := mv_ HB.out ao;replace ab := mv_ HB.out ab;replace ac := mv_ HB.out ac;replace ad := mv_ HB.out ad;replace ae := mv_ HB.out ae;have ax := aM ar;have ay := aM ap;clear ar ap;have az := aM av;have aA := aM au;clear av au;replace p01 := eq_true p01;replace q01 := eq_true q01));go_wp2_with (first|((with_reducible refine gate_callee (f := 10) rfl ?_);refine gl_ (some 23) Tryz.func10 #[.agg #[.string ((FaR l0 aa).f0),.int .i64 ((FaR l0 aa).f1),.slice aD ((FaR l0 aa).f2).length aE,.slice aF ((FaR l0 aa).f3).length aG,.string ((FaR l0 aa).f4),.string ((FaR l0 aa).f5),.string ((FaR l0 aa).f6),.int .i64 ((FaR l0 aa).f7.f0),.int .i64 ((FaR l0 aa).f7.f1),.int .i64 ((FaR l0 aa).f7.f2),.bool ((FaR l0 aa).f7.f3),.int .i64 ((FaR l0 aa).f8),.string ((FaR l0 aa).f9),.string ((FaR l0 aa).f10)],.int .i64 aw] ?_;(with_reducible refine (FbK.calls _ _ _ _ _ _ _ _ _ _ _ _ _ _ _ _ _ _ _ _ _ _ ?side1 ?side2 ?side3 ?side4 A6.out).mono ?_);(case side1 => exact wX_ ax.out);(case side2 => exact ay.out);(case side3 => exact wX_ az.out);(case side4 => exact aA.out);rintro e WA6 ⟨rfl,hb⟩;refine ⟨_,rfl,?_⟩;replace HB := aM (lT wB_ hb)))
     first
      |
       go_ret;exact ⟨vR_,wB_⟩
      |
       go_roundg k1
       case measure => have := aL.out;omega
       case rel => exact ⟨(aC),(wrap64 (aa + 1)),vR_,vR_,H',⟨by have := aL.out;omega⟩,⟨wB_⟩⟩
def FbA.f (k : Nat) (ab : List (S29)) (a1 : Int) : Option (Int) := (Fbb.f k ab a1).bind fun aa => (if aa < 0 then (some (-1)) else (some aa))
theorem FbA.mono : ∀ a0 a1 k,LeO (FbA.f k a0 a1) (FbA.f (k + 1) a0 a1) := by
 intro a0 a1 k
 unfold FbA.f
 repeat' (first|with_reducible (first|exact Fbb.mono _ _ _|exact LeO.refl _|exact LeO.none _|refine LeO.ite ?_ ?_|refine LeO.bind ?_ (fun _ => ?_))|exact LeO.none _|refine LeO.ite ?_ ?_|refine LeO.bind ?_ (fun _ => ?_))
theorem FbA.calls (k : Nat) (ac : Option Addr) (ad : Nat) (aa : List (S29)) (a1 : Int) (r : Int) (w : World) (af : Kd.C k29 w ac aa.length aa) (ag : aa.length ≤ ad) (h : FbA.f k aa a1 = some r) :
  Calls Tryz.prog 17 #[.agg #[.slice ac aa.length ad],.int .i64 a1] w fun e w' => e = .returned (.int .i64 r) ∧ Below w.heap.size w w' := by
 have hu48 := Tryz.underlying48;have ah := aM af;have ai := aM ag;clear af ag;have HB := aM (Below.refl w.heap.size w);have H : ((Fbb.f k aa a1).bind fun ae => (if ae < 0 then (some (-1)) else (some ae))) = some r := h;clear h;obtain ⟨ae,A3,H⟩ := bE_ H
 by_cases c4 : ae < 0
 focus
  rw [if_pos c4] at H;have al := dT c4;clear c4;obtain rfl := oI H
 rotate_left
 focus
  rw [if_neg c4] at H;have al := dF c4;clear c4;obtain rfl := oI H
 all_goals
  go_enter Tryz.func17,Tryz.ntmps17;go_wp2_with (first|((with_reducible refine gate_dst (N := 2) rfl ?_);refine bx_ (N := 2) (cs := #[.slice ac aa.length ad]) (t := 48) ?_;intro aj hg Wgb138 hbox hb;have ab := aM (hbox);have ak := aM ((by rw [hg];exact (lZ wB_) : w.heap.size ≤ aj));have GE138 := ak;replace HB := aM (lT wB_ hb);clear hb hbox hg;obtain ⟨_,_⟩ := z1_ ab.out)|((with_reducible refine gate_callee (f := 70) rfl ?_);refine gl_ (some 8) Tryz.func70 #[.slice ac aa.length ad,.int .i64 a1] ?_;(with_reducible refine (Fbb.calls _ _ _ _ _ _ _ ?side1 ?side2 A3.out).mono ?_);(case side1 => exact wX_ ah.out);(case side2 => exact ai.out);rintro e WA3 ⟨rfl,hb⟩;refine ⟨_,rfl,?_⟩;replace ab := aM (bw_ ab.out hb);replace HB := aM (lT wB_ hb)));go_ret;exact ⟨vR_,wB_⟩
def Fbl.f (a0 : Int) (a1 : Int) (a2 : Int) : Option (Bool) := if a0 ≥ a1 then (some (decide (a0 ≤ a2))) else (some false)
theorem Fbl.calls (a0 : Int) (a1 : Int) (a2 : Int) (r : Bool) (w : World) (h : Fbl.f a0 a1 a2 = some r) :
  Calls Tryz.prog 121 #[.int .i64 a0,.int .i64 a1,.int .i64 a2] w fun e w' => e = .returned (.bool r) ∧ Drawn0 w w' := by
 have H : (if a0 ≥ a1 then (some (decide (a0 ≤ a2))) else (some false)) = some r := h;clear h
 by_cases c4 : a0 ≥ a1
 focus
  rw [if_pos c4] at H;have aa : decide (a1 ≤ a0) = true := dT c4;clear c4;obtain rfl := oI H
 rotate_left
 focus
  rw [if_neg c4] at H;have aa : decide (a1 ≤ a0) = false := dF c4;clear c4;obtain rfl := oI H
 all_goals
  go_enter Tryz.func121,Tryz.ntmps121;go_wp2;go_ret;exact ⟨vR_,dw_⟩
def FbT.f (a0 : Int) : Option (Bool) := if a0 ≥ 48 then (some (decide (a0 ≤ 57))) else (some false)
theorem FbT.calls (a0 : Int) (r : Bool) (w : World) (h : FbT.f a0 = some r) :
  Calls Tryz.prog 176 #[.int .u8 a0] w fun e w' => e = .returned (.bool r) ∧ Drawn0 w w' := by
 have H : (if a0 ≥ 48 then (some (decide (a0 ≤ 57))) else (some false)) = some r := h;clear h
 by_cases c2 : a0 ≥ 48
 focus
  rw [if_pos c2] at H;have aa : decide (48 ≤ a0) = true := dT c2;clear c2;obtain rfl := oI H
 rotate_left
 focus
  rw [if_neg c2] at H;have aa : decide (48 ≤ a0) = false := dF c2;clear c2;obtain rfl := oI H
 all_goals
  go_enter Tryz.func176,Tryz.ntmps176;go_wp2;go_ret;exact ⟨vR_,dw_⟩
def Fcg.f (a0 : Int) : Option (Bool) := if a0 ≥ 97 then (if a0 ≤ 122 then (some true) else ((FbT.f a0).bind fun aa => (some aa))) else ((FbT.f a0).bind fun ab => (some ab))
theorem Fcg.calls (a0 : Int) (r : Bool) (w : World) (h : Fcg.f a0 = some r) :
  Calls Tryz.prog 139 #[.int .u8 a0] w fun e w' => e = .returned (.bool r) ∧ Drawn0 w w' := by
 have H : (if a0 ≥ 97 then (if a0 ≤ 122 then (some true) else ((FbT.f a0).bind fun aa => (some aa))) else ((FbT.f a0).bind fun ab => (some ab))) = some r := h;clear h
 by_cases c2 : a0 ≥ 97
 focus
  rw [if_pos c2] at H;have ac : decide (97 ≤ a0) = true := dT c2;clear c2
  by_cases c3 : a0 ≤ 122
  focus
   rw [if_pos c3] at H;have ad := dT c3;clear c3;obtain rfl := oI H
  rotate_left
  focus
   rw [if_neg c3] at H;have ad := dF c3;clear c3;obtain ⟨aa,A4,H⟩ := bE_ H;obtain rfl := oI H
 rotate_left 2
 focus
  rw [if_neg c2] at H;have ac : decide (97 ≤ a0) = false := dF c2;clear c2;obtain ⟨ab,A5,H⟩ := bE_ H;obtain rfl := oI H
 all_goals
  go_enter Tryz.func139,Tryz.ntmps139;go_wp2_with (first|(go_at_call 176;(with_reducible refine (FbT.calls _ _ _ A5.out).mono ?_);rintro e w' ⟨rfl,⟨nd,rfl⟩⟩)|(go_at_call 176;(with_reducible refine (FbT.calls _ _ _ A4.out).mono ?_);rintro e w' ⟨rfl,⟨nd,rfl⟩⟩));go_ret;exact ⟨vR_,dw_⟩
def Fbf.l0 : Nat → ByteArray → Int → Option (Bool)
 | 0,_,_ => none
 | k + 1,x0,x3 => if x3 < (x0.size : Int) then (if 0 ≤ x3 then ((Fcg.f (bt x0 x3)).bind fun aa => (if aa = true then (Fbf.l0 k x0 (wrap64 (x3 + 1))) else (some false))) else (none)) else ((Fbl.f (x0.size : Int) 1 15).bind fun ab => (if ab = true then (if x0.toList = ([110,111,116] : List UInt8) then (some false) else (if x0.toList = ([97,110,100] : List UInt8) then (some false) else (some (x0.toList != ([111,114] : List UInt8))))) else (some false)))
def Fbf.f (k : Nat) (a0 : ByteArray) : Option (Bool) := Fbf.l0 k a0 0
theorem Fbf.mono_l : ∀ k,(∀ y0 y1,LeO (Fbf.l0 k y0 y1) (Fbf.l0 (k + 1) y0 y1))
 | 0 => fun _ _ r h => by simp [Fbf.l0] at h
 | k + 1 => by
  have ih0 := Fbf.mono_l k
  ·intro y0 y1
   unfold Fbf.l0
   repeat' (first|with_reducible (first|exact ih0 _ _|exact LeO.refl _|exact LeO.none _|refine LeO.ite ?_ ?_|refine LeO.bind ?_ (fun _ => ?_))|exact LeO.none _|refine LeO.ite ?_ ?_|refine LeO.bind ?_ (fun _ => ?_))
theorem Fbf.mono : ∀ a0 k,LeO (Fbf.f k a0) (Fbf.f (k + 1) a0) := by
 intro a0 k
 have ih0 := Fbf.mono_l k
 unfold Fbf.f
 repeat' (first|with_reducible (first|exact ih0 _ _|exact LeO.refl _|exact LeO.none _|refine LeO.ite ?_ ?_|refine LeO.bind ?_ (fun _ => ?_))|exact LeO.none _|refine LeO.ite ?_ ?_|refine LeO.bind ?_ (fun _ => ?_))
theorem Fbf.calls (k : Nat) (a0 : ByteArray) (r : Bool) (w : World) (h : Fbf.f k a0 = some r) :
  Calls Tryz.prog 98 #[.string a0] w fun e w' => e = .returned (.bool r) ∧ Drawn0 w w' := by
 have H : (Fbf.l0 k a0 0) = some r := h;clear h;have H' := aM H;clear H;go_enter Tryz.func98,Tryz.ntmps98;go_wp2;go_loopg [3] k (fun kq v3 w' => ∃ (aa : Int),v3 = .int .i64 aa ∧ Aside0 (Fbf.l0 kq a0 aa = some r) ∧ Aside0 (kq ≤ k) ∧ Drawn0 w w')
 case atStart => exact ⟨(0),vR_,H',⟨Nat.le_refl _⟩,dw_⟩
 case round =>
  clear H';obtain ⟨aa,rfl,HA,ai,⟨m1,rfl⟩⟩ := hrel
  cases gk with
  | zero => exact absurd HA.out (by simp [Fbf.l0])
  | succ k1 =>
   have H := HA.out;clear HA;simp only [Fbf.l0] at H
   by_cases c2 : aa < (a0.size : Int)
   focus
    rw [if_pos c2] at H;have ad := dT c2;clear c2
    by_cases c3 : 0 ≤ aa
    rotate_left;rw [if_neg c3] at H;exact nH_ H;rw [if_pos c3] at H;have c3b0 := dT c3;clear c3;obtain ⟨ae,A5,H⟩ := bE_ H
    by_cases c6 : ae = true
    focus
     subst c6;rw [if_pos rfl] at H;have H' := aM H;clear H
    rotate_left
    focus
     replace c6 := qO.mpr c6;subst c6;rw [if_neg qT] at H;obtain rfl := oI H
   rotate_left 2
   focus
    rw [if_neg c2] at H;have ad := dF c2;clear c2;obtain ⟨af,A7,H⟩ := bE_ H
    by_cases c8 : af = true
    focus
     subst c8;rw [if_pos rfl] at H
     by_cases c9 : a0.toList = ([110,111,116] : List UInt8)
     focus
      rw [if_pos c9] at H;have ag := qE.mpr c9;have ah := qN.mpr c9;clear c9;obtain rfl := oI H
     rotate_left
     focus
      rw [if_neg c9] at H;have ag := qF.mpr c9;have ah := qB.mpr c9
      by_cases c10 : a0.toList = ([97,110,100] : List UInt8)
      focus
       rw [if_pos c10] at H;have ab := qE.mpr c10;have ac := qN.mpr c10;clear c10;obtain rfl := oI H
      rotate_left
      focus
       rw [if_neg c10] at H;have ab := qF.mpr c10;have ac := qB.mpr c10;obtain rfl := oI H
    rotate_left 3
    focus
     replace c8 := qO.mpr c8;subst c8;rw [if_neg qT] at H;obtain rfl := oI H
   all_goals
    (try (have p01 : 0 ≤ (aa : Int) := oD (by assumption);have q01 : aa < (a0.size : Int) := oD (by assumption);have hx01 := bt_at a0 aa;replace p01 := eq_true p01;replace q01 := eq_true q01));go_wp2_with (first|((with_reducible refine gate_callee (f := 121) rfl ?_);refine gl_ (some 17) Tryz.func121 #[.int .i64 (a0.size : Int),.int .i64 1,.int .i64 15] ?_;(with_reducible refine (Fbl.calls _ _ _ _ _ A7.out).mono ?_);rintro e w' ⟨rfl,⟨nd,rfl⟩⟩;refine ⟨_,rfl,?_⟩)|((with_reducible refine gate_callee (f := 139) rfl ?_);refine gl_ (some 13) Tryz.func139 #[.int .u8 (bt a0 aa)] ?_;(with_reducible refine (Fcg.calls _ _ _ A5.out).mono ?_);rintro e w' ⟨rfl,⟨nd,rfl⟩⟩;refine ⟨_,rfl,?_⟩))
    first
     |
      go_ret;exact ⟨vR_,dw_⟩
     |
      go_roundg k1
      case measure => have := ai.out;omega
      case rel => exact ⟨(wrap64 (aa + 1)),vR_,H',⟨by have := ai.out;omega⟩,dw_⟩
def FbL.f  : Option (List ByteArray) := some (([(⟨#[97,117,116,104,111,114,115]⟩ : ByteArray),(⟨#[101,100,105,116,111,114,115]⟩ : ByteArray),(⟨#[116,105,116,108,101]⟩ : ByteArray),(⟨#[99,111,110,116,97,105,110,101,114]⟩ : ByteArray),(⟨#[112,117,98,108,105,115,104,101,114]⟩ : ByteArray),(⟨#[100,97,116,101]⟩ : ByteArray),(⟨#[118,111,108,117,109,101]⟩ : ByteArray),(⟨#[112,97,103,101,115]⟩ : ByteArray)] : List ByteArray))
theorem FbL.calls  (r : List ByteArray) (w : World) (h : FbL.f  = some r) :
  Calls Tryz.prog 146 #[] w fun e w' => ∃ af : Value,e = .returned (af) ∧ Kd.R Kd.string 9 w' w.heap.size (fun _ => True) af r ∧ Below w.heap.size w w' := by
 have HB := aM (Below.refl w.heap.size w);have H : (some (([(⟨#[97,117,116,104,111,114,115]⟩ : ByteArray),(⟨#[101,100,105,116,111,114,115]⟩ : ByteArray),(⟨#[116,105,116,108,101]⟩ : ByteArray),(⟨#[99,111,110,116,97,105,110,101,114]⟩ : ByteArray),(⟨#[112,117,98,108,105,115,104,101,114]⟩ : ByteArray),(⟨#[100,97,116,101]⟩ : ByteArray),(⟨#[118,111,108,117,109,101]⟩ : ByteArray),(⟨#[112,97,103,101,115]⟩ : ByteArray)] : List ByteArray))) = some r := h;clear h;obtain ⟨ae,aa⟩ : ∃ y_ : List ByteArray,y_ = (([(⟨#[97,117,116,104,111,114,115]⟩ : ByteArray),(⟨#[101,100,105,116,111,114,115]⟩ : ByteArray),(⟨#[116,105,116,108,101]⟩ : ByteArray),(⟨#[99,111,110,116,97,105,110,101,114]⟩ : ByteArray),(⟨#[112,117,98,108,105,115,104,101,114]⟩ : ByteArray),(⟨#[100,97,116,101]⟩ : ByteArray),(⟨#[118,111,108,117,109,101]⟩ : ByteArray),(⟨#[112,97,103,101,115]⟩ : ByteArray)] : List ByteArray)) := ⟨_,rfl⟩;replace H : (some ae) = some r := (yH_ aa H);have ab := aM aa;clear aa;obtain rfl := oI H;go_enter Tryz.func146,Tryz.ntmps146;go_wp2_with (first|((with_reducible refine gate_dst (N := 1) rfl ?_);refine Kd.R_lit Kd.string _ 9 ?hg (N := 1) ?hd (xs := ([(⟨#[97,117,116,104,111,114,115]⟩ : ByteArray),(⟨#[101,100,105,116,111,114,115]⟩ : ByteArray),(⟨#[116,105,116,108,101]⟩ : ByteArray),(⟨#[99,111,110,116,97,105,110,101,114]⟩ : ByteArray),(⟨#[112,117,98,108,105,115,104,101,114]⟩ : ByteArray),(⟨#[100,97,116,101]⟩ : ByteArray),(⟨#[118,111,108,117,109,101]⟩ : ByteArray),(⟨#[112,97,103,101,115]⟩ : ByteArray)] : List ByteArray)) (inner := [.string (⟨#[97,117,116,104,111,114,115]⟩ : ByteArray),.string (⟨#[101,100,105,116,111,114,115]⟩ : ByteArray),.string (⟨#[116,105,116,108,101]⟩ : ByteArray),.string (⟨#[99,111,110,116,97,105,110,101,114]⟩ : ByteArray),.string (⟨#[112,117,98,108,105,115,104,101,114]⟩ : ByteArray),.string (⟨#[100,97,116,101]⟩ : ByteArray),.string (⟨#[118,111,108,117,109,101]⟩ : ByteArray),.string (⟨#[112,97,103,101,115]⟩ : ByteArray)]) (ok := fun _ => True) (okp := fun _ => True) ?hr ?hp (fun _ hk => hk) trivial (Below.refl _ _) (Nat.le_refl _) (by simp) ?_;(case hd => rfl);(case hg => rfl);(case hr => first|(go_simp;done)|(go_simp;rfl));(case hp => exact (Reps.one (show Kd.M Kd.string _ _ _ (⟨#[97,117,116,104,111,114,115]⟩ : ByteArray) [.string (⟨#[97,117,116,104,111,114,115]⟩ : ByteArray)] from rfl) (Reps.one (show Kd.M Kd.string _ _ _ (⟨#[101,100,105,116,111,114,115]⟩ : ByteArray) [.string (⟨#[101,100,105,116,111,114,115]⟩ : ByteArray)] from rfl) (Reps.one (show Kd.M Kd.string _ _ _ (⟨#[116,105,116,108,101]⟩ : ByteArray) [.string (⟨#[116,105,116,108,101]⟩ : ByteArray)] from rfl) (Reps.one (show Kd.M Kd.string _ _ _ (⟨#[99,111,110,116,97,105,110,101,114]⟩ : ByteArray) [.string (⟨#[99,111,110,116,97,105,110,101,114]⟩ : ByteArray)] from rfl) (Reps.one (show Kd.M Kd.string _ _ _ (⟨#[112,117,98,108,105,115,104,101,114]⟩ : ByteArray) [.string (⟨#[112,117,98,108,105,115,104,101,114]⟩ : ByteArray)] from rfl) (Reps.one (show Kd.M Kd.string _ _ _ (⟨#[100,97,116,101]⟩ : ByteArray) [.string (⟨#[100,97,116,101]⟩ : ByteArray)] from rfl) (Reps.one (show Kd.M Kd.string _ _ _ (⟨#[118,111,108,117,109,101]⟩ : ByteArray) [.string (⟨#[118,111,108,117,109,101]⟩ : ByteArray)] from rfl) (Reps.one (show Kd.M Kd.string _ _ _ (⟨#[112,97,103,101,115]⟩ : ByteArray) [.string (⟨#[112,97,103,101,115]⟩ : ByteArray)] from rfl) (Reps.none _ _))))))))));intro v145 w1 ac hb hg_ hnew_;clear hg_ hnew_;(first|rw [← ab.out] at ac|(simp only [Int.reduceToNat] at ac;rw [← ab.out] at ac));have ad := aM (Kd.R_lower ac (lZ wB_));replace HB := aM (lT wB_ hb);clear hb ac));go_ret;exact ⟨_,vR_,wO_ ad.out,wB_⟩
def Fa7.l0 : Nat → ByteArray → List ByteArray → Int → Option (Bool)
 | 0,_,_,_ => none
 | k + 1,x0,x3,x4 => if x4 < (x3.length : Int) then (if 0 ≤ x4 then (if (rdOf ByteArray.empty x3 x4).toList = x0.toList then (some true) else (Fa7.l0 k x0 x3 (wrap64 (x4 + 1)))) else (none)) else (some (x0.toList == ([] : List UInt8)))
def Fa7.f (k : Nat) (a0 : ByteArray) : Option (Bool) := (FbL.f).bind fun aa => (Fa7.l0 k a0 aa 0)
theorem Fa7.mono_l : ∀ k,(∀ y0 y1 y2,LeO (Fa7.l0 k y0 y1 y2) (Fa7.l0 (k + 1) y0 y1 y2))
 | 0 => fun _ _ _ r h => by simp [Fa7.l0] at h
 | k + 1 => by
  have ih0 := Fa7.mono_l k
  ·intro y0 y1 y2
   unfold Fa7.l0
   repeat' (first|with_reducible (first|exact ih0 _ _ _|exact LeO.refl _|exact LeO.none _|refine LeO.ite ?_ ?_|refine LeO.bind ?_ (fun _ => ?_))|exact LeO.none _|refine LeO.ite ?_ ?_|refine LeO.bind ?_ (fun _ => ?_))
theorem Fa7.mono : ∀ a0 k,LeO (Fa7.f k a0) (Fa7.f (k + 1) a0) := by
 intro a0 k
 have ih0 := Fa7.mono_l k
 unfold Fa7.f
 repeat' (first|with_reducible (first|exact ih0 _ _ _|exact LeO.refl _|exact LeO.none _|refine LeO.ite ?_ ?_|refine LeO.bind ?_ (fun _ => ?_))|exact LeO.none _|refine LeO.ite ?_ ?_|refine LeO.bind ?_ (fun _ => ?_))
theorem Fa7.calls (k : Nat) (a0 : ByteArray) (r : Bool) (w : World) (h : Fa7.f k a0 = some r) :
  Calls Tryz.prog 209 #[.string a0] w fun e w' => e = .returned (.bool r) ∧ Below w.heap.size w w' := by
 have HB := aM (Below.refl w.heap.size w);have H : ((FbL.f).bind fun ab => (Fa7.l0 k a0 ab 0)) = some r := h;clear h;obtain ⟨ab,A2,H⟩ := bE_ H;have H' := aM H;clear H;go_enter Tryz.func209,Tryz.ntmps209;go_wp2_with (first|((with_reducible refine gate_callee (f := 146) rfl ?_);refine gl_ (some 5) Tryz.func146 #[] ?_;(with_reducible refine (FbL.calls  ab _ A2.out).mono ?_);rintro e w3 ⟨ah,rfl,am,hb⟩;refine ⟨_,rfl,?_⟩;have ae := aM (Kd.R_lower am (lZ wB_));replace HB := aM (lT wB_ hb)));go_loopg [4] k (fun kq v4 w' => ∃ (aa : Int),v4 = .int .i64 aa ∧ Aside0 (Fa7.l0 kq a0 ab aa = some r) ∧ Aside0 (kq ≤ k) ∧ Aside0 (Kd.R Kd.string 9 w' w.heap.size (fun _ => True) ah ab) ∧ Aside0 (Below w.heap.size w w'))
 case atStart => exact ⟨(0),vR_,H',⟨Nat.le_refl _⟩,⟨wO_ ae.out⟩,⟨wB_⟩⟩
 case round =>
  clear H';obtain ⟨aa,rfl,HA,al,ac,HB⟩ := hrel
  cases gk with
  | zero => exact absurd HA.out (by simp [Fa7.l0])
  | succ k1 =>
   have H := HA.out;clear HA;simp only [Fa7.l0] at H
   by_cases c4 : aa < (ab.length : Int)
   focus
    rw [if_pos c4] at H;have ai := dT c4;clear c4
    by_cases c5 : 0 ≤ aa
    rotate_left;rw [if_neg c5] at H;exact nH_ H;rw [if_pos c5] at H;have c5b0 := dT c5;clear c5
    by_cases c6 : (rdOf ByteArray.empty ab aa).toList = a0.toList
    focus
     rw [if_pos c6] at H;have aj := qE.mpr c6;have ak := qN.mpr c6;clear c6;obtain rfl := oI H;obtain ⟨af,ag,ad⟩ := Kd.R_slice ac.out;subst ad
    rotate_left
    focus
     rw [if_neg c6] at H;have aj := qF.mpr c6;have ak := qB.mpr c6;have H' := aM H;clear H;obtain ⟨af,ag,ad⟩ := Kd.R_slice ac.out;subst ad
   rotate_left 2
   focus
    rw [if_neg c4] at H;have ai := dF c4;clear c4;obtain rfl := oI H;obtain ⟨af,ag,ad⟩ := Kd.R_slice ac.out;subst ad
   all_goals
    (try (have p01 : 0 ≤ (aa : Int) := oD (by assumption);have q01 : aa < (ab.length : Int) := oD (by assumption);obtain ⟨ad01,e01,hx01_0⟩ := Kd.at_string (rR ac.out).2.2 aa p01 q01;cases e01;replace p01 := eq_true p01;replace q01 := eq_true q01));go_wp2
    first
     |
      go_ret;exact ⟨vR_,wB_⟩
     |
      go_roundg k1
      case measure => have := al.out;omega
      case rel => exact ⟨(wrap64 (aa + 1)),vR_,H',⟨by have := al.out;omega⟩,⟨wO_ ac.out⟩,⟨wB_⟩⟩
def FbM.f (k : Nat) (aa : Int) (ab : ByteArray) (ac : ByteArray) (ad : List (S36)) : Option (Bool) := if aa = 1 then ((Fbf.f k ac).bind fun ae => (if ae = true then ((Fa7.f k ab).bind fun af => (if af = true then (some ((ad.length : Int) == 0)) else (some false))) else (some false))) else (if aa = 2 then (if ac.toList = ([] : List UInt8) then (if ab.toList = ([] : List UInt8) then (some ((ad.length : Int) == 1)) else (some false)) else (some false)) else (if aa = 3 then (if ac.toList = ([] : List UInt8) then (if ab.toList = ([] : List UInt8) then (some ((ad.length : Int) == 2)) else (some false)) else (some false)) else (if aa = 4 then (if ac.toList = ([] : List UInt8) then (if ab.toList = ([] : List UInt8) then (some ((ad.length : Int) == 2)) else (some false)) else (some false)) else (some false))))
theorem FbM.mono : ∀ a0 a1 a2 a3 k,LeO (FbM.f k a0 a1 a2 a3) (FbM.f (k + 1) a0 a1 a2 a3) := by
 intro a0 a1 a2 a3 k
 unfold FbM.f
 repeat' (first|with_reducible (first|exact Fa7.mono _ _|exact Fbf.mono _ _|exact LeO.refl _|exact LeO.none _|refine LeO.ite ?_ ?_|refine LeO.bind ?_ (fun _ => ?_))|exact LeO.none _|refine LeO.ite ?_ ?_|refine LeO.bind ?_ (fun _ => ?_))
theorem FbM.calls (k : Nat) (aa : Int) (ac : ByteArray) (ab : ByteArray) (ah : Option Addr) (ai : Nat) (ad : List (S36)) (r : Bool) (w : World) (af : Kd.C k36 w ah ad.length ad) (ag : ad.length ≤ ai) (h : FbM.f k aa ac ab ad = some r) :
  Calls Tryz.prog 161 #[.agg #[.int .i64 aa,.string ac,.string ab,.slice ah ad.length ai]] w fun e w' => e = .returned (.bool r) ∧ Below w.heap.size w w' := by
 have hu36 := Tryz.underlying36;have HR0_3 := aM af;have HC0_3 := aM ag;clear af ag;have HB := aM (Below.refl w.heap.size w);have H : (if aa = 1 then ((Fbf.f k ab).bind fun aj => (if aj = true then ((Fa7.f k ac).bind fun ak => (if ak = true then (some ((ad.length : Int) == 0)) else (some false))) else (some false))) else (if aa = 2 then (if ab.toList = ([] : List UInt8) then (if ac.toList = ([] : List UInt8) then (some ((ad.length : Int) == 1)) else (some false)) else (some false)) else (if aa = 3 then (if ab.toList = ([] : List UInt8) then (if ac.toList = ([] : List UInt8) then (some ((ad.length : Int) == 2)) else (some false)) else (some false)) else (if aa = 4 then (if ab.toList = ([] : List UInt8) then (if ac.toList = ([] : List UInt8) then (some ((ad.length : Int) == 2)) else (some false)) else (some false)) else (some false))))) = some r := h;clear h
 by_cases c2 : aa = 1
 focus
  rw [if_pos c2] at H;have aV := qE.mpr c2;have aW := qN.mpr c2;clear c2;obtain ⟨aj,A3,H⟩ := bE_ H
  by_cases c4 : aj = true
  focus
   subst c4;rw [if_pos rfl] at H;obtain ⟨ak,A5,H⟩ := bE_ H
   by_cases c6 : ak = true
   focus
    subst c6;rw [if_pos rfl] at H;obtain rfl := oI H
   rotate_left
   focus
    replace c6 := qO.mpr c6;subst c6;rw [if_neg qT] at H;obtain rfl := oI H
  rotate_left 2
  focus
   replace c4 := qO.mpr c4;subst c4;rw [if_neg qT] at H;obtain rfl := oI H
 rotate_left 3
 focus
  rw [if_neg c2] at H;have aV := qF.mpr c2;have aW := qB.mpr c2
  by_cases al : aa = 2
  focus
   rw [if_pos al] at H;have ax := qE.mpr al;have ay := qN.mpr al;clear al
   by_cases am : ab.toList = ([] : List UInt8)
   focus
    rw [if_pos am] at H;have az := qE.mpr am;have aA := qN.mpr am;clear am
    by_cases an : ac.toList = ([] : List UInt8)
    focus
     rw [if_pos an] at H;have aC := qE.mpr an;have aD := qN.mpr an;clear an;obtain rfl := oI H
    rotate_left
    focus
     rw [if_neg an] at H;have aC := qF.mpr an;have aD := qB.mpr an;obtain rfl := oI H
   rotate_left 2
   focus
    rw [if_neg am] at H;have az := qF.mpr am;have aA := qB.mpr am;obtain rfl := oI H
  rotate_left 3
  focus
   rw [if_neg al] at H;have ax := qF.mpr al;have ay := qB.mpr al
   by_cases ao : aa = 3
   focus
    rw [if_pos ao] at H;have aE := qE.mpr ao;have aF := qN.mpr ao;clear ao
    by_cases ap : ab.toList = ([] : List UInt8)
    focus
     rw [if_pos ap] at H;have aG := qE.mpr ap;have aH := qN.mpr ap;clear ap
     by_cases ar : ac.toList = ([] : List UInt8)
     focus
      rw [if_pos ar] at H;have aJ := qE.mpr ar;have aK := qN.mpr ar;clear ar;obtain rfl := oI H
     rotate_left
     focus
      rw [if_neg ar] at H;have aJ := qF.mpr ar;have aK := qB.mpr ar;obtain rfl := oI H
    rotate_left 2
    focus
     rw [if_neg ap] at H;have aG := qF.mpr ap;have aH := qB.mpr ap;obtain rfl := oI H
   rotate_left 3
   focus
    rw [if_neg ao] at H;have aE := qF.mpr ao;have aF := qB.mpr ao
    by_cases au : aa = 4
    focus
     rw [if_pos au] at H;have aL := qE.mpr au;have aN := qN.mpr au;clear au
     by_cases av : ab.toList = ([] : List UInt8)
     focus
      rw [if_pos av] at H;have aO := qE.mpr av;have aP := qN.mpr av;clear av
      by_cases aw : ac.toList = ([] : List UInt8)
      focus
       rw [if_pos aw] at H;have aQ := qE.mpr aw;have aR := qN.mpr aw;clear aw;obtain rfl := oI H
      rotate_left
      focus
       rw [if_neg aw] at H;have aQ := qF.mpr aw;have aR := qB.mpr aw;obtain rfl := oI H
     rotate_left 2
     focus
      rw [if_neg av] at H;have aO := qF.mpr av;have aP := qB.mpr av;obtain rfl := oI H
    rotate_left 3
    focus
     rw [if_neg au] at H;have aL := qF.mpr au;have aN := qB.mpr au;obtain rfl := oI H
 all_goals
  go_enter Tryz.func161,Tryz.ntmps161;go_wp2_with (first|((with_reducible refine gate_dst (N := 1) rfl ?_);(try (refine gate_guard (by rfl) ?_;dsimp only));refine bx_ (N := 1) (cs := #[.int .i64 aa,.string ac,.string ab,.slice ah ad.length ai]) (t := 36) ?_;intro aT hg Wgb151 hbox hb;have ae := aM (hbox);have aU := aM ((by rw [hg];exact (lZ wB_) : w.heap.size ≤ aT));have GE151 := aU;replace HB := aM (lT wB_ hb);clear hb hbox hg;obtain ⟨_,_,_,_,_,_,_,_⟩ := z4_ ae.out)|((with_reducible refine gate_callee (f := 98) rfl ?_);refine gl_ (some 9) Tryz.func98 #[.string ab] ?_;(with_reducible refine (Fbf.calls _ _ _ _ A3.out).mono ?_);rintro e w' ⟨rfl,⟨nd,rfl⟩⟩;refine ⟨_,rfl,?_⟩)|(go_at_call 209;(with_reducible refine (Fa7.calls _ _ _ _ A5.out).mono ?_);rintro e WA5 ⟨rfl,hb⟩;replace ae := aM (bw_ ae.out hb);replace HB := aM (lT wB_ hb);obtain ⟨_,_,_,_,_,_,_,_⟩ := z4_ ae.out));go_ret;exact ⟨vR_,wB_⟩
mutual
def FaU.l0 : Nat → Int → Int → ByteArray → ByteArray → List (S36) → Option (Bool)
 | 0,_,_,_,_,_ => none
 | k + 1,x3,ab,ac,ad,aa => if x3 < (aa.length : Int) then (if 0 ≤ x3 then ((FaU.f k ((Fab aa x3).f0) ((Fab aa x3).f1) ((Fab aa x3).f2) ((Fab aa x3).f3)).bind fun ae => (if ae = true then (FaU.l0 k (wrap64 (x3 + 1)) ab ac ad aa) else (some false))) else (none)) else (some true)
def FaU.f : Nat → Int → ByteArray → ByteArray → List (S36) → Option (Bool)
 | 0,_,_,_,_ => none
 | k + 1,aa,ab,ac,ad => (FbM.f k aa ab ac ad).bind fun ae => (if ae = true then (FaU.l0 k 0 aa ab ac ad) else (some false))
end
theorem FaU.mono_l : ∀ k,(∀ y0 y1 y2 y3,LeO (FaU.f k y0 y1 y2 y3) (FaU.f (k + 1) y0 y1 y2 y3)) ∧ (∀ y0 y1 y2 y3 y4,LeO (FaU.l0 k y0 y1 y2 y3 y4) (FaU.l0 (k + 1) y0 y1 y2 y3 y4))
 | 0 => ⟨fun _ _ _ _ r h => by simp [FaU.f] at h,fun _ _ _ _ _ r h => by simp [FaU.l0] at h⟩
 | k + 1 => by
  obtain ⟨ih0,ih1⟩ := FaU.mono_l k
  refine ⟨?_,?_⟩
  all_goals (intros;first|unfold FaU.f|unfold FaU.l0)
  all_goals repeat' (first|with_reducible (first|exact ih0 _ _ _ _|exact ih1 _ _ _ _ _|exact FbM.mono _ _ _ _ _|exact LeO.refl _|exact LeO.none _|refine LeO.ite ?_ ?_|refine LeO.bind ?_ (fun _ => ?_))|exact LeO.none _|refine LeO.ite ?_ ?_|refine LeO.bind ?_ (fun _ => ?_))
theorem FaU.mono : ∀ a0 a1 a2 a3 k,LeO (FaU.f k a0 a1 a2 a3) (FaU.f (k + 1) a0 a1 a2 a3) := by
 intro a0 a1 a2 a3 k;obtain ⟨ih0,ih1⟩ := FaU.mono_l k;exact ih0 a0 a1 a2 a3
theorem FaU.calls (k : Nat) : ∀ (ad : Int) (ae : ByteArray) (af : ByteArray) (ag : Option Addr) (ah : Nat) (aa : List (S36)) (r : Bool) (w : World) (ai : Kd.C k36 w ag aa.length aa) (aj : aa.length ≤ ah) (h : FaU.f k ad ae af aa = some r),
  Calls Tryz.prog 118 #[.agg #[.int .i64 ad,.string ae,.string af,.slice ag aa.length ah]] w fun e w' => e = .returned (.bool r) ∧ Below w.heap.size w w' := by
 induction k using Nat.strongRecOn with
 | _ k ih =>
 intro ad ae af ag ah aa r w ai aj h
 cases k with
 | zero => exact absurd h (by simp [FaU.f])
 | succ k =>
 simp only [FaU.f] at h;have hu36 := Tryz.underlying36;have ar := aM ai;have ay := aM aj;clear ai aj;have HB := aM (Below.refl w.heap.size w);have H : ((FbM.f k ad ae af aa).bind fun ax => (if ax = true then (FaU.l0 k 0 ad ae af aa) else (some false))) = some r := h;clear h;obtain ⟨ax,A2,H⟩ := bE_ H
 by_cases c3 : ax = true
 focus
  subst c3;rw [if_pos rfl] at H;have H' := aM H;clear H
 rotate_left
 focus
  replace c3 := qO.mpr c3;subst c3;rw [if_neg qT] at H;obtain rfl := oI H
 all_goals
  go_enter Tryz.func118,Tryz.ntmps118;go_wp2_with (first|((with_reducible refine gate_dst (N := 1) rfl ?_);refine bx_ (N := 1) (cs := #[.int .i64 ad,.string ae,.string af,.slice ag aa.length ah]) (t := 36) ?_;intro au hg Wgb154 hbox hb;have ac := aM (hbox);have az := aM ((by rw [hg];exact (lZ wB_) : w.heap.size ≤ au));have GE154 := az;replace HB := aM (lT wB_ hb);clear hb hbox hg;obtain ⟨_,_,_,_,_,_,_,_⟩ := z4_ ac.out)|((with_reducible refine gate_callee (f := 161) rfl ?_);refine gl_ (some 5) Tryz.func161 #[.agg #[.int .i64 ad,.string ae,.string af,.slice ag aa.length ah]] ?_;(with_reducible refine (FbM.calls _ _ _ _ _ _ _ _ _ ?side1 ?side2 A2.out).mono ?_);(case side1 => exact wX_ ar.out);(case side2 => exact ay.out);rintro e WA2 ⟨rfl,hb⟩;refine ⟨_,rfl,?_⟩;replace ac := aM (bw_ ac.out hb);replace HB := aM (lT wB_ hb)))
  first
   |
    go_ret;exact ⟨vR_,wB_⟩
   |
    go_loopg [3] k (fun kq v3 w' => ∃ (ab : Int),v3 = .int .i64 ab ∧ Aside0 (FaU.l0 kq ab ad ae af aa = some r) ∧ Aside0 (kq ≤ k) ∧ Aside0 (w'.heap[au]? = some (.cells #[.int .i64 ad,.string ae,.string af,(.slice ag aa.length ah)] 36 (0,0))) ∧ Aside0 (Below w.heap.size w w'))
    case atStart => exact ⟨(0),vR_,H',⟨Nat.le_refl _⟩,⟨wC_ ac.out⟩,⟨wB_⟩⟩
    case round =>
     clear H';obtain ⟨ab,rfl,HA,aA,ac,HB⟩ := hrel
     cases gk with
     | zero => exact absurd HA.out (by simp [FaU.l0])
     | succ k1 =>
      have H := HA.out;clear HA;simp only [FaU.l0] at H
      by_cases c7 : ab < (aa.length : Int)
      focus
       rw [if_pos c7] at H;have aC := dT c7;clear c7
       by_cases c8 : 0 ≤ ab
       rotate_left;rw [if_neg c8] at H;exact nH_ H;rw [if_pos c8] at H;have c8b0 := dT c8;clear c8;obtain ⟨aD,A9,H⟩ := bE_ H
       by_cases c10 : aD = true
       focus
        subst c10;rw [if_pos rfl] at H;have H' := aM H;clear H
       rotate_left
       focus
        replace c10 := qO.mpr c10;subst c10;rw [if_neg qT] at H;obtain rfl := oI H
      rotate_left 2
      focus
       rw [if_neg c7] at H;have aC := dF c7;clear c7;obtain rfl := oI H
      all_goals
       (try obtain ⟨_,_,_,_,_,_,_,_⟩ := z4_ ac.out);(try (have p01 : 0 ≤ (ab : Int) := oD (by assumption);have q01 : ab < (aa.length : Int) := oD (by assumption);obtain ⟨ad01,av,aw,e01,ak,al,am,an,hl01_3,hi01_3⟩ := Fcr ar.out ab p01 q01;cases e01;replace ak := mv_ HB.out ak;replace al := mv_ HB.out al;replace am := mv_ HB.out am;replace an := mv_ HB.out an;have ao := aM hi01_3;have ap := aM hl01_3;clear hi01_3 hl01_3;replace p01 := eq_true p01;replace q01 := eq_true q01));go_wp2_with (first|((with_reducible refine gate_callee (f := 118) rfl ?_);refine gl_ (some 19) Tryz.func118 #[.agg #[.int .i64 ((Fab aa ab).f0),.string ((Fab aa ab).f1),.string ((Fab aa ab).f2),.slice av ((Fab aa ab).f3).length aw]] ?_;(with_reducible refine (ih k1 (by have := aA.out;omega) ((Fab aa ab).f0) ((Fab aa ab).f1) ((Fab aa ab).f2) _ _ ((Fab aa ab).f3) false _ ?side1 ?side2 A9.out).mono ?_);(case side1 => exact wX_ ao.out);(case side2 => exact ap.out);rintro e aE ⟨rfl,hb⟩;refine ⟨_,rfl,?_⟩;replace ac := aM (bw_ ac.out hb);replace HB := aM (lT wB_ hb))|((with_reducible refine gate_callee (f := 118) rfl ?_);refine gl_ (some 19) Tryz.func118 #[.agg #[.int .i64 ((Fab aa ab).f0),.string ((Fab aa ab).f1),.string ((Fab aa ab).f2),.slice av ((Fab aa ab).f3).length aw]] ?_;(with_reducible refine (ih k1 (by have := aA.out;omega) ((Fab aa ab).f0) ((Fab aa ab).f1) ((Fab aa ab).f2) _ _ ((Fab aa ab).f3) true _ ?side1 ?side2 A9.out).mono ?_);(case side1 => exact wX_ ao.out);(case side2 => exact ap.out);rintro e aE ⟨rfl,hb⟩;refine ⟨_,rfl,?_⟩;replace ac := aM (bw_ ac.out hb);replace HB := aM (lT wB_ hb)))
       first
        |
         go_ret;exact ⟨vR_,wB_⟩
        |
         go_roundg k1
         case measure => have := aA.out;omega
         case rel => exact ⟨(wrap64 (ab + 1)),vR_,H',⟨by have := aA.out;omega⟩,⟨wC_ ac.out⟩,⟨wB_⟩⟩
mutual
def Fa0.l0 : Nat → Int → Int → Int → ByteArray → ByteArray → List (S36) → Option (Int)
 | 0,_,_,_,_,_,_ => none
 | k + 1,x3,x4,ab,ac,ad,aa => if x4 < (aa.length : Int) then (if 0 ≤ x4 then ((Fa0.f k ((Fab aa x4).f0) ((Fab aa x4).f1) ((Fab aa x4).f2) ((Fab aa x4).f3)).bind fun ae => (Fa0.l0 k (wrap64 (x3 + ae)) (wrap64 (x4 + 1)) ab ac ad aa)) else (none)) else (some x3)
def Fa0.f : Nat → Int → ByteArray → ByteArray → List (S36) → Option (Int)
 | 0,_,_,_,_ => none
 | k + 1,aa,ab,ac,ad => Fa0.l0 k 1 0 aa ab ac ad
end
theorem Fa0.mono_l : ∀ k,(∀ y0 y1 y2 y3,LeO (Fa0.f k y0 y1 y2 y3) (Fa0.f (k + 1) y0 y1 y2 y3)) ∧ (∀ y0 y1 y2 y3 y4 y5,LeO (Fa0.l0 k y0 y1 y2 y3 y4 y5) (Fa0.l0 (k + 1) y0 y1 y2 y3 y4 y5))
 | 0 => ⟨fun _ _ _ _ r h => by simp [Fa0.f] at h,fun _ _ _ _ _ _ r h => by simp [Fa0.l0] at h⟩
 | k + 1 => by
  obtain ⟨ih0,ih1⟩ := Fa0.mono_l k
  refine ⟨?_,?_⟩
  all_goals (intros;first|unfold Fa0.f|unfold Fa0.l0)
  all_goals repeat' (first|with_reducible (first|exact ih0 _ _ _ _|exact ih1 _ _ _ _ _ _|exact LeO.refl _|exact LeO.none _|refine LeO.ite ?_ ?_|refine LeO.bind ?_ (fun _ => ?_))|exact LeO.none _|refine LeO.ite ?_ ?_|refine LeO.bind ?_ (fun _ => ?_))
theorem Fa0.mono : ∀ a0 a1 a2 a3 k,LeO (Fa0.f k a0 a1 a2 a3) (Fa0.f (k + 1) a0 a1 a2 a3) := by
 intro a0 a1 a2 a3 k;obtain ⟨ih0,ih1⟩ := Fa0.mono_l k;exact ih0 a0 a1 a2 a3
theorem Fa0.calls (k : Nat) : ∀ (ad : Int) (ae : ByteArray) (af : ByteArray) (ag : Option Addr) (ah : Nat) (aa : List (S36)) (r : Int) (w : World) (ai : Kd.C k36 w ag aa.length aa) (aj : aa.length ≤ ah) (h : Fa0.f k ad ae af aa = some r),
  Calls Tryz.prog 119 #[.agg #[.int .i64 ad,.string ae,.string af,.slice ag aa.length ah]] w fun e w' => e = .returned (.int .i64 r) ∧ Below w.heap.size w w' := by
 induction k using Nat.strongRecOn with
 | _ k ih =>
 intro ad ae af ag ah aa r w ai aj h
 cases k with
 | zero => exact absurd h (by simp [Fa0.f])
 | succ k =>
 simp only [Fa0.f] at h;have hu36 := Tryz.underlying36;have av := aM ai;have HC0_3 := aM aj;clear ai aj;have HB := aM (Below.refl w.heap.size w);have H : (Fa0.l0 k 1 0 ad ae af aa) = some r := h;clear h;have H' := aM H;clear H;go_enter Tryz.func119,Tryz.ntmps119;go_wp2_with (first|((with_reducible refine gate_dst (N := 1) rfl ?_);refine bx_ (N := 1) (cs := #[.int .i64 ad,.string ae,.string af,.slice ag aa.length ah]) (t := 36) ?_;intro ap hg w2 hbox hb;have ac := aM (hbox);have aw := aM ((by rw [hg];exact (lZ wB_) : w.heap.size ≤ ap));have GE158 := aw;replace HB := aM (lT wB_ hb);clear hb hbox hg));go_loopg [3,4] k (fun kq v3 v4 w' => ∃ (ao : Int) (ab : Int),v3 = .int .i64 ao ∧ v4 = .int .i64 ab ∧ Aside0 (Fa0.l0 kq ao ab ad ae af aa = some r) ∧ Aside0 (kq ≤ k) ∧ Aside0 (w'.heap[ap]? = some (.cells #[.int .i64 ad,.string ae,.string af,(.slice ag aa.length ah)] 36 (0,0))) ∧ Aside0 (Below w.heap.size w w'))
 case atStart => exact ⟨(1),(0),vR_,vR_,H',⟨Nat.le_refl _⟩,⟨wC_ ac.out⟩,⟨wB_⟩⟩
 case round =>
  clear H';obtain ⟨ao,ab,rfl,rfl,HA,aA,ac,HB⟩ := hrel
  cases gk with
  | zero => exact absurd HA.out (by simp [Fa0.l0])
  | succ k1 =>
   have H := HA.out;clear HA;simp only [Fa0.l0] at H
   by_cases c3 : ab < (aa.length : Int)
   focus
    rw [if_pos c3] at H;have aC := dT c3;clear c3
    by_cases c4 : 0 ≤ ab
    rotate_left;rw [if_neg c4] at H;exact nH_ H;rw [if_pos c4] at H;have c4b0 := dT c4;clear c4;obtain ⟨ax,A5,H⟩ := bE_ H;have H' := aM H;clear H
   rotate_left
   focus
    rw [if_neg c3] at H;have aC := dF c3;clear c3;obtain rfl := oI H
   all_goals
    (try obtain ⟨_,_,_,_,_,_,_,_⟩ := z4_ ac.out);(try (have p01 : 0 ≤ (ab : Int) := oD (by assumption);have q01 : ab < (aa.length : Int) := oD (by assumption);obtain ⟨ad01,ay,az,e01,ak,al,am,an,hl01_3,hi01_3⟩ := Fcr av.out ab p01 q01;cases e01;replace ak := mv_ HB.out ak;replace al := mv_ HB.out al;replace am := mv_ HB.out am;replace an := mv_ HB.out an;have ar := aM hi01_3;have au := aM hl01_3;clear hi01_3 hl01_3;replace p01 := eq_true p01;replace q01 := eq_true q01));go_wp2_with (first|((with_reducible refine gate_callee (f := 119) rfl ?_);refine gl_ (some 18) Tryz.func119 #[.agg #[.int .i64 ((Fab aa ab).f0),.string ((Fab aa ab).f1),.string ((Fab aa ab).f2),.slice ay ((Fab aa ab).f3).length az]] ?_;(with_reducible refine (ih k1 (by have := aA.out;omega) ((Fab aa ab).f0) ((Fab aa ab).f1) ((Fab aa ab).f2) _ _ ((Fab aa ab).f3) ax _ ?side1 ?side2 A5.out).mono ?_);(case side1 => exact wX_ ar.out);(case side2 => exact au.out);rintro e WA5 ⟨rfl,hb⟩;refine ⟨_,rfl,?_⟩;replace ac := aM (bw_ ac.out hb);replace HB := aM (lT wB_ hb)))
    first
     |
      go_ret;exact ⟨vR_,wB_⟩
     |
      go_roundg k1
      case measure => have := aA.out;omega
      case rel => exact ⟨(wrap64 (ao + ax)),(wrap64 (ab + 1)),vR_,vR_,H',⟨by have := aA.out;omega⟩,⟨wC_ ac.out⟩,⟨wB_⟩⟩
def FbG.f (k : Nat) (aa : Int) (ab : ByteArray) (ac : ByteArray) (ad : List (S36)) : Option (Bool) := (FaU.f k aa ab ac ad).bind fun ae => (if ae = true then ((Fa0.f k aa ab ac ad).bind fun af => (some (decide (af ≤ 15)))) else (some false))
theorem FbG.mono : ∀ a0 a1 a2 a3 k,LeO (FbG.f k a0 a1 a2 a3) (FbG.f (k + 1) a0 a1 a2 a3) := by
 intro a0 a1 a2 a3 k
 unfold FbG.f
 repeat' (first|with_reducible (first|exact FaU.mono _ _ _ _ _|exact Fa0.mono _ _ _ _ _|exact LeO.refl _|exact LeO.none _|refine LeO.ite ?_ ?_|refine LeO.bind ?_ (fun _ => ?_))|exact LeO.none _|refine LeO.ite ?_ ?_|refine LeO.bind ?_ (fun _ => ?_))
theorem FbG.calls (k : Nat) (ac : Int) (ad : ByteArray) (ae : ByteArray) (af : Option Addr) (ag : Nat) (ab : List (S36)) (r : Bool) (w : World) (ah : Kd.C k36 w af ab.length ab) (ai : ab.length ≤ ag) (h : FbG.f k ac ad ae ab = some r) :
  Calls Tryz.prog 59 #[.agg #[.int .i64 ac,.string ad,.string ae,.slice af ab.length ag]] w fun e w' => e = .returned (.bool r) ∧ Below w.heap.size w w' := by
 have hu36 := Tryz.underlying36;have aj := aM ah;have ak := aM ai;clear ah ai;have HB := aM (Below.refl w.heap.size w);have H : ((FaU.f k ac ad ae ab).bind fun al => (if al = true then ((Fa0.f k ac ad ae ab).bind fun am => (some (decide (am ≤ 15)))) else (some false))) = some r := h;clear h;obtain ⟨al,A2,H⟩ := bE_ H
 by_cases c3 : al = true
 focus
  subst c3;rw [if_pos rfl] at H;obtain ⟨am,A4,H⟩ := bE_ H;obtain rfl := oI H
 rotate_left
 focus
  replace c3 := qO.mpr c3;subst c3;rw [if_neg qT] at H;obtain rfl := oI H
 all_goals
  go_enter Tryz.func59,Tryz.ntmps59;go_wp2_with (first|((with_reducible refine gate_dst (N := 1) rfl ?_);refine bx_ (N := 1) (cs := #[.int .i64 ac,.string ad,.string ae,.slice af ab.length ag]) (t := 36) ?_;intro an hg Wgb161 hbox hb;have aa := aM (hbox);have ao := aM ((by rw [hg];exact (lZ wB_) : w.heap.size ≤ an));have GE161 := ao;replace HB := aM (lT wB_ hb);clear hb hbox hg;obtain ⟨_,_,_,_,_,_,_,_⟩ := z4_ aa.out)|((with_reducible refine gate_callee (f := 118) rfl ?_);refine gl_ (some 4) Tryz.func118 #[.agg #[.int .i64 ac,.string ad,.string ae,.slice af ab.length ag]] ?_;(with_reducible refine (FaU.calls _ _ _ _ _ _ _ _ _ ?side1 ?side2 A2.out).mono ?_);(case side1 => exact wX_ aj.out);(case side2 => exact ak.out);rintro e WA2 ⟨rfl,hb⟩;refine ⟨_,rfl,?_⟩;replace aa := aM (bw_ aa.out hb);replace HB := aM (lT wB_ hb);obtain ⟨_,_,_,_,_,_,_,_⟩ := z4_ aa.out)|(go_at_call 119;(with_reducible refine (Fa0.calls _ _ _ _ _ _ _ _ _ ?side1 ?side2 A4.out).mono ?_);(case side1 => exact wX_ aj.out);(case side2 => exact ak.out);rintro e WA4 ⟨rfl,hb⟩;replace aa := aM (bw_ aa.out hb);replace HB := aM (lT wB_ hb)));go_ret;exact ⟨vR_,wB_⟩
end Go.Proofs.YtmafmhgmdegplaaGreatDoor.P
