/- Walks: each Go function computes the Lean function beside it; conditions: those of each theorem. -/
import Derived.Test.YtmafmhgmdegplaaGreatDoorZPx0
namespace Go.Proofs.YtmafmhgmdegplaaGreatDoor.P
open Go.RowKit Go.Proofs.YtmafmhgmdegplaaGreatDoorW.PrintWords Go.Proofs.YtmafmhgmdegplaaGreatDoorW.PrintLast Go.Proofs.YtmafmhgmdegplaaGreatDoorW.PrintMore
attribute [local go_sem] max2_int min2_int max_two min_two max_three min_three max_four min_four   -- for this text's walks alone
set_option linter.unusedVariables false
set_option linter.unusedSimpArgs false
set_option maxHeartbeats 8000000
set_option maxRecDepth 100000
theorem eqA39 (d : Nat) (w : World) (x0 y0 : Int) (x1 y1 : Int) (x2 y2 : Int) (x3 y3 : Bool) :
  (Op.equalIn (d + 2) 39 (.agg #[.int .i64 x0,.int .i64 x1,.int .i64 x2,.bool x3]) (.agg #[.int .i64 y0,.int .i64 y1,.int .i64 y2,.bool y3])).run Tryz.prog w = .ok (x0 == y0 && (x1 == y1 && (x2 == y2 && (x3 == y3)))) w := by
 refine eqA_of Tryz.underlying39 (by kernel_rfl) ?_;refine eqf_cons (by rfl) (by go_simp;rfl) (by go_simp;rfl) (by go_simp) ?_;refine eqf_cons (by rfl) (by go_simp;rfl) (by go_simp;rfl) (by go_simp) ?_;refine eqf_cons (by rfl) (by go_simp;rfl) (by go_simp;rfl) (by go_simp) ?_;exact eqf_last (by rfl) (by go_simp;rfl) (by go_simp;rfl) (by go_simp)
def FaU.l0 : Nat → List ByteArray → Int → Int → Option (Int)
 | 0,_,_,_ => none
 | k + 1,x0,x1,x5 => if x5 < (x0.length : Int) then (if 0 ≤ x5 then (if (wrap64 (x1 - ((rdOf ByteArray.empty x0 x5).size : Int))) < 0 then (some (-1)) else (FaU.l0 k x0 (wrap64 (x1 - ((rdOf ByteArray.empty x0 x5).size : Int))) (wrap64 (x5 + 1)))) else (none)) else (some x1)
def FaU.f (k : Nat) (l0 : List ByteArray) (a1 : Int) : Option (Int) := if (wrap64 (a1 - (l0.length : Int))) < 0 then (some (-1)) else (FaU.l0 k l0 (wrap64 (a1 - (l0.length : Int))) 0)
theorem FaU.mono_l : ∀ k,(∀ y0 y1 y2,LeO (FaU.l0 k y0 y1 y2) (FaU.l0 (k + 1) y0 y1 y2))
 | 0 => fun _ _ _ r h => by simp [FaU.l0] at h
 | k + 1 => by
  have ih0 := FaU.mono_l k
  ·intro y0 y1 y2
   unfold FaU.l0
   repeat' (first|with_reducible (first|exact ih0 _ _ _|exact LeO.refl _|exact LeO.none _|refine LeO.ite ?_ ?_|refine LeO.bind ?_ (fun _ => ?_))|exact LeO.none _|refine LeO.ite ?_ ?_|refine LeO.bind ?_ (fun _ => ?_))
theorem FaU.mono : ∀ a0 a1 k,LeO (FaU.f k a0 a1) (FaU.f (k + 1) a0 a1) := by
 intro a0 a1 k
 have ih0 := FaU.mono_l k
 unfold FaU.f
 repeat' (first|with_reducible (first|exact ih0 _ _ _|exact LeO.refl _|exact LeO.none _|refine LeO.ite ?_ ?_|refine LeO.bind ?_ (fun _ => ?_))|exact LeO.none _|refine LeO.ite ?_ ?_|refine LeO.bind ?_ (fun _ => ?_))
theorem FaU.calls (k : Nat) (A0 : Option Addr) (c0 : Nat) (l0 : List ByteArray) (a1 : Int) (r : Int) (w : World) (hr0 : Kd.C Kd.string w A0 l0.length l0) (hc0 : l0.length ≤ c0) (h : FaU.f k l0 a1 = some r) :
  Calls Tryz.prog 43 #[.slice A0 l0.length c0,.int .i64 a1] w fun e w' => e = .returned (.int .i64 r) ∧ Drawn0 w w' := by
 have HR0 := aM hr0;have HC0 := aM hc0;clear hr0 hc0;have H : (if (wrap64 (a1 - (l0.length : Int))) < 0 then (some (-1)) else (FaU.l0 k l0 (wrap64 (a1 - (l0.length : Int))) 0)) = some r := h;clear h
 by_cases c3 : (wrap64 (a1 - (l0.length : Int))) < 0
 ·rw [if_pos c3] at H;have ac := dT c3;clear c3;obtain rfl := oI H;go_enter Tryz.func43,Tryz.ntmps43;go_wp2;go_ret;exact ⟨vR_,dw_⟩
 ·rw [if_neg c3] at H;have ac := dF c3;clear c3;have H' := aM H;clear H;go_enter Tryz.func43,Tryz.ntmps43;go_wp2;go_loopg [1,5] k (fun kq v1 v5 w' => ∃ (ab : Int) (aa : Int),v1 = .int .i64 ab ∧ v5 = .int .i64 aa ∧ Aside0 (FaU.l0 kq l0 ab aa = some r) ∧ Aside0 (kq ≤ k) ∧ Drawn0 w w')
  case atStart => exact ⟨(wrap64 (a1 - (l0.length : Int))),(0),vR_,vR_,H',⟨Nat.le_refl _⟩,dw_⟩
  case round =>
   clear H';obtain ⟨ab,aa,rfl,rfl,HA,af,⟨m1,rfl⟩⟩ := hrel
   cases gk with
   | zero => exact absurd HA.out (by simp [FaU.l0])
   | succ k1 =>
    have H := HA.out;clear HA;simp only [FaU.l0] at H
    by_cases c4 : aa < (l0.length : Int)
    focus
     rw [if_pos c4] at H;have ad := dT c4;clear c4
     by_cases c5 : 0 ≤ aa
     rotate_left;rw [if_neg c5] at H;exact nH_ H;rw [if_pos c5] at H;have c5b0 := dT c5;clear c5
     by_cases c6 : (wrap64 (ab - ((rdOf ByteArray.empty l0 aa).size : Int))) < 0
     focus
      rw [if_pos c6] at H;have ae := dT c6;clear c6;obtain rfl := oI H
     rotate_left
     focus
      rw [if_neg c6] at H;have ae := dF c6;clear c6;have H' := aM H;clear H
    rotate_left 2
    focus
     rw [if_neg c4] at H;have ad := dF c4;clear c4;obtain rfl := oI H
    all_goals
     (try (have p01 : 0 ≤ (aa : Int) := oD (by assumption);have q01 : aa < (l0.length : Int) := oD (by assumption);obtain ⟨ad01,e01,hx01_0⟩ := Kd.at_string HR0.out aa p01 q01;cases e01;replace p01 := eq_true p01;replace q01 := eq_true q01));go_wp2
     first
      |
       go_ret;exact ⟨vR_,dw_⟩
      |
       go_roundg k1
       case measure => have := af.out;omega
       case rel => exact ⟨(wrap64 (ab - ((rdOf ByteArray.empty l0 aa).size : Int))),(wrap64 (aa + 1)),vR_,vR_,H',⟨by have := af.out;omega⟩,dw_⟩
def FbL.f (k : Nat) (ae : List ByteArray) (ab : ByteArray) (ac : ByteArray) (ad : ByteArray) (a1 : Int) : Option (Int) := (FaU.f k ae a1).bind fun aa => (if aa < 0 then (some (-1)) else (if (wrap64 (aa - (ab.size : Int))) < 0 then (some (-1)) else (if (wrap64 ((wrap64 (aa - (ab.size : Int))) - (ac.size : Int))) < 0 then (some (-1)) else (if (wrap64 ((wrap64 ((wrap64 (aa - (ab.size : Int))) - (ac.size : Int))) - (ad.size : Int))) < 0 then (some (-1)) else (some (wrap64 ((wrap64 ((wrap64 (aa - (ab.size : Int))) - (ac.size : Int))) - (ad.size : Int))))))))
theorem FbL.mono : ∀ a0 a1 a2 a3 a4 k,LeO (FbL.f k a0 a1 a2 a3 a4) (FbL.f (k + 1) a0 a1 a2 a3 a4) := by
 intro a0 a1 a2 a3 a4 k
 unfold FbL.f
 repeat' (first|with_reducible (first|exact FaU.mono _ _ _|exact LeO.refl _|exact LeO.none _|refine LeO.ite ?_ ?_|refine LeO.bind ?_ (fun _ => ?_))|exact LeO.none _|refine LeO.ite ?_ ?_|refine LeO.bind ?_ (fun _ => ?_))
theorem FbL.calls (k : Nat) (af : Option Addr) (ag : Nat) (ac : List ByteArray) (aa : ByteArray) (ad : ByteArray) (ae : ByteArray) (a1 : Int) (r : Int) (w : World) (ah : Kd.C Kd.string w af ac.length ac) (ai : ac.length ≤ ag) (h : FbL.f k ac aa ad ae a1 = some r) :
  Calls Tryz.prog 117 #[.agg #[.slice af ac.length ag,.string aa,.string ad,.string ae],.int .i64 a1] w fun e w' => e = .returned (.int .i64 r) ∧ Below w.heap.size w w' := by
 have hu152 := Tryz.underlying152;have ak := aM ah;have al := aM ai;clear ah ai;have HB := aM (Below.refl w.heap.size w);have H : ((FaU.f k ac a1).bind fun ab => (if ab < 0 then (some (-1)) else (if (wrap64 (ab - (aa.size : Int))) < 0 then (some (-1)) else (if (wrap64 ((wrap64 (ab - (aa.size : Int))) - (ad.size : Int))) < 0 then (some (-1)) else (if (wrap64 ((wrap64 ((wrap64 (ab - (aa.size : Int))) - (ad.size : Int))) - (ae.size : Int))) < 0 then (some (-1)) else (some (wrap64 ((wrap64 ((wrap64 (ab - (aa.size : Int))) - (ad.size : Int))) - (ae.size : Int))))))))) = some r := h;clear h;obtain ⟨ab,A3,H⟩ := bE_ H
 by_cases c4 : ab < 0
 focus
  rw [if_pos c4] at H;have au := dT c4;clear c4;obtain rfl := oI H
 rotate_left
 focus
  rw [if_neg c4] at H;have au := dF c4;clear c4
  by_cases c7 : (wrap64 (ab - (aa.size : Int))) < 0
  focus
   rw [if_pos c7] at H;have av := dT c7;clear c7;obtain rfl := oI H
  rotate_left
  focus
   rw [if_neg c7] at H;have av := dF c7;clear c7
   by_cases c10 : (wrap64 ((wrap64 (ab - (aa.size : Int))) - (ad.size : Int))) < 0
   focus
    rw [if_pos c10] at H;have am := dT c10;clear c10;obtain rfl := oI H
   rotate_left
   focus
    rw [if_neg c10] at H;have am := dF c10;clear c10
    by_cases aj : (wrap64 ((wrap64 ((wrap64 (ab - (aa.size : Int))) - (ad.size : Int))) - (ae.size : Int))) < 0
    focus
     rw [if_pos aj] at H;have an := dT aj;clear aj;obtain rfl := oI H
    rotate_left
    focus
     rw [if_neg aj] at H;have an := dF aj;clear aj;obtain rfl := oI H
 all_goals
  go_enter Tryz.func117,Tryz.ntmps117;go_wp2_with (first|((with_reducible refine gate_dst (N := 2) rfl ?_);refine bx_ (N := 2) (cs := #[.slice af ac.length ag,.string aa,.string ad,.string ae]) (t := 152) ?_;intro ao hg Wgb102 hbox hb;have ap := aM (hbox);have ar := aM ((by rw [hg];exact (lZ wB_) : w.heap.size ≤ ao));have GE102 := ar;replace HB := aM (lT wB_ hb);clear hb hbox hg;obtain ⟨_,_,_,_,_,_,_,_⟩ := z4_ ap.out)|((with_reducible refine gate_callee (f := 43) rfl ?_);refine gl_ (some 8) Tryz.func43 #[.slice af ac.length ag,.int .i64 a1] ?_;(with_reducible refine (FaU.calls _ _ _ _ _ _ _ ?side1 ?side2 A3.out).mono ?_);(case side1 => exact wX_ ak.out);(case side2 => exact al.out);rintro e w' ⟨rfl,⟨nd,rfl⟩⟩;refine ⟨_,rfl,?_⟩));go_ret;exact ⟨vR_,wB_⟩
def FaY.l0 : Nat → List (S152) → Int → Int → Option (Int)
 | 0,_,_,_ => none
 | k + 1,x0,x1,x5 => if x5 < (x0.length : Int) then (if 0 ≤ x5 then ((FbL.f k ((Fbu x0 x5).f0) ((Fbu x0 x5).f1) ((Fbu x0 x5).f2) ((Fbu x0 x5).f3) x1).bind fun aa => (if aa < 0 then (some (-1)) else (FaY.l0 k x0 aa (wrap64 (x5 + 1))))) else (none)) else (some x1)
def FaY.f (k : Nat) (l0 : List (S152)) (a1 : Int) : Option (Int) := if (wrap64 (a1 - (l0.length : Int))) < 0 then (some (-1)) else (FaY.l0 k l0 (wrap64 (a1 - (l0.length : Int))) 0)
theorem FaY.mono_l : ∀ k,(∀ y0 y1 y2,LeO (FaY.l0 k y0 y1 y2) (FaY.l0 (k + 1) y0 y1 y2))
 | 0 => fun _ _ _ r h => by simp [FaY.l0] at h
 | k + 1 => by
  have ih0 := FaY.mono_l k
  ·intro y0 y1 y2
   unfold FaY.l0
   repeat' (first|with_reducible (first|exact ih0 _ _ _|exact FbL.mono _ _ _ _ _ _|exact LeO.refl _|exact LeO.none _|refine LeO.ite ?_ ?_|refine LeO.bind ?_ (fun _ => ?_))|exact LeO.none _|refine LeO.ite ?_ ?_|refine LeO.bind ?_ (fun _ => ?_))
theorem FaY.mono : ∀ a0 a1 k,LeO (FaY.f k a0 a1) (FaY.f (k + 1) a0 a1) := by
 intro a0 a1 k
 have ih0 := FaY.mono_l k
 unfold FaY.f
 repeat' (first|with_reducible (first|exact ih0 _ _ _|exact FbL.mono _ _ _ _ _ _|exact LeO.refl _|exact LeO.none _|refine LeO.ite ?_ ?_|refine LeO.bind ?_ (fun _ => ?_))|exact LeO.none _|refine LeO.ite ?_ ?_|refine LeO.bind ?_ (fun _ => ?_))
theorem FaY.calls (k : Nat) (A0 : Option Addr) (c0 : Nat) (l0 : List (S152)) (a1 : Int) (r : Int) (w : World) (hr0 : Kd.C k152 w A0 l0.length l0) (hc0 : l0.length ≤ c0) (h : FaY.f k l0 a1 = some r) :
  Calls Tryz.prog 58 #[.slice A0 l0.length c0,.int .i64 a1] w fun e w' => e = .returned (.int .i64 r) ∧ Below w.heap.size w w' := by
 have hu152 := Tryz.underlying152;have HR0 := aM hr0;have HC0 := aM hc0;clear hr0 hc0;have HB := aM (Below.refl w.heap.size w);have H : (if (wrap64 (a1 - (l0.length : Int))) < 0 then (some (-1)) else (FaY.l0 k l0 (wrap64 (a1 - (l0.length : Int))) 0)) = some r := h;clear h
 by_cases c3 : (wrap64 (a1 - (l0.length : Int))) < 0
 ·rw [if_pos c3] at H;have an := dT c3;clear c3;obtain rfl := oI H;go_enter Tryz.func58,Tryz.ntmps58;go_wp2;go_ret;exact ⟨vR_,wB_⟩
 ·rw [if_neg c3] at H;have an := dF c3;clear c3;have H' := aM H;clear H;go_enter Tryz.func58,Tryz.ntmps58;go_wp2;go_loopg [1,5] k (fun kq v1 v5 w' => ∃ (ah : Int) (aa : Int),v1 = .int .i64 ah ∧ v5 = .int .i64 aa ∧ Aside0 (FaY.l0 kq l0 ah aa = some r) ∧ Aside0 (kq ≤ k) ∧ Aside0 (Below w.heap.size w w'))
  case atStart => exact ⟨(wrap64 (a1 - (l0.length : Int))),(0),vR_,vR_,H',⟨Nat.le_refl _⟩,⟨wB_⟩⟩
  case round =>
   clear H';obtain ⟨ah,aa,rfl,rfl,HA,ar,HB⟩ := hrel
   cases gk with
   | zero => exact absurd HA.out (by simp [FaY.l0])
   | succ k1 =>
    have H := HA.out;clear HA;simp only [FaY.l0] at H
    by_cases c4 : aa < (l0.length : Int)
    focus
     rw [if_pos c4] at H;have ao := dT c4;clear c4
     by_cases c5 : 0 ≤ aa
     rotate_left;rw [if_neg c5] at H;exact nH_ H;rw [if_pos c5] at H;have c5b0 := dT c5;clear c5;obtain ⟨ak,A6,H⟩ := bE_ H
     by_cases c7 : ak < 0
     focus
      rw [if_pos c7] at H;have ap := dT c7;clear c7;obtain rfl := oI H
     rotate_left
     focus
      rw [if_neg c7] at H;have ap := dF c7;clear c7;have H' := aM H;clear H
    rotate_left 2
    focus
     rw [if_neg c4] at H;have ao := dF c4;clear c4;obtain rfl := oI H
    all_goals
     (try (have p01 : 0 ≤ (aa : Int) := oD (by assumption);have q01 : aa < (l0.length : Int) := oD (by assumption);obtain ⟨ad01,al,am,e01,ab,ac,ad,ae,af,ag⟩ := Fcj HR0.out aa p01 q01;cases e01;replace ab := mv_ HB.out ab;replace ac := mv_ HB.out ac;replace ad := mv_ HB.out ad;replace ae := mv_ HB.out ae;have ai := aM ag;have aj := aM af;clear ag af;replace p01 := eq_true p01;replace q01 := eq_true q01));go_wp2_with (first|((with_reducible refine gate_callee (f := 117) rfl ?_);refine gl_ (some 23) Tryz.func117 #[.agg #[.slice al ((Fbu l0 aa).f0).length am,.string ((Fbu l0 aa).f1),.string ((Fbu l0 aa).f2),.string ((Fbu l0 aa).f3)],.int .i64 ah] ?_;(with_reducible refine (FbL.calls _ _ _ _ _ _ _ _ _ _ ?side1 ?side2 A6.out).mono ?_);(case side1 => exact wX_ ai.out);(case side2 => exact aj.out);rintro e WA6 ⟨rfl,hb⟩;refine ⟨_,rfl,?_⟩;replace HB := aM (lT wB_ hb)))
     first
      |
       go_ret;exact ⟨vR_,wB_⟩
      |
       go_roundg k1
       case measure => have := ar.out;omega
       case rel => exact ⟨(ak),(wrap64 (aa + 1)),vR_,vR_,H',⟨by have := ar.out;omega⟩,⟨wB_⟩⟩
def FbA.f (k : Nat) (ag : ByteArray) (a0_1 : Int) (ai : List (S152)) (aj : List (S152)) (ab : ByteArray) (ac : ByteArray) (ae : ByteArray) (a0_7 : Int) (a0_8 : Int) (a0_9 : Int) (a0_10 : Bool) (a0_11 : Int) (ad : ByteArray) (af : ByteArray) (a1 : Int) : Option (Int) := if (wrap64 (a1 - (ag.size : Int))) < 0 then (some (-1)) else ((FaY.f k ai (wrap64 (a1 - (ag.size : Int)))).bind fun ah => (if ah < 0 then (some (-1)) else ((FaY.f k aj ah).bind fun aa => (if aa < 0 then (some (-1)) else (if (wrap64 (aa - (ab.size : Int))) < 0 then (some (-1)) else (if (wrap64 ((wrap64 (aa - (ab.size : Int))) - (ac.size : Int))) < 0 then (some (-1)) else (if (wrap64 ((wrap64 ((wrap64 (aa - (ab.size : Int))) - (ac.size : Int))) - (ae.size : Int))) < 0 then (some (-1)) else (if (wrap64 ((wrap64 ((wrap64 ((wrap64 (aa - (ab.size : Int))) - (ac.size : Int))) - (ae.size : Int))) - (ad.size : Int))) < 0 then (some (-1)) else (if (wrap64 ((wrap64 ((wrap64 ((wrap64 ((wrap64 (aa - (ab.size : Int))) - (ac.size : Int))) - (ae.size : Int))) - (ad.size : Int))) - (af.size : Int))) < 0 then (some (-1)) else (some (wrap64 ((wrap64 ((wrap64 ((wrap64 ((wrap64 (aa - (ab.size : Int))) - (ac.size : Int))) - (ae.size : Int))) - (ad.size : Int))) - (af.size : Int)))))))))))))
theorem FbA.mono : ∀ a0 a1 a2 a3 a4 a5 a6 a7 a8 a9 aa ab ac ad ae k,LeO (FbA.f k a0 a1 a2 a3 a4 a5 a6 a7 a8 a9 aa ab ac ad ae) (FbA.f (k + 1) a0 a1 a2 a3 a4 a5 a6 a7 a8 a9 aa ab ac ad ae) := by
 intro a0 a1 a2 a3 a4 a5 a6 a7 a8 a9 aa ab ac ad ae k
 unfold FbA.f
 repeat' (first|with_reducible (first|exact FaY.mono _ _ _|exact LeO.refl _|exact LeO.none _|refine LeO.ite ?_ ?_|refine LeO.bind ?_ (fun _ => ?_))|exact LeO.none _|refine LeO.ite ?_ ?_|refine LeO.bind ?_ (fun _ => ?_))
theorem FbA.calls (k : Nat) (aj : ByteArray) (ay : Int) (an : Option Addr) (ao : Nat) (ah : List (S152)) (ap : Option Addr) (ar : Nat) (ai : List (S152)) (aa : ByteArray) (ad : ByteArray) (af : ByteArray) (az : Int) (aA : Int) (aC : Int) (ak : Bool) (al : Int) (ac : ByteArray) (ag : ByteArray) (a1 : Int) (r : Int) (w : World) (au : Kd.C k152 w an ah.length ah) (av : ah.length ≤ ao) (aw : Kd.C k152 w ap ai.length ai) (ax : ai.length ≤ ar) (h : FbA.f k aj ay ah ai aa ad af az aA aC ak al ac ag a1 = some r) :
  Calls Tryz.prog 10 #[.agg #[.string aj,.int .i64 ay,.slice an ah.length ao,.slice ap ai.length ar,.string aa,.string ad,.string af,.int .i64 az,.int .i64 aA,.int .i64 aC,.bool ak,.int .i64 al,.string ac,.string ag],.int .i64 a1] w fun e w' => e = .returned (.int .i64 r) ∧ Below w.heap.size w w' := by
 have hu29 := Tryz.underlying29;have aK := aM au;have aL := aM av;clear au av;have aN := aM aw;have aO := aM ax;clear aw ax;have HB := aM (Below.refl w.heap.size w);have H : (if (wrap64 (a1 - (aj.size : Int))) < 0 then (some (-1)) else ((FaY.f k ah (wrap64 (a1 - (aj.size : Int)))).bind fun am => (if am < 0 then (some (-1)) else ((FaY.f k ai am).bind fun ab => (if ab < 0 then (some (-1)) else (if (wrap64 (ab - (aa.size : Int))) < 0 then (some (-1)) else (if (wrap64 ((wrap64 (ab - (aa.size : Int))) - (ad.size : Int))) < 0 then (some (-1)) else (if (wrap64 ((wrap64 ((wrap64 (ab - (aa.size : Int))) - (ad.size : Int))) - (af.size : Int))) < 0 then (some (-1)) else (if (wrap64 ((wrap64 ((wrap64 ((wrap64 (ab - (aa.size : Int))) - (ad.size : Int))) - (af.size : Int))) - (ac.size : Int))) < 0 then (some (-1)) else (if (wrap64 ((wrap64 ((wrap64 ((wrap64 ((wrap64 (ab - (aa.size : Int))) - (ad.size : Int))) - (af.size : Int))) - (ac.size : Int))) - (ag.size : Int))) < 0 then (some (-1)) else (some (wrap64 ((wrap64 ((wrap64 ((wrap64 ((wrap64 (ab - (aa.size : Int))) - (ad.size : Int))) - (af.size : Int))) - (ac.size : Int))) - (ag.size : Int)))))))))))))) = some r := h;clear h
 by_cases c3 : (wrap64 (a1 - (aj.size : Int))) < 0
 focus
  rw [if_pos c3] at H;have aY := dT c3;clear c3;obtain rfl := oI H
 rotate_left
 focus
  rw [if_neg c3] at H;have aY := dF c3;clear c3;obtain ⟨am,A6,H⟩ := bE_ H
  by_cases c7 : am < 0
  focus
   rw [if_pos c7] at H;have aZ := dT c7;clear c7;obtain rfl := oI H
  rotate_left
  focus
   rw [if_neg c7] at H;have aZ := dF c7;clear c7;obtain ⟨ab,a0,H⟩ := bE_ H
   by_cases aD : ab < 0
   focus
    rw [if_pos aD] at H;have aP := dT aD;clear aD;obtain rfl := oI H
   rotate_left
   focus
    rw [if_neg aD] at H;have aP := dF aD;clear aD
    by_cases aE : (wrap64 (ab - (aa.size : Int))) < 0
    focus
     rw [if_pos aE] at H;have aQ := dT aE;clear aE;obtain rfl := oI H
    rotate_left
    focus
     rw [if_neg aE] at H;have aQ := dF aE;clear aE
     by_cases aF : (wrap64 ((wrap64 (ab - (aa.size : Int))) - (ad.size : Int))) < 0
     focus
      rw [if_pos aF] at H;have aR := dT aF;clear aF;obtain rfl := oI H
     rotate_left
     focus
      rw [if_neg aF] at H;have aR := dF aF;clear aF
      by_cases aG : (wrap64 ((wrap64 ((wrap64 (ab - (aa.size : Int))) - (ad.size : Int))) - (af.size : Int))) < 0
      focus
       rw [if_pos aG] at H;have aT := dT aG;clear aG;obtain rfl := oI H
      rotate_left
      focus
       rw [if_neg aG] at H;have aT := dF aG;clear aG
       by_cases aH : (wrap64 ((wrap64 ((wrap64 ((wrap64 (ab - (aa.size : Int))) - (ad.size : Int))) - (af.size : Int))) - (ac.size : Int))) < 0
       focus
        rw [if_pos aH] at H;have aU := dT aH;clear aH;obtain rfl := oI H
       rotate_left
       focus
        rw [if_neg aH] at H;have aU := dF aH;clear aH
        by_cases aJ : (wrap64 ((wrap64 ((wrap64 ((wrap64 ((wrap64 (ab - (aa.size : Int))) - (ad.size : Int))) - (af.size : Int))) - (ac.size : Int))) - (ag.size : Int))) < 0
        focus
         rw [if_pos aJ] at H;have aV := dT aJ;clear aJ;obtain rfl := oI H
        rotate_left
        focus
         rw [if_neg aJ] at H;have aV := dF aJ;clear aJ;obtain rfl := oI H
 all_goals
  go_enter Tryz.func10,Tryz.ntmps10;go_wp2_with (first|((with_reducible refine gate_dst (N := 2) rfl ?_);refine bx_ (N := 2) (cs := #[.string aj,.int .i64 ay,.slice an ah.length ao,.slice ap ai.length ar,.string aa,.string ad,.string af,.int .i64 az,.int .i64 aA,.int .i64 aC,.bool ak,.int .i64 al,.string ac,.string ag]) (t := 29) ?_;intro aW hg Wgb106 hbox hb;have ae := aM (hbox);have aX := aM ((by rw [hg];exact (lZ wB_) : w.heap.size ≤ aW));have GE106 := aX;replace HB := aM (lT wB_ hb);clear hb hbox hg;obtain ⟨_,_,_,_,_,_,_,_,_,_,_,_,_,_,_,_,_,_,_,_,_,_,_,_,_,_,_,_⟩ := z14_ ae.out)|((with_reducible refine gate_callee (f := 58) rfl ?_);refine gl_ (some 15) Tryz.func58 #[.slice an ah.length ao,.int .i64 (wrap64 (a1 - (aj.size : Int)))] ?_;(with_reducible refine (FaY.calls _ _ _ _ _ _ _ ?side1 ?side2 A6.out).mono ?_);(case side1 => exact wX_ aK.out);(case side2 => exact aL.out);rintro e WA6 ⟨rfl,hb⟩;refine ⟨_,rfl,?_⟩;replace ae := aM (bw_ ae.out hb);replace HB := aM (lT wB_ hb);obtain ⟨_,_,_,_,_,_,_,_,_,_,_,_,_,_,_,_,_,_,_,_,_,_,_,_,_,_,_,_⟩ := z14_ ae.out)|((with_reducible refine gate_callee (f := 58) rfl ?_);refine gl_ (some 21) Tryz.func58 #[.slice ap ai.length ar,.int .i64 am] ?_;(with_reducible refine (FaY.calls _ _ _ _ _ _ _ ?side1 ?side2 a0.out).mono ?_);(case side1 => exact wX_ aN.out);(case side2 => exact aO.out);rintro e WA11 ⟨rfl,hb⟩;refine ⟨_,rfl,?_⟩;replace ae := aM (bw_ ae.out hb);replace HB := aM (lT wB_ hb);obtain ⟨_,_,_,_,_,_,_,_,_,_,_,_,_,_,_,_,_,_,_,_,_,_,_,_,_,_,_,_⟩ := z14_ ae.out));go_ret;exact ⟨vR_,wB_⟩
def Fa2.l0 : Nat → List (S29) → Int → Int → Option (Int)
 | 0,_,_,_ => none
 | k + 1,x0,x1,x5 => if x5 < (x0.length : Int) then (if 0 ≤ x5 then ((FbA.f k ((FaK x0 x5).f0) ((FaK x0 x5).f1) ((FaK x0 x5).f2) ((FaK x0 x5).f3) ((FaK x0 x5).f4) ((FaK x0 x5).f5) ((FaK x0 x5).f6) ((FaK x0 x5).f7.f0) ((FaK x0 x5).f7.f1) ((FaK x0 x5).f7.f2) ((FaK x0 x5).f7.f3) ((FaK x0 x5).f8) ((FaK x0 x5).f9) ((FaK x0 x5).f10) x1).bind fun aa => (if aa < 0 then (some (-1)) else (Fa2.l0 k x0 aa (wrap64 (x5 + 1))))) else (none)) else (some x1)
def Fa2.f (k : Nat) (l0 : List (S29)) (a1 : Int) : Option (Int) := if (wrap64 (a1 - (l0.length : Int))) < 0 then (some (-1)) else (Fa2.l0 k l0 (wrap64 (a1 - (l0.length : Int))) 0)
theorem Fa2.mono_l : ∀ k,(∀ y0 y1 y2,LeO (Fa2.l0 k y0 y1 y2) (Fa2.l0 (k + 1) y0 y1 y2))
 | 0 => fun _ _ _ r h => by simp [Fa2.l0] at h
 | k + 1 => by
  have ih0 := Fa2.mono_l k
  ·intro y0 y1 y2
   unfold Fa2.l0
   repeat' (first|with_reducible (first|exact ih0 _ _ _|exact FbA.mono _ _ _ _ _ _ _ _ _ _ _ _ _ _ _ _|exact LeO.refl _|exact LeO.none _|refine LeO.ite ?_ ?_|refine LeO.bind ?_ (fun _ => ?_))|exact LeO.none _|refine LeO.ite ?_ ?_|refine LeO.bind ?_ (fun _ => ?_))
theorem Fa2.mono : ∀ a0 a1 k,LeO (Fa2.f k a0 a1) (Fa2.f (k + 1) a0 a1) := by
 intro a0 a1 k
 have ih0 := Fa2.mono_l k
 unfold Fa2.f
 repeat' (first|with_reducible (first|exact ih0 _ _ _|exact FbA.mono _ _ _ _ _ _ _ _ _ _ _ _ _ _ _ _|exact LeO.refl _|exact LeO.none _|refine LeO.ite ?_ ?_|refine LeO.bind ?_ (fun _ => ?_))|exact LeO.none _|refine LeO.ite ?_ ?_|refine LeO.bind ?_ (fun _ => ?_))
theorem Fa2.calls (k : Nat) (A0 : Option Addr) (c0 : Nat) (l0 : List (S29)) (a1 : Int) (r : Int) (w : World) (hr0 : Kd.C k29 w A0 l0.length l0) (hc0 : l0.length ≤ c0) (h : Fa2.f k l0 a1 = some r) :
  Calls Tryz.prog 70 #[.slice A0 l0.length c0,.int .i64 a1] w fun e w' => e = .returned (.int .i64 r) ∧ Below w.heap.size w w' := by
 have hu29 := Tryz.underlying29;have HR0 := aM hr0;have HC0 := aM hc0;clear hr0 hc0;have HB := aM (Below.refl w.heap.size w);have H : (if (wrap64 (a1 - (l0.length : Int))) < 0 then (some (-1)) else (Fa2.l0 k l0 (wrap64 (a1 - (l0.length : Int))) 0)) = some r := h;clear h
 by_cases c3 : (wrap64 (a1 - (l0.length : Int))) < 0
 ·rw [if_pos c3] at H;have aH := dT c3;clear c3;obtain rfl := oI H;go_enter Tryz.func70,Tryz.ntmps70;go_wp2;go_ret;exact ⟨vR_,wB_⟩
 ·rw [if_neg c3] at H;have aH := dF c3;clear c3;have H' := aM H;clear H;go_enter Tryz.func70,Tryz.ntmps70;go_wp2;go_loopg [1,5] k (fun kq v1 v5 w' => ∃ (aw : Int) (aa : Int),v1 = .int .i64 aw ∧ v5 = .int .i64 aa ∧ Aside0 (Fa2.l0 kq l0 aw aa = some r) ∧ Aside0 (kq ≤ k) ∧ Aside0 (Below w.heap.size w w'))
  case atStart => exact ⟨(wrap64 (a1 - (l0.length : Int))),(0),vR_,vR_,H',⟨Nat.le_refl _⟩,⟨wB_⟩⟩
  case round =>
   clear H';obtain ⟨aw,aa,rfl,rfl,HA,aL,HB⟩ := hrel
   cases gk with
   | zero => exact absurd HA.out (by simp [Fa2.l0])
   | succ k1 =>
    have H := HA.out;clear HA;simp only [Fa2.l0] at H
    by_cases c4 : aa < (l0.length : Int)
    focus
     rw [if_pos c4] at H;have aJ := dT c4;clear c4
     by_cases c5 : 0 ≤ aa
     rotate_left;rw [if_neg c5] at H;exact nH_ H;rw [if_pos c5] at H;have c5b0 := dT c5;clear c5;obtain ⟨aC,A6,H⟩ := bE_ H
     by_cases c7 : aC < 0
     focus
      rw [if_pos c7] at H;have aK := dT c7;clear c7;obtain rfl := oI H
     rotate_left
     focus
      rw [if_neg c7] at H;have aK := dF c7;clear c7;have H' := aM H;clear H
    rotate_left 2
    focus
     rw [if_neg c4] at H;have aJ := dF c4;clear c4;obtain rfl := oI H
    all_goals
     (try (have p01 : 0 ≤ (aa : Int) := oD (by assumption);have q01 : aa < (l0.length : Int) := oD (by assumption);obtain ⟨ad01,aD,aE,aF,aG,e01,af,ag,ah,ai,aj,ak,al,am,an,ao,ab,ac,ad,ae,ap,ar,au,av⟩ := Fck HR0.out aa p01 q01;cases e01;replace af := mv_ HB.out af;replace ag := mv_ HB.out ag;replace ah := mv_ HB.out ah;replace ai := mv_ HB.out ai;replace aj := mv_ HB.out aj;replace ak := mv_ HB.out ak;replace al := mv_ HB.out al;replace am := mv_ HB.out am;replace an := mv_ HB.out an;replace ao := mv_ HB.out ao;replace ab := mv_ HB.out ab;replace ac := mv_ HB.out ac;replace ad := mv_ HB.out ad;replace ae := mv_ HB.out ae;have ax := aM ar;have ay := aM ap;clear ar ap;have az := aM av;have aA := aM au;clear av au;replace p01 := eq_true p01;replace q01 := eq_true q01));go_wp2_with (first|((with_reducible refine gate_callee (f := 10) rfl ?_);refine gl_ (some 23) Tryz.func10 #[.agg #[.string ((FaK l0 aa).f0),.int .i64 ((FaK l0 aa).f1),.slice aD ((FaK l0 aa).f2).length aE,.slice aF ((FaK l0 aa).f3).length aG,.string ((FaK l0 aa).f4),.string ((FaK l0 aa).f5),.string ((FaK l0 aa).f6),.int .i64 ((FaK l0 aa).f7.f0),.int .i64 ((FaK l0 aa).f7.f1),.int .i64 ((FaK l0 aa).f7.f2),.bool ((FaK l0 aa).f7.f3),.int .i64 ((FaK l0 aa).f8),.string ((FaK l0 aa).f9),.string ((FaK l0 aa).f10)],.int .i64 aw] ?_;(with_reducible refine (FbA.calls _ _ _ _ _ _ _ _ _ _ _ _ _ _ _ _ _ _ _ _ _ _ ?side1 ?side2 ?side3 ?side4 A6.out).mono ?_);(case side1 => exact wX_ ax.out);(case side2 => exact ay.out);(case side3 => exact wX_ az.out);(case side4 => exact aA.out);rintro e WA6 ⟨rfl,hb⟩;refine ⟨_,rfl,?_⟩;replace HB := aM (lT wB_ hb)))
     first
      |
       go_ret;exact ⟨vR_,wB_⟩
      |
       go_roundg k1
       case measure => have := aL.out;omega
       case rel => exact ⟨(aC),(wrap64 (aa + 1)),vR_,vR_,H',⟨by have := aL.out;omega⟩,⟨wB_⟩⟩
def Fbn.f (k : Nat) (ab : List (S29)) (a1 : Int) : Option (Int) := (Fa2.f k ab a1).bind fun aa => (if aa < 0 then (some (-1)) else (some aa))
theorem Fbn.mono : ∀ a0 a1 k,LeO (Fbn.f k a0 a1) (Fbn.f (k + 1) a0 a1) := by
 intro a0 a1 k
 unfold Fbn.f
 repeat' (first|with_reducible (first|exact Fa2.mono _ _ _|exact LeO.refl _|exact LeO.none _|refine LeO.ite ?_ ?_|refine LeO.bind ?_ (fun _ => ?_))|exact LeO.none _|refine LeO.ite ?_ ?_|refine LeO.bind ?_ (fun _ => ?_))
theorem Fbn.calls (k : Nat) (ac : Option Addr) (ad : Nat) (aa : List (S29)) (a1 : Int) (r : Int) (w : World) (af : Kd.C k29 w ac aa.length aa) (ag : aa.length ≤ ad) (h : Fbn.f k aa a1 = some r) :
  Calls Tryz.prog 17 #[.agg #[.slice ac aa.length ad],.int .i64 a1] w fun e w' => e = .returned (.int .i64 r) ∧ Below w.heap.size w w' := by
 have hu48 := Tryz.underlying48;have ah := aM af;have ai := aM ag;clear af ag;have HB := aM (Below.refl w.heap.size w);have H : ((Fa2.f k aa a1).bind fun ae => (if ae < 0 then (some (-1)) else (some ae))) = some r := h;clear h;obtain ⟨ae,A3,H⟩ := bE_ H
 by_cases c4 : ae < 0
 focus
  rw [if_pos c4] at H;have al := dT c4;clear c4;obtain rfl := oI H
 rotate_left
 focus
  rw [if_neg c4] at H;have al := dF c4;clear c4;obtain rfl := oI H
 all_goals
  go_enter Tryz.func17,Tryz.ntmps17;go_wp2_with (first|((with_reducible refine gate_dst (N := 2) rfl ?_);refine bx_ (N := 2) (cs := #[.slice ac aa.length ad]) (t := 48) ?_;intro aj hg Wgb111 hbox hb;have ab := aM (hbox);have ak := aM ((by rw [hg];exact (lZ wB_) : w.heap.size ≤ aj));have GE111 := ak;replace HB := aM (lT wB_ hb);clear hb hbox hg;obtain ⟨_,_⟩ := z1_ ab.out)|((with_reducible refine gate_callee (f := 70) rfl ?_);refine gl_ (some 8) Tryz.func70 #[.slice ac aa.length ad,.int .i64 a1] ?_;(with_reducible refine (Fa2.calls _ _ _ _ _ _ _ ?side1 ?side2 A3.out).mono ?_);(case side1 => exact wX_ ah.out);(case side2 => exact ai.out);rintro e WA3 ⟨rfl,hb⟩;refine ⟨_,rfl,?_⟩;replace ab := aM (bw_ ab.out hb);replace HB := aM (lT wB_ hb)));go_ret;exact ⟨vR_,wB_⟩
def FaR.l0 : Nat → List ByteArray → List ByteArray → Int → Option (List ByteArray)
 | 0,_,_,_ => none
 | k + 1,x0,x3,x4 => if x4 < (x0.length : Int) then (if 0 ≤ x4 then (if x4 < (x3.length : Int) then (FaR.l0 k x0 (x3.set (x4 : Int).toNat (rdOf ByteArray.empty x0 x4)) (wrap64 (x4 + 1))) else (none)) else (none)) else (some x3)
def FaR.f (k : Nat) (l0 : List ByteArray) : Option (List ByteArray) := if 0 ≤ (l0.length : Int) then (if ((l0.length : Int) : Int).toNat ≤ 17592186044416 then (FaR.l0 k l0 (List.replicate ((l0.length : Int) : Int).toNat (⟨#[]⟩ : ByteArray)) 0) else (none)) else (none)
theorem FaR.mono_l : ∀ k,(∀ y0 y1 y2,LeO (FaR.l0 k y0 y1 y2) (FaR.l0 (k + 1) y0 y1 y2))
 | 0 => fun _ _ _ r h => by simp [FaR.l0] at h
 | k + 1 => by
  have ih0 := FaR.mono_l k
  ·intro y0 y1 y2
   unfold FaR.l0
   repeat' (first|with_reducible (first|exact ih0 _ _ _|exact LeO.refl _|exact LeO.none _|refine LeO.ite ?_ ?_|refine LeO.bind ?_ (fun _ => ?_))|exact LeO.none _|refine LeO.ite ?_ ?_|refine LeO.bind ?_ (fun _ => ?_))
theorem FaR.mono : ∀ a0 k,LeO (FaR.f k a0) (FaR.f (k + 1) a0) := by
 intro a0 k
 have ih0 := FaR.mono_l k
 unfold FaR.f
 repeat' (first|with_reducible (first|exact ih0 _ _ _|exact LeO.refl _|exact LeO.none _|refine LeO.ite ?_ ?_|refine LeO.bind ?_ (fun _ => ?_))|exact LeO.none _|refine LeO.ite ?_ ?_|refine LeO.bind ?_ (fun _ => ?_))
theorem FaR.calls (k : Nat) (A0 : Option Addr) (c0 : Nat) (l0 : List ByteArray) (r : List ByteArray) (w : World) (hr0 : Kd.C Kd.string w A0 l0.length l0) (hc0 : l0.length ≤ c0) (h : FaR.f k l0 = some r) :
  Calls Tryz.prog 45 #[.slice A0 l0.length c0] w fun e w' => ∃ ax : Value,e = .returned (ax) ∧ Kd.R Kd.string 9 w' w.heap.size (fun _ => True) ax r ∧ Below w.heap.size w w' := by
 have HR0 := aM hr0;have HC0 := aM hc0;clear hr0 hc0;have HB := aM (Below.refl w.heap.size w);have H : (if 0 ≤ (l0.length : Int) then (if ((l0.length : Int) : Int).toNat ≤ 17592186044416 then (FaR.l0 k l0 (List.replicate ((l0.length : Int) : Int).toNat (⟨#[]⟩ : ByteArray)) 0) else (none)) else (none)) = some r := h;clear h
 by_cases c2 : 0 ≤ (l0.length : Int)
 ·rw [if_pos c2] at H;have c2b0 := eq_true c2;have c2b1 := dT c2;clear c2
  by_cases c3 : ((l0.length : Int) : Int).toNat ≤ 17592186044416
  ·rw [if_pos c3] at H;have c3b0 := eq_true c3;have c3b1 := dT c3;clear c3;obtain ⟨al,ae⟩ : ∃ y_ : List ByteArray,y_ = (List.replicate ((l0.length : Int) : Int).toNat (⟨#[]⟩ : ByteArray)) := ⟨_,rfl⟩;replace H : (FaR.l0 k l0 al 0) = some r := (yH_ ae H);have ag := aM ae;clear ae;have H' := aM H;clear H;go_enter Tryz.func45,Tryz.ntmps45;go_wp2_with (first|((with_reducible refine gate_dst (N := 7) rfl ?_);refine Kd.R_make Kd.string _ 9 rfl (N := 7) rfl 50 _ _ rfl (l0.length : Int) rfl rfl Tryz.underlying50 (.string ⟨#[]⟩) 16 info9 rfl (by decide) (by omega) (⟨#[]⟩ : ByteArray) (ok := fun _ => True) (okp := fun _ => True) rfl (fun _ hk => hk) trivial (oD (by assumption)) (Nat.le_trans (Nat.mul_le_mul_right _ (oD (by assumption) : (l0.length : Int).toNat ≤ 17592186044416)) (by omega)) (Below.refl _ _) (Nat.le_refl _) ?_;intro ap w4 am hb hg_ hnew_;clear hg_ hnew_;(first|rw [← ag.out] at am|(simp only [Int.reduceToNat] at am;rw [← ag.out] at am));have an := aM (Kd.R_lower am (lZ wB_));replace HB := aM (lT wB_ hb);clear hb am));go_loopg [4] k (fun kq v4 w' => ∃ (ab : List ByteArray) (aa : Int),v4 = .int .i64 aa ∧ Aside0 (FaR.l0 kq l0 ab aa = some r) ∧ Aside0 (kq ≤ k) ∧ Aside0 (Kd.R Kd.string 9 w' w.heap.size (fun _ => True) ap ab) ∧ Aside0 (Below w.heap.size w w'))
   case atStart => exact ⟨(al),(0),vR_,H',⟨Nat.le_refl _⟩,⟨wO_ an.out⟩,⟨wB_⟩⟩
   case round =>
    clear H';obtain ⟨ab,aa,rfl,HA,ay,ad,HB⟩ := hrel
    cases gk with
    | zero => exact absurd HA.out (by simp [FaR.l0])
    | succ k1 =>
     have H := HA.out;clear HA;simp only [FaR.l0] at H
     by_cases c6 : aa < (l0.length : Int)
     ·rw [if_pos c6] at H;have ar := dT c6;clear c6
      by_cases c7 : 0 ≤ aa
      ·rw [if_pos c7] at H;have c7b0 := dT c7;clear c7
       by_cases c8 : aa < (ab.length : Int)
       ·rw [if_pos c8] at H;have c8b0 := dT c8;clear c8;obtain ⟨ah,af⟩ : ∃ y_ : List ByteArray,y_ = (ab.set (aa : Int).toNat (rdOf ByteArray.empty l0 aa)) := ⟨_,rfl⟩;replace H : (FaR.l0 k1 l0 ah (wrap64 (aa + 1))) = some r := (yH_ af H);have ao := aM af;clear af;have H' := aM H;clear H;have ai : 0 ≤ (aa : Int) := oD (by assumption);have aj : aa < (l0.length : Int) := oD (by assumption);obtain ⟨ad116,au,ac⟩ := Kd.at_string HR0.out aa ai aj;cases au;replace ac := mv_ HB.out ac;replace ai := eq_true ai;replace aj := eq_true aj;have p9 : 0 ≤ (aa : Int) := oD (by assumption);have q9 : (aa : Int) < ((ab.length : Int) : Int) := oD (by assumption);obtain ⟨av,aD,az,aA,aE,cl9,aC⟩ := Kd.R_form ad.out (by omega);(first|cases az|(injection az with ea_ en_ ec_;(first|subst ea_|(injection ea_ with ea_;subst ea_));subst ec_;clear en_));have aF := aM aA;have GG9 := aM aC;clear aA aE aC;obtain ⟨hx9_0,hf9_0⟩ := Kd.R_celln (⟨#[]⟩ : ByteArray) ad.out (aa : Int) p9 q9;replace p9 := eq_true p9;replace q9 := eq_true q9;have ak := Kd.R_putg ad.out (aa : Int) (rdOf ByteArray.empty l0 aa);go_wp2_with (first|((with_reducible refine gate_store (t := 9) (p := 20) rfl ?_);refine store_event (t := 9) (p := 20) (v := ?vo_w11) (w1 := (wr.setCell ⟨av,(aa : Int).toNat,none⟩ (.string (rdOf ByteArray.empty l0 aa)))) ?hg ?ho ?hn ?hr ?_;(case ho => rfl);(case hg => rfl);(case hn => rfl);(case hr => first|(go_simp;done)|(go_simp;rfl));intro aw hw;have hg : wr.grownBy aw (some av) := (by rw [hw];exact ak.2);have hp_ : Kd.R Kd.string 9 aw w.heap.size (fun _ => True) (.slice (some ⟨av,0,none⟩) ab.length aD) ah := (by rw [hw,ao.out];exact ak.1);clear ak;replace ad := aM (hp_);replace HB := aM ((by rw [hw];exact lS (HB.out) aF.out : Below w.heap.size w aw));clear hg hw hp_));go_roundg k1
        case measure => have := ay.out;omega
        case rel => exact ⟨(ah),(wrap64 (aa + 1)),vR_,H',⟨by have := ay.out;omega⟩,⟨wO_ ad.out⟩,⟨wB_⟩⟩
       ·rw [if_neg c8] at H;exact nH_ H
      ·rw [if_neg c7] at H;exact nH_ H
     ·rw [if_neg c6] at H;have ar := dF c6;clear c6;obtain rfl := oI H;go_wp2;go_ret;exact ⟨_,vR_,wO_ ad.out,wB_⟩
  ·rw [if_neg c3] at H;exact nH_ H
 ·rw [if_neg c2] at H;exact nH_ H
end Go.Proofs.YtmafmhgmdegplaaGreatDoor.P
