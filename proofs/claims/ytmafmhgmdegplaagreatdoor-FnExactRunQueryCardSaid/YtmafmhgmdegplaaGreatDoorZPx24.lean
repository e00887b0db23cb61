/- Walks: each Go function computes the Lean function beside it; conditions: those of each theorem. -/
import Derived.Test.YtmafmhgmdegplaaGreatDoorZPx0
import Derived.Test.YtmafmhgmdegplaaGreatDoorZPx17
import Derived.Test.YtmafmhgmdegplaaGreatDoorZPx18
import Derived.Test.YtmafmhgmdegplaaGreatDoorZPx22
import Derived.Test.YtmafmhgmdegplaaGreatDoorZPx1
import Derived.Test.YtmafmhgmdegplaaGreatDoorZShelf
namespace Go.Proofs.YtmafmhgmdegplaaGreatDoor.P
open Go.RowKit Go.Proofs.YtmafmhgmdegplaaGreatDoorW.PrintWords Go.Proofs.YtmafmhgmdegplaaGreatDoorW.PrintLast Go.Proofs.YtmafmhgmdegplaaGreatDoorW.PrintMore
attribute [local go_sem] max2_int min2_int max_two min_two max_three min_three max_four min_four   -- for this text's walks alone
set_option linter.unusedVariables false
set_option linter.unusedSimpArgs false
set_option maxHeartbeats 8000000
set_option maxRecDepth 100000
mutual
def Fan.l0 : Nat → List ByteArray → List ByteArray → Int → Int → Option (Bool)
 | 0,_,_,_,_ => none
 | k + 1,x3,x11,x12,x13 => if x13 < x12 then (if 0 ≤ x13 then (if x13 < (x11.length : Int) then ((Fa6.f ((rdOf ByteArray.empty x11 x13).size : Int) 1 12).bind fun aa => (if aa = true then (Fan.l1 k x3 (rdOf ByteArray.empty x11 x13) 0 x11 x12 x13) else (some false))) else (none)) else (none)) else (some (decide ((x3.length : Int) ≤ 2)))
def Fan.l1 : Nat → List ByteArray → ByteArray → Int → List ByteArray → Int → Int → Option (Bool)
 | 0,_,_,_,_,_,_ => none
 | k + 1,x3,x5,x6,x11,x12,x13 => if x6 < (x5.size : Int) then (if 0 ≤ x6 then ((Fbn.f (bt x5 x6)).bind fun aa => (if aa = true then (Fan.l1 k x3 x5 (wrap64 (x6 + 1)) x11 x12 x13) else (some false))) else (none)) else (Fan.l0 k x3 x11 x12 (wrap64 (x13 + 1)))
end
def Fan.f (k : Nat) (a0 : ByteArray) : Option (Bool) := if a0.toList = ([] : List UInt8) then (some true) else ((FbP.f a0 (⟨#[32]⟩ : ByteArray)).bind fun aa => (Fan.l0 k aa aa (aa.length : Int) 0))
theorem Fan.mono_l : ∀ k,(∀ y0 y1 y2 y3,LeO (Fan.l0 k y0 y1 y2 y3) (Fan.l0 (k + 1) y0 y1 y2 y3)) ∧ (∀ y0 y1 y2 y3 y4 y5,LeO (Fan.l1 k y0 y1 y2 y3 y4 y5) (Fan.l1 (k + 1) y0 y1 y2 y3 y4 y5))
 | 0 => ⟨fun _ _ _ _ r h => by simp [Fan.l0] at h,fun _ _ _ _ _ _ r h => by simp [Fan.l1] at h⟩
 | k + 1 => by
  obtain ⟨ih0,ih1⟩ := Fan.mono_l k
  refine ⟨?_,?_⟩
  all_goals (intros;first|unfold Fan.l0|unfold Fan.l1)
  all_goals repeat' (first|with_reducible (first|exact ih0 _ _ _ _|exact ih1 _ _ _ _ _ _|exact LeO.refl _|exact LeO.none _|refine LeO.ite ?_ ?_|refine LeO.bind ?_ (fun _ => ?_))|exact LeO.none _|refine LeO.ite ?_ ?_|refine LeO.bind ?_ (fun _ => ?_))
theorem Fan.mono : ∀ a0 k,LeO (Fan.f k a0) (Fan.f (k + 1) a0) := by
 intro a0 k
 obtain ⟨ih0,ih1⟩ := Fan.mono_l k
 unfold Fan.f
 repeat' (first|with_reducible (first|exact ih0 _ _ _ _|exact ih1 _ _ _ _ _ _|exact LeO.refl _|exact LeO.none _|refine LeO.ite ?_ ?_|refine LeO.bind ?_ (fun _ => ?_))|exact LeO.none _|refine LeO.ite ?_ ?_|refine LeO.bind ?_ (fun _ => ?_))
theorem Fan.calls (k : Nat) (a0 : ByteArray) (r : Bool) (w : World) (hG : Gm w) (h : Fan.f k a0 = some r) :
  Calls Tryz.prog 216 #[.string a0] w fun e w' => e = .returned (.bool r) ∧ Below w.heap.size w w' := by
 have HB := aM (Below.refl w.heap.size w);have HG := aM hG;clear hG;have H : (if a0.toList = ([] : List UInt8) then (some true) else ((FbP.f a0 (⟨#[32]⟩ : ByteArray)).bind fun aa => (Fan.l0 k aa aa (aa.length : Int) 0))) = some r := h;clear h
 by_cases c2 : a0.toList = ([] : List UInt8)
 ·rw [if_pos c2] at H;have am := qE.mpr c2;have an := qN.mpr c2;clear c2;obtain rfl := oI H;go_enter Tryz.func216,Tryz.ntmps216;go_wp2;go_ret;exact ⟨vR_,wB_⟩
 ·rw [if_neg c2] at H;have am := qF.mpr c2;have an := qB.mpr c2;obtain ⟨aa,A3,H⟩ := bE_ H;have H' := aM H;clear H;go_enter Tryz.func216,Tryz.ntmps216;go_wp2_with (first|((with_reducible refine gate_callee (f := 185) rfl ?_);refine gl_ (some 10) Tryz.func185 #[.string a0,.string (⟨#[32]⟩ : ByteArray)] ?_;(with_reducible refine (FbP.calls a0 (⟨#[32]⟩ : ByteArray) aa _ ?side1 A3.out).mono ?_);(case side1 => exact Gm.below HG.out wB_);rintro e w4 ⟨v495,rfl,az,hb⟩;refine ⟨_,rfl,?_⟩;have ae := aM (Kd.R_lower az (lZ wB_));replace HB := aM (lT wB_ hb);obtain ⟨ai,af,ao⟩ := Kd.R_slice ae.out;subst ao));go_loopg [13] k (fun kq aA w' => ∃ (ab : Int),aA = .int .i64 ab ∧ Aside0 (Fan.l0 kq aa aa (aa.length : Int) ab = some r) ∧ Aside0 (kq ≤ k) ∧ Aside0 (Kd.R Kd.string 9 w' w.heap.size (fun _ => True) (.slice ai aa.length af) aa) ∧ Aside0 (Kd.R Kd.string 9 w' w.heap.size (fun _ => True) (.slice ai aa.length af) aa) ∧ Aside0 (Below w.heap.size w w'))
  case atStart => exact ⟨(0),vR_,H',⟨Nat.le_refl _⟩,⟨wO_ ae.out⟩,⟨wO_ ae.out⟩,⟨wB_⟩⟩
  case round =>
   clear H';obtain ⟨ab,rfl,HA,ap,ag,ad,HB⟩ := hrel
   cases gk with
   | zero => exact absurd HA.out (by simp [Fan.l0])
   | succ k1 =>
    have H := HA.out;clear HA;simp only [Fan.l0] at H
    by_cases c6 : ab < (aa.length : Int)
    focus
     rw [if_pos c6] at H;have ar := dT c6;clear c6
     by_cases c7 : 0 ≤ ab
     rotate_left;rw [if_neg c7] at H;exact nH_ H;rw [if_pos c7] at H;have c7b0 := dT c7;clear c7
     by_cases c8 : ab < (aa.length : Int)
     rotate_left;rw [if_neg c8] at H;exact nH_ H;rw [if_pos c8] at H;have c8b0 := dT c8;clear c8;obtain ⟨au,A9,H⟩ := bE_ H
     by_cases c10 : au = true
     focus
      subst c10;rw [if_pos rfl] at H;have H' := aM H;clear H
     rotate_left
     focus
      replace c10 := qO.mpr c10;subst c10;rw [if_neg qT] at H;obtain rfl := oI H
    rotate_left 2
    focus
     rw [if_neg c6] at H;have ar := dF c6;clear c6;obtain rfl := oI H
    all_goals
     (try (have av : 0 ≤ (ab : Int) := oD (by assumption);have aw : ab < (aa.length : Int) := oD (by assumption);obtain ⟨aj,aC,hx02_0⟩ := Kd.at_string (rR ad.out).2.2 ab av aw;cases aC;replace av := eq_true av;replace aw := eq_true aw));go_wp2_with (first|((with_reducible refine gate_callee (f := 130) rfl ?_);refine gl_ (some 19) Tryz.func130 #[.int .i64 ((rdOf ByteArray.empty aa ab).size : Int),.int .i64 1,.int .i64 12] ?_;(with_reducible refine (Fa6.calls _ _ _ _ _ A9.out).mono ?_);rintro e w' ⟨rfl,⟨nd,rfl⟩⟩;refine ⟨_,rfl,?_⟩))
     first
      |
       go_ret;exact ⟨vR_,wB_⟩
      |
       go_loopg [6] k1 (fun kq v6 w' => ∃ (ac : Int),v6 = .int .i64 ac ∧ Aside0 (Fan.l1 kq aa (rdOf ByteArray.empty aa ab) ac aa (aa.length : Int) ab = some r) ∧ Aside0 (kq ≤ k1) ∧ Aside0 (Kd.R Kd.string 9 w' w.heap.size (fun _ => True) (.slice (some aj) aa.length af) aa) ∧ Aside0 (Kd.R Kd.string 9 w' w.heap.size (fun _ => True) (.slice (some aj) aa.length af) aa) ∧ Aside0 (Below w.heap.size w w'))
       case atStart => exact ⟨(0),vR_,H',⟨Nat.le_refl _⟩,⟨wO_ ag.out⟩,⟨wO_ ad.out⟩,⟨wB_⟩⟩
       case round =>
        clear H';obtain ⟨ac,rfl,HA,ax,ag,ad,HB⟩ := hrel
        cases gk with
        | zero => exact absurd HA.out (by simp [Fan.l1])
        | succ k2 =>
         have H := HA.out;clear HA;simp only [Fan.l1] at H
         by_cases ah : ac < ((rdOf ByteArray.empty aa ab).size : Int)
         focus
          rw [if_pos ah] at H;have ak := dT ah;clear ah
          by_cases c12 : 0 ≤ ac
          rotate_left;rw [if_neg c12] at H;exact nH_ H;rw [if_pos c12] at H;have c12b0 := dT c12;clear c12;obtain ⟨ay,aD,H⟩ := bE_ H
          by_cases al : ay = true
          focus
           subst al;rw [if_pos rfl] at H;have H' := aM H;clear H
          rotate_left
          focus
           replace al := qO.mpr al;subst al;rw [if_neg qT] at H;obtain rfl := oI H
         rotate_left 2
         focus
          rw [if_neg ah] at H;have ak := dF ah;clear ah;have H' := aM H;clear H
         all_goals
          (try (have p01 : 0 ≤ (ac : Int) := oD (by assumption);have q01 : ac < ((rdOf ByteArray.empty aa ab).size : Int) := oD (by assumption);have hx01 := bt_at (rdOf ByteArray.empty aa ab) ac;replace p01 := eq_true p01;replace q01 := eq_true q01));go_wp2_with (first|((with_reducible refine gate_callee (f := 153) rfl ?_);refine gl_ (some 30) Tryz.func153 #[.int .u8 (bt (rdOf ByteArray.empty aa ab) ac)] ?_;(with_reducible refine (Fbn.calls _ _ _ aD.out).mono ?_);rintro e w' ⟨rfl,⟨nd,rfl⟩⟩;refine ⟨_,rfl,?_⟩))
          first
           |
            go_ret;exact ⟨vR_,wB_⟩
           |
            go_roundg k2
            case measure => have := ap.out;have := ax.out;omega
            case rel => first|(exact ⟨(wrap64 (ac + 1)),vR_,H',⟨by have := ap.out;have := ax.out;omega⟩,⟨wO_ ag.out⟩,⟨wO_ ad.out⟩,⟨wB_⟩⟩)|(exact ⟨(wrap64 (ab + 1)),vR_,H',⟨by have := ap.out;have := ax.out;omega⟩,⟨wO_ ag.out⟩,⟨wO_ ad.out⟩,⟨wB_⟩⟩)
def Fae.l0 : Nat → List ByteArray → Int → Int → Option (Int)
 | 0,_,_,_ => none
 | k + 1,x0,x7,x8 => if x8 < x7 then (if 0 ≤ x8 then (if x8 < (x0.length : Int) then ((Fbx.f k (rdOf ByteArray.empty x0 x8)).bind fun aa => (if aa = true then (some x8) else (Fae.l0 k x0 x7 (wrap64 (x8 + 1))))) else (none)) else (none)) else (some (-1))
def Fae.f (k : Nat) (l0 : List ByteArray) (a1 : Int) : Option (Int) := Fae.l0 k l0 (l0.length : Int) 0
theorem Fae.mono_l : ∀ k,(∀ y0 y1 y2,LeO (Fae.l0 k y0 y1 y2) (Fae.l0 (k + 1) y0 y1 y2))
 | 0 => fun _ _ _ r h => by simp [Fae.l0] at h
 | k + 1 => by
  have ih0 := Fae.mono_l k
  ·intro y0 y1 y2
   unfold Fae.l0
   repeat' (first|with_reducible (first|exact ih0 _ _ _|exact Fbx.mono _ _|exact LeO.refl _|exact LeO.none _|refine LeO.ite ?_ ?_|refine LeO.bind ?_ (fun _ => ?_))|exact LeO.none _|refine LeO.ite ?_ ?_|refine LeO.bind ?_ (fun _ => ?_))
theorem Fae.mono : ∀ a0 a1 k,LeO (Fae.f k a0 a1) (Fae.f (k + 1) a0 a1) := by
 intro a0 a1 k
 have ih0 := Fae.mono_l k
 unfold Fae.f
 repeat' (first|with_reducible (first|exact ih0 _ _ _|exact Fbx.mono _ _|exact LeO.refl _|exact LeO.none _|refine LeO.ite ?_ ?_|refine LeO.bind ?_ (fun _ => ?_))|exact LeO.none _|refine LeO.ite ?_ ?_|refine LeO.bind ?_ (fun _ => ?_))
theorem Fae.calls (k : Nat) (A0 : Option Addr) (c0 : Nat) (l0 : List ByteArray) (a1 : Int) (r : Int) (w : World) (hr0 : Kd.C Kd.string w A0 l0.length l0) (hc0 : l0.length ≤ c0) (h : Fae.f k l0 a1 = some r) :
  Calls Tryz.prog 152 #[.slice A0 l0.length c0,.func (.func 214) #[] #[]] w fun e w' => e = .returned (.int .i64 r) ∧ Drawn0 w w' := by
 have HR0 := aM hr0;have HC0 := aM hc0;clear hr0 hc0;have H : (Fae.l0 k l0 (l0.length : Int) 0) = some r := h;clear h;have H' := aM H;clear H;go_enter Tryz.func152,Tryz.ntmps152;go_wp2;go_loopg [8] k (fun kq v8 w' => ∃ (aa : Int),v8 = .int .i64 aa ∧ Aside0 (Fae.l0 kq l0 (l0.length : Int) aa = some r) ∧ Aside0 (kq ≤ k) ∧ Drawn0 w w')
 case atStart => exact ⟨(0),vR_,H',⟨Nat.le_refl _⟩,dw_⟩
 case round =>
  clear H';obtain ⟨aa,rfl,HA,ad,⟨m1,rfl⟩⟩ := hrel
  cases gk with
  | zero => exact absurd HA.out (by simp [Fae.l0])
  | succ k1 =>
   have H := HA.out;clear HA;simp only [Fae.l0] at H
   by_cases c3 : aa < (l0.length : Int)
   focus
    rw [if_pos c3] at H;have ab := dT c3;clear c3
    by_cases c4 : 0 ≤ aa
    rotate_left;rw [if_neg c4] at H;exact nH_ H;rw [if_pos c4] at H;have c4b0 := dT c4;clear c4
    by_cases c5 : aa < (l0.length : Int)
    rotate_left;rw [if_neg c5] at H;exact nH_ H;rw [if_pos c5] at H;have c5b0 := dT c5;clear c5;obtain ⟨ac,A6,H⟩ := bE_ H
    by_cases c7 : ac = true
    focus
     subst c7;rw [if_pos rfl] at H;obtain rfl := oI H
    rotate_left
    focus
     replace c7 := qO.mpr c7;subst c7;rw [if_neg qT] at H;have H' := aM H;clear H
   rotate_left 2
   focus
    rw [if_neg c3] at H;have ab := dF c3;clear c3;obtain rfl := oI H
   all_goals
    (try (have p01 : 0 ≤ (aa : Int) := oD (by assumption);have q01 : aa < (l0.length : Int) := oD (by assumption);obtain ⟨ad01,e01,hx01_0⟩ := Kd.at_string HR0.out aa p01 q01;cases e01;replace p01 := eq_true p01;replace q01 := eq_true q01));go_wp2_with (first|(go_at_call 214;(with_reducible refine (Fbx.calls _ _ _ _ A6.out).mono ?_);rintro e w' ⟨rfl,⟨nd,rfl⟩⟩))
    first
     |
      go_ret;exact ⟨vR_,dw_⟩
     |
      go_roundg k1
      case measure => have := ad.out;omega
      case rel => exact ⟨(wrap64 (aa + 1)),vR_,H',⟨by have := ad.out;omega⟩,dw_⟩
def FaQ.f (k : Nat) (l0 : List ByteArray) (a1 : Int) : Option (Bool) := (Fae.f k l0 a1).bind fun aa => (some (decide (aa ≥ 0)))
theorem FaQ.mono : ∀ a0 a1 k,LeO (FaQ.f k a0 a1) (FaQ.f (k + 1) a0 a1) := by
 intro a0 a1 k
 unfold FaQ.f
 repeat' (first|with_reducible (first|exact Fae.mono _ _ _|exact LeO.refl _|exact LeO.none _|refine LeO.ite ?_ ?_|refine LeO.bind ?_ (fun _ => ?_))|exact LeO.none _|refine LeO.ite ?_ ?_|refine LeO.bind ?_ (fun _ => ?_))
theorem FaQ.calls (k : Nat) (A0 : Option Addr) (c0 : Nat) (l0 : List ByteArray) (a1 : Int) (r : Bool) (w : World) (hr0 : Kd.C Kd.string w A0 l0.length l0) (hc0 : l0.length ≤ c0) (h : FaQ.f k l0 a1 = some r) :
  Calls Tryz.prog 99 #[.slice A0 l0.length c0,.func (.func 214) #[] #[]] w fun e w' => e = .returned (.bool r) ∧ Drawn0 w w' := by
 have HR0 := aM hr0;have HC0 := aM hc0;clear hr0 hc0;have H : ((Fae.f k l0 a1).bind fun aa => (some (decide (aa ≥ 0)))) = some r := h;clear h;obtain ⟨aa,A3,H⟩ := bE_ H;obtain rfl := oI H;go_enter Tryz.func99,Tryz.ntmps99;go_wp2_with (first|((with_reducible refine gate_callee (f := 152) rfl ?_);refine gl_ (some 7) Tryz.func152 #[.slice A0 l0.length c0,.func (.func 214) #[] #[]] ?_;(with_reducible refine (Fae.calls k _ _ l0 a1 aa _ ?side1 ?side2 A3.out).mono ?_);(case side1 => repeat (first|exact HR0.out|(with_reducible first|refine cA ?_ _|refine cN ?_ _|refine cD ?_)));(case side2 => exact HC0.out);rintro e w' ⟨rfl,⟨nd,rfl⟩⟩;refine ⟨_,rfl,?_⟩));go_ret;exact ⟨vR_,dw_⟩
def FaS.j0 : Nat → Bool → List ByteArray → ByteArray → ByteArray → ByteArray → Option (Bool)
 | 0,_,_,_,_,_ => none
 | k + 1,x11,x504000,ab,ac,aa => if x11 = true then (some false) else ((Fan.f k ab).bind fun ad => (if ad = true then ((Fbp.f k ac).bind fun ae => (if ae = true then (if aa.toList = ([] : List UInt8) then (some true) else ((Fai.f k aa).bind fun af => (some af))) else (some false))) else (some false)))
def FaS.f (k : Nat) (aa : List ByteArray) (ab : ByteArray) (ac : ByteArray) (ad : ByteArray) : Option (Bool) := if (aa.length : Int) > 3 then (FaS.j0 k true aa ab ac ad) else ((FaQ.f k aa 0).bind fun ae => (FaS.j0 k ae aa ab ac ad))
theorem FaS.mono_l : ∀ k,(∀ y0 y1 y2 y3 y4,LeO (FaS.j0 k y0 y1 y2 y3 y4) (FaS.j0 (k + 1) y0 y1 y2 y3 y4))
 | 0 => fun _ _ _ _ _ r h => by simp [FaS.j0] at h
 | k + 1 => by
  have ih0 := FaS.mono_l k
  ·intro y0 y1 y2 y3 y4
   unfold FaS.j0
   repeat' (first|with_reducible (first|exact ih0 _ _ _ _ _|exact Fbp.mono _ _|exact Fai.mono _ _|exact Fan.mono _ _|exact FaQ.mono _ _ _|exact LeO.refl _|exact LeO.none _|refine LeO.ite ?_ ?_|refine LeO.bind ?_ (fun _ => ?_))|exact LeO.none _|refine LeO.ite ?_ ?_|refine LeO.bind ?_ (fun _ => ?_))
theorem FaS.mono : ∀ a0 a1 a2 a3 k,LeO (FaS.f k a0 a1 a2 a3) (FaS.f (k + 1) a0 a1 a2 a3) := by
 intro a0 a1 a2 a3 k
 have ih0 := FaS.mono_l k
 unfold FaS.f
 repeat' (first|with_reducible (first|exact ih0 _ _ _ _ _|exact Fbp.mono _ _|exact Fai.mono _ _|exact Fan.mono _ _|exact FaQ.mono _ _ _|exact LeO.refl _|exact LeO.none _|refine LeO.ite ?_ ?_|refine LeO.bind ?_ (fun _ => ?_))|exact LeO.none _|refine LeO.ite ?_ ?_|refine LeO.bind ?_ (fun _ => ?_))
theorem FaS.calls (k : Nat) (ap : Option Addr) (ar : Nat) (aa : List ByteArray) (ac : ByteArray) (ae : ByteArray) (ad : ByteArray) (r : Bool) (w : World) (au : Kd.C Kd.string w ap aa.length aa) (av : aa.length ≤ ar) (hG : Gm w) (h : FaS.f k aa ac ae ad = some r) :
  Calls Tryz.prog 167 #[.agg #[.slice ap aa.length ar,.string ac,.string ae,.string ad]] w fun e w' => e = .returned (.bool r) ∧ Below w.heap.size w w' := by
 have hu157 := Tryz.underlying157;have az := aM au;have aA := aM av;clear au av;have HB := aM (Below.refl w.heap.size w);have HG := aM hG;clear hG;have H : (if (aa.length : Int) > 3 then (FaS.j0 k true aa ac ae ad) else ((FaQ.f k aa 0).bind fun ax => (FaS.j0 k ax aa ac ae ad))) = some r := h;clear h;have aF := aM H;clear H;go_enter Tryz.func167,Tryz.ntmps167;go_upto_region 1 with (first|((with_reducible refine gate_dst (N := 1) rfl ?_);refine bx_ (N := 1) (cs := #[.slice ap aa.length ar,.string ac,.string ae,.string ad]) (t := 157) ?_;intro aw hg w3 hbox hb;have ab := aM (hbox);have aC := aM ((by rw [hg];exact (lZ wB_) : w.heap.size ≤ aw));have GE503 := aC;replace HB := aM (lT wB_ hb);clear hb hbox hg));(try simp only [Act.put,lI,sZ,sS]);go_cut [11] (fun aK wc => ∃ (kq : Nat) (af : Bool),aK = .bool af ∧ Aside0 (FaS.j0 kq af aa ac ae ad = some r) ∧ Aside0 (kq ≤ k) ∧ Aside0 (wc.heap[aw]? = some (.cells #[(.slice ap aa.length ar),.string ac,.string ae,.string ad] 157 (0,0))) ∧ Aside0 (Below w.heap.size w wc))
 case first =>
  have H := aF.out;clear aF
  by_cases c4 : (aa.length : Int) > 3
  focus
   rw [if_pos c4] at H;have ao : decide (3 < (aa.length : Int)) = true := dT c4;have aG : decide (3 < aa.length) = true := dT (by omega);clear c4;(first|rw [ao]|(simp only [i64_w,i32_w];rw [ao])|skip);have H' := aM H;clear H
  rotate_left
  focus
   rw [if_neg c4] at H;have ao : decide (3 < (aa.length : Int)) = false := dF c4;have aG : decide (3 < aa.length) = false := dF (by omega);clear c4;(first|rw [ao]|(simp only [i64_w,i32_w];rw [ao])|skip);obtain ⟨ax,A6,H⟩ := bE_ H;have H' := aM H;clear H
  all_goals
   obtain ⟨ag,ah,ai,aj,ak,al,am,an⟩ := z4_ ab.out;go_wp2_with (first|(go_at_call 99;(with_reducible refine (FaQ.calls _ _ _ _ _ _ _ ?side1 ?side2 A6.out).mono ?_);(case side1 => exact wX_ az.out);(case side2 => exact aA.out);rintro e w' ⟨rfl,⟨nd,rfl⟩⟩));go_meet
   case rel => first|(exact ⟨_,(true),vR_,H',⟨by first|omega|exact Nat.le_refl _⟩,⟨wC_ ab.out⟩,⟨wB_⟩⟩)|(exact ⟨_,(ax),vR_,H',⟨by first|omega|exact Nat.le_refl _⟩,⟨wC_ ab.out⟩,⟨wB_⟩⟩)
 case rest =>
  clear aF;obtain ⟨kq,af,rfl,HA,HJ1,ab,HB⟩ := hcut
  cases kq with
  | zero => exact absurd HA.out (by simp [FaS.j0])
  | succ kj1 =>
   have H := HA.out;clear HA;simp only [FaS.j0] at H
   by_cases c8 : af = true
   focus
    subst c8;rw [if_pos rfl] at H;obtain rfl := oI H
   rotate_left
   focus
    replace c8 := qO.mpr c8;subst c8;rw [if_neg qT] at H;obtain ⟨aH,A9,H⟩ := bE_ H
    by_cases c10 : aH = true
    focus
     subst c10;rw [if_pos rfl] at H;obtain ⟨aJ,aL,H⟩ := bE_ H
     by_cases c12 : aJ = true
     focus
      subst c12;rw [if_pos rfl] at H
      by_cases ay : ad.toList = ([] : List UInt8)
      focus
       rw [if_pos ay] at H;have aD := qE.mpr ay;have aE := qN.mpr ay;clear ay;obtain rfl := oI H
      rotate_left
      focus
       rw [if_neg ay] at H;have aD := qF.mpr ay;have aE := qB.mpr ay;obtain ⟨t507,aN,H⟩ := bE_ H;obtain rfl := oI H
     rotate_left 2
     focus
      replace c12 := qO.mpr c12;subst c12;rw [if_neg qT] at H;obtain rfl := oI H
    rotate_left 3
    focus
     replace c10 := qO.mpr c10;subst c10;rw [if_neg qT] at H;obtain rfl := oI H
   all_goals
    (try obtain ⟨ag,ah,ai,aj,ak,al,am,an⟩ := z4_ ab.out);go_wp2_with (first|((with_reducible refine gate_callee (f := 216) rfl ?_);refine gl_ (some 14) Tryz.func216 #[.string ac] ?_;(with_reducible refine (Fan.calls _ _ _ _ ?side1 A9.out).mono ?_);(case side1 => exact Gm.below HG.out wB_);rintro e WA9 ⟨rfl,hb⟩;refine ⟨_,rfl,?_⟩;replace ab := aM (bw_ ab.out hb);replace HB := aM (lT wB_ hb);obtain ⟨_,_,_,_,_,_,_,_⟩ := z4_ ab.out)|(go_at_call 215;(with_reducible refine (Fbp.calls _ _ _ _ aL.out).mono ?_);rintro e w' ⟨rfl,⟨nd,rfl⟩⟩)|(go_at_call 217;(with_reducible refine (Fai.calls _ _ _ _ aN.out).mono ?_);rintro e w' ⟨rfl,⟨nd,rfl⟩⟩));go_ret;exact ⟨vR_,wB_⟩
def FbI.f (k : Nat) (aa : List ByteArray) (ab : ByteArray) (ac : ByteArray) (ad : ByteArray) : Option (Bool) := (FaS.f k aa ab ac ad).bind fun ae => (some (!ae))
theorem FbI.mono : ∀ a0 a1 a2 a3 k,LeO (FbI.f k a0 a1 a2 a3) (FbI.f (k + 1) a0 a1 a2 a3) := by
 intro a0 a1 a2 a3 k
 unfold FbI.f
 repeat' (first|with_reducible (first|exact FaS.mono _ _ _ _ _|exact LeO.refl _|exact LeO.none _|refine LeO.ite ?_ ?_|refine LeO.bind ?_ (fun _ => ?_))|exact LeO.none _|refine LeO.ite ?_ ?_|refine LeO.bind ?_ (fun _ => ?_))
theorem FbI.calls (k : Nat) (af : Option Addr) (ag : Nat) (aa : List ByteArray) (ab : ByteArray) (ac : ByteArray) (ad : ByteArray) (r : Bool) (w : World) (ah : Kd.C Kd.string w af aa.length aa) (ai : aa.length ≤ ag) (hG : Gm w) (h : FbI.f k aa ab ac ad = some r) :
  Calls Tryz.prog 166 #[.agg #[.slice af aa.length ag,.string ab,.string ac,.string ad]] w fun e w' => e = .returned (.bool r) ∧ Below w.heap.size w w' := by
 have hu157 := Tryz.underlying157;have ak := aM ah;have al := aM ai;clear ah ai;have HB := aM (Below.refl w.heap.size w);have HG := aM hG;clear hG;have H : ((FaS.f k aa ab ac ad).bind fun aj => (some (!aj))) = some r := h;clear h;obtain ⟨aj,A2,H⟩ := bE_ H;obtain rfl := oI H;go_enter Tryz.func166,Tryz.ntmps166;go_wp2_with (first|((with_reducible refine gate_dst (N := 1) rfl ?_);refine bx_ (N := 1) (cs := #[.slice af aa.length ag,.string ab,.string ac,.string ad]) (t := 157) ?_;intro am hg w3 hbox hb;have ae := aM (hbox);have an := aM ((by rw [hg];exact (lZ wB_) : w.heap.size ≤ am));have GE508 := an;replace HB := aM (lT wB_ hb);clear hb hbox hg;obtain ⟨_,_,_,_,_,_,_,_⟩ := z4_ ae.out)|((with_reducible refine gate_callee (f := 167) rfl ?_);refine gl_ (some 4) Tryz.func167 #[.agg #[.slice af aa.length ag,.string ab,.string ac,.string ad]] ?_;(with_reducible refine (FaS.calls k _ _ aa ab ac ad aj _ ?side1 ?side2 ?side3 A2.out).mono ?_);(case side1 => exact wX_ ak.out);(case side2 => exact al.out);(case side3 => exact Gm.below HG.out wB_);rintro e w5 ⟨rfl,hb⟩;refine ⟨_,rfl,?_⟩;replace ae := aM (bw_ ae.out hb);replace HB := aM (lT wB_ hb)));go_ret;exact ⟨vR_,wB_⟩
def Fbc.l0 : Nat → List (S157) → Int → Int → Option (Int)
 | 0,_,_,_ => none
 | k + 1,x0,x7,x8 => if x8 < x7 then (if 0 ≤ x8 then (if x8 < (x0.length : Int) then ((FbI.f k ((Fat x0 x8).f0) ((Fat x0 x8).f1) ((Fat x0 x8).f2) ((Fat x0 x8).f3)).bind fun aa => (if aa = true then (some x8) else (Fbc.l0 k x0 x7 (wrap64 (x8 + 1))))) else (none)) else (none)) else (some (-1))
def Fbc.f (k : Nat) (l0 : List (S157)) (a1 : Int) : Option (Int) := Fbc.l0 k l0 (l0.length : Int) 0
theorem Fbc.mono_l : ∀ k,(∀ y0 y1 y2,LeO (Fbc.l0 k y0 y1 y2) (Fbc.l0 (k + 1) y0 y1 y2))
 | 0 => fun _ _ _ r h => by simp [Fbc.l0] at h
 | k + 1 => by
  have ih0 := Fbc.mono_l k
  ·intro y0 y1 y2
   unfold Fbc.l0
   repeat' (first|with_reducible (first|exact ih0 _ _ _|exact FbI.mono _ _ _ _ _|exact LeO.refl _|exact LeO.none _|refine LeO.ite ?_ ?_|refine LeO.bind ?_ (fun _ => ?_))|exact LeO.none _|refine LeO.ite ?_ ?_|refine LeO.bind ?_ (fun _ => ?_))
theorem Fbc.mono : ∀ a0 a1 k,LeO (Fbc.f k a0 a1) (Fbc.f (k + 1) a0 a1) := by
 intro a0 a1 k
 have ih0 := Fbc.mono_l k
 unfold Fbc.f
 repeat' (first|with_reducible (first|exact ih0 _ _ _|exact FbI.mono _ _ _ _ _|exact LeO.refl _|exact LeO.none _|refine LeO.ite ?_ ?_|refine LeO.bind ?_ (fun _ => ?_))|exact LeO.none _|refine LeO.ite ?_ ?_|refine LeO.bind ?_ (fun _ => ?_))
theorem Fbc.calls (k : Nat) (A0 : Option Addr) (c0 : Nat) (l0 : List (S157)) (a1 : Int) (r : Int) (w : World) (hr0 : Kd.C k157 w A0 l0.length l0) (hc0 : l0.length ≤ c0) (hG : Gm w) (h : Fbc.f k l0 a1 = some r) :
  Calls Tryz.prog 213 #[.slice A0 l0.length c0,.func (.func 166) #[] #[]] w fun e w' => e = .returned (.int .i64 r) ∧ Below w.heap.size w w' := by
 have hu157 := Tryz.underlying157;have HR0 := aM hr0;have HC0 := aM hc0;clear hr0 hc0;have HB := aM (Below.refl w.heap.size w);have HG := aM hG;clear hG;have H : (Fbc.l0 k l0 (l0.length : Int) 0) = some r := h;clear h;have H' := aM H;clear H;go_enter Tryz.func213,Tryz.ntmps213;go_wp2;go_loopg [8] k (fun kq v8 w' => ∃ (aa : Int),v8 = .int .i64 aa ∧ Aside0 (Fbc.l0 kq l0 (l0.length : Int) aa = some r) ∧ Aside0 (kq ≤ k) ∧ Aside0 (Below w.heap.size w w'))
 case atStart => exact ⟨(0),vR_,H',⟨Nat.le_refl _⟩,⟨wB_⟩⟩
 case round =>
  clear H';obtain ⟨aa,rfl,HA,al,HB⟩ := hrel
  cases gk with
  | zero => exact absurd HA.out (by simp [Fbc.l0])
  | succ k1 =>
   have H := HA.out;clear HA;simp only [Fbc.l0] at H
   by_cases c3 : aa < (l0.length : Int)
   focus
    rw [if_pos c3] at H;have aj := dT c3;clear c3
    by_cases c4 : 0 ≤ aa
    rotate_left;rw [if_neg c4] at H;exact nH_ H;rw [if_pos c4] at H;have c4b0 := dT c4;clear c4
    by_cases c5 : aa < (l0.length : Int)
    rotate_left;rw [if_neg c5] at H;exact nH_ H;rw [if_pos c5] at H;have c5b0 := dT c5;clear c5;obtain ⟨ak,A6,H⟩ := bE_ H
    by_cases c7 : ak = true
    focus
     subst c7;rw [if_pos rfl] at H;obtain rfl := oI H
    rotate_left
    focus
     replace c7 := qO.mpr c7;subst c7;rw [if_neg qT] at H;have H' := aM H;clear H
   rotate_left 2
   focus
    rw [if_neg c3] at H;have aj := dF c3;clear c3;obtain rfl := oI H
   all_goals
    (try (have p01 : 0 ≤ (aa : Int) := oD (by assumption);have q01 : aa < (l0.length : Int) := oD (by assumption);obtain ⟨ad01,A01_0,c01_0,e01,ab,ac,ad,ae,af,ag⟩ := Fct HR0.out aa p01 q01;cases e01;replace ab := mv_ HB.out ab;replace ac := mv_ HB.out ac;replace ad := mv_ HB.out ad;replace ae := mv_ HB.out ae;have ah := aM ag;have ai := aM af;clear ag af;replace p01 := eq_true p01;replace q01 := eq_true q01));go_wp2_with (first|(go_at_call 166;(with_reducible refine (FbI.calls _ _ _ _ _ _ _ _ _ ?side1 ?side2 ?side3 A6.out).mono ?_);(case side1 => exact wX_ ah.out);(case side2 => exact ai.out);(case side3 => exact Gm.below HG.out wB_);rintro e WA6 ⟨rfl,hb⟩;replace HB := aM (lT wB_ hb)))
    first
     |
      go_ret;exact ⟨vR_,wB_⟩
     |
      go_roundg k1
      case measure => have := al.out;omega
      case rel => exact ⟨(wrap64 (aa + 1)),vR_,H',⟨by have := al.out;omega⟩,⟨wB_⟩⟩
attribute [local go_sem high] eqA39
def FbQ.f (k : Nat) (l0 : List (S157)) (a1 : Int) : Option (Bool) := (Fbc.f k l0 a1).bind fun aa => (some (decide (aa ≥ 0)))
theorem FbQ.mono : ∀ a0 a1 k,LeO (FbQ.f k a0 a1) (FbQ.f (k + 1) a0 a1) := by
 intro a0 a1 k
 unfold FbQ.f
 repeat' (first|with_reducible (first|exact Fbc.mono _ _ _|exact LeO.refl _|exact LeO.none _|refine LeO.ite ?_ ?_|refine LeO.bind ?_ (fun _ => ?_))|exact LeO.none _|refine LeO.ite ?_ ?_|refine LeO.bind ?_ (fun _ => ?_))
theorem FbQ.calls (k : Nat) (A0 : Option Addr) (c0 : Nat) (l0 : List (S157)) (a1 : Int) (r : Bool) (w : World) (hr0 : Kd.C k157 w A0 l0.length l0) (hc0 : l0.length ≤ c0) (hG : Gm w) (h : FbQ.f k l0 a1 = some r) :
  Calls Tryz.prog 165 #[.slice A0 l0.length c0,.func (.func 166) #[] #[]] w fun e w' => e = .returned (.bool r) ∧ Below w.heap.size w w' := by
 have HR0 := aM hr0;have HC0 := aM hc0;clear hr0 hc0;have HB := aM (Below.refl w.heap.size w);have HG := aM hG;clear hG;have H : ((Fbc.f k l0 a1).bind fun aa => (some (decide (aa ≥ 0)))) = some r := h;clear h;obtain ⟨aa,A3,H⟩ := bE_ H;obtain rfl := oI H;go_enter Tryz.func165,Tryz.ntmps165;go_wp2_with (first|((with_reducible refine gate_callee (f := 213) rfl ?_);refine gl_ (some 7) Tryz.func213 #[.slice A0 l0.length c0,.func (.func 166) #[] #[]] ?_;(with_reducible refine (Fbc.calls k _ _ l0 a1 aa _ ?side1 ?side2 ?side3 A3.out).mono ?_);(case side1 => repeat (first|exact HR0.out|(with_reducible first|refine cA ?_ _|refine cN ?_ _|refine cD ?_)));(case side2 => exact HC0.out);(case side3 => exact Gm.below HG.out wB_);rintro e w4 ⟨rfl,hb⟩;refine ⟨_,rfl,?_⟩;replace HB := aM (lT wB_ hb)));go_ret;exact ⟨vR_,wB_⟩
def Fbw.f (k : Nat) (l0 : List (S157)) : Option (Bool) := if (l0.length : Int) ≤ 4 then ((FbQ.f k l0 0).bind fun aa => (some (!aa))) else (some false)
theorem Fbw.mono : ∀ a0 k,LeO (Fbw.f k a0) (Fbw.f (k + 1) a0) := by
 intro a0 k
 unfold Fbw.f
 repeat' (first|with_reducible (first|exact FbQ.mono _ _ _|exact LeO.refl _|exact LeO.none _|refine LeO.ite ?_ ?_|refine LeO.bind ?_ (fun _ => ?_))|exact LeO.none _|refine LeO.ite ?_ ?_|refine LeO.bind ?_ (fun _ => ?_))
theorem Fbw.calls (k : Nat) (A0 : Option Addr) (c0 : Nat) (l0 : List (S157)) (r : Bool) (w : World) (hr0 : Kd.C k157 w A0 l0.length l0) (hc0 : l0.length ≤ c0) (hG : Gm w) (h : Fbw.f k l0 = some r) :
  Calls Tryz.prog 128 #[.slice A0 l0.length c0] w fun e w' => e = .returned (.bool r) ∧ Below w.heap.size w w' := by
 have HR0 := aM hr0;have HC0 := aM hc0;clear hr0 hc0;have HB := aM (Below.refl w.heap.size w);have HG := aM hG;clear hG;have H : (if (l0.length : Int) ≤ 4 then ((FbQ.f k l0 0).bind fun aa => (some (!aa))) else (some false)) = some r := h;clear h
 by_cases c2 : (l0.length : Int) ≤ 4
 focus
  rw [if_pos c2] at H;have ab := dT c2;have ac : decide (l0.length ≤ 4) = true := dT (by omega);clear c2;obtain ⟨aa,A3,H⟩ := bE_ H;obtain rfl := oI H
 rotate_left
 focus
  rw [if_neg c2] at H;have ab := dF c2;have ac : decide (l0.length ≤ 4) = false := dF (by omega);clear c2;obtain rfl := oI H
 all_goals
  go_enter Tryz.func128,Tryz.ntmps128;go_wp2_with (first|(go_at_call 165;(with_reducible refine (FbQ.calls _ _ _ _ _ _ _ ?side1 ?side2 ?side3 A3.out).mono ?_);(case side1 => repeat (first|exact HR0.out|(with_reducible first|refine cA ?_ _|refine cN ?_ _|refine cD ?_)));(case side2 => exact HC0.out);(case side3 => exact Gm.below HG.out wB_);rintro e WA3 ⟨rfl,hb⟩;replace HB := aM (lT wB_ hb)));go_ret;exact ⟨vR_,wB_⟩
def FbX.f (a0 : Int) (a1 : Int) : Option (Int) := if a1 = 2 then (if (Int.tmod a0 4) = 0 then (if (Int.tmod a0 100) = 0 then (if (Int.tmod a0 400) = 0 then (some 29) else (some 28)) else (some 29)) else (some 28)) else (if a1 = 4 then (some 30) else (if a1 = 6 then (some 30) else (if a1 = 9 then (some 30) else (if a1 = 11 then (some 30) else (some 31)))))
theorem FbX.calls (a0 : Int) (a1 : Int) (r : Int) (w : World) (h : FbX.f a0 a1 = some r) :
  Calls Tryz.prog 168 #[.int .i64 a0,.int .i64 a1] w fun e w' => e = .returned (.int .i64 r) ∧ Drawn0 w w' := by
 have H : (if a1 = 2 then (if (Int.tmod a0 4) = 0 then (if (Int.tmod a0 100) = 0 then (if (Int.tmod a0 400) = 0 then (some 29) else (some 28)) else (some 29)) else (some 28)) else (if a1 = 4 then (some 30) else (if a1 = 6 then (some 30) else (if a1 = 9 then (some 30) else (if a1 = 11 then (some 30) else (some 31)))))) = some r := h;clear h
 by_cases c3 : a1 = 2
 focus
  rw [if_pos c3] at H;have ac := qE.mpr c3;have ad := qN.mpr c3;clear c3
  by_cases c4 : (Int.tmod a0 4) = 0
  focus
   rw [if_pos c4] at H;have ae := qE.mpr c4;have af := qN.mpr c4;clear c4
   by_cases c5 : (Int.tmod a0 100) = 0
   focus
    rw [if_pos c5] at H;have ag := qE.mpr c5;have ah := qN.mpr c5;clear c5
    by_cases c6 : (Int.tmod a0 400) = 0
    focus
     rw [if_pos c6] at H;have ai := qE.mpr c6;have aj := qN.mpr c6;clear c6;obtain rfl := oI H
    rotate_left
    focus
     rw [if_neg c6] at H;have ai := qF.mpr c6;have aj := qB.mpr c6;obtain rfl := oI H
   rotate_left 2
   focus
    rw [if_neg c5] at H;have ag := qF.mpr c5;have ah := qB.mpr c5;obtain rfl := oI H
  rotate_left 3
  focus
   rw [if_neg c4] at H;have ae := qF.mpr c4;have af := qB.mpr c4;obtain rfl := oI H
 rotate_left 4
 focus
  rw [if_neg c3] at H;have ac := qF.mpr c3;have ad := qB.mpr c3
  by_cases c7 : a1 = 4
  focus
   rw [if_pos c7] at H;have ak := qE.mpr c7;have al := qN.mpr c7;clear c7;obtain rfl := oI H
  rotate_left
  focus
   rw [if_neg c7] at H;have ak := qF.mpr c7;have al := qB.mpr c7
   by_cases c8 : a1 = 6
   focus
    rw [if_pos c8] at H;have am := qE.mpr c8;have an := qN.mpr c8;clear c8;obtain rfl := oI H
   rotate_left
   focus
    rw [if_neg c8] at H;have am := qF.mpr c8;have an := qB.mpr c8
    by_cases c9 : a1 = 9
    focus
     rw [if_pos c9] at H;have ao := qE.mpr c9;have ap := qN.mpr c9;clear c9;obtain rfl := oI H
    rotate_left
    focus
     rw [if_neg c9] at H;have ao := qF.mpr c9;have ap := qB.mpr c9
     by_cases c10 : a1 = 11
     focus
      rw [if_pos c10] at H;have aa := qE.mpr c10;have ab := qN.mpr c10;clear c10;obtain rfl := oI H
     rotate_left
     focus
      rw [if_neg c10] at H;have aa := qF.mpr c10;have ab := qB.mpr c10;obtain rfl := oI H
 all_goals
  go_enter Tryz.func168,Tryz.ntmps168;go_wp2;go_ret;exact ⟨vR_,dw_⟩
def FaA.j0 : Nat → Bool → Int → Int → Int → Bool → Option (Bool)
 | 0,_,_,_,_,_ => none
 | k + 1,af,ac,aa,ab,x515003 => if af = true then (some false) else (if aa = 0 then (some (ab == 0)) else ((FbX.f ac aa).bind fun ad => ((Fa6.f ab 0 ad).bind fun ae => (some ae))))
def FaA.f (k : Nat) (ab : Int) (aa : Int) (ad : Int) (ac : Bool) : Option (Bool) := if (ab == 0 && (aa == 0 && (ad == 0 && (!ac)))) = true then (some true) else ((Fa6.f ab 1 2999).bind fun ae => (if ae = true then ((Fa6.f aa 0 12).bind fun af => (if af = true then (if ac = true then (FaA.j0 k (aa != 0) ab aa ad ac) else (FaA.j0 k false ab aa ad ac)) else (FaA.j0 k true ab aa ad ac))) else (FaA.j0 k true ab aa ad ac)))
theorem FaA.mono_l : ∀ k,(∀ y0 y1 y2 y3 y4,LeO (FaA.j0 k y0 y1 y2 y3 y4) (FaA.j0 (k + 1) y0 y1 y2 y3 y4))
 | 0 => fun _ _ _ _ _ r h => by simp [FaA.j0] at h
 | k + 1 => by
  have ih0 := FaA.mono_l k
  ·intro y0 y1 y2 y3 y4
   unfold FaA.j0
   repeat' (first|with_reducible (first|exact ih0 _ _ _ _ _|exact LeO.refl _|exact LeO.none _|refine LeO.ite ?_ ?_|refine LeO.bind ?_ (fun _ => ?_))|exact LeO.none _|refine LeO.ite ?_ ?_|refine LeO.bind ?_ (fun _ => ?_))
theorem FaA.mono : ∀ a0 a1 a2 a3 k,LeO (FaA.f k a0 a1 a2 a3) (FaA.f (k + 1) a0 a1 a2 a3) := by
 intro a0 a1 a2 a3 k
 have ih0 := FaA.mono_l k
 unfold FaA.f
 repeat' (first|with_reducible (first|exact ih0 _ _ _ _ _|exact LeO.refl _|exact LeO.none _|refine LeO.ite ?_ ?_|refine LeO.bind ?_ (fun _ => ?_))|exact LeO.none _|refine LeO.ite ?_ ?_|refine LeO.bind ?_ (fun _ => ?_))
theorem FaA.calls (k : Nat) (ae : Int) (ab : Int) (af : Int) (ac : Bool) (r : Bool) (w : World) (h : FaA.f k ae ab af ac = some r) :
  Calls Tryz.prog 129 #[.agg #[.int .i64 ae,.int .i64 ab,.int .i64 af,.bool ac]] w fun e w' => e = .returned (.bool r) ∧ Below w.heap.size w w' := by
 have hu39 := Tryz.underlying39;have HB := aM (Below.refl w.heap.size w);have H : (if (ae == 0 && (ab == 0 && (af == 0 && (!ac)))) = true then (some true) else ((Fa6.f ae 1 2999).bind fun aR => (if aR = true then ((Fa6.f ab 0 12).bind fun aT => (if aT = true then (if ac = true then (FaA.j0 k (ab != 0) ae ab af ac) else (FaA.j0 k false ae ab af ac)) else (FaA.j0 k true ae ab af ac))) else (FaA.j0 k true ae ab af ac)))) = some r := h;clear h
 by_cases c2 : (ae == 0 && (ab == 0 && (af == 0 && (!ac)))) = true
 ·rw [if_pos c2] at H;have a0 : (ae == 0 && (ab == 0 && (af == 0 && (!ac)))) = true := c2;(try (have a1 : decide (ae = 0 && (ab == 0 && (af == 0 && (!ac)))) = true := by simpa using c2));(try (have a2 : (ae == 0 && (ab == 0 && (af == 0 && (!ac)))) = true := by simpa using c2));clear c2;obtain rfl := oI H;go_enter Tryz.func129,Tryz.ntmps129;go_wp2_with (first|((with_reducible refine gate_dst (N := 1) rfl ?_);refine bx_ (N := 1) (cs := #[.int .i64 ae,.int .i64 ab,.int .i64 af,.bool ac]) (t := 39) ?_;intro ad hg w3 hbox hb;have aa := aM (hbox);have ag := aM ((by rw [hg];exact (lZ wB_) : w.heap.size ≤ ad));have ah := ag;replace HB := aM (lT wB_ hb);clear hb hbox hg;obtain ⟨au,av,aw,ax,ay,az,aA,aC⟩ := z4_ aa.out));(repeat (go_quiet (first|((with_reducible refine gate_dst (N := 1) rfl ?_);refine bx_ (N := 1) (cs := #[.int .i64 ae,.int .i64 ab,.int .i64 af,.bool ac]) (t := 39) ?_;intro ad hg w3 hbox hb;have aD := aM (lT wB_ hb);have aE := aM (hbox);have aF := aM ((by rw [hg];exact (lZ wB_) : w.heap.size ≤ ad));have aG := aM ((by rw [hg];exact (lZ wB_) : w.heap.size ≤ ad));clear HB;have HB := aD;have aa := aE;have ag := aF;have ah := aG;clear aD aE aF aG;clear hb hbox hg;obtain ⟨au,av,aw,ax,ay,az,aA,aC⟩ := z4_ aa.out));try go_wp2_with (first|((with_reducible refine gate_dst (N := 1) rfl ?_);refine bx_ (N := 1) (cs := #[.int .i64 ae,.int .i64 ab,.int .i64 af,.bool ac]) (t := 39) ?_;intro ad hg w3 hbox hb;have aD := aM (lT wB_ hb);have aE := aM (hbox);have aF := aM ((by rw [hg];exact (lZ wB_) : w.heap.size ≤ ad));have aG := aM ((by rw [hg];exact (lZ wB_) : w.heap.size ≤ ad));clear HB;have HB := aD;have aa := aE;have ag := aF;have ah := aG;clear aD aE aF aG;clear hb hbox hg;obtain ⟨au,av,aw,ax,ay,az,aA,aC⟩ := z4_ aa.out))));go_ret;exact ⟨vR_,wB_⟩
 ·rw [if_neg c2] at H;have a0 : (ae == 0 && (ab == 0 && (af == 0 && (!ac)))) = false := (by simpa using c2);(try (have a1 : decide (ae = 0 && (ab == 0 && (af == 0 && (!ac)))) = false := by simpa using c2));(try (have a2 : (ae == 0 && (ab == 0 && (af == 0 && (!ac)))) = false := by simpa using c2));(try (have c2b3 : ¬ (ae = 0 && (ab == 0 && (af == 0 && (!ac)))) := by simpa using c2));clear c2;have a3 := aM H;clear H;go_enter Tryz.func129,Tryz.ntmps129;go_upto_region 3 with (first|((with_reducible refine gate_dst (N := 1) rfl ?_);refine bx_ (N := 1) (cs := #[.int .i64 ae,.int .i64 ab,.int .i64 af,.bool ac]) (t := 39) ?_;intro ad hg w6 hbox hb;have aa := aM (hbox);have ag := aM ((by rw [hg];exact (lZ wB_) : w.heap.size ≤ ad));have ah := ag;replace HB := aM (lT wB_ hb);clear hb hbox hg;obtain ⟨aH,aJ,aK,aL,aN,aO,aP,aQ⟩ := z4_ aa.out));(repeat (go_quiet (first|((with_reducible refine gate_dst (N := 1) rfl ?_);refine bx_ (N := 1) (cs := #[.int .i64 ae,.int .i64 ab,.int .i64 af,.bool ac]) (t := 39) ?_;intro ad hg w6 hbox hb;have aD := aM (lT wB_ hb);have aE := aM (hbox);have aF := aM ((by rw [hg];exact (lZ wB_) : w.heap.size ≤ ad));have aG := aM ((by rw [hg];exact (lZ wB_) : w.heap.size ≤ ad));clear HB;have HB := aD;have aa := aE;have ag := aF;have ah := aG;clear aD aE aF aG;clear hb hbox hg;obtain ⟨aH,aJ,aK,aL,aN,aO,aP,aQ⟩ := z4_ aa.out));go_upto_region 3 with (first|((with_reducible refine gate_dst (N := 1) rfl ?_);refine bx_ (N := 1) (cs := #[.int .i64 ae,.int .i64 ab,.int .i64 af,.bool ac]) (t := 39) ?_;intro ad hg w6 hbox hb;have aD := aM (lT wB_ hb);have aE := aM (hbox);have aF := aM ((by rw [hg];exact (lZ wB_) : w.heap.size ≤ ad));have aG := aM ((by rw [hg];exact (lZ wB_) : w.heap.size ≤ ad));clear HB;have HB := aD;have aa := aE;have ag := aF;have ah := aG;clear aD aE aF aG;clear hb hbox hg;obtain ⟨aH,aJ,aK,aL,aN,aO,aP,aQ⟩ := z4_ aa.out))));(try simp only [Act.put,lI,sZ,sS]);go_cut [24] (fun a7 wc => ∃ (kq : Nat) (ai : Bool),a7 = .bool ai ∧ Aside0 (FaA.j0 kq ai ae ab af ac = some r) ∧ Aside0 (kq ≤ k) ∧ Aside0 (wc.heap[ad]? = some (.cells #[.int .i64 ae,.int .i64 ab,.int .i64 af,.bool ac] 39 (0,0))) ∧ Aside0 (Below w.heap.size w wc))
  case first =>
   have H := a3.out;clear a3;obtain ⟨aR,A8,H⟩ := bE_ H
   by_cases c9 : aR = true
   focus
    subst c9;rw [if_pos rfl] at H;obtain ⟨aT,a4,H⟩ := bE_ H
    by_cases aX : aT = true
    focus
     subst aX;rw [if_pos rfl] at H
     by_cases aY : ac = true
     focus
      subst aY;rw [if_pos rfl] at H;have H' := aM H;clear H
     rotate_left
     focus
      replace aY := qO.mpr aY;subst aY;rw [if_neg qT] at H;have H' := aM H;clear H
    rotate_left 2
    focus
     replace aX := qO.mpr aX;subst aX;rw [if_neg qT] at H;have H' := aM H;clear H
   rotate_left 3
   focus
    replace c9 := qO.mpr c9;subst c9;rw [if_neg qT] at H;have H' := aM H;clear H
   all_goals
    obtain ⟨aj,ak,al,am,an,ao,ap,ar⟩ := z4_ aa.out;go_wp2_with (first|(go_at_call 130;(with_reducible refine (Fa6.calls _ _ _ _ _ A8.out).mono ?_);rintro e w' ⟨rfl,⟨nd,rfl⟩⟩;(try first|exact ⟨rfl,_,wD _ _ _⟩|exact ⟨rfl,_,Eq.trans (wD _ _ _) (congrArg (World.drewN _) (Nat.add_assoc _ _ _))⟩))|(go_at_call 130;(with_reducible refine (Fa6.calls _ _ _ _ _ a4.out).mono ?_);rintro e w' ⟨rfl,⟨nd,rfl⟩⟩;(try first|exact ⟨rfl,_,wD _ _ _⟩|exact ⟨rfl,_,Eq.trans (wD _ _ _) (congrArg (World.drewN _) (Nat.add_assoc _ _ _))⟩)))
    first
     |
      (repeat (go_quiet (first|(go_at_call 130;(with_reducible refine (Fa6.calls _ _ _ _ _ A8.out).mono ?_);rintro e w' ⟨rfl,⟨nd,rfl⟩⟩;(try first|exact ⟨rfl,_,wD _ _ _⟩|exact ⟨rfl,_,Eq.trans (wD _ _ _) (congrArg (World.drewN _) (Nat.add_assoc _ _ _))⟩)));try go_wp2_with (first|(go_at_call 130;(with_reducible refine (Fa6.calls _ _ _ _ _ A8.out).mono ?_);rintro e w' ⟨rfl,⟨nd,rfl⟩⟩;(try first|exact ⟨rfl,_,wD _ _ _⟩|exact ⟨rfl,_,Eq.trans (wD _ _ _) (congrArg (World.drewN _) (Nat.add_assoc _ _ _))⟩)))));go_meet
      case rel => exact ⟨_,(true),vR_,H',⟨by first|omega|exact Nat.le_refl _⟩,⟨wC_ aa.out⟩,⟨wB_⟩⟩
     |
      (repeat (go_quiet (first|(go_at_call 130;(with_reducible refine (Fa6.calls _ _ _ _ _ A8.out).mono ?_);rintro e w' ⟨rfl,⟨nd,rfl⟩⟩;(try first|exact ⟨rfl,_,wD _ _ _⟩|exact ⟨rfl,_,Eq.trans (wD _ _ _) (congrArg (World.drewN _) (Nat.add_assoc _ _ _))⟩))|(go_at_call 130;(with_reducible refine (Fa6.calls _ _ _ _ _ a4.out).mono ?_);rintro e w' ⟨rfl,⟨nd,rfl⟩⟩;(try first|exact ⟨rfl,_,wD _ _ _⟩|exact ⟨rfl,_,Eq.trans (wD _ _ _) (congrArg (World.drewN _) (Nat.add_assoc _ _ _))⟩)));try go_wp2_with (first|(go_at_call 130;(with_reducible refine (Fa6.calls _ _ _ _ _ A8.out).mono ?_);rintro e w' ⟨rfl,⟨nd,rfl⟩⟩;(try first|exact ⟨rfl,_,wD _ _ _⟩|exact ⟨rfl,_,Eq.trans (wD _ _ _) (congrArg (World.drewN _) (Nat.add_assoc _ _ _))⟩))|(go_at_call 130;(with_reducible refine (Fa6.calls _ _ _ _ _ a4.out).mono ?_);rintro e w' ⟨rfl,⟨nd,rfl⟩⟩;(try first|exact ⟨rfl,_,wD _ _ _⟩|exact ⟨rfl,_,Eq.trans (wD _ _ _) (congrArg (World.drewN _) (Nat.add_assoc _ _ _))⟩)))));go_meet
      case rel => first|(exact ⟨_,((ab != 0)),vR_,H',⟨by first|omega|exact Nat.le_refl _⟩,⟨wC_ aa.out⟩,⟨wB_⟩⟩)|(exact ⟨_,(false),vR_,H',⟨by first|omega|exact Nat.le_refl _⟩,⟨wC_ aa.out⟩,⟨wB_⟩⟩)|(exact ⟨_,(true),vR_,H',⟨by first|omega|exact Nat.le_refl _⟩,⟨wC_ aa.out⟩,⟨wB_⟩⟩)
  case rest =>
   clear a3;obtain ⟨kq,ai,rfl,HA,HJ4,aa,HB⟩ := hcut
   cases kq with
   | zero => exact absurd HA.out (by simp [FaA.j0])
   | succ kj4 =>
    have H := HA.out;clear HA;simp only [FaA.j0] at H
    by_cases aZ : ai = true
    focus
     subst aZ;rw [if_pos rfl] at H;obtain rfl := oI H
    rotate_left
    focus
     replace aZ := qO.mpr aZ;subst aZ;rw [if_neg qT] at H
     by_cases aU : ab = 0
     focus
      rw [if_pos aU] at H;have aV := qE.mpr aU;have aW := qN.mpr aU;clear aU;obtain rfl := oI H
     rotate_left
     focus
      rw [if_neg aU] at H;have aV := qF.mpr aU;have aW := qB.mpr aU;obtain ⟨t517,a5,H⟩ := bE_ H;obtain ⟨t518,a6,H⟩ := bE_ H;obtain rfl := oI H
    all_goals
     (try obtain ⟨aj,ak,al,am,an,ao,ap,ar⟩ := z4_ aa.out);go_wp2_with (first|(go_at_call 168;(with_reducible refine (FbX.calls _ _ _ _ a5.out).mono ?_);rintro e w' ⟨rfl,⟨nd,rfl⟩⟩;(try first|exact ⟨rfl,_,wD _ _ _⟩|exact ⟨rfl,_,Eq.trans (wD _ _ _) (congrArg (World.drewN _) (Nat.add_assoc _ _ _))⟩))|(go_at_call 130;(with_reducible refine (Fa6.calls _ _ _ _ _ a6.out).mono ?_);rintro e w' ⟨rfl,⟨nd,rfl⟩⟩;(try first|exact ⟨rfl,_,wD _ _ _⟩|exact ⟨rfl,_,Eq.trans (wD _ _ _) (congrArg (World.drewN _) (Nat.add_assoc _ _ _))⟩)))
     first
      |
       (repeat (go_quiet (fail);try go_wp2));go_ret;exact ⟨vR_,wB_⟩
      |
       (repeat (go_quiet (first|(go_at_call 168;(with_reducible refine (FbX.calls _ _ _ _ a5.out).mono ?_);rintro e w' ⟨rfl,⟨nd,rfl⟩⟩;(try first|exact ⟨rfl,_,wD _ _ _⟩|exact ⟨rfl,_,Eq.trans (wD _ _ _) (congrArg (World.drewN _) (Nat.add_assoc _ _ _))⟩))|(go_at_call 130;(with_reducible refine (Fa6.calls _ _ _ _ _ a6.out).mono ?_);rintro e w' ⟨rfl,⟨nd,rfl⟩⟩;(try first|exact ⟨rfl,_,wD _ _ _⟩|exact ⟨rfl,_,Eq.trans (wD _ _ _) (congrArg (World.drewN _) (Nat.add_assoc _ _ _))⟩)));try go_wp2_with (first|(go_at_call 168;(with_reducible refine (FbX.calls _ _ _ _ a5.out).mono ?_);rintro e w' ⟨rfl,⟨nd,rfl⟩⟩;(try first|exact ⟨rfl,_,wD _ _ _⟩|exact ⟨rfl,_,Eq.trans (wD _ _ _) (congrArg (World.drewN _) (Nat.add_assoc _ _ _))⟩))|(go_at_call 130;(with_reducible refine (Fa6.calls _ _ _ _ _ a6.out).mono ?_);rintro e w' ⟨rfl,⟨nd,rfl⟩⟩;(try first|exact ⟨rfl,_,wD _ _ _⟩|exact ⟨rfl,_,Eq.trans (wD _ _ _) (congrArg (World.drewN _) (Nat.add_assoc _ _ _))⟩)))));go_ret;exact ⟨vR_,wB_⟩
def Fch.f (a0 a1 : ByteArray) : Option ByteArray := if a0.size ≤ 9223372036854775807 ∧ a1 = ⟨#[32]⟩ then some ⟨(Lib.trimB a0.data.toList 32).toArray⟩ else none
theorem Fch.calls (a0 a1 : ByteArray) (r : ByteArray) (w : World) (h : Fch.f a0 a1 = some r) :
  Calls Tryz.prog 218 #[.string a0,.string a1] w fun e w' => e = .returned (.string r) ∧ Drawn0 w w' := by
 unfold Fch.f at h;split at h
 ·rename_i hs;obtain rfl := oI h;obtain ⟨h1,rfl⟩ := hs;refine (Tryz.strings_Trim_one a0 32 (by decide) w h1).mono ?_;rintro e w' ⟨rfl,rfl|rfl⟩
  ·exact ⟨rfl,Drawn0.refl _⟩
  ·exact ⟨rfl,⟨⟨1,rfl⟩⟩⟩
 ·cases h
def FaT.l0 : Nat → ByteArray → Int → Option (Bool)
 | 0,_,_ => none
 | k + 1,x0,x3 => if x3 < (x0.size : Int) then (if 0 ≤ x3 then (if (bt x0 x3) < 32 then (some false) else (if (bt x0 x3) > 126 then (some false) else (FaT.l0 k x0 (wrap64 (x3 + 1))))) else (none)) else ((Fch.f x0 (⟨#[32]⟩ : ByteArray)).bind fun aa => (some (aa.toList == x0.toList)))
def FaT.f (k : Nat) (a0 : ByteArray) : Option (Bool) := FaT.l0 k a0 0
theorem FaT.mono_l : ∀ k,(∀ y0 y1,LeO (FaT.l0 k y0 y1) (FaT.l0 (k + 1) y0 y1))
 | 0 => fun _ _ r h => by simp [FaT.l0] at h
 | k + 1 => by
  have ih0 := FaT.mono_l k
  ·intro y0 y1
   unfold FaT.l0
   repeat' (first|with_reducible (first|exact ih0 _ _|exact LeO.refl _|exact LeO.none _|refine LeO.ite ?_ ?_|refine LeO.bind ?_ (fun _ => ?_))|exact LeO.none _|refine LeO.ite ?_ ?_|refine LeO.bind ?_ (fun _ => ?_))
theorem FaT.mono : ∀ a0 k,LeO (FaT.f k a0) (FaT.f (k + 1) a0) := by
 intro a0 k
 have ih0 := FaT.mono_l k
 unfold FaT.f
 repeat' (first|with_reducible (first|exact ih0 _ _|exact LeO.refl _|exact LeO.none _|refine LeO.ite ?_ ?_|refine LeO.bind ?_ (fun _ => ?_))|exact LeO.none _|refine LeO.ite ?_ ?_|refine LeO.bind ?_ (fun _ => ?_))
theorem FaT.calls (k : Nat) (a0 : ByteArray) (r : Bool) (w : World) (h : FaT.f k a0 = some r) :
  Calls Tryz.prog 169 #[.string a0] w fun e w' => e = .returned (.bool r) ∧ Drawn0 w w' := by
 have H : (FaT.l0 k a0 0) = some r := h;clear h;have H' := aM H;clear H;go_enter Tryz.func169,Tryz.ntmps169;go_wp2;go_loopg [3] k (fun kq v3 w' => ∃ (aa : Int),v3 = .int .i64 aa ∧ Aside0 (FaT.l0 kq a0 aa = some r) ∧ Aside0 (kq ≤ k) ∧ Drawn0 w w')
 case atStart => exact ⟨(0),vR_,H',⟨Nat.le_refl _⟩,dw_⟩
 case round =>
  clear H';obtain ⟨aa,rfl,HA,ae,⟨m1,rfl⟩⟩ := hrel
  cases gk with
  | zero => exact absurd HA.out (by simp [FaT.l0])
  | succ k1 =>
   have H := HA.out;clear HA;simp only [FaT.l0] at H
   by_cases c2 : aa < (a0.size : Int)
   focus
    rw [if_pos c2] at H;have ab := dT c2;clear c2
    by_cases c3 : 0 ≤ aa
    rotate_left;rw [if_neg c3] at H;exact nH_ H;rw [if_pos c3] at H;have c3b0 := dT c3;clear c3
    by_cases c5 : (bt a0 aa) < 32
    focus
     rw [if_pos c5] at H;have ac := dT c5;clear c5;obtain rfl := oI H
    rotate_left
    focus
     rw [if_neg c5] at H;have ac := dF c5;clear c5
     by_cases c7 : (bt a0 aa) > 126
     focus
      rw [if_pos c7] at H;have ad : decide (126 < (bt a0 aa)) = true := dT c7;clear c7;obtain rfl := oI H
     rotate_left
     focus
      rw [if_neg c7] at H;have ad : decide (126 < (bt a0 aa)) = false := dF c7;clear c7;have H' := aM H;clear H
   rotate_left 3
   focus
    rw [if_neg c2] at H;have ab := dF c2;clear c2;obtain ⟨t519,A8,H⟩ := bE_ H;obtain rfl := oI H
   all_goals
    (try (have af : 0 ≤ (aa : Int) := oD (by assumption);have ag : aa < (a0.size : Int) := oD (by assumption);have hx01 := bt_at a0 aa;replace af := eq_true af;replace ag := eq_true ag));go_wp2_with (first|((with_reducible refine gate_callee (f := 218) rfl ?_);refine gl_ (some 21) Tryz.func218 #[.string a0,.string (⟨#[32]⟩ : ByteArray)] ?_;(with_reducible refine (Fch.calls _ _ _ _ A8.out).mono ?_);rintro e w' ⟨rfl,⟨nd,rfl⟩⟩;refine ⟨_,rfl,?_⟩))
    first
     |
      go_ret;exact ⟨vR_,dw_⟩
     |
      go_roundg k1
      case measure => have := ae.out;omega
      case rel => exact ⟨(wrap64 (aa + 1)),vR_,H',⟨by have := ae.out;omega⟩,dw_⟩
def Fby.f (k : Nat) (a0 : ByteArray) : Option (Bool) := if (a0.size : Int) ≤ 40 then ((FaT.f k a0).bind fun aa => (some aa)) else (some false)
theorem Fby.mono : ∀ a0 k,LeO (Fby.f k a0) (Fby.f (k + 1) a0) := by
 intro a0 k
 unfold Fby.f
 repeat' (first|with_reducible (first|exact FaT.mono _ _|exact LeO.refl _|exact LeO.none _|refine LeO.ite ?_ ?_|refine LeO.bind ?_ (fun _ => ?_))|exact LeO.none _|refine LeO.ite ?_ ?_|refine LeO.bind ?_ (fun _ => ?_))
theorem Fby.calls (k : Nat) (a0 : ByteArray) (r : Bool) (w : World) (h : Fby.f k a0 = some r) :
  Calls Tryz.prog 131 #[.string a0] w fun e w' => e = .returned (.bool r) ∧ Drawn0 w w' := by
 have H : (if (a0.size : Int) ≤ 40 then ((FaT.f k a0).bind fun aa => (some aa)) else (some false)) = some r := h;clear h
 by_cases c2 : (a0.size : Int) ≤ 40
 focus
  rw [if_pos c2] at H;have ab := dT c2;have ac : decide (a0.size ≤ 40) = true := dT (by omega);clear c2;obtain ⟨aa,A3,H⟩ := bE_ H;obtain rfl := oI H
 rotate_left
 focus
  rw [if_neg c2] at H;have ab := dF c2;have ac : decide (a0.size ≤ 40) = false := dF (by omega);clear c2;obtain rfl := oI H
 all_goals
  go_enter Tryz.func131,Tryz.ntmps131;go_wp2_with (first|(go_at_call 169;(with_reducible refine (FaT.calls _ _ _ _ A3.out).mono ?_);rintro e w' ⟨rfl,⟨nd,rfl⟩⟩));go_ret;exact ⟨vR_,dw_⟩
def Far.j0 : Nat → Bool → ByteArray → Int → List (S157) → List (S157) → ByteArray → ByteArray → ByteArray → Int → Int → Int → Bool → Int → ByteArray → ByteArray → Option (Bool)
 | 0,_,_,_,_,_,_,_,_,_,_,_,_,_,_,_ => none
 | k + 1,al,ab,x522001,x522002,x522003,ac,ad,ae,x522007,x522008,x522009,x522010,x522011,af,aa => if al = true then (some false) else ((Fby.f k ac).bind fun ag => (if ag = true then ((Fby.f k ad).bind fun ah => (if ah = true then ((Fby.f k ae).bind fun ai => (if ai = true then ((Fby.f k af).bind fun aj => (if aj = true then (if aa.toList = ([] : List UInt8) then (some true) else ((FaK.f k aa).bind fun ak => (if ak = true then (some (aa.toList != ab.toList)) else (some false)))) else (some false))) else (some false))) else (some false))) else (some false)))
def Far.f (k : Nat) (ae : ByteArray) (af : Int) (ag : List (S157)) (ah : List (S157)) (al : ByteArray) (am : ByteArray) (an : ByteArray) (ai : Int) (aj : Int) (ak : Int) (aa : Bool) (ab : Int) (ac : ByteArray) (ad : ByteArray) : Option (Bool) := (FaK.f k ae).bind fun ao => (if ao = true then ((Fcf.f af).bind fun ap => (if ap = true then ((Fbw.f k ag).bind fun ar => (if ar = true then ((Fbw.f k ah).bind fun au => (if au = true then ((FaA.f k ai aj ak aa).bind fun av => (if av = true then ((Fa6.f ab 0 9999).bind fun aw => (Far.j0 k (!aw) ae af ag ah al am an ai aj ak aa ab ac ad)) else (Far.j0 k true ae af ag ah al am an ai aj ak aa ab ac ad))) else (Far.j0 k true ae af ag ah al am an ai aj ak aa ab ac ad))) else (Far.j0 k true ae af ag ah al am an ai aj ak aa ab ac ad))) else (Far.j0 k true ae af ag ah al am an ai aj ak aa ab ac ad))) else (Far.j0 k true ae af ag ah al am an ai aj ak aa ab ac ad))
theorem Far.mono_l : ∀ k,(∀ y0 y1 y2 y3 y4 y5 y6 y7 y8 y9 aa ab ac ad ae,LeO (Far.j0 k y0 y1 y2 y3 y4 y5 y6 y7 y8 y9 aa ab ac ad ae) (Far.j0 (k + 1) y0 y1 y2 y3 y4 y5 y6 y7 y8 y9 aa ab ac ad ae))
 | 0 => fun _ _ _ _ _ _ _ _ _ _ _ _ _ _ _ r h => by simp [Far.j0] at h
 | k + 1 => by
  have ih0 := Far.mono_l k
  ·intro y0 y1 y2 y3 y4 y5 y6 y7 y8 y9 aa ab ac ad ae
   unfold Far.j0
   repeat' (first|with_reducible (first|exact ih0 _ _ _ _ _ _ _ _ _ _ _ _ _ _ _|exact FaA.mono _ _ _ _ _|exact Fbw.mono _ _|exact FaK.mono _ _|exact Fby.mono _ _|exact LeO.refl _|exact LeO.none _|refine LeO.ite ?_ ?_|refine LeO.bind ?_ (fun _ => ?_))|exact LeO.none _|refine LeO.ite ?_ ?_|refine LeO.bind ?_ (fun _ => ?_))
theorem Far.mono : ∀ a0 a1 a2 a3 a4 a5 a6 a7 a8 a9 aa ab ac ad k,LeO (Far.f k a0 a1 a2 a3 a4 a5 a6 a7 a8 a9 aa ab ac ad) (Far.f (k + 1) a0 a1 a2 a3 a4 a5 a6 a7 a8 a9 aa ab ac ad) := by
 intro a0 a1 a2 a3 a4 a5 a6 a7 a8 a9 aa ab ac ad k
 have ih0 := Far.mono_l k
 unfold Far.f
 repeat' (first|with_reducible (first|exact ih0 _ _ _ _ _ _ _ _ _ _ _ _ _ _ _|exact FaA.mono _ _ _ _ _|exact Fbw.mono _ _|exact FaK.mono _ _|exact Fby.mono _ _|exact LeO.refl _|exact LeO.none _|refine LeO.ite ?_ ?_|refine LeO.bind ?_ (fun _ => ?_))|exact LeO.none _|refine LeO.ite ?_ ?_|refine LeO.bind ?_ (fun _ => ?_))
theorem Far.calls (k : Nat) (ah : ByteArray) (ai : Int) (aZ : Option Addr) (a0 : Nat) (af : List (S157)) (a1 : Option Addr) (a2 : Nat) (ag : List (S157)) (aj : ByteArray) (an : ByteArray) (ao : ByteArray) (ak : Int) (al : Int) (am : Int) (ab : Bool) (ac : Int) (ae : ByteArray) (ad : ByteArray) (r : Bool) (w : World) (a3 : Kd.C k157 w aZ af.length af) (a4 : af.length ≤ a0) (a5 : Kd.C k157 w a1 ag.length ag) (a6 : ag.length ≤ a2) (hG : Gm w) (h : Far.f k ah ai af ag aj an ao ak al am ab ac ae ad = some r) :
  Calls Tryz.prog 65 #[.agg #[.string ah,.int .i64 ai,.slice aZ af.length a0,.slice a1 ag.length a2,.string aj,.string an,.string ao,.int .i64 ak,.int .i64 al,.int .i64 am,.bool ab,.int .i64 ac,.string ae,.string ad]] w fun e w' => e = .returned (.bool r) ∧ Below w.heap.size w w' := by
 have hu41 := Tryz.underlying41;have hu39 := Tryz.underlying39;have bf := aM a3;have bg := aM a4;clear a3 a4;have bh := aM a5;have bi := aM a6;clear a5 a6;have HB := aM (Below.refl w.heap.size w);have HG := aM hG;clear hG;have H : ((FaK.f k ah).bind fun a8 => (if a8 = true then ((Fcf.f ai).bind fun a9 => (if a9 = true then ((Fbw.f k af).bind fun ba => (if ba = true then ((Fbw.f k ag).bind fun bb => (if bb = true then ((FaA.f k ak al am ab).bind fun bc => (if bc = true then ((Fa6.f ac 0 9999).bind fun bd => (Far.j0 k (!bd) ah ai af ag aj an ao ak al am ab ac ae ad)) else (Far.j0 k true ah ai af ag aj an ao ak al am ab ac ae ad))) else (Far.j0 k true ah ai af ag aj an ao ak al am ab ac ae ad))) else (Far.j0 k true ah ai af ag aj an ao ak al am ab ac ae ad))) else (Far.j0 k true ah ai af ag aj an ao ak al am ab ac ae ad))) else (Far.j0 k true ah ai af ag aj an ao ak al am ab ac ae ad))) = some r := h;clear h;have bv := aM H;clear H;go_enter Tryz.func65,Tryz.ntmps65;go_upto_region 1 with (first|((with_reducible refine gate_dst (N := 1) rfl ?_);refine bx_ (N := 1) (cs := #[.string ah,.int .i64 ai,.slice aZ af.length a0,.slice a1 ag.length a2,.string aj,.string an,.string ao,.int .i64 ak,.int .i64 al,.int .i64 am,.bool ab,.int .i64 ac,.string ae,.string ad]) (t := 41) ?_;intro a7 hg w3 hbox hb;have aa := aM (hbox);have bj := aM ((by rw [hg];exact (lZ wB_) : w.heap.size ≤ a7));have GE521 := bj;replace HB := aM (lT wB_ hb);clear hb hbox hg));(try simp only [Act.put,lI,sZ,sS]);go_cut [36] (fun bH wc => ∃ (kq : Nat) (aA : Bool),bH = .bool aA ∧ Aside0 (Far.j0 kq aA ah ai af ag aj an ao ak al am ab ac ae ad = some r) ∧ Aside0 (kq ≤ k) ∧ Aside0 (wc.heap[a7]? = some (.cells #[.string ah,.int .i64 ai,(.slice aZ af.length a0),(.slice a1 ag.length a2),.string aj,.string an,.string ao,.int .i64 ak,.int .i64 al,.int .i64 am,.bool ab,.int .i64 ac,.string ae,.string ad] 41 (0,0))) ∧ Aside0 (Below w.heap.size w wc))
 case first =>
  have H := bv.out;clear bv;obtain ⟨a8,A4,H⟩ := bE_ H
  by_cases c5 : a8 = true
  focus
   subst c5;rw [if_pos rfl] at H;obtain ⟨a9,A6,H⟩ := bE_ H
   by_cases c7 : a9 = true
   focus
    subst c7;rw [if_pos rfl] at H;obtain ⟨ba,A8,H⟩ := bE_ H
    by_cases c9 : ba = true
    focus
     subst c9;rw [if_pos rfl] at H;obtain ⟨bb,bI,H⟩ := bE_ H
     by_cases bm : bb = true
     focus
      subst bm;rw [if_pos rfl] at H;obtain ⟨bc,bJ,H⟩ := bE_ H
      by_cases bn : bc = true
      focus
       subst bn;rw [if_pos rfl] at H;obtain ⟨bd,bK,H⟩ := bE_ H;have H' := aM H;clear H
      rotate_left
      focus
       replace bn := qO.mpr bn;subst bn;rw [if_neg qT] at H;have H' := aM H;clear H
     rotate_left 2
     focus
      replace bm := qO.mpr bm;subst bm;rw [if_neg qT] at H;have H' := aM H;clear H
    rotate_left 3
    focus
     replace c9 := qO.mpr c9;subst c9;rw [if_neg qT] at H;have H' := aM H;clear H
   rotate_left 4
   focus
    replace c7 := qO.mpr c7;subst c7;rw [if_neg qT] at H;have H' := aM H;clear H
  rotate_left 5
  focus
   replace c5 := qO.mpr c5;subst c5;rw [if_neg qT] at H;have H' := aM H;clear H
  all_goals
   obtain ⟨aC,aD,aE,aF,aG,aH,aJ,aK,aL,aN,ap,ar,au,av,aO,aP,aQ,aR,aT,aU,aV,aW,aX,aY,aw,ax,ay,az⟩ := z14_ aa.out;go_wp2_with (first|((with_reducible refine gate_callee (f := 126) rfl ?_);refine gl_ (some 5) Tryz.func126 #[.string ah] ?_;(with_reducible refine (FaK.calls _ _ _ _ A4.out).mono ?_);rintro e w' ⟨rfl,⟨nd,rfl⟩⟩;refine ⟨_,rfl,?_⟩)|(go_at_call 127;(with_reducible refine (Fcf.calls _ _ _ A6.out).mono ?_);rintro e w' ⟨rfl,⟨nd,rfl⟩⟩)|(go_at_call 128;(with_reducible refine (Fbw.calls _ _ _ _ _ _ ?side1 ?side2 ?side3 A8.out).mono ?_);(case side1 => repeat (first|exact (cB bf.out wB_)|(with_reducible first|refine cA ?_ _|refine cN ?_ _|refine cD ?_)));(case side2 => exact bg.out);(case side3 => exact Gm.below HG.out wB_);rintro e WA8 ⟨rfl,hb⟩;replace aa := aM (bw_ aa.out hb);replace HB := aM (lT wB_ hb);obtain ⟨_,_,_,_,_,_,_,_,_,_,_,_,_,_,_,_,_,_,_,_,_,_,_,_,_,_,_,_⟩ := z14_ aa.out)|(go_at_call 128;(with_reducible refine (Fbw.calls _ _ _ _ _ _ ?side1 ?side2 ?side3 bI.out).mono ?_);(case side1 => exact wX_ bh.out);(case side2 => exact bi.out);(case side3 => exact Gm.below HG.out wB_);rintro e WA10 ⟨rfl,hb⟩;replace aa := aM (bw_ aa.out hb);replace HB := aM (lT wB_ hb);obtain ⟨_,_,_,_,_,_,_,_,_,_,_,_,_,_,_,_,_,_,_,_,_,_,_,_,_,_,_,_⟩ := z14_ aa.out)|(go_at_call 129;(with_reducible refine (FaA.calls _ _ _ _ _ _ _ bJ.out).mono ?_);rintro e WA12 ⟨rfl,hb⟩;replace aa := aM (bw_ aa.out hb);replace HB := aM (lT wB_ hb);obtain ⟨_,_,_,_,_,_,_,_,_,_,_,_,_,_,_,_,_,_,_,_,_,_,_,_,_,_,_,_⟩ := z14_ aa.out)|(go_at_call 130;(with_reducible refine (Fa6.calls _ _ _ _ _ bK.out).mono ?_);rintro e w' ⟨rfl,⟨nd,rfl⟩⟩));go_meet
   case rel => first|(exact ⟨_,(!bd),vR_,H',⟨by first|omega|exact Nat.le_refl _⟩,⟨wC_ aa.out⟩,⟨wB_⟩⟩)|(exact ⟨_,(true),vR_,H',⟨by first|omega|exact Nat.le_refl _⟩,⟨wC_ aa.out⟩,⟨wB_⟩⟩)
 case rest =>
  clear bv;obtain ⟨kq,aA,rfl,HA,HJ1,aa,HB⟩ := hcut
  cases kq with
  | zero => exact absurd HA.out (by simp [Far.j0])
  | succ kj1 =>
   have H := HA.out;clear HA;simp only [Far.j0] at H
   by_cases bo : aA = true
   focus
    subst bo;rw [if_pos rfl] at H;obtain rfl := oI H
   rotate_left
   focus
    replace bo := qO.mpr bo;subst bo;rw [if_neg qT] at H;obtain ⟨bw,bL,H⟩ := bE_ H
    by_cases bp : bw = true
    focus
     subst bp;rw [if_pos rfl] at H;obtain ⟨bz,bM,H⟩ := bE_ H
     by_cases bq : bz = true
     focus
      subst bq;rw [if_pos rfl] at H;obtain ⟨bB,bO,H⟩ := bE_ H
      by_cases br : bB = true
      focus
       subst br;rw [if_pos rfl] at H;obtain ⟨bE,bP,H⟩ := bE_ H
       by_cases bs : bE = true
       focus
        subst bs;rw [if_pos rfl] at H
        by_cases be : ad.toList = ([] : List UInt8)
        focus
         rw [if_pos be] at H;have bk := qE.mpr be;have bl := qN.mpr be;clear be;obtain rfl := oI H
        rotate_left
        focus
         rw [if_neg be] at H;have bk := qF.mpr be;have bl := qB.mpr be;obtain ⟨bG,bQ,H⟩ := bE_ H
         by_cases bu : bG = true
         focus
          subst bu;rw [if_pos rfl] at H;obtain rfl := oI H
         rotate_left
         focus
          replace bu := qO.mpr bu;subst bu;rw [if_neg qT] at H;obtain rfl := oI H
       rotate_left 3
       focus
        replace bs := qO.mpr bs;subst bs;rw [if_neg qT] at H;obtain rfl := oI H
      rotate_left 4
      focus
       replace br := qO.mpr br;subst br;rw [if_neg qT] at H;obtain rfl := oI H
     rotate_left 5
     focus
      replace bq := qO.mpr bq;subst bq;rw [if_neg qT] at H;obtain rfl := oI H
    rotate_left 6
    focus
     replace bp := qO.mpr bp;subst bp;rw [if_neg qT] at H;obtain rfl := oI H
   all_goals
    (try obtain ⟨aC,aD,aE,aF,aG,aH,aJ,aK,aL,aN,ap,ar,au,av,aO,aP,aQ,aR,aT,aU,aV,aW,aX,aY,aw,ax,ay,az⟩ := z14_ aa.out);go_wp2_with (first|((with_reducible refine gate_callee (f := 131) rfl ?_);refine gl_ (some 39) Tryz.func131 #[.string aj] ?_;(with_reducible refine (Fby.calls _ _ _ _ bL.out).mono ?_);rintro e w' ⟨rfl,⟨nd,rfl⟩⟩;refine ⟨_,rfl,?_⟩)|(go_at_call 131;(with_reducible refine (Fby.calls _ _ _ _ bM.out).mono ?_);rintro e w' ⟨rfl,⟨nd,rfl⟩⟩)|(go_at_call 131;(with_reducible refine (Fby.calls _ _ _ _ bO.out).mono ?_);rintro e w' ⟨rfl,⟨nd,rfl⟩⟩)|(go_at_call 131;(with_reducible refine (Fby.calls _ _ _ _ bP.out).mono ?_);rintro e w' ⟨rfl,⟨nd,rfl⟩⟩)|(go_at_call 126;(with_reducible refine (FaK.calls _ _ _ _ bQ.out).mono ?_);rintro e w' ⟨rfl,⟨nd,rfl⟩⟩));go_ret;exact ⟨vR_,wB_⟩
end Go.Proofs.YtmafmhgmdegplaaGreatDoor.P
