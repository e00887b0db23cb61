/- Walks: each Go function computes the Lean function beside it; conditions: those of each theorem. -/
import Derived.Test.YtmafmhgmdegplaaGreatDoorZPx0
import Derived.Test.YtmafmhgmdegplaaGreatDoorZPx6
import Derived.Test.YtmafmhgmdegplaaGreatDoorZPx1
namespace Go.Proofs.YtmafmhgmdegplaaGreatDoor.P
open Go.RowKit Go.Proofs.YtmafmhgmdegplaaGreatDoorW.PrintWords Go.Proofs.YtmafmhgmdegplaaGreatDoorW.PrintLast Go.Proofs.YtmafmhgmdegplaaGreatDoorW.PrintMore
attribute [local go_sem] max2_int min2_int max_two min_two max_three min_three max_four min_four   -- for this text's walks alone
set_option linter.unusedVariables false
set_option linter.unusedSimpArgs false
set_option maxHeartbeats 8000000
set_option maxRecDepth 100000
mutual
def Faq.l0 : Nat → List ByteArray → Int → Option (Bool)
 | 0,_,_ => none
 | k + 1,x3,x4 => if x4 < (x3.length : Int) then (if 0 ≤ x4 then ((Fat.f k (rdOf ByteArray.empty x3 x4)).bind fun aa => (if aa = true then (Faq.l1 k x3 x4 0) else (some false))) else (none)) else (some (decide ((x3.length : Int) ≤ 2)))
def Faq.l1 : Nat → List ByteArray → Int → Int → Option (Bool)
 | 0,_,_,_ => none
 | k + 1,x3,x4,x5 => if 0 ≤ x4 then (if x4 < (x3.length : Int) then (if x5 < ((rdOf ByteArray.empty x3 x4).size : Int) then (if 0 ≤ x5 then ((Fbz.f (bt (rdOf ByteArray.empty x3 x4) x5)).bind fun aa => (if aa = true then (Faq.l1 k x3 x4 (wrap64 (x5 + 1))) else (some false))) else (none)) else (Faq.l0 k x3 (wrap64 (x4 + 1)))) else (none)) else (none)
end
def Faq.f (k : Nat) (a0 : ByteArray) : Option (Bool) := if a0.toList = ([] : List UInt8) then (some true) else ((Fa0.f k a0 32).bind fun aa => (Faq.l0 k aa 0))
theorem Faq.mono_l : ∀ k,(∀ y0 y1,LeO (Faq.l0 k y0 y1) (Faq.l0 (k + 1) y0 y1)) ∧ (∀ y0 y1 y2,LeO (Faq.l1 k y0 y1 y2) (Faq.l1 (k + 1) y0 y1 y2))
 | 0 => ⟨fun _ _ r h => by simp [Faq.l0] at h,fun _ _ _ r h => by simp [Faq.l1] at h⟩
 | k + 1 => by
  obtain ⟨ih0,ih1⟩ := Faq.mono_l k
  refine ⟨?_,?_⟩
  all_goals (intros;first|unfold Faq.l0|unfold Faq.l1)
  all_goals repeat' (first|with_reducible (first|exact ih0 _ _|exact ih1 _ _ _|exact Fa0.mono _ _ _|exact Fat.mono _ _|exact LeO.refl _|exact LeO.none _|refine LeO.ite ?_ ?_|refine LeO.bind ?_ (fun _ => ?_))|exact LeO.none _|refine LeO.ite ?_ ?_|refine LeO.bind ?_ (fun _ => ?_))
theorem Faq.mono : ∀ a0 k,LeO (Faq.f k a0) (Faq.f (k + 1) a0) := by
 intro a0 k
 obtain ⟨ih0,ih1⟩ := Faq.mono_l k
 unfold Faq.f
 repeat' (first|with_reducible (first|exact ih0 _ _|exact ih1 _ _ _|exact Fa0.mono _ _ _|exact Fat.mono _ _|exact LeO.refl _|exact LeO.none _|refine LeO.ite ?_ ?_|refine LeO.bind ?_ (fun _ => ?_))|exact LeO.none _|refine LeO.ite ?_ ?_|refine LeO.bind ?_ (fun _ => ?_))
theorem Faq.calls (k : Nat) (a0 : ByteArray) (r : Bool) (w : World) (h : Faq.f k a0 = some r) :
  Calls Tryz.prog 212 #[.string a0] w fun e w' => e = .returned (.bool r) ∧ Below w.heap.size w w' := by
 have HB := aM (Below.refl w.heap.size w);have H : (if a0.toList = ([] : List UInt8) then (some true) else ((Fa0.f k a0 32).bind fun ab => (Faq.l0 k ab 0))) = some r := h;clear h
 by_cases c2 : a0.toList = ([] : List UInt8)
 ·rw [if_pos c2] at H;have an := qE.mpr c2;have ao := qN.mpr c2;clear c2;obtain rfl := oI H;go_enter Tryz.func212,Tryz.ntmps212;go_wp2;go_ret;exact ⟨vR_,wB_⟩
 ·rw [if_neg c2] at H;have an := qF.mpr c2;have ao := qB.mpr c2;obtain ⟨ab,A3,H⟩ := bE_ H;have H' := aM H;clear H;go_enter Tryz.func212,Tryz.ntmps212;go_wp2_with (first|((with_reducible refine gate_callee (f := 244) rfl ?_);refine gl_ (some 9) Tryz.func244 #[.string a0,.int .u8 32] ?_;(with_reducible refine (Fa0.calls k a0 32 ab _ A3.out).mono ?_);rintro e w4 ⟨ap,rfl,ay,hb⟩;refine ⟨_,rfl,?_⟩;have ah := aM (Kd.R_lower ay (lZ wB_));replace HB := aM (lT wB_ hb)));go_loopg [4] k (fun kq v4 w' => ∃ (aa : Int),v4 = .int .i64 aa ∧ Aside0 (Faq.l0 kq ab aa = some r) ∧ Aside0 (kq ≤ k) ∧ Aside0 (Kd.R Kd.string 9 w' w.heap.size (fun _ => True) ap ab) ∧ Aside0 (Below w.heap.size w w'))
  case atStart => exact ⟨(0),vR_,H',⟨Nat.le_refl _⟩,⟨wO_ ah.out⟩,⟨wB_⟩⟩
  case round =>
   clear H';obtain ⟨aa,rfl,HA,ar,ad,HB⟩ := hrel
   cases gk with
   | zero => exact absurd HA.out (by simp [Faq.l0])
   | succ k1 =>
    have H := HA.out;clear HA;simp only [Faq.l0] at H
    by_cases c5 : aa < (ab.length : Int)
    focus
     rw [if_pos c5] at H;have au := dT c5;clear c5
     by_cases c6 : 0 ≤ aa
     rotate_left;rw [if_neg c6] at H;exact nH_ H;rw [if_pos c6] at H;have c6b0 := dT c6;clear c6;obtain ⟨av,A7,H⟩ := bE_ H
     by_cases c8 : av = true
     focus
      subst c8;rw [if_pos rfl] at H;have H' := aM H;clear H;obtain ⟨ai,af,ae⟩ := Kd.R_slice ad.out;subst ae
     rotate_left
     focus
      replace c8 := qO.mpr c8;subst c8;rw [if_neg qT] at H;obtain rfl := oI H;obtain ⟨ai,af,ae⟩ := Kd.R_slice ad.out;subst ae
    rotate_left 2
    focus
     rw [if_neg c5] at H;have au := dF c5;clear c5;obtain rfl := oI H;obtain ⟨ai,af,ae⟩ := Kd.R_slice ad.out;subst ae
    all_goals
     (try (have p03 : 0 ≤ (aa : Int) := oD (by assumption);have q03 : aa < (ab.length : Int) := oD (by assumption);obtain ⟨aj,az,hx03_0⟩ := Kd.at_string (rR ad.out).2.2 aa p03 q03;cases az;replace p03 := eq_true p03;replace q03 := eq_true q03));go_wp2_with (first|((with_reducible refine gate_callee (f := 210) rfl ?_);refine gl_ (some 20) Tryz.func210 #[.string (rdOf ByteArray.empty ab aa)] ?_;(with_reducible refine (Fat.calls _ _ _ _ A7.out).mono ?_);rintro e w' ⟨rfl,⟨nd,rfl⟩⟩;refine ⟨_,rfl,?_⟩))
     first
      |
       go_ret;exact ⟨vR_,wB_⟩
      |
       go_loopg [5] k1 (fun kq v5 w' => ∃ (ac : Int),v5 = .int .i64 ac ∧ Aside0 (Faq.l1 kq ab aa ac = some r) ∧ Aside0 (kq ≤ k1) ∧ Aside0 (Kd.R Kd.string 9 w' w.heap.size (fun _ => True) (.slice (some aj) ab.length af) ab) ∧ Aside0 (Below w.heap.size w w'))
       case atStart => exact ⟨(0),vR_,H',⟨Nat.le_refl _⟩,⟨wO_ ad.out⟩,⟨wB_⟩⟩
       case round =>
        clear H';obtain ⟨ac,rfl,HA,aw,ad,HB⟩ := hrel
        cases gk with
        | zero => exact absurd HA.out (by simp [Faq.l1])
        | succ k2 =>
         have H := HA.out;clear HA;simp only [Faq.l1] at H
         by_cases c10 : 0 ≤ aa
         rotate_left;rw [if_neg c10] at H;exact nH_ H;rw [if_pos c10] at H;have c10b0 := dT c10;clear c10
         by_cases al : aa < (ab.length : Int)
         rotate_left;rw [if_neg al] at H;exact nH_ H;rw [if_pos al] at H;have c11b0 := dT al;clear al
         by_cases ag : ac < ((rdOf ByteArray.empty ab aa).size : Int)
         focus
          rw [if_pos ag] at H;have ak := dT ag;clear ag
          by_cases am : 0 ≤ ac
          rotate_left;rw [if_neg am] at H;exact nH_ H;rw [if_pos am] at H;have c13b0 := dT am;clear am;obtain ⟨ax,aA,H⟩ := bE_ H
          by_cases c16 : ax = true
          focus
           subst c16;rw [if_pos rfl] at H;have H' := aM H;clear H
          rotate_left
          focus
           replace c16 := qO.mpr c16;subst c16;rw [if_neg qT] at H;obtain rfl := oI H
         rotate_left 2
         focus
          rw [if_neg ag] at H;have ak := dF ag;clear ag;have H' := aM H;clear H
         all_goals
          (try (have p01 : 0 ≤ (aa : Int) := oD (by assumption);have q01 : aa < (ab.length : Int) := oD (by assumption);obtain ⟨ad01,e01,hx01_0⟩ := Kd.at_string (rR ad.out).2.2 aa p01 q01;obtain rfl : aj = ad01 := (by injection e01);replace p01 := eq_true p01;replace q01 := eq_true q01));(try (have p02 : 0 ≤ (ac : Int) := oD (by assumption);have q02 : ac < ((rdOf ByteArray.empty ab aa).size : Int) := oD (by assumption);have hx02 := bt_at (rdOf ByteArray.empty ab aa) ac;replace p02 := eq_true p02;replace q02 := eq_true q02));go_wp2_with (first|((with_reducible refine gate_callee (f := 162) rfl ?_);refine gl_ (some 37) Tryz.func162 #[.int .u8 (bt (rdOf ByteArray.empty ab aa) ac)] ?_;(with_reducible refine (Fbz.calls _ _ _ aA.out).mono ?_);rintro e w' ⟨rfl,⟨nd,rfl⟩⟩;refine ⟨_,rfl,?_⟩))
          first
           |
            go_ret;exact ⟨vR_,wB_⟩
           |
            go_roundg k2
            case measure => have := ar.out;have := aw.out;omega
            case rel => first|(exact ⟨(wrap64 (ac + 1)),vR_,H',⟨by have := ar.out;have := aw.out;omega⟩,⟨wO_ ad.out⟩,⟨wB_⟩⟩)|(exact ⟨(wrap64 (aa + 1)),vR_,H',⟨by have := ar.out;have := aw.out;omega⟩,⟨wO_ ad.out⟩,⟨wB_⟩⟩)
def Fa8.l0 : Nat → Int → List ByteArray → ByteArray → ByteArray → ByteArray → Option (Bool)
 | 0,_,_,_,_,_ => none
 | k + 1,x3,aa,ad,ab,ac => if x3 < (aa.length : Int) then (if 0 ≤ x3 then ((Fat.f k (rdOf ByteArray.empty aa x3)).bind fun ae => (if ae = true then (if 0 < ((rdOf ByteArray.empty aa x3).size : Int) then ((FbO.f (bt (rdOf ByteArray.empty aa x3) 0)).bind fun af => (if af = true then (Fa8.l0 k (wrap64 (x3 + 1)) aa ad ab ac) else (some false))) else (none)) else (some false))) else (none)) else (if (aa.length : Int) ≤ 3 then ((Faq.f k ad).bind fun ag => (if ag = true then ((Fat.f k ab).bind fun ah => (if ah = true then (if 0 < (ab.size : Int) then ((FbO.f (bt ab 0)).bind fun ai => (if ai = true then (if ac.toList = ([] : List UInt8) then (some true) else ((Fat.f k ac).bind fun aj => (some aj))) else (some false))) else (none)) else (some false))) else (some false))) else (some false))
def Fa8.f (k : Nat) (aa : List ByteArray) (ab : ByteArray) (ac : ByteArray) (ad : ByteArray) : Option (Bool) := Fa8.l0 k 0 aa ab ac ad
theorem Fa8.mono_l : ∀ k,(∀ y0 y1 y2 y3 y4,LeO (Fa8.l0 k y0 y1 y2 y3 y4) (Fa8.l0 (k + 1) y0 y1 y2 y3 y4))
 | 0 => fun _ _ _ _ _ r h => by simp [Fa8.l0] at h
 | k + 1 => by
  have ih0 := Fa8.mono_l k
  ·intro y0 y1 y2 y3 y4
   unfold Fa8.l0
   repeat' (first|with_reducible (first|exact ih0 _ _ _ _ _|exact Faq.mono _ _|exact Fat.mono _ _|exact LeO.refl _|exact LeO.none _|refine LeO.ite ?_ ?_|refine LeO.bind ?_ (fun _ => ?_))|exact LeO.none _|refine LeO.ite ?_ ?_|refine LeO.bind ?_ (fun _ => ?_))
theorem Fa8.mono : ∀ a0 a1 a2 a3 k,LeO (Fa8.f k a0 a1 a2 a3) (Fa8.f (k + 1) a0 a1 a2 a3) := by
 intro a0 a1 a2 a3 k
 have ih0 := Fa8.mono_l k
 unfold Fa8.f
 repeat' (first|with_reducible (first|exact ih0 _ _ _ _ _|exact Faq.mono _ _|exact Fat.mono _ _|exact LeO.refl _|exact LeO.none _|refine LeO.ite ?_ ?_|refine LeO.bind ?_ (fun _ => ?_))|exact LeO.none _|refine LeO.ite ?_ ?_|refine LeO.bind ?_ (fun _ => ?_))
theorem Fa8.calls (k : Nat) (ai : Option Addr) (aj : Nat) (aa : List ByteArray) (af : ByteArray) (ac : ByteArray) (ae : ByteArray) (r : Bool) (w : World) (ak : Kd.C Kd.string w ai aa.length aa) (al : aa.length ≤ aj) (h : Fa8.f k aa af ac ae = some r) :
  Calls Tryz.prog 163 #[.agg #[.slice ai aa.length aj,.string af,.string ac,.string ae]] w fun e w' => e = .returned (.bool r) ∧ Below w.heap.size w w' := by
 have hu157 := Tryz.underlying157;have am := aM ak;have HC0_0 := aM al;clear ak al;have HB := aM (Below.refl w.heap.size w);have H : (Fa8.l0 k 0 aa af ac ae) = some r := h;clear h;have H' := aM H;clear H;go_enter Tryz.func163,Tryz.ntmps163;go_wp2_with (first|((with_reducible refine gate_dst (N := 1) rfl ?_);refine bx_ (N := 1) (cs := #[.slice ai aa.length aj,.string af,.string ac,.string ae]) (t := 157) ?_;intro an hg w2 hbox hb;have ad := aM (hbox);have ar := aM ((by rw [hg];exact (lZ wB_) : w.heap.size ≤ an));have GE232 := ar;replace HB := aM (lT wB_ hb);clear hb hbox hg));go_loopg [3] k (fun kq v3 w' => ∃ (ab : Int),v3 = .int .i64 ab ∧ Aside0 (Fa8.l0 kq ab aa af ac ae = some r) ∧ Aside0 (kq ≤ k) ∧ Aside0 (w'.heap[an]? = some (.cells #[(.slice ai aa.length aj),.string af,.string ac,.string ae] 157 (0,0))) ∧ Aside0 (Below w.heap.size w w'))
 case atStart => exact ⟨(0),vR_,H',⟨Nat.le_refl _⟩,⟨wC_ ad.out⟩,⟨wB_⟩⟩
 case round =>
  clear H';obtain ⟨ab,rfl,HA,aK,ad,HB⟩ := hrel
  cases gk with
  | zero => exact absurd HA.out (by simp [Fa8.l0])
  | succ k1 =>
   have H := HA.out;clear HA;simp only [Fa8.l0] at H
   by_cases c3 : ab < (aa.length : Int)
   focus
    rw [if_pos c3] at H;have aC := dT c3;clear c3
    by_cases c4 : 0 ≤ ab
    rotate_left;rw [if_neg c4] at H;exact nH_ H;rw [if_pos c4] at H;have c4b0 := dT c4;clear c4;obtain ⟨aD,A5,H⟩ := bE_ H
    by_cases c6 : aD = true
    focus
     subst c6;rw [if_pos rfl] at H
     by_cases c7 : 0 < ((rdOf ByteArray.empty aa ab).size : Int)
     rotate_left;rw [if_neg c7] at H;exact nH_ H;rw [if_pos c7] at H;have c7b0 := dT c7;have c7b1 : decide (0 < (rdOf ByteArray.empty aa ab).size) = true := dT (by omega);clear c7;obtain ⟨aE,A9,H⟩ := bE_ H
     by_cases c10 : aE = true
     focus
      subst c10;rw [if_pos rfl] at H;have H' := aM H;clear H
     rotate_left
     focus
      replace c10 := qO.mpr c10;subst c10;rw [if_neg qT] at H;obtain rfl := oI H
    rotate_left 2
    focus
     replace c6 := qO.mpr c6;subst c6;rw [if_neg qT] at H;obtain rfl := oI H
   rotate_left 3
   focus
    rw [if_neg c3] at H;have aC := dF c3;clear c3
    by_cases ap : (aa.length : Int) ≤ 3
    focus
     rw [if_pos ap] at H;have au := dT ap;have av : decide (aa.length ≤ 3) = true := dT (by omega);clear ap;obtain ⟨aF,aO,H⟩ := bE_ H
     by_cases c16 : aF = true
     focus
      subst c16;rw [if_pos rfl] at H;obtain ⟨aG,aL,H⟩ := bE_ H
      by_cases ay : aG = true
      focus
       subst ay;rw [if_pos rfl] at H
       by_cases az : 0 < (ac.size : Int)
       rotate_left;rw [if_neg az] at H;exact nH_ H;rw [if_pos az] at H;have c19b0 := dT az;have c19b1 : decide (0 < ac.size) = true := dT (by omega);clear az;obtain ⟨aH,aP,H⟩ := bE_ H
       by_cases aA : aH = true
       focus
        subst aA;rw [if_pos rfl] at H
        by_cases ao : ae.toList = ([] : List UInt8)
        focus
         rw [if_pos ao] at H;have aw := qE.mpr ao;have ax := qN.mpr ao;clear ao;obtain rfl := oI H
        rotate_left
        focus
         rw [if_neg ao] at H;have aw := qF.mpr ao;have ax := qB.mpr ao;obtain ⟨t240,aQ,H⟩ := bE_ H;obtain rfl := oI H
       rotate_left 2
       focus
        replace aA := qO.mpr aA;subst aA;rw [if_neg qT] at H;obtain rfl := oI H
      rotate_left 3
      focus
       replace ay := qO.mpr ay;subst ay;rw [if_neg qT] at H;obtain rfl := oI H
     rotate_left 4
     focus
      replace c16 := qO.mpr c16;subst c16;rw [if_neg qT] at H;obtain rfl := oI H
    rotate_left 5
    focus
     rw [if_neg ap] at H;have au := dF ap;have av : decide (aa.length ≤ 3) = false := dF (by omega);clear ap;obtain rfl := oI H
   all_goals
    (try obtain ⟨_,_,_,_,_,_,_,_⟩ := z4_ ad.out);(try (have p01 : 0 ≤ (ab : Int) := oD (by assumption);have q01 : ab < (aa.length : Int) := oD (by assumption);obtain ⟨ad01,e01,ag⟩ := Kd.at_string am.out ab p01 q01;cases e01;replace ag := mv_ HB.out ag;replace p01 := eq_true p01;replace q01 := eq_true q01));go_wp2_with (first|(go_at_call 212;(with_reducible refine (Faq.calls _ _ _ _ aO.out).mono ?_);rintro e WA15 ⟨rfl,hb⟩;replace ad := aM (bw_ ad.out hb);replace HB := aM (lT wB_ hb);obtain ⟨_,_,_,_,_,_,_,_⟩ := z4_ ad.out)|(go_at_call 210;(with_reducible refine (Fat.calls _ _ _ _ aL.out).mono ?_);rintro e w' ⟨rfl,⟨nd,rfl⟩⟩;have aR : 0 ≤ (0 : Int) := (by omega);have aN : 0 < ac.size := (by have : (0 : Int) < (ac.size : Int) := oD (by assumption);omega);have hx04 : ∀ h : 0 < ac.size,((ac[0]'h).toNat : Int) = bt ac 0 := bt_at ac 0;clear aR;have qi20 : (0 < (ac.size : Int)) = True := eq_true (oD (by assumption));replace aN := eq_true aN)|(go_at_call 210;(with_reducible refine (Fat.calls _ _ _ _ aL.out).mono ?_);rintro e w' ⟨rfl,⟨nd,rfl⟩⟩)|(go_at_call 211;(with_reducible refine (FbO.calls _ _ _ aP.out).mono ?_);rintro e w' ⟨rfl,⟨nd,rfl⟩⟩)|(go_at_call 210;(with_reducible refine (Fat.calls _ _ _ _ aQ.out).mono ?_);rintro e w' ⟨rfl,⟨nd,rfl⟩⟩)|((with_reducible refine gate_callee (f := 210) rfl ?_);refine gl_ (some 16) Tryz.func210 #[.string (rdOf ByteArray.empty aa ab)] ?_;(with_reducible refine (Fat.calls _ _ _ _ A5.out).mono ?_);rintro e w' ⟨rfl,⟨nd,rfl⟩⟩;refine ⟨_,rfl,?_⟩;have p02 : 0 ≤ (ab : Int) := oD (by assumption);have q02 : ab < (aa.length : Int) := oD (by assumption);obtain ⟨aJ,aT,ah⟩ := Kd.at_string am.out ab p02 q02;obtain rfl : ad01 = aJ := (by injection aT);replace ah := mv_ HB.out ah;replace p02 := eq_true p02;replace q02 := eq_true q02;have p03 : 0 ≤ (0 : Int) := (by omega);have q03 : 0 < (rdOf ByteArray.empty aa ab).size := (by have : (0 : Int) < ((rdOf ByteArray.empty aa ab).size : Int) := oD (by assumption);omega);have hx03 : ∀ h : 0 < (rdOf ByteArray.empty aa ab).size,(((rdOf ByteArray.empty aa ab)[0]'h).toNat : Int) = bt (rdOf ByteArray.empty aa ab) 0 := bt_at (rdOf ByteArray.empty aa ab) 0;clear p03;have qi8 : (0 < ((rdOf ByteArray.empty aa ab).size : Int)) = True := eq_true (oD (by assumption));replace q03 := eq_true q03)|((with_reducible refine gate_callee (f := 210) rfl ?_);refine gl_ (some 16) Tryz.func210 #[.string (rdOf ByteArray.empty aa ab)] ?_;(with_reducible refine (Fat.calls _ _ _ _ A5.out).mono ?_);rintro e w' ⟨rfl,⟨nd,rfl⟩⟩;refine ⟨_,rfl,?_⟩)|(go_at_call 211;(with_reducible refine (FbO.calls _ _ _ A9.out).mono ?_);rintro e w' ⟨rfl,⟨nd,rfl⟩⟩))
    first
     |
      go_ret;exact ⟨vR_,wB_⟩
     |
      go_roundg k1
      case measure => have := aK.out;omega
      case rel => exact ⟨(wrap64 (ab + 1)),vR_,H',⟨by have := aK.out;omega⟩,⟨wC_ ad.out⟩,⟨wB_⟩⟩
mutual
def Fax.l0 : Nat → List (S157) → Int → Option (Bool)
 | 0,_,_ => none
 | k + 1,x0,x3 => if x3 < (x0.length : Int) then (Fax.j1 k x0 x3 (decide (x3 ≤ 4))) else (Fax.j1 k x0 x3 false)
def Fax.j1 : Nat → List (S157) → Int → Bool → Option (Bool)
 | 0,_,_,_ => none
 | k + 1,x0,x3,ab => if ab = true then (if 0 ≤ x3 then (if x3 < (x0.length : Int) then ((Fa8.f k ((Fas x0 x3).f0) ((Fas x0 x3).f1) ((Fas x0 x3).f2) ((Fas x0 x3).f3)).bind fun aa => (if aa = true then (Fax.l0 k x0 (wrap64 (x3 + 1))) else (some false))) else (none)) else (none)) else (some (decide ((x0.length : Int) ≤ 4)))
end
def Fax.f (k : Nat) (l0 : List (S157)) : Option (Bool) := Fax.l0 k l0 0
theorem Fax.mono_l : ∀ k,(∀ y0 y1,LeO (Fax.l0 k y0 y1) (Fax.l0 (k + 1) y0 y1)) ∧ (∀ y0 y1 y2,LeO (Fax.j1 k y0 y1 y2) (Fax.j1 (k + 1) y0 y1 y2))
 | 0 => ⟨fun _ _ r h => by simp [Fax.l0] at h,fun _ _ _ r h => by simp [Fax.j1] at h⟩
 | k + 1 => by
  obtain ⟨ih0,ih1⟩ := Fax.mono_l k
  refine ⟨?_,?_⟩
  all_goals (intros;first|unfold Fax.l0|unfold Fax.j1)
  all_goals repeat' (first|with_reducible (first|exact ih0 _ _|exact ih1 _ _ _|exact Fa8.mono _ _ _ _ _|exact LeO.refl _|exact LeO.none _|refine LeO.ite ?_ ?_|refine LeO.bind ?_ (fun _ => ?_))|exact LeO.none _|refine LeO.ite ?_ ?_|refine LeO.bind ?_ (fun _ => ?_))
theorem Fax.mono : ∀ a0 k,LeO (Fax.f k a0) (Fax.f (k + 1) a0) := by
 intro a0 k
 obtain ⟨ih0,ih1⟩ := Fax.mono_l k
 unfold Fax.f
 repeat' (first|with_reducible (first|exact ih0 _ _|exact ih1 _ _ _|exact Fa8.mono _ _ _ _ _|exact LeO.refl _|exact LeO.none _|refine LeO.ite ?_ ?_|refine LeO.bind ?_ (fun _ => ?_))|exact LeO.none _|refine LeO.ite ?_ ?_|refine LeO.bind ?_ (fun _ => ?_))
theorem Fax.calls (k : Nat) (A0 : Option Addr) (c0 : Nat) (l0 : List (S157)) (r : Bool) (w : World) (ar : Kd.C k157 w A0 l0.length l0) (au : l0.length ≤ c0) (h : Fax.f k l0 = some r) :
  Calls Tryz.prog 122 #[.slice A0 l0.length c0] w fun e w' => e = .returned (.bool r) ∧ Below w.heap.size w w' := by
 have hu157 := Tryz.underlying157;have aw := aM ar;have HC0 := aM au;clear ar au;have HB := aM (Below.refl w.heap.size w);have H : (Fax.l0 k l0 0) = some r := h;clear h;have H' := aM H;clear H;go_enter Tryz.func122,Tryz.ntmps122;go_wp2;go_loopg [3] k (fun kq v3 w' => ∃ (aa : Int),v3 = .int .i64 aa ∧ Aside0 (Fax.l0 kq l0 aa = some r) ∧ Aside0 (kq ≤ k) ∧ Aside0 (Below w.heap.size w w'))
 case atStart => exact ⟨(0),vR_,H',⟨Nat.le_refl _⟩,⟨wB_⟩⟩
 case round =>
  clear H';obtain ⟨aa,rfl,HA,an,HB⟩ := hrel
  cases gk with
  | zero => exact absurd HA.out (by simp [Fax.l0])
  | succ k1 =>
   have H := HA.out;clear HA;simp only [Fax.l0] at H;have ao := aM H;clear H;go_upto_region 2 with (fail);go_cut [11] (fun ax wc => ∃ (kq : Nat) (ab : Bool),ax = .bool ab ∧ Aside0 (Fax.j1 kq l0 aa ab = some r) ∧ Aside0 (kq ≤ k1) ∧ Aside0 (Below w.heap.size w wc))
   case first =>
    have H := ao.out;clear ao
    by_cases c3 : aa < (l0.length : Int)
    ·rw [if_pos c3] at H;have ac := dT c3;clear c3;(first|rw [ac]|(simp only [i64_w,i32_w];rw [ac])|skip);have H' := aM H;clear H;go_wp2;go_meet
     case rel => exact ⟨_,(decide (aa ≤ 4)),vR_,H',⟨by have := an.out;first|omega|exact Nat.le_refl _⟩,⟨wB_⟩⟩
    ·rw [if_neg c3] at H;have ac := dF c3;clear c3;(first|rw [ac]|(simp only [i64_w,i32_w];rw [ac])|skip);have H' := aM H;clear H;go_wp2;go_meet
     case rel => exact ⟨_,(false),vR_,H',⟨by have := an.out;first|omega|exact Nat.le_refl _⟩,⟨wB_⟩⟩
   case rest =>
    clear ao;obtain ⟨kq,ab,rfl,HA,av,HB⟩ := hcut
    cases kq with
    | zero => exact absurd HA.out (by simp [Fax.j1])
    | succ ay =>
     have H := HA.out;clear HA;simp only [Fax.j1] at H
     by_cases c4 : ab = true
     focus
      subst c4;rw [if_pos rfl] at H
      by_cases c5 : 0 ≤ aa
      rotate_left;rw [if_neg c5] at H;exact nH_ H;rw [if_pos c5] at H;have c5b0 := dT c5;clear c5
      by_cases c6 : aa < (l0.length : Int)
      rotate_left;rw [if_neg c6] at H;exact nH_ H;rw [if_pos c6] at H;have c6b0 := dT c6;clear c6;obtain ⟨ap,A7,H⟩ := bE_ H
      by_cases c8 : ap = true
      focus
       subst c8;rw [if_pos rfl] at H;have H' := aM H;clear H
      rotate_left
      focus
       replace c8 := qO.mpr c8;subst c8;rw [if_neg qT] at H;obtain rfl := oI H
     rotate_left 2
     focus
      replace c4 := qO.mpr c4;subst c4;rw [if_neg qT] at H;obtain rfl := oI H
     all_goals
      (try (have p01 : 0 ≤ (aa : Int) := oD (by assumption);have q01 : aa < (l0.length : Int) := oD (by assumption);obtain ⟨ad01,al,am,e01,ad,ae,af,ag,ah,ai⟩ := Fcf aw.out aa p01 q01;cases e01;replace ad := mv_ HB.out ad;replace ae := mv_ HB.out ae;replace af := mv_ HB.out af;replace ag := mv_ HB.out ag;have aj := aM ai;have ak := aM ah;clear ai ah;replace p01 := eq_true p01;replace q01 := eq_true q01));go_wp2_with (first|((with_reducible refine gate_callee (f := 163) rfl ?_);refine gl_ (some 18) Tryz.func163 #[.agg #[.slice al ((Fas l0 aa).f0).length am,.string ((Fas l0 aa).f1),.string ((Fas l0 aa).f2),.string ((Fas l0 aa).f3)]] ?_;(with_reducible refine (Fa8.calls _ _ _ _ _ _ _ _ _ ?side1 ?side2 A7.out).mono ?_);(case side1 => exact wX_ aj.out);(case side2 => exact ak.out);rintro e WA7 ⟨rfl,hb⟩;refine ⟨_,rfl,?_⟩;replace HB := aM (lT wB_ hb)))
      first
       |
        go_ret;exact ⟨vR_,wB_⟩
       |
        go_roundg ay
        case measure => have := an.out;have := av.out;omega
        case rel => exact ⟨(wrap64 (aa + 1)),vR_,H',⟨by have := an.out;have := av.out;omega⟩,⟨wB_⟩⟩
attribute [local go_sem high] eqA39
def FaZ.l0 : Nat → ByteArray → Int → Option (Bool)
 | 0,_,_ => none
 | k + 1,x0,x3 => if x3 < (x0.size : Int) then (if 0 ≤ x3 then (if (bt x0 x3) < 32 then (some false) else (if (bt x0 x3) > 126 then (some false) else (FaZ.l0 k x0 (wrap64 (x3 + 1))))) else (none)) else (if x0.toList = ([] : List UInt8) then (some true) else (if 0 < (x0.size : Int) then (if (bt x0 0) = 32 then (some false) else (if 0 ≤ (wrap64 ((x0.size : Int) - 1)) then (if (wrap64 ((x0.size : Int) - 1)) < (x0.size : Int) then (some ((bt x0 (wrap64 ((x0.size : Int) - 1))) != 32)) else (none)) else (none))) else (none)))
def FaZ.f (k : Nat) (a0 : ByteArray) : Option (Bool) := if (a0.size : Int) > 40 then (some false) else (FaZ.l0 k a0 0)
theorem FaZ.mono_l : ∀ k,(∀ y0 y1,LeO (FaZ.l0 k y0 y1) (FaZ.l0 (k + 1) y0 y1))
 | 0 => fun _ _ r h => by simp [FaZ.l0] at h
 | k + 1 => by
  have ih0 := FaZ.mono_l k
  ·intro y0 y1
   unfold FaZ.l0
   repeat' (first|with_reducible (first|exact ih0 _ _|exact LeO.refl _|exact LeO.none _|refine LeO.ite ?_ ?_|refine LeO.bind ?_ (fun _ => ?_))|exact LeO.none _|refine LeO.ite ?_ ?_|refine LeO.bind ?_ (fun _ => ?_))
theorem FaZ.mono : ∀ a0 k,LeO (FaZ.f k a0) (FaZ.f (k + 1) a0) := by
 intro a0 k
 have ih0 := FaZ.mono_l k
 unfold FaZ.f
 repeat' (first|with_reducible (first|exact ih0 _ _|exact LeO.refl _|exact LeO.none _|refine LeO.ite ?_ ?_|refine LeO.bind ?_ (fun _ => ?_))|exact LeO.none _|refine LeO.ite ?_ ?_|refine LeO.bind ?_ (fun _ => ?_))
theorem FaZ.calls (k : Nat) (a0 : ByteArray) (r : Bool) (w : World) (h : FaZ.f k a0 = some r) :
  Calls Tryz.prog 123 #[.string a0] w fun e w' => e = .returned (.bool r) ∧ Drawn0 w w' := by
 have H : (if (a0.size : Int) > 40 then (some false) else (FaZ.l0 k a0 0)) = some r := h;clear h
 by_cases c2 : (a0.size : Int) > 40
 ·rw [if_pos c2] at H;have ah : decide (40 < (a0.size : Int)) = true := dT c2;have ai : decide (40 < a0.size) = true := dT (by omega);clear c2;obtain rfl := oI H;go_enter Tryz.func123,Tryz.ntmps123;go_wp2;go_ret;exact ⟨vR_,dw_⟩
 ·rw [if_neg c2] at H;have ah : decide (40 < (a0.size : Int)) = false := dF c2;have ai : decide (40 < a0.size) = false := dF (by omega);clear c2;have H' := aM H;clear H;go_enter Tryz.func123,Tryz.ntmps123;go_wp2;go_loopg [3] k (fun kq v3 w' => ∃ (aa : Int),v3 = .int .i64 aa ∧ Aside0 (FaZ.l0 kq a0 aa = some r) ∧ Aside0 (kq ≤ k) ∧ Drawn0 w w')
  case atStart => exact ⟨(0),vR_,H',⟨Nat.le_refl _⟩,dw_⟩
  case round =>
   clear H';obtain ⟨aa,rfl,HA,au,⟨m1,rfl⟩⟩ := hrel
   cases gk with
   | zero => exact absurd HA.out (by simp [FaZ.l0])
   | succ k1 =>
    have H := HA.out;clear HA;simp only [FaZ.l0] at H
    by_cases c3 : aa < (a0.size : Int)
    ·rw [if_pos c3] at H;have aj := dT c3;clear c3
     by_cases c4 : 0 ≤ aa
     ·rw [if_pos c4] at H;have c4b0 := dT c4;clear c4
      by_cases c6 : (bt a0 aa) < 32
      ·rw [if_pos c6] at H;have ak := dT c6;clear c6;obtain rfl := oI H;have p5 : 0 ≤ (aa : Int) := oD (by assumption);have q5 : aa < (a0.size : Int) := oD (by assumption);have av := bt_at a0 aa;replace p5 := eq_true p5;replace q5 := eq_true q5;go_wp2;go_ret;exact ⟨vR_,dw_⟩
      ·rw [if_neg c6] at H;have ak := dF c6;clear c6
       by_cases c8 : (bt a0 aa) > 126
       ·rw [if_pos c8] at H;have al : decide (126 < (bt a0 aa)) = true := dT c8;clear c8;obtain rfl := oI H;have p5 : 0 ≤ (aa : Int) := oD (by assumption);have q5 : aa < (a0.size : Int) := oD (by assumption);have av := bt_at a0 aa;replace p5 := eq_true p5;replace q5 := eq_true q5;have p7 : 0 ≤ (aa : Int) := oD (by assumption);have q7 : aa < (a0.size : Int) := oD (by assumption);have ay := bt_at a0 aa;replace p7 := eq_true p7;replace q7 := eq_true q7;go_wp2;go_ret;exact ⟨vR_,dw_⟩
       ·rw [if_neg c8] at H;have al : decide (126 < (bt a0 aa)) = false := dF c8;clear c8;have H' := aM H;clear H;have p5 : 0 ≤ (aa : Int) := oD (by assumption);have q5 : aa < (a0.size : Int) := oD (by assumption);have av := bt_at a0 aa;replace p5 := eq_true p5;replace q5 := eq_true q5;have p7 : 0 ≤ (aa : Int) := oD (by assumption);have q7 : aa < (a0.size : Int) := oD (by assumption);have ay := bt_at a0 aa;replace p7 := eq_true p7;replace q7 := eq_true q7;go_wp2;go_roundg k1
        case measure => have := au.out;omega
        case rel => exact ⟨(wrap64 (aa + 1)),vR_,H',⟨by have := au.out;omega⟩,dw_⟩
     ·rw [if_neg c4] at H;exact nH_ H
    ·rw [if_neg c3] at H;have aj := dF c3;clear c3
     by_cases c9 : a0.toList = ([] : List UInt8)
     ·rw [if_pos c9] at H;have am := qE.mpr c9;have an := qN.mpr c9;clear c9;obtain rfl := oI H;go_wp2;go_ret;exact ⟨vR_,dw_⟩
     ·rw [if_neg c9] at H;have am := qF.mpr c9;have an := qB.mpr c9
      by_cases c10 : 0 < (a0.size : Int)
      ·rw [if_pos c10] at H;have c10b0 := dT c10;have c10b1 : decide (0 < a0.size) = true := dT (by omega);clear c10
       by_cases ad : (bt a0 0) = 32
       ·rw [if_pos ad] at H;have ae := qE.mpr ad;have af := qN.mpr ad;clear ad;obtain rfl := oI H;have ao : 0 ≤ (0 : Int) := (by omega);have ag : 0 < a0.size := (by have : (0 : Int) < (a0.size : Int) := oD (by assumption);omega);have ap : ∀ h : 0 < a0.size,((a0[0]'h).toNat : Int) = bt a0 0 := bt_at a0 0;clear ao;have ar : (0 < (a0.size : Int)) = True := eq_true (oD (by assumption));replace ag := eq_true ag;go_wp2;go_ret;exact ⟨vR_,dw_⟩
       ·rw [if_neg ad] at H;have ae := qF.mpr ad;have af := qB.mpr ad;obtain ⟨ab,ac⟩ : ∃ j_ : Int,(wrap64 ((a0.size : Int) - 1)) = j_ := ⟨_,rfl⟩;replace H : (if 0 ≤ (ab) then (if (ab) < (a0.size : Int) then (some ((bt a0 (ab)) != 32)) else (none)) else (none)) = some r := (by first|(rw [ac] at H;exact H)|(simp only [ac] at H ⊢;exact H));have hji13w : (IntKind.i64.wrap ((a0.size : Int) - 1)) = ab := (i64_w _).trans ac
        by_cases c14 : 0 ≤ (ab)
        ·rw [if_pos c14] at H;have c14b0 := dT c14;clear c14
         by_cases c15 : (ab) < (a0.size : Int)
         ·rw [if_pos c15] at H;have c15b0 := dT c15;clear c15;obtain rfl := oI H;have ao : 0 ≤ (0 : Int) := (by omega);have ag : 0 < a0.size := (by have : (0 : Int) < (a0.size : Int) := oD (by assumption);omega);have ap : ∀ h : 0 < a0.size,((a0[0]'h).toNat : Int) = bt a0 0 := bt_at a0 0;clear ao;have ar : (0 < (a0.size : Int)) = True := eq_true (oD (by assumption));replace ag := eq_true ag;have aw : 0 ≤ ((ab) : Int) := oD (by assumption);have ax : (ab) < (a0.size : Int) := oD (by assumption);have hx16 := bt_at a0 (ab);replace aw := eq_true aw;replace ax := eq_true ax;go_wp2;go_ret;exact ⟨by first|rfl|(simp;done)|(simp [my_isEmpty];done)|(simp only [← ac] <;> (first|rfl|simp))|(simp [*];done),dw_⟩
         ·rw [if_neg c15] at H;exact nH_ H
        ·rw [if_neg c14] at H;exact nH_ H
      ·rw [if_neg c10] at H;exact nH_ H
def Fa4.j0 : Nat → Bool → Option (Int)
 | 0,_ => none
 | k + 1,aa => if aa = true then (some 29) else (some 28)
def Fa4.f (k : Nat) (a0 : Int) (a1 : Int) : Option (Int) := if a1 = 2 then (if (Int.tmod a0 4) = 0 then (if (Int.tmod a0 100) = 0 then (Fa4.j0 k ((Int.tmod a0 400) == 0)) else (Fa4.j0 k true)) else (Fa4.j0 k ((Int.tmod a0 400) == 0))) else (if a1 = 4 then (some 30) else (if a1 = 6 then (some 30) else (if a1 = 9 then (some 30) else (if a1 = 11 then (some 30) else (some 31)))))
theorem Fa4.mono_l : ∀ k,(∀ y0,LeO (Fa4.j0 k y0) (Fa4.j0 (k + 1) y0))
 | 0 => fun _ r h => by simp [Fa4.j0] at h
 | k + 1 => by
  have ih0 := Fa4.mono_l k
  ·intro y0
   unfold Fa4.j0
   repeat' (first|with_reducible (first|exact ih0 _|exact LeO.refl _|exact LeO.none _|refine LeO.ite ?_ ?_|refine LeO.bind ?_ (fun _ => ?_))|exact LeO.none _|refine LeO.ite ?_ ?_|refine LeO.bind ?_ (fun _ => ?_))
theorem Fa4.mono : ∀ a0 a1 k,LeO (Fa4.f k a0 a1) (Fa4.f (k + 1) a0 a1) := by
 intro a0 a1 k
 have ih0 := Fa4.mono_l k
 unfold Fa4.f
 repeat' (first|with_reducible (first|exact ih0 _|exact LeO.refl _|exact LeO.none _|refine LeO.ite ?_ ?_|refine LeO.bind ?_ (fun _ => ?_))|exact LeO.none _|refine LeO.ite ?_ ?_|refine LeO.bind ?_ (fun _ => ?_))
theorem Fa4.calls (k : Nat) (a0 : Int) (a1 : Int) (r : Int) (w : World) (h : Fa4.f k a0 a1 = some r) :
  Calls Tryz.prog 164 #[.int .i64 a0,.int .i64 a1] w fun e w' => e = .returned (.int .i64 r) ∧ Drawn0 w w' := by
 have H : (if a1 = 2 then (if (Int.tmod a0 4) = 0 then (if (Int.tmod a0 100) = 0 then (Fa4.j0 k ((Int.tmod a0 400) == 0)) else (Fa4.j0 k true)) else (Fa4.j0 k ((Int.tmod a0 400) == 0))) else (if a1 = 4 then (some 30) else (if a1 = 6 then (some 30) else (if a1 = 9 then (some 30) else (if a1 = 11 then (some 30) else (some 31)))))) = some r := h;clear h
 by_cases c3 : a1 = 2
 focus
  rw [if_pos c3] at H;have ah := qE.mpr c3;have ai := qN.mpr c3;clear c3;have aj := aM H;clear H
 rotate_left
 focus
  rw [if_neg c3] at H;have ah := qF.mpr c3;have ai := qB.mpr c3
  by_cases c8 : a1 = 4
  focus
   rw [if_pos c8] at H;have ak := qE.mpr c8;have al := qN.mpr c8;clear c8;obtain rfl := oI H
  rotate_left
  focus
   rw [if_neg c8] at H;have ak := qF.mpr c8;have al := qB.mpr c8
   by_cases c9 : a1 = 6
   focus
    rw [if_pos c9] at H;have am := qE.mpr c9;have an := qN.mpr c9;clear c9;obtain rfl := oI H
   rotate_left
   focus
    rw [if_neg c9] at H;have am := qF.mpr c9;have an := qB.mpr c9
    by_cases c10 : a1 = 9
    focus
     rw [if_pos c10] at H;have ad := qE.mpr c10;have ae := qN.mpr c10;clear c10;obtain rfl := oI H
    rotate_left
    focus
     rw [if_neg c10] at H;have ad := qF.mpr c10;have ae := qB.mpr c10
     by_cases ac : a1 = 11
     focus
      rw [if_pos ac] at H;have af := qE.mpr ac;have ag := qN.mpr ac;clear ac;obtain rfl := oI H
     rotate_left
     focus
      rw [if_neg ac] at H;have af := qF.mpr ac;have ag := qB.mpr ac;obtain rfl := oI H
 all_goals
  go_enter Tryz.func164,Tryz.ntmps164
  first
   |
    go_wp2;go_ret;exact ⟨vR_,dw_⟩
   |
    go_upto_region 2 with (fail);go_cut [19] (fun au wc => ∃ (kq : Nat) (aa : Bool),au = .bool aa ∧ Aside0 (Fa4.j0 kq aa = some r) ∧ Aside0 (kq ≤ k) ∧ Drawn0 w wc)
    case first =>
     have H := aj.out;clear aj
     by_cases c5 : (Int.tmod a0 4) = 0
     focus
      rw [if_pos c5] at H;have ab := qE.mpr c5;have ao := qN.mpr c5;clear c5;(first|rw [ab]|(simp only [i64_w,i32_w];rw [ab])|skip)
      by_cases c6 : (Int.tmod a0 100) = 0
      focus
       rw [if_pos c6] at H;have ap := qE.mpr c6;have ar := qN.mpr c6;clear c6;have H' := aM H;clear H
      rotate_left
      focus
       rw [if_neg c6] at H;have ap := qF.mpr c6;have ar := qB.mpr c6;have H' := aM H;clear H
     rotate_left 2
     focus
      rw [if_neg c5] at H;have ab := qF.mpr c5;have ao := qB.mpr c5;(first|rw [ab]|(simp only [i64_w,i32_w];rw [ab])|skip);have H' := aM H;clear H
     all_goals
      go_wp2;go_meet
      case rel => first|(exact ⟨_,(((Int.tmod a0 400) == 0)),vR_,H',⟨by first|omega|exact Nat.le_refl _⟩,dw_⟩)|(exact ⟨_,(true),vR_,H',⟨by first|omega|exact Nat.le_refl _⟩,dw_⟩)
    case rest =>
     clear aj;obtain ⟨kq,aa,rfl,HA,HJ3,⟨mc3,rfl⟩⟩ := hcut
     cases kq with
     | zero => exact absurd HA.out (by simp [Fa4.j0])
     | succ kj3 =>
      have H := HA.out;clear HA;simp only [Fa4.j0] at H
      by_cases c7 : aa = true
      focus
       subst c7;rw [if_pos rfl] at H;obtain rfl := oI H
      rotate_left
      focus
       replace c7 := qO.mpr c7;subst c7;rw [if_neg qT] at H;obtain rfl := oI H
      all_goals
       go_wp2;go_ret;exact ⟨vR_,dw_⟩
def Fba.j0 : Nat → Bool → Int → Int → Int → Bool → Option (Bool)
 | 0,_,_,_,_,_ => none
 | k + 1,x7,ac,aa,ab,ad => if x7 = true then (some false) else (if ad = true then (if aa = 0 then (some (ab == 0)) else (some false)) else (if aa = 0 then (some (ab == 0)) else ((Fa4.f k ac aa).bind fun ae => ((Fbd.f ab 0 ae).bind fun af => (some af)))))
def Fba.f (k : Nat) (aa : Int) (ab : Int) (ac : Int) (ad : Bool) : Option (Bool) := if (aa == 0 && (ab == 0 && (ac == 0 && (!ad)))) = true then (some true) else ((Fbd.f aa 1 2999).bind fun ae => (if ae = true then ((Fbd.f ab 0 12).bind fun af => (Fba.j0 k (!af) aa ab ac ad)) else (Fba.j0 k true aa ab ac ad)))
theorem Fba.mono_l : ∀ k,(∀ y0 y1 y2 y3 y4,LeO (Fba.j0 k y0 y1 y2 y3 y4) (Fba.j0 (k + 1) y0 y1 y2 y3 y4))
 | 0 => fun _ _ _ _ _ r h => by simp [Fba.j0] at h
 | k + 1 => by
  have ih0 := Fba.mono_l k
  ·intro y0 y1 y2 y3 y4
   unfold Fba.j0
   repeat' (first|with_reducible (first|exact ih0 _ _ _ _ _|exact Fa4.mono _ _ _|exact LeO.refl _|exact LeO.none _|refine LeO.ite ?_ ?_|refine LeO.bind ?_ (fun _ => ?_))|exact LeO.none _|refine LeO.ite ?_ ?_|refine LeO.bind ?_ (fun _ => ?_))
theorem Fba.mono : ∀ a0 a1 a2 a3 k,LeO (Fba.f k a0 a1 a2 a3) (Fba.f (k + 1) a0 a1 a2 a3) := by
 intro a0 a1 a2 a3 k
 have ih0 := Fba.mono_l k
 unfold Fba.f
 repeat' (first|with_reducible (first|exact ih0 _ _ _ _ _|exact Fa4.mono _ _ _|exact LeO.refl _|exact LeO.none _|refine LeO.ite ?_ ?_|refine LeO.bind ?_ (fun _ => ?_))|exact LeO.none _|refine LeO.ite ?_ ?_|refine LeO.bind ?_ (fun _ => ?_))
theorem Fba.calls (k : Nat) (ad : Int) (ac : Int) (af : Int) (ae : Bool) (r : Bool) (w : World) (h : Fba.f k ad ac af ae = some r) :
  Calls Tryz.prog 124 #[.agg #[.int .i64 ad,.int .i64 ac,.int .i64 af,.bool ae]] w fun e w' => e = .returned (.bool r) ∧ Below w.heap.size w w' := by
 have hu39 := Tryz.underlying39;have HB := aM (Below.refl w.heap.size w);have H : (if (ad == 0 && (ac == 0 && (af == 0 && (!ae)))) = true then (some true) else ((Fbd.f ad 1 2999).bind fun aR => (if aR = true then ((Fbd.f ac 0 12).bind fun aT => (Fba.j0 k (!aT) ad ac af ae)) else (Fba.j0 k true ad ac af ae)))) = some r := h;clear h
 by_cases c2 : (ad == 0 && (ac == 0 && (af == 0 && (!ae)))) = true
 ·rw [if_pos c2] at H;have a0 : (ad == 0 && (ac == 0 && (af == 0 && (!ae)))) = true := c2;(try (have a1 : decide (ad = 0 && (ac == 0 && (af == 0 && (!ae)))) = true := by simpa using c2));(try (have a2 : (ad == 0 && (ac == 0 && (af == 0 && (!ae)))) = true := by simpa using c2));clear c2;obtain rfl := oI H;go_enter Tryz.func124,Tryz.ntmps124;go_wp2_with (first|((with_reducible refine gate_dst (N := 1) rfl ?_);refine bx_ (N := 1) (cs := #[.int .i64 ad,.int .i64 ac,.int .i64 af,.bool ae]) (t := 39) ?_;intro aa hg w3 hbox hb;have ab := aM (hbox);have ag := aM ((by rw [hg];exact (lZ wB_) : w.heap.size ≤ aa));have ah := ag;replace HB := aM (lT wB_ hb);clear hb hbox hg;obtain ⟨ar,au,av,aw,ax,ay,az,aA⟩ := z4_ ab.out));(repeat (go_quiet (first|((with_reducible refine gate_dst (N := 1) rfl ?_);refine bx_ (N := 1) (cs := #[.int .i64 ad,.int .i64 ac,.int .i64 af,.bool ae]) (t := 39) ?_;intro aa hg w3 hbox hb;have aC := aM (lT wB_ hb);have aD := aM (hbox);have aE := aM ((by rw [hg];exact (lZ wB_) : w.heap.size ≤ aa));have aF := aM ((by rw [hg];exact (lZ wB_) : w.heap.size ≤ aa));clear HB;have HB := aC;have ab := aD;have ag := aE;have ah := aF;clear aC aD aE aF;clear hb hbox hg;obtain ⟨ar,au,av,aw,ax,ay,az,aA⟩ := z4_ ab.out));try go_wp2_with (first|((with_reducible refine gate_dst (N := 1) rfl ?_);refine bx_ (N := 1) (cs := #[.int .i64 ad,.int .i64 ac,.int .i64 af,.bool ae]) (t := 39) ?_;intro aa hg w3 hbox hb;have aC := aM (lT wB_ hb);have aD := aM (hbox);have aE := aM ((by rw [hg];exact (lZ wB_) : w.heap.size ≤ aa));have aF := aM ((by rw [hg];exact (lZ wB_) : w.heap.size ≤ aa));clear HB;have HB := aC;have ab := aD;have ag := aE;have ah := aF;clear aC aD aE aF;clear hb hbox hg;obtain ⟨ar,au,av,aw,ax,ay,az,aA⟩ := z4_ ab.out))));go_ret;exact ⟨vR_,wB_⟩
 ·rw [if_neg c2] at H;have a0 : (ad == 0 && (ac == 0 && (af == 0 && (!ae)))) = false := (by simpa using c2);(try (have a1 : decide (ad = 0 && (ac == 0 && (af == 0 && (!ae)))) = false := by simpa using c2));(try (have a2 : (ad == 0 && (ac == 0 && (af == 0 && (!ae)))) = false := by simpa using c2));(try (have c2b3 : ¬ (ad = 0 && (ac == 0 && (af == 0 && (!ae)))) := by simpa using c2));clear c2;have a3 := aM H;clear H;go_enter Tryz.func124,Tryz.ntmps124;go_upto_region 3 with (first|((with_reducible refine gate_dst (N := 1) rfl ?_);refine bx_ (N := 1) (cs := #[.int .i64 ad,.int .i64 ac,.int .i64 af,.bool ae]) (t := 39) ?_;intro aa hg w6 hbox hb;have ab := aM (hbox);have ag := aM ((by rw [hg];exact (lZ wB_) : w.heap.size ≤ aa));have ah := ag;replace HB := aM (lT wB_ hb);clear hb hbox hg;obtain ⟨aG,aH,aJ,aK,aL,aN,aO,aP⟩ := z4_ ab.out));(repeat (go_quiet (first|((with_reducible refine gate_dst (N := 1) rfl ?_);refine bx_ (N := 1) (cs := #[.int .i64 ad,.int .i64 ac,.int .i64 af,.bool ae]) (t := 39) ?_;intro aa hg w6 hbox hb;have aC := aM (lT wB_ hb);have aD := aM (hbox);have aE := aM ((by rw [hg];exact (lZ wB_) : w.heap.size ≤ aa));have aF := aM ((by rw [hg];exact (lZ wB_) : w.heap.size ≤ aa));clear HB;have HB := aC;have ab := aD;have ag := aE;have ah := aF;clear aC aD aE aF;clear hb hbox hg;obtain ⟨aG,aH,aJ,aK,aL,aN,aO,aP⟩ := z4_ ab.out));go_upto_region 3 with (first|((with_reducible refine gate_dst (N := 1) rfl ?_);refine bx_ (N := 1) (cs := #[.int .i64 ad,.int .i64 ac,.int .i64 af,.bool ae]) (t := 39) ?_;intro aa hg w6 hbox hb;have aC := aM (lT wB_ hb);have aD := aM (hbox);have aE := aM ((by rw [hg];exact (lZ wB_) : w.heap.size ≤ aa));have aF := aM ((by rw [hg];exact (lZ wB_) : w.heap.size ≤ aa));clear HB;have HB := aC;have ab := aD;have ag := aE;have ah := aF;clear aC aD aE aF;clear hb hbox hg;obtain ⟨aG,aH,aJ,aK,aL,aN,aO,aP⟩ := z4_ ab.out))));(try simp only [Act.put,lI,sZ,sS]);go_cut [7] (fun v7 wc => ∃ (kq : Nat) (aQ : Bool),v7 = .bool aQ ∧ Aside0 (Fba.j0 kq aQ ad ac af ae = some r) ∧ Aside0 (kq ≤ k) ∧ Aside0 (wc.heap[aa]? = some (.cells #[.int .i64 ad,.int .i64 ac,.int .i64 af,.bool ae] 39 (0,0))) ∧ Aside0 (Below w.heap.size w wc))
  case first =>
   have H := a3.out;clear a3;obtain ⟨aR,A8,H⟩ := bE_ H
   by_cases c9 : aR = true
   focus
    subst c9;rw [if_pos rfl] at H;obtain ⟨aT,a4,H⟩ := bE_ H;have H' := aM H;clear H
   rotate_left
   focus
    replace c9 := qO.mpr c9;subst c9;rw [if_neg qT] at H;have H' := aM H;clear H
   all_goals
    obtain ⟨ai,aj,ak,al,am,an,ao,ap⟩ := z4_ ab.out;go_wp2_with (first|(go_at_call 121;(with_reducible refine (Fbd.calls _ _ _ _ _ A8.out).mono ?_);rintro e w' ⟨rfl,⟨nd,rfl⟩⟩;(try first|exact ⟨rfl,_,wD _ _ _⟩|exact ⟨rfl,_,Eq.trans (wD _ _ _) (congrArg (World.drewN _) (Nat.add_assoc _ _ _))⟩))|(go_at_call 121;(with_reducible refine (Fbd.calls _ _ _ _ _ a4.out).mono ?_);rintro e w' ⟨rfl,⟨nd,rfl⟩⟩;(try first|exact ⟨rfl,_,wD _ _ _⟩|exact ⟨rfl,_,Eq.trans (wD _ _ _) (congrArg (World.drewN _) (Nat.add_assoc _ _ _))⟩)))
    first
     |
      (repeat (go_quiet (first|(go_at_call 121;(with_reducible refine (Fbd.calls _ _ _ _ _ A8.out).mono ?_);rintro e w' ⟨rfl,⟨nd,rfl⟩⟩;(try first|exact ⟨rfl,_,wD _ _ _⟩|exact ⟨rfl,_,Eq.trans (wD _ _ _) (congrArg (World.drewN _) (Nat.add_assoc _ _ _))⟩)));try go_wp2_with (first|(go_at_call 121;(with_reducible refine (Fbd.calls _ _ _ _ _ A8.out).mono ?_);rintro e w' ⟨rfl,⟨nd,rfl⟩⟩;(try first|exact ⟨rfl,_,wD _ _ _⟩|exact ⟨rfl,_,Eq.trans (wD _ _ _) (congrArg (World.drewN _) (Nat.add_assoc _ _ _))⟩)))));go_meet
      case rel => exact ⟨_,(true),vR_,H',⟨by first|omega|exact Nat.le_refl _⟩,⟨wC_ ab.out⟩,⟨wB_⟩⟩
     |
      (repeat (go_quiet (first|(go_at_call 121;(with_reducible refine (Fbd.calls _ _ _ _ _ A8.out).mono ?_);rintro e w' ⟨rfl,⟨nd,rfl⟩⟩;(try first|exact ⟨rfl,_,wD _ _ _⟩|exact ⟨rfl,_,Eq.trans (wD _ _ _) (congrArg (World.drewN _) (Nat.add_assoc _ _ _))⟩))|(go_at_call 121;(with_reducible refine (Fbd.calls _ _ _ _ _ a4.out).mono ?_);rintro e w' ⟨rfl,⟨nd,rfl⟩⟩;(try first|exact ⟨rfl,_,wD _ _ _⟩|exact ⟨rfl,_,Eq.trans (wD _ _ _) (congrArg (World.drewN _) (Nat.add_assoc _ _ _))⟩)));try go_wp2_with (first|(go_at_call 121;(with_reducible refine (Fbd.calls _ _ _ _ _ A8.out).mono ?_);rintro e w' ⟨rfl,⟨nd,rfl⟩⟩;(try first|exact ⟨rfl,_,wD _ _ _⟩|exact ⟨rfl,_,Eq.trans (wD _ _ _) (congrArg (World.drewN _) (Nat.add_assoc _ _ _))⟩))|(go_at_call 121;(with_reducible refine (Fbd.calls _ _ _ _ _ a4.out).mono ?_);rintro e w' ⟨rfl,⟨nd,rfl⟩⟩;(try first|exact ⟨rfl,_,wD _ _ _⟩|exact ⟨rfl,_,Eq.trans (wD _ _ _) (congrArg (World.drewN _) (Nat.add_assoc _ _ _))⟩)))));go_meet
      case rel => exact ⟨_,(!aT),vR_,H',⟨by first|omega|exact Nat.le_refl _⟩,⟨wC_ ab.out⟩,⟨wB_⟩⟩
  case rest =>
   clear a3;obtain ⟨kq,aQ,rfl,HA,HJ4,ab,HB⟩ := hcut
   cases kq with
   | zero => exact absurd HA.out (by simp [Fba.j0])
   | succ kj4 =>
    have H := HA.out;clear HA;simp only [Fba.j0] at H
    by_cases aZ : aQ = true
    focus
     subst aZ;rw [if_pos rfl] at H;obtain rfl := oI H
    rotate_left
    focus
     replace aZ := qO.mpr aZ;subst aZ;rw [if_neg qT] at H
     by_cases c14 : ae = true
     focus
      subst c14;rw [if_pos rfl] at H
      by_cases c15 : ac = 0
      focus
       rw [if_pos c15] at H;have aV := qE.mpr c15;have aW := qN.mpr c15;clear c15;obtain rfl := oI H
      rotate_left
      focus
       rw [if_neg c15] at H;have aV := qF.mpr c15;have aW := qB.mpr c15;obtain rfl := oI H
     rotate_left 2
     focus
      replace c14 := qO.mpr c14;subst c14;rw [if_neg qT] at H
      by_cases aU : ac = 0
      focus
       rw [if_pos aU] at H;have aX := qE.mpr aU;have aY := qN.mpr aU;clear aU;obtain rfl := oI H
      rotate_left
      focus
       rw [if_neg aU] at H;have aX := qF.mpr aU;have aY := qB.mpr aU;obtain ⟨t246,a5,H⟩ := bE_ H;obtain ⟨t247,a6,H⟩ := bE_ H;obtain rfl := oI H
    all_goals
     (try obtain ⟨ai,aj,ak,al,am,an,ao,ap⟩ := z4_ ab.out);go_wp2_with (first|(go_at_call 164;(with_reducible refine (Fa4.calls _ _ _ _ _ a5.out).mono ?_);rintro e w' ⟨rfl,⟨nd,rfl⟩⟩;(try first|exact ⟨rfl,_,wD _ _ _⟩|exact ⟨rfl,_,Eq.trans (wD _ _ _) (congrArg (World.drewN _) (Nat.add_assoc _ _ _))⟩))|(go_at_call 121;(with_reducible refine (Fbd.calls _ _ _ _ _ a6.out).mono ?_);rintro e w' ⟨rfl,⟨nd,rfl⟩⟩;(try first|exact ⟨rfl,_,wD _ _ _⟩|exact ⟨rfl,_,Eq.trans (wD _ _ _) (congrArg (World.drewN _) (Nat.add_assoc _ _ _))⟩)))
     first
      |
       (repeat (go_quiet (fail);try go_wp2));go_ret;exact ⟨vR_,wB_⟩
      |
       (repeat (go_quiet (first|(go_at_call 164;(with_reducible refine (Fa4.calls _ _ _ _ _ a5.out).mono ?_);rintro e w' ⟨rfl,⟨nd,rfl⟩⟩;(try first|exact ⟨rfl,_,wD _ _ _⟩|exact ⟨rfl,_,Eq.trans (wD _ _ _) (congrArg (World.drewN _) (Nat.add_assoc _ _ _))⟩))|(go_at_call 121;(with_reducible refine (Fbd.calls _ _ _ _ _ a6.out).mono ?_);rintro e w' ⟨rfl,⟨nd,rfl⟩⟩;(try first|exact ⟨rfl,_,wD _ _ _⟩|exact ⟨rfl,_,Eq.trans (wD _ _ _) (congrArg (World.drewN _) (Nat.add_assoc _ _ _))⟩)));try go_wp2_with (first|(go_at_call 164;(with_reducible refine (Fa4.calls _ _ _ _ _ a5.out).mono ?_);rintro e w' ⟨rfl,⟨nd,rfl⟩⟩;(try first|exact ⟨rfl,_,wD _ _ _⟩|exact ⟨rfl,_,Eq.trans (wD _ _ _) (congrArg (World.drewN _) (Nat.add_assoc _ _ _))⟩))|(go_at_call 121;(with_reducible refine (Fbd.calls _ _ _ _ _ a6.out).mono ?_);rintro e w' ⟨rfl,⟨nd,rfl⟩⟩;(try first|exact ⟨rfl,_,wD _ _ _⟩|exact ⟨rfl,_,Eq.trans (wD _ _ _) (congrArg (World.drewN _) (Nat.add_assoc _ _ _))⟩)))));go_ret;exact ⟨vR_,wB_⟩
mutual
def Fav.j0 : Nat → Bool → ByteArray → Int → List (S157) → List (S157) → ByteArray → ByteArray → ByteArray → Int → Int → Int → Bool → Int → ByteArray → ByteArray → Option (Bool)
 | 0,_,_,_,_,_,_,_,_,_,_,_,_,_,_,_ => none
 | k + 1,av,ae,af,ag,ah,aa,ab,ac,ai,aj,ak,al,am,ad,an => if av = true then (some false) else ((FaZ.f k aa).bind fun ao => (if ao = true then ((FaZ.f k ab).bind fun ap => (if ap = true then ((FaZ.f k ac).bind fun ar => (if ar = true then ((FaZ.f k ad).bind fun au => (Fav.j1 k (!au) ae af ag ah aa ab ac ai aj ak al am ad an)) else (Fav.j1 k true ae af ag ah aa ab ac ai aj ak al am ad an))) else (Fav.j1 k true ae af ag ah aa ab ac ai aj ak al am ad an))) else (Fav.j1 k true ae af ag ah aa ab ac ai aj ak al am ad an)))
def Fav.j1 : Nat → Bool → ByteArray → Int → List (S157) → List (S157) → ByteArray → ByteArray → ByteArray → Int → Int → Int → Bool → Int → ByteArray → ByteArray → Option (Bool)
 | 0,_,_,_,_,_,_,_,_,_,_,_,_,_,_,_ => none
 | k + 1,ak,ab,x249001,x249002,x249003,x249004,x249005,x249006,ac,ad,ae,af,ag,x249012,aa => if ak = true then (some false) else ((Fba.f k ac ad ae af).bind fun ah => (if ah = true then ((Fbd.f ag 0 9999).bind fun ai => (if ai = true then (if aa.toList = ([] : List UInt8) then (some true) else ((FaD.f k aa).bind fun aj => (if aj = true then (some (aa.toList != ab.toList)) else (some false)))) else (some false))) else (some false)))
end
def Fav.f (k : Nat) (ae : ByteArray) (af : Int) (ag : List (S157)) (ah : List (S157)) (ai : ByteArray) (aj : ByteArray) (ak : ByteArray) (al : Int) (am : Int) (an : Int) (aa : Bool) (ab : Int) (ac : ByteArray) (ad : ByteArray) : Option (Bool) := (FaD.f k ae).bind fun ao => (if ao = true then ((Fbd.f af 1 4).bind fun ap => (if ap = true then ((Fax.f k ag).bind fun ar => (if ar = true then ((Fax.f k ah).bind fun au => (Fav.j0 k (!au) ae af ag ah ai aj ak al am an aa ab ac ad)) else (Fav.j0 k true ae af ag ah ai aj ak al am an aa ab ac ad))) else (Fav.j0 k true ae af ag ah ai aj ak al am an aa ab ac ad))) else (Fav.j0 k true ae af ag ah ai aj ak al am an aa ab ac ad))
theorem Fav.mono_l : ∀ k,(∀ y0 y1 y2 y3 y4 y5 y6 y7 y8 y9 aa ab ac ad ae,LeO (Fav.j0 k y0 y1 y2 y3 y4 y5 y6 y7 y8 y9 aa ab ac ad ae) (Fav.j0 (k + 1) y0 y1 y2 y3 y4 y5 y6 y7 y8 y9 aa ab ac ad ae)) ∧ (∀ y0 y1 y2 y3 y4 y5 y6 y7 y8 y9 aa ab ac ad ae,LeO (Fav.j1 k y0 y1 y2 y3 y4 y5 y6 y7 y8 y9 aa ab ac ad ae) (Fav.j1 (k + 1) y0 y1 y2 y3 y4 y5 y6 y7 y8 y9 aa ab ac ad ae))
 | 0 => ⟨fun _ _ _ _ _ _ _ _ _ _ _ _ _ _ _ r h => by simp [Fav.j0] at h,fun _ _ _ _ _ _ _ _ _ _ _ _ _ _ _ r h => by simp [Fav.j1] at h⟩
 | k + 1 => by
  obtain ⟨ih0,ih1⟩ := Fav.mono_l k
  refine ⟨?_,?_⟩
  all_goals (intros;first|unfold Fav.j0|unfold Fav.j1)
  all_goals repeat' (first|with_reducible (first|exact ih0 _ _ _ _ _ _ _ _ _ _ _ _ _ _ _|exact ih1 _ _ _ _ _ _ _ _ _ _ _ _ _ _ _|exact Fax.mono _ _|exact Fba.mono _ _ _ _ _|exact FaD.mono _ _|exact FaZ.mono _ _|exact LeO.refl _|exact LeO.none _|refine LeO.ite ?_ ?_|refine LeO.bind ?_ (fun _ => ?_))|exact LeO.none _|refine LeO.ite ?_ ?_|refine LeO.bind ?_ (fun _ => ?_))
theorem Fav.mono : ∀ a0 a1 a2 a3 a4 a5 a6 a7 a8 a9 aa ab ac ad k,LeO (Fav.f k a0 a1 a2 a3 a4 a5 a6 a7 a8 a9 aa ab ac ad) (Fav.f (k + 1) a0 a1 a2 a3 a4 a5 a6 a7 a8 a9 aa ab ac ad) := by
 intro a0 a1 a2 a3 a4 a5 a6 a7 a8 a9 aa ab ac ad k
 obtain ⟨ih0,ih1⟩ := Fav.mono_l k
 unfold Fav.f
 repeat' (first|with_reducible (first|exact ih0 _ _ _ _ _ _ _ _ _ _ _ _ _ _ _|exact ih1 _ _ _ _ _ _ _ _ _ _ _ _ _ _ _|exact Fax.mono _ _|exact Fba.mono _ _ _ _ _|exact FaD.mono _ _|exact FaZ.mono _ _|exact LeO.refl _|exact LeO.none _|refine LeO.ite ?_ ?_|refine LeO.bind ?_ (fun _ => ?_))|exact LeO.none _|refine LeO.ite ?_ ?_|refine LeO.bind ?_ (fun _ => ?_))
theorem Fav.calls (k : Nat) (ah : ByteArray) (ai : Int) (a0 : Option Addr) (a1 : Nat) (af : List (S157)) (a2 : Option Addr) (a3 : Nat) (ag : List (S157)) (aj : ByteArray) (an : ByteArray) (ao : ByteArray) (ak : Int) (al : Int) (am : Int) (ab : Bool) (ad : Int) (ae : ByteArray) (ac : ByteArray) (r : Bool) (w : World) (a5 : Kd.C k157 w a0 af.length af) (a6 : af.length ≤ a1) (a7 : Kd.C k157 w a2 ag.length ag) (a8 : ag.length ≤ a3) (h : Fav.f k ah ai af ag aj an ao ak al am ab ad ae ac = some r) :
  Calls Tryz.prog 60 #[.agg #[.string ah,.int .i64 ai,.slice a0 af.length a1,.slice a2 ag.length a3,.string aj,.string an,.string ao,.int .i64 ak,.int .i64 al,.int .i64 am,.bool ab,.int .i64 ad,.string ae,.string ac]] w fun e w' => e = .returned (.bool r) ∧ Below w.heap.size w w' := by
 have hu41 := Tryz.underlying41;have hu39 := Tryz.underlying39;have bf := aM a5;have bg := aM a6;clear a5 a6;have bh := aM a7;have bi := aM a8;clear a7 a8;have HB := aM (Below.refl w.heap.size w);have H : ((FaD.f k ah).bind fun a9 => (if a9 = true then ((Fbd.f ai 1 4).bind fun ba => (if ba = true then ((Fax.f k af).bind fun bb => (if bb = true then ((Fax.f k ag).bind fun bc => (Fav.j0 k (!bc) ah ai af ag aj an ao ak al am ab ad ae ac)) else (Fav.j0 k true ah ai af ag aj an ao ak al am ab ad ae ac))) else (Fav.j0 k true ah ai af ag aj an ao ak al am ab ad ae ac))) else (Fav.j0 k true ah ai af ag aj an ao ak al am ab ad ae ac))) = some r := h;clear h;have bv := aM H;clear H;go_enter Tryz.func60,Tryz.ntmps60;go_upto_region 1 with (first|((with_reducible refine gate_dst (N := 1) rfl ?_);refine bx_ (N := 1) (cs := #[.string ah,.int .i64 ai,.slice a0 af.length a1,.slice a2 ag.length a3,.string aj,.string an,.string ao,.int .i64 ak,.int .i64 al,.int .i64 am,.bool ab,.int .i64 ad,.string ae,.string ac]) (t := 41) ?_;intro a4 hg w3 hbox hb;have aa := aM (hbox);have bj := aM ((by rw [hg];exact (lZ wB_) : w.heap.size ≤ a4));have GE248 := bj;replace HB := aM (lT wB_ hb);clear hb hbox hg));(try simp only [Act.put,lI,sZ,sS]);go_cut [24] (fun bK wc => ∃ (kq : Nat) (aZ : Bool),bK = .bool aZ ∧ Aside0 (Fav.j0 kq aZ ah ai af ag aj an ao ak al am ab ad ae ac = some r) ∧ Aside0 (kq ≤ k) ∧ Aside0 (wc.heap[a4]? = some (.cells #[.string ah,.int .i64 ai,(.slice a0 af.length a1),(.slice a2 ag.length a3),.string aj,.string an,.string ao,.int .i64 ak,.int .i64 al,.int .i64 am,.bool ab,.int .i64 ad,.string ae,.string ac] 41 (0,0))) ∧ Aside0 (Below w.heap.size w wc))
 case first =>
  have H := bv.out;clear bv;obtain ⟨a9,A4,H⟩ := bE_ H
  by_cases c5 : a9 = true
  focus
   subst c5;rw [if_pos rfl] at H;obtain ⟨ba,A6,H⟩ := bE_ H
   by_cases c7 : ba = true
   focus
    subst c7;rw [if_pos rfl] at H;obtain ⟨bb,A8,H⟩ := bE_ H
    by_cases c9 : bb = true
    focus
     subst c9;rw [if_pos rfl] at H;obtain ⟨bc,bL,H⟩ := bE_ H;have H' := aM H;clear H
    rotate_left
    focus
     replace c9 := qO.mpr c9;subst c9;rw [if_neg qT] at H;have H' := aM H;clear H
   rotate_left 2
   focus
    replace c7 := qO.mpr c7;subst c7;rw [if_neg qT] at H;have H' := aM H;clear H
  rotate_left 3
  focus
   replace c5 := qO.mpr c5;subst c5;rw [if_neg qT] at H;have H' := aM H;clear H
  all_goals
   obtain ⟨aA,aC,aD,aE,aF,aG,aH,aJ,aK,aL,ap,ar,au,av,aN,aO,aP,aQ,aR,aT,aU,aV,aW,aX,aw,ax,ay,az⟩ := z14_ aa.out;go_wp2_with (first|((with_reducible refine gate_callee (f := 120) rfl ?_);refine gl_ (some 5) Tryz.func120 #[.string ah] ?_;(with_reducible refine (FaD.calls _ _ _ _ A4.out).mono ?_);rintro e w' ⟨rfl,⟨nd,rfl⟩⟩;refine ⟨_,rfl,?_⟩)|(go_at_call 121;(with_reducible refine (Fbd.calls _ _ _ _ _ A6.out).mono ?_);rintro e w' ⟨rfl,⟨nd,rfl⟩⟩)|(go_at_call 122;(with_reducible refine (Fax.calls _ _ _ _ _ _ ?side1 ?side2 A8.out).mono ?_);(case side1 => repeat (first|exact (cB bf.out wB_)|(with_reducible first|refine cA ?_ _|refine cN ?_ _|refine cD ?_)));(case side2 => exact bg.out);rintro e WA8 ⟨rfl,hb⟩;replace aa := aM (bw_ aa.out hb);replace HB := aM (lT wB_ hb);obtain ⟨_,_,_,_,_,_,_,_,_,_,_,_,_,_,_,_,_,_,_,_,_,_,_,_,_,_,_,_⟩ := z14_ aa.out)|(go_at_call 122;(with_reducible refine (Fax.calls _ _ _ _ _ _ ?side1 ?side2 bL.out).mono ?_);(case side1 => exact wX_ bh.out);(case side2 => exact bi.out);rintro e WA10 ⟨rfl,hb⟩;replace aa := aM (bw_ aa.out hb);replace HB := aM (lT wB_ hb)));go_meet
   case rel => first|(exact ⟨_,(!bc),vR_,H',⟨by first|omega|exact Nat.le_refl _⟩,⟨wC_ aa.out⟩,⟨wB_⟩⟩)|(exact ⟨_,(true),vR_,H',⟨by first|omega|exact Nat.le_refl _⟩,⟨wC_ aa.out⟩,⟨wB_⟩⟩)
 case rest =>
  clear bv;obtain ⟨kq,aZ,rfl,HA,bJ,aa,HB⟩ := hcut
  cases kq with
  | zero => exact absurd HA.out (by simp [Fav.j0])
  | succ bM =>
   have H := HA.out;clear HA;simp only [Fav.j0] at H
   by_cases bm : aZ = true
   ·subst bm;rw [if_pos rfl] at H;obtain rfl := oI H;go_wp2;go_ret;exact ⟨vR_,wB_⟩
   ·replace bm := qO.mpr bm;subst bm;rw [if_neg qT] at H;have bd := aM H;clear H;go_upto_region 3 with (fail);go_cut [46] (fun bO wc => ∃ (kq : Nat) (aY : Bool),bO = .bool aY ∧ Aside0 (Fav.j1 kq aY ah ai af ag aj an ao ak al am ab ad ae ac = some r) ∧ Aside0 (kq ≤ bM) ∧ Aside0 (wc.heap[a4]? = some (.cells #[.string ah,.int .i64 ai,(.slice a0 af.length a1),(.slice a2 ag.length a3),.string aj,.string an,.string ao,.int .i64 ak,.int .i64 al,.int .i64 am,.bool ab,.int .i64 ad,.string ae,.string ac] 41 (0,0))) ∧ Aside0 (Below w.heap.size w wc))
    case first =>
     have H := bd.out;clear bd;obtain ⟨bw,bP,H⟩ := bE_ H
     by_cases bn : bw = true
     focus
      subst bn;rw [if_pos rfl] at H;obtain ⟨bz,bQ,H⟩ := bE_ H
      by_cases bo : bz = true
      focus
       subst bo;rw [if_pos rfl] at H;obtain ⟨bB,bR,H⟩ := bE_ H
       by_cases bp : bB = true
       focus
        subst bp;rw [if_pos rfl] at H;obtain ⟨bE,bS,H⟩ := bE_ H;have H' := aM H;clear H
       rotate_left
       focus
        replace bp := qO.mpr bp;subst bp;rw [if_neg qT] at H;have H' := aM H;clear H
      rotate_left 2
      focus
       replace bo := qO.mpr bo;subst bo;rw [if_neg qT] at H;have H' := aM H;clear H
     rotate_left 3
     focus
      replace bn := qO.mpr bn;subst bn;rw [if_neg qT] at H;have H' := aM H;clear H
     all_goals
      obtain ⟨aA,aC,aD,aE,aF,aG,aH,aJ,aK,aL,ap,ar,au,av,aN,aO,aP,aQ,aR,aT,aU,aV,aW,aX,aw,ax,ay,az⟩ := z14_ aa.out;go_wp2_with (first|((with_reducible refine gate_callee (f := 123) rfl ?_);refine gl_ (some 27) Tryz.func123 #[.string aj] ?_;(with_reducible refine (FaZ.calls _ _ _ _ bP.out).mono ?_);rintro e w' ⟨rfl,⟨nd,rfl⟩⟩;refine ⟨_,rfl,?_⟩)|(go_at_call 123;(with_reducible refine (FaZ.calls _ _ _ _ bQ.out).mono ?_);rintro e w' ⟨rfl,⟨nd,rfl⟩⟩)|(go_at_call 123;(with_reducible refine (FaZ.calls _ _ _ _ bR.out).mono ?_);rintro e w' ⟨rfl,⟨nd,rfl⟩⟩)|(go_at_call 123;(with_reducible refine (FaZ.calls _ _ _ _ bS.out).mono ?_);rintro e w' ⟨rfl,⟨nd,rfl⟩⟩));go_meet
      case rel => first|(exact ⟨_,(!bE),vR_,H',⟨by have := bJ.out;first|omega|exact Nat.le_refl _⟩,⟨wC_ aa.out⟩,⟨wB_⟩⟩)|(exact ⟨_,(true),vR_,H',⟨by have := bJ.out;first|omega|exact Nat.le_refl _⟩,⟨wC_ aa.out⟩,⟨wB_⟩⟩)
    case rest =>
     clear bd;obtain ⟨kq,aY,rfl,HA,HJ19,aa,HB⟩ := hcut
     cases kq with
     | zero => exact absurd HA.out (by simp [Fav.j1])
     | succ kj19 =>
      have H := HA.out;clear HA;simp only [Fav.j1] at H
      by_cases bq : aY = true
      focus
       subst bq;rw [if_pos rfl] at H;obtain rfl := oI H
      rotate_left
      focus
       replace bq := qO.mpr bq;subst bq;rw [if_neg qT] at H;obtain ⟨bG,bT,H⟩ := bE_ H
       by_cases br : bG = true
       focus
        subst br;rw [if_pos rfl] at H;obtain ⟨bH,bU,H⟩ := bE_ H
        by_cases bs : bH = true
        focus
         subst bs;rw [if_pos rfl] at H
         by_cases be : ac.toList = ([] : List UInt8)
         focus
          rw [if_pos be] at H;have bk := qE.mpr be;have bl := qN.mpr be;clear be;obtain rfl := oI H
         rotate_left
         focus
          rw [if_neg be] at H;have bk := qF.mpr be;have bl := qB.mpr be;obtain ⟨bI,bV,H⟩ := bE_ H
          by_cases bu : bI = true
          focus
           subst bu;rw [if_pos rfl] at H;obtain rfl := oI H
          rotate_left
          focus
           replace bu := qO.mpr bu;subst bu;rw [if_neg qT] at H;obtain rfl := oI H
        rotate_left 3
        focus
         replace bs := qO.mpr bs;subst bs;rw [if_neg qT] at H;obtain rfl := oI H
       rotate_left 4
       focus
        replace br := qO.mpr br;subst br;rw [if_neg qT] at H;obtain rfl := oI H
      all_goals
       (try obtain ⟨aA,aC,aD,aE,aF,aG,aH,aJ,aK,aL,ap,ar,au,av,aN,aO,aP,aQ,aR,aT,aU,aV,aW,aX,aw,ax,ay,az⟩ := z14_ aa.out);go_wp2_with (first|((with_reducible refine gate_callee (f := 124) rfl ?_);refine gl_ (some 49) Tryz.func124 #[.agg #[.int .i64 ak,.int .i64 al,.int .i64 am,.bool ab]] ?_;(with_reducible refine (Fba.calls _ _ _ _ _ _ _ bT.out).mono ?_);rintro e WA33 ⟨rfl,hb⟩;refine ⟨_,rfl,?_⟩;replace aa := aM (bw_ aa.out hb);replace HB := aM (lT wB_ hb);obtain ⟨_,_,_,_,_,_,_,_,_,_,_,_,_,_,_,_,_,_,_,_,_,_,_,_,_,_,_,_⟩ := z14_ aa.out)|(go_at_call 121;(with_reducible refine (Fbd.calls _ _ _ _ _ bU.out).mono ?_);rintro e w' ⟨rfl,⟨nd,rfl⟩⟩)|(go_at_call 120;(with_reducible refine (FaD.calls _ _ _ _ bV.out).mono ?_);rintro e w' ⟨rfl,⟨nd,rfl⟩⟩));go_ret;exact ⟨vR_,wB_⟩
end Go.Proofs.YtmafmhgmdegplaaGreatDoor.P
