/- Walks: each Go function computes the Lean function beside it; conditions: those of each theorem. -/
import Derived.Test.YtmafmhgmdegplaaGreatDoorZPx0
import Derived.Test.YtmafmhgmdegplaaGreatDoorZPx23
import Derived.Lib.AppendIntMem
import Derived.Test.YtmafmhgmdegplaaGreatDoorZShelf
import Derived.Sort.OwnSorted
namespace Go.Proofs.YtmafmhgmdegplaaGreatDoor.P
open Go.RowKit Go.Proofs.YtmafmhgmdegplaaGreatDoorW.PrintWords Go.Proofs.YtmafmhgmdegplaaGreatDoorW.PrintLast Go.Proofs.YtmafmhgmdegplaaGreatDoorW.PrintMore
attribute [local go_sem] max2_int min2_int max_two min_two max_three min_three max_four min_four   -- for this text's walks alone
set_option linter.unusedVariables false
set_option linter.unusedSimpArgs false
set_option maxHeartbeats 8000000
set_option maxRecDepth 100000
def FaB.j0 : Nat → ByteArray → Bool → List ByteArray → ByteArray → ByteArray → ByteArray → Option (ByteArray)
 | 0,_,_,_,_,_,_ => none
 | k + 1,x3,ad,ac,x502001,x502002,aa => if ad = true then ((Fbs.f ac (⟨#[32]⟩ : ByteArray)).bind fun ab => (if 2 + ab.size ≤ 9223372036854775807 then (if x3.size + ((⟨#[44,32]⟩ : ByteArray) ++ ab).size ≤ 9223372036854775807 then (if aa.toList = ([] : List UInt8) then (some (x3 ++ ((⟨#[44,32]⟩ : ByteArray) ++ ab))) else (if 2 + aa.size ≤ 9223372036854775807 then (if (x3 ++ ((⟨#[44,32]⟩ : ByteArray) ++ ab)).size + ((⟨#[44,32]⟩ : ByteArray) ++ aa).size ≤ 9223372036854775807 then (some ((x3 ++ ((⟨#[44,32]⟩ : ByteArray) ++ ab)) ++ ((⟨#[44,32]⟩ : ByteArray) ++ aa))) else (none)) else (none))) else (none)) else (none))) else (if aa.toList = ([] : List UInt8) then (some x3) else (if 2 + aa.size ≤ 9223372036854775807 then (if x3.size + ((⟨#[44,32]⟩ : ByteArray) ++ aa).size ≤ 9223372036854775807 then (some (x3 ++ ((⟨#[44,32]⟩ : ByteArray) ++ aa))) else (none)) else (none)))
def FaB.f (k : Nat) (aa : List ByteArray) (ab : ByteArray) (ac : ByteArray) (ad : ByteArray) : Option (ByteArray) := (Fb0.f (([ab,ac] : List ByteArray))).bind fun ae => (if (aa.length : Int) > 0 then (FaB.j0 k ae true aa ab ac ad) else (FaB.j0 k ae (ad.toList != ([] : List UInt8)) aa ab ac ad))
theorem FaB.mono_l : ∀ k,(∀ y0 y1 y2 y3 y4 y5,LeO (FaB.j0 k y0 y1 y2 y3 y4 y5) (FaB.j0 (k + 1) y0 y1 y2 y3 y4 y5))
 | 0 => fun _ _ _ _ _ _ r h => by simp [FaB.j0] at h
 | k + 1 => by
  have ih0 := FaB.mono_l k
  ·intro y0 y1 y2 y3 y4 y5
   unfold FaB.j0
   repeat' (first|with_reducible (first|exact ih0 _ _ _ _ _ _|exact LeO.refl _|exact LeO.none _|refine LeO.ite ?_ ?_|refine LeO.bind ?_ (fun _ => ?_))|exact LeO.none _|refine LeO.ite ?_ ?_|refine LeO.bind ?_ (fun _ => ?_))
theorem FaB.mono : ∀ a0 a1 a2 a3 k,LeO (FaB.f k a0 a1 a2 a3) (FaB.f (k + 1) a0 a1 a2 a3) := by
 intro a0 a1 a2 a3 k
 have ih0 := FaB.mono_l k
 unfold FaB.f
 repeat' (first|with_reducible (first|exact ih0 _ _ _ _ _ _|exact LeO.refl _|exact LeO.none _|refine LeO.ite ?_ ?_|refine LeO.bind ?_ (fun _ => ?_))|exact LeO.none _|refine LeO.ite ?_ ?_|refine LeO.bind ?_ (fun _ => ?_))
theorem FaB.calls (k : Nat) (av : Option Addr) (aw : Nat) (ac : List ByteArray) (ae : ByteArray) (af : ByteArray) (aa : ByteArray) (r : ByteArray) (w : World) (az : Kd.C Kd.string w av ac.length ac) (aA : ac.length ≤ aw) (h : FaB.f k ac ae af aa = some r) :
  Calls Tryz.prog 233 #[.agg #[.slice av ac.length aw,.string ae,.string af,.string aa]] w fun e w' => e = .returned (.string r) ∧ Below w.heap.size w w' := by
 have hu157 := Tryz.underlying157;have aH := aM az;have aJ := aM aA;clear az aA;have HB := aM (Below.refl w.heap.size w);have H : ((Fb0.f (([ae,af] : List ByteArray))).bind fun ad => (if (ac.length : Int) > 0 then (FaB.j0 k ad true ac ae af aa) else (FaB.j0 k ad (aa.toList != ([] : List UInt8)) ac ae af aa))) = some r := h;clear h;obtain ⟨ax,ay⟩ : ∃ y_ : List ByteArray,y_ = (([ae,af] : List ByteArray)) := ⟨_,rfl⟩;replace H : ((Fb0.f ax).bind fun ad => (if (ac.length : Int) > 0 then (FaB.j0 k ad true ac ae af aa) else (FaB.j0 k ad (aa.toList != ([] : List UInt8)) ac ae af aa))) = some r := (yH_ ay H);have aC := aM ay;clear ay;obtain ⟨ad,A2,H⟩ := bE_ H;have aV := aM H;clear H;go_enter Tryz.func233,Tryz.ntmps233;go_upto_region 2 with (first|((with_reducible refine gate_dst (N := 1) rfl ?_);refine bx_ (N := 1) (cs := #[.slice av ac.length aw,.string ae,.string af,.string aa]) (t := 157) ?_;intro aD hg w4 hbox hb;have ab := aM (hbox);have aK := aM ((by rw [hg];exact (lZ wB_) : w.heap.size ≤ aD));have aL := aK;replace HB := aM (lT wB_ hb);clear hb hbox hg;obtain ⟨_,_,_,_,_,_,_,_⟩ := z4_ ab.out)|((with_reducible refine gate_dst (N := 8) rfl ?_);refine Kd.R_lit Kd.string _ 9 ?hg (N := 8) ?hd (xs := ([ae,af] : List ByteArray)) (inner := [.string ae,.string af]) (ok := fun _ => True) (okp := fun _ => True) ?hr ?hp (fun _ hk => hk) trivial (Below.refl _ _) (Nat.le_refl _) (by simp) ?_;(case hd => rfl);(case hg => rfl);(case hr => first|(go_simp;done)|(go_simp;rfl));(case hp => exact (Reps.one (show Kd.M Kd.string _ _ _ ae [.string ae] from rfl) (Reps.one (show Kd.M Kd.string _ _ _ af [.string af] from rfl) (Reps.none _ _))));intro v503 w6 aN hb hg_ hnew_;clear hg_ hnew_;(first|rw [← aC.out] at aN|(simp only [Int.reduceToNat] at aN;rw [← aC.out] at aN));have ai := aM (Kd.R_lower aN (lZ wB_));replace ab := aM (bw_ ab.out hb);replace HB := aM (lT wB_ hb);clear hb aN;obtain ⟨aW,aX,aY⟩ := Kd.R_slice ai.out;subst aY)|((with_reducible refine gate_callee (f := 262) rfl ?_);refine gl_ (some 9) Tryz.func262 #[.slice aW ax.length aX] ?_;(with_reducible refine (Fb0.calls (fun k_ => some k_ = (.slice aW ax.length aX : Value).ownBlock) (.slice aW ax.length aX) ax ad w _ ?side1 ?side2 A2.out).mono ?_);(case side1 => repeat (first|(with_reducible first|exact HB.out|apply lA|apply lN|apply lD|refine lS ?_ aL.out)|exact HB.out));(case side2 => exact Kd.R_tight rfl ai.out);rintro e w9 ⟨rfl,hb,hkp⟩;refine ⟨_,rfl,?_⟩;have n0_ := aM (blk_kept (wC_ ab.out) hkp (fun hs_ => (fun e_ => (Kd.R_ne ai.out ab.out (by decide)) e_) hs_));have n1_ := aM (hb);clear ab;clear HB;clear ai;have ab := n0_;have HB := n1_;clear n0_ n1_));(try simp only [Act.put,lI,sZ,sS]);go_cut [18] (fun aZ wc => ∃ (kq : Nat) (aj : Bool),aZ = .bool aj ∧ Aside0 (FaB.j0 kq ad aj ac ae af aa = some r) ∧ Aside0 (kq ≤ k) ∧ Aside0 (wc.heap[aD]? = some (.cells #[(.slice av ac.length aw),.string ae,.string af,.string aa] 157 (0,0))) ∧ Aside0 (Below w.heap.size w wc))
 case first =>
  have H := aV.out;clear aV
  by_cases c10 : (ac.length : Int) > 0
  focus
   rw [if_pos c10] at H;have ag : decide (0 < (ac.length : Int)) = true := dT c10;have aO : decide (0 < ac.length) = true := dT (by omega);clear c10;(first|rw [ag]|(simp only [i64_w,i32_w];rw [ag])|skip);have H' := aM H;clear H
  rotate_left
  focus
   rw [if_neg c10] at H;have ag : decide (0 < (ac.length : Int)) = false := dF c10;have aO : decide (0 < ac.length) = false := dF (by omega);clear c10;(first|rw [ag]|(simp only [i64_w,i32_w];rw [ag])|skip);have H' := aM H;clear H
  all_goals
   obtain ⟨ak,al,am,an,ao,ap,ar,au⟩ := z4_ ab.out;go_wp2;go_meet
   case rel => first|(exact ⟨_,(true),vR_,H',⟨by first|omega|exact Nat.le_refl _⟩,⟨wC_ ab.out⟩,⟨wB_⟩⟩)|(exact ⟨_,((aa.toList != ([] : List UInt8))),vR_,H',⟨by first|omega|exact Nat.le_refl _⟩,⟨wC_ ab.out⟩,⟨wB_⟩⟩)
 case rest =>
  clear aV;obtain ⟨kq,aj,rfl,HA,HJ2,ab,HB⟩ := hcut
  cases kq with
  | zero => exact absurd HA.out (by simp [FaB.j0])
  | succ kj2 =>
   have H := HA.out;clear HA;simp only [FaB.j0] at H
   by_cases c13 : aj = true
   focus
    subst c13;rw [if_pos rfl] at H;obtain ⟨ah,a0,H⟩ := bE_ H
    by_cases c15 : 2 + ah.size ≤ 9223372036854775807
    rotate_left;rw [if_neg c15] at H;exact nH_ H;rw [if_pos c15] at H;have c15b0 := eq_true c15;have c15b1 := dT c15;(try have c15b2 : (9223372036854775807 < 2 + ah.size) = False := eq_false (Nat.not_lt.2 c15))
    by_cases c16 : ad.size + ((⟨#[44,32]⟩ : ByteArray) ++ ah).size ≤ 9223372036854775807
    rotate_left;rw [if_neg c16] at H;exact nH_ H;rw [if_pos c16] at H;have c16b0 := eq_true c16;have c16b1 := dT c16;(try have c16b3 : (9223372036854775807 < ad.size + (2 + ah.size)) = False := eq_false (by have h_ := c16;simp only [ByteArray.size_append,ByteArray.size_extract] at h_;have hs0_ : (⟨#[44,32]⟩ : ByteArray).size = 2 := rfl;omega));(try have c16b2 : (9223372036854775807 < ad.size + ((⟨#[44,32]⟩ : ByteArray) ++ ah).size) = False := eq_false (Nat.not_lt.2 c16))
    by_cases c17 : aa.toList = ([] : List UInt8)
    focus
     rw [if_pos c17] at H;have aP := qE.mpr c17;have aQ := qN.mpr c17;clear c17;obtain rfl := oI H
    rotate_left
    focus
     rw [if_neg c17] at H;have aP := qF.mpr c17;have aQ := qB.mpr c17
     by_cases aR : 2 + aa.size ≤ 9223372036854775807
     rotate_left;rw [if_neg aR] at H;exact nH_ H;rw [if_pos aR] at H;have c21b0 := eq_true aR;have c21b1 := dT aR;(try have c21b2 : (9223372036854775807 < 2 + aa.size) = False := eq_false (Nat.not_lt.2 aR))
     by_cases aF : (ad ++ ((⟨#[44,32]⟩ : ByteArray) ++ ah)).size + ((⟨#[44,32]⟩ : ByteArray) ++ aa).size ≤ 9223372036854775807
     rotate_left;rw [if_neg aF] at H;exact nH_ H;rw [if_pos aF] at H;have c22b0 := eq_true aF;have c22b1 := dT aF;(try have c22b3 : (9223372036854775807 < ad.size + (2 + ah.size) + (2 + aa.size)) = False := eq_false (by have h_ := aF;simp only [ByteArray.size_append,ByteArray.size_extract] at h_;have hs0_ : (⟨#[44,32]⟩ : ByteArray).size = 2 := rfl;omega));(try have c22b2 : (9223372036854775807 < (ad ++ ((⟨#[44,32]⟩ : ByteArray) ++ ah)).size + ((⟨#[44,32]⟩ : ByteArray) ++ aa).size) = False := eq_false (Nat.not_lt.2 aF));obtain rfl := oI H
   rotate_left 2
   focus
    replace c13 := qO.mpr c13;subst c13;rw [if_neg qT] at H
    by_cases aE : aa.toList = ([] : List UInt8)
    focus
     rw [if_pos aE] at H;have aT := qE.mpr aE;have aU := qN.mpr aE;clear aE;obtain rfl := oI H
    rotate_left
    focus
     rw [if_neg aE] at H;have aT := qF.mpr aE;have aU := qB.mpr aE
     by_cases c28 : 2 + aa.size ≤ 9223372036854775807
     rotate_left;rw [if_neg c28] at H;exact nH_ H;rw [if_pos c28] at H;have c28b0 := eq_true c28;have c28b1 := dT c28;(try have c28b2 : (9223372036854775807 < 2 + aa.size) = False := eq_false (Nat.not_lt.2 c28))
     by_cases aG : ad.size + ((⟨#[44,32]⟩ : ByteArray) ++ aa).size ≤ 9223372036854775807
     rotate_left;rw [if_neg aG] at H;exact nH_ H;rw [if_pos aG] at H;have c29b0 := eq_true aG;have c29b1 := dT aG;(try have c29b3 : (9223372036854775807 < ad.size + (2 + aa.size)) = False := eq_false (by have h_ := aG;simp only [ByteArray.size_append,ByteArray.size_extract] at h_;have hs0_ : (⟨#[44,32]⟩ : ByteArray).size = 2 := rfl;omega));(try have c29b2 : (9223372036854775807 < ad.size + ((⟨#[44,32]⟩ : ByteArray) ++ aa).size) = False := eq_false (Nat.not_lt.2 aG));obtain rfl := oI H
   all_goals
    obtain ⟨ak,al,am,an,ao,ap,ar,au⟩ := z4_ ab.out;go_wp2_with (first|((with_reducible refine gate_callee (f := 188) rfl ?_);refine gl_ (some 22) Tryz.func188 #[.slice av ac.length aw,.string (⟨#[32]⟩ : ByteArray)] ?_;(with_reducible refine (Fbs.calls _ _ _ _ _ _ ?side1 ?side2 a0.out).mono ?_);(case side1 => exact wX_ aH.out);(case side2 => exact aJ.out);rintro e WA14 ⟨rfl,hb⟩;refine ⟨_,rfl,?_⟩;replace ab := aM (bw_ ab.out hb);replace HB := aM (lT wB_ hb);obtain ⟨_,_,_,_,_,_,_,_⟩ := z4_ ab.out));go_ret;exact ⟨vR_,wB_⟩
def FaH.l0 : Nat → List ByteArray → List (S157) → Int → Int → Option (ByteArray)
 | 0,_,_,_,_ => none
 | k + 1,x3,x7,x8,x9 => if x9 < x8 then (if 0 ≤ x9 then (if x9 < (x7.length : Int) then ((FaB.f k ((Fas x7 x9).f0) ((Fas x7 x9).f1) ((Fas x7 x9).f2) ((Fas x7 x9).f3)).bind fun aa => (if x3.length < 8796093022208 then (FaH.l0 k (x3 ++ [aa]) x7 x8 (wrap64 (x9 + 1))) else (none))) else (none)) else (none)) else ((Fbs.f x3 (⟨#[59,32]⟩ : ByteArray)).bind fun ab => (some ab))
def FaH.f (k : Nat) (l0 : List (S157)) : Option (ByteArray) := FaH.l0 k (([] : List ByteArray)) l0 (l0.length : Int) 0
theorem FaH.mono_l : ∀ k,(∀ y0 y1 y2 y3,LeO (FaH.l0 k y0 y1 y2 y3) (FaH.l0 (k + 1) y0 y1 y2 y3))
 | 0 => fun _ _ _ _ r h => by simp [FaH.l0] at h
 | k + 1 => by
  have ih0 := FaH.mono_l k
  ·intro y0 y1 y2 y3
   unfold FaH.l0
   repeat' (first|with_reducible (first|exact ih0 _ _ _ _|exact FaB.mono _ _ _ _ _|exact LeO.refl _|exact LeO.none _|refine LeO.ite ?_ ?_|refine LeO.bind ?_ (fun _ => ?_))|exact LeO.none _|refine LeO.ite ?_ ?_|refine LeO.bind ?_ (fun _ => ?_))
theorem FaH.mono : ∀ a0 k,LeO (FaH.f k a0) (FaH.f (k + 1) a0) := by
 intro a0 k
 have ih0 := FaH.mono_l k
 unfold FaH.f
 repeat' (first|with_reducible (first|exact ih0 _ _ _ _|exact FaB.mono _ _ _ _ _|exact LeO.refl _|exact LeO.none _|refine LeO.ite ?_ ?_|refine LeO.bind ?_ (fun _ => ?_))|exact LeO.none _|refine LeO.ite ?_ ?_|refine LeO.bind ?_ (fun _ => ?_))
theorem FaH.calls (k : Nat) (A0 : Option Addr) (c0 : Nat) (l0 : List (S157)) (r : ByteArray) (w : World) (aR : Kd.C k157 w A0 l0.length l0) (aT : l0.length ≤ c0) (h : FaH.f k l0 = some r) :
  Calls Tryz.prog 189 #[.slice A0 l0.length c0] w fun e w' => e = .returned (.string r) ∧ Below w.heap.size w w' := by
 have hu157 := Tryz.underlying157;have aW := aM aR;have HC0 := aM aT;clear aR aT;have HB := aM (Below.refl w.heap.size w);have H : (FaH.l0 k (([] : List ByteArray)) l0 (l0.length : Int) 0) = some r := h;clear h;obtain ⟨aw,af⟩ : ∃ y_ : List ByteArray,y_ = (([] : List ByteArray)) := ⟨_,rfl⟩;replace H : (FaH.l0 k aw l0 (l0.length : Int) 0) = some r := (yH_ af H);have ap := aM af;clear af;have H' := aM H;clear H;go_enter Tryz.func189,Tryz.ntmps189;go_wp2_with (first|((with_reducible refine gate_dst (N := 6) rfl ?_);refine Kd.R_lit Kd.string _ 9 ?hg (N := 6) ?hd (xs := ([] : List ByteArray)) (inner := []) (ok := fun _ => True) (okp := fun _ => True) ?hr ?hp (fun _ hk => hk) trivial (Below.refl _ _) (Nat.le_refl _) (by simp) ?_;(case hd => rfl);(case hg => rfl);(case hr => first|(go_simp;done)|(go_simp;rfl));(case hp => exact (Reps.none _ _));intro v508 w2 ax hb hg_ hnew_;clear hg_ hnew_;(first|rw [← ap.out] at ax|(simp only [Int.reduceToNat] at ax;rw [← ap.out] at ax));have ay := aM (Kd.R_lower ax (lZ wB_));replace HB := aM (lT wB_ hb);clear hb ax));go_loopg [3,9] k (fun kq v3 v9 w' => ∃ (ae : List ByteArray) (aa : Int),v9 = .int .i64 aa ∧ Aside0 (FaH.l0 kq ae l0 (l0.length : Int) aa = some r) ∧ Aside0 (kq ≤ k) ∧ Aside0 (Kd.R Kd.string 9 w' w.heap.size (fun _ => True) v3 ae) ∧ Aside0 (Below w.heap.size w w'))
 case atStart => exact ⟨(aw),(0),vR_,H',⟨Nat.le_refl _⟩,⟨wO_ ay.out⟩,⟨wB_⟩⟩
 case round =>
  clear H';obtain ⟨ae,aa,rfl,HA,aU,ac,HB⟩ := hrel
  cases gk with
  | zero => exact absurd HA.out (by simp [FaH.l0])
  | succ k1 =>
   have H := HA.out;clear HA;simp only [FaH.l0] at H
   by_cases c4 : aa < (l0.length : Int)
   focus
    rw [if_pos c4] at H;have aE := dT c4;clear c4
    by_cases c5 : 0 ≤ aa
    rotate_left;rw [if_neg c5] at H;exact nH_ H;rw [if_pos c5] at H;have c5b0 := dT c5;clear c5
    by_cases c6 : aa < (l0.length : Int)
    rotate_left;rw [if_neg c6] at H;exact nH_ H;rw [if_pos c6] at H;have c6b0 := dT c6;clear c6;obtain ⟨ar,A7,H⟩ := bE_ H
    by_cases c8 : ae.length < 8796093022208
    rotate_left;rw [if_neg c8] at H;exact nH_ H;rw [if_pos c8] at H;have aG := aM c8;clear c8;obtain ⟨az,ag⟩ : ∃ y_ : List ByteArray,y_ = (ae ++ [ar]) := ⟨_,rfl⟩;replace H : (FaH.l0 k1 az l0 (l0.length : Int) (wrap64 (aa + 1))) = some r := (yH_ ag H);have aA := aM ag;clear ag;have H' := aM H;clear H
   rotate_left
   focus
    rw [if_neg c4] at H;have aE := dF c4;clear c4;obtain ⟨t516,aX,H⟩ := bE_ H;obtain rfl := oI H;obtain ⟨aH,aJ,aK⟩ := Kd.R_slice ac.out;subst aK
   all_goals
    (try (have aN : 0 ≤ (aa : Int) := oD (by assumption);have aQ : aa < (l0.length : Int) := oD (by assumption);obtain ⟨ad01,ah,ai,aY,aj,ak,al,am,an,ao⟩ := Fcf aW.out aa aN aQ;cases aY;replace aj := mv_ HB.out aj;replace ak := mv_ HB.out ak;replace al := mv_ HB.out al;replace am := mv_ HB.out am;have au := aM ao;have av := aM an;clear ao an;replace aN := eq_true aN;replace aQ := eq_true aQ));go_wp2_with (first|((with_reducible refine gate_callee (f := 188) rfl ?_);refine gl_ (some 20) Tryz.func188 #[.slice aH ae.length aJ,.string (⟨#[59,32]⟩ : ByteArray)] ?_;(with_reducible refine (Fbs.calls _ _ _ _ _ _ ?side1 ?side2 aX.out).mono ?_);(case side1 => exact wY_ (rR ac.out).2.2);(case side2 => exact (rR ac.out).2.1);rintro e WA13 ⟨rfl,hb⟩;refine ⟨_,rfl,?_⟩;replace ac := aM (rB (wO_ ac.out) hb);replace HB := aM (lT wB_ hb))|((with_reducible refine gate_dst (N := 5) rfl ?_);refine bx_ (N := 5) (cs := #[.slice none 0 0,.string (⟨#[]⟩ : ByteArray),.string (⟨#[]⟩ : ByteArray),.string (⟨#[]⟩ : ByteArray)]) (t := 157) ?_;intro ad hg Wgb511 hbox hb;have ab := aM (hbox);have aC := aM ((by rw [hg];exact (lZ wB_) : w.heap.size ≤ ad));have GE511 := aC;replace ac := aM (rB (wO_ ac.out) hb);replace HB := aM (lT wB_ hb);clear hb hbox hg;obtain ⟨_,_,_,_,_,_,_,_⟩ := z4_ ab.out)|((with_reducible refine gate_callee (f := 233) rfl ?_);refine gl_ (some 15) Tryz.func233 #[.agg #[.slice ah ((Fas l0 aa).f0).length ai,.string ((Fas l0 aa).f1),.string ((Fas l0 aa).f2),.string ((Fas l0 aa).f3)]] ?_;(with_reducible refine (FaB.calls _ _ _ _ _ _ _ _ _ ?side1 ?side2 A7.out).mono ?_);(case side1 => exact cB au.out wB_);(case side2 => exact av.out);rintro e WA7 ⟨rfl,hb⟩;refine ⟨_,rfl,?_⟩;replace ac := aM (rB (by (with_reducible repeat (first|apply rA|apply rN|apply rD));exact (Kd.R_mono (rF (p := ⟨ad,3,none⟩) (rF (p := ⟨ad,2,none⟩) (rF (p := ⟨ad,1,none⟩) (rF (p := ⟨ad,0,none⟩) (Kd.R_types ac.out ab.out (by decide)) (fun _ hk => hk.2) (.slice ah ((Fas l0 aa).f0).length ai)) (fun _ hk => hk.2) (.string ((Fas l0 aa).f1))) (fun _ hk => hk.2) (.string ((Fas l0 aa).f2))) (fun _ hk => hk.2) (.string ((Fas l0 aa).f3))) (fun _ h_ => h_.1))) hb);replace ab := aM (bW (g := ad) (o := .cells #[.slice ah ((Fas l0 aa).f0).length ai,.string ((Fas l0 aa).f1),.string ((Fas l0 aa).f2),.string ((Fas l0 aa).f3)] 157 (0,0)) (bq4_ ab.out) hb);replace HB := aM (lT wB_ hb))|((with_reducible refine gate_builtin (b := .append) (xs := #[.tmp 13,.tmp 16]) rfl ?_);at_builtin;refine Kd.R_append Kd.string (w0 := w) w.heap.size rfl (.tmp 13) (.tmp 16) 50 9 (.string ⟨#[]⟩) 16 rfl Tryz.underlying50 info9 rfl (by decide) (by omega) u3 ae ar [.string ar] (fun _ => True) (fun _ => False) rfl rfl ?aP (fun _ hk => hk.elim) ?aF ?aO ?aB ?aS ?aL ?_;(case aP => exact rfl);(case aB => exact wB_);(case aF => exact (fun _ _ => trivial));(case aO => exact (wO_ ac.out));(case aS => exact (lZ wB_));(case aL => have := aG.out;omega);intro v514 w12 ho hb hg hat;rw [← aA.out] at ho;have n0_ := aM (bg_ ab.out hg (Kd.R_ne ac.out ab.out (by decide)));have n1_ := aM (hb);have aV := aM (ho);clear ab;clear HB;clear ac;have ab := n0_;have HB := n1_;have aD := aV;clear n0_ n1_ aV;clear ho hb hg hat))
    first
     |
      go_ret;exact ⟨vR_,wB_⟩
     |
      go_roundg k1
      case measure => have := aU.out;omega
      case rel => exact ⟨(az),(wrap64 (aa + 1)),vR_,H',⟨by have := aU.out;omega⟩,⟨wO_ aD.out⟩,⟨wB_⟩⟩
def FbK.f (a0 : Int) : Option (ByteArray) := if -9223372036854775808 ≤ a0 ∧ a0 ≤ 9223372036854775807 then some ⟨(Lib.itoa a0).toArray⟩ else none
theorem FbK.calls (a0 : Int) (r : ByteArray) (w : World) (hG : Gw w) (h : FbK.f a0 = some r) :
  Calls Tryz.prog 191 #[.int .i64 a0] w fun e w' => e = .returned (.string r) ∧ Below w.heap.size w w' := by
 unfold FbK.f at h;split at h
 ·rename_i hs;obtain rfl := oI h;refine (Tryz.strconv_Itoa a0 hs.1 hs.2 w hG.tab).mono ?_;rintro e w' ⟨rfl,k,os,rfl⟩;exact ⟨rfl,Lib.below_grow _ _ (Nat.le_refl _) _ _⟩
 ·cases h
def Fa1.l0 : Nat → Int → ByteArray → Option (ByteArray)
 | 0,_,_ => none
 | k + 1,x1,x5 => if (x5.size : Int) < x1 then (if 1 + x5.size ≤ 9223372036854775807 then (Fa1.l0 k x1 ((⟨#[48]⟩ : ByteArray) ++ x5)) else (none)) else (some x5)
def Fa1.f (k : Nat) (a0 : Int) (a1 : Int) : Option (ByteArray) := (FbK.f a0).bind fun aa => (Fa1.l0 k a1 aa)
theorem Fa1.mono_l : ∀ k,(∀ y0 y1,LeO (Fa1.l0 k y0 y1) (Fa1.l0 (k + 1) y0 y1))
 | 0 => fun _ _ r h => by simp [Fa1.l0] at h
 | k + 1 => by
  have ih0 := Fa1.mono_l k
  ·intro y0 y1
   unfold Fa1.l0
   repeat' (first|with_reducible (first|exact ih0 _ _|exact LeO.refl _|exact LeO.none _|refine LeO.ite ?_ ?_|refine LeO.bind ?_ (fun _ => ?_))|exact LeO.none _|refine LeO.ite ?_ ?_|refine LeO.bind ?_ (fun _ => ?_))
theorem Fa1.mono : ∀ a0 a1 k,LeO (Fa1.f k a0 a1) (Fa1.f (k + 1) a0 a1) := by
 intro a0 a1 k
 have ih0 := Fa1.mono_l k
 unfold Fa1.f
 repeat' (first|with_reducible (first|exact ih0 _ _|exact LeO.refl _|exact LeO.none _|refine LeO.ite ?_ ?_|refine LeO.bind ?_ (fun _ => ?_))|exact LeO.none _|refine LeO.ite ?_ ?_|refine LeO.bind ?_ (fun _ => ?_))
theorem Fa1.calls (k : Nat) (a0 : Int) (a1 : Int) (r : ByteArray) (w : World) (hG : Gw w) (h : Fa1.f k a0 a1 = some r) :
  Calls Tryz.prog 234 #[.int .i64 a0,.int .i64 a1] w fun e w' => e = .returned (.string r) ∧ Below w.heap.size w w' := by
 have HB := aM (Below.refl w.heap.size w);have HG := aM hG;clear hG;have H : ((FbK.f a0).bind fun ab => (Fa1.l0 k a1 ab)) = some r := h;clear h;obtain ⟨ab,A3,H⟩ := bE_ H;have H' := aM H;clear H;go_enter Tryz.func234,Tryz.ntmps234;go_wp2_with (first|((with_reducible refine gate_callee (f := 191) rfl ?_);refine gl_ (some 7) Tryz.func191 #[.int .i64 a0] ?_;(with_reducible refine (FbK.calls a0 ab _ ?side1 A3.out).mono ?_);(case side1 => exact Gw.below HG.out wB_);rintro e w4 ⟨rfl,hb⟩;refine ⟨_,rfl,?_⟩;replace HB := aM (lT wB_ hb)));go_loopg [5] k (fun kq v5 w' => ∃ (aa : ByteArray),v5 = .string aa ∧ Aside0 (Fa1.l0 kq a1 aa = some r) ∧ Aside0 (kq ≤ k) ∧ Aside0 (Below w.heap.size w w'))
 case atStart => exact ⟨(ab),vR_,H',⟨Nat.le_refl _⟩,⟨wB_⟩⟩
 case round =>
  clear H';obtain ⟨aa,rfl,HA,ad,HB⟩ := hrel
  cases gk with
  | zero => exact absurd HA.out (by simp [Fa1.l0])
  | succ k1 =>
   have H := HA.out;clear HA;simp only [Fa1.l0] at H
   by_cases c5 : (aa.size : Int) < a1
   ·rw [if_pos c5] at H;have ac := dT c5;clear c5
    by_cases c6 : 1 + aa.size ≤ 9223372036854775807
    ·rw [if_pos c6] at H;have c6b0 := eq_true c6;have c6b1 := dT c6;(try have c6b2 : (9223372036854775807 < 1 + aa.size) = False := eq_false (Nat.not_lt.2 c6));have H' := aM H;clear H;go_wp2;go_roundg k1
     case measure => have := ad.out;omega
     case rel => exact ⟨((⟨#[48]⟩ : ByteArray) ++ aa),vR_,H',⟨by have := ad.out;omega⟩,⟨wB_⟩⟩
    ·rw [if_neg c6] at H;exact nH_ H
   ·rw [if_neg c5] at H;have ac := dF c5;clear c5;obtain rfl := oI H;go_wp2;go_ret;exact ⟨vR_,wB_⟩
def FaQ.j0 : Nat → ByteArray → Int → Int → Int → Bool → Option (ByteArray)
 | 0,_,_,_,_,_ => none
 | k + 1,x3,x519000,ab,aa,x519003 => if ab > 0 then ((Fa1.f k ab 2).bind fun ac => (if 1 + ac.size ≤ 9223372036854775807 then (if x3.size + ((⟨#[45]⟩ : ByteArray) ++ ac).size ≤ 9223372036854775807 then (if aa > 0 then ((Fa1.f k aa 2).bind fun ad => (if 1 + ad.size ≤ 9223372036854775807 then (if (x3 ++ ((⟨#[45]⟩ : ByteArray) ++ ac)).size + ((⟨#[45]⟩ : ByteArray) ++ ad).size ≤ 9223372036854775807 then (some ((x3 ++ ((⟨#[45]⟩ : ByteArray) ++ ac)) ++ ((⟨#[45]⟩ : ByteArray) ++ ad))) else (none)) else (none))) else (some (x3 ++ ((⟨#[45]⟩ : ByteArray) ++ ac)))) else (none)) else (none))) else (if aa > 0 then ((Fa1.f k aa 2).bind fun ae => (if 1 + ae.size ≤ 9223372036854775807 then (if x3.size + ((⟨#[45]⟩ : ByteArray) ++ ae).size ≤ 9223372036854775807 then (some (x3 ++ ((⟨#[45]⟩ : ByteArray) ++ ae))) else (none)) else (none))) else (some x3))
def FaQ.f (k : Nat) (aa : Int) (ad : Int) (ae : Int) (ab : Bool) : Option (ByteArray) := if aa = 0 then (some (⟨#[117,110,107,110,111,119,110]⟩ : ByteArray)) else ((Fa1.f k aa 4).bind fun ac => (if ab = true then (if 1 + ac.size ≤ 9223372036854775807 then (FaQ.j0 k ((⟨#[99]⟩ : ByteArray) ++ ac) aa ad ae ab) else (none)) else (FaQ.j0 k ac aa ad ae ab)))
theorem FaQ.mono_l : ∀ k,(∀ y0 y1 y2 y3 y4,LeO (FaQ.j0 k y0 y1 y2 y3 y4) (FaQ.j0 (k + 1) y0 y1 y2 y3 y4))
 | 0 => fun _ _ _ _ _ r h => by simp [FaQ.j0] at h
 | k + 1 => by
  have ih0 := FaQ.mono_l k
  ·intro y0 y1 y2 y3 y4
   unfold FaQ.j0
   repeat' (first|with_reducible (first|exact ih0 _ _ _ _ _|exact Fa1.mono _ _ _|exact LeO.refl _|exact LeO.none _|refine LeO.ite ?_ ?_|refine LeO.bind ?_ (fun _ => ?_))|exact LeO.none _|refine LeO.ite ?_ ?_|refine LeO.bind ?_ (fun _ => ?_))
theorem FaQ.mono : ∀ a0 a1 a2 a3 k,LeO (FaQ.f k a0 a1 a2 a3) (FaQ.f (k + 1) a0 a1 a2 a3) := by
 intro a0 a1 a2 a3 k
 have ih0 := FaQ.mono_l k
 unfold FaQ.f
 repeat' (first|with_reducible (first|exact ih0 _ _ _ _ _|exact Fa1.mono _ _ _|exact LeO.refl _|exact LeO.none _|refine LeO.ite ?_ ?_|refine LeO.bind ?_ (fun _ => ?_))|exact LeO.none _|refine LeO.ite ?_ ?_|refine LeO.bind ?_ (fun _ => ?_))
theorem FaQ.calls (k : Nat) (ac : Int) (ad : Int) (ab : Int) (af : Bool) (r : ByteArray) (w : World) (hG : Gw w) (h : FaQ.f k ac ad ab af = some r) :
  Calls Tryz.prog 190 #[.agg #[.int .i64 ac,.int .i64 ad,.int .i64 ab,.bool af]] w fun e w' => e = .returned (.string r) ∧ Below w.heap.size w w' := by
 have hu39 := Tryz.underlying39;have HB := aM (Below.refl w.heap.size w);have HG := aM hG;clear hG;have H : (if ac = 0 then (some (⟨#[117,110,107,110,111,119,110]⟩ : ByteArray)) else ((Fa1.f k ac 4).bind fun ag => (if af = true then (if 1 + ag.size ≤ 9223372036854775807 then (FaQ.j0 k ((⟨#[99]⟩ : ByteArray) ++ ag) ac ad ab af) else (none)) else (FaQ.j0 k ag ac ad ab af)))) = some r := h;clear h
 by_cases c2 : ac = 0
 ·rw [if_pos c2] at H;have az := qE.mpr c2;have aA := qN.mpr c2;clear c2;obtain rfl := oI H;go_enter Tryz.func190,Tryz.ntmps190;go_wp2_with (first|((with_reducible refine gate_dst (N := 1) rfl ?_);refine bx_ (N := 1) (cs := #[.int .i64 ac,.int .i64 ad,.int .i64 ab,.bool af]) (t := 39) ?_;intro ai hg w3 hbox hb;have aa := aM (hbox);have aj := aM ((by rw [hg];exact (lZ wB_) : w.heap.size ≤ ai));have ao := aj;replace HB := aM (lT wB_ hb);clear hb hbox hg;obtain ⟨_,_,_,_,_,_,_,_⟩ := z4_ aa.out));go_ret;exact ⟨vR_,wB_⟩
 ·rw [if_neg c2] at H;have az := qF.mpr c2;have aA := qB.mpr c2;obtain ⟨ag,A5,H⟩ := bE_ H;have aC := aM H;clear H;go_enter Tryz.func190,Tryz.ntmps190;go_upto_if 11 with (first|((with_reducible refine gate_dst (N := 1) rfl ?_);refine bx_ (N := 1) (cs := #[.int .i64 ac,.int .i64 ad,.int .i64 ab,.bool af]) (t := 39) ?_;intro ai hg w7 hbox hb;have aa := aM (hbox);have aj := aM ((by rw [hg];exact (lZ wB_) : w.heap.size ≤ ai));have ao := aj;replace HB := aM (lT wB_ hb);clear hb hbox hg;obtain ⟨_,_,_,_,_,_,_,_⟩ := z4_ aa.out)|((with_reducible refine gate_callee (f := 234) rfl ?_);refine gl_ (some 9) Tryz.func234 #[.int .i64 ac,.int .i64 4] ?_;(with_reducible refine (Fa1.calls k ac 4 ag _ ?side1 A5.out).mono ?_);(case side1 => exact Gw.below HG.out wB_);rintro e w9 ⟨rfl,hb⟩;refine ⟨_,rfl,?_⟩;replace aa := aM (bw_ aa.out hb);replace HB := aM (lT wB_ hb);obtain ⟨_,_,_,_,_,_,_,_⟩ := z4_ aa.out));(try simp only [Act.put,lI,sZ,sS]);go_cut [3] (fun v3 wc => ∃ (kq : Nat) (ae : ByteArray),v3 = .string ae ∧ Aside0 (FaQ.j0 kq ae ac ad ab af = some r) ∧ Aside0 (kq ≤ k) ∧ Aside0 (wc.heap[ai]? = some (.cells #[.int .i64 ac,.int .i64 ad,.int .i64 ab,.bool af] 39 (0,0))) ∧ Aside0 (Below w.heap.size w wc))
  case first =>
   have H := aC.out;clear aC
   by_cases ay : af = true
   ·subst ay;rw [if_pos rfl] at H
    by_cases ap : 1 + ag.size ≤ 9223372036854775807
    ·rw [if_pos ap] at H;have c12b0 := eq_true ap;have c12b1 := dT ap;(try have c12b2 : (9223372036854775807 < 1 + ag.size) = False := eq_false (Nat.not_lt.2 ap));have H' := aM H;clear H;go_wp2;go_meet
     case rel => exact ⟨_,((⟨#[99]⟩ : ByteArray) ++ ag),vR_,H',⟨by first|omega|exact Nat.le_refl _⟩,⟨wC_ aa.out⟩,⟨wB_⟩⟩
    ·rw [if_neg ap] at H;exact nH_ H
   ·replace ay := qO.mpr ay;subst ay;rw [if_neg qT] at H;have H' := aM H;clear H;go_wp2;go_meet
    case rel => exact ⟨_,(ag),vR_,H',⟨by first|omega|exact Nat.le_refl _⟩,⟨wC_ aa.out⟩,⟨wB_⟩⟩
  case rest =>
   clear aC;obtain ⟨kq,ae,rfl,HA,HJ5,aa,HB⟩ := hcut
   cases kq with
   | zero => exact absurd HA.out (by simp [FaQ.j0])
   | succ kj5 =>
    have H := HA.out;clear HA;simp only [FaQ.j0] at H
    by_cases c13 : ad > 0
    focus
     rw [if_pos c13] at H;have ar : decide (0 < ad) = true := dT c13;clear c13;obtain ⟨ah,aD,H⟩ := bE_ H
     by_cases c15 : 1 + ah.size ≤ 9223372036854775807
     rotate_left;rw [if_neg c15] at H;exact nH_ H;rw [if_pos c15] at H;have c15b0 := eq_true c15;have c15b1 := dT c15;(try have c15b2 : (9223372036854775807 < 1 + ah.size) = False := eq_false (Nat.not_lt.2 c15))
     by_cases c16 : ae.size + ((⟨#[45]⟩ : ByteArray) ++ ah).size ≤ 9223372036854775807
     rotate_left;rw [if_neg c16] at H;exact nH_ H;rw [if_pos c16] at H;have c16b0 := eq_true c16;have c16b1 := dT c16;(try have c16b3 : (9223372036854775807 < ae.size + (1 + ah.size)) = False := eq_false (by have h_ := c16;simp only [ByteArray.size_append,ByteArray.size_extract] at h_;have hs0_ : (⟨#[45]⟩ : ByteArray).size = 1 := rfl;omega));(try have c16b2 : (9223372036854775807 < ae.size + ((⟨#[45]⟩ : ByteArray) ++ ah).size) = False := eq_false (Nat.not_lt.2 c16))
     by_cases c17 : ab > 0
     focus
      rw [if_pos c17] at H;have au : decide (0 < ab) = true := dT c17;clear c17;obtain ⟨ak,aE,H⟩ := bE_ H
      by_cases av : 1 + ak.size ≤ 9223372036854775807
      rotate_left;rw [if_neg av] at H;exact nH_ H;rw [if_pos av] at H;have c19b0 := eq_true av;have c19b1 := dT av;(try have c19b2 : (9223372036854775807 < 1 + ak.size) = False := eq_false (Nat.not_lt.2 av))
      by_cases am : (ae ++ ((⟨#[45]⟩ : ByteArray) ++ ah)).size + ((⟨#[45]⟩ : ByteArray) ++ ak).size ≤ 9223372036854775807
      rotate_left;rw [if_neg am] at H;exact nH_ H;rw [if_pos am] at H;have c20b0 := eq_true am;have c20b1 := dT am;(try have c20b3 : (9223372036854775807 < ae.size + (1 + ah.size) + (1 + ak.size)) = False := eq_false (by have h_ := am;simp only [ByteArray.size_append,ByteArray.size_extract] at h_;have hs0_ : (⟨#[45]⟩ : ByteArray).size = 1 := rfl;omega));(try have c20b2 : (9223372036854775807 < (ae ++ ((⟨#[45]⟩ : ByteArray) ++ ah)).size + ((⟨#[45]⟩ : ByteArray) ++ ak).size) = False := eq_false (Nat.not_lt.2 am));obtain rfl := oI H
     rotate_left
     focus
      rw [if_neg c17] at H;have au : decide (0 < ab) = false := dF c17;clear c17;obtain rfl := oI H
    rotate_left 2
    focus
     rw [if_neg c13] at H;have ar : decide (0 < ad) = false := dF c13;clear c13
     by_cases c28 : ab > 0
     focus
      rw [if_pos c28] at H;have aw : decide (0 < ab) = true := dT c28;clear c28;obtain ⟨al,aF,H⟩ := bE_ H
      by_cases ax : 1 + al.size ≤ 9223372036854775807
      rotate_left;rw [if_neg ax] at H;exact nH_ H;rw [if_pos ax] at H;have c30b0 := eq_true ax;have c30b1 := dT ax;(try have c30b2 : (9223372036854775807 < 1 + al.size) = False := eq_false (Nat.not_lt.2 ax))
      by_cases an : ae.size + ((⟨#[45]⟩ : ByteArray) ++ al).size ≤ 9223372036854775807
      rotate_left;rw [if_neg an] at H;exact nH_ H;rw [if_pos an] at H;have c31b0 := eq_true an;have c31b1 := dT an;(try have c31b3 : (9223372036854775807 < ae.size + (1 + al.size)) = False := eq_false (by have h_ := an;simp only [ByteArray.size_append,ByteArray.size_extract] at h_;have hs0_ : (⟨#[45]⟩ : ByteArray).size = 1 := rfl;omega));(try have c31b2 : (9223372036854775807 < ae.size + ((⟨#[45]⟩ : ByteArray) ++ al).size) = False := eq_false (Nat.not_lt.2 an));obtain rfl := oI H
     rotate_left
     focus
      rw [if_neg c28] at H;have aw : decide (0 < ab) = false := dF c28;clear c28;obtain rfl := oI H
    all_goals
     obtain ⟨_,_,_,_,_,_,_,_⟩ := z4_ aa.out;go_wp2_with (first|((with_reducible refine gate_callee (f := 234) rfl ?_);refine gl_ (some 29) Tryz.func234 #[.int .i64 ab,.int .i64 2] ?_;(with_reducible refine (Fa1.calls _ _ _ _ _ ?side1 aF.out).mono ?_);(case side1 => exact Gw.below HG.out wB_);rintro e WA29 ⟨rfl,hb⟩;refine ⟨_,rfl,?_⟩;replace aa := aM (bw_ aa.out hb);replace HB := aM (lT wB_ hb))|((with_reducible refine gate_callee (f := 234) rfl ?_);refine gl_ (some 20) Tryz.func234 #[.int .i64 ad,.int .i64 2] ?_;(with_reducible refine (Fa1.calls _ _ _ _ _ ?side1 aD.out).mono ?_);(case side1 => exact Gw.below HG.out wB_);rintro e WA14 ⟨rfl,hb⟩;refine ⟨_,rfl,?_⟩;replace aa := aM (bw_ aa.out hb);replace HB := aM (lT wB_ hb);obtain ⟨_,_,_,_,_,_,_,_⟩ := z4_ aa.out)|((with_reducible refine gate_callee (f := 234) rfl ?_);refine gl_ (some 29) Tryz.func234 #[.int .i64 ab,.int .i64 2] ?_;(with_reducible refine (Fa1.calls _ _ _ _ _ ?side1 aE.out).mono ?_);(case side1 => exact Gw.below HG.out wB_);rintro e WA18 ⟨rfl,hb⟩;refine ⟨_,rfl,?_⟩;replace aa := aM (bw_ aa.out hb);replace HB := aM (lT wB_ hb)));go_ret;exact ⟨vR_,wB_⟩
def Fbw.f (k : Nat) (a0_0 : ByteArray) (a0_1 : Int) (ae : List (S157)) (af : List (S157)) (ag : ByteArray) (ah : ByteArray) (ai : ByteArray) (ab : Int) (aj : Int) (ak : Int) (ac : Bool) (aa : Int) (ad : ByteArray) (a0_13 : ByteArray) (a1 : ByteArray) : Option (ByteArray) := if a1.toList = ([97,117,116,104,111,114,115] : List UInt8) then ((FaH.f k ae).bind fun al => (some al)) else (if a1.toList = ([101,100,105,116,111,114,115] : List UInt8) then ((FaH.f k af).bind fun am => (some am)) else (if a1.toList = ([116,105,116,108,101] : List UInt8) then (some ag) else (if a1.toList = ([99,111,110,116,97,105,110,101,114] : List UInt8) then (some ah) else (if a1.toList = ([112,117,98,108,105,115,104,101,114] : List UInt8) then (some ai) else (if a1.toList = ([100,97,116,101] : List UInt8) then (if ab > 0 then ((FaQ.f k ab aj ak ac).bind fun an => (some an)) else (some (⟨#[]⟩ : ByteArray))) else (if a1.toList = ([118,111,108,117,109,101] : List UInt8) then (if aa > 0 then ((FbK.f aa).bind fun ao => (some ao)) else (some (⟨#[]⟩ : ByteArray))) else (if a1.toList = ([112,97,103,101,115] : List UInt8) then (some ad) else (some (⟨#[]⟩ : ByteArray)))))))))
theorem Fbw.mono : ∀ a0 a1 a2 a3 a4 a5 a6 a7 a8 a9 a10 a11 a12 a13 a14 k,LeO (Fbw.f k a0 a1 a2 a3 a4 a5 a6 a7 a8 a9 a10 a11 a12 a13 a14) (Fbw.f (k + 1) a0 a1 a2 a3 a4 a5 a6 a7 a8 a9 a10 a11 a12 a13 a14) := by
 intro a0 a1 a2 a3 a4 a5 a6 a7 a8 a9 a10 a11 a12 a13 a14 k
 unfold Fbw.f
 repeat' (first|with_reducible (first|exact FaQ.mono _ _ _ _ _|exact FaH.mono _ _|exact LeO.refl _|exact LeO.none _|refine LeO.ite ?_ ?_|refine LeO.bind ?_ (fun _ => ?_))|exact LeO.none _|refine LeO.ite ?_ ?_|refine LeO.bind ?_ (fun _ => ?_))
theorem Fbw.calls (k : Nat) (ay : ByteArray) (az : Int) (ak : Option Addr) (al : Nat) (ad : List (S157)) (am : Option Addr) (an : Nat) (ae : List (S157)) (ao : ByteArray) (ap : ByteArray) (ar : ByteArray) (ac : Int) (ah : Int) (ai : Int) (af : Bool) (aa : Int) (ag : ByteArray) (aj : ByteArray) (a1 : ByteArray) (r : ByteArray) (w : World) (au : Kd.C k157 w ak ad.length ad) (av : ad.length ≤ al) (aw : Kd.C k157 w am ae.length ae) (ax : ae.length ≤ an) (hG : Gw w) (h : Fbw.f k ay az ad ae ao ap ar ac ah ai af aa ag aj a1 = some r) :
  Calls Tryz.prog 149 #[.agg #[.string ay,.int .i64 az,.slice ak ad.length al,.slice am ae.length an,.string ao,.string ap,.string ar,.int .i64 ac,.int .i64 ah,.int .i64 ai,.bool af,.int .i64 aa,.string ag,.string aj],.string a1] w fun e w' => e = .returned (.string r) ∧ Below w.heap.size w w' := by
 have hu41 := Tryz.underlying41;have hu39 := Tryz.underlying39;have aK := aM au;have aL := aM av;clear au av;have aN := aM aw;have aO := aM ax;clear aw ax;have HB := aM (Below.refl w.heap.size w);have HG := aM hG;clear hG;have H : (if a1.toList = ([97,117,116,104,111,114,115] : List UInt8) then ((FaH.f k ad).bind fun aP => (some aP)) else (if a1.toList = ([101,100,105,116,111,114,115] : List UInt8) then ((FaH.f k ae).bind fun aQ => (some aQ)) else (if a1.toList = ([116,105,116,108,101] : List UInt8) then (some ao) else (if a1.toList = ([99,111,110,116,97,105,110,101,114] : List UInt8) then (some ap) else (if a1.toList = ([112,117,98,108,105,115,104,101,114] : List UInt8) then (some ar) else (if a1.toList = ([100,97,116,101] : List UInt8) then (if ac > 0 then ((FaQ.f k ac ah ai af).bind fun aR => (some aR)) else (some (⟨#[]⟩ : ByteArray))) else (if a1.toList = ([118,111,108,117,109,101] : List UInt8) then (if aa > 0 then ((FbK.f aa).bind fun aT => (some aT)) else (some (⟨#[]⟩ : ByteArray))) else (if a1.toList = ([112,97,103,101,115] : List UInt8) then (some ag) else (some (⟨#[]⟩ : ByteArray)))))))))) = some r := h;clear h
 by_cases c3 : a1.toList = ([97,117,116,104,111,114,115] : List UInt8)
 focus
  rw [if_pos c3] at H;have bb := qE.mpr c3;have bc := qN.mpr c3;clear c3;obtain ⟨aP,A4,H⟩ := bE_ H;obtain rfl := oI H
 rotate_left
 focus
  rw [if_neg c3] at H;have bb := qF.mpr c3;have bc := qB.mpr c3
  by_cases c8 : a1.toList = ([101,100,105,116,111,114,115] : List UInt8)
  focus
   rw [if_pos c8] at H;have bd := qE.mpr c8;have be := qN.mpr c8;clear c8;obtain ⟨aQ,A9,H⟩ := bE_ H;obtain rfl := oI H
  rotate_left
  focus
   rw [if_neg c8] at H;have bd := qF.mpr c8;have be := qB.mpr c8
   by_cases aA : a1.toList = ([116,105,116,108,101] : List UInt8)
   focus
    rw [if_pos aA] at H;have aU := qE.mpr aA;have aV := qN.mpr aA;clear aA;obtain rfl := oI H
   rotate_left
   focus
    rw [if_neg aA] at H;have aU := qF.mpr aA;have aV := qB.mpr aA
    by_cases aC : a1.toList = ([99,111,110,116,97,105,110,101,114] : List UInt8)
    focus
     rw [if_pos aC] at H;have aW := qE.mpr aC;have aX := qN.mpr aC;clear aC;obtain rfl := oI H
    rotate_left
    focus
     rw [if_neg aC] at H;have aW := qF.mpr aC;have aX := qB.mpr aC
     by_cases aD : a1.toList = ([112,117,98,108,105,115,104,101,114] : List UInt8)
     focus
      rw [if_pos aD] at H;have aY := qE.mpr aD;have aZ := qN.mpr aD;clear aD;obtain rfl := oI H
     rotate_left
     focus
      rw [if_neg aD] at H;have aY := qF.mpr aD;have aZ := qB.mpr aD
      by_cases aE : a1.toList = ([100,97,116,101] : List UInt8)
      focus
       rw [if_pos aE] at H;have a0 := qE.mpr aE;have a2 := qN.mpr aE;clear aE
       by_cases aH : ac > 0
       focus
        rw [if_pos aH] at H;have a3 : decide (0 < ac) = true := dT aH;clear aH;obtain ⟨aR,bf,H⟩ := bE_ H;obtain rfl := oI H
       rotate_left
       focus
        rw [if_neg aH] at H;have a3 : decide (0 < ac) = false := dF aH;clear aH;obtain rfl := oI H
      rotate_left 2
      focus
       rw [if_neg aE] at H;have a0 := qF.mpr aE;have a2 := qB.mpr aE
       by_cases aF : a1.toList = ([118,111,108,117,109,101] : List UInt8)
       focus
        rw [if_pos aF] at H;have a4 := qE.mpr aF;have a5 := qN.mpr aF;clear aF
        by_cases aJ : aa > 0
        focus
         rw [if_pos aJ] at H;have a6 : decide (0 < aa) = true := dT aJ;clear aJ;obtain ⟨aT,bg,H⟩ := bE_ H;obtain rfl := oI H
        rotate_left
        focus
         rw [if_neg aJ] at H;have a6 : decide (0 < aa) = false := dF aJ;clear aJ;obtain rfl := oI H
       rotate_left 2
       focus
        rw [if_neg aF] at H;have a4 := qF.mpr aF;have a5 := qB.mpr aF
        by_cases aG : a1.toList = ([112,97,103,101,115] : List UInt8)
        focus
         rw [if_pos aG] at H;have a7 := qE.mpr aG;have a8 := qN.mpr aG;clear aG;obtain rfl := oI H
        rotate_left
        focus
         rw [if_neg aG] at H;have a7 := qF.mpr aG;have a8 := qB.mpr aG;obtain rfl := oI H
 all_goals
  go_enter Tryz.func149,Tryz.ntmps149;go_wp2_with (first|((with_reducible refine gate_dst (N := 2) rfl ?_);refine bx_ (N := 2) (cs := #[.string ay,.int .i64 az,.slice ak ad.length al,.slice am ae.length an,.string ao,.string ap,.string ar,.int .i64 ac,.int .i64 ah,.int .i64 ai,.bool af,.int .i64 aa,.string ag,.string aj]) (t := 41) ?_;intro a9 hg Wgb523 hbox hb;have ab := aM (hbox);have ba := aM ((by rw [hg];exact (lZ wB_) : w.heap.size ≤ a9));have GE523 := ba;replace HB := aM (lT wB_ hb);clear hb hbox hg;obtain ⟨_,_,_,_,_,_,_,_,_,_,_,_,_,_,_,_,_,_,_,_,_,_,_,_,_,_,_,_⟩ := z14_ ab.out)|((with_reducible refine gate_callee (f := 191) rfl ?_);refine gl_ (some 44) Tryz.func191 #[.int .i64 aa] ?_;(with_reducible refine (FbK.calls _ _ _ ?side1 bg.out).mono ?_);(case side1 => exact Gw.below HG.out wB_);rintro e WA32 ⟨rfl,hb⟩;refine ⟨_,rfl,?_⟩;replace ab := aM (bw_ ab.out hb);replace HB := aM (lT wB_ hb))|((with_reducible refine gate_callee (f := 190) rfl ?_);refine gl_ (some 36) Tryz.func190 #[.agg #[.int .i64 ac,.int .i64 ah,.int .i64 ai,.bool af]] ?_;(with_reducible refine (FaQ.calls _ _ _ _ _ _ _ ?side1 bf.out).mono ?_);(case side1 => exact Gw.below HG.out wB_);rintro e WA24 ⟨rfl,hb⟩;refine ⟨_,rfl,?_⟩;replace ab := aM (bw_ ab.out hb);replace HB := aM (lT wB_ hb))|((with_reducible refine gate_callee (f := 189) rfl ?_);refine gl_ (some 15) Tryz.func189 #[.slice am ae.length an] ?_;(with_reducible refine (FaH.calls _ _ _ _ _ _ ?side1 ?side2 A9.out).mono ?_);(case side1 => exact wX_ aN.out);(case side2 => exact aO.out);rintro e WA9 ⟨rfl,hb⟩;refine ⟨_,rfl,?_⟩;replace ab := aM (bw_ ab.out hb);replace HB := aM (lT wB_ hb))|((with_reducible refine gate_callee (f := 189) rfl ?_);refine gl_ (some 10) Tryz.func189 #[.slice ak ad.length al] ?_;(with_reducible refine (FaH.calls _ _ _ _ _ _ ?side1 ?side2 A4.out).mono ?_);(case side1 => exact wX_ aK.out);(case side2 => exact aL.out);rintro e WA4 ⟨rfl,hb⟩;refine ⟨_,rfl,?_⟩;replace ab := aM (bw_ ab.out hb);replace HB := aM (lT wB_ hb)));go_ret;exact ⟨vR_,wB_⟩
mutual
def Fak.l0 : Nat → ByteArray → List ByteArray → Int → ByteArray → Int → List (S157) → List (S157) → ByteArray → ByteArray → ByteArray → Int → Int → Int → Bool → Int → ByteArray → ByteArray → Option (List ByteArray)
 | 0,_,_,_,_,_,_,_,_,_,_,_,_,_,_,_,_,_ => none
 | k + 1,x1,x5,x10,aa,ab,ac,ad,ae,af,ag,ah,ai,aj,ak,al,am,an => if x10 < 8 then (if 0 ≤ x10 then (if x1.toList = ([] : List UInt8) then (Fak.j1 k x1 x5 (rdOf ByteArray.empty fieldL x10) x10 true aa ab ac ad ae af ag ah ai aj ak al am an) else (Fak.j1 k x1 x5 (rdOf ByteArray.empty fieldL x10) x10 (x1.toList == (rdOf ByteArray.empty fieldL x10).toList) aa ab ac ad ae af ag ah ai aj ak al am an)) else (none)) else (some x5)
def Fak.j1 : Nat → ByteArray → List ByteArray → ByteArray → Int → Bool → ByteArray → Int → List (S157) → List (S157) → ByteArray → ByteArray → ByteArray → Int → Int → Int → Bool → Int → ByteArray → ByteArray → Option (List ByteArray)
 | 0,_,_,_,_,_,_,_,_,_,_,_,_,_,_,_,_,_,_,_ => none
 | k + 1,x1,x5,x7,x10,au,aa,ab,ac,ad,ae,af,ag,ah,ai,aj,ak,al,am,an => if au = true then ((Fbw.f k aa ab ac ad ae af ag ah ai aj ak al am an x7).bind fun ap => ((FbR.f ap).bind fun ar => ((FbT.f ar).bind fun ao => (if x5.length + ao.length < 8796093022208 then (Fak.l0 k x1 (x5 ++ ao) (wrap64 (x10 + 1)) aa ab ac ad ae af ag ah ai aj ak al am an) else (none))))) else (Fak.l0 k x1 x5 (wrap64 (x10 + 1)) aa ab ac ad ae af ag ah ai aj ak al am an)
end
def Fak.f (k : Nat) (ae : ByteArray) (af : Int) (ag : List (S157)) (ah : List (S157)) (ai : ByteArray) (aj : ByteArray) (ak : ByteArray) (al : Int) (am : Int) (an : Int) (aa : Bool) (ab : Int) (ac : ByteArray) (ad : ByteArray) (a1 : ByteArray) : Option (List ByteArray) := Fak.l0 k a1 (([] : List ByteArray)) 0 ae af ag ah ai aj ak al am an aa ab ac ad
theorem Fak.mono_l : ∀ k,(∀ y0 y1 y2 y3 y4 y5 y6 y7 y8 y9 aa ab ac ad ae af ag,LeO (Fak.l0 k y0 y1 y2 y3 y4 y5 y6 y7 y8 y9 aa ab ac ad ae af ag) (Fak.l0 (k + 1) y0 y1 y2 y3 y4 y5 y6 y7 y8 y9 aa ab ac ad ae af ag)) ∧ (∀ y0 y1 y2 y3 y4 y5 y6 y7 y8 y9 aa ab ac ad ae af ag ah ai,LeO (Fak.j1 k y0 y1 y2 y3 y4 y5 y6 y7 y8 y9 aa ab ac ad ae af ag ah ai) (Fak.j1 (k + 1) y0 y1 y2 y3 y4 y5 y6 y7 y8 y9 aa ab ac ad ae af ag ah ai))
 | 0 => ⟨fun _ _ _ _ _ _ _ _ _ _ _ _ _ _ _ _ _ r h => by simp [Fak.l0] at h,fun _ _ _ _ _ _ _ _ _ _ _ _ _ _ _ _ _ _ _ r h => by simp [Fak.j1] at h⟩
 | k + 1 => by
  obtain ⟨ih0,ih1⟩ := Fak.mono_l k
  refine ⟨?_,?_⟩
  all_goals (intros;first|unfold Fak.l0|unfold Fak.j1)
  all_goals repeat' (first|with_reducible (first|exact ih0 _ _ _ _ _ _ _ _ _ _ _ _ _ _ _ _ _|exact ih1 _ _ _ _ _ _ _ _ _ _ _ _ _ _ _ _ _ _ _|exact Fbw.mono _ _ _ _ _ _ _ _ _ _ _ _ _ _ _ _|exact LeO.refl _|exact LeO.none _|refine LeO.ite ?_ ?_|refine LeO.bind ?_ (fun _ => ?_))|exact LeO.none _|refine LeO.ite ?_ ?_|refine LeO.bind ?_ (fun _ => ?_))
theorem Fak.mono : ∀ a0 a1 a2 a3 a4 a5 a6 a7 a8 a9 a10 a11 a12 a13 a14 k,LeO (Fak.f k a0 a1 a2 a3 a4 a5 a6 a7 a8 a9 a10 a11 a12 a13 a14) (Fak.f (k + 1) a0 a1 a2 a3 a4 a5 a6 a7 a8 a9 a10 a11 a12 a13 a14) := by
 intro a0 a1 a2 a3 a4 a5 a6 a7 a8 a9 a10 a11 a12 a13 a14 k
 obtain ⟨ih0,ih1⟩ := Fak.mono_l k
 unfold Fak.f
 repeat' (first|with_reducible (first|exact ih0 _ _ _ _ _ _ _ _ _ _ _ _ _ _ _ _ _|exact ih1 _ _ _ _ _ _ _ _ _ _ _ _ _ _ _ _ _ _ _|exact Fbw.mono _ _ _ _ _ _ _ _ _ _ _ _ _ _ _ _|exact LeO.refl _|exact LeO.none _|refine LeO.ite ?_ ?_|refine LeO.bind ?_ (fun _ => ?_))|exact LeO.none _|refine LeO.ite ?_ ?_|refine LeO.bind ?_ (fun _ => ?_))
theorem Fak.calls (k : Nat) (aj : ByteArray) (ak : Int) (ay : Option Addr) (az : Nat) (ah : List (S157)) (aA : Option Addr) (aC : Nat) (ai : List (S157)) (al : ByteArray) (am : ByteArray) (an : ByteArray) (ao : Int) (ap : Int) (ar : Int) (ac : Bool) (ad : Int) (ae : ByteArray) (af : ByteArray) (a1 : ByteArray) (r : List ByteArray) (w : World) (aJ : Kd.C k157 w ay ah.length ah) (aK : ah.length ≤ az) (aN : Kd.C k157 w aA ai.length ai) (aP : ai.length ≤ aC) (hG : Gfb w) (h : Fak.f k aj ak ah ai al am an ao ap ar ac ad ae af a1 = some r) :
  Calls Tryz.prog 93 #[.agg #[.string aj,.int .i64 ak,.slice ay ah.length az,.slice aA ai.length aC,.string al,.string am,.string an,.int .i64 ao,.int .i64 ap,.int .i64 ar,.bool ac,.int .i64 ad,.string ae,.string af],.string a1] w fun e w' => ∃ v0_ : Value,e = .returned (v0_) ∧ Kd.R Kd.string 9 w' w.heap.size (fun _ => True) v0_ r ∧ Below w.heap.size w w' := by
 have hu41 := Tryz.underlying41;have aT := aM aJ;have aU := aM aK;clear aJ aK;have aV := aM aN;have aW := aM aP;clear aN aP;have HB := aM (Below.refl w.heap.size w);have HG := aM hG;clear hG;have H : (Fak.l0 k a1 (([] : List ByteArray)) 0 aj ak ah ai al am an ao ap ar ac ad ae af) = some r := h;clear h;obtain ⟨aX,aD⟩ : ∃ y_ : List ByteArray,y_ = (([] : List ByteArray)) := ⟨_,rfl⟩;replace H : (Fak.l0 k a1 aX 0 aj ak ah ai al am an ao ap ar ac ad ae af) = some r := (yH_ aD H);have aQ := aM aD;clear aD;have H' := aM H;clear H;go_enter Tryz.func93,Tryz.ntmps93;go_wp2_with (first|((with_reducible refine gate_dst (N := 2) rfl ?_);refine bx_ (N := 2) (cs := #[.string aj,.int .i64 ak,.slice ay ah.length az,.slice aA ai.length aC,.string al,.string am,.string an,.int .i64 ao,.int .i64 ap,.int .i64 ar,.bool ac,.int .i64 ad,.string ae,.string af]) (t := 41) ?_;intro aE hg w3 hbox hb;have aa := aM (hbox);have aY := aM ((by rw [hg];exact (lZ wB_) : w.heap.size ≤ aE));have GE528 := aY;replace HB := aM (lT wB_ hb);clear hb hbox hg)|((with_reducible refine gate_dst (N := 8) rfl ?_);refine Kd.R_lit Kd.string _ 9 ?hg (N := 8) ?hd (xs := ([] : List ByteArray)) (inner := []) (ok := fun _ => True) (okp := fun _ => True) ?hr ?hp (fun _ hk => hk) trivial (Below.refl _ _) (Nat.le_refl _) (by simp) ?_;(case hd => rfl);(case hg => rfl);(case hr => first|(go_simp;done)|(go_simp;rfl));(case hp => exact (Reps.none _ _));intro v530 w4 aZ hb hg_ hnew_;clear hg_ hnew_;(first|rw [← aQ.out] at aZ|(simp only [Int.reduceToNat] at aZ;rw [← aQ.out] at aZ));have a0 := aM (Kd.R_lower aZ (lZ wB_));replace aa := aM (bw_ aa.out hb);replace HB := aM (lT wB_ hb);clear hb aZ;obtain ⟨hgf0,hgf1,hgf2,hgf3,hgf4,hgf5,hgf6,hgf7⟩ := (HG.out.below HB.out).fld.cells8));go_loopg [5,10] k (fun kq v5 bn w' => ∃ (av : List ByteArray) (ab : Int),bn = .int .i64 ab ∧ Aside0 (Fak.l0 kq a1 av ab aj ak ah ai al am an ao ap ar ac ad ae af = some r) ∧ Aside0 (kq ≤ k) ∧ Aside0 (Kd.R Kd.string 9 w' w.heap.size (fun _ => True) v5 av) ∧ Aside0 (w'.heap[aE]? = some (.cells #[.string aj,.int .i64 ak,(.slice ay ah.length az),(.slice aA ai.length aC),.string al,.string am,.string an,.int .i64 ao,.int .i64 ap,.int .i64 ar,.bool ac,.int .i64 ad,.string ae,.string af] 41 (0,0))) ∧ Aside0 (Below w.heap.size w w'))
 case atStart => exact ⟨(aX),(0),vR_,H',⟨Nat.le_refl _⟩,⟨wO_ a0.out⟩,⟨wC_ aa.out⟩,⟨wB_⟩⟩
 case round =>
  clear H';obtain ⟨av,ab,rfl,HA,a2,ag,aa,HB⟩ := hrel
  cases gk with
  | zero => exact absurd HA.out (by simp [Fak.l0])
  | succ k1 =>
   have H := HA.out;clear HA;simp only [Fak.l0] at H
   by_cases c6 : ab < 8
   ·rw [if_pos c6] at H;have ba := dT c6;clear c6
    by_cases c7 : 0 ≤ ab
    ·rw [if_pos c7] at H;have c7b0 := dT c7;clear c7;have bb := aM H;clear H;have hx8 := fld_idx ab (oD (by assumption)) (oD (by assumption));go_upto_region 5 with (fail);go_cut [19] (fun bo wc => ∃ (kq : Nat) (ax : Bool),bo = .bool ax ∧ Aside0 (Fak.j1 kq a1 av (rdOf ByteArray.empty fieldL ab) ab ax aj ak ah ai al am an ao ap ar ac ad ae af = some r) ∧ Aside0 (kq ≤ k1) ∧ Aside0 (Kd.R Kd.string 9 wc w.heap.size (fun _ => True) u5 av) ∧ Aside0 (wc.heap[aE]? = some (.cells #[.string aj,.int .i64 ak,(.slice ay ah.length az),(.slice aA ai.length aC),.string al,.string am,.string an,.int .i64 ao,.int .i64 ap,.int .i64 ar,.bool ac,.int .i64 ad,.string ae,.string af] 41 (0,0))) ∧ Aside0 (Below w.heap.size w wc))
     case first =>
      have H := bb.out;clear bb
      by_cases c10 : a1.toList = ([] : List UInt8)
      ·rw [if_pos c10] at H;have aw := qE.mpr c10;have a3 := qN.mpr c10;clear c10;(first|rw [aw]|(simp only [i64_w,i32_w];rw [aw])|skip);have H' := aM H;clear H;go_wp2;go_meet
       case rel => exact ⟨_,(true),vR_,H',⟨by have := a2.out;first|omega|exact Nat.le_refl _⟩,⟨wO_ ag.out⟩,⟨wC_ aa.out⟩,⟨wB_⟩⟩
      ·rw [if_neg c10] at H;have aw := qF.mpr c10;have a3 := qB.mpr c10;(first|rw [aw]|(simp only [i64_w,i32_w];rw [aw])|skip);have H' := aM H;clear H;go_wp2;go_meet
       case rel => exact ⟨_,((a1.toList == (rdOf ByteArray.empty fieldL ab).toList)),vR_,H',⟨by have := a2.out;first|omega|exact Nat.le_refl _⟩,⟨wO_ ag.out⟩,⟨wC_ aa.out⟩,⟨wB_⟩⟩
     case rest =>
      clear bb;obtain ⟨kq,ax,rfl,HA,bc,ag,aa,HB⟩ := hcut
      cases kq with
      | zero => exact absurd HA.out (by simp [Fak.j1])
      | succ bi =>
       have H := HA.out;clear HA;simp only [Fak.j1] at H
       by_cases a8 : ax = true
       focus
        subst a8;rw [if_pos rfl] at H;obtain ⟨bd,bp,H⟩ := bE_ H;obtain ⟨be,bq,H⟩ := bE_ H;obtain ⟨aH,br,H⟩ := bE_ H
        by_cases a9 : av.length + aH.length < 8796093022208
        rotate_left;rw [if_neg a9] at H;exact nH_ H;rw [if_pos a9] at H;have a4 := aM a9;clear a9;obtain ⟨a5,aG⟩ : ∃ y_ : List ByteArray,y_ = (av ++ aH) := ⟨_,rfl⟩;replace H : (Fak.l0 bi a1 a5 (wrap64 (ab + 1)) aj ak ah ai al am an ao ap ar ac ad ae af) = some r := (yH_ aG H);have a6 := aM aG;clear aG;have H' := aM H;clear H
       rotate_left
       focus
        replace a8 := qO.mpr a8;subst a8;rw [if_neg qT] at H;have H' := aM H;clear H
       all_goals
        (try obtain ⟨_,_,_,_,_,_,_,_,_,_,_,_,_,_,_,_,_,_,_,_,_,_,_,_,_,_,_,_⟩ := z14_ aa.out);go_wp2_with (first|((with_reducible refine gate_callee (f := 149) rfl ?_);refine gl_ (some 23) Tryz.func149 #[.agg #[.string aj,.int .i64 ak,.slice ay ah.length az,.slice aA ai.length aC,.string al,.string am,.string an,.int .i64 ao,.int .i64 ap,.int .i64 ar,.bool ac,.int .i64 ad,.string ae,.string af],.string (rdOf ByteArray.empty fieldL ab)] ?_;(with_reducible refine (Fbw.calls _ _ _ _ _ _ _ _ _ _ _ _ _ _ _ _ _ _ _ _ _ _ ?side1 ?side2 ?side3 ?side4 ?side5 bp.out).mono ?_);(case side1 => exact wX_ aT.out);(case side2 => exact aU.out);(case side3 => exact wX_ aV.out);(case side4 => exact aW.out);(case side5 => exact Gw.below HG.out.toGw wB_);rintro e WA12 ⟨rfl,hb⟩;refine ⟨_,rfl,?_⟩;replace ag := aM (rB (wO_ ag.out) hb);replace aa := aM (bw_ aa.out hb);replace HB := aM (lT wB_ hb))|((with_reducible refine gate_callee (f := 148) rfl ?_);refine gl_ (some 24) Tryz.func148 #[.string bd] ?_;(with_reducible refine (FbR.calls _ _ _ ?side1 bq.out).mono ?_);(case side1 => exact Gm.below HG.out.toGm wB_);rintro e WA13 ⟨rfl,hb⟩;refine ⟨_,rfl,?_⟩;replace ag := aM (rB (wO_ ag.out) hb);replace aa := aM (bw_ aa.out hb);replace HB := aM (lT wB_ hb))|((with_reducible refine gate_callee (f := 147) rfl ?_);refine gl_ (some 25) Tryz.func147 #[.string be] ?_;(with_reducible refine (FbT.calls _ _ _ ?side1 br.out).mono ?_);(case side1 => exact Gm.below HG.out.toGm wB_);rintro e WA14 ⟨v535,rfl,ho0,hb⟩;refine ⟨_,rfl,?_⟩;have au := aM (Kd.R_lower (Kd.R_new' ho0 (Kd.R_lt (wO_ ag.out))) (lZ wB_));replace ag := aM (Kd.R_elder' (wO_ ag.out) (Kd.R_base ho0) hb);replace aa := aM (bw_ aa.out hb);replace HB := aM (lT wB_ hb);obtain ⟨bf,bg,bh⟩ := Kd.R_slice au.out;subst bh)|((with_reducible refine gate_builtin (b := .append) (xs := #[.tmp 20,.tmp 25]) rfl ?_);at_builtin;refine Kd.R_append_rows Kd.string (w0 := w) w.heap.size rfl (.tmp 20) (.tmp 25) 50 9 (.string ⟨#[]⟩) 16 rfl Tryz.underlying50 info9 rfl (by decide) (by omega) u5 av aH _ _ _ (fun k_ => some k_ ≠ (.slice bf aH.length bg : Value).ownBlock) (fun _ => False) rfl rfl ?aO ?aR (fun _ _ h => h) (fun _ h => h.elim) ?aF ?aB ?aS ?aL ?_;(case aR => repeat (first|exact (rR au.out).2.2|(with_reducible first|refine cA ?_ _|refine cN ?_ _|refine cD ?_)));(case aB => exact wB_);(case aF => exact (fun k_ hk => Kd.fresh' (Kd.R_lt (wO_ au.out)) k_ hk));(case aO => exact (by (with_reducible repeat (first|apply rA|apply rN|apply rD));exact Kd.R_mono ag.out (fun _ hk => hk.2)));(case aS => exact (lZ wB_));(case aL => have := a4.out;omega);intro v538 w20 ho hb hg hat;rw [← a6.out] at ho;have bj := aM (bg_ aa.out hg (Kd.R_ne ag.out aa.out (by decide)));have bk := aM (Kd.R_after (ok := (fun _ => True)) (wO_ au.out) hg hat);have bl := aM (hb);have bm := aM (ho);clear aa;clear au;clear HB;clear ag;have aa := bj;have au := bk;have HB := bl;have a7 := bm;clear bj bk bl bm;clear ho hb hg hat));go_roundg bi
        case measure => have := a2.out;have := bc.out;omega
        case rel => first|(exact ⟨(a5),(wrap64 (ab + 1)),vR_,H',⟨by have := a2.out;have := bc.out;omega⟩,⟨by (with_reducible repeat (first|apply rA|apply rN|apply rD));exact Kd.R_mono a7.out (fun _ hk => trivial)⟩,⟨wC_ aa.out⟩,⟨wB_⟩⟩)|(exact ⟨(av),(wrap64 (ab + 1)),vR_,H',⟨by have := a2.out;have := bc.out;omega⟩,⟨wO_ ag.out⟩,⟨wC_ aa.out⟩,⟨wB_⟩⟩)
    ·rw [if_neg c7] at H;exact nH_ H
   ·rw [if_neg c6] at H;have ba := dF c6;clear c6;obtain rfl := oI H;go_wp2;go_ret;exact ⟨_,vR_,wO_ ag.out,wB_⟩
def unS (x : List UInt8) : ByteArray := ⟨x.toArray⟩
def srtS (l : List ByteArray) : List ByteArray := ((l.map (fun b => b.data.toList)).mergeSort fun x y => decide (x ≤ y)).map unS
theorem encs_toL (l : List ByteArray) : encs Value.string l = (l.map (fun b => b.data.toList)).map Go.Proofs.encStr := by
 simp [encs,Go.Proofs.encStr]
theorem encs_unS (l : List (List UInt8)) : encs Value.string (l.map unS) = l.map Go.Proofs.encStr := by
 simp [encs,unS,Go.Proofs.encStr]
def Fby.f (l0 : List ByteArray) : Option (List ByteArray) := if l0.length < 4611686018427387904 then some (srtS l0) else none
theorem Fby.calls (ab : Nat → Prop) (aa : Value) (l0 : List ByteArray) (r1 : List ByteArray) (w0 w : World) (hB : Below w0.heap.size w0 w) (ho0 : Kd.R Kd.string 9 w w0.heap.size ab aa l0) (h : Fby.f l0 = some r1) :
  Calls Tryz.prog 94 #[aa] w fun e w' => e = .returned (.tuple #[]) ∧ Kd.R Kd.string 9 w' w0.heap.size (fun k_ => (ab k_ ∨ w.heap.size ≤ k_)) aa r1 ∧ Below w0.heap.size w0 w' ∧ Kept w w' (fun k_ => ab k_) := by
 unfold Fby.f at h
 by_cases hc : l0.length < 4611686018427387904
 ·rw [if_pos hc] at h;obtain rfl := oI h;have ho := Kd.own_of_R ho0;rw [encs_toL] at ho;rcases ho.2 with ⟨hv,hn⟩|⟨g,cap,cur,hv,hg,hb,h1,h2,h3,h4⟩
  ·subst hv;obtain rfl : l0 = [] := List.length_eq_zero_iff.1 hn;refine (Tryz.slices_Sort_string_none none 0 w).mono ?_;rintro e w' ⟨rfl,rfl⟩;refine ⟨rfl,?_,hB,Kept.refl _ _⟩;have : srtS [] = [] := (by simp [srtS]);rw [this];exact Kd.R_mono ho0 (fun _ hk => .inl hk)
  ·subst hv;have hsl : l0.length = (l0.map (fun b : ByteArray => b.data.toList)).length := (List.length_map _).symm;have hgP := ho0.1 g rfl;have hlt : g < w.heap.size := (Array.getElem?_eq_some_iff.1 hb).1;have h4' : cur.toList.take (l0.map (fun b : ByteArray => b.data.toList)).length = (l0.map (fun b : ByteArray => b.data.toList)).map Go.Proofs.encStr := (by rw [← hsl];simpa using h4);have hl : ((l0.map (fun b : ByteArray => b.data.toList)).mergeSort fun x y => decide (x ≤ y)).length = (l0.map (fun b : ByteArray => b.data.toList)).length := (by simp);rw [hsl];refine (Tryz.slices_Sort_string g 0 cap (l0.map (fun b : ByteArray => b.data.toList)) w (holds_of_block hb h4') hlt (by rw [← hsl];exact hc)).mono ?_;rintro e w' ⟨rfl,n,os,rfl⟩;refine ⟨rfl,?_,hB.grown (grownBy_sorted _) hB.size (fun k hk => ?_),Kept.of_grown (grownBy_sorted _) (Kept.refl w _) (fun k hk => .inl ?_)⟩
   ·refine Kd.R_of_own (xs := srtS l0) ?_ (fun k hk => .inl (ho0.1 k hk));have hx : (srtS l0).length = (l0.map (fun b : ByteArray => b.data.toList)).length := (by unfold srtS;rw [List.length_map];exact hl);rw [hx];show World.ownsRow _ _ _ _ _ _ (encs Value.string (List.map unS _));rw [encs_unS];exact ownsRow_sorted hl hg hb (by rw [← hsl];exact h1) h2 h3
   ·injection hk with hk;subst hk;exact hg
   ·injection hk with hk;subst hk;exact hgP
 ·rw [if_neg hc] at h;cases h
theorem compact_le (l : List (List UInt8)) : (Lib.compact l).length ≤ l.length := by
 unfold Lib.compact Lib.compactUpTo;rw [List.length_map];exact Nat.le_trans (List.length_filter_le _ _) (by rw [List.length_range];exact Nat.le_refl _)
def cmpS (l : List ByteArray) : List ByteArray := (Lib.compact (l.map (fun b => b.data.toList))).map unS
def Fbp.f (l0 : List ByteArray) : Option (List ByteArray) := if l0.length ≤ 9223372036854775807 then some (cmpS l0) else none
theorem Fbp.calls (ab : Nat → Prop) (aa : Value) (l0 : List ByteArray) (r0 : List ByteArray) (w0 w : World) (hB : Below w0.heap.size w0 w) (ho0 : Kd.R Kd.string 9 w w0.heap.size ab aa l0) (h : Fbp.f l0 = some r0) :
  Calls Tryz.prog 95 #[aa] w fun e w' => ∃ v0_ : Value,e = .returned (v0_) ∧ Kd.R Kd.string 9 w' w0.heap.size (fun k_ => (ab k_ ∨ w.heap.size ≤ k_)) v0_ r0 ∧ Below w0.heap.size w0 w' ∧ Kept w w' (fun k_ => ab k_) := by
 unfold Fbp.f at h
 by_cases hc : l0.length ≤ 9223372036854775807
 ·rw [if_pos hc] at h;obtain rfl := oI h;have ho := Kd.own_of_R ho0;rw [encs_toL] at ho;rcases ho.2 with ⟨hv,hn⟩|⟨g,cap,cur,hv,hg,hb,h1,h2,h3,h4⟩
  ·subst hv;obtain rfl : l0 = [] := List.length_eq_zero_iff.1 hn;refine (Tryz.slices_Compact_string_empty none 0 w).mono ?_;rintro e w' ⟨rfl,rfl⟩;refine ⟨_,rfl,?_,hB,Kept.refl _ _⟩;have : cmpS [] = [] := rfl;rw [this];exact Kd.R_mono ho0 (fun _ hk => .inl hk)
  ·subst hv;have hsl : l0.length = (l0.map (fun b : ByteArray => b.data.toList)).length := (List.length_map _).symm;have hgP := ho0.1 g rfl;have h4' : cur.toList.take (l0.map (fun b : ByteArray => b.data.toList)).length = (l0.map (fun b : ByteArray => b.data.toList)).map Go.Proofs.encStr := (by rw [← hsl];simpa using h4);obtain ⟨ss,hss⟩ : ∃ ss,ss = l0.map (fun b : ByteArray => b.data.toList) := ⟨_,rfl⟩;have hcs : cmpS l0 = (Lib.compact ss).map unS := (by rw [hss];rfl);rw [← hss] at h4' hsl;rw [hsl] at h1 hc;rw [hsl];refine (Tryz.slices_Compact_string g 0 cap ss w (holds_of_block hb h4') hc h1).mono ?_;have hle : (Lib.compact ss).length ≤ ss.length := compact_le ss;obtain ⟨D,hD⟩ : ∃ D,D = Lib.compact ss ++ List.replicate (ss.length - (Lib.compact ss).length) ([] : List UInt8) := ⟨_,rfl⟩;have hDl : D.length = ss.length := (by rw [hD,List.length_append,List.length_replicate];omega);rw [← hD];rintro e w' ⟨rfl,q,rfl⟩
   have hgr : w.grownBy (Go.Sort.putRow Go.Proofs.encStr (Sort.ahead w q) g 0 D.toArray) (some g) := by
    have := grownBy_sorted (w := w) (g := g) (n := q) (os := #[]) D.toArray;rwa [Go.Sort.grow_empty] at this
   refine ⟨_,rfl,?_,hB.grown hgr hB.size (fun k hk => ?_),Kept.of_grown hgr (Kept.refl w _) (fun k hk => .inl ?_)⟩
   ·rw [hcs];refine Kd.R_of_own (xs := (Lib.compact ss).map unS) ?_ (fun k hk => .inl (by injection hk with hk;subst hk;exact hgP));rw [List.length_map,encs_unS];have hp := heap_sorted (n := q) (os := #[]) D.toArray hb;rw [Go.Sort.grow_empty] at hp;have ht := take_putCells cur D (by rw [hDl,h3,Nat.mul_one];exact h1);refine ⟨by rw [List.length_map,Nat.mul_one],.inr ⟨g,cap,_,rfl,hg,hp,Nat.le_trans hle h1,h2,by simp [Go.Sort.putCells,h3],?_⟩⟩;rw [Nat.mul_one];have e1 := congrArg (List.take (Lib.compact ss).length) ht;rw [List.take_take,Nat.min_eq_left (by rw [hDl];exact hle),hD,List.map_append,List.take_left' (by rw [List.length_map])] at e1;rw [hD];exact e1
   ·injection hk with hk;subst hk;exact hg
   ·injection hk with hk;subst hk;exact hgP
 ·rw [if_neg hc] at h;cases h
def Fai.l0 : Nat → List ByteArray → ByteArray → Int → Int → Option (Int)
 | 0,_,_,_,_ => none
 | k + 1,x0,x1,x7,x8 => if x8 < x7 then (if 0 ≤ x8 then (if x8 < (x0.length : Int) then (if x1.toList = (rdOf ByteArray.empty x0 x8).toList then (some x8) else (Fai.l0 k x0 x1 x7 (wrap64 (x8 + 1)))) else (none)) else (none)) else (some (-1))
def Fai.f (k : Nat) (l0 : List ByteArray) (a1 : ByteArray) : Option (Int) := Fai.l0 k l0 a1 (l0.length : Int) 0
theorem Fai.mono_l : ∀ k,(∀ y0 y1 y2 y3,LeO (Fai.l0 k y0 y1 y2 y3) (Fai.l0 (k + 1) y0 y1 y2 y3))
 | 0 => fun _ _ _ _ r h => by simp [Fai.l0] at h
 | k + 1 => by
  have ih0 := Fai.mono_l k
  ·intro y0 y1 y2 y3
   unfold Fai.l0
   repeat' (first|with_reducible (first|exact ih0 _ _ _ _|exact LeO.refl _|exact LeO.none _|refine LeO.ite ?_ ?_|refine LeO.bind ?_ (fun _ => ?_))|exact LeO.none _|refine LeO.ite ?_ ?_|refine LeO.bind ?_ (fun _ => ?_))
theorem Fai.mono : ∀ a0 a1 k,LeO (Fai.f k a0 a1) (Fai.f (k + 1) a0 a1) := by
 intro a0 a1 k
 have ih0 := Fai.mono_l k
 unfold Fai.f
 repeat' (first|with_reducible (first|exact ih0 _ _ _ _|exact LeO.refl _|exact LeO.none _|refine LeO.ite ?_ ?_|refine LeO.bind ?_ (fun _ => ?_))|exact LeO.none _|refine LeO.ite ?_ ?_|refine LeO.bind ?_ (fun _ => ?_))
theorem Fai.calls (k : Nat) (A0 : Option Addr) (c0 : Nat) (l0 : List ByteArray) (a1 : ByteArray) (r : Int) (w : World) (hr0 : Kd.C Kd.string w A0 l0.length l0) (hc0 : l0.length ≤ c0) (h : Fai.f k l0 a1 = some r) :
  Calls Tryz.prog 155 #[.slice A0 l0.length c0,.string a1] w fun e w' => e = .returned (.int .i64 r) ∧ Drawn0 w w' := by
 have HR0 := aM hr0;have HC0 := aM hc0;clear hr0 hc0;have H : (Fai.l0 k l0 a1 (l0.length : Int) 0) = some r := h;clear h;have H' := aM H;clear H;go_enter Tryz.func155,Tryz.ntmps155;go_wp2;go_loopg [8] k (fun kq v8 w' => ∃ (aa : Int),v8 = .int .i64 aa ∧ Aside0 (Fai.l0 kq l0 a1 (l0.length : Int) aa = some r) ∧ Aside0 (kq ≤ k) ∧ Drawn0 w w')
 case atStart => exact ⟨(0),vR_,H',⟨Nat.le_refl _⟩,dw_⟩
 case round =>
  clear H';obtain ⟨aa,rfl,HA,ag,⟨m1,rfl⟩⟩ := hrel
  cases gk with
  | zero => exact absurd HA.out (by simp [Fai.l0])
  | succ k1 =>
   have H := HA.out;clear HA;simp only [Fai.l0] at H
   by_cases c3 : aa < (l0.length : Int)
   focus
    rw [if_pos c3] at H;have ab := dT c3;clear c3
    by_cases c4 : 0 ≤ aa
    rotate_left;rw [if_neg c4] at H;exact nH_ H;rw [if_pos c4] at H;have c4b0 := dT c4;clear c4
    by_cases c5 : aa < (l0.length : Int)
    rotate_left;rw [if_neg c5] at H;exact nH_ H;rw [if_pos c5] at H;have c5b0 := dT c5;clear c5
    by_cases c6 : a1.toList = (rdOf ByteArray.empty l0 aa).toList
    focus
     rw [if_pos c6] at H;have ac := qE.mpr c6;have ad := qN.mpr c6;clear c6;obtain rfl := oI H
    rotate_left
    focus
     rw [if_neg c6] at H;have ac := qF.mpr c6;have ad := qB.mpr c6;have H' := aM H;clear H
   rotate_left 2
   focus
    rw [if_neg c3] at H;have ab := dF c3;clear c3;obtain rfl := oI H
   all_goals
    (try (have ae : 0 ≤ (aa : Int) := oD (by assumption);have af : aa < (l0.length : Int) := oD (by assumption);obtain ⟨ad01,ah,hx01_0⟩ := Kd.at_string HR0.out aa ae af;cases ah;replace ae := eq_true ae;replace af := eq_true af));go_wp2
    first
     |
      go_ret;exact ⟨vR_,dw_⟩
     |
      go_roundg k1
      case measure => have := ag.out;omega
      case rel => exact ⟨(wrap64 (aa + 1)),vR_,H',⟨by have := ag.out;omega⟩,dw_⟩
def Fa6.f (k : Nat) (l0 : List ByteArray) (a1 : ByteArray) : Option (Bool) := (Fai.f k l0 a1).bind fun aa => (some (decide (aa ≥ 0)))
theorem Fa6.mono : ∀ a0 a1 k,LeO (Fa6.f k a0 a1) (Fa6.f (k + 1) a0 a1) := by
 intro a0 a1 k
 unfold Fa6.f
 repeat' (first|with_reducible (first|exact Fai.mono _ _ _|exact LeO.refl _|exact LeO.none _|refine LeO.ite ?_ ?_|refine LeO.bind ?_ (fun _ => ?_))|exact LeO.none _|refine LeO.ite ?_ ?_|refine LeO.bind ?_ (fun _ => ?_))
theorem Fa6.calls (k : Nat) (A0 : Option Addr) (c0 : Nat) (l0 : List ByteArray) (a1 : ByteArray) (r : Bool) (w : World) (hr0 : Kd.C Kd.string w A0 l0.length l0) (hc0 : l0.length ≤ c0) (h : Fa6.f k l0 a1 = some r) :
  Calls Tryz.prog 104 #[.slice A0 l0.length c0,.string a1] w fun e w' => e = .returned (.bool r) ∧ Drawn0 w w' := by
 have HR0 := aM hr0;have HC0 := aM hc0;clear hr0 hc0;have H : ((Fai.f k l0 a1).bind fun aa => (some (decide (aa ≥ 0)))) = some r := h;clear h;obtain ⟨aa,A3,H⟩ := bE_ H;obtain rfl := oI H;go_enter Tryz.func104,Tryz.ntmps104;go_wp2_with (first|((with_reducible refine gate_callee (f := 155) rfl ?_);refine gl_ (some 7) Tryz.func155 #[.slice A0 l0.length c0,.string a1] ?_;(with_reducible refine (Fai.calls k _ _ l0 a1 aa _ ?side1 ?side2 A3.out).mono ?_);(case side1 => repeat (first|exact HR0.out|(with_reducible first|refine cA ?_ _|refine cN ?_ _|refine cD ?_)));(case side2 => exact HC0.out);rintro e w' ⟨rfl,⟨nd,rfl⟩⟩;refine ⟨_,rfl,?_⟩));go_ret;exact ⟨vR_,dw_⟩
end Go.Proofs.YtmafmhgmdegplaaGreatDoor.P
