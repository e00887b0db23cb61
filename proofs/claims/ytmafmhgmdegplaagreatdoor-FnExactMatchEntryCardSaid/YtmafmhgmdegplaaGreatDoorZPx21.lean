/- Written by a program in this session: each theorem here says that a Go function computes the Lean function beside it, or that a law's row holds, under the conditions that the theorem itself states. -/
import Derived.Test.YtmafmhgmdegplaaGreatDoorZPx0
import Derived.Test.YtmafmhgmdegplaaGreatDoorZPx20
import Derived.Lib.AppendIntMem
import Derived.Test.YtmafmhgmdegplaaGreatDoorZShelf
namespace Go.Proofs.YtmafmhgmdegplaaGreatDoor.P
open Go.RowKit Go.Proofs.YtmafmhgmdegplaaGreatDoorW.PrintWords Go.Proofs.YtmafmhgmdegplaaGreatDoorW.PrintLast Go.Proofs.YtmafmhgmdegplaaGreatDoorW.PrintMore
attribute [local go_sem] max2_int min2_int max_two min_two max_three min_three max_four min_four   -- for this text's walks alone
set_option linter.unusedVariables false
set_option linter.unusedSimpArgs false
def impl_inverseForm.j0 : Nat → ByteArray → Bool → List ByteArray → ByteArray → ByteArray → ByteArray → Option (ByteArray)
 | 0,_,_,_,_,_,_ => none
 | k + 1,x3,x18,x427000,x427001,x427002,x427003 => if x18 = true then ((strings_Join.f x427000 (⟨#[32]⟩ : ByteArray)).bind fun t431 => (if 2 + t431.size ≤ 9223372036854775807 then (if x3.size + ((⟨#[44,32]⟩ : ByteArray) ++ t431).size ≤ 9223372036854775807 then (if x427003.toList = ([] : List UInt8) then (some (x3 ++ ((⟨#[44,32]⟩ : ByteArray) ++ t431))) else (if 2 + x427003.size ≤ 9223372036854775807 then (if (x3 ++ ((⟨#[44,32]⟩ : ByteArray) ++ t431)).size + ((⟨#[44,32]⟩ : ByteArray) ++ x427003).size ≤ 9223372036854775807 then (some ((x3 ++ ((⟨#[44,32]⟩ : ByteArray) ++ t431)) ++ ((⟨#[44,32]⟩ : ByteArray) ++ x427003))) else (none)) else (none))) else (none)) else (none))) else (if x427003.toList = ([] : List UInt8) then (some x3) else (if 2 + x427003.size ≤ 9223372036854775807 then (if x3.size + ((⟨#[44,32]⟩ : ByteArray) ++ x427003).size ≤ 9223372036854775807 then (some (x3 ++ ((⟨#[44,32]⟩ : ByteArray) ++ x427003))) else (none)) else (none)))
def impl_inverseForm.f (k : Nat) (l0_0 : List ByteArray) (a0_1 : ByteArray) (a0_2 : ByteArray) (a0_3 : ByteArray) : Option (ByteArray) := (impl_spaced.f (([a0_1,a0_2] : List ByteArray))).bind fun t430 => (if (l0_0.length : Int) > 0 then (impl_inverseForm.j0 k t430 true l0_0 a0_1 a0_2 a0_3) else (impl_inverseForm.j0 k t430 (a0_3.toList != ([] : List UInt8)) l0_0 a0_1 a0_2 a0_3))
theorem impl_inverseForm.mono_l : ∀ k,(∀ y0 y1 y2 y3 y4 y5,LeO (impl_inverseForm.j0 k y0 y1 y2 y3 y4 y5) (impl_inverseForm.j0 (k + 1) y0 y1 y2 y3 y4 y5))
 | 0 => fun _ _ _ _ _ _ r h => by simp [impl_inverseForm.j0] at h
 | k + 1 => by
  have ih0 := impl_inverseForm.mono_l k
  ·intro y0 y1 y2 y3 y4 y5
   unfold impl_inverseForm.j0
   repeat' (first|with_reducible (first|exact ih0 _ _ _ _ _ _|exact LeO.refl _|exact LeO.none _|refine LeO.ite ?_ ?_|refine LeO.bind ?_ (fun _ => ?_))|exact LeO.none _|refine LeO.ite ?_ ?_|refine LeO.bind ?_ (fun _ => ?_))
theorem impl_inverseForm.mono : ∀ a0 a1 a2 a3 k,LeO (impl_inverseForm.f k a0 a1 a2 a3) (impl_inverseForm.f (k + 1) a0 a1 a2 a3) := by
 intro a0 a1 a2 a3 k
 have ih0 := impl_inverseForm.mono_l k
 unfold impl_inverseForm.f
 repeat' (first|with_reducible (first|exact ih0 _ _ _ _ _ _|exact LeO.refl _|exact LeO.none _|refine LeO.ite ?_ ?_|refine LeO.bind ?_ (fun _ => ?_))|exact LeO.none _|refine LeO.ite ?_ ?_|refine LeO.bind ?_ (fun _ => ?_))
set_option maxHeartbeats 8000000 in
set_option maxRecDepth 100000 in
theorem impl_inverseForm.calls (k : Nat) (A0_0 : Option Addr) (c0_0 : Nat) (l0_0 : List ByteArray) (a0_1 : ByteArray) (a0_2 : ByteArray) (a0_3 : ByteArray) (r : ByteArray) (w : World) (hr0_0 : Kd.C Kd.string w A0_0 l0_0.length l0_0) (hc0_0 : l0_0.length ≤ c0_0) (h : impl_inverseForm.f k l0_0 a0_1 a0_2 a0_3 = some r) :
  Calls Tryz.prog 233 #[.agg #[.slice A0_0 l0_0.length c0_0,.string a0_1,.string a0_2,.string a0_3]] w fun e w' => e = .returned (.string r) ∧ Below w.heap.size w w' := by
 have hu157 := Tryz.underlying157;have HR0_0 := aM hr0_0;have HC0_0 := aM hc0_0;clear hr0_0 hc0_0;have HB := aM (Below.refl w.heap.size w);have H : ((impl_spaced.f (([a0_1,a0_2] : List ByteArray))).bind fun t430 => (if (l0_0.length : Int) > 0 then (impl_inverseForm.j0 k t430 true l0_0 a0_1 a0_2 a0_3) else (impl_inverseForm.j0 k t430 (a0_3.toList != ([] : List UInt8)) l0_0 a0_1 a0_2 a0_3))) = some r := h;clear h;obtain ⟨y427,hy427⟩ : ∃ y_ : List ByteArray,y_ = (([a0_1,a0_2] : List ByteArray)) := ⟨_,rfl⟩;replace H : ((impl_spaced.f y427).bind fun t430 => (if (l0_0.length : Int) > 0 then (impl_inverseForm.j0 k t430 true l0_0 a0_1 a0_2 a0_3) else (impl_inverseForm.j0 k t430 (a0_3.toList != ([] : List UInt8)) l0_0 a0_1 a0_2 a0_3))) = some r := (by first|(rw [hy427];with_reducible exact H)|(have H2_ := (Option.bind_some _ _).symm.trans H;rw [hy427];with_reducible exact H2_)|(have H2_ := (Option.bind_some _ _).symm.trans H;with_reducible exact H2_)|with_reducible exact H|(rw [hy427];exact H)|exact H);have Ny427 := aM hy427;clear hy427;obtain ⟨t430,A2,H⟩ := bE_ H;have HC3 := aM H;clear H;go_enter Tryz.func233,Tryz.ntmps233;go_upto_region 2 with (first|((with_reducible refine gate_dst (N := 1) rfl ?_);refine bx_ (N := 1) (cs := #[.slice A0_0 l0_0.length c0_0,.string a0_1,.string a0_2,.string a0_3]) (t := 157) ?_;intro gb426 hg w4 hbox hb;have BK426 := aM (hbox);have GW426 := aM ((by rw [hg];exact (lZ wB_) : w.heap.size ≤ gb426));have GE426 := GW426;replace HB := aM (lT wB_ hb);clear hb hbox hg;obtain ⟨hcz5_0,hcz5_1,hcz5_2,hcz5_3,hfz5_0,hfz5_1,hfz5_2,hfz5_3⟩ := z4_ BK426.out)|((with_reducible refine gate_dst (N := 8) rfl ?_);refine Kd.R_lit Kd.string _ 9 ?hg (N := 8) ?hd (xs := ([a0_1,a0_2] : List ByteArray)) (inner := [.string a0_1,.string a0_2]) (ok := fun _ => True) (okp := fun _ => True) ?hr ?hp (fun _ hk => hk) trivial (Below.refl _ _) (Nat.le_refl _) (by simp) ?_;(case hd => rfl);(case hg => rfl);(case hr => first|(go_simp;done)|(go_simp;rfl));(case hp => exact (Reps.one (show Kd.M Kd.string _ _ _ a0_1 [.string a0_1] from rfl) (Reps.one (show Kd.M Kd.string _ _ _ a0_2 [.string a0_2] from rfl) (Reps.none _ _))));intro v428 w6 ho7 hb hg_ hnew_;clear hg_ hnew_;(first|rw [← Ny427.out] at ho7|(simp only [Int.reduceToNat] at ho7;rw [← Ny427.out] at ho7));have HO429 := aM (Kd.R_lower ho7 (lZ wB_));replace BK426 := aM (bw_ BK426.out hb);replace HB := aM (lT wB_ hb);clear hb ho7;obtain ⟨Ao8,co8,eo8⟩ := Kd.R_slice HO429.out;subst eo8)|((with_reducible refine gate_callee (f := 262) rfl ?_);refine gl_ (some 9) Tryz.func262 #[.slice Ao8 y427.length co8] ?_;(with_reducible refine (impl_spaced.calls (fun k_ => some k_ = (.slice Ao8 y427.length co8 : Value).ownBlock) (.slice Ao8 y427.length co8) y427 t430 w _ ?side1 ?side2 A2.out).mono ?_);(case side1 => repeat (first|(with_reducible first|exact HB.out|apply lA|apply lN|apply lD|refine lS ?_ GE426.out)|exact HB.out));(case side2 => exact Kd.R_tight rfl HO429.out);rintro e w9 ⟨rfl,hb,hkp⟩;refine ⟨_,rfl,?_⟩;have n0_ := aM (blk_kept (wC_ BK426.out) hkp (fun hs_ => (fun e_ => (Kd.R_ne HO429.out BK426.out (by decide)) e_) hs_));have n1_ := aM (hb);clear BK426;clear HB;clear HO429;have BK426 := n0_;have HB := n1_;clear n0_ n1_));(try simp only [Act.put,lI,sZ,sS]);go_cut [18] (fun v18 wc => ∃ (kq : Nat) (x18_2 : Bool),v18 = .bool x18_2 ∧ Aside0 (impl_inverseForm.j0 kq t430 x18_2 l0_0 a0_1 a0_2 a0_3 = some r) ∧ Aside0 (kq ≤ k) ∧ Aside0 (wc.heap[gb426]? = some (.cells #[(.slice A0_0 l0_0.length c0_0),.string a0_1,.string a0_2,.string a0_3] 157 (0,0))) ∧ Aside0 (Below w.heap.size w wc))
 case first =>
  have H := HC3.out;clear HC3
  by_cases c10 : (l0_0.length : Int) > 0
  focus
   rw [if_pos c10] at H;have c10b0 : decide (0 < (l0_0.length : Int)) = true := dT c10;have c10b1 : decide (0 < l0_0.length) = true := dT (by omega);clear c10;(first|rw [c10b0]|(simp only [i64_w,i32_w];rw [c10b0])|skip);have H' := aM H;clear H
  rotate_left
  focus
   rw [if_neg c10] at H;have c10b0 : decide (0 < (l0_0.length : Int)) = false := dF c10;have c10b1 : decide (0 < l0_0.length) = false := dF (by omega);clear c10;(first|rw [c10b0]|(simp only [i64_w,i32_w];rw [c10b0])|skip);have H' := aM H;clear H
  all_goals
   obtain ⟨hczx426_0,hczx426_1,hczx426_2,hczx426_3,hfzx426_0,hfzx426_1,hfzx426_2,hfzx426_3⟩ := z4_ BK426.out;go_wp2;go_meet
   case rel => first|(exact ⟨_,(true),vR_,H',⟨by first|omega|exact Nat.le_refl _⟩,⟨wC_ BK426.out⟩,⟨wB_⟩⟩)|(exact ⟨_,((a0_3.toList != ([] : List UInt8))),vR_,H',⟨by first|omega|exact Nat.le_refl _⟩,⟨wC_ BK426.out⟩,⟨wB_⟩⟩)
 case rest =>
  clear HC3;obtain ⟨kq,x18_2,rfl,HA,HJ2,BK426,HB⟩ := hcut
  cases kq with
  | zero => exact absurd HA.out (by simp [impl_inverseForm.j0])
  | succ kj2 =>
   have H := HA.out;clear HA;simp only [impl_inverseForm.j0] at H
   by_cases c13 : x18_2 = true
   focus
    subst c13;rw [if_pos rfl] at H;obtain ⟨t431,A14,H⟩ := bE_ H
    by_cases c15 : 2 + t431.size ≤ 9223372036854775807
    rotate_left;rw [if_neg c15] at H;exact absurd H (by simp);rw [if_pos c15] at H;have c15b0 := eq_true c15;have c15b1 : decide (2 + t431.size ≤ 9223372036854775807) = true := dT c15;(try have c15b2 : (9223372036854775807 < 2 + t431.size) = False := eq_false (Nat.not_lt.2 c15))
    by_cases c16 : t430.size + ((⟨#[44,32]⟩ : ByteArray) ++ t431).size ≤ 9223372036854775807
    rotate_left;rw [if_neg c16] at H;exact absurd H (by simp);rw [if_pos c16] at H;have c16b0 := eq_true c16;have c16b1 : decide (t430.size + ((⟨#[44,32]⟩ : ByteArray) ++ t431).size ≤ 9223372036854775807) = true := dT c16;(try have c16b3 : (9223372036854775807 < t430.size + (2 + t431.size)) = False := eq_false (by have h_ := c16;simp only [ByteArray.size_append,ByteArray.size_extract] at h_;have hs0_ : (⟨#[44,32]⟩ : ByteArray).size = 2 := rfl;omega));(try have c16b2 : (9223372036854775807 < t430.size + ((⟨#[44,32]⟩ : ByteArray) ++ t431).size) = False := eq_false (Nat.not_lt.2 c16))
    by_cases c17 : a0_3.toList = ([] : List UInt8)
    focus
     rw [if_pos c17] at H;have c17b0 : (a0_3.toList == ([] : List UInt8)) = true := beq_iff_eq.mpr c17;have c17b1 : (a0_3.toList != ([] : List UInt8)) = false := bne_eq_false_iff_eq.mpr c17;clear c17;obtain rfl := Option.some.inj H;simp only [eS,eP] at H;obtain ⟨rfl⟩ := H
    rotate_left
    focus
     rw [if_neg c17] at H;have c17b0 : (a0_3.toList == ([] : List UInt8)) = false := beq_eq_false_iff_ne.mpr c17;have c17b1 : (a0_3.toList != ([] : List UInt8)) = true := bne_iff_ne.mpr c17
     by_cases c21 : 2 + a0_3.size ≤ 9223372036854775807
     rotate_left;rw [if_neg c21] at H;exact absurd H (by simp);rw [if_pos c21] at H;have c21b0 := eq_true c21;have c21b1 : decide (2 + a0_3.size ≤ 9223372036854775807) = true := dT c21;(try have c21b2 : (9223372036854775807 < 2 + a0_3.size) = False := eq_false (Nat.not_lt.2 c21))
     by_cases c22 : (t430 ++ ((⟨#[44,32]⟩ : ByteArray) ++ t431)).size + ((⟨#[44,32]⟩ : ByteArray) ++ a0_3).size ≤ 9223372036854775807
     rotate_left;rw [if_neg c22] at H;exact absurd H (by simp);rw [if_pos c22] at H;have c22b0 := eq_true c22;have c22b1 : decide ((t430 ++ ((⟨#[44,32]⟩ : ByteArray) ++ t431)).size + ((⟨#[44,32]⟩ : ByteArray) ++ a0_3).size ≤ 9223372036854775807) = true := dT c22;(try have c22b3 : (9223372036854775807 < t430.size + (2 + t431.size) + (2 + a0_3.size)) = False := eq_false (by have h_ := c22;simp only [ByteArray.size_append,ByteArray.size_extract] at h_;have hs0_ : (⟨#[44,32]⟩ : ByteArray).size = 2 := rfl;omega));(try have c22b2 : (9223372036854775807 < (t430 ++ ((⟨#[44,32]⟩ : ByteArray) ++ t431)).size + ((⟨#[44,32]⟩ : ByteArray) ++ a0_3).size) = False := eq_false (Nat.not_lt.2 c22));obtain rfl := Option.some.inj H;simp only [eS,eP] at H;obtain ⟨rfl⟩ := H
   rotate_left 2
   focus
    replace c13 := Bool.eq_false_iff.mpr c13;subst c13;rw [if_neg Bool.false_ne_true] at H
    by_cases c26 : a0_3.toList = ([] : List UInt8)
    focus
     rw [if_pos c26] at H;have c26b0 : (a0_3.toList == ([] : List UInt8)) = true := beq_iff_eq.mpr c26;have c26b1 : (a0_3.toList != ([] : List UInt8)) = false := bne_eq_false_iff_eq.mpr c26;clear c26;obtain rfl := Option.some.inj H;simp only [eS,eP] at H;obtain ⟨rfl⟩ := H
    rotate_left
    focus
     rw [if_neg c26] at H;have c26b0 : (a0_3.toList == ([] : List UInt8)) = false := beq_eq_false_iff_ne.mpr c26;have c26b1 : (a0_3.toList != ([] : List UInt8)) = true := bne_iff_ne.mpr c26
     by_cases c28 : 2 + a0_3.size ≤ 9223372036854775807
     rotate_left;rw [if_neg c28] at H;exact absurd H (by simp);rw [if_pos c28] at H;have c28b0 := eq_true c28;have c28b1 : decide (2 + a0_3.size ≤ 9223372036854775807) = true := dT c28;(try have c28b2 : (9223372036854775807 < 2 + a0_3.size) = False := eq_false (Nat.not_lt.2 c28))
     by_cases c29 : t430.size + ((⟨#[44,32]⟩ : ByteArray) ++ a0_3).size ≤ 9223372036854775807
     rotate_left;rw [if_neg c29] at H;exact absurd H (by simp);rw [if_pos c29] at H;have c29b0 := eq_true c29;have c29b1 : decide (t430.size + ((⟨#[44,32]⟩ : ByteArray) ++ a0_3).size ≤ 9223372036854775807) = true := dT c29;(try have c29b3 : (9223372036854775807 < t430.size + (2 + a0_3.size)) = False := eq_false (by have h_ := c29;simp only [ByteArray.size_append,ByteArray.size_extract] at h_;have hs0_ : (⟨#[44,32]⟩ : ByteArray).size = 2 := rfl;omega));(try have c29b2 : (9223372036854775807 < t430.size + ((⟨#[44,32]⟩ : ByteArray) ++ a0_3).size) = False := eq_false (Nat.not_lt.2 c29));obtain rfl := Option.some.inj H;simp only [eS,eP] at H;obtain ⟨rfl⟩ := H
   all_goals
    obtain ⟨hczx426_0,hczx426_1,hczx426_2,hczx426_3,hfzx426_0,hfzx426_1,hfzx426_2,hfzx426_3⟩ := z4_ BK426.out;go_wp2_with (first|((with_reducible refine gate_callee (f := 188) rfl ?_);refine gl_ (some 22) Tryz.func188 #[.slice A0_0 l0_0.length c0_0,.string (⟨#[32]⟩ : ByteArray)] ?_;(with_reducible refine (strings_Join.calls _ _ _ _ _ _ ?side1 ?side2 A14.out).mono ?_);(case side1 => exact wX_ HR0_0.out);(case side2 => exact HC0_0.out);rintro e WA14 ⟨rfl,hb⟩;refine ⟨_,rfl,?_⟩;replace BK426 := aM (bw_ BK426.out hb);replace HB := aM (lT wB_ hb);obtain ⟨hcz14x426_0,hcz14x426_1,hcz14x426_2,hcz14x426_3,hfz14x426_0,hfz14x426_1,hfz14x426_2,hfz14x426_3⟩ := z4_ BK426.out));go_ret;exact ⟨vR_,wB_⟩
def impl_namesText.l0 : Nat → List ByteArray → List (S157) → Int → Int → Option (ByteArray)
 | 0,_,_,_,_ => none
 | k + 1,x3,x7,x8,x9 => if x9 < x8 then (if 0 ≤ x9 then (if x9 < (x7.length : Int) then ((impl_inverseForm.f k ((rd_T157 x7 x9).f0) ((rd_T157 x7 x9).f1) ((rd_T157 x7 x9).f2) ((rd_T157 x7 x9).f3)).bind fun t437 => (if x3.length < 8796093022208 then (impl_namesText.l0 k (x3 ++ [t437]) x7 x8 (wrap64 (x9 + 1))) else (none))) else (none)) else (none)) else ((strings_Join.f x3 (⟨#[59,32]⟩ : ByteArray)).bind fun t441 => (some t441))
def impl_namesText.f (k : Nat) (l0 : List (S157)) : Option (ByteArray) := impl_namesText.l0 k (([] : List ByteArray)) l0 (l0.length : Int) 0
theorem impl_namesText.mono_l : ∀ k,(∀ y0 y1 y2 y3,LeO (impl_namesText.l0 k y0 y1 y2 y3) (impl_namesText.l0 (k + 1) y0 y1 y2 y3))
 | 0 => fun _ _ _ _ r h => by simp [impl_namesText.l0] at h
 | k + 1 => by
  have ih0 := impl_namesText.mono_l k
  ·intro y0 y1 y2 y3
   unfold impl_namesText.l0
   repeat' (first|with_reducible (first|exact ih0 _ _ _ _|exact impl_inverseForm.mono _ _ _ _ _|exact LeO.refl _|exact LeO.none _|refine LeO.ite ?_ ?_|refine LeO.bind ?_ (fun _ => ?_))|exact LeO.none _|refine LeO.ite ?_ ?_|refine LeO.bind ?_ (fun _ => ?_))
theorem impl_namesText.mono : ∀ a0 k,LeO (impl_namesText.f k a0) (impl_namesText.f (k + 1) a0) := by
 intro a0 k
 have ih0 := impl_namesText.mono_l k
 unfold impl_namesText.f
 repeat' (first|with_reducible (first|exact ih0 _ _ _ _|exact impl_inverseForm.mono _ _ _ _ _|exact LeO.refl _|exact LeO.none _|refine LeO.ite ?_ ?_|refine LeO.bind ?_ (fun _ => ?_))|exact LeO.none _|refine LeO.ite ?_ ?_|refine LeO.bind ?_ (fun _ => ?_))
set_option maxHeartbeats 8000000 in
set_option maxRecDepth 100000 in
theorem impl_namesText.calls (k : Nat) (A0 : Option Addr) (c0 : Nat) (l0 : List (S157)) (r : ByteArray) (w : World) (hr0 : Kd.C k157 w A0 l0.length l0) (hc0 : l0.length ≤ c0) (h : impl_namesText.f k l0 = some r) :
  Calls Tryz.prog 189 #[.slice A0 l0.length c0] w fun e w' => e = .returned (.string r) ∧ Below w.heap.size w w' := by
 have hu157 := Tryz.underlying157;have HR0 := aM hr0;have HC0 := aM hc0;clear hr0 hc0;have HB := aM (Below.refl w.heap.size w);have H : (impl_namesText.l0 k (([] : List ByteArray)) l0 (l0.length : Int) 0) = some r := h;clear h;obtain ⟨y432,hy432⟩ : ∃ y_ : List ByteArray,y_ = (([] : List ByteArray)) := ⟨_,rfl⟩;replace H : (impl_namesText.l0 k y432 l0 (l0.length : Int) 0) = some r := (by first|(rw [hy432];with_reducible exact H)|(have H2_ := (Option.bind_some _ _).symm.trans H;rw [hy432];with_reducible exact H2_)|(have H2_ := (Option.bind_some _ _).symm.trans H;with_reducible exact H2_)|with_reducible exact H|(rw [hy432];exact H)|exact H);have Ny432 := aM hy432;clear hy432;have H' := aM H;clear H;go_enter Tryz.func189,Tryz.ntmps189;go_wp2_with (first|((with_reducible refine gate_dst (N := 6) rfl ?_);refine Kd.R_lit Kd.string _ 9 ?hg (N := 6) ?hd (xs := ([] : List ByteArray)) (inner := []) (ok := fun _ => True) (okp := fun _ => True) ?hr ?hp (fun _ hk => hk) trivial (Below.refl _ _) (Nat.le_refl _) (by simp) ?_;(case hd => rfl);(case hg => rfl);(case hr => first|(go_simp;done)|(go_simp;rfl));(case hp => exact (Reps.none _ _));intro v433 w2 ho3 hb hg_ hnew_;clear hg_ hnew_;(first|rw [← Ny432.out] at ho3|(simp only [Int.reduceToNat] at ho3;rw [← Ny432.out] at ho3));have HO434 := aM (Kd.R_lower ho3 (lZ wB_));replace HB := aM (lT wB_ hb);clear hb ho3));go_loopg [3,9] k (fun kq v3 v9 w' => ∃ (x3_1 : List ByteArray) (x9_1 : Int),v9 = .int .i64 x9_1 ∧ Aside0 (impl_namesText.l0 kq x3_1 l0 (l0.length : Int) x9_1 = some r) ∧ Aside0 (kq ≤ k) ∧ Aside0 (Kd.R Kd.string 9 w' w.heap.size (fun _ => True) v3 x3_1) ∧ Aside0 (Below w.heap.size w w'))
 case atStart => exact ⟨(y432),(0),vR_,H',⟨Nat.le_refl _⟩,⟨wO_ HO434.out⟩,⟨wB_⟩⟩
 case round =>
  clear H';obtain ⟨x3_1,x9_1,rfl,HA,HK1,HO_3,HB⟩ := hrel
  cases gk with
  | zero => exact absurd HA.out (by simp [impl_namesText.l0])
  | succ k1 =>
   have H := HA.out;clear HA;simp only [impl_namesText.l0] at H
   by_cases c4 : x9_1 < (l0.length : Int)
   focus
    rw [if_pos c4] at H;have c4b0 : decide (x9_1 < (l0.length : Int)) = true := dT c4;clear c4
    by_cases c5 : 0 ≤ x9_1
    rotate_left;rw [if_neg c5] at H;exact absurd H (by simp);rw [if_pos c5] at H;have c5b0 : decide (0 ≤ x9_1) = true := dT c5;clear c5
    by_cases c6 : x9_1 < (l0.length : Int)
    rotate_left;rw [if_neg c6] at H;exact absurd H (by simp);rw [if_pos c6] at H;have c6b0 : decide (x9_1 < (l0.length : Int)) = true := dT c6;clear c6;obtain ⟨t437,A7,H⟩ := bE_ H
    by_cases c8 : x3_1.length < 8796093022208
    rotate_left;rw [if_neg c8] at H;exact absurd H (by simp);rw [if_pos c8] at H;have LMc8 := aM c8;clear c8;obtain ⟨y438,hy438⟩ : ∃ y_ : List ByteArray,y_ = (x3_1 ++ [t437]) := ⟨_,rfl⟩;replace H : (impl_namesText.l0 k1 y438 l0 (l0.length : Int) (wrap64 (x9_1 + 1))) = some r := (by first|(rw [hy438];with_reducible exact H)|(have H2_ := (Option.bind_some _ _).symm.trans H;rw [hy438];with_reducible exact H2_)|(have H2_ := (Option.bind_some _ _).symm.trans H;with_reducible exact H2_)|with_reducible exact H|(rw [hy438];exact H)|exact H);have Ny438 := aM hy438;clear hy438;have H' := aM H;clear H
   rotate_left
   focus
    rw [if_neg c4] at H;have c4b0 : decide (x9_1 < (l0.length : Int)) = false := dF c4;clear c4;obtain ⟨t441,A13,H⟩ := bE_ H;obtain rfl := Option.some.inj H;simp only [eS,eP] at H;obtain ⟨rfl⟩ := H;obtain ⟨Ao01,co01,eo01⟩ := Kd.R_slice HO_3.out;subst eo01
   all_goals
    (try (have p01 : 0 ≤ (x9_1 : Int) := oD (by assumption);have q01 : x9_1 < (l0.length : Int) := oD (by assumption);obtain ⟨ad01,A01_0,c01_0,e01,hx01_0,hx01_1,hx01_2,hx01_3,hl01_0,hi01_0⟩ := at_T157 HR0.out x9_1 p01 q01;cases e01;replace hx01_0 := (HB.out.cell (wB w _ hx01_0)).trans hx01_0;replace hx01_1 := (HB.out.cell (wB w _ hx01_1)).trans hx01_1;replace hx01_2 := (HB.out.cell (wB w _ hx01_2)).trans hx01_2;replace hx01_3 := (HB.out.cell (wB w _ hx01_3)).trans hx01_3;have HR01_0 := aM hi01_0;have HC01_0 := aM hl01_0;clear hi01_0 hl01_0;replace p01 := eq_true p01;replace q01 := eq_true q01));go_wp2_with (first|((with_reducible refine gate_callee (f := 188) rfl ?_);refine gl_ (some 20) Tryz.func188 #[.slice Ao01 x3_1.length co01,.string (⟨#[59,32]⟩ : ByteArray)] ?_;(with_reducible refine (strings_Join.calls _ _ _ _ _ _ ?side1 ?side2 A13.out).mono ?_);(case side1 => exact wY_ (rR HO_3.out).2.2);(case side2 => exact (rR HO_3.out).2.1);rintro e WA13 ⟨rfl,hb⟩;refine ⟨_,rfl,?_⟩;replace HO_3 := aM (rB (wO_ HO_3.out) hb);replace HB := aM (lT wB_ hb))|((with_reducible refine gate_dst (N := 5) rfl ?_);refine bx_ (N := 5) (cs := #[.slice none 0 0,.string (⟨#[]⟩ : ByteArray),.string (⟨#[]⟩ : ByteArray),.string (⟨#[]⟩ : ByteArray)]) (t := 157) ?_;intro gb436 hg Wgb436 hbox hb;have BK436 := aM (hbox);have GW436 := aM ((by rw [hg];exact (lZ wB_) : w.heap.size ≤ gb436));have GE436 := GW436;replace HO_3 := aM (rB (wO_ HO_3.out) hb);replace HB := aM (lT wB_ hb);clear hb hbox hg;obtain ⟨hcz436x436_0,hcz436x436_1,hcz436x436_2,hcz436x436_3,hfz436x436_0,hfz436x436_1,hfz436x436_2,hfz436x436_3⟩ := z4_ BK436.out)|((with_reducible refine gate_callee (f := 233) rfl ?_);refine gl_ (some 15) Tryz.func233 #[.agg #[.slice A01_0 ((rd_T157 l0 x9_1).f0).length c01_0,.string ((rd_T157 l0 x9_1).f1),.string ((rd_T157 l0 x9_1).f2),.string ((rd_T157 l0 x9_1).f3)]] ?_;(with_reducible refine (impl_inverseForm.calls _ _ _ _ _ _ _ _ _ ?side1 ?side2 A7.out).mono ?_);(case side1 => exact cB HR01_0.out wB_);(case side2 => exact HC01_0.out);rintro e WA7 ⟨rfl,hb⟩;refine ⟨_,rfl,?_⟩;replace HO_3 := aM (rB (by (with_reducible repeat (first|apply rA|apply rN|apply rD));exact (Kd.R_mono (rF (p := ⟨gb436,3,none⟩) (rF (p := ⟨gb436,2,none⟩) (rF (p := ⟨gb436,1,none⟩) (rF (p := ⟨gb436,0,none⟩) (Kd.R_types HO_3.out BK436.out (by decide)) (fun _ hk => hk.2) (.slice A01_0 ((rd_T157 l0 x9_1).f0).length c01_0)) (fun _ hk => hk.2) (.string ((rd_T157 l0 x9_1).f1))) (fun _ hk => hk.2) (.string ((rd_T157 l0 x9_1).f2))) (fun _ hk => hk.2) (.string ((rd_T157 l0 x9_1).f3))) (fun _ h_ => h_.1))) hb);replace BK436 := aM (bW (g := gb436) (o := .cells #[.slice A01_0 ((rd_T157 l0 x9_1).f0).length c01_0,.string ((rd_T157 l0 x9_1).f1),.string ((rd_T157 l0 x9_1).f2),.string ((rd_T157 l0 x9_1).f3)] 157 (0,0)) (bq4_ BK436.out) hb);replace HB := aM (lT wB_ hb))|((with_reducible refine gate_builtin (b := .append) (xs := #[.tmp 13,.tmp 16]) rfl ?_);at_builtin;refine Kd.R_append Kd.string (w0 := w) w.heap.size rfl (.tmp 13) (.tmp 16) 50 9 (.string ⟨#[]⟩) 16 rfl Tryz.underlying50 info9 rfl (by decide) (by omega) u3 x3_1 t437 [.string t437] (fun _ => True) (fun _ => False) rfl rfl ?aP (fun _ hk => hk.elim) ?aF ?aO ?aB ?aS ?aL ?_;(case aP => exact rfl);(case aB => exact wB_);(case aF => exact (fun _ _ => trivial));(case aO => exact (wO_ HO_3.out));(case aS => exact (lZ wB_));(case aL => have := LMc8.out;omega);intro v439 w12 ho hb hg hat;rw [← Ny438.out] at ho;have n0_ := aM (bg_ BK436.out hg (Kd.R_ne HO_3.out BK436.out (by decide)));have n1_ := aM (hb);have n2_ := aM (ho);clear BK436;clear HB;clear HO_3;have BK436 := n0_;have HB := n1_;have HO440 := n2_;clear n0_ n1_ n2_;clear ho hb hg hat))
    first
     |
      go_ret;exact ⟨vR_,wB_⟩
     |
      go_roundg k1
      case measure => have := HK1.out;omega
      case rel => exact ⟨(y438),(wrap64 (x9_1 + 1)),vR_,H',⟨by have := HK1.out;omega⟩,⟨wO_ HO440.out⟩,⟨wB_⟩⟩
def strconv_Itoa.f (a0 : Int) : Option (ByteArray) := if -9223372036854775808 ≤ a0 ∧ a0 ≤ 9223372036854775807 then some ⟨(Lib.itoa a0).toArray⟩ else none
theorem strconv_Itoa.calls (a0 : Int) (r : ByteArray) (w : World) (hG : Gw w) (h : strconv_Itoa.f a0 = some r) :
  Calls Tryz.prog 191 #[.int .i64 a0] w fun e w' => e = .returned (.string r) ∧ Below w.heap.size w w' := by
 unfold strconv_Itoa.f at h;split at h
 ·rename_i hs;obtain rfl := Option.some.inj h;refine (Tryz.strconv_Itoa a0 hs.1 hs.2 w hG.tab).mono ?_;rintro e w' ⟨rfl,k,os,rfl⟩;exact ⟨rfl,Lib.below_grow _ _ (Nat.le_refl _) _ _⟩
 ·cases h
def impl_digits.l0 : Nat → Int → ByteArray → Option (ByteArray)
 | 0,_,_ => none
 | k + 1,x1,x5 => if (x5.size : Int) < x1 then (if 1 + x5.size ≤ 9223372036854775807 then (impl_digits.l0 k x1 ((⟨#[48]⟩ : ByteArray) ++ x5)) else (none)) else (some x5)
def impl_digits.f (k : Nat) (a0 : Int) (a1 : Int) : Option (ByteArray) := (strconv_Itoa.f a0).bind fun t442 => (impl_digits.l0 k a1 t442)
theorem impl_digits.mono_l : ∀ k,(∀ y0 y1,LeO (impl_digits.l0 k y0 y1) (impl_digits.l0 (k + 1) y0 y1))
 | 0 => fun _ _ r h => by simp [impl_digits.l0] at h
 | k + 1 => by
  have ih0 := impl_digits.mono_l k
  ·intro y0 y1
   unfold impl_digits.l0
   repeat' (first|with_reducible (first|exact ih0 _ _|exact LeO.refl _|exact LeO.none _|refine LeO.ite ?_ ?_|refine LeO.bind ?_ (fun _ => ?_))|exact LeO.none _|refine LeO.ite ?_ ?_|refine LeO.bind ?_ (fun _ => ?_))
theorem impl_digits.mono : ∀ a0 a1 k,LeO (impl_digits.f k a0 a1) (impl_digits.f (k + 1) a0 a1) := by
 intro a0 a1 k
 have ih0 := impl_digits.mono_l k
 unfold impl_digits.f
 repeat' (first|with_reducible (first|exact ih0 _ _|exact LeO.refl _|exact LeO.none _|refine LeO.ite ?_ ?_|refine LeO.bind ?_ (fun _ => ?_))|exact LeO.none _|refine LeO.ite ?_ ?_|refine LeO.bind ?_ (fun _ => ?_))
set_option maxHeartbeats 8000000 in
set_option maxRecDepth 100000 in
theorem impl_digits.calls (k : Nat) (a0 : Int) (a1 : Int) (r : ByteArray) (w : World) (hG : Gw w) (h : impl_digits.f k a0 a1 = some r) :
  Calls Tryz.prog 234 #[.int .i64 a0,.int .i64 a1] w fun e w' => e = .returned (.string r) ∧ Below w.heap.size w w' := by
 have HB := aM (Below.refl w.heap.size w);have HG := aM hG;clear hG;have H : ((strconv_Itoa.f a0).bind fun t442 => (impl_digits.l0 k a1 t442)) = some r := h;clear h;obtain ⟨t442,A3,H⟩ := bE_ H;have H' := aM H;clear H;go_enter Tryz.func234,Tryz.ntmps234;go_wp2_with (first|((with_reducible refine gate_callee (f := 191) rfl ?_);refine gl_ (some 7) Tryz.func191 #[.int .i64 a0] ?_;(with_reducible refine (strconv_Itoa.calls a0 t442 _ ?side1 A3.out).mono ?_);(case side1 => exact Gw.below HG.out wB_);rintro e w4 ⟨rfl,hb⟩;refine ⟨_,rfl,?_⟩;replace HB := aM (lT wB_ hb)));go_loopg [5] k (fun kq v5 w' => ∃ (x5_1 : ByteArray),v5 = .string x5_1 ∧ Aside0 (impl_digits.l0 kq a1 x5_1 = some r) ∧ Aside0 (kq ≤ k) ∧ Aside0 (Below w.heap.size w w'))
 case atStart => exact ⟨(t442),vR_,H',⟨Nat.le_refl _⟩,⟨wB_⟩⟩
 case round =>
  clear H';obtain ⟨x5_1,rfl,HA,HK1,HB⟩ := hrel
  cases gk with
  | zero => exact absurd HA.out (by simp [impl_digits.l0])
  | succ k1 =>
   have H := HA.out;clear HA;simp only [impl_digits.l0] at H
   by_cases c5 : (x5_1.size : Int) < a1
   ·rw [if_pos c5] at H;have c5b0 : decide ((x5_1.size : Int) < a1) = true := dT c5;clear c5
    by_cases c6 : 1 + x5_1.size ≤ 9223372036854775807
    ·rw [if_pos c6] at H;have c6b0 := eq_true c6;have c6b1 : decide (1 + x5_1.size ≤ 9223372036854775807) = true := dT c6;(try have c6b2 : (9223372036854775807 < 1 + x5_1.size) = False := eq_false (Nat.not_lt.2 c6));have H' := aM H;clear H;go_wp2;go_roundg k1
     case measure => have := HK1.out;omega
     case rel => exact ⟨((⟨#[48]⟩ : ByteArray) ++ x5_1),vR_,H',⟨by have := HK1.out;omega⟩,⟨wB_⟩⟩
    ·rw [if_neg c6] at H;exact absurd H (by simp)
   ·rw [if_neg c5] at H;have c5b0 : decide ((x5_1.size : Int) < a1) = false := dF c5;clear c5;obtain rfl := Option.some.inj H;simp only [eS,eP] at H;obtain ⟨rfl⟩ := H;go_wp2;go_ret;exact ⟨vR_,wB_⟩
def impl_formatDate.j0 : Nat → ByteArray → Int → Int → Int → Bool → Option (ByteArray)
 | 0,_,_,_,_,_ => none
 | k + 1,x3,x444000,x444001,x444002,x444003 => if x444001 > 0 then ((impl_digits.f k x444001 2).bind fun t445 => (if 1 + t445.size ≤ 9223372036854775807 then (if x3.size + ((⟨#[45]⟩ : ByteArray) ++ t445).size ≤ 9223372036854775807 then (if x444002 > 0 then ((impl_digits.f k x444002 2).bind fun t446 => (if 1 + t446.size ≤ 9223372036854775807 then (if (x3 ++ ((⟨#[45]⟩ : ByteArray) ++ t445)).size + ((⟨#[45]⟩ : ByteArray) ++ t446).size ≤ 9223372036854775807 then (some ((x3 ++ ((⟨#[45]⟩ : ByteArray) ++ t445)) ++ ((⟨#[45]⟩ : ByteArray) ++ t446))) else (none)) else (none))) else (some (x3 ++ ((⟨#[45]⟩ : ByteArray) ++ t445)))) else (none)) else (none))) else (if x444002 > 0 then ((impl_digits.f k x444002 2).bind fun t447 => (if 1 + t447.size ≤ 9223372036854775807 then (if x3.size + ((⟨#[45]⟩ : ByteArray) ++ t447).size ≤ 9223372036854775807 then (some (x3 ++ ((⟨#[45]⟩ : ByteArray) ++ t447))) else (none)) else (none))) else (some x3))
def impl_formatDate.f (k : Nat) (a0_0 : Int) (a0_1 : Int) (a0_2 : Int) (a0_3 : Bool) : Option (ByteArray) := if a0_0 = 0 then (some (⟨#[117,110,107,110,111,119,110]⟩ : ByteArray)) else ((impl_digits.f k a0_0 4).bind fun t444 => (if a0_3 = true then (if 1 + t444.size ≤ 9223372036854775807 then (impl_formatDate.j0 k ((⟨#[99]⟩ : ByteArray) ++ t444) a0_0 a0_1 a0_2 a0_3) else (none)) else (impl_formatDate.j0 k t444 a0_0 a0_1 a0_2 a0_3)))
theorem impl_formatDate.mono_l : ∀ k,(∀ y0 y1 y2 y3 y4,LeO (impl_formatDate.j0 k y0 y1 y2 y3 y4) (impl_formatDate.j0 (k + 1) y0 y1 y2 y3 y4))
 | 0 => fun _ _ _ _ _ r h => by simp [impl_formatDate.j0] at h
 | k + 1 => by
  have ih0 := impl_formatDate.mono_l k
  ·intro y0 y1 y2 y3 y4
   unfold impl_formatDate.j0
   repeat' (first|with_reducible (first|exact ih0 _ _ _ _ _|exact impl_digits.mono _ _ _|exact LeO.refl _|exact LeO.none _|refine LeO.ite ?_ ?_|refine LeO.bind ?_ (fun _ => ?_))|exact LeO.none _|refine LeO.ite ?_ ?_|refine LeO.bind ?_ (fun _ => ?_))
theorem impl_formatDate.mono : ∀ a0 a1 a2 a3 k,LeO (impl_formatDate.f k a0 a1 a2 a3) (impl_formatDate.f (k + 1) a0 a1 a2 a3) := by
 intro a0 a1 a2 a3 k
 have ih0 := impl_formatDate.mono_l k
 unfold impl_formatDate.f
 repeat' (first|with_reducible (first|exact ih0 _ _ _ _ _|exact impl_digits.mono _ _ _|exact LeO.refl _|exact LeO.none _|refine LeO.ite ?_ ?_|refine LeO.bind ?_ (fun _ => ?_))|exact LeO.none _|refine LeO.ite ?_ ?_|refine LeO.bind ?_ (fun _ => ?_))
set_option maxHeartbeats 8000000 in
set_option maxRecDepth 100000 in
theorem impl_formatDate.calls (k : Nat) (a0_0 : Int) (a0_1 : Int) (a0_2 : Int) (a0_3 : Bool) (r : ByteArray) (w : World) (hG : Gw w) (h : impl_formatDate.f k a0_0 a0_1 a0_2 a0_3 = some r) :
  Calls Tryz.prog 190 #[.agg #[.int .i64 a0_0,.int .i64 a0_1,.int .i64 a0_2,.bool a0_3]] w fun e w' => e = .returned (.string r) ∧ Below w.heap.size w w' := by
 have hu39 := Tryz.underlying39;have HB := aM (Below.refl w.heap.size w);have HG := aM hG;clear hG;have H : (if a0_0 = 0 then (some (⟨#[117,110,107,110,111,119,110]⟩ : ByteArray)) else ((impl_digits.f k a0_0 4).bind fun t444 => (if a0_3 = true then (if 1 + t444.size ≤ 9223372036854775807 then (impl_formatDate.j0 k ((⟨#[99]⟩ : ByteArray) ++ t444) a0_0 a0_1 a0_2 a0_3) else (none)) else (impl_formatDate.j0 k t444 a0_0 a0_1 a0_2 a0_3)))) = some r := h;clear h
 by_cases c2 : a0_0 = 0
 ·rw [if_pos c2] at H;have c2b0 : (a0_0 == 0) = true := beq_iff_eq.mpr c2;have c2b1 : (a0_0 != 0) = false := bne_eq_false_iff_eq.mpr c2;clear c2;obtain rfl := Option.some.inj H;simp only [eS,eP] at H;obtain ⟨rfl⟩ := H;go_enter Tryz.func190,Tryz.ntmps190;go_wp2_with (first|((with_reducible refine gate_dst (N := 1) rfl ?_);refine bx_ (N := 1) (cs := #[.int .i64 a0_0,.int .i64 a0_1,.int .i64 a0_2,.bool a0_3]) (t := 39) ?_;intro gb443 hg w3 hbox hb;have BK443 := aM (hbox);have GW443 := aM ((by rw [hg];exact (lZ wB_) : w.heap.size ≤ gb443));have GE443 := GW443;replace HB := aM (lT wB_ hb);clear hb hbox hg;obtain ⟨hcz4_0,hcz4_1,hcz4_2,hcz4_3,hfz4_0,hfz4_1,hfz4_2,hfz4_3⟩ := z4_ BK443.out));go_ret;exact ⟨vR_,wB_⟩
 ·rw [if_neg c2] at H;have c2b0 : (a0_0 == 0) = false := beq_eq_false_iff_ne.mpr c2;have c2b1 : (a0_0 != 0) = true := bne_iff_ne.mpr c2;obtain ⟨t444,A5,H⟩ := bE_ H;have HC6 := aM H;clear H;go_enter Tryz.func190,Tryz.ntmps190;go_upto_if 11 with (first|((with_reducible refine gate_dst (N := 1) rfl ?_);refine bx_ (N := 1) (cs := #[.int .i64 a0_0,.int .i64 a0_1,.int .i64 a0_2,.bool a0_3]) (t := 39) ?_;intro gb443 hg w7 hbox hb;have BK443 := aM (hbox);have GW443 := aM ((by rw [hg];exact (lZ wB_) : w.heap.size ≤ gb443));have GE443 := GW443;replace HB := aM (lT wB_ hb);clear hb hbox hg;obtain ⟨hcz8_0,hcz8_1,hcz8_2,hcz8_3,hfz8_0,hfz8_1,hfz8_2,hfz8_3⟩ := z4_ BK443.out)|((with_reducible refine gate_callee (f := 234) rfl ?_);refine gl_ (some 9) Tryz.func234 #[.int .i64 a0_0,.int .i64 4] ?_;(with_reducible refine (impl_digits.calls k a0_0 4 t444 _ ?side1 A5.out).mono ?_);(case side1 => exact Gw.below HG.out wB_);rintro e w9 ⟨rfl,hb⟩;refine ⟨_,rfl,?_⟩;replace BK443 := aM (bw_ BK443.out hb);replace HB := aM (lT wB_ hb);obtain ⟨hcz10_0,hcz10_1,hcz10_2,hcz10_3,hfz10_0,hfz10_1,hfz10_2,hfz10_3⟩ := z4_ BK443.out));(try simp only [Act.put,lI,sZ,sS]);go_cut [3] (fun v3 wc => ∃ (kq : Nat) (x3_5 : ByteArray),v3 = .string x3_5 ∧ Aside0 (impl_formatDate.j0 kq x3_5 a0_0 a0_1 a0_2 a0_3 = some r) ∧ Aside0 (kq ≤ k) ∧ Aside0 (wc.heap[gb443]? = some (.cells #[.int .i64 a0_0,.int .i64 a0_1,.int .i64 a0_2,.bool a0_3] 39 (0,0))) ∧ Aside0 (Below w.heap.size w wc))
  case first =>
   have H := HC6.out;clear HC6
   by_cases c11 : a0_3 = true
   ·subst c11;rw [if_pos rfl] at H
    by_cases c12 : 1 + t444.size ≤ 9223372036854775807
    ·rw [if_pos c12] at H;have c12b0 := eq_true c12;have c12b1 : decide (1 + t444.size ≤ 9223372036854775807) = true := dT c12;(try have c12b2 : (9223372036854775807 < 1 + t444.size) = False := eq_false (Nat.not_lt.2 c12));have H' := aM H;clear H;go_wp2;go_meet
     case rel => exact ⟨_,((⟨#[99]⟩ : ByteArray) ++ t444),vR_,H',⟨by first|omega|exact Nat.le_refl _⟩,⟨wC_ BK443.out⟩,⟨wB_⟩⟩
    ·rw [if_neg c12] at H;exact absurd H (by simp)
   ·replace c11 := Bool.eq_false_iff.mpr c11;subst c11;rw [if_neg Bool.false_ne_true] at H;have H' := aM H;clear H;go_wp2;go_meet
    case rel => exact ⟨_,(t444),vR_,H',⟨by first|omega|exact Nat.le_refl _⟩,⟨wC_ BK443.out⟩,⟨wB_⟩⟩
  case rest =>
   clear HC6;obtain ⟨kq,x3_5,rfl,HA,HJ5,BK443,HB⟩ := hcut
   cases kq with
   | zero => exact absurd HA.out (by simp [impl_formatDate.j0])
   | succ kj5 =>
    have H := HA.out;clear HA;simp only [impl_formatDate.j0] at H
    by_cases c13 : a0_1 > 0
    focus
     rw [if_pos c13] at H;have c13b0 : decide (0 < a0_1) = true := dT c13;clear c13;obtain ⟨t445,A14,H⟩ := bE_ H
     by_cases c15 : 1 + t445.size ≤ 9223372036854775807
     rotate_left;rw [if_neg c15] at H;exact absurd H (by simp);rw [if_pos c15] at H;have c15b0 := eq_true c15;have c15b1 : decide (1 + t445.size ≤ 9223372036854775807) = true := dT c15;(try have c15b2 : (9223372036854775807 < 1 + t445.size) = False := eq_false (Nat.not_lt.2 c15))
     by_cases c16 : x3_5.size + ((⟨#[45]⟩ : ByteArray) ++ t445).size ≤ 9223372036854775807
     rotate_left;rw [if_neg c16] at H;exact absurd H (by simp);rw [if_pos c16] at H;have c16b0 := eq_true c16;have c16b1 : decide (x3_5.size + ((⟨#[45]⟩ : ByteArray) ++ t445).size ≤ 9223372036854775807) = true := dT c16;(try have c16b3 : (9223372036854775807 < x3_5.size + (1 + t445.size)) = False := eq_false (by have h_ := c16;simp only [ByteArray.size_append,ByteArray.size_extract] at h_;have hs0_ : (⟨#[45]⟩ : ByteArray).size = 1 := rfl;omega));(try have c16b2 : (9223372036854775807 < x3_5.size + ((⟨#[45]⟩ : ByteArray) ++ t445).size) = False := eq_false (Nat.not_lt.2 c16))
     by_cases c17 : a0_2 > 0
     focus
      rw [if_pos c17] at H;have c17b0 : decide (0 < a0_2) = true := dT c17;clear c17;obtain ⟨t446,A18,H⟩ := bE_ H
      by_cases c19 : 1 + t446.size ≤ 9223372036854775807
      rotate_left;rw [if_neg c19] at H;exact absurd H (by simp);rw [if_pos c19] at H;have c19b0 := eq_true c19;have c19b1 : decide (1 + t446.size ≤ 9223372036854775807) = true := dT c19;(try have c19b2 : (9223372036854775807 < 1 + t446.size) = False := eq_false (Nat.not_lt.2 c19))
      by_cases c20 : (x3_5 ++ ((⟨#[45]⟩ : ByteArray) ++ t445)).size + ((⟨#[45]⟩ : ByteArray) ++ t446).size ≤ 9223372036854775807
      rotate_left;rw [if_neg c20] at H;exact absurd H (by simp);rw [if_pos c20] at H;have c20b0 := eq_true c20;have c20b1 : decide ((x3_5 ++ ((⟨#[45]⟩ : ByteArray) ++ t445)).size + ((⟨#[45]⟩ : ByteArray) ++ t446).size ≤ 9223372036854775807) = true := dT c20;(try have c20b3 : (9223372036854775807 < x3_5.size + (1 + t445.size) + (1 + t446.size)) = False := eq_false (by have h_ := c20;simp only [ByteArray.size_append,ByteArray.size_extract] at h_;have hs0_ : (⟨#[45]⟩ : ByteArray).size = 1 := rfl;omega));(try have c20b2 : (9223372036854775807 < (x3_5 ++ ((⟨#[45]⟩ : ByteArray) ++ t445)).size + ((⟨#[45]⟩ : ByteArray) ++ t446).size) = False := eq_false (Nat.not_lt.2 c20));obtain rfl := Option.some.inj H;simp only [eS,eP] at H;obtain ⟨rfl⟩ := H
     rotate_left
     focus
      rw [if_neg c17] at H;have c17b0 : decide (0 < a0_2) = false := dF c17;clear c17;obtain rfl := Option.some.inj H;simp only [eS,eP] at H;obtain ⟨rfl⟩ := H
    rotate_left 2
    focus
     rw [if_neg c13] at H;have c13b0 : decide (0 < a0_1) = false := dF c13;clear c13
     by_cases c28 : a0_2 > 0
     focus
      rw [if_pos c28] at H;have c28b0 : decide (0 < a0_2) = true := dT c28;clear c28;obtain ⟨t447,A29,H⟩ := bE_ H
      by_cases c30 : 1 + t447.size ≤ 9223372036854775807
      rotate_left;rw [if_neg c30] at H;exact absurd H (by simp);rw [if_pos c30] at H;have c30b0 := eq_true c30;have c30b1 : decide (1 + t447.size ≤ 9223372036854775807) = true := dT c30;(try have c30b2 : (9223372036854775807 < 1 + t447.size) = False := eq_false (Nat.not_lt.2 c30))
      by_cases c31 : x3_5.size + ((⟨#[45]⟩ : ByteArray) ++ t447).size ≤ 9223372036854775807
      rotate_left;rw [if_neg c31] at H;exact absurd H (by simp);rw [if_pos c31] at H;have c31b0 := eq_true c31;have c31b1 : decide (x3_5.size + ((⟨#[45]⟩ : ByteArray) ++ t447).size ≤ 9223372036854775807) = true := dT c31;(try have c31b3 : (9223372036854775807 < x3_5.size + (1 + t447.size)) = False := eq_false (by have h_ := c31;simp only [ByteArray.size_append,ByteArray.size_extract] at h_;have hs0_ : (⟨#[45]⟩ : ByteArray).size = 1 := rfl;omega));(try have c31b2 : (9223372036854775807 < x3_5.size + ((⟨#[45]⟩ : ByteArray) ++ t447).size) = False := eq_false (Nat.not_lt.2 c31));obtain rfl := Option.some.inj H;simp only [eS,eP] at H;obtain ⟨rfl⟩ := H
     rotate_left
     focus
      rw [if_neg c28] at H;have c28b0 : decide (0 < a0_2) = false := dF c28;clear c28;obtain rfl := Option.some.inj H;simp only [eS,eP] at H;obtain ⟨rfl⟩ := H
    all_goals
     obtain ⟨hczx443_0,hczx443_1,hczx443_2,hczx443_3,hfzx443_0,hfzx443_1,hfzx443_2,hfzx443_3⟩ := z4_ BK443.out;go_wp2_with (first|((with_reducible refine gate_callee (f := 234) rfl ?_);refine gl_ (some 29) Tryz.func234 #[.int .i64 a0_2,.int .i64 2] ?_;(with_reducible refine (impl_digits.calls _ _ _ _ _ ?side1 A29.out).mono ?_);(case side1 => exact Gw.below HG.out wB_);rintro e WA29 ⟨rfl,hb⟩;refine ⟨_,rfl,?_⟩;replace BK443 := aM (bw_ BK443.out hb);replace HB := aM (lT wB_ hb))|((with_reducible refine gate_callee (f := 234) rfl ?_);refine gl_ (some 20) Tryz.func234 #[.int .i64 a0_1,.int .i64 2] ?_;(with_reducible refine (impl_digits.calls _ _ _ _ _ ?side1 A14.out).mono ?_);(case side1 => exact Gw.below HG.out wB_);rintro e WA14 ⟨rfl,hb⟩;refine ⟨_,rfl,?_⟩;replace BK443 := aM (bw_ BK443.out hb);replace HB := aM (lT wB_ hb);obtain ⟨hcz14x443_0,hcz14x443_1,hcz14x443_2,hcz14x443_3,hfz14x443_0,hfz14x443_1,hfz14x443_2,hfz14x443_3⟩ := z4_ BK443.out)|((with_reducible refine gate_callee (f := 234) rfl ?_);refine gl_ (some 29) Tryz.func234 #[.int .i64 a0_2,.int .i64 2] ?_;(with_reducible refine (impl_digits.calls _ _ _ _ _ ?side1 A18.out).mono ?_);(case side1 => exact Gw.below HG.out wB_);rintro e WA18 ⟨rfl,hb⟩;refine ⟨_,rfl,?_⟩;replace BK443 := aM (bw_ BK443.out hb);replace HB := aM (lT wB_ hb)));go_ret;exact ⟨vR_,wB_⟩
end Go.Proofs.YtmafmhgmdegplaaGreatDoor.P
