/- Written by a program in this session: each theorem here says that a Go function computes the Lean function beside it, or that a law's row holds, under the conditions that the theorem itself states. -/
import Derived.Test.YtmafmhgmdegplaaGreatDoorZPx0
import Derived.Test.YtmafmhgmdegplaaGreatDoorZPx13
import Derived.Test.YtmafmhgmdegplaaGreatDoorZPx16
import Derived.Test.YtmafmhgmdegplaaGreatDoorZPx18
namespace Go.Proofs.YtmafmhgmdegplaaGreatDoor.P
open Go.RowKit Go.Proofs.YtmafmhgmdegplaaGreatDoorW.PrintWords Go.Proofs.YtmafmhgmdegplaaGreatDoorW.PrintLast Go.Proofs.YtmafmhgmdegplaaGreatDoorW.PrintMore
attribute [local go_sem] max2_int min2_int max_two min_two max_three min_three max_four min_four   -- for this text's walks alone
set_option linter.unusedVariables false
set_option linter.unusedSimpArgs false
def impl_IsValidEntry.j0 : Nat → Bool → ByteArray → Int → List (S157) → List (S157) → ByteArray → ByteArray → ByteArray → Int → Int → Int → Bool → Int → ByteArray → ByteArray → Option (Bool)
 | 0,_,_,_,_,_,_,_,_,_,_,_,_,_,_,_ => none
 | k + 1,x36,x401000,x401001,x401002,x401003,x401004,x401005,x401006,x401007,x401008,x401009,x401010,x401011,x401012,x401013 => if x36 = true then (some false) else ((impl_isText.f k x401004).bind fun t407 => (if t407 = true then ((impl_isText.f k x401005).bind fun t408 => (if t408 = true then ((impl_isText.f k x401006).bind fun t409 => (if t409 = true then ((impl_isText.f k x401012).bind fun t410 => (if t410 = true then (if x401013.toList = ([] : List UInt8) then (some true) else ((impl_isKey.f k x401013).bind fun t411 => (if t411 = true then (some (x401013.toList != x401000.toList)) else (some false)))) else (some false))) else (some false))) else (some false))) else (some false)))
def impl_IsValidEntry.f (k : Nat) (a0_0 : ByteArray) (a0_1 : Int) (l0_2 : List (S157)) (l0_3 : List (S157)) (a0_4 : ByteArray) (a0_5 : ByteArray) (a0_6 : ByteArray) (a0_7 : Int) (a0_8 : Int) (a0_9 : Int) (a0_10 : Bool) (a0_11 : Int) (a0_12 : ByteArray) (a0_13 : ByteArray) : Option (Bool) := (impl_isKey.f k a0_0).bind fun t401 => (if t401 = true then ((impl_isKind.f a0_1).bind fun t402 => (if t402 = true then ((impl_areNames.f k l0_2).bind fun t403 => (if t403 = true then ((impl_areNames.f k l0_3).bind fun t404 => (if t404 = true then ((impl_IsValidDate.f k a0_7 a0_8 a0_9 a0_10).bind fun t405 => (if t405 = true then ((impl_inside.f a0_11 0 9999).bind fun t406 => (impl_IsValidEntry.j0 k (!t406) a0_0 a0_1 l0_2 l0_3 a0_4 a0_5 a0_6 a0_7 a0_8 a0_9 a0_10 a0_11 a0_12 a0_13)) else (impl_IsValidEntry.j0 k true a0_0 a0_1 l0_2 l0_3 a0_4 a0_5 a0_6 a0_7 a0_8 a0_9 a0_10 a0_11 a0_12 a0_13))) else (impl_IsValidEntry.j0 k true a0_0 a0_1 l0_2 l0_3 a0_4 a0_5 a0_6 a0_7 a0_8 a0_9 a0_10 a0_11 a0_12 a0_13))) else (impl_IsValidEntry.j0 k true a0_0 a0_1 l0_2 l0_3 a0_4 a0_5 a0_6 a0_7 a0_8 a0_9 a0_10 a0_11 a0_12 a0_13))) else (impl_IsValidEntry.j0 k true a0_0 a0_1 l0_2 l0_3 a0_4 a0_5 a0_6 a0_7 a0_8 a0_9 a0_10 a0_11 a0_12 a0_13))) else (impl_IsValidEntry.j0 k true a0_0 a0_1 l0_2 l0_3 a0_4 a0_5 a0_6 a0_7 a0_8 a0_9 a0_10 a0_11 a0_12 a0_13))
theorem impl_IsValidEntry.mono_l : ∀ k,(∀ y0 y1 y2 y3 y4 y5 y6 y7 y8 y9 y10 y11 y12 y13 y14,LeO (impl_IsValidEntry.j0 k y0 y1 y2 y3 y4 y5 y6 y7 y8 y9 y10 y11 y12 y13 y14) (impl_IsValidEntry.j0 (k + 1) y0 y1 y2 y3 y4 y5 y6 y7 y8 y9 y10 y11 y12 y13 y14))
 | 0 => fun _ _ _ _ _ _ _ _ _ _ _ _ _ _ _ r h => by simp [impl_IsValidEntry.j0] at h
 | k + 1 => by
  have ih0 := impl_IsValidEntry.mono_l k
  ·intro y0 y1 y2 y3 y4 y5 y6 y7 y8 y9 y10 y11 y12 y13 y14
   unfold impl_IsValidEntry.j0
   repeat' (first|with_reducible (first|exact ih0 _ _ _ _ _ _ _ _ _ _ _ _ _ _ _|exact impl_IsValidDate.mono _ _ _ _ _|exact impl_areNames.mono _ _|exact impl_isKey.mono _ _|exact impl_isText.mono _ _|exact LeO.refl _|exact LeO.none _|refine LeO.ite ?_ ?_|refine LeO.bind ?_ (fun _ => ?_))|exact LeO.none _|refine LeO.ite ?_ ?_|refine LeO.bind ?_ (fun _ => ?_))
theorem impl_IsValidEntry.mono : ∀ a0 a1 a2 a3 a4 a5 a6 a7 a8 a9 a10 a11 a12 a13 k,LeO (impl_IsValidEntry.f k a0 a1 a2 a3 a4 a5 a6 a7 a8 a9 a10 a11 a12 a13) (impl_IsValidEntry.f (k + 1) a0 a1 a2 a3 a4 a5 a6 a7 a8 a9 a10 a11 a12 a13) := by
 intro a0 a1 a2 a3 a4 a5 a6 a7 a8 a9 a10 a11 a12 a13 k
 have ih0 := impl_IsValidEntry.mono_l k
 unfold impl_IsValidEntry.f
 repeat' (first|with_reducible (first|exact ih0 _ _ _ _ _ _ _ _ _ _ _ _ _ _ _|exact impl_IsValidDate.mono _ _ _ _ _|exact impl_areNames.mono _ _|exact impl_isKey.mono _ _|exact impl_isText.mono _ _|exact LeO.refl _|exact LeO.none _|refine LeO.ite ?_ ?_|refine LeO.bind ?_ (fun _ => ?_))|exact LeO.none _|refine LeO.ite ?_ ?_|refine LeO.bind ?_ (fun _ => ?_))
set_option maxHeartbeats 8000000 in
set_option maxRecDepth 100000 in
theorem impl_IsValidEntry.calls (k : Nat) (a0_0 : ByteArray) (a0_1 : Int) (A0_2 : Option Addr) (c0_2 : Nat) (l0_2 : List (S157)) (A0_3 : Option Addr) (c0_3 : Nat) (l0_3 : List (S157)) (a0_4 : ByteArray) (a0_5 : ByteArray) (a0_6 : ByteArray) (a0_7 : Int) (a0_8 : Int) (a0_9 : Int) (a0_10 : Bool) (a0_11 : Int) (a0_12 : ByteArray) (a0_13 : ByteArray) (r : Bool) (w : World) (hr0_2 : Kd.C k157 w A0_2 l0_2.length l0_2) (hc0_2 : l0_2.length ≤ c0_2) (hr0_3 : Kd.C k157 w A0_3 l0_3.length l0_3) (hc0_3 : l0_3.length ≤ c0_3) (hG : Gm w) (h : impl_IsValidEntry.f k a0_0 a0_1 l0_2 l0_3 a0_4 a0_5 a0_6 a0_7 a0_8 a0_9 a0_10 a0_11 a0_12 a0_13 = some r) :
  Calls Tryz.prog 65 #[.agg #[.string a0_0,.int .i64 a0_1,.slice A0_2 l0_2.length c0_2,.slice A0_3 l0_3.length c0_3,.string a0_4,.string a0_5,.string a0_6,.int .i64 a0_7,.int .i64 a0_8,.int .i64 a0_9,.bool a0_10,.int .i64 a0_11,.string a0_12,.string a0_13]] w fun e w' => e = .returned (.bool r) ∧ Below w.heap.size w w' := by
 have hu41 := Tryz.underlying41;have hu39 := Tryz.underlying39;have HR0_2 := aM hr0_2;have HC0_2 := aM hc0_2;clear hr0_2 hc0_2;have HR0_3 := aM hr0_3;have HC0_3 := aM hc0_3;clear hr0_3 hc0_3;have HB := aM (Below.refl w.heap.size w);have HG := aM hG;clear hG;have H : ((impl_isKey.f k a0_0).bind fun t401 => (if t401 = true then ((impl_isKind.f a0_1).bind fun t402 => (if t402 = true then ((impl_areNames.f k l0_2).bind fun t403 => (if t403 = true then ((impl_areNames.f k l0_3).bind fun t404 => (if t404 = true then ((impl_IsValidDate.f k a0_7 a0_8 a0_9 a0_10).bind fun t405 => (if t405 = true then ((impl_inside.f a0_11 0 9999).bind fun t406 => (impl_IsValidEntry.j0 k (!t406) a0_0 a0_1 l0_2 l0_3 a0_4 a0_5 a0_6 a0_7 a0_8 a0_9 a0_10 a0_11 a0_12 a0_13)) else (impl_IsValidEntry.j0 k true a0_0 a0_1 l0_2 l0_3 a0_4 a0_5 a0_6 a0_7 a0_8 a0_9 a0_10 a0_11 a0_12 a0_13))) else (impl_IsValidEntry.j0 k true a0_0 a0_1 l0_2 l0_3 a0_4 a0_5 a0_6 a0_7 a0_8 a0_9 a0_10 a0_11 a0_12 a0_13))) else (impl_IsValidEntry.j0 k true a0_0 a0_1 l0_2 l0_3 a0_4 a0_5 a0_6 a0_7 a0_8 a0_9 a0_10 a0_11 a0_12 a0_13))) else (impl_IsValidEntry.j0 k true a0_0 a0_1 l0_2 l0_3 a0_4 a0_5 a0_6 a0_7 a0_8 a0_9 a0_10 a0_11 a0_12 a0_13))) else (impl_IsValidEntry.j0 k true a0_0 a0_1 l0_2 l0_3 a0_4 a0_5 a0_6 a0_7 a0_8 a0_9 a0_10 a0_11 a0_12 a0_13))) = some r := h;clear h;have HC2 := aM H;clear H;go_enter Tryz.func65,Tryz.ntmps65;go_upto_region 1 with (first|((with_reducible refine gate_dst (N := 1) rfl ?_);refine bx_ (N := 1) (cs := #[.string a0_0,.int .i64 a0_1,.slice A0_2 l0_2.length c0_2,.slice A0_3 l0_3.length c0_3,.string a0_4,.string a0_5,.string a0_6,.int .i64 a0_7,.int .i64 a0_8,.int .i64 a0_9,.bool a0_10,.int .i64 a0_11,.string a0_12,.string a0_13]) (t := 41) ?_;intro gb400 hg w3 hbox hb;have BK400 := aM (hbox);have GW400 := aM ((by rw [hg];exact (lZ wB_) : w.heap.size ≤ gb400));have GE400 := GW400;replace HB := aM (lT wB_ hb);clear hb hbox hg));(try simp only [Act.put,lI,sZ,sS]);go_cut [36] (fun v36 wc => ∃ (kq : Nat) (x36_1 : Bool),v36 = .bool x36_1 ∧ Aside0 (impl_IsValidEntry.j0 kq x36_1 a0_0 a0_1 l0_2 l0_3 a0_4 a0_5 a0_6 a0_7 a0_8 a0_9 a0_10 a0_11 a0_12 a0_13 = some r) ∧ Aside0 (kq ≤ k) ∧ Aside0 (wc.heap[gb400]? = some (.cells #[.string a0_0,.int .i64 a0_1,(.slice A0_2 l0_2.length c0_2),(.slice A0_3 l0_3.length c0_3),.string a0_4,.string a0_5,.string a0_6,.int .i64 a0_7,.int .i64 a0_8,.int .i64 a0_9,.bool a0_10,.int .i64 a0_11,.string a0_12,.string a0_13] 41 (0,0))) ∧ Aside0 (Below w.heap.size w wc))
 case first =>
  have H := HC2.out;clear HC2;obtain ⟨t401,A4,H⟩ := bE_ H
  by_cases c5 : t401 = true
  focus
   subst c5;rw [if_pos rfl] at H;obtain ⟨t402,A6,H⟩ := bE_ H
   by_cases c7 : t402 = true
   focus
    subst c7;rw [if_pos rfl] at H;obtain ⟨t403,A8,H⟩ := bE_ H
    by_cases c9 : t403 = true
    focus
     subst c9;rw [if_pos rfl] at H;obtain ⟨t404,A10,H⟩ := bE_ H
     by_cases c11 : t404 = true
     focus
      subst c11;rw [if_pos rfl] at H;obtain ⟨t405,A12,H⟩ := bE_ H
      by_cases c13 : t405 = true
      focus
       subst c13;rw [if_pos rfl] at H;obtain ⟨t406,A14,H⟩ := bE_ H;have H' := aM H;clear H
      rotate_left
      focus
       replace c13 := Bool.eq_false_iff.mpr c13;subst c13;rw [if_neg Bool.false_ne_true] at H;have H' := aM H;clear H
     rotate_left 2
     focus
      replace c11 := Bool.eq_false_iff.mpr c11;subst c11;rw [if_neg Bool.false_ne_true] at H;have H' := aM H;clear H
    rotate_left 3
    focus
     replace c9 := Bool.eq_false_iff.mpr c9;subst c9;rw [if_neg Bool.false_ne_true] at H;have H' := aM H;clear H
   rotate_left 4
   focus
    replace c7 := Bool.eq_false_iff.mpr c7;subst c7;rw [if_neg Bool.false_ne_true] at H;have H' := aM H;clear H
  rotate_left 5
  focus
   replace c5 := Bool.eq_false_iff.mpr c5;subst c5;rw [if_neg Bool.false_ne_true] at H;have H' := aM H;clear H
  all_goals
   obtain ⟨hczx400_0,hczx400_1,hczx400_2,hczx400_3,hczx400_4,hczx400_5,hczx400_6,hczx400_7,hczx400_8,hczx400_9,hczx400_10,hczx400_11,hczx400_12,hczx400_13,hfzx400_0,hfzx400_1,hfzx400_2,hfzx400_3,hfzx400_4,hfzx400_5,hfzx400_6,hfzx400_7,hfzx400_8,hfzx400_9,hfzx400_10,hfzx400_11,hfzx400_12,hfzx400_13⟩ := z14_ BK400.out;go_wp2_with (first|((with_reducible refine gate_callee (f := 126) rfl ?_);refine gl_ (some 5) Tryz.func126 #[.string a0_0] ?_;(with_reducible refine (impl_isKey.calls _ _ _ _ A4.out).mono ?_);rintro e w' ⟨rfl,⟨nd,rfl⟩⟩;refine ⟨_,rfl,?_⟩)|(go_at_call 127;(with_reducible refine (impl_isKind.calls _ _ _ A6.out).mono ?_);rintro e w' ⟨rfl,⟨nd,rfl⟩⟩)|(go_at_call 128;(with_reducible refine (impl_areNames.calls _ _ _ _ _ _ ?side1 ?side2 ?side3 A8.out).mono ?_);(case side1 => repeat (first|exact (cB HR0_2.out wB_)|(with_reducible first|refine cA ?_ _|refine cN ?_ _|refine cD ?_)));(case side2 => exact HC0_2.out);(case side3 => exact Gm.below HG.out wB_);rintro e WA8 ⟨rfl,hb⟩;replace BK400 := aM (bw_ BK400.out hb);replace HB := aM (lT wB_ hb);obtain ⟨hcz8x400_0,hcz8x400_1,hcz8x400_2,hcz8x400_3,hcz8x400_4,hcz8x400_5,hcz8x400_6,hcz8x400_7,hcz8x400_8,hcz8x400_9,hcz8x400_10,hcz8x400_11,hcz8x400_12,hcz8x400_13,hfz8x400_0,hfz8x400_1,hfz8x400_2,hfz8x400_3,hfz8x400_4,hfz8x400_5,hfz8x400_6,hfz8x400_7,hfz8x400_8,hfz8x400_9,hfz8x400_10,hfz8x400_11,hfz8x400_12,hfz8x400_13⟩ := z14_ BK400.out)|(go_at_call 128;(with_reducible refine (impl_areNames.calls _ _ _ _ _ _ ?side1 ?side2 ?side3 A10.out).mono ?_);(case side1 => exact wX_ HR0_3.out);(case side2 => exact HC0_3.out);(case side3 => exact Gm.below HG.out wB_);rintro e WA10 ⟨rfl,hb⟩;replace BK400 := aM (bw_ BK400.out hb);replace HB := aM (lT wB_ hb);obtain ⟨hcz10x400_0,hcz10x400_1,hcz10x400_2,hcz10x400_3,hcz10x400_4,hcz10x400_5,hcz10x400_6,hcz10x400_7,hcz10x400_8,hcz10x400_9,hcz10x400_10,hcz10x400_11,hcz10x400_12,hcz10x400_13,hfz10x400_0,hfz10x400_1,hfz10x400_2,hfz10x400_3,hfz10x400_4,hfz10x400_5,hfz10x400_6,hfz10x400_7,hfz10x400_8,hfz10x400_9,hfz10x400_10,hfz10x400_11,hfz10x400_12,hfz10x400_13⟩ := z14_ BK400.out)|(go_at_call 129;(with_reducible refine (impl_IsValidDate.calls _ _ _ _ _ _ _ A12.out).mono ?_);rintro e WA12 ⟨rfl,hb⟩;replace BK400 := aM (bw_ BK400.out hb);replace HB := aM (lT wB_ hb);obtain ⟨hcz12x400_0,hcz12x400_1,hcz12x400_2,hcz12x400_3,hcz12x400_4,hcz12x400_5,hcz12x400_6,hcz12x400_7,hcz12x400_8,hcz12x400_9,hcz12x400_10,hcz12x400_11,hcz12x400_12,hcz12x400_13,hfz12x400_0,hfz12x400_1,hfz12x400_2,hfz12x400_3,hfz12x400_4,hfz12x400_5,hfz12x400_6,hfz12x400_7,hfz12x400_8,hfz12x400_9,hfz12x400_10,hfz12x400_11,hfz12x400_12,hfz12x400_13⟩ := z14_ BK400.out)|(go_at_call 130;(with_reducible refine (impl_inside.calls _ _ _ _ _ A14.out).mono ?_);rintro e w' ⟨rfl,⟨nd,rfl⟩⟩));go_meet
   case rel => first|(exact ⟨_,(!t406),vR_,H',⟨by first|omega|exact Nat.le_refl _⟩,⟨wC_ BK400.out⟩,⟨wB_⟩⟩)|(exact ⟨_,(true),vR_,H',⟨by first|omega|exact Nat.le_refl _⟩,⟨wC_ BK400.out⟩,⟨wB_⟩⟩)
 case rest =>
  clear HC2;obtain ⟨kq,x36_1,rfl,HA,HJ1,BK400,HB⟩ := hcut
  cases kq with
  | zero => exact absurd HA.out (by simp [impl_IsValidEntry.j0])
  | succ kj1 =>
   have H := HA.out;clear HA;simp only [impl_IsValidEntry.j0] at H
   by_cases c36 : x36_1 = true
   focus
    subst c36;rw [if_pos rfl] at H;obtain rfl := Option.some.inj H;simp only [eS,eP] at H;obtain ⟨rfl⟩ := H
   rotate_left
   focus
    replace c36 := Bool.eq_false_iff.mpr c36;subst c36;rw [if_neg Bool.false_ne_true] at H;obtain ⟨t407,A37,H⟩ := bE_ H
    by_cases c38 : t407 = true
    focus
     subst c38;rw [if_pos rfl] at H;obtain ⟨t408,A39,H⟩ := bE_ H
     by_cases c40 : t408 = true
     focus
      subst c40;rw [if_pos rfl] at H;obtain ⟨t409,A41,H⟩ := bE_ H
      by_cases c42 : t409 = true
      focus
       subst c42;rw [if_pos rfl] at H;obtain ⟨t410,A43,H⟩ := bE_ H
       by_cases c44 : t410 = true
       focus
        subst c44;rw [if_pos rfl] at H
        by_cases c45 : a0_13.toList = ([] : List UInt8)
        focus
         rw [if_pos c45] at H;have c45b0 : (a0_13.toList == ([] : List UInt8)) = true := beq_iff_eq.mpr c45;have c45b1 : (a0_13.toList != ([] : List UInt8)) = false := bne_eq_false_iff_eq.mpr c45;clear c45;obtain rfl := Option.some.inj H;simp only [eS,eP] at H;obtain ⟨rfl⟩ := H
        rotate_left
        focus
         rw [if_neg c45] at H;have c45b0 : (a0_13.toList == ([] : List UInt8)) = false := beq_eq_false_iff_ne.mpr c45;have c45b1 : (a0_13.toList != ([] : List UInt8)) = true := bne_iff_ne.mpr c45;obtain ⟨t411,A47,H⟩ := bE_ H
         by_cases c48 : t411 = true
         focus
          subst c48;rw [if_pos rfl] at H;obtain rfl := Option.some.inj H;simp only [eS,eP] at H;obtain ⟨rfl⟩ := H
         rotate_left
         focus
          replace c48 := Bool.eq_false_iff.mpr c48;subst c48;rw [if_neg Bool.false_ne_true] at H;obtain rfl := Option.some.inj H;simp only [eS,eP] at H;obtain ⟨rfl⟩ := H
       rotate_left 3
       focus
        replace c44 := Bool.eq_false_iff.mpr c44;subst c44;rw [if_neg Bool.false_ne_true] at H;obtain rfl := Option.some.inj H;simp only [eS,eP] at H;obtain ⟨rfl⟩ := H
      rotate_left 4
      focus
       replace c42 := Bool.eq_false_iff.mpr c42;subst c42;rw [if_neg Bool.false_ne_true] at H;obtain rfl := Option.some.inj H;simp only [eS,eP] at H;obtain ⟨rfl⟩ := H
     rotate_left 5
     focus
      replace c40 := Bool.eq_false_iff.mpr c40;subst c40;rw [if_neg Bool.false_ne_true] at H;obtain rfl := Option.some.inj H;simp only [eS,eP] at H;obtain ⟨rfl⟩ := H
    rotate_left 6
    focus
     replace c38 := Bool.eq_false_iff.mpr c38;subst c38;rw [if_neg Bool.false_ne_true] at H;obtain rfl := Option.some.inj H;simp only [eS,eP] at H;obtain ⟨rfl⟩ := H
   all_goals
    (try obtain ⟨hczx400_0,hczx400_1,hczx400_2,hczx400_3,hczx400_4,hczx400_5,hczx400_6,hczx400_7,hczx400_8,hczx400_9,hczx400_10,hczx400_11,hczx400_12,hczx400_13,hfzx400_0,hfzx400_1,hfzx400_2,hfzx400_3,hfzx400_4,hfzx400_5,hfzx400_6,hfzx400_7,hfzx400_8,hfzx400_9,hfzx400_10,hfzx400_11,hfzx400_12,hfzx400_13⟩ := z14_ BK400.out);go_wp2_with (first|((with_reducible refine gate_callee (f := 131) rfl ?_);refine gl_ (some 39) Tryz.func131 #[.string a0_4] ?_;(with_reducible refine (impl_isText.calls _ _ _ _ A37.out).mono ?_);rintro e w' ⟨rfl,⟨nd,rfl⟩⟩;refine ⟨_,rfl,?_⟩)|(go_at_call 131;(with_reducible refine (impl_isText.calls _ _ _ _ A39.out).mono ?_);rintro e w' ⟨rfl,⟨nd,rfl⟩⟩)|(go_at_call 131;(with_reducible refine (impl_isText.calls _ _ _ _ A41.out).mono ?_);rintro e w' ⟨rfl,⟨nd,rfl⟩⟩)|(go_at_call 131;(with_reducible refine (impl_isText.calls _ _ _ _ A43.out).mono ?_);rintro e w' ⟨rfl,⟨nd,rfl⟩⟩)|(go_at_call 126;(with_reducible refine (impl_isKey.calls _ _ _ _ A47.out).mono ?_);rintro e w' ⟨rfl,⟨nd,rfl⟩⟩));go_ret;exact ⟨vR_,wB_⟩
end Go.Proofs.YtmafmhgmdegplaaGreatDoor.P
