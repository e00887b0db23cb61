/- Written by a program in this session: each theorem here says that a Go function computes the Lean function beside it, or that a law's row holds, under the conditions that the theorem itself states. -/
import Derived.Test.YtmkkcpdpfelalaaZPx0
import Derived.Test.YtmkkcpdpfelalaaZPx8
import Derived.Test.YtmkkcpdpfelalaaZPx14
namespace Go.Proofs.Ytmkkcpdpfelalaa.P
open Go.RowKit Go.Proofs.YtmkkcpdpfelalaaW.PrintWords Go.Proofs.YtmkkcpdpfelalaaW.PrintLast Go.Proofs.YtmkkcpdpfelalaaW.PrintMore
attribute [local go_sem] max2_int min2_int max_two min_two max_three min_three max_four min_four   -- for this text's walks alone
set_option linter.unusedVariables false
set_option linter.unusedSimpArgs false
def impl_Locale_81.l0 : Nat → List (S31) → Int → Int → Option (Int)
 | 0,_,_,_ => none
 | k + 1,x0,x7,x8 => if x8 < x7 then (if 0 ≤ x8 then (if x8 < (x0.length : Int) then ((impl_FallbackTerm_1.f k ((rd_T31 x0 x8).f0) ((rd_T31 x0 x8).f1) ((rd_T31 x0 x8).f2) ((rd_T31 x0 x8).f3) ((rd_T31 x0 x8).f4)).bind fun t475 => (if t475 = true then (some x8) else (impl_Locale_81.l0 k x0 x7 (wrap64 (x8 + 1))))) else (none)) else (none)) else (some (-1))
def impl_Locale_81.f (k : Nat) (l0 : List (S31)) (a1 : Int) : Option (Int) := impl_Locale_81.l0 k l0 (l0.length : Int) 0
theorem impl_Locale_81.mono_l : ∀ k,(∀ y0 y1 y2,LeO (impl_Locale_81.l0 k y0 y1 y2) (impl_Locale_81.l0 (k + 1) y0 y1 y2))
 | 0 => fun _ _ _ r h => by simp [impl_Locale_81.l0] at h
 | k + 1 => by
  have ih0 := impl_Locale_81.mono_l k
  ·intro y0 y1 y2
   unfold impl_Locale_81.l0
   repeat' first
   | (with_reducible exact ih0 _ _ _)
   | (with_reducible exact impl_FallbackTerm_1.mono _ _ _ _ _ _)
   | (with_reducible exact LeO.refl _)
   | (with_reducible exact LeO.none _)
   | (with_reducible refine LeO.ite ?_ ?_)
   | (with_reducible refine LeO.bind ?_ (fun _ => ?_))
   | exact ih0 _ _ _
   | exact impl_FallbackTerm_1.mono _ _ _ _ _ _
   | exact LeO.none _
   | refine LeO.ite ?_ ?_
   | refine LeO.bind ?_ (fun _ => ?_)
theorem impl_Locale_81.mono : ∀ a0 a1 k,LeO (impl_Locale_81.f k a0 a1) (impl_Locale_81.f (k + 1) a0 a1) := by
 intro a0 a1 k
 have ih0 := impl_Locale_81.mono_l k
 unfold impl_Locale_81.f
 repeat' first
   | (with_reducible exact ih0 _ _ _)
   | (with_reducible exact impl_FallbackTerm_1.mono _ _ _ _ _ _)
   | (with_reducible exact LeO.refl _)
   | (with_reducible exact LeO.none _)
   | (with_reducible refine LeO.ite ?_ ?_)
   | (with_reducible refine LeO.bind ?_ (fun _ => ?_))
   | exact ih0 _ _ _
   | exact impl_FallbackTerm_1.mono _ _ _ _ _ _
   | exact LeO.none _
   | refine LeO.ite ?_ ?_
   | refine LeO.bind ?_ (fun _ => ?_)
set_option maxHeartbeats 8000000 in
set_option maxRecDepth 100000 in
theorem impl_Locale_81.calls (k : Nat) (A0 : Option Addr) (c0 : Nat) (l0 : List (S31)) (a1 : Int) (r : Int) (w : World) (hr0 : Kd.C k31 w A0 l0.length l0) (hc0 : l0.length ≤ c0) (h : impl_Locale_81.f k l0 a1 = some r) :
  Calls Try.prog 81 #[.slice A0 l0.length c0,.func (.func 55) #[] #[]] w fun e w' => e = .returned (.int .i64 r) ∧ Below w.heap.size w w' := by
 have hu31 := Try.underlying31;have HR0 := aM hr0;have HC0 := aM hc0;clear hr0 hc0;have HB := aM (Below.refl w.heap.size w);have H : (impl_Locale_81.l0 k l0 (l0.length : Int) 0) = some r := h;clear h;have H' := aM H;clear H;go_enter Try.func81,Try.ntmps81;go_wp2;go_loopg [8] k (fun kq v8 w' => ∃ (x8_1 : Int),v8 = .int .i64 x8_1 ∧ Aside0 (impl_Locale_81.l0 kq l0 (l0.length : Int) x8_1 = some r) ∧ Aside0 (kq ≤ k) ∧ Aside0 (Below w.heap.size w w'))
 case atStart => exact ⟨(0),(by first|rfl|(simp [*];done)),H',⟨Nat.le_refl _⟩,⟨by repeat (first|(with_reducible first|exact HB.out|apply lA|apply lN|apply lD)|exact HB.out)⟩⟩
 case round =>
  clear H';(try clear p2);obtain ⟨x8_1,rfl,HA,HK1,HB⟩ := hrel
  cases gk with
  | zero => exact absurd HA.out (by simp [impl_Locale_81.l0])
  | succ k1 =>
   have H := HA.out;clear HA;simp only [impl_Locale_81.l0] at H
   by_cases c3 : x8_1 < (l0.length : Int)
   focus
    rw [if_pos c3] at H;have c3b0 : decide (x8_1 < (l0.length : Int)) = true := dT c3;clear c3
    by_cases c4 : 0 ≤ x8_1
    rotate_left;rw [if_neg c4] at H;exact absurd H (by simp);rw [if_pos c4] at H;have c4b0 : decide (0 ≤ x8_1) = true := dT c4;clear c4
    by_cases c5 : x8_1 < (l0.length : Int)
    rotate_left;rw [if_neg c5] at H;exact absurd H (by simp);rw [if_pos c5] at H;have c5b0 : decide (x8_1 < (l0.length : Int)) = true := dT c5;clear c5;obtain ⟨t475,A6,H⟩ := bE_ H
    by_cases c7 : t475 = true
    focus
     subst c7;rw [if_pos rfl] at H;obtain rfl := Option.some.inj H;simp only [eS,eP] at H;obtain ⟨rfl⟩ := H
    rotate_left
    focus
     replace c7 := Bool.eq_false_iff.mpr c7;subst c7;rw [if_neg Bool.false_ne_true] at H;have H' := aM H;clear H
   rotate_left 2
   focus
    rw [if_neg c3] at H;have c3b0 : decide (x8_1 < (l0.length : Int)) = false := dF c3;clear c3;obtain rfl := Option.some.inj H;simp only [eS,eP] at H;obtain ⟨rfl⟩ := H
   all_goals
    (try (have p01 : 0 ≤ (x8_1 : Int) := oD (by assumption);have q01 : x8_1 < (l0.length : Int) := oD (by assumption);obtain ⟨ad01,A01_1,c01_1,A01_2,c01_2,e01,hx01_0,hx01_1,hx01_2,hx01_3,hx01_4,hl01_1,hi01_1,hl01_2,hi01_2⟩ := at_T31 HR0.out x8_1 p01 q01;cases e01;replace hx01_0 := (HB.out.cell (wB w _ hx01_0)).trans hx01_0;replace hx01_1 := (HB.out.cell (wB w _ hx01_1)).trans hx01_1;replace hx01_2 := (HB.out.cell (wB w _ hx01_2)).trans hx01_2;replace hx01_3 := (HB.out.cell (wB w _ hx01_3)).trans hx01_3;replace hx01_4 := (HB.out.cell (wB w _ hx01_4)).trans hx01_4;have HR01_1 := aM hi01_1;have HC01_1 := aM hl01_1;clear hi01_1 hl01_1;have HR01_2 := aM hi01_2;have HC01_2 := aM hl01_2;clear hi01_2 hl01_2;replace p01 := eq_true p01;replace q01 := eq_true q01));go_wp2_with (first|(go_at_call 55;(with_reducible refine (impl_FallbackTerm_1.calls _ _ _ _ _ _ _ _ _ _ _ _ ?side1 ?side2 ?side3 ?side4 A6.out).mono ?_);(case side1 => repeat (first|exact (cB HR01_1.out HB.out)|(with_reducible first|refine cA ?_ _|refine cN ?_ _|refine cD ?_)));(case side2 => exact HC01_1.out);(case side3 => repeat (first|exact (cB HR01_2.out HB.out)|(with_reducible first|refine cA ?_ _|refine cN ?_ _|refine cD ?_)));(case side4 => exact HC01_2.out);rintro e WA6 ⟨rfl,hb⟩;replace HB := aM (lT (by repeat (first|(with_reducible first|exact HB.out|apply lA|apply lN|apply lD)|exact HB.out)) hb);(try clear hb)))
    first
     |
      go_ret;exact ⟨by first|rfl|(simp [*];done),by repeat (first|(with_reducible first|exact HB.out|apply lA|apply lN|apply lD)|exact HB.out)⟩
     |
      go_roundg k1
      case measure => have := HK1.out;omega
      case rel => exact ⟨(wrap64 (x8_1 + 1)),(by first|rfl|(simp [*];done)),H',⟨by have := HK1.out;omega⟩,⟨by repeat (first|(with_reducible first|exact HB.out|apply lA|apply lN|apply lD)|exact HB.out)⟩⟩
def impl_Locale_54.f (k : Nat) (l0 : List (S31)) (a1 : Int) : Option (Bool) := (impl_Locale_81.f k l0 a1).bind fun t476 => (some (decide (t476 ≥ 0)))
theorem impl_Locale_54.mono : ∀ a0 a1 k,LeO (impl_Locale_54.f k a0 a1) (impl_Locale_54.f (k + 1) a0 a1) := by
 intro a0 a1 k
 unfold impl_Locale_54.f
 repeat' first
   | (with_reducible exact impl_Locale_81.mono _ _ _)
   | (with_reducible exact LeO.refl _)
   | (with_reducible exact LeO.none _)
   | (with_reducible refine LeO.ite ?_ ?_)
   | (with_reducible refine LeO.bind ?_ (fun _ => ?_))
   | exact impl_Locale_81.mono _ _ _
   | exact LeO.none _
   | refine LeO.ite ?_ ?_
   | refine LeO.bind ?_ (fun _ => ?_)
set_option maxHeartbeats 8000000 in
set_option maxRecDepth 100000 in
theorem impl_Locale_54.calls (k : Nat) (A0 : Option Addr) (c0 : Nat) (l0 : List (S31)) (a1 : Int) (r : Bool) (w : World) (hr0 : Kd.C k31 w A0 l0.length l0) (hc0 : l0.length ≤ c0) (h : impl_Locale_54.f k l0 a1 = some r) :
  Calls Try.prog 54 #[.slice A0 l0.length c0,.func (.func 55) #[] #[]] w fun e w' => e = .returned (.bool r) ∧ Below w.heap.size w w' := by
 have HR0 := aM hr0;have HC0 := aM hc0;clear hr0 hc0;have HB := aM (Below.refl w.heap.size w);have H : ((impl_Locale_81.f k l0 a1).bind fun t476 => (some (decide (t476 ≥ 0)))) = some r := h;clear h;obtain ⟨t476,A3,H⟩ := bE_ H;obtain rfl := Option.some.inj H;simp only [eS,eP] at H;obtain ⟨rfl⟩ := H;go_enter Try.func54,Try.ntmps54;go_wp2_with (first|((with_reducible refine gate_callee (f := 81) rfl ?_);refine goesL_ (some 7) rfl rfl Try.func81 (by kernel_rfl) rfl #[.slice A0 l0.length c0,.func (.func 55) #[] #[]] rfl (by (try simp only [mT,mC,mN]);first|done|rfl|(simp only [xD,xT];rfl)) ?_;(with_reducible refine (impl_Locale_81.calls k _ _ l0 a1 t476 _ ?side1 ?side2 A3.out).mono ?_);(case side1 => repeat (first|exact HR0.out|(with_reducible first|refine cA ?_ _|refine cN ?_ _|refine cD ?_)));(case side2 => exact HC0.out);rintro e w4 ⟨rfl,hb⟩;refine ⟨_,rfl,?_⟩;replace HB := aM (lT (by repeat (first|(with_reducible first|exact HB.out|apply lA|apply lN|apply lD)|exact HB.out)) hb);(try clear hb)));go_ret;exact ⟨by first|rfl|(simp [*];done),by repeat (first|(with_reducible first|exact HB.out|apply lA|apply lN|apply lD)|exact HB.out)⟩
mutual
def impl_FallbackTerm.j0 : Nat → List (S31) → ByteArray → Int → Bool → Option (ByteArray × Int × Bool)
 | 0,_,_,_,_ => none
 | k + 1,x0,x1,x2,x23 => if x23 = true then (some ((⟨#[]⟩ : ByteArray),0,false)) else (impl_FallbackTerm.l0 k x1 x2 x0 (x0.length : Int) 0)
def impl_FallbackTerm.l0 : Nat → ByteArray → Int → List (S31) → Int → Int → Option (ByteArray × Int × Bool)
 | 0,_,_,_,_,_ => none
 | k + 1,x1,x2,x24,x25,x26 => if x26 < x25 then (if 0 ≤ x26 then (if x26 < (x24.length : Int) then ((impl_termIndex.f ((rd_T31 x24 x26).f0) ((rd_T31 x24 x26).f1) ((rd_T31 x24 x26).f2) ((rd_T31 x24 x26).f3) ((rd_T31 x24 x26).f4) x1).bind fun t481 => (if t481 ≥ 0 then ((impl_termFor.f ((rd_T31 x24 x26).f0) ((rd_T31 x24 x26).f1) ((rd_T31 x24 x26).f2) ((rd_T31 x24 x26).f3) ((rd_T31 x24 x26).f4) t481 x2).bind fun t482 => (some (t482,x26,true))) else (impl_FallbackTerm.l0 k x1 x2 x24 x25 (wrap64 (x26 + 1))))) else (none)) else (none)) else (some ((⟨#[]⟩ : ByteArray),0,false))
end
def impl_FallbackTerm.f (k : Nat) (l0 : List (S31)) (a1 : ByteArray) (a2 : Int) : Option (ByteArray × Int × Bool) := if (l0.length : Int) > 5 then (impl_FallbackTerm.j0 k l0 a1 a2 true) else ((impl_isNumber.f a2).bind fun t477 => (if t477 = true then ((impl_Locale_54.f k l0 0).bind fun t478 => (impl_FallbackTerm.j0 k l0 a1 a2 t478)) else (impl_FallbackTerm.j0 k l0 a1 a2 true)))
theorem impl_FallbackTerm.mono_l : ∀ k,(∀ y0 y1 y2 y3,LeO (impl_FallbackTerm.j0 k y0 y1 y2 y3) (impl_FallbackTerm.j0 (k + 1) y0 y1 y2 y3)) ∧ (∀ y0 y1 y2 y3 y4,LeO (impl_FallbackTerm.l0 k y0 y1 y2 y3 y4) (impl_FallbackTerm.l0 (k + 1) y0 y1 y2 y3 y4))
 | 0 => ⟨fun _ _ _ _ r h => by simp [impl_FallbackTerm.j0] at h,fun _ _ _ _ _ r h => by simp [impl_FallbackTerm.l0] at h⟩
 | k + 1 => by
  obtain ⟨ih0,ih1⟩ := impl_FallbackTerm.mono_l k
  refine ⟨?_,?_⟩
  ·intro y0 y1 y2 y3
   unfold impl_FallbackTerm.j0
   repeat' first
   | (with_reducible exact ih0 _ _ _ _)
   | (with_reducible exact ih1 _ _ _ _ _)
   | (with_reducible exact impl_Locale_54.mono _ _ _)
   | (with_reducible exact LeO.refl _)
   | (with_reducible exact LeO.none _)
   | (with_reducible refine LeO.ite ?_ ?_)
   | (with_reducible refine LeO.bind ?_ (fun _ => ?_))
   | exact ih0 _ _ _ _
   | exact ih1 _ _ _ _ _
   | exact impl_Locale_54.mono _ _ _
   | exact LeO.none _
   | refine LeO.ite ?_ ?_
   | refine LeO.bind ?_ (fun _ => ?_)
  ·intro y0 y1 y2 y3 y4
   unfold impl_FallbackTerm.l0
   repeat' first
   | (with_reducible exact ih0 _ _ _ _)
   | (with_reducible exact ih1 _ _ _ _ _)
   | (with_reducible exact impl_Locale_54.mono _ _ _)
   | (with_reducible exact LeO.refl _)
   | (with_reducible exact LeO.none _)
   | (with_reducible refine LeO.ite ?_ ?_)
   | (with_reducible refine LeO.bind ?_ (fun _ => ?_))
   | exact ih0 _ _ _ _
   | exact ih1 _ _ _ _ _
   | exact impl_Locale_54.mono _ _ _
   | exact LeO.none _
   | refine LeO.ite ?_ ?_
   | refine LeO.bind ?_ (fun _ => ?_)
theorem impl_FallbackTerm.mono : ∀ a0 a1 a2 k,LeO (impl_FallbackTerm.f k a0 a1 a2) (impl_FallbackTerm.f (k + 1) a0 a1 a2) := by
 intro a0 a1 a2 k
 obtain ⟨ih0,ih1⟩ := impl_FallbackTerm.mono_l k
 unfold impl_FallbackTerm.f
 repeat' first
   | (with_reducible exact ih0 _ _ _ _)
   | (with_reducible exact ih1 _ _ _ _ _)
   | (with_reducible exact impl_Locale_54.mono _ _ _)
   | (with_reducible exact LeO.refl _)
   | (with_reducible exact LeO.none _)
   | (with_reducible refine LeO.ite ?_ ?_)
   | (with_reducible refine LeO.bind ?_ (fun _ => ?_))
   | exact ih0 _ _ _ _
   | exact ih1 _ _ _ _ _
   | exact impl_Locale_54.mono _ _ _
   | exact LeO.none _
   | refine LeO.ite ?_ ?_
   | refine LeO.bind ?_ (fun _ => ?_)
set_option maxHeartbeats 8000000 in
set_option maxRecDepth 100000 in
theorem impl_FallbackTerm.calls (k : Nat) (A0 : Option Addr) (c0 : Nat) (l0 : List (S31)) (a1 : ByteArray) (a2 : Int) (r1 : ByteArray) (r2 : Int) (r3 : Bool) (w : World) (hr0 : Kd.C k31 w A0 l0.length l0) (hc0 : l0.length ≤ c0) (h : impl_FallbackTerm.f k l0 a1 a2 = some (r1,r2,r3)) :
  Calls Try.prog 19 #[.slice A0 l0.length c0,.string a1,.int .i64 a2] w fun e w' => e = .returned (.tuple #[.string r1,.int .i64 r2,.bool r3]) ∧ Below w.heap.size w w' := by
 have hu31 := Try.underlying31;have HR0 := aM hr0;have HC0 := aM hc0;clear hr0 hc0;have HB := aM (Below.refl w.heap.size w);have H : (if (l0.length : Int) > 5 then (impl_FallbackTerm.j0 k l0 a1 a2 true) else ((impl_isNumber.f a2).bind fun t477 => (if t477 = true then ((impl_Locale_54.f k l0 0).bind fun t478 => (impl_FallbackTerm.j0 k l0 a1 a2 t478)) else (impl_FallbackTerm.j0 k l0 a1 a2 true)))) = some (r1,r2,r3) := h;clear h;have HC4 := aM H;clear H;go_enter Try.func19,Try.ntmps19;go_upto_region 1 with (fail);go_cut [23] (fun v23 wc => ∃ (kq : Nat) (x23_3 : Bool),v23 = .bool x23_3 ∧ Aside0 (impl_FallbackTerm.j0 kq l0 a1 a2 x23_3 = some (r1,r2,r3)) ∧ Aside0 (kq ≤ k) ∧ Aside0 (Below w.heap.size w wc))
 case first =>
  have H := HC4.out;clear HC4
  by_cases c5 : (l0.length : Int) > 5
  focus
   rw [if_pos c5] at H;have c5b0 : decide (5 < (l0.length : Int)) = true := dT c5;have c5b1 : decide (5 < l0.length) = true := dT (by omega);clear c5;(first|rw [c5b0]|(simp only [i64_w,i32_w];rw [c5b0])|skip);have H' := aM H;clear H
  rotate_left
  focus
   rw [if_neg c5] at H;have c5b0 : decide (5 < (l0.length : Int)) = false := dF c5;have c5b1 : decide (5 < l0.length) = false := dF (by omega);clear c5;(first|rw [c5b0]|(simp only [i64_w,i32_w];rw [c5b0])|skip);obtain ⟨t477,A6,H⟩ := bE_ H
   by_cases c7 : t477 = true
   focus
    subst c7;rw [if_pos rfl] at H;obtain ⟨t478,A8,H⟩ := bE_ H;have H' := aM H;clear H
   rotate_left
   focus
    replace c7 := Bool.eq_false_iff.mpr c7;subst c7;rw [if_neg Bool.false_ne_true] at H;have H' := aM H;clear H
  all_goals
   go_wp2_with (first|(go_at_call 52;(with_reducible refine (impl_isNumber.calls _ _ _ A6.out).mono ?_);rintro e w' ⟨rfl,⟨nd,rfl⟩⟩)|(go_at_call 54;(with_reducible refine (impl_Locale_54.calls _ _ _ _ _ _ _ ?side1 ?side2 A8.out).mono ?_);(case side1 => repeat (first|exact (cB HR0.out (by repeat (first|(with_reducible first|exact HB.out|apply lA|apply lN|apply lD)|exact HB.out)))|(with_reducible first|refine cA ?_ _|refine cN ?_ _|refine cD ?_)));(case side2 => exact HC0.out);rintro e WA8 ⟨rfl,hb⟩;replace HB := aM (lT (by repeat (first|(with_reducible first|exact HB.out|apply lA|apply lN|apply lD)|exact HB.out)) hb);(try clear hb)));go_meet
   case rel => first|(exact ⟨_,(true),(by first|rfl|(simp [*];done)),H',⟨by first|omega|exact Nat.le_refl _⟩,⟨by repeat (first|(with_reducible first|exact HB.out|apply lA|apply lN|apply lD)|exact HB.out)⟩⟩)|(exact ⟨_,(t478),(by first|rfl|(simp [*];done)),H',⟨by first|omega|exact Nat.le_refl _⟩,⟨by repeat (first|(with_reducible first|exact HB.out|apply lA|apply lN|apply lD)|exact HB.out)⟩⟩)
 case rest =>
  clear HC4;(try clear c1);(try clear p2);(try clear c5);(try clear c5b0);(try clear c5b1);(try clear c7);obtain ⟨kq,x23_3,rfl,HA,HJ3,HB⟩ := hcut
  cases kq with
  | zero => exact absurd HA.out (by simp [impl_FallbackTerm.j0])
  | succ kj3 =>
   have H := HA.out;clear HA;simp only [impl_FallbackTerm.j0] at H
   by_cases c10 : x23_3 = true
   ·subst c10;rw [if_pos rfl] at H;simp only [eS,eP] at H;obtain ⟨rfl,rfl,rfl⟩ := H;go_wp2;go_ret3;exact ⟨by first|rfl|(simp [*];done),by repeat (first|(with_reducible first|exact HB.out|apply lA|apply lN|apply lD)|exact HB.out)⟩
   ·replace c10 := Bool.eq_false_iff.mpr c10;subst c10;rw [if_neg Bool.false_ne_true] at H;have H' := aM H;clear H;go_wp2;go_loopg [26] kj3 (fun kq v26 w' => ∃ (x26_2 : Int),v26 = .int .i64 x26_2 ∧ Aside0 (impl_FallbackTerm.l0 kq a1 a2 l0 (l0.length : Int) x26_2 = some (r1,r2,r3)) ∧ Aside0 (kq ≤ kj3) ∧ Aside0 (Below w.heap.size w w'))
    case atStart => exact ⟨(0),(by first|rfl|(simp [*];done)),H',⟨Nat.le_refl _⟩,⟨by repeat (first|(with_reducible first|exact HB.out|apply lA|apply lN|apply lD)|exact HB.out)⟩⟩
    case round =>
     clear H';(try clear c1);(try clear p2);(try clear c5);(try clear c5b0);(try clear c5b1);(try clear c7);(try clear c10);(try clear p2);obtain ⟨x26_2,rfl,HA,HK2,HB⟩ := hrel
     cases gk with
     | zero => exact absurd HA.out (by simp [impl_FallbackTerm.l0])
     | succ k2 =>
      have H := HA.out;clear HA;simp only [impl_FallbackTerm.l0] at H
      by_cases c11 : x26_2 < (l0.length : Int)
      focus
       rw [if_pos c11] at H;have c11b0 : decide (x26_2 < (l0.length : Int)) = true := dT c11;clear c11
       by_cases c12 : 0 ≤ x26_2
       rotate_left;rw [if_neg c12] at H;exact absurd H (by simp);rw [if_pos c12] at H;have c12b0 : decide (0 ≤ x26_2) = true := dT c12;clear c12
       by_cases c13 : x26_2 < (l0.length : Int)
       rotate_left;rw [if_neg c13] at H;exact absurd H (by simp);rw [if_pos c13] at H;have c13b0 : decide (x26_2 < (l0.length : Int)) = true := dT c13;clear c13;obtain ⟨t481,A14,H⟩ := bE_ H
       by_cases c15 : t481 ≥ 0
       focus
        rw [if_pos c15] at H;have c15b0 : decide (0 ≤ t481) = true := dT c15;clear c15;obtain ⟨t482,A16,H⟩ := bE_ H;simp only [eS,eP] at H;obtain ⟨rfl,rfl,rfl⟩ := H
       rotate_left
       focus
        rw [if_neg c15] at H;have c15b0 : decide (0 ≤ t481) = false := dF c15;clear c15;have H' := aM H;clear H
      rotate_left 2
      focus
       rw [if_neg c11] at H;have c11b0 : decide (x26_2 < (l0.length : Int)) = false := dF c11;clear c11;simp only [eS,eP] at H;obtain ⟨rfl,rfl,rfl⟩ := H
      all_goals
       (try (have p01 : 0 ≤ (x26_2 : Int) := oD (by assumption);have q01 : x26_2 < (l0.length : Int) := oD (by assumption);obtain ⟨ad01,A01_1,c01_1,A01_2,c01_2,e01,hx01_0,hx01_1,hx01_2,hx01_3,hx01_4,hl01_1,hi01_1,hl01_2,hi01_2⟩ := at_T31 HR0.out x26_2 p01 q01;cases e01;replace hx01_0 := (HB.out.cell (wB w _ hx01_0)).trans hx01_0;replace hx01_1 := (HB.out.cell (wB w _ hx01_1)).trans hx01_1;replace hx01_2 := (HB.out.cell (wB w _ hx01_2)).trans hx01_2;replace hx01_3 := (HB.out.cell (wB w _ hx01_3)).trans hx01_3;replace hx01_4 := (HB.out.cell (wB w _ hx01_4)).trans hx01_4;have HR01_1 := aM hi01_1;have HC01_1 := aM hl01_1;clear hi01_1 hl01_1;have HR01_2 := aM hi01_2;have HC01_2 := aM hl01_2;clear hi01_2 hl01_2;replace p01 := eq_true p01;replace q01 := eq_true q01));go_wp2_with (first|((with_reducible refine gate_dst (N := 10) rfl ?_);refine box_event ?hg (N := 10) ?hd (cs := #[.string (⟨#[]⟩ : ByteArray),.slice none 0 0,.slice none 0 0,.string (⟨#[]⟩ : ByteArray),.string (⟨#[]⟩ : ByteArray)]) (t := 31) ?hr ?_;(case hd => rfl);(case hg => rfl);(case hr => first|(go_simp;done)|(go_simp;rfl));intro gb480 hg Wgb480 hbox hb;have BK480 := aM (hbox);have GW480 := aM ((by rw [hg];exact (lZ (by repeat (first|(with_reducible first|exact HB.out|apply lA|apply lN|apply lD)|exact HB.out))) : w.heap.size ≤ gb480));have GE480 := GW480;replace HB := aM (lT (by repeat (first|(with_reducible first|exact HB.out|apply lA|apply lN|apply lD)|exact HB.out)) hb);clear hb hbox hg;obtain ⟨hcz480x480_0,hcz480x480_1,hcz480x480_2,hcz480x480_3,hcz480x480_4,hfz480x480_0,hfz480x480_1,hfz480x480_2,hfz480x480_3,hfz480x480_4⟩ := z5_ BK480.out)|((with_reducible refine gate_callee (f := 51) rfl ?_);refine goesL_ (some 33) rfl rfl Try.func51 (by kernel_rfl) rfl #[.agg #[.string ((rd_T31 l0 x26_2).f0),.slice A01_1 ((rd_T31 l0 x26_2).f1).length c01_1,.slice A01_2 ((rd_T31 l0 x26_2).f2).length c01_2,.string ((rd_T31 l0 x26_2).f3),.string ((rd_T31 l0 x26_2).f4)],.string a1] rfl (by (try simp only [mT,mC,mN]);first|done|rfl|(simp only [xD,xT];rfl)) ?_;(with_reducible refine (impl_termIndex.calls _ _ _ _ _ _ _ _ _ _ _ _ ?side1 ?side2 ?side3 ?side4 A14.out).mono ?_);(case side1 => exact cB HR01_1.out (by repeat (first|(with_reducible first|exact HB.out|apply lA|apply lN|apply lD|refine lS ?_ GE480.out)|exact HB.out)));(case side2 => exact HC01_1.out);(case side3 => exact cB HR01_2.out (by repeat (first|(with_reducible first|exact HB.out|apply lA|apply lN|apply lD|refine lS ?_ GE480.out)|exact HB.out)));(case side4 => exact HC01_2.out);rintro e WA14 ⟨rfl,hb⟩;refine ⟨_,rfl,?_⟩;replace BK480 := aM (bW (g := gb480) (o := .cells #[.string ((rd_T31 l0 x26_2).f0),.slice A01_1 ((rd_T31 l0 x26_2).f1).length c01_1,.slice A01_2 ((rd_T31 l0 x26_2).f2).length c01_2,.string ((rd_T31 l0 x26_2).f3),.string ((rd_T31 l0 x26_2).f4)] 31 (0,0)) (by (with_reducible repeat (first|refine bN ?_ _|refine bD ?_|refine bA ?_ _));refine blk_put (cs := #[.string ((rd_T31 l0 x26_2).f0),.slice A01_1 ((rd_T31 l0 x26_2).f1).length c01_1,.slice A01_2 ((rd_T31 l0 x26_2).f2).length c01_2,.string ((rd_T31 l0 x26_2).f3),.string (⟨#[]⟩ : ByteArray)]) ?_ 4 _ rfl;(with_reducible repeat (first|refine bN ?_ _|refine bD ?_|refine bA ?_ _));refine blk_put (cs := #[.string ((rd_T31 l0 x26_2).f0),.slice A01_1 ((rd_T31 l0 x26_2).f1).length c01_1,.slice A01_2 ((rd_T31 l0 x26_2).f2).length c01_2,.string (⟨#[]⟩ : ByteArray),.string (⟨#[]⟩ : ByteArray)]) ?_ 3 _ rfl;(with_reducible repeat (first|refine bN ?_ _|refine bD ?_|refine bA ?_ _));refine blk_put (cs := #[.string ((rd_T31 l0 x26_2).f0),.slice A01_1 ((rd_T31 l0 x26_2).f1).length c01_1,.slice none 0 0,.string (⟨#[]⟩ : ByteArray),.string (⟨#[]⟩ : ByteArray)]) ?_ 2 _ rfl;(with_reducible repeat (first|refine bN ?_ _|refine bD ?_|refine bA ?_ _));refine blk_put (cs := #[.string ((rd_T31 l0 x26_2).f0),.slice none 0 0,.slice none 0 0,.string (⟨#[]⟩ : ByteArray),.string (⟨#[]⟩ : ByteArray)]) ?_ 1 _ rfl;(with_reducible repeat (first|refine bN ?_ _|refine bD ?_|refine bA ?_ _));refine blk_put (cs := #[.string (⟨#[]⟩ : ByteArray),.slice none 0 0,.slice none 0 0,.string (⟨#[]⟩ : ByteArray),.string (⟨#[]⟩ : ByteArray)]) ?_ 0 _ rfl;(with_reducible repeat (first|refine bN ?_ _|refine bD ?_|refine bA ?_ _));exact BK480.out) hb);replace HB := aM (lT (by repeat (first|(with_reducible first|exact HB.out|apply lA|apply lN|apply lD|refine lS ?_ GE480.out)|exact HB.out)) hb);(try clear hb);obtain ⟨hcz14x480_0,hcz14x480_1,hcz14x480_2,hcz14x480_3,hcz14x480_4,hfz14x480_0,hfz14x480_1,hfz14x480_2,hfz14x480_3,hfz14x480_4⟩ := z5_ BK480.out)|((with_reducible refine gate_callee (f := 53) rfl ?_);refine goesL_ (some 39) rfl rfl Try.func53 (by kernel_rfl) rfl #[.agg #[.string ((rd_T31 l0 x26_2).f0),.slice A01_1 ((rd_T31 l0 x26_2).f1).length c01_1,.slice A01_2 ((rd_T31 l0 x26_2).f2).length c01_2,.string ((rd_T31 l0 x26_2).f3),.string ((rd_T31 l0 x26_2).f4)],.int .i64 t481,.int .i64 a2] rfl (by (try simp only [mT,mC,mN]);first|done|rfl|(simp only [xD,xT];rfl)) ?_;(with_reducible refine (impl_termFor.calls _ _ _ _ _ _ _ _ _ _ _ _ _ ?side1 ?side2 ?side3 ?side4 A16.out).mono ?_);(case side1 => repeat (first|exact (cB HR01_1.out HB.out)|(with_reducible first|refine cA ?_ _|refine cN ?_ _|refine cD ?_)));(case side2 => exact HC01_1.out);(case side3 => repeat (first|exact (cB HR01_2.out HB.out)|(with_reducible first|refine cA ?_ _|refine cN ?_ _|refine cD ?_)));(case side4 => exact HC01_2.out);rintro e WA16 ⟨rfl,hb⟩;refine ⟨_,rfl,?_⟩;replace BK480 := aM (bW (g := gb480) (o := .cells #[.string ((rd_T31 l0 x26_2).f0),.slice A01_1 ((rd_T31 l0 x26_2).f1).length c01_1,.slice A01_2 ((rd_T31 l0 x26_2).f2).length c01_2,.string ((rd_T31 l0 x26_2).f3),.string ((rd_T31 l0 x26_2).f4)] 31 (0,0)) (by (with_reducible repeat (first|refine bN ?_ _|refine bD ?_|refine bA ?_ _));exact BK480.out) hb);replace HB := aM (lT (by repeat (first|(with_reducible first|exact HB.out|apply lA|apply lN|apply lD|refine lS ?_ GE480.out)|exact HB.out)) hb);(try clear hb)))
       first
        |
         go_ret3;(first|exact ⟨by first|rfl|(simp [*];done),by repeat (first|(with_reducible first|exact HB.out|apply lA|apply lN|apply lD|refine lS ?_ GE480.out)|exact HB.out)⟩|exact ⟨by first|rfl|(simp [*];done),by repeat (first|(with_reducible first|exact HB.out|apply lA|apply lN|apply lD)|exact HB.out)⟩)
        |
         go_roundg k2
         case measure => have := HJ3.out;have := HK2.out;omega
         case rel => exact ⟨(wrap64 (x26_2 + 1)),(by first|rfl|(simp [*];done)),H',⟨by have := HJ3.out;have := HK2.out;omega⟩,⟨by repeat (first|(with_reducible first|exact HB.out|apply lA|apply lN|apply lD|refine lS ?_ GE480.out)|exact HB.out)⟩⟩
end Go.Proofs.Ytmkkcpdpfelalaa.P
