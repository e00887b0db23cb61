/- Written by a program in this session: each theorem here says that a Go function computes the Lean function beside it, or that a law's row holds, under the conditions that the theorem itself states. -/
import Derived.Test.YtmkkcpdpfelalaaGreatDoorZPx0
import Derived.Test.YtmkkcpdpfelalaaGreatDoorZPx4
namespace Go.Proofs.YtmkkcpdpfelalaaGreatDoor.P
open Go.RowKit Go.Proofs.YtmkkcpdpfelalaaGreatDoorW.PrintWords Go.Proofs.YtmkkcpdpfelalaaGreatDoorW.PrintLast Go.Proofs.YtmkkcpdpfelalaaGreatDoorW.PrintMore
attribute [local go_sem] max2_int min2_int max_two min_two max_three min_three max_four min_four   -- for this text's walks alone
set_option linter.unusedVariables false
set_option linter.unusedSimpArgs false
def impl_OrdinalRule_58.l0 : Nat → List (S67) → Int → Int → Option (Int)
 | 0,_,_,_ => none
 | k + 1,x0,x7,x8 => if x8 < x7 then (if 0 ≤ x8 then (if x8 < (x0.length : Int) then ((impl_IsValidLocale_1.f k ((rd_T67 x0 x8).f0) ((rd_T67 x0 x8).f1) ((rd_T67 x0 x8).f2)).bind fun t284 => (if t284 = true then (some x8) else (impl_OrdinalRule_58.l0 k x0 x7 (wrap64 (x8 + 1))))) else (none)) else (none)) else (some (-1))
def impl_OrdinalRule_58.f (k : Nat) (l0 : List (S67)) (a1 : Int) : Option (Int) := impl_OrdinalRule_58.l0 k l0 (l0.length : Int) 0
theorem impl_OrdinalRule_58.mono_l : ∀ k,(∀ y0 y1 y2,LeO (impl_OrdinalRule_58.l0 k y0 y1 y2) (impl_OrdinalRule_58.l0 (k + 1) y0 y1 y2))
 | 0 => fun _ _ _ r h => by simp [impl_OrdinalRule_58.l0] at h
 | k + 1 => by
  have ih0 := impl_OrdinalRule_58.mono_l k
  ·intro y0 y1 y2
   unfold impl_OrdinalRule_58.l0
   repeat' first
   | (with_reducible exact ih0 _ _ _)
   | (with_reducible exact impl_IsValidLocale_1.mono _ _ _ _)
   | (with_reducible exact LeO.refl _)
   | (with_reducible exact LeO.none _)
   | (with_reducible refine LeO.ite ?_ ?_)
   | (with_reducible refine LeO.bind ?_ (fun _ => ?_))
   | exact ih0 _ _ _
   | exact impl_IsValidLocale_1.mono _ _ _ _
   | exact LeO.none _
   | refine LeO.ite ?_ ?_
   | refine LeO.bind ?_ (fun _ => ?_)
theorem impl_OrdinalRule_58.mono : ∀ a0 a1 k,LeO (impl_OrdinalRule_58.f k a0 a1) (impl_OrdinalRule_58.f (k + 1) a0 a1) := by
 intro a0 a1 k
 have ih0 := impl_OrdinalRule_58.mono_l k
 unfold impl_OrdinalRule_58.f
 repeat' first
   | (with_reducible exact ih0 _ _ _)
   | (with_reducible exact impl_IsValidLocale_1.mono _ _ _ _)
   | (with_reducible exact LeO.refl _)
   | (with_reducible exact LeO.none _)
   | (with_reducible refine LeO.ite ?_ ?_)
   | (with_reducible refine LeO.bind ?_ (fun _ => ?_))
   | exact ih0 _ _ _
   | exact impl_IsValidLocale_1.mono _ _ _ _
   | exact LeO.none _
   | refine LeO.ite ?_ ?_
   | refine LeO.bind ?_ (fun _ => ?_)
set_option maxHeartbeats 8000000 in
set_option maxRecDepth 100000 in
theorem impl_OrdinalRule_58.calls (k : Nat) (A0 : Option Addr) (c0 : Nat) (l0 : List (S67)) (a1 : Int) (r : Int) (w : World) (hr0 : Kd.C k67 w A0 l0.length l0) (hc0 : l0.length ≤ c0) (h : impl_OrdinalRule_58.f k l0 a1 = some r) :
  Calls Tryz.prog 58 #[.slice A0 l0.length c0,.func (.func 44) #[] #[]] w fun e w' => e = .returned (.int .i64 r) ∧ Below w.heap.size w w' := by
 have hu67 := Tryz.underlying67;have HR0 := aM hr0;have HC0 := aM hc0;clear hr0 hc0;have HB := aM (Below.refl w.heap.size w);have H : (impl_OrdinalRule_58.l0 k l0 (l0.length : Int) 0) = some r := h;clear h;have H' := aM H;clear H;go_enter Tryz.func58,Tryz.ntmps58;go_wp2;go_loopg [8] k (fun kq v8 w' => ∃ (x8_1 : Int),v8 = .int .i64 x8_1 ∧ Aside0 (impl_OrdinalRule_58.l0 kq l0 (l0.length : Int) x8_1 = some r) ∧ Aside0 (kq ≤ k) ∧ Aside0 (Below w.heap.size w w'))
 case atStart => exact ⟨(0),(by first|rfl|(simp [*];done)),H',⟨Nat.le_refl _⟩,⟨hb_⟩⟩
 case round =>
  clear H';(try clear p2);obtain ⟨x8_1,rfl,HA,HK1,HB⟩ := hrel
  cases gk with
  | zero => exact absurd HA.out (by simp [impl_OrdinalRule_58.l0])
  | succ k1 =>
   have H := HA.out;clear HA;simp only [impl_OrdinalRule_58.l0] at H
   by_cases c3 : x8_1 < (l0.length : Int)
   focus
    rw [if_pos c3] at H;have c3b0 : decide (x8_1 < (l0.length : Int)) = true := dT c3;clear c3
    by_cases c4 : 0 ≤ x8_1
    rotate_left;rw [if_neg c4] at H;exact absurd H (by simp);rw [if_pos c4] at H;have c4b0 : decide (0 ≤ x8_1) = true := dT c4;clear c4
    by_cases c5 : x8_1 < (l0.length : Int)
    rotate_left;rw [if_neg c5] at H;exact absurd H (by simp);rw [if_pos c5] at H;have c5b0 : decide (x8_1 < (l0.length : Int)) = true := dT c5;clear c5;obtain ⟨t284,A6,H⟩ := bE_ H
    by_cases c7 : t284 = true
    focus
     subst c7;rw [if_pos rfl] at H;obtain rfl := Option.some.inj H;simp only [eS,eP] at H;obtain ⟨rfl⟩ := H
    rotate_left
    focus
     replace c7 := Bool.eq_false_iff.mpr c7;subst c7;rw [if_neg Bool.false_ne_true] at H;have H' := aM H;clear H
   rotate_left 2
   focus
    rw [if_neg c3] at H;have c3b0 : decide (x8_1 < (l0.length : Int)) = false := dF c3;clear c3;obtain rfl := Option.some.inj H;simp only [eS,eP] at H;obtain ⟨rfl⟩ := H
   all_goals
    (try (have p01 : 0 ≤ (x8_1 : Int) := oD (by assumption);have q01 : x8_1 < (l0.length : Int) := oD (by assumption);obtain ⟨ad01,e01,hx01_0,hx01_1,hx01_2⟩ := at_T67 HR0.out x8_1 p01 q01;cases e01;replace hx01_0 := (HB.out.cell (wB w _ hx01_0)).trans hx01_0;replace hx01_1 := (HB.out.cell (wB w _ hx01_1)).trans hx01_1;replace hx01_2 := (HB.out.cell (wB w _ hx01_2)).trans hx01_2;replace p01 := eq_true p01;replace q01 := eq_true q01));go_wp2_with (first|(go_at_call 44;(with_reducible refine (impl_IsValidLocale_1.calls _ _ _ _ _ _ A6.out).mono ?_);rintro e WA6 ⟨rfl,hb⟩;replace HB := aM (lT hb_ hb);(try clear hb)))
    first
     |
      go_ret;exact ⟨by first|rfl|(simp [*];done),hb_⟩
     |
      go_roundg k1
      case measure => have := HK1.out;omega
      case rel => exact ⟨(wrap64 (x8_1 + 1)),(by first|rfl|(simp [*];done)),H',⟨by have := HK1.out;omega⟩,⟨hb_⟩⟩
def impl_OrdinalRule_43.f (k : Nat) (l0 : List (S67)) (a1 : Int) : Option (Bool) := (impl_OrdinalRule_58.f k l0 a1).bind fun t285 => (some (decide (t285 ≥ 0)))
theorem impl_OrdinalRule_43.mono : ∀ a0 a1 k,LeO (impl_OrdinalRule_43.f k a0 a1) (impl_OrdinalRule_43.f (k + 1) a0 a1) := by
 intro a0 a1 k
 unfold impl_OrdinalRule_43.f
 repeat' first
   | (with_reducible exact impl_OrdinalRule_58.mono _ _ _)
   | (with_reducible exact LeO.refl _)
   | (with_reducible exact LeO.none _)
   | (with_reducible refine LeO.ite ?_ ?_)
   | (with_reducible refine LeO.bind ?_ (fun _ => ?_))
   | exact impl_OrdinalRule_58.mono _ _ _
   | exact LeO.none _
   | refine LeO.ite ?_ ?_
   | refine LeO.bind ?_ (fun _ => ?_)
set_option maxHeartbeats 8000000 in
set_option maxRecDepth 100000 in
theorem impl_OrdinalRule_43.calls (k : Nat) (A0 : Option Addr) (c0 : Nat) (l0 : List (S67)) (a1 : Int) (r : Bool) (w : World) (hr0 : Kd.C k67 w A0 l0.length l0) (hc0 : l0.length ≤ c0) (h : impl_OrdinalRule_43.f k l0 a1 = some r) :
  Calls Tryz.prog 43 #[.slice A0 l0.length c0,.func (.func 44) #[] #[]] w fun e w' => e = .returned (.bool r) ∧ Below w.heap.size w w' := by
 have HR0 := aM hr0;have HC0 := aM hc0;clear hr0 hc0;have HB := aM (Below.refl w.heap.size w);have H : ((impl_OrdinalRule_58.f k l0 a1).bind fun t285 => (some (decide (t285 ≥ 0)))) = some r := h;clear h;obtain ⟨t285,A3,H⟩ := bE_ H;obtain rfl := Option.some.inj H;simp only [eS,eP] at H;obtain ⟨rfl⟩ := H;go_enter Tryz.func43,Tryz.ntmps43;go_wp2_with (first|((with_reducible refine gate_callee (f := 58) rfl ?_);refine goesL_ (some 7) rfl rfl Tryz.func58 (by kernel_rfl) rfl #[.slice A0 l0.length c0,.func (.func 44) #[] #[]] rfl (by (try simp only [mT,mC,mN]);first|done|rfl|(simp only [xD,xT];rfl)) ?_;(with_reducible refine (impl_OrdinalRule_58.calls k _ _ l0 a1 t285 _ ?side1 ?side2 A3.out).mono ?_);(case side1 => repeat (first|exact HR0.out|(with_reducible first|refine cA ?_ _|refine cN ?_ _|refine cD ?_)));(case side2 => exact HC0.out);rintro e w4 ⟨rfl,hb⟩;refine ⟨_,rfl,?_⟩;replace HB := aM (lT hb_ hb);(try clear hb)));go_ret;exact ⟨by first|rfl|(simp [*];done),hb_⟩
end Go.Proofs.YtmkkcpdpfelalaaGreatDoor.P
