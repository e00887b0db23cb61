/- Written by a program in this session: each theorem here says that a Go function computes the Lean function beside it, or that a law's row holds, under the conditions that the theorem itself states. -/
import Derived.Test.YtmafmhgmdegplaaGreatDoorZPx0
import Derived.Test.YtmafmhgmdegplaaGreatDoorZPx13
namespace Go.Proofs.YtmafmhgmdegplaaGreatDoor.P
open Go.RowKit Go.Proofs.YtmafmhgmdegplaaGreatDoorW.PrintWords Go.Proofs.YtmafmhgmdegplaaGreatDoorW.PrintLast Go.Proofs.YtmafmhgmdegplaaGreatDoorW.PrintMore
attribute [local go_sem] max2_int min2_int max_two min_two max_three min_three max_four min_four   -- for this text's walks alone
set_option linter.unusedVariables false
set_option linter.unusedSimpArgs false
def impl_isQueryWord.l0 : Nat → ByteArray → Int → Option (Bool)
 | 0,_,_ => none
 | k + 1,x0,x3 => if x3 < (x0.size : Int) then (if 0 ≤ x3 then ((impl_isLower.f (bt x0 x3)).bind fun t343 => (if t343 = true then (impl_isQueryWord.l0 k x0 (wrap64 (x3 + 1))) else ((impl_isDigit.f (bt x0 x3)).bind fun t344 => (if t344 = true then (impl_isQueryWord.l0 k x0 (wrap64 (x3 + 1))) else (some false))))) else (none)) else ((impl_inside.f (x0.size : Int) 1 15).bind fun t342 => (if t342 = true then (if x0.toList = ([110,111,116] : List UInt8) then (some false) else (if x0.toList = ([97,110,100] : List UInt8) then (some false) else (some (x0.toList != ([111,114] : List UInt8))))) else (some false)))
def impl_isQueryWord.f (k : Nat) (a0 : ByteArray) : Option (Bool) := impl_isQueryWord.l0 k a0 0
theorem impl_isQueryWord.mono_l : ∀ k,(∀ y0 y1,LeO (impl_isQueryWord.l0 k y0 y1) (impl_isQueryWord.l0 (k + 1) y0 y1))
 | 0 => fun _ _ r h => by simp [impl_isQueryWord.l0] at h
 | k + 1 => by
  have ih0 := impl_isQueryWord.mono_l k
  ·intro y0 y1
   unfold impl_isQueryWord.l0
   repeat' (first|with_reducible (first|exact ih0 _ _|exact LeO.refl _|exact LeO.none _|refine LeO.ite ?_ ?_|refine LeO.bind ?_ (fun _ => ?_))|exact LeO.none _|refine LeO.ite ?_ ?_|refine LeO.bind ?_ (fun _ => ?_))
theorem impl_isQueryWord.mono : ∀ a0 k,LeO (impl_isQueryWord.f k a0) (impl_isQueryWord.f (k + 1) a0) := by
 intro a0 k
 have ih0 := impl_isQueryWord.mono_l k
 unfold impl_isQueryWord.f
 repeat' (first|with_reducible (first|exact ih0 _ _|exact LeO.refl _|exact LeO.none _|refine LeO.ite ?_ ?_|refine LeO.bind ?_ (fun _ => ?_))|exact LeO.none _|refine LeO.ite ?_ ?_|refine LeO.bind ?_ (fun _ => ?_))
set_option maxHeartbeats 8000000 in
set_option maxRecDepth 100000 in
theorem impl_isQueryWord.calls (k : Nat) (a0 : ByteArray) (r : Bool) (w : World) (h : impl_isQueryWord.f k a0 = some r) :
  Calls Tryz.prog 101 #[.string a0] w fun e w' => e = .returned (.bool r) ∧ Drawn0 w w' := by
 have H : (impl_isQueryWord.l0 k a0 0) = some r := h;clear h;have H' := aM H;clear H;go_enter Tryz.func101,Tryz.ntmps101;go_wp2;go_loopg [3] k (fun kq v3 w' => ∃ (x3_1 : Int),v3 = .int .i64 x3_1 ∧ Aside0 (impl_isQueryWord.l0 kq a0 x3_1 = some r) ∧ Aside0 (kq ≤ k) ∧ Drawn0 w w')
 case atStart => exact ⟨(0),vR_,H',⟨Nat.le_refl _⟩,dw_⟩
 case round =>
  clear H';obtain ⟨x3_1,rfl,HA,HK1,⟨m1,rfl⟩⟩ := hrel
  cases gk with
  | zero => exact absurd HA.out (by simp [impl_isQueryWord.l0])
  | succ k1 =>
   have H := HA.out;clear HA;simp only [impl_isQueryWord.l0] at H
   by_cases c2 : x3_1 < (a0.size : Int)
   focus
    rw [if_pos c2] at H;have c2b0 : decide (x3_1 < (a0.size : Int)) = true := dT c2;clear c2
    by_cases c3 : 0 ≤ x3_1
    rotate_left;rw [if_neg c3] at H;exact absurd H (by simp);rw [if_pos c3] at H;have c3b0 : decide (0 ≤ x3_1) = true := dT c3;clear c3;obtain ⟨t343,A5,H⟩ := bE_ H
    by_cases c6 : t343 = true
    focus
     subst c6;rw [if_pos rfl] at H;have H' := aM H;clear H
    rotate_left
    focus
     replace c6 := Bool.eq_false_iff.mpr c6;subst c6;rw [if_neg Bool.false_ne_true] at H;obtain ⟨t344,A8,H⟩ := bE_ H
     by_cases c9 : t344 = true
     focus
      subst c9;rw [if_pos rfl] at H;have H' := aM H;clear H
     rotate_left
     focus
      replace c9 := Bool.eq_false_iff.mpr c9;subst c9;rw [if_neg Bool.false_ne_true] at H;obtain rfl := Option.some.inj H;simp only [eS,eP] at H;obtain ⟨rfl⟩ := H
   rotate_left 3
   focus
    rw [if_neg c2] at H;have c2b0 : decide (x3_1 < (a0.size : Int)) = false := dF c2;clear c2;obtain ⟨t342,A10,H⟩ := bE_ H
    by_cases c11 : t342 = true
    focus
     subst c11;rw [if_pos rfl] at H
     by_cases c12 : a0.toList = ([110,111,116] : List UInt8)
     focus
      rw [if_pos c12] at H;have c12b0 : (a0.toList == ([110,111,116] : List UInt8)) = true := beq_iff_eq.mpr c12;have c12b1 : (a0.toList != ([110,111,116] : List UInt8)) = false := bne_eq_false_iff_eq.mpr c12;clear c12;obtain rfl := Option.some.inj H;simp only [eS,eP] at H;obtain ⟨rfl⟩ := H
     rotate_left
     focus
      rw [if_neg c12] at H;have c12b0 : (a0.toList == ([110,111,116] : List UInt8)) = false := beq_eq_false_iff_ne.mpr c12;have c12b1 : (a0.toList != ([110,111,116] : List UInt8)) = true := bne_iff_ne.mpr c12
      by_cases c13 : a0.toList = ([97,110,100] : List UInt8)
      focus
       rw [if_pos c13] at H;have c13b0 : (a0.toList == ([97,110,100] : List UInt8)) = true := beq_iff_eq.mpr c13;have c13b1 : (a0.toList != ([97,110,100] : List UInt8)) = false := bne_eq_false_iff_eq.mpr c13;clear c13;obtain rfl := Option.some.inj H;simp only [eS,eP] at H;obtain ⟨rfl⟩ := H
      rotate_left
      focus
       rw [if_neg c13] at H;have c13b0 : (a0.toList == ([97,110,100] : List UInt8)) = false := beq_eq_false_iff_ne.mpr c13;have c13b1 : (a0.toList != ([97,110,100] : List UInt8)) = true := bne_iff_ne.mpr c13;obtain rfl := Option.some.inj H;simp only [eS,eP] at H;obtain ⟨rfl⟩ := H
    rotate_left 3
    focus
     replace c11 := Bool.eq_false_iff.mpr c11;subst c11;rw [if_neg Bool.false_ne_true] at H;obtain rfl := Option.some.inj H;simp only [eS,eP] at H;obtain ⟨rfl⟩ := H
   all_goals
    (try (have p01 : 0 ≤ (x3_1 : Int) := oD (by assumption);have q01 : x3_1 < (a0.size : Int) := oD (by assumption);have hx01 := bt_at a0 x3_1;replace p01 := eq_true p01;replace q01 := eq_true q01));go_wp2_with (first|((with_reducible refine gate_callee (f := 130) rfl ?_);refine gl_ (some 24) Tryz.func130 #[.int .i64 (a0.size : Int),.int .i64 1,.int .i64 15] ?_;(with_reducible refine (impl_inside.calls _ _ _ _ _ A10.out).mono ?_);rintro e w' ⟨rfl,⟨nd,rfl⟩⟩;refine ⟨_,rfl,?_⟩)|((with_reducible refine gate_callee (f := 153) rfl ?_);refine gl_ (some 13) Tryz.func153 #[.int .u8 (bt a0 x3_1)] ?_;(with_reducible refine (impl_isLower.calls _ _ _ A5.out).mono ?_);rintro e w' ⟨rfl,⟨nd,rfl⟩⟩;refine ⟨_,rfl,?_⟩;(try (have p01 : 0 ≤ (x3_1 : Int) := oD (by assumption);have q01 : x3_1 < (a0.size : Int) := oD (by assumption);have hx01 := bt_at a0 x3_1;replace p01 := eq_true p01;replace q01 := eq_true q01)))|(go_at_call 154;(with_reducible refine (impl_isDigit.calls _ _ _ A8.out).mono ?_);rintro e w' ⟨rfl,⟨nd,rfl⟩⟩))
    first
     |
      go_ret;exact ⟨vR_,dw_⟩
     |
      go_roundg k1
      case measure => have := HK1.out;omega
      case rel => exact ⟨(wrap64 (x3_1 + 1)),vR_,H',⟨by have := HK1.out;omega⟩,dw_⟩
def slices_Index_string_string.l0 : Nat → List ByteArray → ByteArray → Int → Int → Option (Int)
 | 0,_,_,_,_ => none
 | k + 1,x0,x1,x7,x8 => if x8 < x7 then (if 0 ≤ x8 then (if x8 < (x0.length : Int) then (if x1.toList = (rdOf ByteArray.empty x0 x8).toList then (some x8) else (slices_Index_string_string.l0 k x0 x1 x7 (wrap64 (x8 + 1)))) else (none)) else (none)) else (some (-1))
def slices_Index_string_string.f (k : Nat) (l0 : List ByteArray) (a1 : ByteArray) : Option (Int) := slices_Index_string_string.l0 k l0 a1 (l0.length : Int) 0
theorem slices_Index_string_string.mono_l : ∀ k,(∀ y0 y1 y2 y3,LeO (slices_Index_string_string.l0 k y0 y1 y2 y3) (slices_Index_string_string.l0 (k + 1) y0 y1 y2 y3))
 | 0 => fun _ _ _ _ r h => by simp [slices_Index_string_string.l0] at h
 | k + 1 => by
  have ih0 := slices_Index_string_string.mono_l k
  ·intro y0 y1 y2 y3
   unfold slices_Index_string_string.l0
   repeat' (first|with_reducible (first|exact ih0 _ _ _ _|exact LeO.refl _|exact LeO.none _|refine LeO.ite ?_ ?_|refine LeO.bind ?_ (fun _ => ?_))|exact LeO.none _|refine LeO.ite ?_ ?_|refine LeO.bind ?_ (fun _ => ?_))
theorem slices_Index_string_string.mono : ∀ a0 a1 k,LeO (slices_Index_string_string.f k a0 a1) (slices_Index_string_string.f (k + 1) a0 a1) := by
 intro a0 a1 k
 have ih0 := slices_Index_string_string.mono_l k
 unfold slices_Index_string_string.f
 repeat' (first|with_reducible (first|exact ih0 _ _ _ _|exact LeO.refl _|exact LeO.none _|refine LeO.ite ?_ ?_|refine LeO.bind ?_ (fun _ => ?_))|exact LeO.none _|refine LeO.ite ?_ ?_|refine LeO.bind ?_ (fun _ => ?_))
set_option maxHeartbeats 8000000 in
set_option maxRecDepth 100000 in
theorem slices_Index_string_string.calls (k : Nat) (A0 : Option Addr) (c0 : Nat) (l0 : List ByteArray) (a1 : ByteArray) (r : Int) (w : World) (hr0 : Kd.C Kd.string w A0 l0.length l0) (hc0 : l0.length ≤ c0) (h : slices_Index_string_string.f k l0 a1 = some r) :
  Calls Tryz.prog 155 #[.slice A0 l0.length c0,.string a1] w fun e w' => e = .returned (.int .i64 r) ∧ Drawn0 w w' := by
 have HR0 := aM hr0;have HC0 := aM hc0;clear hr0 hc0;have H : (slices_Index_string_string.l0 k l0 a1 (l0.length : Int) 0) = some r := h;clear h;have H' := aM H;clear H;go_enter Tryz.func155,Tryz.ntmps155;go_wp2;go_loopg [8] k (fun kq v8 w' => ∃ (x8_1 : Int),v8 = .int .i64 x8_1 ∧ Aside0 (slices_Index_string_string.l0 kq l0 a1 (l0.length : Int) x8_1 = some r) ∧ Aside0 (kq ≤ k) ∧ Drawn0 w w')
 case atStart => exact ⟨(0),vR_,H',⟨Nat.le_refl _⟩,dw_⟩
 case round =>
  clear H';obtain ⟨x8_1,rfl,HA,HK1,⟨m1,rfl⟩⟩ := hrel
  cases gk with
  | zero => exact absurd HA.out (by simp [slices_Index_string_string.l0])
  | succ k1 =>
   have H := HA.out;clear HA;simp only [slices_Index_string_string.l0] at H
   by_cases c3 : x8_1 < (l0.length : Int)
   focus
    rw [if_pos c3] at H;have c3b0 : decide (x8_1 < (l0.length : Int)) = true := dT c3;clear c3
    by_cases c4 : 0 ≤ x8_1
    rotate_left;rw [if_neg c4] at H;exact absurd H (by simp);rw [if_pos c4] at H;have c4b0 : decide (0 ≤ x8_1) = true := dT c4;clear c4
    by_cases c5 : x8_1 < (l0.length : Int)
    rotate_left;rw [if_neg c5] at H;exact absurd H (by simp);rw [if_pos c5] at H;have c5b0 : decide (x8_1 < (l0.length : Int)) = true := dT c5;clear c5
    by_cases c6 : a1.toList = (rdOf ByteArray.empty l0 x8_1).toList
    focus
     rw [if_pos c6] at H;have c6b0 : (a1.toList == (rdOf ByteArray.empty l0 x8_1).toList) = true := beq_iff_eq.mpr c6;have c6b1 : (a1.toList != (rdOf ByteArray.empty l0 x8_1).toList) = false := bne_eq_false_iff_eq.mpr c6;clear c6;obtain rfl := Option.some.inj H;simp only [eS,eP] at H;obtain ⟨rfl⟩ := H
    rotate_left
    focus
     rw [if_neg c6] at H;have c6b0 : (a1.toList == (rdOf ByteArray.empty l0 x8_1).toList) = false := beq_eq_false_iff_ne.mpr c6;have c6b1 : (a1.toList != (rdOf ByteArray.empty l0 x8_1).toList) = true := bne_iff_ne.mpr c6;have H' := aM H;clear H
   rotate_left 2
   focus
    rw [if_neg c3] at H;have c3b0 : decide (x8_1 < (l0.length : Int)) = false := dF c3;clear c3;obtain rfl := Option.some.inj H;simp only [eS,eP] at H;obtain ⟨rfl⟩ := H
   all_goals
    (try (have p01 : 0 ≤ (x8_1 : Int) := oD (by assumption);have q01 : x8_1 < (l0.length : Int) := oD (by assumption);obtain ⟨ad01,e01,hx01_0⟩ := Kd.at_string HR0.out x8_1 p01 q01;cases e01;replace p01 := eq_true p01;replace q01 := eq_true q01));go_wp2
    first
     |
      go_ret;exact ⟨vR_,dw_⟩
     |
      go_roundg k1
      case measure => have := HK1.out;omega
      case rel => exact ⟨(wrap64 (x8_1 + 1)),vR_,H',⟨by have := HK1.out;omega⟩,dw_⟩
def slices_Contains_string_string.f (k : Nat) (l0 : List ByteArray) (a1 : ByteArray) : Option (Bool) := (slices_Index_string_string.f k l0 a1).bind fun t346 => (some (decide (t346 ≥ 0)))
theorem slices_Contains_string_string.mono : ∀ a0 a1 k,LeO (slices_Contains_string_string.f k a0 a1) (slices_Contains_string_string.f (k + 1) a0 a1) := by
 intro a0 a1 k
 unfold slices_Contains_string_string.f
 repeat' (first|with_reducible (first|exact slices_Index_string_string.mono _ _ _|exact LeO.refl _|exact LeO.none _|refine LeO.ite ?_ ?_|refine LeO.bind ?_ (fun _ => ?_))|exact LeO.none _|refine LeO.ite ?_ ?_|refine LeO.bind ?_ (fun _ => ?_))
set_option maxHeartbeats 8000000 in
set_option maxRecDepth 100000 in
theorem slices_Contains_string_string.calls (k : Nat) (A0 : Option Addr) (c0 : Nat) (l0 : List ByteArray) (a1 : ByteArray) (r : Bool) (w : World) (hr0 : Kd.C Kd.string w A0 l0.length l0) (hc0 : l0.length ≤ c0) (h : slices_Contains_string_string.f k l0 a1 = some r) :
  Calls Tryz.prog 104 #[.slice A0 l0.length c0,.string a1] w fun e w' => e = .returned (.bool r) ∧ Drawn0 w w' := by
 have HR0 := aM hr0;have HC0 := aM hc0;clear hr0 hc0;have H : ((slices_Index_string_string.f k l0 a1).bind fun t346 => (some (decide (t346 ≥ 0)))) = some r := h;clear h;obtain ⟨t346,A3,H⟩ := bE_ H;obtain rfl := Option.some.inj H;simp only [eS,eP] at H;obtain ⟨rfl⟩ := H;go_enter Tryz.func104,Tryz.ntmps104;go_wp2_with (first|((with_reducible refine gate_callee (f := 155) rfl ?_);refine gl_ (some 7) Tryz.func155 #[.slice A0 l0.length c0,.string a1] ?_;(with_reducible refine (slices_Index_string_string.calls k _ _ l0 a1 t346 _ ?side1 ?side2 A3.out).mono ?_);(case side1 => repeat (first|exact HR0.out|(with_reducible first|refine cA ?_ _|refine cN ?_ _|refine cD ?_)));(case side2 => exact HC0.out);rintro e w' ⟨rfl,⟨nd,rfl⟩⟩;refine ⟨_,rfl,?_⟩));go_ret;exact ⟨vR_,dw_⟩
theorem impl_isField_row {w : World} (h : FldIs Tryz.prog w) : Kd.C Kd.string w (some ⟨0,0,none⟩) fieldL.length fieldL := by
 refine ⟨rfl,by decide,fun _ => ⟨⟨0,0,none⟩,rfl,fun j p hj => ⟨[.string p],rfl,rfl,fun i v hi => ?_⟩⟩⟩
 cases i with
 | zero =>
  obtain rfl : Value.string p = v := (by simpa using hi);have h1 := h.cell (g := 0) (by kernel_rfl) j p hj;show w.cell? (Addr.add ⟨0,0,none⟩ (j * 1 + 0)) = some (.string p);rw [Nat.mul_one,Nat.add_zero];unfold Addr.add
  by_cases e : j = 0
  ·subst e;simpa using h1
  ·rw [if_neg e];simpa using h1
 | succ i => simp at hi
def impl_isField.f (k : Nat) (a0 : ByteArray) : Option Bool := slices_Contains_string_string.f k fieldL a0
theorem impl_isField.mono : ∀ a0 k,LeO (impl_isField.f k a0) (impl_isField.f (k + 1) a0) := fun a0 k => slices_Contains_string_string.mono _ _ _
set_option maxHeartbeats 4000000 in
set_option maxRecDepth 100000 in
theorem impl_isField.calls (k : Nat) (a0 : ByteArray) (r : Bool) (w : World) (hG : Gf w) (h : impl_isField.f k a0 = some r) :
  Calls Tryz.prog 134 #[.string a0] w fun e w' => e = .returned (.bool r) ∧ Drawn0 w w' := by
 have HR := aM (impl_isField_row hG.fld);have H := aM h;clear h hG;have hug := Tryz.underlying170
 have hC : Aside0 (∀ W : World,Drawn0 w W → Calls Tryz.prog 104 #[.slice (some ⟨0,0,none⟩) 8 8,.string a0] W fun e w' => e = .returned (.bool r) ∧ Drawn0 W w') :=
  ⟨fun W hW => slices_Contains_string_string.calls k (some ⟨0,0,none⟩) 8 fieldL a0 r W (cB HR.out hW.below) (Nat.le_refl _) H.out⟩
 clear HR H;go_enter Tryz.func134,Tryz.ntmps134;go_wp2_with (first|(go_at_call 104;(refine (hC.out _ (dw_)).mono ?_);rintro e w' ⟨rfl,⟨nd,rfl⟩⟩));go_ret;exact ⟨rfl,dw_⟩
end Go.Proofs.YtmafmhgmdegplaaGreatDoor.P
