/- Written by a program in this session: each theorem here says that a Go function computes the Lean function beside it, or that a law's row holds, under the conditions that the theorem itself states. -/
import Derived.Test.YtmafmhgmdegplaaGreatDoorZPx0
import Derived.Test.YtmafmhgmdegplaaGreatDoorZPx13
import Derived.Test.YtmafmhgmdegplaaGreatDoorZPx16
import Derived.Lib.SplitLaws
import Derived.Test.YtmafmhgmdegplaaGreatDoorZShelf
namespace Go.Proofs.YtmafmhgmdegplaaGreatDoor.P
open Go.RowKit Go.Proofs.YtmafmhgmdegplaaGreatDoorW.PrintWords Go.Proofs.YtmafmhgmdegplaaGreatDoorW.PrintLast Go.Proofs.YtmafmhgmdegplaaGreatDoorW.PrintMore
attribute [local go_sem] max2_int min2_int max_two min_two max_three min_three max_four min_four   -- for this text's walks alone
set_option linter.unusedVariables false
set_option linter.unusedSimpArgs false
theorem R_strs (w : World) (e : TypeId) (L : List ByteArray) (hL : L.length ≤ 9223372036854775807) : Kd.R Kd.string e (w.alloc (.cells (L.map Value.string).toArray e)) w.heap.size (fun _ => True) (.slice (some ⟨w.heap.size,0,none⟩) L.length L.length) L := by
 refine ⟨fun _ _ => trivial,L.map Value.string,?_,?_⟩
 ·have h2 := World.ownsRow_lit (base := w.heap.size) (e := e) (size := 1) w (L.map Value.string).toArray L.length (Nat.le_refl _) (by simpa [maxLen] using hL) (by simp);have h3 : (w.alloc (Obj.cells (L.map Value.string).toArray e)).ownsRow w.heap.size e 1 (.slice (some ⟨w.heap.size,0,none⟩) L.length L.length) L.length (L.map Value.string) := (by simpa using h2);exact h3
 ·refine ⟨by show (L.map Value.string).length = L.length * 1;simp,fun j p hj => ?_⟩;show ((L.map Value.string).drop (j * 1)).take 1 = [Value.string p];obtain ⟨hjl,hp⟩ := List.getElem?_eq_some_iff.1 hj;rw [Nat.mul_one,← List.map_drop,List.drop_eq_getElem_cons hjl,hp];rfl
def strings_Split.f (a0 a1 : ByteArray) : Option (List ByteArray) := if a0.size < 4294967281 ∧ 1 ≤ a1.size ∧ Lib.countB a0 a1 ≤ 4294967281 then some (Lib.splitB a1 0 (Lib.countB a0 a1) a0) else none
theorem strings_Split.calls (a0 a1 : ByteArray) (r : List ByteArray) (w : World) (hG : Gm w) (h : strings_Split.f a0 a1 = some r) :
  Calls Tryz.prog 185 #[.string a0,.string a1] w fun e w' => ∃ v0_ : Value,e = .returned (v0_) ∧ Kd.R Kd.string 9 w' w.heap.size (fun _ => True) v0_ r ∧ Below w.heap.size w w' := by
 unfold strings_Split.f at h
 by_cases hs : a0.size < 4294967281 ∧ 1 ≤ a1.size ∧ Lib.countB a0 a1 ≤ 4294967281
 ·rw [if_pos hs] at h;obtain rfl := Option.some.inj h;obtain ⟨m,hm⟩ := hG.max;refine (Tryz.strings_Split a0 a1 m w hs.1 hm hs.2.1).mono ?_;rintro e w' ⟨rfl,rfl⟩;have hl : (Lib.splitB a1 0 (Lib.countB a0 a1) a0).length = Lib.countB a0 a1 + 1 := Lib.splitB_all a1 hs.2.1 0 _ a0 rfl;refine ⟨_,rfl,?_,lA (Below.refl _ _) _⟩;have hle : Lib.countB a0 a1 + 1 ≤ 9223372036854775807 := (by omega);rw [← hl] at hle ⊢;generalize Lib.splitB a1 0 (Lib.countB a0 a1) a0 = L at *;exact R_strs w _ L hle
 ·rw [if_neg hs] at h;cases h
mutual
def impl_isParticle.l0 : Nat → List ByteArray → List ByteArray → Int → Int → Option (Bool)
 | 0,_,_,_,_ => none
 | k + 1,x3,x11,x12,x13 => if x13 < x12 then (if 0 ≤ x13 then (if x13 < (x11.length : Int) then ((impl_inside.f ((rdOf ByteArray.empty x11 x13).size : Int) 1 12).bind fun t377 => (if t377 = true then (impl_isParticle.l1 k x3 (rdOf ByteArray.empty x11 x13) 0 x11 x12 x13) else (some false))) else (none)) else (none)) else (some (decide ((x3.length : Int) ≤ 2)))
def impl_isParticle.l1 : Nat → List ByteArray → ByteArray → Int → List ByteArray → Int → Int → Option (Bool)
 | 0,_,_,_,_,_,_ => none
 | k + 1,x3,x5,x6,x11,x12,x13 => if x6 < (x5.size : Int) then (if 0 ≤ x6 then ((impl_isLower.f (bt x5 x6)).bind fun t378 => (if t378 = true then (impl_isParticle.l1 k x3 x5 (wrap64 (x6 + 1)) x11 x12 x13) else (some false))) else (none)) else (impl_isParticle.l0 k x3 x11 x12 (wrap64 (x13 + 1)))
end
def impl_isParticle.f (k : Nat) (a0 : ByteArray) : Option (Bool) := if a0.toList = ([] : List UInt8) then (some true) else ((strings_Split.f a0 (⟨#[32]⟩ : ByteArray)).bind fun t373 => (impl_isParticle.l0 k t373 t373 (t373.length : Int) 0))
theorem impl_isParticle.mono_l : ∀ k,(∀ y0 y1 y2 y3,LeO (impl_isParticle.l0 k y0 y1 y2 y3) (impl_isParticle.l0 (k + 1) y0 y1 y2 y3)) ∧ (∀ y0 y1 y2 y3 y4 y5,LeO (impl_isParticle.l1 k y0 y1 y2 y3 y4 y5) (impl_isParticle.l1 (k + 1) y0 y1 y2 y3 y4 y5))
 | 0 => ⟨fun _ _ _ _ r h => by simp [impl_isParticle.l0] at h,fun _ _ _ _ _ _ r h => by simp [impl_isParticle.l1] at h⟩
 | k + 1 => by
  obtain ⟨ih0,ih1⟩ := impl_isParticle.mono_l k
  refine ⟨?_,?_⟩
  all_goals (intros;first|unfold impl_isParticle.l0|unfold impl_isParticle.l1)
  all_goals repeat' (first|with_reducible (first|exact ih0 _ _ _ _|exact ih1 _ _ _ _ _ _|exact LeO.refl _|exact LeO.none _|refine LeO.ite ?_ ?_|refine LeO.bind ?_ (fun _ => ?_))|exact LeO.none _|refine LeO.ite ?_ ?_|refine LeO.bind ?_ (fun _ => ?_))
theorem impl_isParticle.mono : ∀ a0 k,LeO (impl_isParticle.f k a0) (impl_isParticle.f (k + 1) a0) := by
 intro a0 k
 obtain ⟨ih0,ih1⟩ := impl_isParticle.mono_l k
 unfold impl_isParticle.f
 repeat' (first|with_reducible (first|exact ih0 _ _ _ _|exact ih1 _ _ _ _ _ _|exact LeO.refl _|exact LeO.none _|refine LeO.ite ?_ ?_|refine LeO.bind ?_ (fun _ => ?_))|exact LeO.none _|refine LeO.ite ?_ ?_|refine LeO.bind ?_ (fun _ => ?_))
set_option maxHeartbeats 8000000 in
set_option maxRecDepth 100000 in
theorem impl_isParticle.calls (k : Nat) (a0 : ByteArray) (r : Bool) (w : World) (hG : Gm w) (h : impl_isParticle.f k a0 = some r) :
  Calls Tryz.prog 216 #[.string a0] w fun e w' => e = .returned (.bool r) ∧ Below w.heap.size w w' := by
 have HB := aM (Below.refl w.heap.size w);have HG := aM hG;clear hG;have H : (if a0.toList = ([] : List UInt8) then (some true) else ((strings_Split.f a0 (⟨#[32]⟩ : ByteArray)).bind fun t373 => (impl_isParticle.l0 k t373 t373 (t373.length : Int) 0))) = some r := h;clear h
 by_cases c2 : a0.toList = ([] : List UInt8)
 ·rw [if_pos c2] at H;have c2b0 : (a0.toList == ([] : List UInt8)) = true := beq_iff_eq.mpr c2;have c2b1 : (a0.toList != ([] : List UInt8)) = false := bne_eq_false_iff_eq.mpr c2;clear c2;obtain rfl := Option.some.inj H;simp only [eS,eP] at H;obtain ⟨rfl⟩ := H;go_enter Tryz.func216,Tryz.ntmps216;go_wp2;go_ret;exact ⟨vR_,wB_⟩
 ·rw [if_neg c2] at H;have c2b0 : (a0.toList == ([] : List UInt8)) = false := beq_eq_false_iff_ne.mpr c2;have c2b1 : (a0.toList != ([] : List UInt8)) = true := bne_iff_ne.mpr c2;obtain ⟨t373,A3,H⟩ := bE_ H;have H' := aM H;clear H;go_enter Tryz.func216,Tryz.ntmps216;go_wp2_with (first|((with_reducible refine gate_callee (f := 185) rfl ?_);refine gl_ (some 10) Tryz.func185 #[.string a0,.string (⟨#[32]⟩ : ByteArray)] ?_;(with_reducible refine (strings_Split.calls a0 (⟨#[32]⟩ : ByteArray) t373 _ ?side1 A3.out).mono ?_);(case side1 => exact Gm.below HG.out wB_);rintro e w4 ⟨v374,rfl,ho0,hb⟩;refine ⟨_,rfl,?_⟩;have HO375 := aM (Kd.R_lower ho0 (lZ wB_));replace HB := aM (lT wB_ hb);obtain ⟨Ao01,co01,eo01⟩ := Kd.R_slice HO375.out;subst eo01));go_loopg [13] k (fun kq v13 w' => ∃ (x13_1 : Int),v13 = .int .i64 x13_1 ∧ Aside0 (impl_isParticle.l0 kq t373 t373 (t373.length : Int) x13_1 = some r) ∧ Aside0 (kq ≤ k) ∧ Aside0 (Kd.R Kd.string 9 w' w.heap.size (fun _ => True) (.slice Ao01 t373.length co01) t373) ∧ Aside0 (Kd.R Kd.string 9 w' w.heap.size (fun _ => True) (.slice Ao01 t373.length co01) t373) ∧ Aside0 (Below w.heap.size w w'))
  case atStart => exact ⟨(0),vR_,H',⟨Nat.le_refl _⟩,⟨wO_ HO375.out⟩,⟨wO_ HO375.out⟩,⟨wB_⟩⟩
  case round =>
   clear H';obtain ⟨x13_1,rfl,HA,HK1,HO_3,HO_11,HB⟩ := hrel
   cases gk with
   | zero => exact absurd HA.out (by simp [impl_isParticle.l0])
   | succ k1 =>
    have H := HA.out;clear HA;simp only [impl_isParticle.l0] at H
    by_cases c6 : x13_1 < (t373.length : Int)
    focus
     rw [if_pos c6] at H;have c6b0 : decide (x13_1 < (t373.length : Int)) = true := dT c6;clear c6
     by_cases c7 : 0 ≤ x13_1
     rotate_left;rw [if_neg c7] at H;exact absurd H (by simp);rw [if_pos c7] at H;have c7b0 : decide (0 ≤ x13_1) = true := dT c7;clear c7
     by_cases c8 : x13_1 < (t373.length : Int)
     rotate_left;rw [if_neg c8] at H;exact absurd H (by simp);rw [if_pos c8] at H;have c8b0 : decide (x13_1 < (t373.length : Int)) = true := dT c8;clear c8;obtain ⟨t377,A9,H⟩ := bE_ H
     by_cases c10 : t377 = true
     focus
      subst c10;rw [if_pos rfl] at H;have H' := aM H;clear H
     rotate_left
     focus
      replace c10 := Bool.eq_false_iff.mpr c10;subst c10;rw [if_neg Bool.false_ne_true] at H;obtain rfl := Option.some.inj H;simp only [eS,eP] at H;obtain ⟨rfl⟩ := H
    rotate_left 2
    focus
     rw [if_neg c6] at H;have c6b0 : decide (x13_1 < (t373.length : Int)) = false := dF c6;clear c6;obtain rfl := Option.some.inj H;simp only [eS,eP] at H;obtain ⟨rfl⟩ := H
    all_goals
     (try (have p02 : 0 ≤ (x13_1 : Int) := oD (by assumption);have q02 : x13_1 < (t373.length : Int) := oD (by assumption);obtain ⟨ad02,e02,hx02_0⟩ := Kd.at_string (rR HO_11.out).2.2 x13_1 p02 q02;cases e02;replace p02 := eq_true p02;replace q02 := eq_true q02));go_wp2_with (first|((with_reducible refine gate_callee (f := 130) rfl ?_);refine gl_ (some 19) Tryz.func130 #[.int .i64 ((rdOf ByteArray.empty t373 x13_1).size : Int),.int .i64 1,.int .i64 12] ?_;(with_reducible refine (impl_inside.calls _ _ _ _ _ A9.out).mono ?_);rintro e w' ⟨rfl,⟨nd,rfl⟩⟩;refine ⟨_,rfl,?_⟩))
     first
      |
       go_ret;exact ⟨vR_,wB_⟩
      |
       go_loopg [6] k1 (fun kq v6 w' => ∃ (x6_2 : Int),v6 = .int .i64 x6_2 ∧ Aside0 (impl_isParticle.l1 kq t373 (rdOf ByteArray.empty t373 x13_1) x6_2 t373 (t373.length : Int) x13_1 = some r) ∧ Aside0 (kq ≤ k1) ∧ Aside0 (Kd.R Kd.string 9 w' w.heap.size (fun _ => True) (.slice (some ad02) t373.length co01) t373) ∧ Aside0 (Kd.R Kd.string 9 w' w.heap.size (fun _ => True) (.slice (some ad02) t373.length co01) t373) ∧ Aside0 (Below w.heap.size w w'))
       case atStart => exact ⟨(0),vR_,H',⟨Nat.le_refl _⟩,⟨wO_ HO_3.out⟩,⟨wO_ HO_11.out⟩,⟨wB_⟩⟩
       case round =>
        clear H';obtain ⟨x6_2,rfl,HA,HK2,HO_3,HO_11,HB⟩ := hrel
        cases gk with
        | zero => exact absurd HA.out (by simp [impl_isParticle.l1])
        | succ k2 =>
         have H := HA.out;clear HA;simp only [impl_isParticle.l1] at H
         by_cases c11 : x6_2 < ((rdOf ByteArray.empty t373 x13_1).size : Int)
         focus
          rw [if_pos c11] at H;have c11b0 : decide (x6_2 < ((rdOf ByteArray.empty t373 x13_1).size : Int)) = true := dT c11;clear c11
          by_cases c12 : 0 ≤ x6_2
          rotate_left;rw [if_neg c12] at H;exact absurd H (by simp);rw [if_pos c12] at H;have c12b0 : decide (0 ≤ x6_2) = true := dT c12;clear c12;obtain ⟨t378,A14,H⟩ := bE_ H
          by_cases c15 : t378 = true
          focus
           subst c15;rw [if_pos rfl] at H;have H' := aM H;clear H
          rotate_left
          focus
           replace c15 := Bool.eq_false_iff.mpr c15;subst c15;rw [if_neg Bool.false_ne_true] at H;obtain rfl := Option.some.inj H;simp only [eS,eP] at H;obtain ⟨rfl⟩ := H
         rotate_left 2
         focus
          rw [if_neg c11] at H;have c11b0 : decide (x6_2 < ((rdOf ByteArray.empty t373 x13_1).size : Int)) = false := dF c11;clear c11;have H' := aM H;clear H
         all_goals
          (try (have p01 : 0 ≤ (x6_2 : Int) := oD (by assumption);have q01 : x6_2 < ((rdOf ByteArray.empty t373 x13_1).size : Int) := oD (by assumption);have hx01 := bt_at (rdOf ByteArray.empty t373 x13_1) x6_2;replace p01 := eq_true p01;replace q01 := eq_true q01));go_wp2_with (first|((with_reducible refine gate_callee (f := 153) rfl ?_);refine gl_ (some 30) Tryz.func153 #[.int .u8 (bt (rdOf ByteArray.empty t373 x13_1) x6_2)] ?_;(with_reducible refine (impl_isLower.calls _ _ _ A14.out).mono ?_);rintro e w' ⟨rfl,⟨nd,rfl⟩⟩;refine ⟨_,rfl,?_⟩))
          first
           |
            go_ret;exact ⟨vR_,wB_⟩
           |
            go_roundg k2
            case measure => have := HK1.out;have := HK2.out;omega
            case rel => first|(exact ⟨(wrap64 (x6_2 + 1)),vR_,H',⟨by have := HK1.out;have := HK2.out;omega⟩,⟨wO_ HO_3.out⟩,⟨wO_ HO_11.out⟩,⟨wB_⟩⟩)|(exact ⟨(wrap64 (x13_1 + 1)),vR_,H',⟨by have := HK1.out;have := HK2.out;omega⟩,⟨wO_ HO_3.out⟩,⟨wO_ HO_11.out⟩,⟨wB_⟩⟩)
def slices_IndexFunc_string_string_214.l0 : Nat → List ByteArray → Int → Int → Option (Int)
 | 0,_,_,_ => none
 | k + 1,x0,x7,x8 => if x8 < x7 then (if 0 ≤ x8 then (if x8 < (x0.length : Int) then ((impl_IsValidName_1.f k (rdOf ByteArray.empty x0 x8)).bind fun t380 => (if t380 = true then (some x8) else (slices_IndexFunc_string_string_214.l0 k x0 x7 (wrap64 (x8 + 1))))) else (none)) else (none)) else (some (-1))
def slices_IndexFunc_string_string_214.f (k : Nat) (l0 : List ByteArray) (a1 : Int) : Option (Int) := slices_IndexFunc_string_string_214.l0 k l0 (l0.length : Int) 0
theorem slices_IndexFunc_string_string_214.mono_l : ∀ k,(∀ y0 y1 y2,LeO (slices_IndexFunc_string_string_214.l0 k y0 y1 y2) (slices_IndexFunc_string_string_214.l0 (k + 1) y0 y1 y2))
 | 0 => fun _ _ _ r h => by simp [slices_IndexFunc_string_string_214.l0] at h
 | k + 1 => by
  have ih0 := slices_IndexFunc_string_string_214.mono_l k
  ·intro y0 y1 y2
   unfold slices_IndexFunc_string_string_214.l0
   repeat' (first|with_reducible (first|exact ih0 _ _ _|exact impl_IsValidName_1.mono _ _|exact LeO.refl _|exact LeO.none _|refine LeO.ite ?_ ?_|refine LeO.bind ?_ (fun _ => ?_))|exact LeO.none _|refine LeO.ite ?_ ?_|refine LeO.bind ?_ (fun _ => ?_))
theorem slices_IndexFunc_string_string_214.mono : ∀ a0 a1 k,LeO (slices_IndexFunc_string_string_214.f k a0 a1) (slices_IndexFunc_string_string_214.f (k + 1) a0 a1) := by
 intro a0 a1 k
 have ih0 := slices_IndexFunc_string_string_214.mono_l k
 unfold slices_IndexFunc_string_string_214.f
 repeat' (first|with_reducible (first|exact ih0 _ _ _|exact impl_IsValidName_1.mono _ _|exact LeO.refl _|exact LeO.none _|refine LeO.ite ?_ ?_|refine LeO.bind ?_ (fun _ => ?_))|exact LeO.none _|refine LeO.ite ?_ ?_|refine LeO.bind ?_ (fun _ => ?_))
set_option maxHeartbeats 8000000 in
set_option maxRecDepth 100000 in
theorem slices_IndexFunc_string_string_214.calls (k : Nat) (A0 : Option Addr) (c0 : Nat) (l0 : List ByteArray) (a1 : Int) (r : Int) (w : World) (hr0 : Kd.C Kd.string w A0 l0.length l0) (hc0 : l0.length ≤ c0) (h : slices_IndexFunc_string_string_214.f k l0 a1 = some r) :
  Calls Tryz.prog 152 #[.slice A0 l0.length c0,.func (.func 214) #[] #[]] w fun e w' => e = .returned (.int .i64 r) ∧ Drawn0 w w' := by
 have HR0 := aM hr0;have HC0 := aM hc0;clear hr0 hc0;have H : (slices_IndexFunc_string_string_214.l0 k l0 (l0.length : Int) 0) = some r := h;clear h;have H' := aM H;clear H;go_enter Tryz.func152,Tryz.ntmps152;go_wp2;go_loopg [8] k (fun kq v8 w' => ∃ (x8_1 : Int),v8 = .int .i64 x8_1 ∧ Aside0 (slices_IndexFunc_string_string_214.l0 kq l0 (l0.length : Int) x8_1 = some r) ∧ Aside0 (kq ≤ k) ∧ Drawn0 w w')
 case atStart => exact ⟨(0),vR_,H',⟨Nat.le_refl _⟩,dw_⟩
 case round =>
  clear H';obtain ⟨x8_1,rfl,HA,HK1,⟨m1,rfl⟩⟩ := hrel
  cases gk with
  | zero => exact absurd HA.out (by simp [slices_IndexFunc_string_string_214.l0])
  | succ k1 =>
   have H := HA.out;clear HA;simp only [slices_IndexFunc_string_string_214.l0] at H
   by_cases c3 : x8_1 < (l0.length : Int)
   focus
    rw [if_pos c3] at H;have c3b0 : decide (x8_1 < (l0.length : Int)) = true := dT c3;clear c3
    by_cases c4 : 0 ≤ x8_1
    rotate_left;rw [if_neg c4] at H;exact absurd H (by simp);rw [if_pos c4] at H;have c4b0 : decide (0 ≤ x8_1) = true := dT c4;clear c4
    by_cases c5 : x8_1 < (l0.length : Int)
    rotate_left;rw [if_neg c5] at H;exact absurd H (by simp);rw [if_pos c5] at H;have c5b0 : decide (x8_1 < (l0.length : Int)) = true := dT c5;clear c5;obtain ⟨t380,A6,H⟩ := bE_ H
    by_cases c7 : t380 = true
    focus
     subst c7;rw [if_pos rfl] at H;obtain rfl := Option.some.inj H;simp only [eS,eP] at H;obtain ⟨rfl⟩ := H
    rotate_left
    focus
     replace c7 := Bool.eq_false_iff.mpr c7;subst c7;rw [if_neg Bool.false_ne_true] at H;have H' := aM H;clear H
   rotate_left 2
   focus
    rw [if_neg c3] at H;have c3b0 : decide (x8_1 < (l0.length : Int)) = false := dF c3;clear c3;obtain rfl := Option.some.inj H;simp only [eS,eP] at H;obtain ⟨rfl⟩ := H
   all_goals
    (try (have p01 : 0 ≤ (x8_1 : Int) := oD (by assumption);have q01 : x8_1 < (l0.length : Int) := oD (by assumption);obtain ⟨ad01,e01,hx01_0⟩ := Kd.at_string HR0.out x8_1 p01 q01;cases e01;replace p01 := eq_true p01;replace q01 := eq_true q01));go_wp2_with (first|(go_at_call 214;(with_reducible refine (impl_IsValidName_1.calls _ _ _ _ A6.out).mono ?_);rintro e w' ⟨rfl,⟨nd,rfl⟩⟩))
    first
     |
      go_ret;exact ⟨vR_,dw_⟩
     |
      go_roundg k1
      case measure => have := HK1.out;omega
      case rel => exact ⟨(wrap64 (x8_1 + 1)),vR_,H',⟨by have := HK1.out;omega⟩,dw_⟩
def slices_ContainsFunc_string_string_214.f (k : Nat) (l0 : List ByteArray) (a1 : Int) : Option (Bool) := (slices_IndexFunc_string_string_214.f k l0 a1).bind fun t381 => (some (decide (t381 ≥ 0)))
theorem slices_ContainsFunc_string_string_214.mono : ∀ a0 a1 k,LeO (slices_ContainsFunc_string_string_214.f k a0 a1) (slices_ContainsFunc_string_string_214.f (k + 1) a0 a1) := by
 intro a0 a1 k
 unfold slices_ContainsFunc_string_string_214.f
 repeat' (first|with_reducible (first|exact slices_IndexFunc_string_string_214.mono _ _ _|exact LeO.refl _|exact LeO.none _|refine LeO.ite ?_ ?_|refine LeO.bind ?_ (fun _ => ?_))|exact LeO.none _|refine LeO.ite ?_ ?_|refine LeO.bind ?_ (fun _ => ?_))
set_option maxHeartbeats 8000000 in
set_option maxRecDepth 100000 in
theorem slices_ContainsFunc_string_string_214.calls (k : Nat) (A0 : Option Addr) (c0 : Nat) (l0 : List ByteArray) (a1 : Int) (r : Bool) (w : World) (hr0 : Kd.C Kd.string w A0 l0.length l0) (hc0 : l0.length ≤ c0) (h : slices_ContainsFunc_string_string_214.f k l0 a1 = some r) :
  Calls Tryz.prog 99 #[.slice A0 l0.length c0,.func (.func 214) #[] #[]] w fun e w' => e = .returned (.bool r) ∧ Drawn0 w w' := by
 have HR0 := aM hr0;have HC0 := aM hc0;clear hr0 hc0;have H : ((slices_IndexFunc_string_string_214.f k l0 a1).bind fun t381 => (some (decide (t381 ≥ 0)))) = some r := h;clear h;obtain ⟨t381,A3,H⟩ := bE_ H;obtain rfl := Option.some.inj H;simp only [eS,eP] at H;obtain ⟨rfl⟩ := H;go_enter Tryz.func99,Tryz.ntmps99;go_wp2_with (first|((with_reducible refine gate_callee (f := 152) rfl ?_);refine gl_ (some 7) Tryz.func152 #[.slice A0 l0.length c0,.func (.func 214) #[] #[]] ?_;(with_reducible refine (slices_IndexFunc_string_string_214.calls k _ _ l0 a1 t381 _ ?side1 ?side2 A3.out).mono ?_);(case side1 => repeat (first|exact HR0.out|(with_reducible first|refine cA ?_ _|refine cN ?_ _|refine cD ?_)));(case side2 => exact HC0.out);rintro e w' ⟨rfl,⟨nd,rfl⟩⟩;refine ⟨_,rfl,?_⟩));go_ret;exact ⟨vR_,dw_⟩
def impl_IsValidName.j0 : Nat → Bool → List ByteArray → ByteArray → ByteArray → ByteArray → Option (Bool)
 | 0,_,_,_,_,_ => none
 | k + 1,x11,x383000,x383001,x383002,x383003 => if x11 = true then (some false) else ((impl_isParticle.f k x383001).bind fun t384 => (if t384 = true then ((impl_isGreatWord.f k x383002).bind fun t385 => (if t385 = true then (if x383003.toList = ([] : List UInt8) then (some true) else ((impl_isNameWord.f k x383003).bind fun t386 => (some t386))) else (some false))) else (some false)))
def impl_IsValidName.f (k : Nat) (l0_0 : List ByteArray) (a0_1 : ByteArray) (a0_2 : ByteArray) (a0_3 : ByteArray) : Option (Bool) := if (l0_0.length : Int) > 3 then (impl_IsValidName.j0 k true l0_0 a0_1 a0_2 a0_3) else ((slices_ContainsFunc_string_string_214.f k l0_0 0).bind fun t383 => (impl_IsValidName.j0 k t383 l0_0 a0_1 a0_2 a0_3))
theorem impl_IsValidName.mono_l : ∀ k,(∀ y0 y1 y2 y3 y4,LeO (impl_IsValidName.j0 k y0 y1 y2 y3 y4) (impl_IsValidName.j0 (k + 1) y0 y1 y2 y3 y4))
 | 0 => fun _ _ _ _ _ r h => by simp [impl_IsValidName.j0] at h
 | k + 1 => by
  have ih0 := impl_IsValidName.mono_l k
  ·intro y0 y1 y2 y3 y4
   unfold impl_IsValidName.j0
   repeat' (first|with_reducible (first|exact ih0 _ _ _ _ _|exact impl_isGreatWord.mono _ _|exact impl_isNameWord.mono _ _|exact impl_isParticle.mono _ _|exact slices_ContainsFunc_string_string_214.mono _ _ _|exact LeO.refl _|exact LeO.none _|refine LeO.ite ?_ ?_|refine LeO.bind ?_ (fun _ => ?_))|exact LeO.none _|refine LeO.ite ?_ ?_|refine LeO.bind ?_ (fun _ => ?_))
theorem impl_IsValidName.mono : ∀ a0 a1 a2 a3 k,LeO (impl_IsValidName.f k a0 a1 a2 a3) (impl_IsValidName.f (k + 1) a0 a1 a2 a3) := by
 intro a0 a1 a2 a3 k
 have ih0 := impl_IsValidName.mono_l k
 unfold impl_IsValidName.f
 repeat' (first|with_reducible (first|exact ih0 _ _ _ _ _|exact impl_isGreatWord.mono _ _|exact impl_isNameWord.mono _ _|exact impl_isParticle.mono _ _|exact slices_ContainsFunc_string_string_214.mono _ _ _|exact LeO.refl _|exact LeO.none _|refine LeO.ite ?_ ?_|refine LeO.bind ?_ (fun _ => ?_))|exact LeO.none _|refine LeO.ite ?_ ?_|refine LeO.bind ?_ (fun _ => ?_))
set_option maxHeartbeats 8000000 in
set_option maxRecDepth 100000 in
theorem impl_IsValidName.calls (k : Nat) (A0_0 : Option Addr) (c0_0 : Nat) (l0_0 : List ByteArray) (a0_1 : ByteArray) (a0_2 : ByteArray) (a0_3 : ByteArray) (r : Bool) (w : World) (hr0_0 : Kd.C Kd.string w A0_0 l0_0.length l0_0) (hc0_0 : l0_0.length ≤ c0_0) (hG : Gm w) (h : impl_IsValidName.f k l0_0 a0_1 a0_2 a0_3 = some r) :
  Calls Tryz.prog 167 #[.agg #[.slice A0_0 l0_0.length c0_0,.string a0_1,.string a0_2,.string a0_3]] w fun e w' => e = .returned (.bool r) ∧ Below w.heap.size w w' := by
 have hu157 := Tryz.underlying157;have HR0_0 := aM hr0_0;have HC0_0 := aM hc0_0;clear hr0_0 hc0_0;have HB := aM (Below.refl w.heap.size w);have HG := aM hG;clear hG;have H : (if (l0_0.length : Int) > 3 then (impl_IsValidName.j0 k true l0_0 a0_1 a0_2 a0_3) else ((slices_ContainsFunc_string_string_214.f k l0_0 0).bind fun t383 => (impl_IsValidName.j0 k t383 l0_0 a0_1 a0_2 a0_3))) = some r := h;clear h;have HC2 := aM H;clear H;go_enter Tryz.func167,Tryz.ntmps167;go_upto_region 1 with (first|((with_reducible refine gate_dst (N := 1) rfl ?_);refine bx_ (N := 1) (cs := #[.slice A0_0 l0_0.length c0_0,.string a0_1,.string a0_2,.string a0_3]) (t := 157) ?_;intro gb382 hg w3 hbox hb;have BK382 := aM (hbox);have GW382 := aM ((by rw [hg];exact (lZ wB_) : w.heap.size ≤ gb382));have GE382 := GW382;replace HB := aM (lT wB_ hb);clear hb hbox hg));(try simp only [Act.put,lI,sZ,sS]);go_cut [11] (fun v11 wc => ∃ (kq : Nat) (x11_1 : Bool),v11 = .bool x11_1 ∧ Aside0 (impl_IsValidName.j0 kq x11_1 l0_0 a0_1 a0_2 a0_3 = some r) ∧ Aside0 (kq ≤ k) ∧ Aside0 (wc.heap[gb382]? = some (.cells #[(.slice A0_0 l0_0.length c0_0),.string a0_1,.string a0_2,.string a0_3] 157 (0,0))) ∧ Aside0 (Below w.heap.size w wc))
 case first =>
  have H := HC2.out;clear HC2
  by_cases c4 : (l0_0.length : Int) > 3
  focus
   rw [if_pos c4] at H;have c4b0 : decide (3 < (l0_0.length : Int)) = true := dT c4;have c4b1 : decide (3 < l0_0.length) = true := dT (by omega);clear c4;(first|rw [c4b0]|(simp only [i64_w,i32_w];rw [c4b0])|skip);have H' := aM H;clear H
  rotate_left
  focus
   rw [if_neg c4] at H;have c4b0 : decide (3 < (l0_0.length : Int)) = false := dF c4;have c4b1 : decide (3 < l0_0.length) = false := dF (by omega);clear c4;(first|rw [c4b0]|(simp only [i64_w,i32_w];rw [c4b0])|skip);obtain ⟨t383,A6,H⟩ := bE_ H;have H' := aM H;clear H
  all_goals
   obtain ⟨hczx382_0,hczx382_1,hczx382_2,hczx382_3,hfzx382_0,hfzx382_1,hfzx382_2,hfzx382_3⟩ := z4_ BK382.out;go_wp2_with (first|(go_at_call 99;(with_reducible refine (slices_ContainsFunc_string_string_214.calls _ _ _ _ _ _ _ ?side1 ?side2 A6.out).mono ?_);(case side1 => exact wX_ HR0_0.out);(case side2 => exact HC0_0.out);rintro e w' ⟨rfl,⟨nd,rfl⟩⟩));go_meet
   case rel => first|(exact ⟨_,(true),vR_,H',⟨by first|omega|exact Nat.le_refl _⟩,⟨wC_ BK382.out⟩,⟨wB_⟩⟩)|(exact ⟨_,(t383),vR_,H',⟨by first|omega|exact Nat.le_refl _⟩,⟨wC_ BK382.out⟩,⟨wB_⟩⟩)
 case rest =>
  clear HC2;obtain ⟨kq,x11_1,rfl,HA,HJ1,BK382,HB⟩ := hcut
  cases kq with
  | zero => exact absurd HA.out (by simp [impl_IsValidName.j0])
  | succ kj1 =>
   have H := HA.out;clear HA;simp only [impl_IsValidName.j0] at H
   by_cases c8 : x11_1 = true
   focus
    subst c8;rw [if_pos rfl] at H;obtain rfl := Option.some.inj H;simp only [eS,eP] at H;obtain ⟨rfl⟩ := H
   rotate_left
   focus
    replace c8 := Bool.eq_false_iff.mpr c8;subst c8;rw [if_neg Bool.false_ne_true] at H;obtain ⟨t384,A9,H⟩ := bE_ H
    by_cases c10 : t384 = true
    focus
     subst c10;rw [if_pos rfl] at H;obtain ⟨t385,A11,H⟩ := bE_ H
     by_cases c12 : t385 = true
     focus
      subst c12;rw [if_pos rfl] at H
      by_cases c13 : a0_3.toList = ([] : List UInt8)
      focus
       rw [if_pos c13] at H;have c13b0 : (a0_3.toList == ([] : List UInt8)) = true := beq_iff_eq.mpr c13;have c13b1 : (a0_3.toList != ([] : List UInt8)) = false := bne_eq_false_iff_eq.mpr c13;clear c13;obtain rfl := Option.some.inj H;simp only [eS,eP] at H;obtain ⟨rfl⟩ := H
      rotate_left
      focus
       rw [if_neg c13] at H;have c13b0 : (a0_3.toList == ([] : List UInt8)) = false := beq_eq_false_iff_ne.mpr c13;have c13b1 : (a0_3.toList != ([] : List UInt8)) = true := bne_iff_ne.mpr c13;obtain ⟨t386,A17,H⟩ := bE_ H;obtain rfl := Option.some.inj H;simp only [eS,eP] at H;obtain ⟨rfl⟩ := H
     rotate_left 2
     focus
      replace c12 := Bool.eq_false_iff.mpr c12;subst c12;rw [if_neg Bool.false_ne_true] at H;obtain rfl := Option.some.inj H;simp only [eS,eP] at H;obtain ⟨rfl⟩ := H
    rotate_left 3
    focus
     replace c10 := Bool.eq_false_iff.mpr c10;subst c10;rw [if_neg Bool.false_ne_true] at H;obtain rfl := Option.some.inj H;simp only [eS,eP] at H;obtain ⟨rfl⟩ := H
   all_goals
    (try obtain ⟨hczx382_0,hczx382_1,hczx382_2,hczx382_3,hfzx382_0,hfzx382_1,hfzx382_2,hfzx382_3⟩ := z4_ BK382.out);go_wp2_with (first|((with_reducible refine gate_callee (f := 216) rfl ?_);refine gl_ (some 14) Tryz.func216 #[.string a0_1] ?_;(with_reducible refine (impl_isParticle.calls _ _ _ _ ?side1 A9.out).mono ?_);(case side1 => exact Gm.below HG.out wB_);rintro e WA9 ⟨rfl,hb⟩;refine ⟨_,rfl,?_⟩;replace BK382 := aM (bw_ BK382.out hb);replace HB := aM (lT wB_ hb);obtain ⟨hcz9x382_0,hcz9x382_1,hcz9x382_2,hcz9x382_3,hfz9x382_0,hfz9x382_1,hfz9x382_2,hfz9x382_3⟩ := z4_ BK382.out)|(go_at_call 215;(with_reducible refine (impl_isGreatWord.calls _ _ _ _ A11.out).mono ?_);rintro e w' ⟨rfl,⟨nd,rfl⟩⟩)|(go_at_call 217;(with_reducible refine (impl_isNameWord.calls _ _ _ _ A17.out).mono ?_);rintro e w' ⟨rfl,⟨nd,rfl⟩⟩));go_ret;exact ⟨vR_,wB_⟩
def impl_areNames_1.f (k : Nat) (l0_0 : List ByteArray) (a0_1 : ByteArray) (a0_2 : ByteArray) (a0_3 : ByteArray) : Option (Bool) := (impl_IsValidName.f k l0_0 a0_1 a0_2 a0_3).bind fun t388 => (some (!t388))
theorem impl_areNames_1.mono : ∀ a0 a1 a2 a3 k,LeO (impl_areNames_1.f k a0 a1 a2 a3) (impl_areNames_1.f (k + 1) a0 a1 a2 a3) := by
 intro a0 a1 a2 a3 k
 unfold impl_areNames_1.f
 repeat' (first|with_reducible (first|exact impl_IsValidName.mono _ _ _ _ _|exact LeO.refl _|exact LeO.none _|refine LeO.ite ?_ ?_|refine LeO.bind ?_ (fun _ => ?_))|exact LeO.none _|refine LeO.ite ?_ ?_|refine LeO.bind ?_ (fun _ => ?_))
set_option maxHeartbeats 8000000 in
set_option maxRecDepth 100000 in
theorem impl_areNames_1.calls (k : Nat) (A0_0 : Option Addr) (c0_0 : Nat) (l0_0 : List ByteArray) (a0_1 : ByteArray) (a0_2 : ByteArray) (a0_3 : ByteArray) (r : Bool) (w : World) (hr0_0 : Kd.C Kd.string w A0_0 l0_0.length l0_0) (hc0_0 : l0_0.length ≤ c0_0) (hG : Gm w) (h : impl_areNames_1.f k l0_0 a0_1 a0_2 a0_3 = some r) :
  Calls Tryz.prog 166 #[.agg #[.slice A0_0 l0_0.length c0_0,.string a0_1,.string a0_2,.string a0_3]] w fun e w' => e = .returned (.bool r) ∧ Below w.heap.size w w' := by
 have hu157 := Tryz.underlying157;have HR0_0 := aM hr0_0;have HC0_0 := aM hc0_0;clear hr0_0 hc0_0;have HB := aM (Below.refl w.heap.size w);have HG := aM hG;clear hG;have H : ((impl_IsValidName.f k l0_0 a0_1 a0_2 a0_3).bind fun t388 => (some (!t388))) = some r := h;clear h;obtain ⟨t388,A2,H⟩ := bE_ H;obtain rfl := Option.some.inj H;simp only [eS,eP] at H;obtain ⟨rfl⟩ := H;go_enter Tryz.func166,Tryz.ntmps166;go_wp2_with (first|((with_reducible refine gate_dst (N := 1) rfl ?_);refine bx_ (N := 1) (cs := #[.slice A0_0 l0_0.length c0_0,.string a0_1,.string a0_2,.string a0_3]) (t := 157) ?_;intro gb387 hg w3 hbox hb;have BK387 := aM (hbox);have GW387 := aM ((by rw [hg];exact (lZ wB_) : w.heap.size ≤ gb387));have GE387 := GW387;replace HB := aM (lT wB_ hb);clear hb hbox hg;obtain ⟨hcz4_0,hcz4_1,hcz4_2,hcz4_3,hfz4_0,hfz4_1,hfz4_2,hfz4_3⟩ := z4_ BK387.out)|((with_reducible refine gate_callee (f := 167) rfl ?_);refine gl_ (some 4) Tryz.func167 #[.agg #[.slice A0_0 l0_0.length c0_0,.string a0_1,.string a0_2,.string a0_3]] ?_;(with_reducible refine (impl_IsValidName.calls k _ _ l0_0 a0_1 a0_2 a0_3 t388 _ ?side1 ?side2 ?side3 A2.out).mono ?_);(case side1 => exact wX_ HR0_0.out);(case side2 => exact HC0_0.out);(case side3 => exact Gm.below HG.out wB_);rintro e w5 ⟨rfl,hb⟩;refine ⟨_,rfl,?_⟩;replace BK387 := aM (bw_ BK387.out hb);replace HB := aM (lT wB_ hb)));go_ret;exact ⟨vR_,wB_⟩
end Go.Proofs.YtmafmhgmdegplaaGreatDoor.P
