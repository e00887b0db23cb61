/- Written by a program in this session: each theorem here says that a Go function computes the Lean function beside it, or that a law's row holds, under the conditions that the theorem itself states. -/
import Derived.Test.YtbinfdheapjpnaaDoorZPx0
import Derived.Test.YtbinfdheapjpnaaDoorZShelf
namespace Go.Proofs.YtbinfdheapjpnaaDoor.P
open Go.RowKit Go.Proofs.YtbinfdheapjpnaaDoorW.PrintWords Go.Proofs.YtbinfdheapjpnaaDoorW.PrintLast Go.Proofs.YtbinfdheapjpnaaDoorW.PrintMore
attribute [local go_sem] max2_int min2_int max_two min_two max_three min_three max_four min_four   -- for this text's walks alone
set_option linter.unusedVariables false
set_option linter.unusedSimpArgs false
def spec_l1In.f (a0 : Int) (a1 : Int) (a2 : Int) : Option (Bool) := if a0 ≥ a1 then (some (decide (a0 ≤ a2))) else (some false)
set_option maxHeartbeats 8000000 in
set_option maxRecDepth 100000 in
theorem spec_l1In.calls (a0 : Int) (a1 : Int) (a2 : Int) (r : Bool) (w : World) (h : spec_l1In.f a0 a1 a2 = some r) :
  Calls Tryd.prog 21 #[.int .i64 a0,.int .i64 a1,.int .i64 a2] w fun e w' => e = .returned (.bool r) ∧ Drawn0 w w' := by
 have H : (if a0 ≥ a1 then (some (decide (a0 ≤ a2))) else (some false)) = some r := h;clear h
 by_cases c4 : a0 ≥ a1
 focus
  rw [if_pos c4] at H;have c4b0 : decide (a1 ≤ a0) = true := dT c4;clear c4;obtain rfl := Option.some.inj H;simp only [eS,eP] at H;obtain ⟨rfl⟩ := H
 rotate_left
 focus
  rw [if_neg c4] at H;have c4b0 : decide (a1 ≤ a0) = false := dF c4;clear c4;obtain rfl := Option.some.inj H;simp only [eS,eP] at H;obtain ⟨rfl⟩ := H
 all_goals
  go_enter Tryd.func21,Tryd.ntmps21;go_wp2;go_ret;exact ⟨by first|rfl|(simp [*];done),by repeat (first|exact Drawn0.refl _|apply Drawn0.step)⟩
def spec_l23Bytes.l0 : Nat → ByteArray → Int → Int → Int → Int → Option (Bool)
 | 0,_,_,_,_,_ => none
 | k + 1,x0,x1,x2,x3,x9 => if x9 < (x0.size : Int) then (if 0 ≤ x9 then (if (bt x0 x9) < x3 then (some false) else (if (bt x0 x9) > 126 then (some false) else (spec_l23Bytes.l0 k x0 x1 x2 x3 (wrap64 (x9 + 1))))) else (none)) else ((spec_l1In.f (x0.size : Int) x1 x2).bind fun t101 => (some t101))
def spec_l23Bytes.f (k : Nat) (a0 : ByteArray) (a1 : Int) (a2 : Int) (a3 : Int) : Option (Bool) := spec_l23Bytes.l0 k a0 a1 a2 a3 0
theorem spec_l23Bytes.mono_l : ∀ k,(∀ y0 y1 y2 y3 y4,LeO (spec_l23Bytes.l0 k y0 y1 y2 y3 y4) (spec_l23Bytes.l0 (k + 1) y0 y1 y2 y3 y4))
 | 0 => fun _ _ _ _ _ r h => by simp [spec_l23Bytes.l0] at h
 | k + 1 => by
  have ih0 := spec_l23Bytes.mono_l k
  ·intro y0 y1 y2 y3 y4
   unfold spec_l23Bytes.l0
   repeat' first
   | (with_reducible exact ih0 _ _ _ _ _)
   | (with_reducible exact LeO.refl _)
   | (with_reducible exact LeO.none _)
   | (with_reducible refine LeO.ite ?_ ?_)
   | (with_reducible refine LeO.bind ?_ (fun _ => ?_))
   | exact ih0 _ _ _ _ _
   | exact LeO.none _
   | refine LeO.ite ?_ ?_
   | refine LeO.bind ?_ (fun _ => ?_)
theorem spec_l23Bytes.mono : ∀ a0 a1 a2 a3 k,LeO (spec_l23Bytes.f k a0 a1 a2 a3) (spec_l23Bytes.f (k + 1) a0 a1 a2 a3) := by
 intro a0 a1 a2 a3 k
 have ih0 := spec_l23Bytes.mono_l k
 unfold spec_l23Bytes.f
 repeat' first
   | (with_reducible exact ih0 _ _ _ _ _)
   | (with_reducible exact LeO.refl _)
   | (with_reducible exact LeO.none _)
   | (with_reducible refine LeO.ite ?_ ?_)
   | (with_reducible refine LeO.bind ?_ (fun _ => ?_))
   | exact ih0 _ _ _ _ _
   | exact LeO.none _
   | refine LeO.ite ?_ ?_
   | refine LeO.bind ?_ (fun _ => ?_)
set_option maxHeartbeats 8000000 in
set_option maxRecDepth 100000 in
theorem spec_l23Bytes.calls (k : Nat) (a0 : ByteArray) (a1 : Int) (a2 : Int) (a3 : Int) (r : Bool) (w : World) (h : spec_l23Bytes.f k a0 a1 a2 a3 = some r) :
  Calls Tryd.prog 17 #[.string a0,.int .i64 a1,.int .i64 a2,.int .u8 a3] w fun e w' => e = .returned (.bool r) ∧ Drawn0 w w' := by
 have H : (spec_l23Bytes.l0 k a0 a1 a2 a3 0) = some r := h;clear h;have H' := aM H;clear H;go_enter Tryd.func17,Tryd.ntmps17;go_wp2;go_loopg [9] k (fun kq v9 w' => ∃ (x9_1 : Int),v9 = .int .i64 x9_1 ∧ Aside0 (spec_l23Bytes.l0 kq a0 a1 a2 a3 x9_1 = some r) ∧ Aside0 (kq ≤ k) ∧ Drawn0 w w')
 case atStart => exact ⟨(0),(by first|rfl|(simp [*];done)),H',⟨Nat.le_refl _⟩,by repeat (first|exact Drawn0.refl _|apply Drawn0.step)⟩
 case round =>
  clear H';(try clear c1);(try clear p2);obtain ⟨x9_1,rfl,HA,HK1,⟨m1,rfl⟩⟩ := hrel
  cases gk with
  | zero => exact absurd HA.out (by simp [spec_l23Bytes.l0])
  | succ k1 =>
   have H := HA.out;clear HA;simp only [spec_l23Bytes.l0] at H
   by_cases c5 : x9_1 < (a0.size : Int)
   focus
    rw [if_pos c5] at H;have c5b0 : decide (x9_1 < (a0.size : Int)) = true := dT c5;clear c5
    by_cases c6 : 0 ≤ x9_1
    rotate_left;rw [if_neg c6] at H;exact absurd H (by simp);rw [if_pos c6] at H;have c6b0 : decide (0 ≤ x9_1) = true := dT c6;clear c6
    by_cases c8 : (bt a0 x9_1) < a3
    focus
     rw [if_pos c8] at H;have c8b0 : decide ((bt a0 x9_1) < a3) = true := dT c8;clear c8;obtain rfl := Option.some.inj H;simp only [eS,eP] at H;obtain ⟨rfl⟩ := H
    rotate_left
    focus
     rw [if_neg c8] at H;have c8b0 : decide ((bt a0 x9_1) < a3) = false := dF c8;clear c8
     by_cases c10 : (bt a0 x9_1) > 126
     focus
      rw [if_pos c10] at H;have c10b0 : decide (126 < (bt a0 x9_1)) = true := dT c10;clear c10;obtain rfl := Option.some.inj H;simp only [eS,eP] at H;obtain ⟨rfl⟩ := H
     rotate_left
     focus
      rw [if_neg c10] at H;have c10b0 : decide (126 < (bt a0 x9_1)) = false := dF c10;clear c10;have H' := aM H;clear H
   rotate_left 3
   focus
    rw [if_neg c5] at H;have c5b0 : decide (x9_1 < (a0.size : Int)) = false := dF c5;clear c5;obtain ⟨t101,A11,H⟩ := bE_ H;obtain rfl := Option.some.inj H;simp only [eS,eP] at H;obtain ⟨rfl⟩ := H
   all_goals
    (try (have p01 : 0 ≤ (x9_1 : Int) := oD (by assumption);have q01 : x9_1 < (a0.size : Int) := oD (by assumption);have hx01 := bt_at a0 x9_1;replace p01 := eq_true p01;replace q01 := eq_true q01));go_wp2_with (first|((with_reducible refine gate_callee (f := 21) rfl ?_);refine goesL_ (some 31) rfl rfl Tryd.func21 (by kernel_rfl) rfl #[.int .i64 (a0.size : Int),.int .i64 a1,.int .i64 a2] rfl (by (try simp only [mT,mC,mN]);first|done|rfl|(simp only [xD,xT];rfl)) ?_;(with_reducible refine (spec_l1In.calls _ _ _ _ _ A11.out).mono ?_);rintro e w' ⟨rfl,⟨nd,rfl⟩⟩;refine ⟨_,rfl,?_⟩))
    first
     |
      go_ret;exact ⟨by first|rfl|(simp [*];done),by repeat (first|exact Drawn0.refl _|apply Drawn0.step)⟩
     |
      go_roundg k1
      case measure => have := HK1.out;omega
      case rel => exact ⟨(wrap64 (x9_1 + 1)),(by first|rfl|(simp [*];done)),H',⟨by have := HK1.out;omega⟩,by repeat (first|exact Drawn0.refl _|apply Drawn0.step)⟩
def spec_l25Cell.l0 : Nat → ByteArray → ByteArray → Bool → Int → Option (ByteArray)
 | 0,_,_,_,_ => none
 | k + 1,x0,x3,x4,x5 => if x5 < (x0.size : Int) then (if x4 = true then (if 0 ≤ x5 then (if (bt x0 x5) = 34 then (if x3.size + 1 ≤ 9223372036854775807 then (if x5 ≤ (wrap64 (x5 + 1)) then (if (wrap64 (x5 + 1)) ≤ (x0.size : Int) then (if (x3 ++ (⟨#[34]⟩ : ByteArray)).size + (x0.extract (x5 : Int).toNat ((wrap64 (x5 + 1)) : Int).toNat).size ≤ 9223372036854775807 then (spec_l25Cell.l0 k x0 ((x3 ++ (⟨#[34]⟩ : ByteArray)) ++ (x0.extract (x5 : Int).toNat ((wrap64 (x5 + 1)) : Int).toNat)) true (wrap64 (x5 + 1))) else (none)) else (none)) else (none)) else (none)) else (if x5 ≤ (wrap64 (x5 + 1)) then (if (wrap64 (x5 + 1)) ≤ (x0.size : Int) then (if x3.size + (x0.extract (x5 : Int).toNat ((wrap64 (x5 + 1)) : Int).toNat).size ≤ 9223372036854775807 then (spec_l25Cell.l0 k x0 (x3 ++ (x0.extract (x5 : Int).toNat ((wrap64 (x5 + 1)) : Int).toNat)) true (wrap64 (x5 + 1))) else (none)) else (none)) else (none))) else (none)) else (if 0 ≤ x5 then (if (bt x0 x5) = 44 then (if (bt x0 x5) = 34 then (if x3.size + 1 ≤ 9223372036854775807 then (if x5 ≤ (wrap64 (x5 + 1)) then (if (wrap64 (x5 + 1)) ≤ (x0.size : Int) then (if (x3 ++ (⟨#[34]⟩ : ByteArray)).size + (x0.extract (x5 : Int).toNat ((wrap64 (x5 + 1)) : Int).toNat).size ≤ 9223372036854775807 then (spec_l25Cell.l0 k x0 ((x3 ++ (⟨#[34]⟩ : ByteArray)) ++ (x0.extract (x5 : Int).toNat ((wrap64 (x5 + 1)) : Int).toNat)) true (wrap64 (x5 + 1))) else (none)) else (none)) else (none)) else (none)) else (if x5 ≤ (wrap64 (x5 + 1)) then (if (wrap64 (x5 + 1)) ≤ (x0.size : Int) then (if x3.size + (x0.extract (x5 : Int).toNat ((wrap64 (x5 + 1)) : Int).toNat).size ≤ 9223372036854775807 then (spec_l25Cell.l0 k x0 (x3 ++ (x0.extract (x5 : Int).toNat ((wrap64 (x5 + 1)) : Int).toNat)) true (wrap64 (x5 + 1))) else (none)) else (none)) else (none))) else (if (bt x0 x5) = 34 then (if x3.size + 1 ≤ 9223372036854775807 then (if x5 ≤ (wrap64 (x5 + 1)) then (if (wrap64 (x5 + 1)) ≤ (x0.size : Int) then (if (x3 ++ (⟨#[34]⟩ : ByteArray)).size + (x0.extract (x5 : Int).toNat ((wrap64 (x5 + 1)) : Int).toNat).size ≤ 9223372036854775807 then (spec_l25Cell.l0 k x0 ((x3 ++ (⟨#[34]⟩ : ByteArray)) ++ (x0.extract (x5 : Int).toNat ((wrap64 (x5 + 1)) : Int).toNat)) ((bt x0 x5) == 34) (wrap64 (x5 + 1))) else (none)) else (none)) else (none)) else (none)) else (if x5 ≤ (wrap64 (x5 + 1)) then (if (wrap64 (x5 + 1)) ≤ (x0.size : Int) then (if x3.size + (x0.extract (x5 : Int).toNat ((wrap64 (x5 + 1)) : Int).toNat).size ≤ 9223372036854775807 then (spec_l25Cell.l0 k x0 (x3 ++ (x0.extract (x5 : Int).toNat ((wrap64 (x5 + 1)) : Int).toNat)) ((bt x0 x5) == 34) (wrap64 (x5 + 1))) else (none)) else (none)) else (none)))) else (none))) else (if x4 = true then (if 1 + x3.size ≤ 9223372036854775807 then (if ((⟨#[34]⟩ : ByteArray) ++ x3).size + 1 ≤ 9223372036854775807 then (some (((⟨#[34]⟩ : ByteArray) ++ x3) ++ (⟨#[34]⟩ : ByteArray))) else (none)) else (none)) else (some x0))
def spec_l25Cell.f (k : Nat) (a0 : ByteArray) : Option (ByteArray) := spec_l25Cell.l0 k a0 (⟨#[]⟩ : ByteArray) false 0
theorem spec_l25Cell.mono_l : ∀ k,(∀ y0 y1 y2 y3,LeO (spec_l25Cell.l0 k y0 y1 y2 y3) (spec_l25Cell.l0 (k + 1) y0 y1 y2 y3))
 | 0 => fun _ _ _ _ r h => by simp [spec_l25Cell.l0] at h
 | k + 1 => by
  have ih0 := spec_l25Cell.mono_l k
  ·intro y0 y1 y2 y3
   unfold spec_l25Cell.l0
   repeat' first
   | (with_reducible exact ih0 _ _ _ _)
   | (with_reducible exact LeO.refl _)
   | (with_reducible exact LeO.none _)
   | (with_reducible refine LeO.ite ?_ ?_)
   | (with_reducible refine LeO.bind ?_ (fun _ => ?_))
   | exact ih0 _ _ _ _
   | exact LeO.none _
   | refine LeO.ite ?_ ?_
   | refine LeO.bind ?_ (fun _ => ?_)
theorem spec_l25Cell.mono : ∀ a0 k,LeO (spec_l25Cell.f k a0) (spec_l25Cell.f (k + 1) a0) := by
 intro a0 k
 have ih0 := spec_l25Cell.mono_l k
 unfold spec_l25Cell.f
 repeat' first
   | (with_reducible exact ih0 _ _ _ _)
   | (with_reducible exact LeO.refl _)
   | (with_reducible exact LeO.none _)
   | (with_reducible refine LeO.ite ?_ ?_)
   | (with_reducible refine LeO.bind ?_ (fun _ => ?_))
   | exact ih0 _ _ _ _
   | exact LeO.none _
   | refine LeO.ite ?_ ?_
   | refine LeO.bind ?_ (fun _ => ?_)
set_option maxHeartbeats 8000000 in
set_option maxRecDepth 100000 in
theorem spec_l25Cell.calls (k : Nat) (a0 : ByteArray) (r : ByteArray) (w : World) (h : spec_l25Cell.f k a0 = some r) :
  Calls Tryd.prog 18 #[.string a0] w fun e w' => e = .returned (.string r) ∧ Drawn0 w w' := by
 have H : (spec_l25Cell.l0 k a0 (⟨#[]⟩ : ByteArray) false 0) = some r := h;clear h;have H' := aM H;clear H;go_enter Tryd.func18,Tryd.ntmps18;go_wp2;go_loopg [3,4,5] k (fun kq v3 v4 v5 w' => ∃ (x3_1 : ByteArray) (x4_1 : Bool) (x5_1 : Int),v3 = .string x3_1 ∧ v4 = .bool x4_1 ∧ v5 = .int .i64 x5_1 ∧ Aside0 (spec_l25Cell.l0 kq a0 x3_1 x4_1 x5_1 = some r) ∧ Aside0 (kq ≤ k) ∧ Drawn0 w w')
 case atStart => exact ⟨((⟨#[]⟩ : ByteArray)),(false),(0),(by first|rfl|(simp [*];done)),(by first|rfl|(simp [*];done)),(by first|rfl|(simp [*];done)),H',⟨Nat.le_refl _⟩,by repeat (first|exact Drawn0.refl _|apply Drawn0.step)⟩
 case round =>
  clear H';(try clear c1);obtain ⟨x3_1,x4_1,x5_1,rfl,rfl,rfl,HA,HK1,⟨m1,rfl⟩⟩ := hrel
  cases gk with
  | zero => exact absurd HA.out (by simp [spec_l25Cell.l0])
  | succ k1 =>
   have H := HA.out;clear HA;simp only [spec_l25Cell.l0] at H
   by_cases c2 : x5_1 < (a0.size : Int)
   focus
    rw [if_pos c2] at H;have c2b0 : decide (x5_1 < (a0.size : Int)) = true := dT c2;clear c2
    by_cases c3 : x4_1 = true
    focus
     subst c3;rw [if_pos rfl] at H
     by_cases c4 : 0 ≤ x5_1
     rotate_left;rw [if_neg c4] at H;exact absurd H (by simp);rw [if_pos c4] at H;have c4b0 : decide (0 ≤ x5_1) = true := dT c4;clear c4
     by_cases c6 : (bt a0 x5_1) = 34
     focus
      rw [if_pos c6] at H;have c6b0 : ((bt a0 x5_1) == 34) = true := beq_iff_eq.mpr c6;have c6b1 : ((bt a0 x5_1) != 34) = false := bne_eq_false_iff_eq.mpr c6;clear c6
      by_cases c7 : x3_1.size + 1 ≤ 9223372036854775807
      rotate_left;rw [if_neg c7] at H;exact absurd H (by simp);rw [if_pos c7] at H;have c7b0 := eq_true c7;have c7b1 : decide (x3_1.size + 1 ≤ 9223372036854775807) = true := dT c7;(try have c7b2 : (9223372036854775807 < x3_1.size + 1) = False := eq_false (Nat.not_lt.2 c7));have c8b0 := eq_true (oD (by assumption) : 0 ≤ x5_1)
      by_cases c9 : x5_1 ≤ (wrap64 (x5_1 + 1))
      rotate_left;rw [if_neg c9] at H;exact absurd H (by simp);rw [if_pos c9] at H;have c9b0 := eq_true c9;have c9b1 : decide (x5_1 ≤ (wrap64 (x5_1 + 1))) = true := dT c9
      by_cases c10 : (wrap64 (x5_1 + 1)) ≤ (a0.size : Int)
      rotate_left;rw [if_neg c10] at H;exact absurd H (by simp);rw [if_pos c10] at H;have c10b0 := eq_true c10;have c10b1 : decide ((wrap64 (x5_1 + 1)) ≤ (a0.size : Int)) = true := dT c10
      by_cases c11 : (x3_1 ++ (⟨#[34]⟩ : ByteArray)).size + (a0.extract (x5_1 : Int).toNat ((wrap64 (x5_1 + 1)) : Int).toNat).size ≤ 9223372036854775807
      rotate_left;rw [if_neg c11] at H;exact absurd H (by simp);rw [if_pos c11] at H;have c11b0 := eq_true c11;have c11b1 : decide ((x3_1 ++ (⟨#[34]⟩ : ByteArray)).size + (a0.extract (x5_1 : Int).toNat ((wrap64 (x5_1 + 1)) : Int).toNat).size ≤ 9223372036854775807) = true := dT c11;(try have c11b3 : (9223372036854775807 < x3_1.size + 1 + ((a0.extract (x5_1 : Int).toNat ((wrap64 (x5_1 + 1)) : Int).toNat).size)) = False := eq_false (by have h_ := c11;simp only [ByteArray.size_append,ByteArray.size_extract] at h_;have hs0_ : (⟨#[34]⟩ : ByteArray).size = 1 := rfl;omega));(try have c11b4 : (9223372036854775807 < x3_1.size + 1 + ((min ((wrap64 (x5_1 + 1)) : Int).toNat a0.size - (x5_1 : Int).toNat))) = False := eq_false (by have h_ := c11;simp only [ByteArray.size_append,ByteArray.size_extract] at h_;have hs0_ : (⟨#[34]⟩ : ByteArray).size = 1 := rfl;omega));(try have c11b2 : (9223372036854775807 < (x3_1 ++ (⟨#[34]⟩ : ByteArray)).size + (a0.extract (x5_1 : Int).toNat ((wrap64 (x5_1 + 1)) : Int).toNat).size) = False := eq_false (Nat.not_lt.2 c11));have H' := aM H;clear H
     rotate_left
     focus
      rw [if_neg c6] at H;have c6b0 : ((bt a0 x5_1) == 34) = false := beq_eq_false_iff_ne.mpr c6;have c6b1 : ((bt a0 x5_1) != 34) = true := bne_iff_ne.mpr c6;have c12b0 := eq_true (oD (by assumption) : 0 ≤ x5_1)
      by_cases c13 : x5_1 ≤ (wrap64 (x5_1 + 1))
      rotate_left;rw [if_neg c13] at H;exact absurd H (by simp);rw [if_pos c13] at H;have c13b0 := eq_true c13;have c13b1 : decide (x5_1 ≤ (wrap64 (x5_1 + 1))) = true := dT c13
      by_cases c14 : (wrap64 (x5_1 + 1)) ≤ (a0.size : Int)
      rotate_left;rw [if_neg c14] at H;exact absurd H (by simp);rw [if_pos c14] at H;have c14b0 := eq_true c14;have c14b1 : decide ((wrap64 (x5_1 + 1)) ≤ (a0.size : Int)) = true := dT c14
      by_cases c15 : x3_1.size + (a0.extract (x5_1 : Int).toNat ((wrap64 (x5_1 + 1)) : Int).toNat).size ≤ 9223372036854775807
      rotate_left;rw [if_neg c15] at H;exact absurd H (by simp);rw [if_pos c15] at H;have c15b0 := eq_true c15;have c15b1 : decide (x3_1.size + (a0.extract (x5_1 : Int).toNat ((wrap64 (x5_1 + 1)) : Int).toNat).size ≤ 9223372036854775807) = true := dT c15;(try have c15b3 : (9223372036854775807 < x3_1.size + ((a0.extract (x5_1 : Int).toNat ((wrap64 (x5_1 + 1)) : Int).toNat).size)) = False := eq_false (by have h_ := c15;simp only [ByteArray.size_append,ByteArray.size_extract] at h_;omega));(try have c15b4 : (9223372036854775807 < x3_1.size + ((min ((wrap64 (x5_1 + 1)) : Int).toNat a0.size - (x5_1 : Int).toNat))) = False := eq_false (by have h_ := c15;simp only [ByteArray.size_append,ByteArray.size_extract] at h_;omega));(try have c15b2 : (9223372036854775807 < x3_1.size + (a0.extract (x5_1 : Int).toNat ((wrap64 (x5_1 + 1)) : Int).toNat).size) = False := eq_false (Nat.not_lt.2 c15));have H' := aM H;clear H
    rotate_left 2
    focus
     replace c3 := Bool.eq_false_iff.mpr c3;subst c3;rw [if_neg Bool.false_ne_true] at H
     by_cases c16 : 0 ≤ x5_1
     rotate_left;rw [if_neg c16] at H;exact absurd H (by simp);rw [if_pos c16] at H;have c16b0 : decide (0 ≤ x5_1) = true := dT c16;clear c16
     by_cases c18 : (bt a0 x5_1) = 44
     focus
      rw [if_pos c18] at H;have c18b0 : ((bt a0 x5_1) == 44) = true := beq_iff_eq.mpr c18;have c18b1 : ((bt a0 x5_1) != 44) = false := bne_eq_false_iff_eq.mpr c18;clear c18
      by_cases c20 : (bt a0 x5_1) = 34
      focus
       rw [if_pos c20] at H;have c20b0 : ((bt a0 x5_1) == 34) = true := beq_iff_eq.mpr c20;have c20b1 : ((bt a0 x5_1) != 34) = false := bne_eq_false_iff_eq.mpr c20;clear c20
       by_cases c21 : x3_1.size + 1 ≤ 9223372036854775807
       rotate_left;rw [if_neg c21] at H;exact absurd H (by simp);rw [if_pos c21] at H;have c21b0 := eq_true c21;have c21b1 : decide (x3_1.size + 1 ≤ 9223372036854775807) = true := dT c21;(try have c21b2 : (9223372036854775807 < x3_1.size + 1) = False := eq_false (Nat.not_lt.2 c21));have c22b0 := eq_true (oD (by assumption) : 0 ≤ x5_1)
       by_cases c23 : x5_1 ≤ (wrap64 (x5_1 + 1))
       rotate_left;rw [if_neg c23] at H;exact absurd H (by simp);rw [if_pos c23] at H;have c23b0 := eq_true c23;have c23b1 : decide (x5_1 ≤ (wrap64 (x5_1 + 1))) = true := dT c23
       by_cases c24 : (wrap64 (x5_1 + 1)) ≤ (a0.size : Int)
       rotate_left;rw [if_neg c24] at H;exact absurd H (by simp);rw [if_pos c24] at H;have c24b0 := eq_true c24;have c24b1 : decide ((wrap64 (x5_1 + 1)) ≤ (a0.size : Int)) = true := dT c24
       by_cases c25 : (x3_1 ++ (⟨#[34]⟩ : ByteArray)).size + (a0.extract (x5_1 : Int).toNat ((wrap64 (x5_1 + 1)) : Int).toNat).size ≤ 9223372036854775807
       rotate_left;rw [if_neg c25] at H;exact absurd H (by simp);rw [if_pos c25] at H;have c25b0 := eq_true c25;have c25b1 : decide ((x3_1 ++ (⟨#[34]⟩ : ByteArray)).size + (a0.extract (x5_1 : Int).toNat ((wrap64 (x5_1 + 1)) : Int).toNat).size ≤ 9223372036854775807) = true := dT c25;(try have c25b3 : (9223372036854775807 < x3_1.size + 1 + ((a0.extract (x5_1 : Int).toNat ((wrap64 (x5_1 + 1)) : Int).toNat).size)) = False := eq_false (by have h_ := c25;simp only [ByteArray.size_append,ByteArray.size_extract] at h_;have hs0_ : (⟨#[34]⟩ : ByteArray).size = 1 := rfl;omega));(try have c25b4 : (9223372036854775807 < x3_1.size + 1 + ((min ((wrap64 (x5_1 + 1)) : Int).toNat a0.size - (x5_1 : Int).toNat))) = False := eq_false (by have h_ := c25;simp only [ByteArray.size_append,ByteArray.size_extract] at h_;have hs0_ : (⟨#[34]⟩ : ByteArray).size = 1 := rfl;omega));(try have c25b2 : (9223372036854775807 < (x3_1 ++ (⟨#[34]⟩ : ByteArray)).size + (a0.extract (x5_1 : Int).toNat ((wrap64 (x5_1 + 1)) : Int).toNat).size) = False := eq_false (Nat.not_lt.2 c25));have H' := aM H;clear H
      rotate_left
      focus
       rw [if_neg c20] at H;have c20b0 : ((bt a0 x5_1) == 34) = false := beq_eq_false_iff_ne.mpr c20;have c20b1 : ((bt a0 x5_1) != 34) = true := bne_iff_ne.mpr c20;have c26b0 := eq_true (oD (by assumption) : 0 ≤ x5_1)
       by_cases c27 : x5_1 ≤ (wrap64 (x5_1 + 1))
       rotate_left;rw [if_neg c27] at H;exact absurd H (by simp);rw [if_pos c27] at H;have c27b0 := eq_true c27;have c27b1 : decide (x5_1 ≤ (wrap64 (x5_1 + 1))) = true := dT c27
       by_cases c28 : (wrap64 (x5_1 + 1)) ≤ (a0.size : Int)
       rotate_left;rw [if_neg c28] at H;exact absurd H (by simp);rw [if_pos c28] at H;have c28b0 := eq_true c28;have c28b1 : decide ((wrap64 (x5_1 + 1)) ≤ (a0.size : Int)) = true := dT c28
       by_cases c29 : x3_1.size + (a0.extract (x5_1 : Int).toNat ((wrap64 (x5_1 + 1)) : Int).toNat).size ≤ 9223372036854775807
       rotate_left;rw [if_neg c29] at H;exact absurd H (by simp);rw [if_pos c29] at H;have c29b0 := eq_true c29;have c29b1 : decide (x3_1.size + (a0.extract (x5_1 : Int).toNat ((wrap64 (x5_1 + 1)) : Int).toNat).size ≤ 9223372036854775807) = true := dT c29;(try have c29b3 : (9223372036854775807 < x3_1.size + ((a0.extract (x5_1 : Int).toNat ((wrap64 (x5_1 + 1)) : Int).toNat).size)) = False := eq_false (by have h_ := c29;simp only [ByteArray.size_append,ByteArray.size_extract] at h_;omega));(try have c29b4 : (9223372036854775807 < x3_1.size + ((min ((wrap64 (x5_1 + 1)) : Int).toNat a0.size - (x5_1 : Int).toNat))) = False := eq_false (by have h_ := c29;simp only [ByteArray.size_append,ByteArray.size_extract] at h_;omega));(try have c29b2 : (9223372036854775807 < x3_1.size + (a0.extract (x5_1 : Int).toNat ((wrap64 (x5_1 + 1)) : Int).toNat).size) = False := eq_false (Nat.not_lt.2 c29));have H' := aM H;clear H
     rotate_left 2
     focus
      rw [if_neg c18] at H;have c18b0 : ((bt a0 x5_1) == 44) = false := beq_eq_false_iff_ne.mpr c18;have c18b1 : ((bt a0 x5_1) != 44) = true := bne_iff_ne.mpr c18
      by_cases c32 : (bt a0 x5_1) = 34
      focus
       rw [if_pos c32] at H;have c32b0 : ((bt a0 x5_1) == 34) = true := beq_iff_eq.mpr c32;have c32b1 : ((bt a0 x5_1) != 34) = false := bne_eq_false_iff_eq.mpr c32;clear c32
       by_cases c33 : x3_1.size + 1 ≤ 9223372036854775807
       rotate_left;rw [if_neg c33] at H;exact absurd H (by simp);rw [if_pos c33] at H;have c33b0 := eq_true c33;have c33b1 : decide (x3_1.size + 1 ≤ 9223372036854775807) = true := dT c33;(try have c33b2 : (9223372036854775807 < x3_1.size + 1) = False := eq_false (Nat.not_lt.2 c33));have c34b0 := eq_true (oD (by assumption) : 0 ≤ x5_1)
       by_cases c35 : x5_1 ≤ (wrap64 (x5_1 + 1))
       rotate_left;rw [if_neg c35] at H;exact absurd H (by simp);rw [if_pos c35] at H;have c35b0 := eq_true c35;have c35b1 : decide (x5_1 ≤ (wrap64 (x5_1 + 1))) = true := dT c35
       by_cases c36 : (wrap64 (x5_1 + 1)) ≤ (a0.size : Int)
       rotate_left;rw [if_neg c36] at H;exact absurd H (by simp);rw [if_pos c36] at H;have c36b0 := eq_true c36;have c36b1 : decide ((wrap64 (x5_1 + 1)) ≤ (a0.size : Int)) = true := dT c36
       by_cases c37 : (x3_1 ++ (⟨#[34]⟩ : ByteArray)).size + (a0.extract (x5_1 : Int).toNat ((wrap64 (x5_1 + 1)) : Int).toNat).size ≤ 9223372036854775807
       rotate_left;rw [if_neg c37] at H;exact absurd H (by simp);rw [if_pos c37] at H;have c37b0 := eq_true c37;have c37b1 : decide ((x3_1 ++ (⟨#[34]⟩ : ByteArray)).size + (a0.extract (x5_1 : Int).toNat ((wrap64 (x5_1 + 1)) : Int).toNat).size ≤ 9223372036854775807) = true := dT c37;(try have c37b3 : (9223372036854775807 < x3_1.size + 1 + ((a0.extract (x5_1 : Int).toNat ((wrap64 (x5_1 + 1)) : Int).toNat).size)) = False := eq_false (by have h_ := c37;simp only [ByteArray.size_append,ByteArray.size_extract] at h_;have hs0_ : (⟨#[34]⟩ : ByteArray).size = 1 := rfl;omega));(try have c37b4 : (9223372036854775807 < x3_1.size + 1 + ((min ((wrap64 (x5_1 + 1)) : Int).toNat a0.size - (x5_1 : Int).toNat))) = False := eq_false (by have h_ := c37;simp only [ByteArray.size_append,ByteArray.size_extract] at h_;have hs0_ : (⟨#[34]⟩ : ByteArray).size = 1 := rfl;omega));(try have c37b2 : (9223372036854775807 < (x3_1 ++ (⟨#[34]⟩ : ByteArray)).size + (a0.extract (x5_1 : Int).toNat ((wrap64 (x5_1 + 1)) : Int).toNat).size) = False := eq_false (Nat.not_lt.2 c37));have H' := aM H;clear H
      rotate_left
      focus
       rw [if_neg c32] at H;have c32b0 : ((bt a0 x5_1) == 34) = false := beq_eq_false_iff_ne.mpr c32;have c32b1 : ((bt a0 x5_1) != 34) = true := bne_iff_ne.mpr c32;have c38b0 := eq_true (oD (by assumption) : 0 ≤ x5_1)
       by_cases c39 : x5_1 ≤ (wrap64 (x5_1 + 1))
       rotate_left;rw [if_neg c39] at H;exact absurd H (by simp);rw [if_pos c39] at H;have c39b0 := eq_true c39;have c39b1 : decide (x5_1 ≤ (wrap64 (x5_1 + 1))) = true := dT c39
       by_cases c40 : (wrap64 (x5_1 + 1)) ≤ (a0.size : Int)
       rotate_left;rw [if_neg c40] at H;exact absurd H (by simp);rw [if_pos c40] at H;have c40b0 := eq_true c40;have c40b1 : decide ((wrap64 (x5_1 + 1)) ≤ (a0.size : Int)) = true := dT c40
       by_cases c41 : x3_1.size + (a0.extract (x5_1 : Int).toNat ((wrap64 (x5_1 + 1)) : Int).toNat).size ≤ 9223372036854775807
       rotate_left;rw [if_neg c41] at H;exact absurd H (by simp);rw [if_pos c41] at H;have c41b0 := eq_true c41;have c41b1 : decide (x3_1.size + (a0.extract (x5_1 : Int).toNat ((wrap64 (x5_1 + 1)) : Int).toNat).size ≤ 9223372036854775807) = true := dT c41;(try have c41b3 : (9223372036854775807 < x3_1.size + ((a0.extract (x5_1 : Int).toNat ((wrap64 (x5_1 + 1)) : Int).toNat).size)) = False := eq_false (by have h_ := c41;simp only [ByteArray.size_append,ByteArray.size_extract] at h_;omega));(try have c41b4 : (9223372036854775807 < x3_1.size + ((min ((wrap64 (x5_1 + 1)) : Int).toNat a0.size - (x5_1 : Int).toNat))) = False := eq_false (by have h_ := c41;simp only [ByteArray.size_append,ByteArray.size_extract] at h_;omega));(try have c41b2 : (9223372036854775807 < x3_1.size + (a0.extract (x5_1 : Int).toNat ((wrap64 (x5_1 + 1)) : Int).toNat).size) = False := eq_false (Nat.not_lt.2 c41));have H' := aM H;clear H
   rotate_left 6
   focus
    rw [if_neg c2] at H;have c2b0 : decide (x5_1 < (a0.size : Int)) = false := dF c2;clear c2
    by_cases c42 : x4_1 = true
    focus
     subst c42;rw [if_pos rfl] at H
     by_cases c43 : 1 + x3_1.size ≤ 9223372036854775807
     rotate_left;rw [if_neg c43] at H;exact absurd H (by simp);rw [if_pos c43] at H;have c43b0 := eq_true c43;have c43b1 : decide (1 + x3_1.size ≤ 9223372036854775807) = true := dT c43;(try have c43b2 : (9223372036854775807 < 1 + x3_1.size) = False := eq_false (Nat.not_lt.2 c43))
     by_cases c44 : ((⟨#[34]⟩ : ByteArray) ++ x3_1).size + 1 ≤ 9223372036854775807
     rotate_left;rw [if_neg c44] at H;exact absurd H (by simp);rw [if_pos c44] at H;have c44b0 := eq_true c44;have c44b1 : decide (((⟨#[34]⟩ : ByteArray) ++ x3_1).size + 1 ≤ 9223372036854775807) = true := dT c44;(try have c44b3 : (9223372036854775807 < 1 + x3_1.size + 1) = False := eq_false (by have h_ := c44;simp only [ByteArray.size_append,ByteArray.size_extract] at h_;have hs0_ : (⟨#[34]⟩ : ByteArray).size = 1 := rfl;omega));(try have c44b2 : (9223372036854775807 < ((⟨#[34]⟩ : ByteArray) ++ x3_1).size + 1) = False := eq_false (Nat.not_lt.2 c44));obtain rfl := Option.some.inj H;simp only [eS,eP] at H;obtain ⟨rfl⟩ := H
    rotate_left
    focus
     replace c42 := Bool.eq_false_iff.mpr c42;subst c42;rw [if_neg Bool.false_ne_true] at H;obtain rfl := Option.some.inj H;simp only [eS,eP] at H;obtain ⟨rfl⟩ := H
   all_goals
    (try (have p01 : 0 ≤ (x5_1 : Int) := oD (by assumption);have q01 : x5_1 < (a0.size : Int) := oD (by assumption);have hx01 := bt_at a0 x5_1;replace p01 := eq_true p01;replace q01 := eq_true q01));go_wp2
    first
     |
      go_ret;exact ⟨by first|rfl|(simp [*];done),by repeat (first|exact Drawn0.refl _|apply Drawn0.step)⟩
     |
      go_roundg k1
      case measure => have := HK1.out;omega
      case rel => first|(exact ⟨((x3_1 ++ (⟨#[34]⟩ : ByteArray)) ++ (a0.extract (x5_1 : Int).toNat ((wrap64 (x5_1 + 1)) : Int).toNat)),(true),(wrap64 (x5_1 + 1)),(by first|rfl|(simp [*];done)),(by first|rfl|(simp [*];done)),(by first|rfl|(simp [*];done)),H',⟨by have := HK1.out;omega⟩,by repeat (first|exact Drawn0.refl _|apply Drawn0.step)⟩)|(exact ⟨(x3_1 ++ (a0.extract (x5_1 : Int).toNat ((wrap64 (x5_1 + 1)) : Int).toNat)),(true),(wrap64 (x5_1 + 1)),(by first|rfl|(simp [*];done)),(by first|rfl|(simp [*];done)),(by first|rfl|(simp [*];done)),H',⟨by have := HK1.out;omega⟩,by repeat (first|exact Drawn0.refl _|apply Drawn0.step)⟩)|(exact ⟨((x3_1 ++ (⟨#[34]⟩ : ByteArray)) ++ (a0.extract (x5_1 : Int).toNat ((wrap64 (x5_1 + 1)) : Int).toNat)),(((bt a0 x5_1) == 34)),(wrap64 (x5_1 + 1)),(by first|rfl|(simp [*];done)),(by first|rfl|(simp [*];done)),(by first|rfl|(simp [*];done)),H',⟨by have := HK1.out;omega⟩,by repeat (first|exact Drawn0.refl _|apply Drawn0.step)⟩)|(exact ⟨(x3_1 ++ (a0.extract (x5_1 : Int).toNat ((wrap64 (x5_1 + 1)) : Int).toNat)),(((bt a0 x5_1) == 34)),(wrap64 (x5_1 + 1)),(by first|rfl|(simp [*];done)),(by first|rfl|(simp [*];done)),(by first|rfl|(simp [*];done)),H',⟨by have := HK1.out;omega⟩,by repeat (first|exact Drawn0.refl _|apply Drawn0.step)⟩)
def spec_WriteCell.f (k : Nat) (a0 : ByteArray) : Option (ByteArray × Bool) := (spec_l23Bytes.f k a0 0 200 32).bind fun t102 => (if t102 = true then ((spec_l25Cell.f k a0).bind fun t103 => (some (t103,true))) else (some ((⟨#[]⟩ : ByteArray),false)))
theorem spec_WriteCell.mono : ∀ a0 k,LeO (spec_WriteCell.f k a0) (spec_WriteCell.f (k + 1) a0) := by
 intro a0 k
 unfold spec_WriteCell.f
 repeat' first
   | (with_reducible exact spec_l23Bytes.mono _ _ _ _ _)
   | (with_reducible exact spec_l25Cell.mono _ _)
   | (with_reducible exact LeO.refl _)
   | (with_reducible exact LeO.none _)
   | (with_reducible refine LeO.ite ?_ ?_)
   | (with_reducible refine LeO.bind ?_ (fun _ => ?_))
   | exact spec_l23Bytes.mono _ _ _ _ _
   | exact spec_l25Cell.mono _ _
   | exact LeO.none _
   | refine LeO.ite ?_ ?_
   | refine LeO.bind ?_ (fun _ => ?_)
set_option maxHeartbeats 8000000 in
set_option maxRecDepth 100000 in
theorem spec_WriteCell.calls (k : Nat) (a0 : ByteArray) (r1 : ByteArray) (r2 : Bool) (w : World) (h : spec_WriteCell.f k a0 = some (r1,r2)) :
  Calls Tryd.prog 6 #[.string a0] w fun e w' => e = .returned (.tuple #[.string r1,.bool r2]) ∧ Drawn0 w w' := by
 have H : ((spec_l23Bytes.f k a0 0 200 32).bind fun t102 => (if t102 = true then ((spec_l25Cell.f k a0).bind fun t103 => (some (t103,true))) else (some ((⟨#[]⟩ : ByteArray),false)))) = some (r1,r2) := h;clear h;obtain ⟨t102,A2,H⟩ := bE_ H
 by_cases c3 : t102 = true
 focus
  subst c3;rw [if_pos rfl] at H;obtain ⟨t103,A4,H⟩ := bE_ H;simp only [eS,eP] at H;obtain ⟨rfl,rfl⟩ := H
 rotate_left
 focus
  replace c3 := Bool.eq_false_iff.mpr c3;subst c3;rw [if_neg Bool.false_ne_true] at H;simp only [eS,eP] at H;obtain ⟨rfl,rfl⟩ := H
 all_goals
  go_enter Tryd.func6,Tryd.ntmps6;go_wp2_with (first|((with_reducible refine gate_callee (f := 17) rfl ?_);refine goesL_ (some 5) rfl rfl Tryd.func17 (by kernel_rfl) rfl #[.string a0,.int .i64 0,.int .i64 200,.int .u8 32] rfl (by (try simp only [mT,mC,mN]);first|done|rfl|(simp only [xD,xT];rfl)) ?_;(with_reducible refine (spec_l23Bytes.calls _ _ _ _ _ _ _ A2.out).mono ?_);rintro e w' ⟨rfl,⟨nd,rfl⟩⟩;refine ⟨_,rfl,?_⟩)|((with_reducible refine gate_callee (f := 18) rfl ?_);refine goesL_ (some 8) rfl rfl Tryd.func18 (by kernel_rfl) rfl #[.string a0] rfl (by (try simp only [mT,mC,mN]);first|done|rfl|(simp only [xD,xT];rfl)) ?_;(with_reducible refine (spec_l25Cell.calls _ _ _ _ A4.out).mono ?_);rintro e w' ⟨rfl,⟨nd,rfl⟩⟩;refine ⟨_,rfl,?_⟩));go_ret2;exact ⟨by first|rfl|(simp [*];done),by repeat (first|exact Drawn0.refl _|apply Drawn0.step)⟩
def impl_arePrintable.l0 : Nat → ByteArray → Int → Option (Bool)
 | 0,_,_ => none
 | k + 1,x0,x3 => if x3 < (x0.size : Int) then (if 0 ≤ x3 then (if (bt x0 x3) < 32 then (some false) else (if (bt x0 x3) > 126 then (some false) else (impl_arePrintable.l0 k x0 (wrap64 (x3 + 1))))) else (none)) else (some true)
def impl_arePrintable.f (k : Nat) (a0 : ByteArray) : Option (Bool) := impl_arePrintable.l0 k a0 0
theorem impl_arePrintable.mono_l : ∀ k,(∀ y0 y1,LeO (impl_arePrintable.l0 k y0 y1) (impl_arePrintable.l0 (k + 1) y0 y1))
 | 0 => fun _ _ r h => by simp [impl_arePrintable.l0] at h
 | k + 1 => by
  have ih0 := impl_arePrintable.mono_l k
  ·intro y0 y1
   unfold impl_arePrintable.l0
   repeat' first
   | (with_reducible exact ih0 _ _)
   | (with_reducible exact LeO.refl _)
   | (with_reducible exact LeO.none _)
   | (with_reducible refine LeO.ite ?_ ?_)
   | (with_reducible refine LeO.bind ?_ (fun _ => ?_))
   | exact ih0 _ _
   | exact LeO.none _
   | refine LeO.ite ?_ ?_
   | refine LeO.bind ?_ (fun _ => ?_)
theorem impl_arePrintable.mono : ∀ a0 k,LeO (impl_arePrintable.f k a0) (impl_arePrintable.f (k + 1) a0) := by
 intro a0 k
 have ih0 := impl_arePrintable.mono_l k
 unfold impl_arePrintable.f
 repeat' first
   | (with_reducible exact ih0 _ _)
   | (with_reducible exact LeO.refl _)
   | (with_reducible exact LeO.none _)
   | (with_reducible refine LeO.ite ?_ ?_)
   | (with_reducible refine LeO.bind ?_ (fun _ => ?_))
   | exact ih0 _ _
   | exact LeO.none _
   | refine LeO.ite ?_ ?_
   | refine LeO.bind ?_ (fun _ => ?_)
set_option maxHeartbeats 8000000 in
set_option maxRecDepth 100000 in
theorem impl_arePrintable.calls (k : Nat) (a0 : ByteArray) (r : Bool) (w : World) (h : impl_arePrintable.f k a0 = some r) :
  Calls Tryd.prog 30 #[.string a0] w fun e w' => e = .returned (.bool r) ∧ Drawn0 w w' := by
 have H : (impl_arePrintable.l0 k a0 0) = some r := h;clear h;have H' := aM H;clear H;go_enter Tryd.func30,Tryd.ntmps30;go_wp2;go_loopg [3] k (fun kq v3 w' => ∃ (x3_1 : Int),v3 = .int .i64 x3_1 ∧ Aside0 (impl_arePrintable.l0 kq a0 x3_1 = some r) ∧ Aside0 (kq ≤ k) ∧ Drawn0 w w')
 case atStart => exact ⟨(0),(by first|rfl|(simp [*];done)),H',⟨Nat.le_refl _⟩,by repeat (first|exact Drawn0.refl _|apply Drawn0.step)⟩
 case round =>
  clear H';obtain ⟨x3_1,rfl,HA,HK1,⟨m1,rfl⟩⟩ := hrel
  cases gk with
  | zero => exact absurd HA.out (by simp [impl_arePrintable.l0])
  | succ k1 =>
   have H := HA.out;clear HA;simp only [impl_arePrintable.l0] at H
   by_cases c2 : x3_1 < (a0.size : Int)
   focus
    rw [if_pos c2] at H;have c2b0 : decide (x3_1 < (a0.size : Int)) = true := dT c2;clear c2
    by_cases c3 : 0 ≤ x3_1
    rotate_left;rw [if_neg c3] at H;exact absurd H (by simp);rw [if_pos c3] at H;have c3b0 : decide (0 ≤ x3_1) = true := dT c3;clear c3
    by_cases c5 : (bt a0 x3_1) < 32
    focus
     rw [if_pos c5] at H;have c5b0 : decide ((bt a0 x3_1) < 32) = true := dT c5;clear c5;obtain rfl := Option.some.inj H;simp only [eS,eP] at H;obtain ⟨rfl⟩ := H
    rotate_left
    focus
     rw [if_neg c5] at H;have c5b0 : decide ((bt a0 x3_1) < 32) = false := dF c5;clear c5
     by_cases c7 : (bt a0 x3_1) > 126
     focus
      rw [if_pos c7] at H;have c7b0 : decide (126 < (bt a0 x3_1)) = true := dT c7;clear c7;obtain rfl := Option.some.inj H;simp only [eS,eP] at H;obtain ⟨rfl⟩ := H
     rotate_left
     focus
      rw [if_neg c7] at H;have c7b0 : decide (126 < (bt a0 x3_1)) = false := dF c7;clear c7;have H' := aM H;clear H
   rotate_left 3
   focus
    rw [if_neg c2] at H;have c2b0 : decide (x3_1 < (a0.size : Int)) = false := dF c2;clear c2;obtain rfl := Option.some.inj H;simp only [eS,eP] at H;obtain ⟨rfl⟩ := H
   all_goals
    (try (have p01 : 0 ≤ (x3_1 : Int) := oD (by assumption);have q01 : x3_1 < (a0.size : Int) := oD (by assumption);have hx01 := bt_at a0 x3_1;replace p01 := eq_true p01;replace q01 := eq_true q01));go_wp2
    first
     |
      go_ret;exact ⟨by first|rfl|(simp [*];done),by repeat (first|exact Drawn0.refl _|apply Drawn0.step)⟩
     |
      go_roundg k1
      case measure => have := HK1.out;omega
      case rel => exact ⟨(wrap64 (x3_1 + 1)),(by first|rfl|(simp [*];done)),H',⟨by have := HK1.out;omega⟩,by repeat (first|exact Drawn0.refl _|apply Drawn0.step)⟩
def impl_isCell.f (k : Nat) (a0 : ByteArray) : Option (Bool) := if (a0.size : Int) ≤ 200 then ((impl_arePrintable.f k a0).bind fun t104 => (some t104)) else (some false)
theorem impl_isCell.mono : ∀ a0 k,LeO (impl_isCell.f k a0) (impl_isCell.f (k + 1) a0) := by
 intro a0 k
 unfold impl_isCell.f
 repeat' first
   | (with_reducible exact impl_arePrintable.mono _ _)
   | (with_reducible exact LeO.refl _)
   | (with_reducible exact LeO.none _)
   | (with_reducible refine LeO.ite ?_ ?_)
   | (with_reducible refine LeO.bind ?_ (fun _ => ?_))
   | exact impl_arePrintable.mono _ _
   | exact LeO.none _
   | refine LeO.ite ?_ ?_
   | refine LeO.bind ?_ (fun _ => ?_)
set_option maxHeartbeats 8000000 in
set_option maxRecDepth 100000 in
theorem impl_isCell.calls (k : Nat) (a0 : ByteArray) (r : Bool) (w : World) (h : impl_isCell.f k a0 = some r) :
  Calls Tryd.prog 19 #[.string a0] w fun e w' => e = .returned (.bool r) ∧ Drawn0 w w' := by
 have H : (if (a0.size : Int) ≤ 200 then ((impl_arePrintable.f k a0).bind fun t104 => (some t104)) else (some false)) = some r := h;clear h
 by_cases c2 : (a0.size : Int) ≤ 200
 focus
  rw [if_pos c2] at H;have c2b0 : decide ((a0.size : Int) ≤ 200) = true := dT c2;have c2b1 : decide (a0.size ≤ 200) = true := dT (by omega);clear c2;obtain ⟨t104,A3,H⟩ := bE_ H;obtain rfl := Option.some.inj H;simp only [eS,eP] at H;obtain ⟨rfl⟩ := H
 rotate_left
 focus
  rw [if_neg c2] at H;have c2b0 : decide ((a0.size : Int) ≤ 200) = false := dF c2;have c2b1 : decide (a0.size ≤ 200) = false := dF (by omega);clear c2;obtain rfl := Option.some.inj H;simp only [eS,eP] at H;obtain ⟨rfl⟩ := H
 all_goals
  go_enter Tryd.func19,Tryd.ntmps19;go_wp2_with (first|(go_at_call 30;(with_reducible refine (impl_arePrintable.calls _ _ _ _ A3.out).mono ?_);rintro e w' ⟨rfl,⟨nd,rfl⟩⟩));go_ret;exact ⟨by first|rfl|(simp [*];done),by repeat (first|exact Drawn0.refl _|apply Drawn0.step)⟩
def strings_ContainsAny.f (a0 a1 : ByteArray) : Option Bool := if (a0.size < 4294967281 ∧ a1.size < 4294967281) ∧ (∀ b ∈ a0.data.toList,b.toNat < 128) ∧ (∀ b ∈ a1.data.toList,b.toNat < 128) then some (Lib.containsAny a0.data.toList a1.data.toList) else none
theorem strings_ContainsAny.calls (a0 a1 : ByteArray) (r : Bool) (w : World) (h : strings_ContainsAny.f a0 a1 = some r) :
  Calls Tryd.prog 31 #[.string a0,.string a1] w fun e w' => e = .returned (.bool r) ∧ Below w.heap.size w w' := by
 unfold strings_ContainsAny.f at h;split at h
 ·rename_i hs;obtain rfl := Option.some.inj h;exact Tryd.strings_ContainsAny_laid a0 a1 w hs.1.1 hs.1.2 (fun j b hj => hs.2.1 b (List.mem_of_getElem? hj)) (fun j b hj => hs.2.2 b (List.mem_of_getElem? hj))
 ·cases h
def strings_ReplaceAll.f (a0 a1 a2 : ByteArray) : Option (ByteArray) := if a0.size < 4294967281 ∧ 1 ≤ a1.size ∧ (a2.size = 0 ∨ a0.size + Lib.countB a0 a1 * a2.size ≤ 140737488355328) then some ⟨(Lib.replaceAll a0.data.toList a1.data.toList a2.data.toList).toArray⟩ else none
theorem strings_ReplaceAll.calls (a0 a1 a2 : ByteArray) (r : ByteArray) (w : World) (hG : Gm w) (h : strings_ReplaceAll.f a0 a1 a2 = some r) :
  Calls Tryd.prog 32 #[.string a0,.string a1,.string a2] w fun e w' => e = .returned (.string r) ∧ Below w.heap.size w w' := by
 unfold strings_ReplaceAll.f at h
 by_cases hs : a0.size < 4294967281 ∧ 1 ≤ a1.size ∧ (a2.size = 0 ∨ a0.size + Lib.countB a0 a1 * a2.size ≤ 140737488355328)
 ·rw [if_pos hs] at h;obtain rfl := Option.some.inj h;obtain ⟨m,hm⟩ := hG.max;exact Tryd.strings_ReplaceAll a0 a1 a2 m w hs.1 hm hs.2.1 (Or.elim hs.2.2 (fun h => by rw [h,Nat.mul_zero];omega) id)
 ·rw [if_neg hs] at h;cases h
def impl_writeCell.f (a0 : ByteArray) : Option (ByteArray) := (strings_ContainsAny.f a0 (⟨#[44,34]⟩ : ByteArray)).bind fun t105 => (if t105 = true then ((strings_ReplaceAll.f a0 (⟨#[34]⟩ : ByteArray) (⟨#[34,34]⟩ : ByteArray)).bind fun t106 => (if 1 + t106.size ≤ 9223372036854775807 then (if ((⟨#[34]⟩ : ByteArray) ++ t106).size + 1 ≤ 9223372036854775807 then (some (((⟨#[34]⟩ : ByteArray) ++ t106) ++ (⟨#[34]⟩ : ByteArray))) else (none)) else (none))) else (some a0))
set_option maxHeartbeats 8000000 in
set_option maxRecDepth 100000 in
theorem impl_writeCell.calls (a0 : ByteArray) (r : ByteArray) (w : World) (hG : Gm w) (h : impl_writeCell.f a0 = some r) :
  Calls Tryd.prog 20 #[.string a0] w fun e w' => e = .returned (.string r) ∧ Below w.heap.size w w' := by
 have HB := aM (Below.refl w.heap.size w);have HG := aM hG;clear hG;have H : ((strings_ContainsAny.f a0 (⟨#[44,34]⟩ : ByteArray)).bind fun t105 => (if t105 = true then ((strings_ReplaceAll.f a0 (⟨#[34]⟩ : ByteArray) (⟨#[34,34]⟩ : ByteArray)).bind fun t106 => (if 1 + t106.size ≤ 9223372036854775807 then (if ((⟨#[34]⟩ : ByteArray) ++ t106).size + 1 ≤ 9223372036854775807 then (some (((⟨#[34]⟩ : ByteArray) ++ t106) ++ (⟨#[34]⟩ : ByteArray))) else (none)) else (none))) else (some a0))) = some r := h;clear h;obtain ⟨t105,A2,H⟩ := bE_ H
 by_cases c3 : t105 = true
 focus
  subst c3;rw [if_pos rfl] at H;obtain ⟨t106,A4,H⟩ := bE_ H
  by_cases c5 : 1 + t106.size ≤ 9223372036854775807
  rotate_left;rw [if_neg c5] at H;exact absurd H (by simp);rw [if_pos c5] at H;have c5b0 := eq_true c5;have c5b1 : decide (1 + t106.size ≤ 9223372036854775807) = true := dT c5;(try have c5b2 : (9223372036854775807 < 1 + t106.size) = False := eq_false (Nat.not_lt.2 c5))
  by_cases c6 : ((⟨#[34]⟩ : ByteArray) ++ t106).size + 1 ≤ 9223372036854775807
  rotate_left;rw [if_neg c6] at H;exact absurd H (by simp);rw [if_pos c6] at H;have c6b0 := eq_true c6;have c6b1 : decide (((⟨#[34]⟩ : ByteArray) ++ t106).size + 1 ≤ 9223372036854775807) = true := dT c6;(try have c6b3 : (9223372036854775807 < 1 + t106.size + 1) = False := eq_false (by have h_ := c6;simp only [ByteArray.size_append,ByteArray.size_extract] at h_;have hs0_ : (⟨#[34]⟩ : ByteArray).size = 1 := rfl;omega));(try have c6b2 : (9223372036854775807 < ((⟨#[34]⟩ : ByteArray) ++ t106).size + 1) = False := eq_false (Nat.not_lt.2 c6));obtain rfl := Option.some.inj H;simp only [eS,eP] at H;obtain ⟨rfl⟩ := H
 rotate_left
 focus
  replace c3 := Bool.eq_false_iff.mpr c3;subst c3;rw [if_neg Bool.false_ne_true] at H;obtain rfl := Option.some.inj H;simp only [eS,eP] at H;obtain ⟨rfl⟩ := H
 all_goals
  go_enter Tryd.func20,Tryd.ntmps20;go_wp2_with (first|((with_reducible refine gate_callee (f := 31) rfl ?_);refine goesL_ (some 4) rfl rfl Tryd.func31 (by kernel_rfl) rfl #[.string a0,.string (⟨#[44,34]⟩ : ByteArray)] rfl (by (try simp only [mT,mC,mN]);first|done|rfl|(simp only [xD,xT];rfl)) ?_;(with_reducible refine (strings_ContainsAny.calls _ _ _ _ A2.out).mono ?_);rintro e WA2 ⟨rfl,hb⟩;refine ⟨_,rfl,?_⟩;replace HB := aM (lT (by repeat (first|(with_reducible first|exact HB.out|apply lA|apply lN|apply lD)|exact HB.out)) hb);(try clear hb))|((with_reducible refine gate_callee (f := 32) rfl ?_);refine goesL_ (some 8) rfl rfl Tryd.func32 (by kernel_rfl) rfl #[.string a0,.string (⟨#[34]⟩ : ByteArray),.string (⟨#[34,34]⟩ : ByteArray)] rfl (by (try simp only [mT,mC,mN]);first|done|rfl|(simp only [xD,xT];rfl)) ?_;(with_reducible refine (strings_ReplaceAll.calls _ _ _ _ _ ?side1 A4.out).mono ?_);(case side1 => exact Gm.below HG.out (by repeat (first|(with_reducible first|exact HB.out|apply lA|apply lN|apply lD)|exact HB.out)));rintro e WA4 ⟨rfl,hb⟩;refine ⟨_,rfl,?_⟩;replace HB := aM (lT (by repeat (first|(with_reducible first|exact HB.out|apply lA|apply lN|apply lD)|exact HB.out)) hb);(try clear hb)));go_ret;exact ⟨by first|rfl|(simp [*];done),by repeat (first|(with_reducible first|exact HB.out|apply lA|apply lN|apply lD)|exact HB.out)⟩
end Go.Proofs.YtbinfdheapjpnaaDoor.P
