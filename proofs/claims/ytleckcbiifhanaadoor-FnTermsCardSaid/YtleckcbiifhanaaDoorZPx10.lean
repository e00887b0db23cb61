/- Written by a program in this session: each theorem here says that a Go function computes the Lean function beside it, or that a law's row holds, under the conditions that the theorem itself states. -/
import Derived.Test.YtleckcbiifhanaaDoorZPx0
namespace Go.Proofs.YtleckcbiifhanaaDoor.P
open Go.RowKit Go.Proofs.YtleckcbiifhanaaDoorW.PrintWords Go.Proofs.YtleckcbiifhanaaDoorW.PrintLast Go.Proofs.YtleckcbiifhanaaDoorW.PrintMore
attribute [local go_sem] max2_int min2_int max_two min_two max_three min_three max_four min_four   -- for this text's walks alone
set_option linter.unusedVariables false
set_option linter.unusedSimpArgs false
def spec_l1In.f (a0 : Int) (a1 : Int) (a2 : Int) : Option (Bool) := if a0 ≥ a1 then (some (decide (a0 ≤ a2))) else (some false)
set_option maxHeartbeats 8000000 in
set_option maxRecDepth 100000 in
theorem spec_l1In.calls (a0 : Int) (a1 : Int) (a2 : Int) (r : Bool) (w : World) (h : spec_l1In.f a0 a1 a2 = some r) :
  Calls Tryd.prog 40 #[.int .i64 a0,.int .i64 a1,.int .i64 a2] w fun e w' => e = .returned (.bool r) ∧ Drawn0 w w' := by
 have H : (if a0 ≥ a1 then (some (decide (a0 ≤ a2))) else (some false)) = some r := h;clear h
 by_cases c4 : a0 ≥ a1
 focus
  rw [if_pos c4] at H;have c4b0 : decide (a1 ≤ a0) = true := dT c4;clear c4;obtain rfl := Option.some.inj H;simp only [eS,eP] at H;obtain ⟨rfl⟩ := H
 rotate_left
 focus
  rw [if_neg c4] at H;have c4b0 : decide (a1 ≤ a0) = false := dF c4;clear c4;obtain rfl := Option.some.inj H;simp only [eS,eP] at H;obtain ⟨rfl⟩ := H
 all_goals
  go_enter Tryd.func40,Tryd.ntmps40;go_wp2;go_ret;exact ⟨by first|rfl|(simp [*];done),by repeat (first|exact Drawn0.refl _|apply Drawn0.step)⟩
def spec_l23Key.l0 : Nat → ByteArray → Int → Option (Bool)
 | 0,_,_ => none
 | k + 1,x0,x3 => if x3 < (x0.size : Int) then (if 0 ≤ x3 then (if (bt x0 x3) < 97 then (some false) else (if (bt x0 x3) > 122 then (some false) else (spec_l23Key.l0 k x0 (wrap64 (x3 + 1))))) else (none)) else ((spec_l1In.f (x0.size : Int) 1 10).bind fun t336 => (some t336))
def spec_l23Key.f (k : Nat) (a0 : ByteArray) : Option (Bool) := spec_l23Key.l0 k a0 0
set_option maxHeartbeats 8000000 in
set_option maxRecDepth 100000 in
theorem spec_l23Key.calls (k : Nat) (a0 : ByteArray) (r : Bool) (w : World) (h : spec_l23Key.f k a0 = some r) :
  Calls Tryd.prog 50 #[.string a0] w fun e w' => e = .returned (.bool r) ∧ Drawn0 w w' := by
 have H : (spec_l23Key.l0 k a0 0) = some r := h;clear h;have H' := aM H;clear H;go_enter Tryd.func50,Tryd.ntmps50;go_wp2;go_loopg [3] k (fun kq v3 w' => ∃ (x3_1 : Int),v3 = .int .i64 x3_1 ∧ Aside0 (spec_l23Key.l0 kq a0 x3_1 = some r) ∧ Aside0 (kq ≤ k) ∧ Drawn0 w w')
 case atStart => exact ⟨(0),(by first|rfl|(simp [*];done)),H',⟨Nat.le_refl _⟩,by repeat (first|exact Drawn0.refl _|apply Drawn0.step)⟩
 case round =>
  clear H';obtain ⟨x3_1,rfl,HA,HK1,⟨m1,rfl⟩⟩ := hrel
  cases gk with
  | zero => exact absurd HA.out (by simp [spec_l23Key.l0])
  | succ k1 =>
   have H := HA.out;clear HA;simp only [spec_l23Key.l0] at H
   by_cases c2 : x3_1 < (a0.size : Int)
   focus
    rw [if_pos c2] at H;have c2b0 : decide (x3_1 < (a0.size : Int)) = true := dT c2;clear c2
    by_cases c3 : 0 ≤ x3_1
    rotate_left;rw [if_neg c3] at H;exact absurd H (by simp);rw [if_pos c3] at H;have c3b0 : decide (0 ≤ x3_1) = true := dT c3;clear c3
    by_cases c5 : (bt a0 x3_1) < 97
    focus
     rw [if_pos c5] at H;have c5b0 : decide ((bt a0 x3_1) < 97) = true := dT c5;clear c5;obtain rfl := Option.some.inj H;simp only [eS,eP] at H;obtain ⟨rfl⟩ := H
    rotate_left
    focus
     rw [if_neg c5] at H;have c5b0 : decide ((bt a0 x3_1) < 97) = false := dF c5;clear c5
     by_cases c7 : (bt a0 x3_1) > 122
     focus
      rw [if_pos c7] at H;have c7b0 : decide (122 < (bt a0 x3_1)) = true := dT c7;clear c7;obtain rfl := Option.some.inj H;simp only [eS,eP] at H;obtain ⟨rfl⟩ := H
     rotate_left
     focus
      rw [if_neg c7] at H;have c7b0 : decide (122 < (bt a0 x3_1)) = false := dF c7;clear c7;have H' := aM H;clear H
   rotate_left 3
   focus
    rw [if_neg c2] at H;have c2b0 : decide (x3_1 < (a0.size : Int)) = false := dF c2;clear c2;obtain ⟨t336,A8,H⟩ := bE_ H;obtain rfl := Option.some.inj H;simp only [eS,eP] at H;obtain ⟨rfl⟩ := H
   all_goals
    (try (have p01 : 0 ≤ (x3_1 : Int) := oD (by assumption);have q01 : x3_1 < (a0.size : Int) := oD (by assumption);have hx01 := bt_at a0 x3_1;replace p01 := eq_true p01;replace q01 := eq_true q01));go_wp2_with (first|((with_reducible refine gate_callee (f := 40) rfl ?_);refine gl_ (some 22) Tryd.func40 #[.int .i64 (a0.size : Int),.int .i64 1,.int .i64 10] ?_;(with_reducible refine (spec_l1In.calls _ _ _ _ _ A8.out).mono ?_);rintro e w' ⟨rfl,⟨nd,rfl⟩⟩;refine ⟨_,rfl,?_⟩))
    first
     |
      go_ret;exact ⟨by first|rfl|(simp [*];done),by repeat (first|exact Drawn0.refl _|apply Drawn0.step)⟩
     |
      go_roundg k1
      case measure => have := HK1.out;omega
      case rel => exact ⟨(wrap64 (x3_1 + 1)),(by first|rfl|(simp [*];done)),H',⟨by have := HK1.out;omega⟩,by repeat (first|exact Drawn0.refl _|apply Drawn0.step)⟩
def spec_l23Bytes.l0 : Nat → ByteArray → Int → Int → Int → Int → Option (Bool)
 | 0,_,_,_,_,_ => none
 | k + 1,x0,x1,x2,x3,x9 => if x9 < (x0.size : Int) then (if 0 ≤ x9 then (if (bt x0 x9) < x3 then (some false) else (if (bt x0 x9) > 126 then (some false) else (spec_l23Bytes.l0 k x0 x1 x2 x3 (wrap64 (x9 + 1))))) else (none)) else ((spec_l1In.f (x0.size : Int) x1 x2).bind fun t337 => (some t337))
def spec_l23Bytes.f (k : Nat) (a0 : ByteArray) (a1 : Int) (a2 : Int) (a3 : Int) : Option (Bool) := spec_l23Bytes.l0 k a0 a1 a2 a3 0
set_option maxHeartbeats 8000000 in
set_option maxRecDepth 100000 in
theorem spec_l23Bytes.calls (k : Nat) (a0 : ByteArray) (a1 : Int) (a2 : Int) (a3 : Int) (r : Bool) (w : World) (h : spec_l23Bytes.f k a0 a1 a2 a3 = some r) :
  Calls Tryd.prog 51 #[.string a0,.int .i64 a1,.int .i64 a2,.int .u8 a3] w fun e w' => e = .returned (.bool r) ∧ Drawn0 w w' := by
 have H : (spec_l23Bytes.l0 k a0 a1 a2 a3 0) = some r := h;clear h;have H' := aM H;clear H;go_enter Tryd.func51,Tryd.ntmps51;go_wp2;go_loopg [9] k (fun kq v9 w' => ∃ (x9_1 : Int),v9 = .int .i64 x9_1 ∧ Aside0 (spec_l23Bytes.l0 kq a0 a1 a2 a3 x9_1 = some r) ∧ Aside0 (kq ≤ k) ∧ Drawn0 w w')
 case atStart => exact ⟨(0),(by first|rfl|(simp [*];done)),H',⟨Nat.le_refl _⟩,by repeat (first|exact Drawn0.refl _|apply Drawn0.step)⟩
 case round =>
  clear H';obtain ⟨x9_1,rfl,HA,HK1,⟨m1,rfl⟩⟩ := hrel
  cases gk with
  | zero => exact absurd HA.out (by simp [spec_l23Bytes.l0])
  | succ k1 =>
   have H := HA.out;clear HA;simp only [spec_l23Bytes.l0] at H
   by_cases c5 : x9_1 < (a0.size : Int)
   focus
    rw [if_pos c5] at H;have c5b0 : decide (x9_1 < (a0.size : Int)) = true := dT c5;clear c5
    by_cases c6 : 0 ≤ x9_1
    rotate_left;rw [if_neg c6] at H;exact absurd H (by simp);rw [if_pos c6] at H;have c6b0 : decide (0 ≤ x9_1) = true := dT c6;clear c6
    by_cases c8 : (bt a0 x9_1) < a3
    focus
     rw [if_pos c8] at H;have c8b0 : decide ((bt a0 x9_1) < a3) = true := dT c8;clear c8;obtain rfl := Option.some.inj H;simp only [eS,eP] at H;obtain ⟨rfl⟩ := H
    rotate_left
    focus
     rw [if_neg c8] at H;have c8b0 : decide ((bt a0 x9_1) < a3) = false := dF c8;clear c8
     by_cases c10 : (bt a0 x9_1) > 126
     focus
      rw [if_pos c10] at H;have c10b0 : decide (126 < (bt a0 x9_1)) = true := dT c10;clear c10;obtain rfl := Option.some.inj H;simp only [eS,eP] at H;obtain ⟨rfl⟩ := H
     rotate_left
     focus
      rw [if_neg c10] at H;have c10b0 : decide (126 < (bt a0 x9_1)) = false := dF c10;clear c10;have H' := aM H;clear H
   rotate_left 3
   focus
    rw [if_neg c5] at H;have c5b0 : decide (x9_1 < (a0.size : Int)) = false := dF c5;clear c5;obtain ⟨t337,A11,H⟩ := bE_ H;obtain rfl := Option.some.inj H;simp only [eS,eP] at H;obtain ⟨rfl⟩ := H
   all_goals
    (try (have p01 : 0 ≤ (x9_1 : Int) := oD (by assumption);have q01 : x9_1 < (a0.size : Int) := oD (by assumption);have hx01 := bt_at a0 x9_1;replace p01 := eq_true p01;replace q01 := eq_true q01));go_wp2_with (first|((with_reducible refine gate_callee (f := 40) rfl ?_);refine gl_ (some 31) Tryd.func40 #[.int .i64 (a0.size : Int),.int .i64 a1,.int .i64 a2] ?_;(with_reducible refine (spec_l1In.calls _ _ _ _ _ A11.out).mono ?_);rintro e w' ⟨rfl,⟨nd,rfl⟩⟩;refine ⟨_,rfl,?_⟩))
    first
     |
      go_ret;exact ⟨by first|rfl|(simp [*];done),by repeat (first|exact Drawn0.refl _|apply Drawn0.step)⟩
     |
      go_roundg k1
      case measure => have := HK1.out;omega
      case rel => exact ⟨(wrap64 (x9_1 + 1)),(by first|rfl|(simp [*];done)),H',⟨by have := HK1.out;omega⟩,by repeat (first|exact Drawn0.refl _|apply Drawn0.step)⟩
def spec_l23Term.f (k : Nat) (a0_0 : ByteArray) (a0_1 : ByteArray) (a0_2 : ByteArray) : Option (Bool) := (spec_l23Key.f k a0_0).bind fun t339 => (if t339 = true then ((spec_l23Bytes.f k a0_1 1 20 32).bind fun t340 => (if t340 = true then ((spec_l23Bytes.f k a0_2 1 20 32).bind fun t341 => (some t341)) else (some false))) else (some false))
set_option maxHeartbeats 8000000 in
set_option maxRecDepth 100000 in
theorem spec_l23Term.calls (k : Nat) (a0_0 : ByteArray) (a0_1 : ByteArray) (a0_2 : ByteArray) (r : Bool) (w : World) (h : spec_l23Term.f k a0_0 a0_1 a0_2 = some r) :
  Calls Tryd.prog 52 #[.agg #[.string a0_0,.string a0_1,.string a0_2]] w fun e w' => e = .returned (.bool r) ∧ Below w.heap.size w w' := by
 have hu29 := Tryd.underlying29;have HB := aM (Below.refl w.heap.size w);have H : ((spec_l23Key.f k a0_0).bind fun t339 => (if t339 = true then ((spec_l23Bytes.f k a0_1 1 20 32).bind fun t340 => (if t340 = true then ((spec_l23Bytes.f k a0_2 1 20 32).bind fun t341 => (some t341)) else (some false))) else (some false))) = some r := h;clear h;obtain ⟨t339,A2,H⟩ := bE_ H
 by_cases c3 : t339 = true
 focus
  subst c3;rw [if_pos rfl] at H;obtain ⟨t340,A4,H⟩ := bE_ H
  by_cases c5 : t340 = true
  focus
   subst c5;rw [if_pos rfl] at H;obtain ⟨t341,A6,H⟩ := bE_ H;obtain rfl := Option.some.inj H;simp only [eS,eP] at H;obtain ⟨rfl⟩ := H
  rotate_left
  focus
   replace c5 := Bool.eq_false_iff.mpr c5;subst c5;rw [if_neg Bool.false_ne_true] at H;obtain rfl := Option.some.inj H;simp only [eS,eP] at H;obtain ⟨rfl⟩ := H
 rotate_left 2
 focus
  replace c3 := Bool.eq_false_iff.mpr c3;subst c3;rw [if_neg Bool.false_ne_true] at H;obtain rfl := Option.some.inj H;simp only [eS,eP] at H;obtain ⟨rfl⟩ := H
 all_goals
  go_enter Tryd.func52,Tryd.ntmps52;go_wp2_with (first|((with_reducible refine gate_dst (N := 1) rfl ?_);refine bx_ (N := 1) (cs := #[.string a0_0,.string a0_1,.string a0_2]) (t := 29) ?_;intro gb338 hg Wgb338 hbox hb;have BK338 := aM (hbox);have GW338 := aM ((by rw [hg];exact (lZ wB_) : w.heap.size ≤ gb338));have GE338 := GW338;replace HB := aM (lT wB_ hb);clear hb hbox hg;obtain ⟨hcz338x338_0,hcz338x338_1,hcz338x338_2,hfz338x338_0,hfz338x338_1,hfz338x338_2⟩ := z3_ BK338.out)|((with_reducible refine gate_callee (f := 50) rfl ?_);refine gl_ (some 5) Tryd.func50 #[.string a0_0] ?_;(with_reducible refine (spec_l23Key.calls _ _ _ _ A2.out).mono ?_);rintro e w' ⟨rfl,⟨nd,rfl⟩⟩;refine ⟨_,rfl,?_⟩)|(go_at_call 51;(with_reducible refine (spec_l23Bytes.calls _ _ _ _ _ _ _ A4.out).mono ?_);rintro e w' ⟨rfl,⟨nd,rfl⟩⟩)|(go_at_call 51;(with_reducible refine (spec_l23Bytes.calls _ _ _ _ _ _ _ A6.out).mono ?_);rintro e w' ⟨rfl,⟨nd,rfl⟩⟩));go_ret;exact ⟨by first|rfl|(simp [*];done),wB_⟩
end Go.Proofs.YtleckcbiifhanaaDoor.P
