/- Written by a program in this session: each theorem here says that a Go function computes the Lean function beside it, or that a law's row holds, under the conditions that the theorem itself states. -/
import Derived.Test.YtleckcbiifhanaaDoorZPx0
import Derived.Test.YtleckcbiifhanaaDoorZPx5
import Derived.Test.YtleckcbiifhanaaDoorZShelf
namespace Go.Proofs.YtleckcbiifhanaaDoor.P
open Go.RowKit Go.Proofs.YtleckcbiifhanaaDoorW.PrintWords Go.Proofs.YtleckcbiifhanaaDoorW.PrintLast Go.Proofs.YtleckcbiifhanaaDoorW.PrintMore
attribute [local go_sem] max2_int min2_int max_two min_two max_three min_three max_four min_four   -- for this text's walks alone
set_option linter.unusedVariables false
set_option linter.unusedSimpArgs false
def impl_isSmall.l0 : Nat → ByteArray → Int → Int → Int → Option (Bool)
 | 0,_,_,_,_ => none
 | k + 1,x0,x1,x2,x9 => if x9 < (x0.size : Int) then (if 0 ≤ x9 then ((impl_isLower.f (bt x0 x9)).bind fun t270 => (if t270 = true then (impl_isSmall.l0 k x0 x1 x2 (wrap64 (x9 + 1))) else (some false))) else (none)) else ((impl_inside.f (x0.size : Int) x1 x2).bind fun t271 => (some t271))
def impl_isSmall.f (k : Nat) (a0 : ByteArray) (a1 : Int) (a2 : Int) (a3 : ByteArray) : Option (Bool) := (strings_TrimSuffix.f a0 a3).bind fun t269 => (impl_isSmall.l0 k t269 a1 a2 0)
set_option maxHeartbeats 8000000 in
set_option maxRecDepth 100000 in
theorem impl_isSmall.calls (k : Nat) (a0 : ByteArray) (a1 : Int) (a2 : Int) (a3 : ByteArray) (r : Bool) (w : World) (h : impl_isSmall.f k a0 a1 a2 a3 = some r) :
  Calls Tryd.prog 57 #[.string a0,.int .i64 a1,.int .i64 a2,.string a3] w fun e w' => e = .returned (.bool r) ∧ Drawn0 w w' := by
 have H : ((strings_TrimSuffix.f a0 a3).bind fun t269 => (impl_isSmall.l0 k t269 a1 a2 0)) = some r := h;clear h;obtain ⟨t269,A5,H⟩ := bE_ H;have H' := aM H;clear H;go_enter Tryd.func57,Tryd.ntmps57;go_wp2_with (first|((with_reducible refine gate_callee (f := 64) rfl ?_);refine gl_ (some 12) Tryd.func64 #[.string a0,.string a3] ?_;(with_reducible refine (strings_TrimSuffix.calls a0 a3 t269 _ A5.out).mono ?_);rintro e w' ⟨rfl,⟨nd,rfl⟩⟩;refine ⟨_,rfl,?_⟩));go_loopg [9] k (fun kq v9 w' => ∃ (x9_1 : Int),v9 = .int .i64 x9_1 ∧ Aside0 (impl_isSmall.l0 kq t269 a1 a2 x9_1 = some r) ∧ Aside0 (kq ≤ k) ∧ Drawn0 w w')
 case atStart => exact ⟨(0),(by first|rfl|(simp [*];done)),H',⟨Nat.le_refl _⟩,by repeat (first|exact Drawn0.refl _|apply Drawn0.step)⟩
 case round =>
  clear H';obtain ⟨x9_1,rfl,HA,HK1,⟨m1,rfl⟩⟩ := hrel
  cases gk with
  | zero => exact absurd HA.out (by simp [impl_isSmall.l0])
  | succ k1 =>
   have H := HA.out;clear HA;simp only [impl_isSmall.l0] at H
   by_cases c6 : x9_1 < (t269.size : Int)
   focus
    rw [if_pos c6] at H;have c6b0 : decide (x9_1 < (t269.size : Int)) = true := dT c6;clear c6
    by_cases c7 : 0 ≤ x9_1
    rotate_left;rw [if_neg c7] at H;exact absurd H (by simp);rw [if_pos c7] at H;have c7b0 : decide (0 ≤ x9_1) = true := dT c7;clear c7;obtain ⟨t270,A9,H⟩ := bE_ H
    by_cases c10 : t270 = true
    focus
     subst c10;rw [if_pos rfl] at H;have H' := aM H;clear H
    rotate_left
    focus
     replace c10 := Bool.eq_false_iff.mpr c10;subst c10;rw [if_neg Bool.false_ne_true] at H;obtain rfl := Option.some.inj H;simp only [eS,eP] at H;obtain ⟨rfl⟩ := H
   rotate_left 2
   focus
    rw [if_neg c6] at H;have c6b0 : decide (x9_1 < (t269.size : Int)) = false := dF c6;clear c6;obtain ⟨t271,A11,H⟩ := bE_ H;obtain rfl := Option.some.inj H;simp only [eS,eP] at H;obtain ⟨rfl⟩ := H
   all_goals
    (try (have p01 : 0 ≤ (x9_1 : Int) := oD (by assumption);have q01 : x9_1 < (t269.size : Int) := oD (by assumption);have hx01 := bt_at t269 x9_1;replace p01 := eq_true p01;replace q01 := eq_true q01));go_wp2_with (first|((with_reducible refine gate_callee (f := 55) rfl ?_);refine gl_ (some 28) Tryd.func55 #[.int .i64 (t269.size : Int),.int .i64 a1,.int .i64 a2] ?_;(with_reducible refine (impl_inside.calls _ _ _ _ _ A11.out).mono ?_);rintro e w' ⟨rfl,⟨nd,rfl⟩⟩;refine ⟨_,rfl,?_⟩)|((with_reducible refine gate_callee (f := 65) rfl ?_);refine gl_ (some 22) Tryd.func65 #[.int .u8 (bt t269 x9_1)] ?_;(with_reducible refine (impl_isLower.calls _ _ _ A9.out).mono ?_);rintro e w' ⟨rfl,⟨nd,rfl⟩⟩;refine ⟨_,rfl,?_⟩))
    first
     |
      go_ret;exact ⟨by first|rfl|(simp [*];done),by repeat (first|exact Drawn0.refl _|apply Drawn0.step)⟩
     |
      go_roundg k1
      case measure => have := HK1.out;omega
      case rel => exact ⟨(wrap64 (x9_1 + 1)),(by first|rfl|(simp [*];done)),H',⟨by have := HK1.out;omega⟩,by repeat (first|exact Drawn0.refl _|apply Drawn0.step)⟩
def impl_isTermKey.f (k : Nat) (a0 : ByteArray) : Option (Bool) := (impl_isSmall.f k a0 1 10 (⟨#[]⟩ : ByteArray)).bind fun t272 => (some t272)
set_option maxHeartbeats 8000000 in
set_option maxRecDepth 100000 in
theorem impl_isTermKey.calls (k : Nat) (a0 : ByteArray) (r : Bool) (w : World) (h : impl_isTermKey.f k a0 = some r) :
  Calls Tryd.prog 31 #[.string a0] w fun e w' => e = .returned (.bool r) ∧ Drawn0 w w' := by
 have H : ((impl_isSmall.f k a0 1 10 (⟨#[]⟩ : ByteArray)).bind fun t272 => (some t272)) = some r := h;clear h;obtain ⟨t272,A2,H⟩ := bE_ H;obtain rfl := Option.some.inj H;simp only [eS,eP] at H;obtain ⟨rfl⟩ := H;go_enter Tryd.func31,Tryd.ntmps31;go_wp2_with (first|((with_reducible refine gate_callee (f := 57) rfl ?_);refine gl_ (some 4) Tryd.func57 #[.string a0,.int .i64 1,.int .i64 10,.string (⟨#[]⟩ : ByteArray)] ?_;(with_reducible refine (impl_isSmall.calls k a0 1 10 (⟨#[]⟩ : ByteArray) t272 _ A2.out).mono ?_);rintro e w' ⟨rfl,⟨nd,rfl⟩⟩;refine ⟨_,rfl,?_⟩));go_ret;exact ⟨by first|rfl|(simp [*];done),by repeat (first|exact Drawn0.refl _|apply Drawn0.step)⟩
def impl_arePrintable.l0 : Nat → ByteArray → Int → Option (Bool)
 | 0,_,_ => none
 | k + 1,x0,x3 => if x3 < (x0.size : Int) then (if 0 ≤ x3 then (if (bt x0 x3) < 32 then (some false) else (if (bt x0 x3) > 126 then (some false) else (impl_arePrintable.l0 k x0 (wrap64 (x3 + 1))))) else (none)) else (some true)
def impl_arePrintable.f (k : Nat) (a0 : ByteArray) : Option (Bool) := impl_arePrintable.l0 k a0 0
set_option maxHeartbeats 8000000 in
set_option maxRecDepth 100000 in
theorem impl_arePrintable.calls (k : Nat) (a0 : ByteArray) (r : Bool) (w : World) (h : impl_arePrintable.f k a0 = some r) :
  Calls Tryd.prog 58 #[.string a0] w fun e w' => e = .returned (.bool r) ∧ Drawn0 w w' := by
 have H : (impl_arePrintable.l0 k a0 0) = some r := h;clear h;have H' := aM H;clear H;go_enter Tryd.func58,Tryd.ntmps58;go_wp2;go_loopg [3] k (fun kq v3 w' => ∃ (x3_1 : Int),v3 = .int .i64 x3_1 ∧ Aside0 (impl_arePrintable.l0 kq a0 x3_1 = some r) ∧ Aside0 (kq ≤ k) ∧ Drawn0 w w')
 case atStart => exact ⟨(0),(by first|rfl|(simp [*];done)),H',⟨Nat.le_refl _⟩,by repeat (first|exact Drawn0.refl _|apply Drawn0.step)⟩
 case round =>
  clear H';obtain ⟨x3_1,rfl,HA,HK1,⟨m1,rfl⟩⟩ := hrel
  cases gk with
  | zero => exact absurd HA.out (by simp [impl_arePrintable.l0])
  | succ k1 =>
   have H := HA.out;clear HA;simp only [impl_arePrintable.l0] at H
   by_cases c2 : x3_1 < (a0.size : Int)
   focus
    rw [if_pos c2] at H;have c2b0 : decide (x3_1 < (a0.size : Int)) = true := dT c2;clear c2
    by_cases c3 : 0 ≤ x3_1
    rotate_left;rw [if_neg c3] at H;exact absurd H (by simp);rw [if_pos c3] at H;have c3b0 : decide (0 ≤ x3_1) = true := dT c3;clear c3
    by_cases c5 : (bt a0 x3_1) < 32
    focus
     rw [if_pos c5] at H;have c5b0 : decide ((bt a0 x3_1) < 32) = true := dT c5;clear c5;obtain rfl := Option.some.inj H;simp only [eS,eP] at H;obtain ⟨rfl⟩ := H
    rotate_left
    focus
     rw [if_neg c5] at H;have c5b0 : decide ((bt a0 x3_1) < 32) = false := dF c5;clear c5
     by_cases c7 : (bt a0 x3_1) > 126
     focus
      rw [if_pos c7] at H;have c7b0 : decide (126 < (bt a0 x3_1)) = true := dT c7;clear c7;obtain rfl := Option.some.inj H;simp only [eS,eP] at H;obtain ⟨rfl⟩ := H
     rotate_left
     focus
      rw [if_neg c7] at H;have c7b0 : decide (126 < (bt a0 x3_1)) = false := dF c7;clear c7;have H' := aM H;clear H
   rotate_left 3
   focus
    rw [if_neg c2] at H;have c2b0 : decide (x3_1 < (a0.size : Int)) = false := dF c2;clear c2;obtain rfl := Option.some.inj H;simp only [eS,eP] at H;obtain ⟨rfl⟩ := H
   all_goals
    (try (have p01 : 0 ≤ (x3_1 : Int) := oD (by assumption);have q01 : x3_1 < (a0.size : Int) := oD (by assumption);have hx01 := bt_at a0 x3_1;replace p01 := eq_true p01;replace q01 := eq_true q01));go_wp2
    first
     |
      go_ret;exact ⟨by first|rfl|(simp [*];done),by repeat (first|exact Drawn0.refl _|apply Drawn0.step)⟩
     |
      go_roundg k1
      case measure => have := HK1.out;omega
      case rel => exact ⟨(wrap64 (x3_1 + 1)),(by first|rfl|(simp [*];done)),H',⟨by have := HK1.out;omega⟩,by repeat (first|exact Drawn0.refl _|apply Drawn0.step)⟩
def impl_isTermText.f (k : Nat) (a0 : ByteArray) (a1 : Int) : Option (Bool) := (impl_inside.f (a0.size : Int) 1 a1).bind fun t273 => (if t273 = true then ((impl_arePrintable.f k a0).bind fun t274 => (some t274)) else (some false))
set_option maxHeartbeats 8000000 in
set_option maxRecDepth 100000 in
theorem impl_isTermText.calls (k : Nat) (a0 : ByteArray) (a1 : Int) (r : Bool) (w : World) (h : impl_isTermText.f k a0 a1 = some r) :
  Calls Tryd.prog 32 #[.string a0,.int .i64 a1] w fun e w' => e = .returned (.bool r) ∧ Drawn0 w w' := by
 have H : ((impl_inside.f (a0.size : Int) 1 a1).bind fun t273 => (if t273 = true then ((impl_arePrintable.f k a0).bind fun t274 => (some t274)) else (some false))) = some r := h;clear h;obtain ⟨t273,A3,H⟩ := bE_ H
 by_cases c4 : t273 = true
 focus
  subst c4;rw [if_pos rfl] at H;obtain ⟨t274,A5,H⟩ := bE_ H;obtain rfl := Option.some.inj H;simp only [eS,eP] at H;obtain ⟨rfl⟩ := H
 rotate_left
 focus
  replace c4 := Bool.eq_false_iff.mpr c4;subst c4;rw [if_neg Bool.false_ne_true] at H;obtain rfl := Option.some.inj H;simp only [eS,eP] at H;obtain ⟨rfl⟩ := H
 all_goals
  go_enter Tryd.func32,Tryd.ntmps32;go_wp2_with (first|((with_reducible refine gate_callee (f := 55) rfl ?_);refine gl_ (some 8) Tryd.func55 #[.int .i64 (a0.size : Int),.int .i64 1,.int .i64 a1] ?_;(with_reducible refine (impl_inside.calls _ _ _ _ _ A3.out).mono ?_);rintro e w' ⟨rfl,⟨nd,rfl⟩⟩;refine ⟨_,rfl,?_⟩)|(go_at_call 58;(with_reducible refine (impl_arePrintable.calls _ _ _ _ A5.out).mono ?_);rintro e w' ⟨rfl,⟨nd,rfl⟩⟩));go_ret;exact ⟨by first|rfl|(simp [*];done),by repeat (first|exact Drawn0.refl _|apply Drawn0.step)⟩
def stringslite_Index.f (a0 a1 : ByteArray) : Option (Int) := if a1.size = 1 then some (Lib.indexByte a0.data.toList (bt a1 0).toNat.toUInt8) else none
theorem stringslite_Index.calls (a0 a1 : ByteArray) (r : Int) (w : World) (h : stringslite_Index.f a0 a1 = some r) :
  Calls Tryd.prog 70 #[.string a0,.string a1] w fun e w' => e = .returned (.int .i64 r) ∧ Drawn0 w w' := by
 unfold stringslite_Index.f at h;split at h
 ·rename_i hs;obtain rfl := Option.some.inj h
  obtain ⟨c,rfl⟩ : ∃ c : UInt8,a1 = ⟨#[c]⟩ := by
   obtain ⟨⟨l⟩⟩ := a1;have hl : l.length = 1 := hs
   match l,hl with
   | [c],_ => exact ⟨c,rfl⟩
  have hc : (bt ⟨#[c]⟩ 0).toNat.toUInt8 = c := by
   have : bt ⟨#[c]⟩ 0 = (c.toNat : Int) := rfl;rw [this,Int.toNat_natCast];simp
  rw [hc];refine (Tryd.stringslite_Index_one a0 c w).mono ?_;rintro e w' ⟨rfl,rfl⟩;exact ⟨rfl,Drawn0.refl _⟩
 ·cases h
def strings_Index.f (a0 : ByteArray) (a1 : ByteArray) : Option (Int) := (stringslite_Index.f a0 a1).bind fun t275 => (some t275)
set_option maxHeartbeats 8000000 in
set_option maxRecDepth 100000 in
theorem strings_Index.calls (a0 : ByteArray) (a1 : ByteArray) (r : Int) (w : World) (h : strings_Index.f a0 a1 = some r) :
  Calls Tryd.prog 66 #[.string a0,.string a1] w fun e w' => e = .returned (.int .i64 r) ∧ Drawn0 w w' := by
 have H : ((stringslite_Index.f a0 a1).bind fun t275 => (some t275)) = some r := h;clear h;obtain ⟨t275,A3,H⟩ := bE_ H;obtain rfl := Option.some.inj H;simp only [eS,eP] at H;obtain ⟨rfl⟩ := H;go_enter Tryd.func66,Tryd.ntmps66;go_wp2_with (first|((with_reducible refine gate_callee (f := 70) rfl ?_);refine gl_ (some 7) Tryd.func70 #[.string a0,.string a1] ?_;(with_reducible refine (stringslite_Index.calls a0 a1 t275 _ A3.out).mono ?_);rintro e w' ⟨rfl,⟨nd,rfl⟩⟩;refine ⟨_,rfl,?_⟩));go_ret;exact ⟨by first|rfl|(simp [*];done),by repeat (first|exact Drawn0.refl _|apply Drawn0.step)⟩
def strings_Contains.f (a0 : ByteArray) (a1 : ByteArray) : Option (Bool) := (strings_Index.f a0 a1).bind fun t276 => (some (decide (t276 ≥ 0)))
set_option maxHeartbeats 8000000 in
set_option maxRecDepth 100000 in
theorem strings_Contains.calls (a0 : ByteArray) (a1 : ByteArray) (r : Bool) (w : World) (h : strings_Contains.f a0 a1 = some r) :
  Calls Tryd.prog 60 #[.string a0,.string a1] w fun e w' => e = .returned (.bool r) ∧ Drawn0 w w' := by
 have H : ((strings_Index.f a0 a1).bind fun t276 => (some (decide (t276 ≥ 0)))) = some r := h;clear h;obtain ⟨t276,A3,H⟩ := bE_ H;obtain rfl := Option.some.inj H;simp only [eS,eP] at H;obtain ⟨rfl⟩ := H;go_enter Tryd.func60,Tryd.ntmps60;go_wp2_with (first|((with_reducible refine gate_callee (f := 66) rfl ?_);refine gl_ (some 7) Tryd.func66 #[.string a0,.string a1] ?_;(with_reducible refine (strings_Index.calls a0 a1 t276 _ A3.out).mono ?_);rintro e w' ⟨rfl,⟨nd,rfl⟩⟩;refine ⟨_,rfl,?_⟩));go_ret;exact ⟨by first|rfl|(simp [*];done),by repeat (first|exact Drawn0.refl _|apply Drawn0.step)⟩
def impl_isOrdinalRule.f (k : Nat) (a0_0 : Int) (a0_1 : Int) (a0_2 : ByteArray) : Option (Bool) := (impl_inside.f a0_0 1 1000).bind fun t278 => (if t278 = true then ((impl_inside.f a0_1 0 (wrap64 (a0_0 - 1))).bind fun t279 => (if t279 = true then (if (a0_2.size : Int) ≤ 4 then ((impl_arePrintable.f k a0_2).bind fun t280 => (if t280 = true then ((strings_Contains.f a0_2 (⟨#[32]⟩ : ByteArray)).bind fun t281 => (some (!t281))) else (some false))) else (some false)) else (some false))) else (some false))
set_option maxHeartbeats 8000000 in
set_option maxRecDepth 100000 in
theorem impl_isOrdinalRule.calls (k : Nat) (a0_0 : Int) (a0_1 : Int) (a0_2 : ByteArray) (r : Bool) (w : World) (h : impl_isOrdinalRule.f k a0_0 a0_1 a0_2 = some r) :
  Calls Tryd.prog 35 #[.agg #[.int .i64 a0_0,.int .i64 a0_1,.string a0_2]] w fun e w' => e = .returned (.bool r) ∧ Below w.heap.size w w' := by
 have hu66 := Tryd.underlying66;have HB := aM (Below.refl w.heap.size w);have H : ((impl_inside.f a0_0 1 1000).bind fun t278 => (if t278 = true then ((impl_inside.f a0_1 0 (wrap64 (a0_0 - 1))).bind fun t279 => (if t279 = true then (if (a0_2.size : Int) ≤ 4 then ((impl_arePrintable.f k a0_2).bind fun t280 => (if t280 = true then ((strings_Contains.f a0_2 (⟨#[32]⟩ : ByteArray)).bind fun t281 => (some (!t281))) else (some false))) else (some false)) else (some false))) else (some false))) = some r := h;clear h;obtain ⟨t278,A2,H⟩ := bE_ H
 by_cases c3 : t278 = true
 focus
  subst c3;rw [if_pos rfl] at H;obtain ⟨t279,A4,H⟩ := bE_ H
  by_cases c5 : t279 = true
  focus
   subst c5;rw [if_pos rfl] at H
   by_cases c6 : (a0_2.size : Int) ≤ 4
   focus
    rw [if_pos c6] at H;have c6b0 : decide ((a0_2.size : Int) ≤ 4) = true := dT c6;have c6b1 : decide (a0_2.size ≤ 4) = true := dT (by omega);clear c6;obtain ⟨t280,A7,H⟩ := bE_ H
    by_cases c8 : t280 = true
    focus
     subst c8;rw [if_pos rfl] at H;obtain ⟨t281,A9,H⟩ := bE_ H;obtain rfl := Option.some.inj H;simp only [eS,eP] at H;obtain ⟨rfl⟩ := H
    rotate_left
    focus
     replace c8 := Bool.eq_false_iff.mpr c8;subst c8;rw [if_neg Bool.false_ne_true] at H;obtain rfl := Option.some.inj H;simp only [eS,eP] at H;obtain ⟨rfl⟩ := H
   rotate_left 2
   focus
    rw [if_neg c6] at H;have c6b0 : decide ((a0_2.size : Int) ≤ 4) = false := dF c6;have c6b1 : decide (a0_2.size ≤ 4) = false := dF (by omega);clear c6;obtain rfl := Option.some.inj H;simp only [eS,eP] at H;obtain ⟨rfl⟩ := H
  rotate_left 3
  focus
   replace c5 := Bool.eq_false_iff.mpr c5;subst c5;rw [if_neg Bool.false_ne_true] at H;obtain rfl := Option.some.inj H;simp only [eS,eP] at H;obtain ⟨rfl⟩ := H
 rotate_left 4
 focus
  replace c3 := Bool.eq_false_iff.mpr c3;subst c3;rw [if_neg Bool.false_ne_true] at H;obtain rfl := Option.some.inj H;simp only [eS,eP] at H;obtain ⟨rfl⟩ := H
 all_goals
  go_enter Tryd.func35,Tryd.ntmps35;go_wp2_with (first|((with_reducible refine gate_dst (N := 1) rfl ?_);(try (refine gate_guard (by rfl) ?_;dsimp only));refine bx_ (N := 1) (cs := #[.int .i64 a0_0,.int .i64 a0_1,.string a0_2]) (t := 66) ?_;intro gb277 hg Wgb277 hbox hb;have BK277 := aM (hbox);have GW277 := aM ((by rw [hg];exact (lZ wB_) : w.heap.size ≤ gb277));have GE277 := GW277;replace HB := aM (lT wB_ hb);clear hb hbox hg;obtain ⟨hcz277x277_0,hcz277x277_1,hcz277x277_2,hfz277x277_0,hfz277x277_1,hfz277x277_2⟩ := z3_ BK277.out)|((with_reducible refine gate_callee (f := 55) rfl ?_);refine gl_ (some 5) Tryd.func55 #[.int .i64 a0_0,.int .i64 1,.int .i64 1000] ?_;(with_reducible refine (impl_inside.calls _ _ _ _ _ A2.out).mono ?_);rintro e w' ⟨rfl,⟨nd,rfl⟩⟩;refine ⟨_,rfl,?_⟩)|(go_at_call 55;(with_reducible refine (impl_inside.calls _ _ _ _ _ A4.out).mono ?_);rintro e w' ⟨rfl,⟨nd,rfl⟩⟩)|(go_at_call 58;(with_reducible refine (impl_arePrintable.calls _ _ _ _ A7.out).mono ?_);rintro e w' ⟨rfl,⟨nd,rfl⟩⟩)|(go_at_call 60;(with_reducible refine (strings_Contains.calls _ _ _ _ A9.out).mono ?_);rintro e w' ⟨rfl,⟨nd,rfl⟩⟩));go_ret;exact ⟨by first|rfl|(simp [*];done),wB_⟩
def impl_IsValidLocale_1.f (k : Nat) (a0_0 : Int) (a0_1 : Int) (a0_2 : ByteArray) : Option (Bool) := (impl_isOrdinalRule.f k a0_0 a0_1 a0_2).bind fun t283 => (some (!t283))
set_option maxHeartbeats 8000000 in
set_option maxRecDepth 100000 in
theorem impl_IsValidLocale_1.calls (k : Nat) (a0_0 : Int) (a0_1 : Int) (a0_2 : ByteArray) (r : Bool) (w : World) (h : impl_IsValidLocale_1.f k a0_0 a0_1 a0_2 = some r) :
  Calls Tryd.prog 34 #[.agg #[.int .i64 a0_0,.int .i64 a0_1,.string a0_2]] w fun e w' => e = .returned (.bool r) ∧ Below w.heap.size w w' := by
 have hu66 := Tryd.underlying66;have HB := aM (Below.refl w.heap.size w);have H : ((impl_isOrdinalRule.f k a0_0 a0_1 a0_2).bind fun t283 => (some (!t283))) = some r := h;clear h;obtain ⟨t283,A2,H⟩ := bE_ H;obtain rfl := Option.some.inj H;simp only [eS,eP] at H;obtain ⟨rfl⟩ := H;go_enter Tryd.func34,Tryd.ntmps34;go_wp2_with (first|((with_reducible refine gate_dst (N := 1) rfl ?_);refine bx_ (N := 1) (cs := #[.int .i64 a0_0,.int .i64 a0_1,.string a0_2]) (t := 66) ?_;intro gb282 hg w3 hbox hb;have BK282 := aM (hbox);have GW282 := aM ((by rw [hg];exact (lZ wB_) : w.heap.size ≤ gb282));have GE282 := GW282;replace HB := aM (lT wB_ hb);clear hb hbox hg;obtain ⟨hcz4_0,hcz4_1,hcz4_2,hfz4_0,hfz4_1,hfz4_2⟩ := z3_ BK282.out)|((with_reducible refine gate_callee (f := 35) rfl ?_);refine gl_ (some 4) Tryd.func35 #[.agg #[.int .i64 a0_0,.int .i64 a0_1,.string a0_2]] ?_;(with_reducible refine (impl_isOrdinalRule.calls k a0_0 a0_1 a0_2 t283 _ A2.out).mono ?_);rintro e w5 ⟨rfl,hb⟩;refine ⟨_,rfl,?_⟩;replace BK282 := aM (bw_ BK282.out hb);replace HB := aM (lT wB_ hb)));go_ret;exact ⟨by first|rfl|(simp [*];done),wB_⟩
def impl_OrdinalRule_59.l0 : Nat → List (S66) → Int → Int → Option (Int)
 | 0,_,_,_ => none
 | k + 1,x0,x7,x8 => if x8 < x7 then (if 0 ≤ x8 then (if x8 < (x0.length : Int) then ((impl_IsValidLocale_1.f k ((rd_T66 x0 x8).f0) ((rd_T66 x0 x8).f1) ((rd_T66 x0 x8).f2)).bind fun t285 => (if t285 = true then (some x8) else (impl_OrdinalRule_59.l0 k x0 x7 (wrap64 (x8 + 1))))) else (none)) else (none)) else (some (-1))
def impl_OrdinalRule_59.f (k : Nat) (l0 : List (S66)) (a1 : Int) : Option (Int) := impl_OrdinalRule_59.l0 k l0 (l0.length : Int) 0
set_option maxHeartbeats 8000000 in
set_option maxRecDepth 100000 in
theorem impl_OrdinalRule_59.calls (k : Nat) (A0 : Option Addr) (c0 : Nat) (l0 : List (S66)) (a1 : Int) (r : Int) (w : World) (hr0 : Kd.C k66 w A0 l0.length l0) (hc0 : l0.length ≤ c0) (h : impl_OrdinalRule_59.f k l0 a1 = some r) :
  Calls Tryd.prog 59 #[.slice A0 l0.length c0,.func (.func 34) #[] #[]] w fun e w' => e = .returned (.int .i64 r) ∧ Below w.heap.size w w' := by
 have hu66 := Tryd.underlying66;have HR0 := aM hr0;have HC0 := aM hc0;clear hr0 hc0;have HB := aM (Below.refl w.heap.size w);have H : (impl_OrdinalRule_59.l0 k l0 (l0.length : Int) 0) = some r := h;clear h;have H' := aM H;clear H;go_enter Tryd.func59,Tryd.ntmps59;go_wp2;go_loopg [8] k (fun kq v8 w' => ∃ (x8_1 : Int),v8 = .int .i64 x8_1 ∧ Aside0 (impl_OrdinalRule_59.l0 kq l0 (l0.length : Int) x8_1 = some r) ∧ Aside0 (kq ≤ k) ∧ Aside0 (Below w.heap.size w w'))
 case atStart => exact ⟨(0),(by first|rfl|(simp [*];done)),H',⟨Nat.le_refl _⟩,⟨wB_⟩⟩
 case round =>
  clear H';obtain ⟨x8_1,rfl,HA,HK1,HB⟩ := hrel
  cases gk with
  | zero => exact absurd HA.out (by simp [impl_OrdinalRule_59.l0])
  | succ k1 =>
   have H := HA.out;clear HA;simp only [impl_OrdinalRule_59.l0] at H
   by_cases c3 : x8_1 < (l0.length : Int)
   focus
    rw [if_pos c3] at H;have c3b0 : decide (x8_1 < (l0.length : Int)) = true := dT c3;clear c3
    by_cases c4 : 0 ≤ x8_1
    rotate_left;rw [if_neg c4] at H;exact absurd H (by simp);rw [if_pos c4] at H;have c4b0 : decide (0 ≤ x8_1) = true := dT c4;clear c4
    by_cases c5 : x8_1 < (l0.length : Int)
    rotate_left;rw [if_neg c5] at H;exact absurd H (by simp);rw [if_pos c5] at H;have c5b0 : decide (x8_1 < (l0.length : Int)) = true := dT c5;clear c5;obtain ⟨t285,A6,H⟩ := bE_ H
    by_cases c7 : t285 = true
    focus
     subst c7;rw [if_pos rfl] at H;obtain rfl := Option.some.inj H;simp only [eS,eP] at H;obtain ⟨rfl⟩ := H
    rotate_left
    focus
     replace c7 := Bool.eq_false_iff.mpr c7;subst c7;rw [if_neg Bool.false_ne_true] at H;have H' := aM H;clear H
   rotate_left 2
   focus
    rw [if_neg c3] at H;have c3b0 : decide (x8_1 < (l0.length : Int)) = false := dF c3;clear c3;obtain rfl := Option.some.inj H;simp only [eS,eP] at H;obtain ⟨rfl⟩ := H
   all_goals
    (try (have p01 : 0 ≤ (x8_1 : Int) := oD (by assumption);have q01 : x8_1 < (l0.length : Int) := oD (by assumption);obtain ⟨ad01,e01,hx01_0,hx01_1,hx01_2⟩ := at_T66 HR0.out x8_1 p01 q01;cases e01;replace hx01_0 := (HB.out.cell (wB w _ hx01_0)).trans hx01_0;replace hx01_1 := (HB.out.cell (wB w _ hx01_1)).trans hx01_1;replace hx01_2 := (HB.out.cell (wB w _ hx01_2)).trans hx01_2;replace p01 := eq_true p01;replace q01 := eq_true q01));go_wp2_with (first|(go_at_call 34;(with_reducible refine (impl_IsValidLocale_1.calls _ _ _ _ _ _ A6.out).mono ?_);rintro e WA6 ⟨rfl,hb⟩;replace HB := aM (lT wB_ hb)))
    first
     |
      go_ret;exact ⟨by first|rfl|(simp [*];done),wB_⟩
     |
      go_roundg k1
      case measure => have := HK1.out;omega
      case rel => exact ⟨(wrap64 (x8_1 + 1)),(by first|rfl|(simp [*];done)),H',⟨by have := HK1.out;omega⟩,⟨wB_⟩⟩
def impl_OrdinalRule_33.f (k : Nat) (l0 : List (S66)) (a1 : Int) : Option (Bool) := (impl_OrdinalRule_59.f k l0 a1).bind fun t286 => (some (decide (t286 ≥ 0)))
set_option maxHeartbeats 8000000 in
set_option maxRecDepth 100000 in
theorem impl_OrdinalRule_33.calls (k : Nat) (A0 : Option Addr) (c0 : Nat) (l0 : List (S66)) (a1 : Int) (r : Bool) (w : World) (hr0 : Kd.C k66 w A0 l0.length l0) (hc0 : l0.length ≤ c0) (h : impl_OrdinalRule_33.f k l0 a1 = some r) :
  Calls Tryd.prog 33 #[.slice A0 l0.length c0,.func (.func 34) #[] #[]] w fun e w' => e = .returned (.bool r) ∧ Below w.heap.size w w' := by
 have HR0 := aM hr0;have HC0 := aM hc0;clear hr0 hc0;have HB := aM (Below.refl w.heap.size w);have H : ((impl_OrdinalRule_59.f k l0 a1).bind fun t286 => (some (decide (t286 ≥ 0)))) = some r := h;clear h;obtain ⟨t286,A3,H⟩ := bE_ H;obtain rfl := Option.some.inj H;simp only [eS,eP] at H;obtain ⟨rfl⟩ := H;go_enter Tryd.func33,Tryd.ntmps33;go_wp2_with (first|((with_reducible refine gate_callee (f := 59) rfl ?_);refine gl_ (some 7) Tryd.func59 #[.slice A0 l0.length c0,.func (.func 34) #[] #[]] ?_;(with_reducible refine (impl_OrdinalRule_59.calls k _ _ l0 a1 t286 _ ?side1 ?side2 A3.out).mono ?_);(case side1 => repeat (first|exact HR0.out|(with_reducible first|refine cA ?_ _|refine cN ?_ _|refine cD ?_)));(case side2 => exact HC0.out);rintro e w4 ⟨rfl,hb⟩;refine ⟨_,rfl,?_⟩;replace HB := aM (lT wB_ hb)));go_ret;exact ⟨by first|rfl|(simp [*];done),wB_⟩
end Go.Proofs.YtleckcbiifhanaaDoor.P
