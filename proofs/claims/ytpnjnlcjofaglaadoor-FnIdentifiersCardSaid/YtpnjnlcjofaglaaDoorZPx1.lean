/- Written by a program in this session: each theorem here says that a Go function computes the Lean function beside it, or that a law's row holds, under the conditions that the theorem itself states. -/
import Derived.Test.YtpnjnlcjofaglaaDoorZPx0
namespace Go.Proofs.YtpnjnlcjofaglaaDoor.P
open Go.RowKit Go.Proofs.YtpnjnlcjofaglaaDoorW.PrintWords Go.Proofs.YtpnjnlcjofaglaaDoorW.PrintLast Go.Proofs.YtpnjnlcjofaglaaDoorW.PrintMore
attribute [local go_sem] max2_int min2_int max_two min_two max_three min_three max_four min_four   -- for this text's walks alone
set_option linter.unusedVariables false
set_option linter.unusedSimpArgs false
def spec_l6Digit.f (a0 : Int) : Option (Bool) := if a0 ≥ 48 then (some (decide (a0 ≤ 57))) else (some false)
set_option maxHeartbeats 8000000 in
set_option maxRecDepth 100000 in
theorem spec_l6Digit.calls (a0 : Int) (r : Bool) (w : World) (h : spec_l6Digit.f a0 = some r) :
  Calls Tryd.prog 38 #[.int .u8 a0] w fun e w' => e = .returned (.bool r) ∧ Drawn0 w w' := by
 have H : (if a0 ≥ 48 then (some (decide (a0 ≤ 57))) else (some false)) = some r := h
 clear h
 by_cases c2 : a0 ≥ 48
 ·rw [if_pos c2] at H
  have c2b0 : decide (48 ≤ a0) = true := decide_eq_true c2
  clear c2
  obtain rfl := Option.some.inj H
  simp only [Option.some.injEq,Prod.mk.injEq] at H
  obtain ⟨rfl⟩ := H
  go_enter Tryd.func38,Tryd.ntmps38
  go_wp2
  go_ret
  exact ⟨by first|rfl|(simp;done)|(simp [my_isEmpty];done)|(simp [*];done),by repeat (first|exact Drawn0.refl _|apply Drawn0.step)⟩
 ·rw [if_neg c2] at H
  have c2b0 : decide (48 ≤ a0) = false := decide_eq_false c2
  clear c2
  obtain rfl := Option.some.inj H
  simp only [Option.some.injEq,Prod.mk.injEq] at H
  obtain ⟨rfl⟩ := H
  go_enter Tryd.func38,Tryd.ntmps38
  go_wp2
  go_ret
  exact ⟨by first|rfl|(simp;done)|(simp [my_isEmpty];done)|(simp [*];done),by repeat (first|exact Drawn0.refl _|apply Drawn0.step)⟩
def spec_l24Length.f (a0 : Int) : Option (Int) := if a0 = 1 then (some 10) else (if a0 = 2 then (some 13) else (if a0 = 3 then (some 8) else (if a0 = 4 then (some 16) else (some 0))))
set_option maxHeartbeats 8000000 in
set_option maxRecDepth 100000 in
theorem spec_l24Length.calls (a0 : Int) (r : Int) (w : World) (h : spec_l24Length.f a0 = some r) :
  Calls Tryd.prog 69 #[.int .i64 a0] w fun e w' => e = .returned (.int .i64 r) ∧ Drawn0 w w' := by
 have H : (if a0 = 1 then (some 10) else (if a0 = 2 then (some 13) else (if a0 = 3 then (some 8) else (if a0 = 4 then (some 16) else (some 0))))) = some r := h
 clear h
 by_cases c2 : a0 = 1
 ·rw [if_pos c2] at H
  have c2b0 : (a0 == 1) = true := beq_iff_eq.mpr c2
  have c2b1 : (a0 != 1) = false := bne_eq_false_iff_eq.mpr c2
  clear c2
  obtain rfl := Option.some.inj H
  simp only [Option.some.injEq,Prod.mk.injEq] at H
  obtain ⟨rfl⟩ := H
  go_enter Tryd.func69,Tryd.ntmps69
  go_wp2
  go_ret
  exact ⟨by first|rfl|(simp;done)|(simp [my_isEmpty];done)|(simp [*];done),by repeat (first|exact Drawn0.refl _|apply Drawn0.step)⟩
 ·rw [if_neg c2] at H
  have c2b0 : (a0 == 1) = false := beq_eq_false_iff_ne.mpr c2
  have c2b1 : (a0 != 1) = true := bne_iff_ne.mpr c2
  by_cases c3 : a0 = 2
  ·rw [if_pos c3] at H
   have c3b0 : (a0 == 2) = true := beq_iff_eq.mpr c3
   have c3b1 : (a0 != 2) = false := bne_eq_false_iff_eq.mpr c3
   clear c3
   obtain rfl := Option.some.inj H
   simp only [Option.some.injEq,Prod.mk.injEq] at H
   obtain ⟨rfl⟩ := H
   go_enter Tryd.func69,Tryd.ntmps69
   go_wp2
   go_ret
   exact ⟨by first|rfl|(simp;done)|(simp [my_isEmpty];done)|(simp [*];done),by repeat (first|exact Drawn0.refl _|apply Drawn0.step)⟩
  ·rw [if_neg c3] at H
   have c3b0 : (a0 == 2) = false := beq_eq_false_iff_ne.mpr c3
   have c3b1 : (a0 != 2) = true := bne_iff_ne.mpr c3
   by_cases c4 : a0 = 3
   ·rw [if_pos c4] at H
    have c4b0 : (a0 == 3) = true := beq_iff_eq.mpr c4
    have c4b1 : (a0 != 3) = false := bne_eq_false_iff_eq.mpr c4
    clear c4
    obtain rfl := Option.some.inj H
    simp only [Option.some.injEq,Prod.mk.injEq] at H
    obtain ⟨rfl⟩ := H
    go_enter Tryd.func69,Tryd.ntmps69
    go_wp2
    go_ret
    exact ⟨by first|rfl|(simp;done)|(simp [my_isEmpty];done)|(simp [*];done),by repeat (first|exact Drawn0.refl _|apply Drawn0.step)⟩
   ·rw [if_neg c4] at H
    have c4b0 : (a0 == 3) = false := beq_eq_false_iff_ne.mpr c4
    have c4b1 : (a0 != 3) = true := bne_iff_ne.mpr c4
    by_cases c5 : a0 = 4
    ·rw [if_pos c5] at H
     have c5b0 : (a0 == 4) = true := beq_iff_eq.mpr c5
     have c5b1 : (a0 != 4) = false := bne_eq_false_iff_eq.mpr c5
     clear c5
     obtain rfl := Option.some.inj H
     simp only [Option.some.injEq,Prod.mk.injEq] at H
     obtain ⟨rfl⟩ := H
     go_enter Tryd.func69,Tryd.ntmps69
     go_wp2
     go_ret
     exact ⟨by first|rfl|(simp;done)|(simp [my_isEmpty];done)|(simp [*];done),by repeat (first|exact Drawn0.refl _|apply Drawn0.step)⟩
    ·rw [if_neg c5] at H
     have c5b0 : (a0 == 4) = false := beq_eq_false_iff_ne.mpr c5
     have c5b1 : (a0 != 4) = true := bne_iff_ne.mpr c5
     obtain rfl := Option.some.inj H
     simp only [Option.some.injEq,Prod.mk.injEq] at H
     obtain ⟨rfl⟩ := H
     go_enter Tryd.func69,Tryd.ntmps69
     go_wp2
     go_ret
     exact ⟨by first|rfl|(simp;done)|(simp [my_isEmpty];done)|(simp [*];done),by repeat (first|exact Drawn0.refl _|apply Drawn0.step)⟩
def spec_l24Form.l0 : Nat → Int → ByteArray → Int → Option (Bool)
 | 0,_,_,_ => none
 | k + 1,x0,x1,x5 => if x5 < (x1.size : Int) then (if x5 = (wrap64 ((x1.size : Int) - 1)) then (if x0 = 2 then (if 0 ≤ x5 then ((spec_l6Digit.f (bt x1 x5)).bind fun t101 => (if t101 = true then (spec_l24Form.l0 k x0 x1 (wrap64 (x5 + 1))) else (some false))) else (none)) else (if 0 ≤ x5 then ((spec_l6Digit.f (bt x1 x5)).bind fun t102 => (if t102 = true then (spec_l24Form.l0 k x0 x1 (wrap64 (x5 + 1))) else (if ((bt x1 x5) = 88) then (spec_l24Form.l0 k x0 x1 (wrap64 (x5 + 1))) else (some false)))) else (none))) else (if 0 ≤ x5 then ((spec_l6Digit.f (bt x1 x5)).bind fun t103 => (if t103 = true then (spec_l24Form.l0 k x0 x1 (wrap64 (x5 + 1))) else (some false))) else (none))) else (if x0 ≥ 1 then (if x0 ≤ 4 then ((spec_l24Length.f x0).bind fun t104 => (some ((x1.size : Int) == t104))) else (some false)) else (some false))
def spec_l24Form.f (k : Nat) (a0 : Int) (a1 : ByteArray) : Option (Bool) := spec_l24Form.l0 k a0 a1 0
theorem spec_l24Form.mono_l : ∀ k,(∀ y0 y1 y2,LeO (spec_l24Form.l0 k y0 y1 y2) (spec_l24Form.l0 (k + 1) y0 y1 y2))
 | 0 => fun _ _ _ r h => by simp [spec_l24Form.l0] at h
 | k + 1 => by
  have ih0 := spec_l24Form.mono_l k
  ·intro y0 y1 y2
   unfold spec_l24Form.l0
   repeat' first
   | (with_reducible exact ih0 _ _ _)
   | (with_reducible exact LeO.refl _)
   | (with_reducible exact LeO.none _)
   | (with_reducible refine LeO.ite ?_ ?_)
   | (with_reducible refine LeO.bind ?_ (fun _ => ?_))
   | exact ih0 _ _ _
   | exact LeO.none _
   | refine LeO.ite ?_ ?_
   | refine LeO.bind ?_ (fun _ => ?_)
theorem spec_l24Form.mono : ∀ a0 a1 k,LeO (spec_l24Form.f k a0 a1) (spec_l24Form.f (k + 1) a0 a1) := by
 intro a0 a1 k
 have ih0 := spec_l24Form.mono_l k
 unfold spec_l24Form.f
 repeat' first
   | (with_reducible exact ih0 _ _ _)
   | (with_reducible exact LeO.refl _)
   | (with_reducible exact LeO.none _)
   | (with_reducible refine LeO.ite ?_ ?_)
   | (with_reducible refine LeO.bind ?_ (fun _ => ?_))
   | exact ih0 _ _ _
   | exact LeO.none _
   | refine LeO.ite ?_ ?_
   | refine LeO.bind ?_ (fun _ => ?_)
set_option maxHeartbeats 8000000 in
set_option maxRecDepth 100000 in
theorem spec_l24Form.calls (k : Nat) (a0 : Int) (a1 : ByteArray) (r : Bool) (w : World) (h : spec_l24Form.f k a0 a1 = some r) :
  Calls Tryd.prog 57 #[.int .i64 a0,.string a1] w fun e w' => e = .returned (.bool r) ∧ Drawn0 w w' := by
 have H : (spec_l24Form.l0 k a0 a1 0) = some r := h
 clear h
 have H' := Aside0.mk H
 clear H
 go_enter Tryd.func57,Tryd.ntmps57
 go_wp2
 go_loopg [5] k (fun kq v5 w' => ∃ (x5_1 : Int),v5 = .int .i64 x5_1 ∧ Aside0 (spec_l24Form.l0 kq a0 a1 x5_1 = some r) ∧ Aside0 (kq ≤ k) ∧ Drawn0 w w')
 case atStart => exact ⟨(0),(by first|rfl|(simp;done)|(simp [my_isEmpty];done)|(simp [*];done)),H',⟨Nat.le_refl _⟩,by repeat (first|exact Drawn0.refl _|apply Drawn0.step)⟩
 case round =>
  clear H'
  try clear p2
  obtain ⟨x5_1,rfl,HA,HK1,⟨m1,rfl⟩⟩ := hrel
  cases gk with
  | zero => exact absurd HA.out (by simp [spec_l24Form.l0])
  | succ k1 =>
   have H := HA.out
   clear HA
   simp only [spec_l24Form.l0] at H
   by_cases c3 : x5_1 < (a1.size : Int)
   ·rw [if_pos c3] at H
    have c3b0 : decide (x5_1 < (a1.size : Int)) = true := decide_eq_true c3
    clear c3
    by_cases c4 : x5_1 = (wrap64 ((a1.size : Int) - 1))
    ·rw [if_pos c4] at H
     have c4b0 : (x5_1 == (wrap64 ((a1.size : Int) - 1))) = true := beq_iff_eq.mpr c4
     have c4b1 : (x5_1 != (wrap64 ((a1.size : Int) - 1))) = false := bne_eq_false_iff_eq.mpr c4
     clear c4
     by_cases c5 : a0 = 2
     ·rw [if_pos c5] at H
      have c5b0 : (a0 == 2) = true := beq_iff_eq.mpr c5
      have c5b1 : (a0 != 2) = false := bne_eq_false_iff_eq.mpr c5
      clear c5
      by_cases c6 : 0 ≤ x5_1
      ·rw [if_pos c6] at H
       have c6b0 : decide (0 ≤ x5_1) = true := decide_eq_true c6
       clear c6
       replace H := Option.bind_eq_some_iff.mp H
       obtain ⟨t101,A80,H⟩ := H
       replace H : (if t101 = true then (spec_l24Form.l0 k1 a0 a1 (wrap64 (x5_1 + 1))) else (some false)) = some r := H
       have A8 := Aside0.mk A80
       clear A80
       by_cases c9 : t101 = true
       ·subst c9
        have H1 : (spec_l24Form.l0 k1 a0 a1 (wrap64 (x5_1 + 1))) = some r := by rw [if_pos rfl] at H;exact H
        clear H
        have H := H1
        clear H1
        have H' := Aside0.mk H
        clear H
        have p7 : 0 ≤ (x5_1 : Int) := of_decide_eq_true (by first|(with_reducible assumption)|assumption)
        have q7 : x5_1 < (a1.size : Int) := of_decide_eq_true (by first|(with_reducible assumption)|assumption)
        have hx7 := bt_at a1 x5_1
        replace p7 := eq_true p7
        replace q7 := eq_true q7
        go_wp2_with (first|((with_reducible refine gate_callee (f := 38) rfl ?_);refine goesL_ (some 31) rfl rfl Tryd.func38 (by kernel_rfl) rfl #[.int .u8 (bt a1 x5_1)] rfl (by (try simp only [List.map_toArray,List.map_cons,List.map_nil]);first|done|rfl|(simp only [List.length_drop,List.length_take];rfl)) ?_;(with_reducible refine (spec_l6Digit.calls (bt a1 x5_1) true _ A8.out).mono ?_);rintro e w' ⟨rfl,⟨nd,rfl⟩⟩;refine ⟨_,rfl,?_⟩))
        go_roundg k1
        case measure => have := HK1.out;omega
        case rel => exact ⟨(wrap64 (x5_1 + 1)),(by first|rfl|(simp;done)|(simp [my_isEmpty];done)|(simp [*];done)),H',⟨by have := HK1.out;omega⟩,by repeat (first|exact Drawn0.refl _|apply Drawn0.step)⟩
       ·replace c9 := Bool.eq_false_iff.mpr c9
        subst c9
        have H1 : (some false) = some r := by rw [if_neg (show ¬ (false = true) by decide)] at H;exact H
        clear H
        have H := H1
        clear H1
        obtain rfl := Option.some.inj H
        simp only [Option.some.injEq,Prod.mk.injEq] at H
        obtain ⟨rfl⟩ := H
        have p7 : 0 ≤ (x5_1 : Int) := of_decide_eq_true (by first|(with_reducible assumption)|assumption)
        have q7 : x5_1 < (a1.size : Int) := of_decide_eq_true (by first|(with_reducible assumption)|assumption)
        have hx7 := bt_at a1 x5_1
        replace p7 := eq_true p7
        replace q7 := eq_true q7
        go_wp2_with (first|((with_reducible refine gate_callee (f := 38) rfl ?_);refine goesL_ (some 31) rfl rfl Tryd.func38 (by kernel_rfl) rfl #[.int .u8 (bt a1 x5_1)] rfl (by (try simp only [List.map_toArray,List.map_cons,List.map_nil]);first|done|rfl|(simp only [List.length_drop,List.length_take];rfl)) ?_;(with_reducible refine (spec_l6Digit.calls (bt a1 x5_1) false _ A8.out).mono ?_);rintro e w' ⟨rfl,⟨nd,rfl⟩⟩;refine ⟨_,rfl,?_⟩))
        go_ret
        exact ⟨by first|rfl|(simp;done)|(simp [my_isEmpty];done)|(simp [*];done),by repeat (first|exact Drawn0.refl _|apply Drawn0.step)⟩
      ·rw [if_neg c6] at H
       exact absurd H (by simp)
     ·rw [if_neg c5] at H
      have c5b0 : (a0 == 2) = false := beq_eq_false_iff_ne.mpr c5
      have c5b1 : (a0 != 2) = true := bne_iff_ne.mpr c5
      by_cases c10 : 0 ≤ x5_1
      ·rw [if_pos c10] at H
       have c10b0 : decide (0 ≤ x5_1) = true := decide_eq_true c10
       clear c10
       replace H := Option.bind_eq_some_iff.mp H
       obtain ⟨t102,A130,H⟩ := H
       replace H : (if t102 = true then (spec_l24Form.l0 k1 a0 a1 (wrap64 (x5_1 + 1))) else (if ((bt a1 x5_1) = 88) then (spec_l24Form.l0 k1 a0 a1 (wrap64 (x5_1 + 1))) else (some false))) = some r := H
       have A13 := Aside0.mk A130
       clear A130
       by_cases c14 : t102 = true
       ·subst c14
        have H1 : (spec_l24Form.l0 k1 a0 a1 (wrap64 (x5_1 + 1))) = some r := by rw [if_pos rfl] at H;exact H
        clear H
        have H := H1
        clear H1
        have H' := Aside0.mk H
        clear H
        have p11 : 0 ≤ (x5_1 : Int) := of_decide_eq_true (by first|(with_reducible assumption)|assumption)
        have q11 : x5_1 < (a1.size : Int) := of_decide_eq_true (by first|(with_reducible assumption)|assumption)
        have hx11 := bt_at a1 x5_1
        replace p11 := eq_true p11
        replace q11 := eq_true q11
        have p12 : 0 ≤ (x5_1 : Int) := of_decide_eq_true (by first|(with_reducible assumption)|assumption)
        have q12 : x5_1 < (a1.size : Int) := of_decide_eq_true (by first|(with_reducible assumption)|assumption)
        have hx12 := bt_at a1 x5_1
        replace p12 := eq_true p12
        replace q12 := eq_true q12
        go_wp2_with (first|((with_reducible refine gate_callee (f := 38) rfl ?_);refine goesL_ (some 31) rfl rfl Tryd.func38 (by kernel_rfl) rfl #[.int .u8 (bt a1 x5_1)] rfl (by (try simp only [List.map_toArray,List.map_cons,List.map_nil]);first|done|rfl|(simp only [List.length_drop,List.length_take];rfl)) ?_;(with_reducible refine (spec_l6Digit.calls (bt a1 x5_1) true _ A13.out).mono ?_);rintro e w' ⟨rfl,⟨nd,rfl⟩⟩;refine ⟨_,rfl,?_⟩))
        go_roundg k1
        case measure => have := HK1.out;omega
        case rel => exact ⟨(wrap64 (x5_1 + 1)),(by first|rfl|(simp;done)|(simp [my_isEmpty];done)|(simp [*];done)),H',⟨by have := HK1.out;omega⟩,by repeat (first|exact Drawn0.refl _|apply Drawn0.step)⟩
       ·replace c14 := Bool.eq_false_iff.mpr c14
        subst c14
        have H1 : (if ((bt a1 x5_1) = 88) then (spec_l24Form.l0 k1 a0 a1 (wrap64 (x5_1 + 1))) else (some false)) = some r := by rw [if_neg (show ¬ (false = true) by decide)] at H;exact H
        clear H
        have H := H1
        clear H1
        by_cases c15 : ((bt a1 x5_1) = 88)
        ·rw [if_pos c15] at H
         have c15b0 : ((bt a1 x5_1) == 88) = true := beq_iff_eq.mpr c15
         have c15b1 : ((bt a1 x5_1) != 88) = false := bne_eq_false_iff_eq.mpr c15
         clear c15
         have H' := Aside0.mk H
         clear H
         have p11 : 0 ≤ (x5_1 : Int) := of_decide_eq_true (by first|(with_reducible assumption)|assumption)
         have q11 : x5_1 < (a1.size : Int) := of_decide_eq_true (by first|(with_reducible assumption)|assumption)
         have hx11 := bt_at a1 x5_1
         replace p11 := eq_true p11
         replace q11 := eq_true q11
         have p12 : 0 ≤ (x5_1 : Int) := of_decide_eq_true (by first|(with_reducible assumption)|assumption)
         have q12 : x5_1 < (a1.size : Int) := of_decide_eq_true (by first|(with_reducible assumption)|assumption)
         have hx12 := bt_at a1 x5_1
         replace p12 := eq_true p12
         replace q12 := eq_true q12
         go_wp2_with (first|((with_reducible refine gate_callee (f := 38) rfl ?_);refine goesL_ (some 31) rfl rfl Tryd.func38 (by kernel_rfl) rfl #[.int .u8 (bt a1 x5_1)] rfl (by (try simp only [List.map_toArray,List.map_cons,List.map_nil]);first|done|rfl|(simp only [List.length_drop,List.length_take];rfl)) ?_;(with_reducible refine (spec_l6Digit.calls (bt a1 x5_1) false _ A13.out).mono ?_);rintro e w' ⟨rfl,⟨nd,rfl⟩⟩;refine ⟨_,rfl,?_⟩))
         go_roundg k1
         case measure => have := HK1.out;omega
         case rel => exact ⟨(wrap64 (x5_1 + 1)),(by first|rfl|(simp;done)|(simp [my_isEmpty];done)|(simp [*];done)),H',⟨by have := HK1.out;omega⟩,by repeat (first|exact Drawn0.refl _|apply Drawn0.step)⟩
        ·rw [if_neg c15] at H
         have c15b0 : ((bt a1 x5_1) == 88) = false := beq_eq_false_iff_ne.mpr c15
         have c15b1 : ((bt a1 x5_1) != 88) = true := bne_iff_ne.mpr c15
         obtain rfl := Option.some.inj H
         simp only [Option.some.injEq,Prod.mk.injEq] at H
         obtain ⟨rfl⟩ := H
         have p11 : 0 ≤ (x5_1 : Int) := of_decide_eq_true (by first|(with_reducible assumption)|assumption)
         have q11 : x5_1 < (a1.size : Int) := of_decide_eq_true (by first|(with_reducible assumption)|assumption)
         have hx11 := bt_at a1 x5_1
         replace p11 := eq_true p11
         replace q11 := eq_true q11
         have p12 : 0 ≤ (x5_1 : Int) := of_decide_eq_true (by first|(with_reducible assumption)|assumption)
         have q12 : x5_1 < (a1.size : Int) := of_decide_eq_true (by first|(with_reducible assumption)|assumption)
         have hx12 := bt_at a1 x5_1
         replace p12 := eq_true p12
         replace q12 := eq_true q12
         go_wp2_with (first|((with_reducible refine gate_callee (f := 38) rfl ?_);refine goesL_ (some 31) rfl rfl Tryd.func38 (by kernel_rfl) rfl #[.int .u8 (bt a1 x5_1)] rfl (by (try simp only [List.map_toArray,List.map_cons,List.map_nil]);first|done|rfl|(simp only [List.length_drop,List.length_take];rfl)) ?_;(with_reducible refine (spec_l6Digit.calls (bt a1 x5_1) false _ A13.out).mono ?_);rintro e w' ⟨rfl,⟨nd,rfl⟩⟩;refine ⟨_,rfl,?_⟩))
         go_ret
         exact ⟨by first|rfl|(simp;done)|(simp [my_isEmpty];done)|(simp [*];done),by repeat (first|exact Drawn0.refl _|apply Drawn0.step)⟩
      ·rw [if_neg c10] at H
       exact absurd H (by simp)
    ·rw [if_neg c4] at H
     have c4b0 : (x5_1 == (wrap64 ((a1.size : Int) - 1))) = false := beq_eq_false_iff_ne.mpr c4
     have c4b1 : (x5_1 != (wrap64 ((a1.size : Int) - 1))) = true := bne_iff_ne.mpr c4
     by_cases c16 : 0 ≤ x5_1
     ·rw [if_pos c16] at H
      have c16b0 : decide (0 ≤ x5_1) = true := decide_eq_true c16
      clear c16
      replace H := Option.bind_eq_some_iff.mp H
      obtain ⟨t103,A180,H⟩ := H
      replace H : (if t103 = true then (spec_l24Form.l0 k1 a0 a1 (wrap64 (x5_1 + 1))) else (some false)) = some r := H
      have A18 := Aside0.mk A180
      clear A180
      by_cases c19 : t103 = true
      ·subst c19
       have H1 : (spec_l24Form.l0 k1 a0 a1 (wrap64 (x5_1 + 1))) = some r := by rw [if_pos rfl] at H;exact H
       clear H
       have H := H1
       clear H1
       have H' := Aside0.mk H
       clear H
       have p17 : 0 ≤ (x5_1 : Int) := of_decide_eq_true (by first|(with_reducible assumption)|assumption)
       have q17 : x5_1 < (a1.size : Int) := of_decide_eq_true (by first|(with_reducible assumption)|assumption)
       have hx17 := bt_at a1 x5_1
       replace p17 := eq_true p17
       replace q17 := eq_true q17
       go_wp2_with (first|((with_reducible refine gate_callee (f := 38) rfl ?_);refine goesL_ (some 31) rfl rfl Tryd.func38 (by kernel_rfl) rfl #[.int .u8 (bt a1 x5_1)] rfl (by (try simp only [List.map_toArray,List.map_cons,List.map_nil]);first|done|rfl|(simp only [List.length_drop,List.length_take];rfl)) ?_;(with_reducible refine (spec_l6Digit.calls (bt a1 x5_1) true _ A18.out).mono ?_);rintro e w' ⟨rfl,⟨nd,rfl⟩⟩;refine ⟨_,rfl,?_⟩))
       go_roundg k1
       case measure => have := HK1.out;omega
       case rel => exact ⟨(wrap64 (x5_1 + 1)),(by first|rfl|(simp;done)|(simp [my_isEmpty];done)|(simp [*];done)),H',⟨by have := HK1.out;omega⟩,by repeat (first|exact Drawn0.refl _|apply Drawn0.step)⟩
      ·replace c19 := Bool.eq_false_iff.mpr c19
       subst c19
       have H1 : (some false) = some r := by rw [if_neg (show ¬ (false = true) by decide)] at H;exact H
       clear H
       have H := H1
       clear H1
       obtain rfl := Option.some.inj H
       simp only [Option.some.injEq,Prod.mk.injEq] at H
       obtain ⟨rfl⟩ := H
       have p17 : 0 ≤ (x5_1 : Int) := of_decide_eq_true (by first|(with_reducible assumption)|assumption)
       have q17 : x5_1 < (a1.size : Int) := of_decide_eq_true (by first|(with_reducible assumption)|assumption)
       have hx17 := bt_at a1 x5_1
       replace p17 := eq_true p17
       replace q17 := eq_true q17
       go_wp2_with (first|((with_reducible refine gate_callee (f := 38) rfl ?_);refine goesL_ (some 31) rfl rfl Tryd.func38 (by kernel_rfl) rfl #[.int .u8 (bt a1 x5_1)] rfl (by (try simp only [List.map_toArray,List.map_cons,List.map_nil]);first|done|rfl|(simp only [List.length_drop,List.length_take];rfl)) ?_;(with_reducible refine (spec_l6Digit.calls (bt a1 x5_1) false _ A18.out).mono ?_);rintro e w' ⟨rfl,⟨nd,rfl⟩⟩;refine ⟨_,rfl,?_⟩))
       go_ret
       exact ⟨by first|rfl|(simp;done)|(simp [my_isEmpty];done)|(simp [*];done),by repeat (first|exact Drawn0.refl _|apply Drawn0.step)⟩
     ·rw [if_neg c16] at H
      exact absurd H (by simp)
   ·rw [if_neg c3] at H
    have c3b0 : decide (x5_1 < (a1.size : Int)) = false := decide_eq_false c3
    clear c3
    by_cases c20 : a0 ≥ 1
    ·rw [if_pos c20] at H
     have c20b0 : decide (1 ≤ a0) = true := decide_eq_true c20
     clear c20
     by_cases c21 : a0 ≤ 4
     ·rw [if_pos c21] at H
      have c21b0 : decide (a0 ≤ 4) = true := decide_eq_true c21
      clear c21
      replace H := Option.bind_eq_some_iff.mp H
      obtain ⟨t104,A220,H⟩ := H
      replace H : (some ((a1.size : Int) == t104)) = some r := H
      have A22 := Aside0.mk A220
      clear A220
      obtain rfl := Option.some.inj H
      simp only [Option.some.injEq,Prod.mk.injEq] at H
      obtain ⟨rfl⟩ := H
      go_wp2_with (first|(go_at_call 69;(with_reducible refine (spec_l24Length.calls a0 t104 _ A22.out).mono ?_);rintro e w' ⟨rfl,⟨nd,rfl⟩⟩))
      go_ret
      exact ⟨by first|rfl|(simp;done)|(simp [my_isEmpty];done)|(simp [*];done),by repeat (first|exact Drawn0.refl _|apply Drawn0.step)⟩
     ·rw [if_neg c21] at H
      have c21b0 : decide (a0 ≤ 4) = false := decide_eq_false c21
      clear c21
      obtain rfl := Option.some.inj H
      simp only [Option.some.injEq,Prod.mk.injEq] at H
      obtain ⟨rfl⟩ := H
      go_wp2
      go_ret
      exact ⟨by first|rfl|(simp;done)|(simp [my_isEmpty];done)|(simp [*];done),by repeat (first|exact Drawn0.refl _|apply Drawn0.step)⟩
    ·rw [if_neg c20] at H
     have c20b0 : decide (1 ≤ a0) = false := decide_eq_false c20
     clear c20
     obtain rfl := Option.some.inj H
     simp only [Option.some.injEq,Prod.mk.injEq] at H
     obtain ⟨rfl⟩ := H
     go_wp2
     go_ret
     exact ⟨by first|rfl|(simp;done)|(simp [my_isEmpty];done)|(simp [*];done),by repeat (first|exact Drawn0.refl _|apply Drawn0.step)⟩
def spec_l24Value.f (a0 : Int) : Option (Int) := if a0 = 88 then (some 10) else (some (wrap64 ((wrap64 (a0)) - 48)))
set_option maxHeartbeats 8000000 in
set_option maxRecDepth 100000 in
theorem spec_l24Value.calls (a0 : Int) (r : Int) (w : World) (h : spec_l24Value.f a0 = some r) :
  Calls Tryd.prog 61 #[.int .u8 a0] w fun e w' => e = .returned (.int .i64 r) ∧ Drawn0 w w' := by
 have H : (if a0 = 88 then (some 10) else (some (wrap64 ((wrap64 (a0)) - 48)))) = some r := h
 clear h
 by_cases c2 : a0 = 88
 ·rw [if_pos c2] at H
  have c2b0 : (a0 == 88) = true := beq_iff_eq.mpr c2
  have c2b1 : (a0 != 88) = false := bne_eq_false_iff_eq.mpr c2
  clear c2
  obtain rfl := Option.some.inj H
  simp only [Option.some.injEq,Prod.mk.injEq] at H
  obtain ⟨rfl⟩ := H
  go_enter Tryd.func61,Tryd.ntmps61
  go_wp2
  go_ret
  exact ⟨by first|rfl|(simp;done)|(simp [my_isEmpty];done)|(simp [*];done),by repeat (first|exact Drawn0.refl _|apply Drawn0.step)⟩
 ·rw [if_neg c2] at H
  have c2b0 : (a0 == 88) = false := beq_eq_false_iff_ne.mpr c2
  have c2b1 : (a0 != 88) = true := bne_iff_ne.mpr c2
  obtain rfl := Option.some.inj H
  simp only [Option.some.injEq,Prod.mk.injEq] at H
  obtain ⟨rfl⟩ := H
  go_enter Tryd.func61,Tryd.ntmps61
  go_wp2
  go_ret
  exact ⟨by first|rfl|(simp;done)|(simp [my_isEmpty];done)|(simp [*];done),by repeat (first|exact Drawn0.refl _|apply Drawn0.step)⟩
def spec_l24Alternate.l0 : Nat → ByteArray → Int → Int → Option (Int)
 | 0,_,_,_ => none
 | k + 1,x0,x3,x4 => if x4 < (x0.size : Int) then (if 0 ≤ x4 then ((spec_l24Value.f (bt x0 x4)).bind fun t105 => (spec_l24Alternate.l0 k x0 (wrap64 (x3 + (wrap64 (t105 * (wrap64 (1 + (wrap64 ((Int.tmod x4 2) * 2)))))))) (wrap64 (x4 + 1)))) else (none)) else (some x3)
def spec_l24Alternate.f (k : Nat) (a0 : ByteArray) : Option (Int) := spec_l24Alternate.l0 k a0 0 0
theorem spec_l24Alternate.mono_l : ∀ k,(∀ y0 y1 y2,LeO (spec_l24Alternate.l0 k y0 y1 y2) (spec_l24Alternate.l0 (k + 1) y0 y1 y2))
 | 0 => fun _ _ _ r h => by simp [spec_l24Alternate.l0] at h
 | k + 1 => by
  have ih0 := spec_l24Alternate.mono_l k
  ·intro y0 y1 y2
   unfold spec_l24Alternate.l0
   repeat' first
   | (with_reducible exact ih0 _ _ _)
   | (with_reducible exact LeO.refl _)
   | (with_reducible exact LeO.none _)
   | (with_reducible refine LeO.ite ?_ ?_)
   | (with_reducible refine LeO.bind ?_ (fun _ => ?_))
   | exact ih0 _ _ _
   | exact LeO.none _
   | refine LeO.ite ?_ ?_
   | refine LeO.bind ?_ (fun _ => ?_)
theorem spec_l24Alternate.mono : ∀ a0 k,LeO (spec_l24Alternate.f k a0) (spec_l24Alternate.f (k + 1) a0) := by
 intro a0 k
 have ih0 := spec_l24Alternate.mono_l k
 unfold spec_l24Alternate.f
 repeat' first
   | (with_reducible exact ih0 _ _ _)
   | (with_reducible exact LeO.refl _)
   | (with_reducible exact LeO.none _)
   | (with_reducible refine LeO.ite ?_ ?_)
   | (with_reducible refine LeO.bind ?_ (fun _ => ?_))
   | exact ih0 _ _ _
   | exact LeO.none _
   | refine LeO.ite ?_ ?_
   | refine LeO.bind ?_ (fun _ => ?_)
set_option maxHeartbeats 8000000 in
set_option maxRecDepth 100000 in
theorem spec_l24Alternate.calls (k : Nat) (a0 : ByteArray) (r : Int) (w : World) (h : spec_l24Alternate.f k a0 = some r) :
  Calls Tryd.prog 59 #[.string a0] w fun e w' => e = .returned (.int .i64 r) ∧ Drawn0 w w' := by
 have H : (spec_l24Alternate.l0 k a0 0 0) = some r := h
 clear h
 have H' := Aside0.mk H
 clear H
 go_enter Tryd.func59,Tryd.ntmps59
 go_wp2
 go_loopg [3,4] k (fun kq v3 v4 w' => ∃ (x3_1 : Int) (x4_1 : Int),v3 = .int .i64 x3_1 ∧ v4 = .int .i64 x4_1 ∧ Aside0 (spec_l24Alternate.l0 kq a0 x3_1 x4_1 = some r) ∧ Aside0 (kq ≤ k) ∧ Drawn0 w w')
 case atStart => exact ⟨(0),(0),(by first|rfl|(simp;done)|(simp [my_isEmpty];done)|(simp [*];done)),(by first|rfl|(simp;done)|(simp [my_isEmpty];done)|(simp [*];done)),H',⟨Nat.le_refl _⟩,by repeat (first|exact Drawn0.refl _|apply Drawn0.step)⟩
 case round =>
  clear H'
  obtain ⟨x3_1,x4_1,rfl,rfl,HA,HK1,⟨m1,rfl⟩⟩ := hrel
  cases gk with
  | zero => exact absurd HA.out (by simp [spec_l24Alternate.l0])
  | succ k1 =>
   have H := HA.out
   clear HA
   simp only [spec_l24Alternate.l0] at H
   by_cases c2 : x4_1 < (a0.size : Int)
   ·rw [if_pos c2] at H
    have c2b0 : decide (x4_1 < (a0.size : Int)) = true := decide_eq_true c2
    clear c2
    by_cases c3 : 0 ≤ x4_1
    ·rw [if_pos c3] at H
     have c3b0 : decide (0 ≤ x4_1) = true := decide_eq_true c3
     clear c3
     replace H := Option.bind_eq_some_iff.mp H
     obtain ⟨t105,A50,H⟩ := H
     replace H : (spec_l24Alternate.l0 k1 a0 (wrap64 (x3_1 + (wrap64 (t105 * (wrap64 (1 + (wrap64 ((Int.tmod x4_1 2) * 2)))))))) (wrap64 (x4_1 + 1))) = some r := H
     have A5 := Aside0.mk A50
     clear A50
     have H' := Aside0.mk H
     clear H
     have p4 : 0 ≤ (x4_1 : Int) := of_decide_eq_true (by first|(with_reducible assumption)|assumption)
     have q4 : x4_1 < (a0.size : Int) := of_decide_eq_true (by first|(with_reducible assumption)|assumption)
     have hx4 := bt_at a0 x4_1
     replace p4 := eq_true p4
     replace q4 := eq_true q4
     go_wp2_with (first|((with_reducible refine gate_callee (f := 61) rfl ?_);refine goesL_ (some 15) rfl rfl Tryd.func61 (by kernel_rfl) rfl #[.int .u8 (bt a0 x4_1)] rfl (by (try simp only [List.map_toArray,List.map_cons,List.map_nil]);first|done|rfl|(simp only [List.length_drop,List.length_take];rfl)) ?_;(with_reducible refine (spec_l24Value.calls (bt a0 x4_1) t105 _ A5.out).mono ?_);rintro e w' ⟨rfl,⟨nd,rfl⟩⟩;refine ⟨_,rfl,?_⟩))
     go_roundg k1
     case measure => have := HK1.out;omega
     case rel => exact ⟨(wrap64 (x3_1 + (wrap64 (t105 * (wrap64 (1 + (wrap64 ((Int.tmod x4_1 2) * 2)))))))),(wrap64 (x4_1 + 1)),(by first|rfl|(simp;done)|(simp [my_isEmpty];done)|(simp [*];done)),(by first|rfl|(simp;done)|(simp [my_isEmpty];done)|(simp [*];done)),H',⟨by have := HK1.out;omega⟩,by repeat (first|exact Drawn0.refl _|apply Drawn0.step)⟩
    ·rw [if_neg c3] at H
     exact absurd H (by simp)
   ·rw [if_neg c2] at H
    have c2b0 : decide (x4_1 < (a0.size : Int)) = false := decide_eq_false c2
    clear c2
    obtain rfl := Option.some.inj H
    simp only [Option.some.injEq,Prod.mk.injEq] at H
    obtain ⟨rfl⟩ := H
    go_wp2
    go_ret
    exact ⟨by first|rfl|(simp;done)|(simp [my_isEmpty];done)|(simp [*];done),by repeat (first|exact Drawn0.refl _|apply Drawn0.step)⟩
def spec_l24Person.l0 : Nat → ByteArray → Int → Int → Option (Int)
 | 0,_,_,_ => none
 | k + 1,x0,x3,x4 => if x4 < (x0.size : Int) then (if 0 ≤ x4 then ((spec_l24Value.f (bt x0 x4)).bind fun t106 => (spec_l24Person.l0 k x0 (Int.tmod (wrap64 (2 * (wrap64 (x3 + t106)))) 11) (wrap64 (x4 + 1)))) else (none)) else (some (Int.tmod (wrap64 (12 - x3)) 11))
def spec_l24Person.f (k : Nat) (a0 : ByteArray) : Option (Int) := spec_l24Person.l0 k a0 0 0
theorem spec_l24Person.mono_l : ∀ k,(∀ y0 y1 y2,LeO (spec_l24Person.l0 k y0 y1 y2) (spec_l24Person.l0 (k + 1) y0 y1 y2))
 | 0 => fun _ _ _ r h => by simp [spec_l24Person.l0] at h
 | k + 1 => by
  have ih0 := spec_l24Person.mono_l k
  ·intro y0 y1 y2
   unfold spec_l24Person.l0
   repeat' first
   | (with_reducible exact ih0 _ _ _)
   | (with_reducible exact LeO.refl _)
   | (with_reducible exact LeO.none _)
   | (with_reducible refine LeO.ite ?_ ?_)
   | (with_reducible refine LeO.bind ?_ (fun _ => ?_))
   | exact ih0 _ _ _
   | exact LeO.none _
   | refine LeO.ite ?_ ?_
   | refine LeO.bind ?_ (fun _ => ?_)
theorem spec_l24Person.mono : ∀ a0 k,LeO (spec_l24Person.f k a0) (spec_l24Person.f (k + 1) a0) := by
 intro a0 k
 have ih0 := spec_l24Person.mono_l k
 unfold spec_l24Person.f
 repeat' first
   | (with_reducible exact ih0 _ _ _)
   | (with_reducible exact LeO.refl _)
   | (with_reducible exact LeO.none _)
   | (with_reducible refine LeO.ite ?_ ?_)
   | (with_reducible refine LeO.bind ?_ (fun _ => ?_))
   | exact ih0 _ _ _
   | exact LeO.none _
   | refine LeO.ite ?_ ?_
   | refine LeO.bind ?_ (fun _ => ?_)
set_option maxHeartbeats 8000000 in
set_option maxRecDepth 100000 in
theorem spec_l24Person.calls (k : Nat) (a0 : ByteArray) (r : Int) (w : World) (h : spec_l24Person.f k a0 = some r) :
  Calls Tryd.prog 60 #[.string a0] w fun e w' => e = .returned (.int .i64 r) ∧ Drawn0 w w' := by
 have H : (spec_l24Person.l0 k a0 0 0) = some r := h
 clear h
 have H' := Aside0.mk H
 clear H
 go_enter Tryd.func60,Tryd.ntmps60
 go_wp2
 go_loopg [3,4] k (fun kq v3 v4 w' => ∃ (x3_1 : Int) (x4_1 : Int),v3 = .int .i64 x3_1 ∧ v4 = .int .i64 x4_1 ∧ Aside0 (spec_l24Person.l0 kq a0 x3_1 x4_1 = some r) ∧ Aside0 (kq ≤ k) ∧ Drawn0 w w')
 case atStart => exact ⟨(0),(0),(by first|rfl|(simp;done)|(simp [my_isEmpty];done)|(simp [*];done)),(by first|rfl|(simp;done)|(simp [my_isEmpty];done)|(simp [*];done)),H',⟨Nat.le_refl _⟩,by repeat (first|exact Drawn0.refl _|apply Drawn0.step)⟩
 case round =>
  clear H'
  obtain ⟨x3_1,x4_1,rfl,rfl,HA,HK1,⟨m1,rfl⟩⟩ := hrel
  cases gk with
  | zero => exact absurd HA.out (by simp [spec_l24Person.l0])
  | succ k1 =>
   have H := HA.out
   clear HA
   simp only [spec_l24Person.l0] at H
   by_cases c2 : x4_1 < (a0.size : Int)
   ·rw [if_pos c2] at H
    have c2b0 : decide (x4_1 < (a0.size : Int)) = true := decide_eq_true c2
    clear c2
    by_cases c3 : 0 ≤ x4_1
    ·rw [if_pos c3] at H
     have c3b0 : decide (0 ≤ x4_1) = true := decide_eq_true c3
     clear c3
     replace H := Option.bind_eq_some_iff.mp H
     obtain ⟨t106,A50,H⟩ := H
     replace H : (spec_l24Person.l0 k1 a0 (Int.tmod (wrap64 (2 * (wrap64 (x3_1 + t106)))) 11) (wrap64 (x4_1 + 1))) = some r := H
     have A5 := Aside0.mk A50
     clear A50
     have H' := Aside0.mk H
     clear H
     have p4 : 0 ≤ (x4_1 : Int) := of_decide_eq_true (by first|(with_reducible assumption)|assumption)
     have q4 : x4_1 < (a0.size : Int) := of_decide_eq_true (by first|(with_reducible assumption)|assumption)
     have hx4 := bt_at a0 x4_1
     replace p4 := eq_true p4
     replace q4 := eq_true q4
     go_wp2_with (first|((with_reducible refine gate_callee (f := 61) rfl ?_);refine goesL_ (some 15) rfl rfl Tryd.func61 (by kernel_rfl) rfl #[.int .u8 (bt a0 x4_1)] rfl (by (try simp only [List.map_toArray,List.map_cons,List.map_nil]);first|done|rfl|(simp only [List.length_drop,List.length_take];rfl)) ?_;(with_reducible refine (spec_l24Value.calls (bt a0 x4_1) t106 _ A5.out).mono ?_);rintro e w' ⟨rfl,⟨nd,rfl⟩⟩;refine ⟨_,rfl,?_⟩))
     go_roundg k1
     case measure => have := HK1.out;omega
     case rel => exact ⟨(Int.tmod (wrap64 (2 * (wrap64 (x3_1 + t106)))) 11),(wrap64 (x4_1 + 1)),(by first|rfl|(simp;done)|(simp [my_isEmpty];done)|(simp [*];done)),(by first|rfl|(simp;done)|(simp [my_isEmpty];done)|(simp [*];done)),H',⟨by have := HK1.out;omega⟩,by repeat (first|exact Drawn0.refl _|apply Drawn0.step)⟩
    ·rw [if_neg c3] at H
     exact absurd H (by simp)
   ·rw [if_neg c2] at H
    have c2b0 : decide (x4_1 < (a0.size : Int)) = false := decide_eq_false c2
    clear c2
    obtain rfl := Option.some.inj H
    simp only [Option.some.injEq,Prod.mk.injEq] at H
    obtain ⟨rfl⟩ := H
    go_wp2
    go_ret
    exact ⟨by first|rfl|(simp;done)|(simp [my_isEmpty];done)|(simp [*];done),by repeat (first|exact Drawn0.refl _|apply Drawn0.step)⟩
def spec_l24Weighted.l0 : Nat → ByteArray → Int → Int → Option (Int)
 | 0,_,_,_ => none
 | k + 1,x0,x3,x4 => if x4 < (x0.size : Int) then (if 0 ≤ x4 then ((spec_l24Value.f (bt x0 x4)).bind fun t107 => (spec_l24Weighted.l0 k x0 (wrap64 (x3 + (wrap64 (t107 * (wrap64 ((x0.size : Int) - x4)))))) (wrap64 (x4 + 1)))) else (none)) else (some x3)
def spec_l24Weighted.f (k : Nat) (a0 : ByteArray) : Option (Int) := spec_l24Weighted.l0 k a0 0 0
theorem spec_l24Weighted.mono_l : ∀ k,(∀ y0 y1 y2,LeO (spec_l24Weighted.l0 k y0 y1 y2) (spec_l24Weighted.l0 (k + 1) y0 y1 y2))
 | 0 => fun _ _ _ r h => by simp [spec_l24Weighted.l0] at h
 | k + 1 => by
  have ih0 := spec_l24Weighted.mono_l k
  ·intro y0 y1 y2
   unfold spec_l24Weighted.l0
   repeat' first
   | (with_reducible exact ih0 _ _ _)
   | (with_reducible exact LeO.refl _)
   | (with_reducible exact LeO.none _)
   | (with_reducible refine LeO.ite ?_ ?_)
   | (with_reducible refine LeO.bind ?_ (fun _ => ?_))
   | exact ih0 _ _ _
   | exact LeO.none _
   | refine LeO.ite ?_ ?_
   | refine LeO.bind ?_ (fun _ => ?_)
theorem spec_l24Weighted.mono : ∀ a0 k,LeO (spec_l24Weighted.f k a0) (spec_l24Weighted.f (k + 1) a0) := by
 intro a0 k
 have ih0 := spec_l24Weighted.mono_l k
 unfold spec_l24Weighted.f
 repeat' first
   | (with_reducible exact ih0 _ _ _)
   | (with_reducible exact LeO.refl _)
   | (with_reducible exact LeO.none _)
   | (with_reducible refine LeO.ite ?_ ?_)
   | (with_reducible refine LeO.bind ?_ (fun _ => ?_))
   | exact ih0 _ _ _
   | exact LeO.none _
   | refine LeO.ite ?_ ?_
   | refine LeO.bind ?_ (fun _ => ?_)
set_option maxHeartbeats 8000000 in
set_option maxRecDepth 100000 in
theorem spec_l24Weighted.calls (k : Nat) (a0 : ByteArray) (r : Int) (w : World) (h : spec_l24Weighted.f k a0 = some r) :
  Calls Tryd.prog 62 #[.string a0] w fun e w' => e = .returned (.int .i64 r) ∧ Drawn0 w w' := by
 have H : (spec_l24Weighted.l0 k a0 0 0) = some r := h
 clear h
 have H' := Aside0.mk H
 clear H
 go_enter Tryd.func62,Tryd.ntmps62
 go_wp2
 go_loopg [3,4] k (fun kq v3 v4 w' => ∃ (x3_1 : Int) (x4_1 : Int),v3 = .int .i64 x3_1 ∧ v4 = .int .i64 x4_1 ∧ Aside0 (spec_l24Weighted.l0 kq a0 x3_1 x4_1 = some r) ∧ Aside0 (kq ≤ k) ∧ Drawn0 w w')
 case atStart => exact ⟨(0),(0),(by first|rfl|(simp;done)|(simp [my_isEmpty];done)|(simp [*];done)),(by first|rfl|(simp;done)|(simp [my_isEmpty];done)|(simp [*];done)),H',⟨Nat.le_refl _⟩,by repeat (first|exact Drawn0.refl _|apply Drawn0.step)⟩
 case round =>
  clear H'
  obtain ⟨x3_1,x4_1,rfl,rfl,HA,HK1,⟨m1,rfl⟩⟩ := hrel
  cases gk with
  | zero => exact absurd HA.out (by simp [spec_l24Weighted.l0])
  | succ k1 =>
   have H := HA.out
   clear HA
   simp only [spec_l24Weighted.l0] at H
   by_cases c2 : x4_1 < (a0.size : Int)
   ·rw [if_pos c2] at H
    have c2b0 : decide (x4_1 < (a0.size : Int)) = true := decide_eq_true c2
    clear c2
    by_cases c3 : 0 ≤ x4_1
    ·rw [if_pos c3] at H
     have c3b0 : decide (0 ≤ x4_1) = true := decide_eq_true c3
     clear c3
     replace H := Option.bind_eq_some_iff.mp H
     obtain ⟨t107,A50,H⟩ := H
     replace H : (spec_l24Weighted.l0 k1 a0 (wrap64 (x3_1 + (wrap64 (t107 * (wrap64 ((a0.size : Int) - x4_1)))))) (wrap64 (x4_1 + 1))) = some r := H
     have A5 := Aside0.mk A50
     clear A50
     have H' := Aside0.mk H
     clear H
     have p4 : 0 ≤ (x4_1 : Int) := of_decide_eq_true (by first|(with_reducible assumption)|assumption)
     have q4 : x4_1 < (a0.size : Int) := of_decide_eq_true (by first|(with_reducible assumption)|assumption)
     have hx4 := bt_at a0 x4_1
     replace p4 := eq_true p4
     replace q4 := eq_true q4
     go_wp2_with (first|((with_reducible refine gate_callee (f := 61) rfl ?_);refine goesL_ (some 15) rfl rfl Tryd.func61 (by kernel_rfl) rfl #[.int .u8 (bt a0 x4_1)] rfl (by (try simp only [List.map_toArray,List.map_cons,List.map_nil]);first|done|rfl|(simp only [List.length_drop,List.length_take];rfl)) ?_;(with_reducible refine (spec_l24Value.calls (bt a0 x4_1) t107 _ A5.out).mono ?_);rintro e w' ⟨rfl,⟨nd,rfl⟩⟩;refine ⟨_,rfl,?_⟩))
     go_roundg k1
     case measure => have := HK1.out;omega
     case rel => exact ⟨(wrap64 (x3_1 + (wrap64 (t107 * (wrap64 ((a0.size : Int) - x4_1)))))),(wrap64 (x4_1 + 1)),(by first|rfl|(simp;done)|(simp [my_isEmpty];done)|(simp [*];done)),(by first|rfl|(simp;done)|(simp [my_isEmpty];done)|(simp [*];done)),H',⟨by have := HK1.out;omega⟩,by repeat (first|exact Drawn0.refl _|apply Drawn0.step)⟩
    ·rw [if_neg c3] at H
     exact absurd H (by simp)
   ·rw [if_neg c2] at H
    have c2b0 : decide (x4_1 < (a0.size : Int)) = false := decide_eq_false c2
    clear c2
    obtain rfl := Option.some.inj H
    simp only [Option.some.injEq,Prod.mk.injEq] at H
    obtain ⟨rfl⟩ := H
    go_wp2
    go_ret
    exact ⟨by first|rfl|(simp;done)|(simp [my_isEmpty];done)|(simp [*];done),by repeat (first|exact Drawn0.refl _|apply Drawn0.step)⟩
def spec_l24Is.f (k : Nat) (a0 : Int) (a1 : ByteArray) : Option (Bool) := (spec_l24Form.f k a0 a1).bind fun t108 => (if t108 = true then (if a0 = 2 then (if 0 ≤ 3 then (if 3 ≤ (a1.size : Int) then (if (a1.extract 0 3).toList = ([57,55,56] : List UInt8) then ((spec_l24Alternate.f k a1).bind fun t109 => (some ((Int.tmod t109 10) == 0))) else (if (a1.extract 0 3).toList = ([57,55,57] : List UInt8) then ((spec_l24Alternate.f k a1).bind fun t110 => (some ((Int.tmod t110 10) == 0))) else (some false))) else (none)) else (none)) else (if a0 = 4 then (if 0 ≤ 15 then (if 15 ≤ (a1.size : Int) then ((spec_l24Person.f k (a1.extract 0 15)).bind fun t111 => (if 15 < (a1.size : Int) then ((spec_l24Value.f (bt a1 15)).bind fun t112 => (some (t111 == t112))) else (none))) else (none)) else (none)) else ((spec_l24Weighted.f k a1).bind fun t113 => (some ((Int.tmod t113 11) == 0))))) else (some false))
theorem spec_l24Is.mono : ∀ a0 a1 k,LeO (spec_l24Is.f k a0 a1) (spec_l24Is.f (k + 1) a0 a1) := by
 intro a0 a1 k
 unfold spec_l24Is.f
 repeat' first
   | (with_reducible exact spec_l24Alternate.mono _ _)
   | (with_reducible exact spec_l24Form.mono _ _ _)
   | (with_reducible exact spec_l24Person.mono _ _)
   | (with_reducible exact spec_l24Weighted.mono _ _)
   | (with_reducible exact LeO.refl _)
   | (with_reducible exact LeO.none _)
   | (with_reducible refine LeO.ite ?_ ?_)
   | (with_reducible refine LeO.bind ?_ (fun _ => ?_))
   | exact spec_l24Alternate.mono _ _
   | exact spec_l24Form.mono _ _ _
   | exact spec_l24Person.mono _ _
   | exact spec_l24Weighted.mono _ _
   | exact LeO.none _
   | refine LeO.ite ?_ ?_
   | refine LeO.bind ?_ (fun _ => ?_)
set_option maxHeartbeats 8000000 in
set_option maxRecDepth 100000 in
theorem spec_l24Is.calls (k : Nat) (a0 : Int) (a1 : ByteArray) (r : Bool) (w : World) (h : spec_l24Is.f k a0 a1 = some r) :
  Calls Tryd.prog 33 #[.int .i64 a0,.string a1] w fun e w' => e = .returned (.bool r) ∧ Drawn0 w w' := by
 have H : ((spec_l24Form.f k a0 a1).bind fun t108 => (if t108 = true then (if a0 = 2 then (if 0 ≤ 3 then (if 3 ≤ (a1.size : Int) then (if (a1.extract 0 3).toList = ([57,55,56] : List UInt8) then ((spec_l24Alternate.f k a1).bind fun t109 => (some ((Int.tmod t109 10) == 0))) else (if (a1.extract 0 3).toList = ([57,55,57] : List UInt8) then ((spec_l24Alternate.f k a1).bind fun t110 => (some ((Int.tmod t110 10) == 0))) else (some false))) else (none)) else (none)) else (if a0 = 4 then (if 0 ≤ 15 then (if 15 ≤ (a1.size : Int) then ((spec_l24Person.f k (a1.extract 0 15)).bind fun t111 => (if 15 < (a1.size : Int) then ((spec_l24Value.f (bt a1 15)).bind fun t112 => (some (t111 == t112))) else (none))) else (none)) else (none)) else ((spec_l24Weighted.f k a1).bind fun t113 => (some ((Int.tmod t113 11) == 0))))) else (some false))) = some r := h
 clear h
 replace H := Option.bind_eq_some_iff.mp H
 obtain ⟨t108,A30,H⟩ := H
 replace H : (if t108 = true then (if a0 = 2 then (if 0 ≤ 3 then (if 3 ≤ (a1.size : Int) then (if (a1.extract 0 3).toList = ([57,55,56] : List UInt8) then ((spec_l24Alternate.f k a1).bind fun t109 => (some ((Int.tmod t109 10) == 0))) else (if (a1.extract 0 3).toList = ([57,55,57] : List UInt8) then ((spec_l24Alternate.f k a1).bind fun t110 => (some ((Int.tmod t110 10) == 0))) else (some false))) else (none)) else (none)) else (if a0 = 4 then (if 0 ≤ 15 then (if 15 ≤ (a1.size : Int) then ((spec_l24Person.f k (a1.extract 0 15)).bind fun t111 => (if 15 < (a1.size : Int) then ((spec_l24Value.f (bt a1 15)).bind fun t112 => (some (t111 == t112))) else (none))) else (none)) else (none)) else ((spec_l24Weighted.f k a1).bind fun t113 => (some ((Int.tmod t113 11) == 0))))) else (some false)) = some r := H
 have A3 := Aside0.mk A30
 clear A30
 by_cases c4 : t108 = true
 ·subst c4
  have H1 : (if a0 = 2 then (if 0 ≤ 3 then (if 3 ≤ (a1.size : Int) then (if (a1.extract 0 3).toList = ([57,55,56] : List UInt8) then ((spec_l24Alternate.f k a1).bind fun t109 => (some ((Int.tmod t109 10) == 0))) else (if (a1.extract 0 3).toList = ([57,55,57] : List UInt8) then ((spec_l24Alternate.f k a1).bind fun t110 => (some ((Int.tmod t110 10) == 0))) else (some false))) else (none)) else (none)) else (if a0 = 4 then (if 0 ≤ 15 then (if 15 ≤ (a1.size : Int) then ((spec_l24Person.f k (a1.extract 0 15)).bind fun t111 => (if 15 < (a1.size : Int) then ((spec_l24Value.f (bt a1 15)).bind fun t112 => (some (t111 == t112))) else (none))) else (none)) else (none)) else ((spec_l24Weighted.f k a1).bind fun t113 => (some ((Int.tmod t113 11) == 0))))) = some r := by rw [if_pos rfl] at H;exact H
  clear H
  have H := H1
  clear H1
  by_cases c5 : a0 = 2
  ·rw [if_pos c5] at H
   have c5b0 : (a0 == 2) = true := beq_iff_eq.mpr c5
   have c5b1 : (a0 != 2) = false := bne_eq_false_iff_eq.mpr c5
   clear c5
   by_cases c6 : 0 ≤ 3
   ·rw [if_pos c6] at H
    have c6b0 := eq_true c6
    have c6b1 : decide (0 ≤ 3) = true := decide_eq_true c6
    clear c6
    by_cases c7 : 3 ≤ (a1.size : Int)
    ·rw [if_pos c7] at H
     have c7b0 := eq_true c7
     have c7b1 : decide (3 ≤ (a1.size : Int)) = true := decide_eq_true c7
     clear c7
     by_cases c8 : (a1.extract 0 3).toList = ([57,55,56] : List UInt8)
     ·rw [if_pos c8] at H
      have c8b0 : ((a1.extract 0 3).toList == ([57,55,56] : List UInt8)) = true := beq_iff_eq.mpr c8
      have c8b1 : ((a1.extract 0 3).toList != ([57,55,56] : List UInt8)) = false := bne_eq_false_iff_eq.mpr c8
      clear c8
      replace H := Option.bind_eq_some_iff.mp H
      obtain ⟨t109,A90,H⟩ := H
      replace H : (some ((Int.tmod t109 10) == 0)) = some r := H
      have A9 := Aside0.mk A90
      clear A90
      obtain rfl := Option.some.inj H
      simp only [Option.some.injEq,Prod.mk.injEq] at H
      obtain ⟨rfl⟩ := H
      go_enter Tryd.func33,Tryd.ntmps33
      go_wp2_with (first|(go_at_call 57;(with_reducible refine (spec_l24Form.calls k a0 a1 true _ A3.out).mono ?_);rintro e w' ⟨rfl,⟨nd,rfl⟩⟩;(try first|exact ⟨rfl,_,World.drewN_drewN _ _ _⟩|exact ⟨rfl,_,Eq.trans (World.drewN_drewN _ _ _) (congrArg (World.drewN _) (Nat.add_assoc _ _ _))⟩))|(go_at_call 59;(with_reducible refine (spec_l24Alternate.calls k a1 t109 _ A9.out).mono ?_);rintro e w' ⟨rfl,⟨nd,rfl⟩⟩;(try first|exact ⟨rfl,_,World.drewN_drewN _ _ _⟩|exact ⟨rfl,_,Eq.trans (World.drewN_drewN _ _ _) (congrArg (World.drewN _) (Nat.add_assoc _ _ _))⟩)))
      repeat (go_quiet (first|(go_at_call 57;(with_reducible refine (spec_l24Form.calls k a0 a1 true _ A3.out).mono ?_);rintro e w' ⟨rfl,⟨nd,rfl⟩⟩;(try first|exact ⟨rfl,_,World.drewN_drewN _ _ _⟩|exact ⟨rfl,_,Eq.trans (World.drewN_drewN _ _ _) (congrArg (World.drewN _) (Nat.add_assoc _ _ _))⟩))|(go_at_call 59;(with_reducible refine (spec_l24Alternate.calls k a1 t109 _ A9.out).mono ?_);rintro e w' ⟨rfl,⟨nd,rfl⟩⟩;(try first|exact ⟨rfl,_,World.drewN_drewN _ _ _⟩|exact ⟨rfl,_,Eq.trans (World.drewN_drewN _ _ _) (congrArg (World.drewN _) (Nat.add_assoc _ _ _))⟩)));try go_wp2_with (first|(go_at_call 57;(with_reducible refine (spec_l24Form.calls k a0 a1 true _ A3.out).mono ?_);rintro e w' ⟨rfl,⟨nd,rfl⟩⟩;(try first|exact ⟨rfl,_,World.drewN_drewN _ _ _⟩|exact ⟨rfl,_,Eq.trans (World.drewN_drewN _ _ _) (congrArg (World.drewN _) (Nat.add_assoc _ _ _))⟩))|(go_at_call 59;(with_reducible refine (spec_l24Alternate.calls k a1 t109 _ A9.out).mono ?_);rintro e w' ⟨rfl,⟨nd,rfl⟩⟩;(try first|exact ⟨rfl,_,World.drewN_drewN _ _ _⟩|exact ⟨rfl,_,Eq.trans (World.drewN_drewN _ _ _) (congrArg (World.drewN _) (Nat.add_assoc _ _ _))⟩))))
      go_ret
      exact ⟨by first|rfl|(simp;done)|(simp [my_isEmpty];done)|(simp [*];done),by repeat (first|exact Drawn0.refl _|apply Drawn0.step)⟩
     ·rw [if_neg c8] at H
      have c8b0 : ((a1.extract 0 3).toList == ([57,55,56] : List UInt8)) = false := beq_eq_false_iff_ne.mpr c8
      have c8b1 : ((a1.extract 0 3).toList != ([57,55,56] : List UInt8)) = true := bne_iff_ne.mpr c8
      have c10b0 := eq_true (of_decide_eq_true (by first|(with_reducible assumption)|assumption) : 0 ≤ 3)
      have c11b0 := eq_true (of_decide_eq_true (by first|(with_reducible assumption)|assumption) : 3 ≤ (a1.size : Int))
      by_cases c12 : (a1.extract 0 3).toList = ([57,55,57] : List UInt8)
      ·rw [if_pos c12] at H
       have c12b0 : ((a1.extract 0 3).toList == ([57,55,57] : List UInt8)) = true := beq_iff_eq.mpr c12
       have c12b1 : ((a1.extract 0 3).toList != ([57,55,57] : List UInt8)) = false := bne_eq_false_iff_eq.mpr c12
       clear c12
       replace H := Option.bind_eq_some_iff.mp H
       obtain ⟨t110,A130,H⟩ := H
       replace H : (some ((Int.tmod t110 10) == 0)) = some r := H
       have A13 := Aside0.mk A130
       clear A130
       obtain rfl := Option.some.inj H
       simp only [Option.some.injEq,Prod.mk.injEq] at H
       obtain ⟨rfl⟩ := H
       go_enter Tryd.func33,Tryd.ntmps33
       go_wp2_with (first|(go_at_call 57;(with_reducible refine (spec_l24Form.calls k a0 a1 true _ A3.out).mono ?_);rintro e w' ⟨rfl,⟨nd,rfl⟩⟩;(try first|exact ⟨rfl,_,World.drewN_drewN _ _ _⟩|exact ⟨rfl,_,Eq.trans (World.drewN_drewN _ _ _) (congrArg (World.drewN _) (Nat.add_assoc _ _ _))⟩))|(go_at_call 59;(with_reducible refine (spec_l24Alternate.calls k a1 t110 _ A13.out).mono ?_);rintro e w' ⟨rfl,⟨nd,rfl⟩⟩;(try first|exact ⟨rfl,_,World.drewN_drewN _ _ _⟩|exact ⟨rfl,_,Eq.trans (World.drewN_drewN _ _ _) (congrArg (World.drewN _) (Nat.add_assoc _ _ _))⟩)))
       repeat (go_quiet (first|(go_at_call 57;(with_reducible refine (spec_l24Form.calls k a0 a1 true _ A3.out).mono ?_);rintro e w' ⟨rfl,⟨nd,rfl⟩⟩;(try first|exact ⟨rfl,_,World.drewN_drewN _ _ _⟩|exact ⟨rfl,_,Eq.trans (World.drewN_drewN _ _ _) (congrArg (World.drewN _) (Nat.add_assoc _ _ _))⟩))|(go_at_call 59;(with_reducible refine (spec_l24Alternate.calls k a1 t110 _ A13.out).mono ?_);rintro e w' ⟨rfl,⟨nd,rfl⟩⟩;(try first|exact ⟨rfl,_,World.drewN_drewN _ _ _⟩|exact ⟨rfl,_,Eq.trans (World.drewN_drewN _ _ _) (congrArg (World.drewN _) (Nat.add_assoc _ _ _))⟩)));try go_wp2_with (first|(go_at_call 57;(with_reducible refine (spec_l24Form.calls k a0 a1 true _ A3.out).mono ?_);rintro e w' ⟨rfl,⟨nd,rfl⟩⟩;(try first|exact ⟨rfl,_,World.drewN_drewN _ _ _⟩|exact ⟨rfl,_,Eq.trans (World.drewN_drewN _ _ _) (congrArg (World.drewN _) (Nat.add_assoc _ _ _))⟩))|(go_at_call 59;(with_reducible refine (spec_l24Alternate.calls k a1 t110 _ A13.out).mono ?_);rintro e w' ⟨rfl,⟨nd,rfl⟩⟩;(try first|exact ⟨rfl,_,World.drewN_drewN _ _ _⟩|exact ⟨rfl,_,Eq.trans (World.drewN_drewN _ _ _) (congrArg (World.drewN _) (Nat.add_assoc _ _ _))⟩))))
       go_ret
       exact ⟨by first|rfl|(simp;done)|(simp [my_isEmpty];done)|(simp [*];done),by repeat (first|exact Drawn0.refl _|apply Drawn0.step)⟩
      ·rw [if_neg c12] at H
       have c12b0 : ((a1.extract 0 3).toList == ([57,55,57] : List UInt8)) = false := beq_eq_false_iff_ne.mpr c12
       have c12b1 : ((a1.extract 0 3).toList != ([57,55,57] : List UInt8)) = true := bne_iff_ne.mpr c12
       obtain rfl := Option.some.inj H
       simp only [Option.some.injEq,Prod.mk.injEq] at H
       obtain ⟨rfl⟩ := H
       go_enter Tryd.func33,Tryd.ntmps33
       go_wp2_with (first|(go_at_call 57;(with_reducible refine (spec_l24Form.calls k a0 a1 true _ A3.out).mono ?_);rintro e w' ⟨rfl,⟨nd,rfl⟩⟩;(try first|exact ⟨rfl,_,World.drewN_drewN _ _ _⟩|exact ⟨rfl,_,Eq.trans (World.drewN_drewN _ _ _) (congrArg (World.drewN _) (Nat.add_assoc _ _ _))⟩)))
       repeat (go_quiet (first|(go_at_call 57;(with_reducible refine (spec_l24Form.calls k a0 a1 true _ A3.out).mono ?_);rintro e w' ⟨rfl,⟨nd,rfl⟩⟩;(try first|exact ⟨rfl,_,World.drewN_drewN _ _ _⟩|exact ⟨rfl,_,Eq.trans (World.drewN_drewN _ _ _) (congrArg (World.drewN _) (Nat.add_assoc _ _ _))⟩)));try go_wp2_with (first|(go_at_call 57;(with_reducible refine (spec_l24Form.calls k a0 a1 true _ A3.out).mono ?_);rintro e w' ⟨rfl,⟨nd,rfl⟩⟩;(try first|exact ⟨rfl,_,World.drewN_drewN _ _ _⟩|exact ⟨rfl,_,Eq.trans (World.drewN_drewN _ _ _) (congrArg (World.drewN _) (Nat.add_assoc _ _ _))⟩))))
       go_ret
       exact ⟨by first|rfl|(simp;done)|(simp [my_isEmpty];done)|(simp [*];done),by repeat (first|exact Drawn0.refl _|apply Drawn0.step)⟩
    ·rw [if_neg c7] at H
     exact absurd H (by simp)
   ·rw [if_neg c6] at H
    exact absurd H (by simp)
  ·rw [if_neg c5] at H
   have c5b0 : (a0 == 2) = false := beq_eq_false_iff_ne.mpr c5
   have c5b1 : (a0 != 2) = true := bne_iff_ne.mpr c5
   by_cases c14 : a0 = 4
   ·rw [if_pos c14] at H
    have c14b0 : (a0 == 4) = true := beq_iff_eq.mpr c14
    have c14b1 : (a0 != 4) = false := bne_eq_false_iff_eq.mpr c14
    clear c14
    by_cases c15 : 0 ≤ 15
    ·rw [if_pos c15] at H
     have c15b0 := eq_true c15
     have c15b1 : decide (0 ≤ 15) = true := decide_eq_true c15
     clear c15
     by_cases c16 : 15 ≤ (a1.size : Int)
     ·rw [if_pos c16] at H
      have c16b0 := eq_true c16
      have c16b1 : decide (15 ≤ (a1.size : Int)) = true := decide_eq_true c16
      clear c16
      replace H := Option.bind_eq_some_iff.mp H
      obtain ⟨t111,A170,H⟩ := H
      replace H : (if 15 < (a1.size : Int) then ((spec_l24Value.f (bt a1 15)).bind fun t112 => (some (t111 == t112))) else (none)) = some r := H
      have A17 := Aside0.mk A170
      clear A170
      by_cases c18 : 15 < (a1.size : Int)
      ·rw [if_pos c18] at H
       have c18b0 : decide (15 < (a1.size : Int)) = true := decide_eq_true c18
       have c18b1 : decide (15 < a1.size) = true := decide_eq_true (by omega)
       clear c18
       replace H := Option.bind_eq_some_iff.mp H
       obtain ⟨t112,A200,H⟩ := H
       replace H : (some (t111 == t112)) = some r := H
       have A20 := Aside0.mk A200
       clear A200
       obtain rfl := Option.some.inj H
       simp only [Option.some.injEq,Prod.mk.injEq] at H
       obtain ⟨rfl⟩ := H
       go_enter Tryd.func33,Tryd.ntmps33
       go_wp2_with (first|(go_at_call 57;(with_reducible refine (spec_l24Form.calls k a0 a1 true _ A3.out).mono ?_);rintro e w' ⟨rfl,⟨nd,rfl⟩⟩;(try first|exact ⟨rfl,_,World.drewN_drewN _ _ _⟩|exact ⟨rfl,_,Eq.trans (World.drewN_drewN _ _ _) (congrArg (World.drewN _) (Nat.add_assoc _ _ _))⟩))|(go_at_call 60;(with_reducible refine (spec_l24Person.calls k (a1.extract 0 15) t111 _ A17.out).mono ?_);rintro e w' ⟨rfl,⟨nd,rfl⟩⟩;(try first|exact ⟨rfl,_,World.drewN_drewN _ _ _⟩|exact ⟨rfl,_,Eq.trans (World.drewN_drewN _ _ _) (congrArg (World.drewN _) (Nat.add_assoc _ _ _))⟩);have p19 : 0 ≤ (15 : Int) := (by omega);have q19 : 15 < a1.size := (by have : (15 : Int) < (a1.size : Int) := of_decide_eq_true (by first|(with_reducible assumption)|assumption);omega);have hx19 : ∀ h : 15 < a1.size,((a1[15]'h).toNat : Int) = bt a1 15 := bt_at a1 15;clear p19;have qi19 : (15 < (a1.size : Int)) = True := eq_true (of_decide_eq_true (by first|(with_reducible assumption)|assumption));replace q19 := eq_true q19)|(go_at_call 61;(with_reducible refine (spec_l24Value.calls (bt a1 15) t112 _ A20.out).mono ?_);rintro e w' ⟨rfl,⟨nd,rfl⟩⟩;(try first|exact ⟨rfl,_,World.drewN_drewN _ _ _⟩|exact ⟨rfl,_,Eq.trans (World.drewN_drewN _ _ _) (congrArg (World.drewN _) (Nat.add_assoc _ _ _))⟩)))
       repeat (go_quiet (first|(go_at_call 57;(with_reducible refine (spec_l24Form.calls k a0 a1 true _ A3.out).mono ?_);rintro e w' ⟨rfl,⟨nd,rfl⟩⟩;(try first|exact ⟨rfl,_,World.drewN_drewN _ _ _⟩|exact ⟨rfl,_,Eq.trans (World.drewN_drewN _ _ _) (congrArg (World.drewN _) (Nat.add_assoc _ _ _))⟩))|(go_at_call 60;(with_reducible refine (spec_l24Person.calls k (a1.extract 0 15) t111 _ A17.out).mono ?_);rintro e w' ⟨rfl,⟨nd,rfl⟩⟩;(try first|exact ⟨rfl,_,World.drewN_drewN _ _ _⟩|exact ⟨rfl,_,Eq.trans (World.drewN_drewN _ _ _) (congrArg (World.drewN _) (Nat.add_assoc _ _ _))⟩);have p19 : 0 ≤ (15 : Int) := (by omega);have q19 : 15 < a1.size := (by have : (15 : Int) < (a1.size : Int) := of_decide_eq_true (by first|(with_reducible assumption)|assumption);omega);have hx19 : ∀ h : 15 < a1.size,((a1[15]'h).toNat : Int) = bt a1 15 := bt_at a1 15;clear p19;have qi19 : (15 < (a1.size : Int)) = True := eq_true (of_decide_eq_true (by first|(with_reducible assumption)|assumption));replace q19 := eq_true q19)|(go_at_call 61;(with_reducible refine (spec_l24Value.calls (bt a1 15) t112 _ A20.out).mono ?_);rintro e w' ⟨rfl,⟨nd,rfl⟩⟩;(try first|exact ⟨rfl,_,World.drewN_drewN _ _ _⟩|exact ⟨rfl,_,Eq.trans (World.drewN_drewN _ _ _) (congrArg (World.drewN _) (Nat.add_assoc _ _ _))⟩)));try go_wp2_with (first|(go_at_call 57;(with_reducible refine (spec_l24Form.calls k a0 a1 true _ A3.out).mono ?_);rintro e w' ⟨rfl,⟨nd,rfl⟩⟩;(try first|exact ⟨rfl,_,World.drewN_drewN _ _ _⟩|exact ⟨rfl,_,Eq.trans (World.drewN_drewN _ _ _) (congrArg (World.drewN _) (Nat.add_assoc _ _ _))⟩))|(go_at_call 60;(with_reducible refine (spec_l24Person.calls k (a1.extract 0 15) t111 _ A17.out).mono ?_);rintro e w' ⟨rfl,⟨nd,rfl⟩⟩;(try first|exact ⟨rfl,_,World.drewN_drewN _ _ _⟩|exact ⟨rfl,_,Eq.trans (World.drewN_drewN _ _ _) (congrArg (World.drewN _) (Nat.add_assoc _ _ _))⟩);have p19 : 0 ≤ (15 : Int) := (by omega);have q19 : 15 < a1.size := (by have : (15 : Int) < (a1.size : Int) := of_decide_eq_true (by first|(with_reducible assumption)|assumption);omega);have hx19 : ∀ h : 15 < a1.size,((a1[15]'h).toNat : Int) = bt a1 15 := bt_at a1 15;clear p19;have qi19 : (15 < (a1.size : Int)) = True := eq_true (of_decide_eq_true (by first|(with_reducible assumption)|assumption));replace q19 := eq_true q19)|(go_at_call 61;(with_reducible refine (spec_l24Value.calls (bt a1 15) t112 _ A20.out).mono ?_);rintro e w' ⟨rfl,⟨nd,rfl⟩⟩;(try first|exact ⟨rfl,_,World.drewN_drewN _ _ _⟩|exact ⟨rfl,_,Eq.trans (World.drewN_drewN _ _ _) (congrArg (World.drewN _) (Nat.add_assoc _ _ _))⟩))))
       go_ret
       exact ⟨by first|rfl|(simp;done)|(simp [my_isEmpty];done)|(simp [*];done),by repeat (first|exact Drawn0.refl _|apply Drawn0.step)⟩
      ·rw [if_neg c18] at H
       exact absurd H (by simp)
     ·rw [if_neg c16] at H
      exact absurd H (by simp)
    ·rw [if_neg c15] at H
     exact absurd H (by simp)
   ·rw [if_neg c14] at H
    have c14b0 : (a0 == 4) = false := beq_eq_false_iff_ne.mpr c14
    have c14b1 : (a0 != 4) = true := bne_iff_ne.mpr c14
    replace H := Option.bind_eq_some_iff.mp H
    obtain ⟨t113,A210,H⟩ := H
    replace H : (some ((Int.tmod t113 11) == 0)) = some r := H
    have A21 := Aside0.mk A210
    clear A210
    obtain rfl := Option.some.inj H
    simp only [Option.some.injEq,Prod.mk.injEq] at H
    obtain ⟨rfl⟩ := H
    go_enter Tryd.func33,Tryd.ntmps33
    go_wp2_with (first|(go_at_call 57;(with_reducible refine (spec_l24Form.calls k a0 a1 true _ A3.out).mono ?_);rintro e w' ⟨rfl,⟨nd,rfl⟩⟩;(try first|exact ⟨rfl,_,World.drewN_drewN _ _ _⟩|exact ⟨rfl,_,Eq.trans (World.drewN_drewN _ _ _) (congrArg (World.drewN _) (Nat.add_assoc _ _ _))⟩))|(go_at_call 62;(with_reducible refine (spec_l24Weighted.calls k a1 t113 _ A21.out).mono ?_);rintro e w' ⟨rfl,⟨nd,rfl⟩⟩;(try first|exact ⟨rfl,_,World.drewN_drewN _ _ _⟩|exact ⟨rfl,_,Eq.trans (World.drewN_drewN _ _ _) (congrArg (World.drewN _) (Nat.add_assoc _ _ _))⟩)))
    repeat (go_quiet (first|(go_at_call 57;(with_reducible refine (spec_l24Form.calls k a0 a1 true _ A3.out).mono ?_);rintro e w' ⟨rfl,⟨nd,rfl⟩⟩;(try first|exact ⟨rfl,_,World.drewN_drewN _ _ _⟩|exact ⟨rfl,_,Eq.trans (World.drewN_drewN _ _ _) (congrArg (World.drewN _) (Nat.add_assoc _ _ _))⟩))|(go_at_call 62;(with_reducible refine (spec_l24Weighted.calls k a1 t113 _ A21.out).mono ?_);rintro e w' ⟨rfl,⟨nd,rfl⟩⟩;(try first|exact ⟨rfl,_,World.drewN_drewN _ _ _⟩|exact ⟨rfl,_,Eq.trans (World.drewN_drewN _ _ _) (congrArg (World.drewN _) (Nat.add_assoc _ _ _))⟩)));try go_wp2_with (first|(go_at_call 57;(with_reducible refine (spec_l24Form.calls k a0 a1 true _ A3.out).mono ?_);rintro e w' ⟨rfl,⟨nd,rfl⟩⟩;(try first|exact ⟨rfl,_,World.drewN_drewN _ _ _⟩|exact ⟨rfl,_,Eq.trans (World.drewN_drewN _ _ _) (congrArg (World.drewN _) (Nat.add_assoc _ _ _))⟩))|(go_at_call 62;(with_reducible refine (spec_l24Weighted.calls k a1 t113 _ A21.out).mono ?_);rintro e w' ⟨rfl,⟨nd,rfl⟩⟩;(try first|exact ⟨rfl,_,World.drewN_drewN _ _ _⟩|exact ⟨rfl,_,Eq.trans (World.drewN_drewN _ _ _) (congrArg (World.drewN _) (Nat.add_assoc _ _ _))⟩))))
    go_ret
    exact ⟨by first|rfl|(simp;done)|(simp [my_isEmpty];done)|(simp [*];done),by repeat (first|exact Drawn0.refl _|apply Drawn0.step)⟩
 ·replace c4 := Bool.eq_false_iff.mpr c4
  subst c4
  have H1 : (some false) = some r := by rw [if_neg (show ¬ (false = true) by decide)] at H;exact H
  clear H
  have H := H1
  clear H1
  obtain rfl := Option.some.inj H
  simp only [Option.some.injEq,Prod.mk.injEq] at H
  obtain ⟨rfl⟩ := H
  go_enter Tryd.func33,Tryd.ntmps33
  go_wp2_with (first|(go_at_call 57;(with_reducible refine (spec_l24Form.calls k a0 a1 false _ A3.out).mono ?_);rintro e w' ⟨rfl,⟨nd,rfl⟩⟩;(try first|exact ⟨rfl,_,World.drewN_drewN _ _ _⟩|exact ⟨rfl,_,Eq.trans (World.drewN_drewN _ _ _) (congrArg (World.drewN _) (Nat.add_assoc _ _ _))⟩)))
  repeat (go_quiet (first|(go_at_call 57;(with_reducible refine (spec_l24Form.calls k a0 a1 false _ A3.out).mono ?_);rintro e w' ⟨rfl,⟨nd,rfl⟩⟩;(try first|exact ⟨rfl,_,World.drewN_drewN _ _ _⟩|exact ⟨rfl,_,Eq.trans (World.drewN_drewN _ _ _) (congrArg (World.drewN _) (Nat.add_assoc _ _ _))⟩)));try go_wp2_with (first|(go_at_call 57;(with_reducible refine (spec_l24Form.calls k a0 a1 false _ A3.out).mono ?_);rintro e w' ⟨rfl,⟨nd,rfl⟩⟩;(try first|exact ⟨rfl,_,World.drewN_drewN _ _ _⟩|exact ⟨rfl,_,Eq.trans (World.drewN_drewN _ _ _) (congrArg (World.drewN _) (Nat.add_assoc _ _ _))⟩))))
  go_ret
  exact ⟨by first|rfl|(simp;done)|(simp [my_isEmpty];done)|(simp [*];done),by repeat (first|exact Drawn0.refl _|apply Drawn0.step)⟩
end Go.Proofs.YtpnjnlcjofaglaaDoor.P
