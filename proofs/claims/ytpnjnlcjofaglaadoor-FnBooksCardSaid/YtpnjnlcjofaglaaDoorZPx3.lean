/- Written by a program in this session: each theorem here says that a Go function computes the Lean function beside it, or that a law's row holds, under the conditions that the theorem itself states. -/
import Derived.Test.YtpnjnlcjofaglaaDoorZPx0
import Derived.Test.YtpnjnlcjofaglaaDoorZPx1
import Derived.Test.YtpnjnlcjofaglaaDoorZPx2
import Derived.Lib.AppendIntMem
import Derived.Test.YtpnjnlcjofaglaaDoorZShelf
namespace Go.Proofs.YtpnjnlcjofaglaaDoor.P
open Go.RowKit Go.Proofs.YtpnjnlcjofaglaaDoorW.PrintWords Go.Proofs.YtpnjnlcjofaglaaDoorW.PrintLast Go.Proofs.YtpnjnlcjofaglaaDoorW.PrintMore
attribute [local go_sem] max2_int min2_int max_two min_two max_three min_three max_four min_four   -- for this text's walks alone
set_option linter.unusedVariables false
set_option linter.unusedSimpArgs false
mutual
def impl_isIdentifier.l0 : Nat → ByteArray → Int → Int → Int → Option (Bool)
 | 0,_,_,_,_ => none
 | k + 1,x1,x5,x21,x22 => if x22 < x21 then (if 0 ≤ x22 then (if x22 < (x1.size : Int) then ((impl_valueOf.f (bt x1 x22)).bind fun t121 => (impl_isIdentifier.l0 k x1 (wrap64 (x5 + (wrap64 (t121 * (wrap64 (1 + (wrap64 ((Int.tmod x22 2) * 2)))))))) x21 (wrap64 (x22 + 1)))) else (none)) else (none)) else (if (Int.tmod x5 10) = 0 then ((strings_HasPrefix.f x1 (⟨#[57,55,56]⟩ : ByteArray)).bind fun t122 => (if t122 = true then (some true) else ((strings_HasPrefix.f x1 (⟨#[57,55,57]⟩ : ByteArray)).bind fun t123 => (some t123)))) else (some false))
def impl_isIdentifier.l1 : Nat → ByteArray → Int → Int → Int → Int → Option (Bool)
 | 0,_,_,_,_,_ => none
 | k + 1,x1,x5,x6,x50,x51 => if x51 < x50 then (if 0 ≤ x51 then (if x51 < (x1.size : Int) then ((impl_valueOf.f (bt x1 x51)).bind fun t124 => (impl_isIdentifier.l1 k x1 (Int.tmod (wrap64 (2 * (wrap64 (x5 + t124)))) 11) x6 x50 (wrap64 (x51 + 1)))) else (none)) else (none)) else (if 0 ≤ x6 then (if x6 < (x1.size : Int) then ((impl_valueOf.f (bt x1 x6)).bind fun t125 => (some (t125 == (Int.tmod (wrap64 (12 - x5)) 11)))) else (none)) else (none))
def impl_isIdentifier.l2 : Nat → ByteArray → Int → Int → Int → Option (Bool)
 | 0,_,_,_,_ => none
 | k + 1,x1,x5,x72,x73 => if x73 < x72 then (if 0 ≤ x73 then (if x73 < (x1.size : Int) then ((impl_valueOf.f (bt x1 x73)).bind fun t126 => (impl_isIdentifier.l2 k x1 (wrap64 (x5 + (wrap64 (t126 * (wrap64 ((x1.size : Int) - x73)))))) x72 (wrap64 (x73 + 1)))) else (none)) else (none)) else (some ((Int.tmod x5 11) == 0))
end
def impl_isIdentifier.f (k : Nat) (a0 : Int) (a1 : ByteArray) : Option (Bool) := (impl_isIdText.f k a0 a1).bind fun t120 => (if t120 = true then (if a0 = 2 then (impl_isIdentifier.l0 k a1 0 (a1.size : Int) 0) else (if a0 = 4 then (impl_isIdentifier.l1 k a1 0 (wrap64 ((a1.size : Int) - 1)) (wrap64 ((a1.size : Int) - 1)) 0) else (impl_isIdentifier.l2 k a1 0 (a1.size : Int) 0))) else (some false))
theorem impl_isIdentifier.mono_l : ∀ k,(∀ y0 y1 y2 y3,LeO (impl_isIdentifier.l0 k y0 y1 y2 y3) (impl_isIdentifier.l0 (k + 1) y0 y1 y2 y3)) ∧ (∀ y0 y1 y2 y3 y4,LeO (impl_isIdentifier.l1 k y0 y1 y2 y3 y4) (impl_isIdentifier.l1 (k + 1) y0 y1 y2 y3 y4)) ∧ (∀ y0 y1 y2 y3,LeO (impl_isIdentifier.l2 k y0 y1 y2 y3) (impl_isIdentifier.l2 (k + 1) y0 y1 y2 y3))
 | 0 => ⟨fun _ _ _ _ r h => by simp [impl_isIdentifier.l0] at h,fun _ _ _ _ _ r h => by simp [impl_isIdentifier.l1] at h,fun _ _ _ _ r h => by simp [impl_isIdentifier.l2] at h⟩
 | k + 1 => by
  obtain ⟨ih0,ih1,ih2⟩ := impl_isIdentifier.mono_l k
  refine ⟨?_,?_,?_⟩
  ·intro y0 y1 y2 y3
   unfold impl_isIdentifier.l0
   repeat' first
   | (with_reducible exact ih0 _ _ _ _)
   | (with_reducible exact ih1 _ _ _ _ _)
   | (with_reducible exact ih2 _ _ _ _)
   | (with_reducible exact impl_isIdText.mono _ _ _)
   | (with_reducible exact LeO.refl _)
   | (with_reducible exact LeO.none _)
   | (with_reducible refine LeO.ite ?_ ?_)
   | (with_reducible refine LeO.bind ?_ (fun _ => ?_))
   | exact ih0 _ _ _ _
   | exact ih1 _ _ _ _ _
   | exact ih2 _ _ _ _
   | exact impl_isIdText.mono _ _ _
   | exact LeO.none _
   | refine LeO.ite ?_ ?_
   | refine LeO.bind ?_ (fun _ => ?_)
  ·intro y0 y1 y2 y3 y4
   unfold impl_isIdentifier.l1
   repeat' first
   | (with_reducible exact ih0 _ _ _ _)
   | (with_reducible exact ih1 _ _ _ _ _)
   | (with_reducible exact ih2 _ _ _ _)
   | (with_reducible exact impl_isIdText.mono _ _ _)
   | (with_reducible exact LeO.refl _)
   | (with_reducible exact LeO.none _)
   | (with_reducible refine LeO.ite ?_ ?_)
   | (with_reducible refine LeO.bind ?_ (fun _ => ?_))
   | exact ih0 _ _ _ _
   | exact ih1 _ _ _ _ _
   | exact ih2 _ _ _ _
   | exact impl_isIdText.mono _ _ _
   | exact LeO.none _
   | refine LeO.ite ?_ ?_
   | refine LeO.bind ?_ (fun _ => ?_)
  ·intro y0 y1 y2 y3
   unfold impl_isIdentifier.l2
   repeat' first
   | (with_reducible exact ih0 _ _ _ _)
   | (with_reducible exact ih1 _ _ _ _ _)
   | (with_reducible exact ih2 _ _ _ _)
   | (with_reducible exact impl_isIdText.mono _ _ _)
   | (with_reducible exact LeO.refl _)
   | (with_reducible exact LeO.none _)
   | (with_reducible refine LeO.ite ?_ ?_)
   | (with_reducible refine LeO.bind ?_ (fun _ => ?_))
   | exact ih0 _ _ _ _
   | exact ih1 _ _ _ _ _
   | exact ih2 _ _ _ _
   | exact impl_isIdText.mono _ _ _
   | exact LeO.none _
   | refine LeO.ite ?_ ?_
   | refine LeO.bind ?_ (fun _ => ?_)
theorem impl_isIdentifier.mono : ∀ a0 a1 k,LeO (impl_isIdentifier.f k a0 a1) (impl_isIdentifier.f (k + 1) a0 a1) := by
 intro a0 a1 k
 obtain ⟨ih0,ih1,ih2⟩ := impl_isIdentifier.mono_l k
 unfold impl_isIdentifier.f
 repeat' first
   | (with_reducible exact ih0 _ _ _ _)
   | (with_reducible exact ih1 _ _ _ _ _)
   | (with_reducible exact ih2 _ _ _ _)
   | (with_reducible exact impl_isIdText.mono _ _ _)
   | (with_reducible exact LeO.refl _)
   | (with_reducible exact LeO.none _)
   | (with_reducible refine LeO.ite ?_ ?_)
   | (with_reducible refine LeO.bind ?_ (fun _ => ?_))
   | exact ih0 _ _ _ _
   | exact ih1 _ _ _ _ _
   | exact ih2 _ _ _ _
   | exact impl_isIdText.mono _ _ _
   | exact LeO.none _
   | refine LeO.ite ?_ ?_
   | refine LeO.bind ?_ (fun _ => ?_)
set_option maxHeartbeats 8000000 in
set_option maxRecDepth 100000 in
theorem impl_isIdentifier.calls (k : Nat) (a0 : Int) (a1 : ByteArray) (r : Bool) (w : World) (h : impl_isIdentifier.f k a0 a1 = some r) :
  Calls Tryd.prog 35 #[.int .i64 a0,.string a1] w fun e w' => e = .returned (.bool r) ∧ Drawn0 w w' := by
 have H : ((impl_isIdText.f k a0 a1).bind fun t120 => (if t120 = true then (if a0 = 2 then (impl_isIdentifier.l0 k a1 0 (a1.size : Int) 0) else (if a0 = 4 then (impl_isIdentifier.l1 k a1 0 (wrap64 ((a1.size : Int) - 1)) (wrap64 ((a1.size : Int) - 1)) 0) else (impl_isIdentifier.l2 k a1 0 (a1.size : Int) 0))) else (some false))) = some r := h
 clear h
 replace H := Option.bind_eq_some_iff.mp H
 obtain ⟨t120,A30,H⟩ := H
 replace H : (if t120 = true then (if a0 = 2 then (impl_isIdentifier.l0 k a1 0 (a1.size : Int) 0) else (if a0 = 4 then (impl_isIdentifier.l1 k a1 0 (wrap64 ((a1.size : Int) - 1)) (wrap64 ((a1.size : Int) - 1)) 0) else (impl_isIdentifier.l2 k a1 0 (a1.size : Int) 0))) else (some false)) = some r := H
 have A3 := Aside0.mk A30
 clear A30
 by_cases c4 : t120 = true
 ·subst c4
  have H1 : (if a0 = 2 then (impl_isIdentifier.l0 k a1 0 (a1.size : Int) 0) else (if a0 = 4 then (impl_isIdentifier.l1 k a1 0 (wrap64 ((a1.size : Int) - 1)) (wrap64 ((a1.size : Int) - 1)) 0) else (impl_isIdentifier.l2 k a1 0 (a1.size : Int) 0))) = some r := by rw [if_pos rfl] at H;exact H
  clear H
  have H := H1
  clear H1
  by_cases c5 : a0 = 2
  ·rw [if_pos c5] at H
   have c5b0 : (a0 == 2) = true := beq_iff_eq.mpr c5
   have c5b1 : (a0 != 2) = false := bne_eq_false_iff_eq.mpr c5
   clear c5
   have H' := Aside0.mk H
   clear H
   go_enter Tryd.func35,Tryd.ntmps35
   go_wp2_with (first|((with_reducible refine gate_callee (f := 53) rfl ?_);refine goesL_ (some 12) rfl rfl Tryd.func53 (by kernel_rfl) rfl #[.int .i64 a0,.string a1] rfl (by (try simp only [List.map_toArray,List.map_cons,List.map_nil]);first|done|rfl|(simp only [List.length_drop,List.length_take];rfl)) ?_;(with_reducible refine (impl_isIdText.calls k a0 a1 true _ A3.out).mono ?_);rintro e w' ⟨rfl,⟨nd,rfl⟩⟩;refine ⟨_,rfl,?_⟩))
   go_loopg [5,22] k (fun kq v5 v22 w' => ∃ (x5_1 : Int) (x22_1 : Int),v5 = .int .i64 x5_1 ∧ v22 = .int .i64 x22_1 ∧ Aside0 (impl_isIdentifier.l0 kq a1 x5_1 (a1.size : Int) x22_1 = some r) ∧ Aside0 (kq ≤ k) ∧ Drawn0 w w')
   case atStart => exact ⟨(0),(0),(by first|rfl|(simp;done)|(simp [my_isEmpty];done)|(simp [*];done)),(by first|rfl|(simp;done)|(simp [my_isEmpty];done)|(simp [*];done)),H',⟨Nat.le_refl _⟩,by repeat (first|exact Drawn0.refl _|apply Drawn0.step)⟩
   case round =>
    clear H'
    try clear p2
    try clear c3
    try clear c4
    try clear c5
    try clear c5b0
    try clear c5b1
    obtain ⟨x5_1,x22_1,rfl,rfl,HA,HK1,⟨m1,rfl⟩⟩ := hrel
    cases gk with
    | zero => exact absurd HA.out (by simp [impl_isIdentifier.l0])
    | succ k1 =>
     have H := HA.out
     clear HA
     simp only [impl_isIdentifier.l0] at H
     by_cases c6 : x22_1 < (a1.size : Int)
     ·rw [if_pos c6] at H
      have c6b0 : decide (x22_1 < (a1.size : Int)) = true := decide_eq_true c6
      clear c6
      by_cases c7 : 0 ≤ x22_1
      ·rw [if_pos c7] at H
       have c7b0 : decide (0 ≤ x22_1) = true := decide_eq_true c7
       clear c7
       by_cases c8 : x22_1 < (a1.size : Int)
       ·rw [if_pos c8] at H
        have c8b0 : decide (x22_1 < (a1.size : Int)) = true := decide_eq_true c8
        clear c8
        replace H := Option.bind_eq_some_iff.mp H
        obtain ⟨t121,A100,H⟩ := H
        replace H : (impl_isIdentifier.l0 k1 a1 (wrap64 (x5_1 + (wrap64 (t121 * (wrap64 (1 + (wrap64 ((Int.tmod x22_1 2) * 2)))))))) (a1.size : Int) (wrap64 (x22_1 + 1))) = some r := H
        have A10 := Aside0.mk A100
        clear A100
        have H' := Aside0.mk H
        clear H
        have p9 : 0 ≤ (x22_1 : Int) := of_decide_eq_true (by first|(with_reducible assumption)|assumption)
        have q9 : x22_1 < (a1.size : Int) := of_decide_eq_true (by first|(with_reducible assumption)|assumption)
        have hx9 := bt_at a1 x22_1
        replace p9 := eq_true p9
        replace q9 := eq_true q9
        go_wp2_with (first|((with_reducible refine gate_callee (f := 63) rfl ?_);refine goesL_ (some 29) rfl rfl Tryd.func63 (by kernel_rfl) rfl #[.int .u8 (bt a1 x22_1)] rfl (by (try simp only [List.map_toArray,List.map_cons,List.map_nil]);first|done|rfl|(simp only [List.length_drop,List.length_take];rfl)) ?_;(with_reducible refine (impl_valueOf.calls (bt a1 x22_1) t121 _ A10.out).mono ?_);rintro e w' ⟨rfl,⟨nd,rfl⟩⟩;refine ⟨_,rfl,?_⟩))
        go_roundg k1
        case measure => have := HK1.out;omega
        case rel => exact ⟨(wrap64 (x5_1 + (wrap64 (t121 * (wrap64 (1 + (wrap64 ((Int.tmod x22_1 2) * 2)))))))),(wrap64 (x22_1 + 1)),(by first|rfl|(simp;done)|(simp [my_isEmpty];done)|(simp [*];done)),(by first|rfl|(simp;done)|(simp [my_isEmpty];done)|(simp [*];done)),H',⟨by have := HK1.out;omega⟩,by repeat (first|exact Drawn0.refl _|apply Drawn0.step)⟩
       ·rw [if_neg c8] at H
        exact absurd H (by simp)
      ·rw [if_neg c7] at H
       exact absurd H (by simp)
     ·rw [if_neg c6] at H
      have c6b0 : decide (x22_1 < (a1.size : Int)) = false := decide_eq_false c6
      clear c6
      by_cases c11 : (Int.tmod x5_1 10) = 0
      ·rw [if_pos c11] at H
       have c11b0 : ((Int.tmod x5_1 10) == 0) = true := beq_iff_eq.mpr c11
       have c11b1 : ((Int.tmod x5_1 10) != 0) = false := bne_eq_false_iff_eq.mpr c11
       clear c11
       replace H := Option.bind_eq_some_iff.mp H
       obtain ⟨t122,A120,H⟩ := H
       replace H : (if t122 = true then (some true) else ((strings_HasPrefix.f a1 (⟨#[57,55,57]⟩ : ByteArray)).bind fun t123 => (some t123))) = some r := H
       have A12 := Aside0.mk A120
       clear A120
       by_cases c13 : t122 = true
       ·subst c13
        have H1 : (some true) = some r := by rw [if_pos rfl] at H;exact H
        clear H
        have H := H1
        clear H1
        obtain rfl := Option.some.inj H
        simp only [Option.some.injEq,Prod.mk.injEq] at H
        obtain ⟨rfl⟩ := H
        go_wp2_with (first|(go_at_call 36;(with_reducible refine (strings_HasPrefix.calls a1 (⟨#[57,55,56]⟩ : ByteArray) true _ A12.out).mono ?_);rintro e w' ⟨rfl,⟨nd,rfl⟩⟩))
        go_ret
        exact ⟨by first|rfl|(simp;done)|(simp [my_isEmpty];done)|(simp [*];done),by repeat (first|exact Drawn0.refl _|apply Drawn0.step)⟩
       ·replace c13 := Bool.eq_false_iff.mpr c13
        subst c13
        have H1 : ((strings_HasPrefix.f a1 (⟨#[57,55,57]⟩ : ByteArray)).bind fun t123 => (some t123)) = some r := by rw [if_neg (show ¬ (false = true) by decide)] at H;exact H
        clear H
        have H := H1
        clear H1
        replace H := Option.bind_eq_some_iff.mp H
        obtain ⟨t123,A140,H⟩ := H
        replace H : (some t123) = some r := H
        have A14 := Aside0.mk A140
        clear A140
        obtain rfl := Option.some.inj H
        simp only [Option.some.injEq,Prod.mk.injEq] at H
        obtain ⟨rfl⟩ := H
        go_wp2_with (first|(go_at_call 36;(with_reducible refine (strings_HasPrefix.calls a1 (⟨#[57,55,56]⟩ : ByteArray) false _ A12.out).mono ?_);rintro e w' ⟨rfl,⟨nd,rfl⟩⟩)|(go_at_call 36;(with_reducible refine (strings_HasPrefix.calls a1 (⟨#[57,55,57]⟩ : ByteArray) t123 _ A14.out).mono ?_);rintro e w' ⟨rfl,⟨nd,rfl⟩⟩))
        go_ret
        exact ⟨by first|rfl|(simp;done)|(simp [my_isEmpty];done)|(simp [*];done),by repeat (first|exact Drawn0.refl _|apply Drawn0.step)⟩
      ·rw [if_neg c11] at H
       have c11b0 : ((Int.tmod x5_1 10) == 0) = false := beq_eq_false_iff_ne.mpr c11
       have c11b1 : ((Int.tmod x5_1 10) != 0) = true := bne_iff_ne.mpr c11
       obtain rfl := Option.some.inj H
       simp only [Option.some.injEq,Prod.mk.injEq] at H
       obtain ⟨rfl⟩ := H
       go_wp2
       go_ret
       exact ⟨by first|rfl|(simp;done)|(simp [my_isEmpty];done)|(simp [*];done),by repeat (first|exact Drawn0.refl _|apply Drawn0.step)⟩
  ·rw [if_neg c5] at H
   have c5b0 : (a0 == 2) = false := beq_eq_false_iff_ne.mpr c5
   have c5b1 : (a0 != 2) = true := bne_iff_ne.mpr c5
   by_cases c15 : a0 = 4
   ·rw [if_pos c15] at H
    have c15b0 : (a0 == 4) = true := beq_iff_eq.mpr c15
    have c15b1 : (a0 != 4) = false := bne_eq_false_iff_eq.mpr c15
    clear c15
    have H' := Aside0.mk H
    clear H
    go_enter Tryd.func35,Tryd.ntmps35
    go_wp2_with (first|((with_reducible refine gate_callee (f := 53) rfl ?_);refine goesL_ (some 12) rfl rfl Tryd.func53 (by kernel_rfl) rfl #[.int .i64 a0,.string a1] rfl (by (try simp only [List.map_toArray,List.map_cons,List.map_nil]);first|done|rfl|(simp only [List.length_drop,List.length_take];rfl)) ?_;(with_reducible refine (impl_isIdText.calls k a0 a1 true _ A3.out).mono ?_);rintro e w' ⟨rfl,⟨nd,rfl⟩⟩;refine ⟨_,rfl,?_⟩))
    go_loopg [5,51] k (fun kq v5 v51 w' => ∃ (x5_1 : Int) (x51_1 : Int),v5 = .int .i64 x5_1 ∧ v51 = .int .i64 x51_1 ∧ Aside0 (impl_isIdentifier.l1 kq a1 x5_1 (wrap64 ((a1.size : Int) - 1)) (wrap64 ((a1.size : Int) - 1)) x51_1 = some r) ∧ Aside0 (kq ≤ k) ∧ Drawn0 w w')
    case atStart => exact ⟨(0),(0),(by first|rfl|(simp;done)|(simp [my_isEmpty];done)|(simp [*];done)),(by first|rfl|(simp;done)|(simp [my_isEmpty];done)|(simp [*];done)),H',⟨Nat.le_refl _⟩,by repeat (first|exact Drawn0.refl _|apply Drawn0.step)⟩
    case round =>
     clear H'
     try clear c1
     try clear p2
     try clear c3
     try clear c4
     try clear c5
     try clear c5b0
     try clear c5b1
     try clear c6
     try clear c6b0
     try clear p6
     try clear c7
     try clear c7b0
     try clear c8
     try clear c8b0
     try clear p9
     try clear q9
     try clear hx9
     try clear c11
     try clear c11b0
     try clear c11b1
     try clear c13
     try clear c15
     try clear c15b0
     try clear c15b1
     try clear p2
     try clear p9
     try clear q9
     obtain ⟨x5_1,x51_1,rfl,rfl,HA,HK1,⟨m1,rfl⟩⟩ := hrel
     cases gk with
     | zero => exact absurd HA.out (by simp [impl_isIdentifier.l1])
     | succ k1 =>
      have H := HA.out
      clear HA
      simp only [impl_isIdentifier.l1] at H
      by_cases c16 : x51_1 < (wrap64 ((a1.size : Int) - 1))
      ·rw [if_pos c16] at H
       have c16b0 : decide (x51_1 < (wrap64 ((a1.size : Int) - 1))) = true := decide_eq_true c16
       clear c16
       by_cases c17 : 0 ≤ x51_1
       ·rw [if_pos c17] at H
        have c17b0 : decide (0 ≤ x51_1) = true := decide_eq_true c17
        clear c17
        by_cases c18 : x51_1 < (a1.size : Int)
        ·rw [if_pos c18] at H
         have c18b0 : decide (x51_1 < (a1.size : Int)) = true := decide_eq_true c18
         clear c18
         replace H := Option.bind_eq_some_iff.mp H
         obtain ⟨t124,A200,H⟩ := H
         replace H : (impl_isIdentifier.l1 k1 a1 (Int.tmod (wrap64 (2 * (wrap64 (x5_1 + t124)))) 11) (wrap64 ((a1.size : Int) - 1)) (wrap64 ((a1.size : Int) - 1)) (wrap64 (x51_1 + 1))) = some r := H
         have A20 := Aside0.mk A200
         clear A200
         have H' := Aside0.mk H
         clear H
         have p19 : 0 ≤ (x51_1 : Int) := of_decide_eq_true (by first|(with_reducible assumption)|assumption)
         have q19 : x51_1 < (a1.size : Int) := of_decide_eq_true (by first|(with_reducible assumption)|assumption)
         have hx19 := bt_at a1 x51_1
         replace p19 := eq_true p19
         replace q19 := eq_true q19
         go_wp2_with (first|((with_reducible refine gate_callee (f := 63) rfl ?_);refine goesL_ (some 58) rfl rfl Tryd.func63 (by kernel_rfl) rfl #[.int .u8 (bt a1 x51_1)] rfl (by (try simp only [List.map_toArray,List.map_cons,List.map_nil]);first|done|rfl|(simp only [List.length_drop,List.length_take];rfl)) ?_;(with_reducible refine (impl_valueOf.calls (bt a1 x51_1) t124 _ A20.out).mono ?_);rintro e w' ⟨rfl,⟨nd,rfl⟩⟩;refine ⟨_,rfl,?_⟩))
         go_roundg k1
         case measure => have := HK1.out;omega
         case rel => exact ⟨(Int.tmod (wrap64 (2 * (wrap64 (x5_1 + t124)))) 11),(wrap64 (x51_1 + 1)),(by first|rfl|(simp;done)|(simp [my_isEmpty];done)|(simp [*];done)),(by first|rfl|(simp;done)|(simp [my_isEmpty];done)|(simp [*];done)),H',⟨by have := HK1.out;omega⟩,by repeat (first|exact Drawn0.refl _|apply Drawn0.step)⟩
        ·rw [if_neg c18] at H
         exact absurd H (by simp)
       ·rw [if_neg c17] at H
        exact absurd H (by simp)
      ·rw [if_neg c16] at H
       have c16b0 : decide (x51_1 < (wrap64 ((a1.size : Int) - 1))) = false := decide_eq_false c16
       clear c16
       obtain ⟨ji21,hji21⟩ : ∃ j_ : Int,(wrap64 ((a1.size : Int) - 1)) = j_ := ⟨_,rfl⟩
       replace H : (if 0 ≤ (ji21) then (if (ji21) < (a1.size : Int) then ((impl_valueOf.f (bt a1 (ji21))).bind fun t125 => (some (t125 == (Int.tmod (wrap64 (12 - x5_1)) 11)))) else (none)) else (none)) = some r := by first|(rw [hji21] at H;exact H)|(simp only [hji21] at H ⊢;exact H)
       (try rw [hji21] at c16b0)
       have hji21w : (IntKind.i64.wrap ((a1.size : Int) - 1)) = ji21 := (i64_w _).trans hji21
       by_cases c22 : 0 ≤ (ji21)
       ·rw [if_pos c22] at H
        have c22b0 : decide (0 ≤ (ji21)) = true := decide_eq_true c22
        clear c22
        by_cases c23 : (ji21) < (a1.size : Int)
        ·rw [if_pos c23] at H
         have c23b0 : decide ((ji21) < (a1.size : Int)) = true := decide_eq_true c23
         clear c23
         replace H := Option.bind_eq_some_iff.mp H
         obtain ⟨t125,A250,H⟩ := H
         replace H : (some (t125 == (Int.tmod (wrap64 (12 - x5_1)) 11))) = some r := H
         have A25 := Aside0.mk A250
         clear A250
         obtain rfl := Option.some.inj H
         simp only [Option.some.injEq,Prod.mk.injEq] at H
         obtain ⟨rfl⟩ := H
         have p24 : 0 ≤ ((ji21) : Int) := of_decide_eq_true (by first|(with_reducible assumption)|assumption)
         have q24 : (ji21) < (a1.size : Int) := of_decide_eq_true (by first|(with_reducible assumption)|assumption)
         have hx24 := bt_at a1 (ji21)
         replace p24 := eq_true p24
         replace q24 := eq_true q24
         go_wp2_with (first|((with_reducible refine gate_callee (f := 63) rfl ?_);refine goesL_ (some 66) rfl rfl Tryd.func63 (by kernel_rfl) rfl #[.int .u8 (bt a1 (ji21))] rfl (by (try simp only [List.map_toArray,List.map_cons,List.map_nil]);first|done|(simp only [hji21];rfl)|rfl|(simp only [List.length_drop,List.length_take];rfl)) ?_;(with_reducible refine (impl_valueOf.calls (bt a1 (ji21)) t125 _ A25.out).mono ?_);rintro e w' ⟨rfl,⟨nd,rfl⟩⟩;refine ⟨_,rfl,?_⟩))
         go_ret
         exact ⟨by first|rfl|(simp;done)|(simp [my_isEmpty];done)|(simp only [← hji21] <;> (first|rfl|simp))|(simp [*];done),by repeat (first|exact Drawn0.refl _|apply Drawn0.step)⟩
        ·rw [if_neg c23] at H
         exact absurd H (by simp)
       ·rw [if_neg c22] at H
        exact absurd H (by simp)
   ·rw [if_neg c15] at H
    have c15b0 : (a0 == 4) = false := beq_eq_false_iff_ne.mpr c15
    have c15b1 : (a0 != 4) = true := bne_iff_ne.mpr c15
    have H' := Aside0.mk H
    clear H
    go_enter Tryd.func35,Tryd.ntmps35
    go_wp2_with (first|((with_reducible refine gate_callee (f := 53) rfl ?_);refine goesL_ (some 12) rfl rfl Tryd.func53 (by kernel_rfl) rfl #[.int .i64 a0,.string a1] rfl (by (try simp only [List.map_toArray,List.map_cons,List.map_nil]);first|done|rfl|(simp only [List.length_drop,List.length_take];rfl)) ?_;(with_reducible refine (impl_isIdText.calls k a0 a1 true _ A3.out).mono ?_);rintro e w' ⟨rfl,⟨nd,rfl⟩⟩;refine ⟨_,rfl,?_⟩))
    go_loopg [5,73] k (fun kq v5 v73 w' => ∃ (x5_1 : Int) (x73_1 : Int),v5 = .int .i64 x5_1 ∧ v73 = .int .i64 x73_1 ∧ Aside0 (impl_isIdentifier.l2 kq a1 x5_1 (a1.size : Int) x73_1 = some r) ∧ Aside0 (kq ≤ k) ∧ Drawn0 w w')
    case atStart => exact ⟨(0),(0),(by first|rfl|(simp;done)|(simp [my_isEmpty];done)|(simp [*];done)),(by first|rfl|(simp;done)|(simp [my_isEmpty];done)|(simp [*];done)),H',⟨Nat.le_refl _⟩,by repeat (first|exact Drawn0.refl _|apply Drawn0.step)⟩
    case round =>
     clear H'
     try clear c1
     try clear p1
     try clear q1
     try clear hx1
     try clear c2
     try clear p2
     try clear q2
     try clear hx2
     try clear c3
     try clear c4
     try clear c5
     try clear c5b0
     try clear c5b1
     try clear c6
     try clear c6b0
     try clear p6
     try clear c7
     try clear c7b0
     try clear c8
     try clear c8b0
     try clear p9
     try clear q9
     try clear hx9
     try clear c11
     try clear c11b0
     try clear c11b1
     try clear c13
     try clear c15
     try clear c15b0
     try clear c15b1
     try clear c16
     try clear c16b0
     try clear c17
     try clear c17b0
     try clear c18
     try clear c18b0
     try clear p19
     try clear q19
     try clear hx19
     try clear c22
     try clear c22b0
     try clear c23
     try clear c23b0
     try clear p24
     try clear q24
     try clear hx24
     try clear p19
     try clear p2
     try clear p24
     try clear p6
     try clear p9
     try clear q19
     try clear q24
     try clear q9
     obtain ⟨x5_1,x73_1,rfl,rfl,HA,HK1,⟨m1,rfl⟩⟩ := hrel
     cases gk with
     | zero => exact absurd HA.out (by simp [impl_isIdentifier.l2])
     | succ k1 =>
      have H := HA.out
      clear HA
      simp only [impl_isIdentifier.l2] at H
      by_cases c26 : x73_1 < (a1.size : Int)
      ·rw [if_pos c26] at H
       have c26b0 : decide (x73_1 < (a1.size : Int)) = true := decide_eq_true c26
       clear c26
       by_cases c27 : 0 ≤ x73_1
       ·rw [if_pos c27] at H
        have c27b0 : decide (0 ≤ x73_1) = true := decide_eq_true c27
        clear c27
        by_cases c28 : x73_1 < (a1.size : Int)
        ·rw [if_pos c28] at H
         have c28b0 : decide (x73_1 < (a1.size : Int)) = true := decide_eq_true c28
         clear c28
         replace H := Option.bind_eq_some_iff.mp H
         obtain ⟨t126,A300,H⟩ := H
         replace H : (impl_isIdentifier.l2 k1 a1 (wrap64 (x5_1 + (wrap64 (t126 * (wrap64 ((a1.size : Int) - x73_1)))))) (a1.size : Int) (wrap64 (x73_1 + 1))) = some r := H
         have A30 := Aside0.mk A300
         clear A300
         have H' := Aside0.mk H
         clear H
         have p29 : 0 ≤ (x73_1 : Int) := of_decide_eq_true (by first|(with_reducible assumption)|assumption)
         have q29 : x73_1 < (a1.size : Int) := of_decide_eq_true (by first|(with_reducible assumption)|assumption)
         have hx29 := bt_at a1 x73_1
         replace p29 := eq_true p29
         replace q29 := eq_true q29
         go_wp2_with (first|((with_reducible refine gate_callee (f := 63) rfl ?_);refine goesL_ (some 80) rfl rfl Tryd.func63 (by kernel_rfl) rfl #[.int .u8 (bt a1 x73_1)] rfl (by (try simp only [List.map_toArray,List.map_cons,List.map_nil]);first|done|rfl|(simp only [List.length_drop,List.length_take];rfl)) ?_;(with_reducible refine (impl_valueOf.calls (bt a1 x73_1) t126 _ A30.out).mono ?_);rintro e w' ⟨rfl,⟨nd,rfl⟩⟩;refine ⟨_,rfl,?_⟩))
         go_roundg k1
         case measure => have := HK1.out;omega
         case rel => exact ⟨(wrap64 (x5_1 + (wrap64 (t126 * (wrap64 ((a1.size : Int) - x73_1)))))),(wrap64 (x73_1 + 1)),(by first|rfl|(simp;done)|(simp [my_isEmpty];done)|(simp [*];done)),(by first|rfl|(simp;done)|(simp [my_isEmpty];done)|(simp [*];done)),H',⟨by have := HK1.out;omega⟩,by repeat (first|exact Drawn0.refl _|apply Drawn0.step)⟩
        ·rw [if_neg c28] at H
         exact absurd H (by simp)
       ·rw [if_neg c27] at H
        exact absurd H (by simp)
      ·rw [if_neg c26] at H
       have c26b0 : decide (x73_1 < (a1.size : Int)) = false := decide_eq_false c26
       clear c26
       obtain rfl := Option.some.inj H
       simp only [Option.some.injEq,Prod.mk.injEq] at H
       obtain ⟨rfl⟩ := H
       go_wp2
       go_ret
       exact ⟨by first|rfl|(simp;done)|(simp [my_isEmpty];done)|(simp [*];done),by repeat (first|exact Drawn0.refl _|apply Drawn0.step)⟩
 ·replace c4 := Bool.eq_false_iff.mpr c4
  subst c4
  have H1 : (some false) = some r := by rw [if_neg (show ¬ (false = true) by decide)] at H;exact H
  clear H
  have H := H1
  clear H1
  obtain rfl := Option.some.inj H
  simp only [Option.some.injEq,Prod.mk.injEq] at H
  obtain ⟨rfl⟩ := H
  go_enter Tryd.func35,Tryd.ntmps35
  go_wp2_with (first|((with_reducible refine gate_callee (f := 53) rfl ?_);refine goesL_ (some 12) rfl rfl Tryd.func53 (by kernel_rfl) rfl #[.int .i64 a0,.string a1] rfl (by (try simp only [List.map_toArray,List.map_cons,List.map_nil]);first|done|rfl|(simp only [List.length_drop,List.length_take];rfl)) ?_;(with_reducible refine (impl_isIdText.calls k a0 a1 false _ A3.out).mono ?_);rintro e w' ⟨rfl,⟨nd,rfl⟩⟩;refine ⟨_,rfl,?_⟩))
  go_ret
  exact ⟨by first|rfl|(simp;done)|(simp [my_isEmpty];done)|(simp [*];done),by repeat (first|exact Drawn0.refl _|apply Drawn0.step)⟩
def strconv_Itoa.f (a0 : Int) : Option (ByteArray) := if -9223372036854775808 ≤ a0 ∧ a0 ≤ 9223372036854775807 then some ⟨(Lib.itoa a0).toArray⟩ else none
theorem strconv_Itoa.calls (a0 : Int) (r : ByteArray) (w : World) (hG : Gw w) (h : strconv_Itoa.f a0 = some r) :
  Calls Tryd.prog 65 #[.int .i64 a0] w fun e w' => e = .returned (.string r) ∧ Below w.heap.size w w' := by
 unfold strconv_Itoa.f at h
 split at h
 ·rename_i hs
  obtain rfl := Option.some.inj h
  refine (Tryd.strconv_Itoa a0 hs.1 hs.2 w hG.tab).mono ?_
  rintro e w' ⟨rfl,k,os,rfl⟩
  exact ⟨rfl,Lib.below_grow _ _ (Nat.le_refl _) _ _⟩
 ·cases h
def impl_completeIdentifier.l0 : Nat → Int → ByteArray → Int → Option (ByteArray × Bool)
 | 0,_,_,_ => none
 | k + 1,x0,x1,x6 => if x6 ≤ 10 then ((strconv_Itoa.f x6).bind fun t127 => (if x6 = 10 then (if x1.size + 1 ≤ 9223372036854775807 then ((impl_isIdentifier.f k x0 (x1 ++ (⟨#[88]⟩ : ByteArray))).bind fun t128 => (if t128 = true then (some (x1 ++ (⟨#[88]⟩ : ByteArray),true)) else (impl_completeIdentifier.l0 k x0 x1 (wrap64 (x6 + 1))))) else (none)) else (if x1.size + t127.size ≤ 9223372036854775807 then ((impl_isIdentifier.f k x0 (x1 ++ t127)).bind fun t129 => (if t129 = true then (some (x1 ++ t127,true)) else (impl_completeIdentifier.l0 k x0 x1 (wrap64 (x6 + 1))))) else (none)))) else (some ((⟨#[]⟩ : ByteArray),false))
def impl_completeIdentifier.f (k : Nat) (a0 : Int) (a1 : ByteArray) : Option (ByteArray × Bool) := impl_completeIdentifier.l0 k a0 a1 0
theorem impl_completeIdentifier.mono_l : ∀ k,(∀ y0 y1 y2,LeO (impl_completeIdentifier.l0 k y0 y1 y2) (impl_completeIdentifier.l0 (k + 1) y0 y1 y2))
 | 0 => fun _ _ _ r h => by simp [impl_completeIdentifier.l0] at h
 | k + 1 => by
  have ih0 := impl_completeIdentifier.mono_l k
  ·intro y0 y1 y2
   unfold impl_completeIdentifier.l0
   repeat' first
   | (with_reducible exact ih0 _ _ _)
   | (with_reducible exact impl_isIdentifier.mono _ _ _)
   | (with_reducible exact LeO.refl _)
   | (with_reducible exact LeO.none _)
   | (with_reducible refine LeO.ite ?_ ?_)
   | (with_reducible refine LeO.bind ?_ (fun _ => ?_))
   | exact ih0 _ _ _
   | exact impl_isIdentifier.mono _ _ _
   | exact LeO.none _
   | refine LeO.ite ?_ ?_
   | refine LeO.bind ?_ (fun _ => ?_)
theorem impl_completeIdentifier.mono : ∀ a0 a1 k,LeO (impl_completeIdentifier.f k a0 a1) (impl_completeIdentifier.f (k + 1) a0 a1) := by
 intro a0 a1 k
 have ih0 := impl_completeIdentifier.mono_l k
 unfold impl_completeIdentifier.f
 repeat' first
   | (with_reducible exact ih0 _ _ _)
   | (with_reducible exact impl_isIdentifier.mono _ _ _)
   | (with_reducible exact LeO.refl _)
   | (with_reducible exact LeO.none _)
   | (with_reducible refine LeO.ite ?_ ?_)
   | (with_reducible refine LeO.bind ?_ (fun _ => ?_))
   | exact ih0 _ _ _
   | exact impl_isIdentifier.mono _ _ _
   | exact LeO.none _
   | refine LeO.ite ?_ ?_
   | refine LeO.bind ?_ (fun _ => ?_)
set_option maxHeartbeats 8000000 in
set_option maxRecDepth 100000 in
theorem impl_completeIdentifier.calls (k : Nat) (a0 : Int) (a1 : ByteArray) (r1 : ByteArray) (r2 : Bool) (w : World) (hG : Gw w) (h : impl_completeIdentifier.f k a0 a1 = some (r1,r2)) :
  Calls Tryd.prog 37 #[.int .i64 a0,.string a1] w fun e w' => e = .returned (.tuple #[.string r1,.bool r2]) ∧ Below w.heap.size w w' := by
 have HB := Aside0.mk (Below.refl w.heap.size w)
 have HG := Aside0.mk hG
 clear hG
 have H : (impl_completeIdentifier.l0 k a0 a1 0) = some (r1,r2) := h
 clear h
 have H' := Aside0.mk H
 clear H
 go_enter Tryd.func37,Tryd.ntmps37
 go_wp2
 go_loopg [6] k (fun kq v6 w' => ∃ (x6_1 : Int),v6 = .int .i64 x6_1 ∧ Aside0 (impl_completeIdentifier.l0 kq a0 a1 x6_1 = some (r1,r2)) ∧ Aside0 (kq ≤ k) ∧ Aside0 (Below w.heap.size w w'))
 case atStart => exact ⟨(0),(by first|rfl|(simp;done)|(simp [my_isEmpty];done)|(simp [*];done)),H',⟨Nat.le_refl _⟩,⟨by repeat (first|(with_reducible first|exact HB.out|apply lA|apply lN|apply lD)|exact HB.out)⟩⟩
 case round =>
  clear H'
  try clear p2
  obtain ⟨x6_1,rfl,HA,HK1,HB⟩ := hrel
  cases gk with
  | zero => exact absurd HA.out (by simp [impl_completeIdentifier.l0])
  | succ k1 =>
   have H := HA.out
   clear HA
   simp only [impl_completeIdentifier.l0] at H
   by_cases c3 : x6_1 ≤ 10
   ·rw [if_pos c3] at H
    have c3b0 : decide (x6_1 ≤ 10) = true := decide_eq_true c3
    clear c3
    replace H := Option.bind_eq_some_iff.mp H
    obtain ⟨t127,A40,H⟩ := H
    replace H : (if x6_1 = 10 then (if a1.size + 1 ≤ 9223372036854775807 then ((impl_isIdentifier.f k1 a0 (a1 ++ (⟨#[88]⟩ : ByteArray))).bind fun t128 => (if t128 = true then (some (a1 ++ (⟨#[88]⟩ : ByteArray),true)) else (impl_completeIdentifier.l0 k1 a0 a1 (wrap64 (x6_1 + 1))))) else (none)) else (if a1.size + t127.size ≤ 9223372036854775807 then ((impl_isIdentifier.f k1 a0 (a1 ++ t127)).bind fun t129 => (if t129 = true then (some (a1 ++ t127,true)) else (impl_completeIdentifier.l0 k1 a0 a1 (wrap64 (x6_1 + 1))))) else (none))) = some (r1,r2) := H
    have A4 := Aside0.mk A40
    clear A40
    by_cases c5 : x6_1 = 10
    ·rw [if_pos c5] at H
     have c5b0 : (x6_1 == 10) = true := beq_iff_eq.mpr c5
     have c5b1 : (x6_1 != 10) = false := bne_eq_false_iff_eq.mpr c5
     clear c5
     by_cases c6 : a1.size + 1 ≤ 9223372036854775807
     ·rw [if_pos c6] at H
      have c6b0 := eq_true c6
      have c6b1 : decide (a1.size + 1 ≤ 9223372036854775807) = true := decide_eq_true c6
      try have c6b2 : (9223372036854775807 < a1.size + 1) = False := eq_false (Nat.not_lt.2 c6)
      replace H := Option.bind_eq_some_iff.mp H
      obtain ⟨t128,A70,H⟩ := H
      replace H : (if t128 = true then (some (a1 ++ (⟨#[88]⟩ : ByteArray),true)) else (impl_completeIdentifier.l0 k1 a0 a1 (wrap64 (x6_1 + 1)))) = some (r1,r2) := H
      have A7 := Aside0.mk A70
      clear A70
      by_cases c8 : t128 = true
      ·subst c8
       have H1 : (some (a1 ++ (⟨#[88]⟩ : ByteArray),true)) = some (r1,r2) := by rw [if_pos rfl] at H;exact H
       clear H
       have H := H1
       clear H1
       simp only [Option.some.injEq,Prod.mk.injEq] at H
       obtain ⟨rfl,rfl⟩ := H
       go_wp2_with (first|((with_reducible refine gate_callee (f := 65) rfl ?_);refine goesL_ (some 13) rfl rfl Tryd.func65 (by kernel_rfl) rfl #[.int .i64 x6_1] rfl (by (try simp only [List.map_toArray,List.map_cons,List.map_nil]);first|done|rfl|(simp only [List.length_drop,List.length_take];rfl)) ?_;(with_reducible refine (strconv_Itoa.calls x6_1 t127 _ ?side1 A4.out).mono ?_);(case side1 => exact Gw.below HG.out (by repeat (first|(with_reducible first|exact HB.out|apply lA|apply lN|apply lD)|exact HB.out)));rintro e w9 ⟨rfl,hb⟩;refine ⟨_,rfl,?_⟩;have n0_ := Aside0.mk (below_step (by repeat (first|(with_reducible first|exact HB.out|apply lA|apply lN|apply lD)|exact HB.out)) hb);clear HB;have HB := n0_;clear n0_;(try clear hb);(try clear hb2);(try clear hk);(try clear hi))|((with_reducible refine gate_callee (f := 35) rfl ?_);refine goesL_ (some 20) rfl rfl Tryd.func35 (by kernel_rfl) rfl #[.int .i64 a0,.string (a1 ++ (⟨#[88]⟩ : ByteArray))] rfl (by (try simp only [List.map_toArray,List.map_cons,List.map_nil]);first|done|rfl|(simp only [List.length_drop,List.length_take];rfl)) ?_;(with_reducible refine (impl_isIdentifier.calls k1 a0 (a1 ++ (⟨#[88]⟩ : ByteArray)) true _ A7.out).mono ?_);rintro e w' ⟨rfl,⟨nd,rfl⟩⟩;refine ⟨_,rfl,?_⟩))
       go_ret2
       exact ⟨by first|rfl|(simp [errW_none,errW_some] <;> rfl)|(simp [*,errW_none,errW_some] <;> rfl),by repeat (first|(with_reducible first|exact HB.out|apply lA|apply lN|apply lD)|exact HB.out)⟩
      ·replace c8 := Bool.eq_false_iff.mpr c8
       subst c8
       have H1 : (impl_completeIdentifier.l0 k1 a0 a1 (wrap64 (x6_1 + 1))) = some (r1,r2) := by rw [if_neg (show ¬ (false = true) by decide)] at H;exact H
       clear H
       have H := H1
       clear H1
       have H' := Aside0.mk H
       clear H
       go_wp2_with (first|((with_reducible refine gate_callee (f := 65) rfl ?_);refine goesL_ (some 13) rfl rfl Tryd.func65 (by kernel_rfl) rfl #[.int .i64 x6_1] rfl (by (try simp only [List.map_toArray,List.map_cons,List.map_nil]);first|done|rfl|(simp only [List.length_drop,List.length_take];rfl)) ?_;(with_reducible refine (strconv_Itoa.calls x6_1 t127 _ ?side1 A4.out).mono ?_);(case side1 => exact Gw.below HG.out (by repeat (first|(with_reducible first|exact HB.out|apply lA|apply lN|apply lD)|exact HB.out)));rintro e w10 ⟨rfl,hb⟩;refine ⟨_,rfl,?_⟩;have n0_ := Aside0.mk (below_step (by repeat (first|(with_reducible first|exact HB.out|apply lA|apply lN|apply lD)|exact HB.out)) hb);clear HB;have HB := n0_;clear n0_;(try clear hb);(try clear hb2);(try clear hk);(try clear hi))|((with_reducible refine gate_callee (f := 35) rfl ?_);refine goesL_ (some 20) rfl rfl Tryd.func35 (by kernel_rfl) rfl #[.int .i64 a0,.string (a1 ++ (⟨#[88]⟩ : ByteArray))] rfl (by (try simp only [List.map_toArray,List.map_cons,List.map_nil]);first|done|rfl|(simp only [List.length_drop,List.length_take];rfl)) ?_;(with_reducible refine (impl_isIdentifier.calls k1 a0 (a1 ++ (⟨#[88]⟩ : ByteArray)) false _ A7.out).mono ?_);rintro e w' ⟨rfl,⟨nd,rfl⟩⟩;refine ⟨_,rfl,?_⟩))
       go_roundg k1
       case measure => have := HK1.out;omega
       case rel => exact ⟨(wrap64 (x6_1 + 1)),(by first|rfl|(simp;done)|(simp [my_isEmpty];done)|(simp [*];done)),H',⟨by have := HK1.out;omega⟩,⟨by repeat (first|(with_reducible first|exact HB.out|apply lA|apply lN|apply lD)|exact HB.out)⟩⟩
     ·rw [if_neg c6] at H
      exact absurd H (by simp)
    ·rw [if_neg c5] at H
     have c5b0 : (x6_1 == 10) = false := beq_eq_false_iff_ne.mpr c5
     have c5b1 : (x6_1 != 10) = true := bne_iff_ne.mpr c5
     by_cases c11 : a1.size + t127.size ≤ 9223372036854775807
     ·rw [if_pos c11] at H
      have c11b0 := eq_true c11
      have c11b1 : decide (a1.size + t127.size ≤ 9223372036854775807) = true := decide_eq_true c11
      try have c11b2 : (9223372036854775807 < a1.size + t127.size) = False := eq_false (Nat.not_lt.2 c11)
      replace H := Option.bind_eq_some_iff.mp H
      obtain ⟨t129,A120,H⟩ := H
      replace H : (if t129 = true then (some (a1 ++ t127,true)) else (impl_completeIdentifier.l0 k1 a0 a1 (wrap64 (x6_1 + 1)))) = some (r1,r2) := H
      have A12 := Aside0.mk A120
      clear A120
      by_cases c13 : t129 = true
      ·subst c13
       have H1 : (some (a1 ++ t127,true)) = some (r1,r2) := by rw [if_pos rfl] at H;exact H
       clear H
       have H := H1
       clear H1
       simp only [Option.some.injEq,Prod.mk.injEq] at H
       obtain ⟨rfl,rfl⟩ := H
       go_wp2_with (first|((with_reducible refine gate_callee (f := 65) rfl ?_);refine goesL_ (some 13) rfl rfl Tryd.func65 (by kernel_rfl) rfl #[.int .i64 x6_1] rfl (by (try simp only [List.map_toArray,List.map_cons,List.map_nil]);first|done|rfl|(simp only [List.length_drop,List.length_take];rfl)) ?_;(with_reducible refine (strconv_Itoa.calls x6_1 t127 _ ?side1 A4.out).mono ?_);(case side1 => exact Gw.below HG.out (by repeat (first|(with_reducible first|exact HB.out|apply lA|apply lN|apply lD)|exact HB.out)));rintro e w14 ⟨rfl,hb⟩;refine ⟨_,rfl,?_⟩;have n0_ := Aside0.mk (below_step (by repeat (first|(with_reducible first|exact HB.out|apply lA|apply lN|apply lD)|exact HB.out)) hb);clear HB;have HB := n0_;clear n0_;(try clear hb);(try clear hb2);(try clear hk);(try clear hi))|((with_reducible refine gate_callee (f := 35) rfl ?_);refine goesL_ (some 20) rfl rfl Tryd.func35 (by kernel_rfl) rfl #[.int .i64 a0,.string (a1 ++ t127)] rfl (by (try simp only [List.map_toArray,List.map_cons,List.map_nil]);first|done|rfl|(simp only [List.length_drop,List.length_take];rfl)) ?_;(with_reducible refine (impl_isIdentifier.calls k1 a0 (a1 ++ t127) true _ A12.out).mono ?_);rintro e w' ⟨rfl,⟨nd,rfl⟩⟩;refine ⟨_,rfl,?_⟩))
       go_ret2
       exact ⟨by first|rfl|(simp [errW_none,errW_some] <;> rfl)|(simp [*,errW_none,errW_some] <;> rfl),by repeat (first|(with_reducible first|exact HB.out|apply lA|apply lN|apply lD)|exact HB.out)⟩
      ·replace c13 := Bool.eq_false_iff.mpr c13
       subst c13
       have H1 : (impl_completeIdentifier.l0 k1 a0 a1 (wrap64 (x6_1 + 1))) = some (r1,r2) := by rw [if_neg (show ¬ (false = true) by decide)] at H;exact H
       clear H
       have H := H1
       clear H1
       have H' := Aside0.mk H
       clear H
       go_wp2_with (first|((with_reducible refine gate_callee (f := 65) rfl ?_);refine goesL_ (some 13) rfl rfl Tryd.func65 (by kernel_rfl) rfl #[.int .i64 x6_1] rfl (by (try simp only [List.map_toArray,List.map_cons,List.map_nil]);first|done|rfl|(simp only [List.length_drop,List.length_take];rfl)) ?_;(with_reducible refine (strconv_Itoa.calls x6_1 t127 _ ?side1 A4.out).mono ?_);(case side1 => exact Gw.below HG.out (by repeat (first|(with_reducible first|exact HB.out|apply lA|apply lN|apply lD)|exact HB.out)));rintro e w15 ⟨rfl,hb⟩;refine ⟨_,rfl,?_⟩;have n0_ := Aside0.mk (below_step (by repeat (first|(with_reducible first|exact HB.out|apply lA|apply lN|apply lD)|exact HB.out)) hb);clear HB;have HB := n0_;clear n0_;(try clear hb);(try clear hb2);(try clear hk);(try clear hi))|((with_reducible refine gate_callee (f := 35) rfl ?_);refine goesL_ (some 20) rfl rfl Tryd.func35 (by kernel_rfl) rfl #[.int .i64 a0,.string (a1 ++ t127)] rfl (by (try simp only [List.map_toArray,List.map_cons,List.map_nil]);first|done|rfl|(simp only [List.length_drop,List.length_take];rfl)) ?_;(with_reducible refine (impl_isIdentifier.calls k1 a0 (a1 ++ t127) false _ A12.out).mono ?_);rintro e w' ⟨rfl,⟨nd,rfl⟩⟩;refine ⟨_,rfl,?_⟩))
       go_roundg k1
       case measure => have := HK1.out;omega
       case rel => exact ⟨(wrap64 (x6_1 + 1)),(by first|rfl|(simp;done)|(simp [my_isEmpty];done)|(simp [*];done)),H',⟨by have := HK1.out;omega⟩,⟨by repeat (first|(with_reducible first|exact HB.out|apply lA|apply lN|apply lD)|exact HB.out)⟩⟩
     ·rw [if_neg c11] at H
      exact absurd H (by simp)
   ·rw [if_neg c3] at H
    have c3b0 : decide (x6_1 ≤ 10) = false := decide_eq_false c3
    clear c3
    simp only [Option.some.injEq,Prod.mk.injEq] at H
    obtain ⟨rfl,rfl⟩ := H
    go_wp2
    go_ret2
    exact ⟨by first|rfl|(simp [errW_none,errW_some] <;> rfl)|(simp [*,errW_none,errW_some] <;> rfl),by repeat (first|(with_reducible first|exact HB.out|apply lA|apply lN|apply lD)|exact HB.out)⟩
def impl_ToBook10.f (k : Nat) (a0 : ByteArray) : Option (ByteArray × Bool) := (impl_isIdentifier.f k 2 a0).bind fun t130 => (if t130 = true then ((strings_HasPrefix.f a0 (⟨#[57,55,56]⟩ : ByteArray)).bind fun t131 => (if t131 = true then (if 3 ≤ 12 then (if 12 ≤ (a0.size : Int) then ((impl_completeIdentifier.f k 1 (a0.extract 3 12)).bind fun bt132 => (some (bt132.1,bt132.2))) else (none)) else (none)) else (some ((⟨#[]⟩ : ByteArray),false)))) else (some ((⟨#[]⟩ : ByteArray),false)))
theorem impl_ToBook10.mono : ∀ a0 k,LeO (impl_ToBook10.f k a0) (impl_ToBook10.f (k + 1) a0) := by
 intro a0 k
 unfold impl_ToBook10.f
 repeat' first
   | (with_reducible exact impl_completeIdentifier.mono _ _ _)
   | (with_reducible exact impl_isIdentifier.mono _ _ _)
   | (with_reducible exact LeO.refl _)
   | (with_reducible exact LeO.none _)
   | (with_reducible refine LeO.ite ?_ ?_)
   | (with_reducible refine LeO.bind ?_ (fun _ => ?_))
   | exact impl_completeIdentifier.mono _ _ _
   | exact impl_isIdentifier.mono _ _ _
   | exact LeO.none _
   | refine LeO.ite ?_ ?_
   | refine LeO.bind ?_ (fun _ => ?_)
set_option maxHeartbeats 8000000 in
set_option maxRecDepth 100000 in
theorem impl_ToBook10.calls (k : Nat) (a0 : ByteArray) (r1 : ByteArray) (r2 : Bool) (w : World) (hG : Gw w) (h : impl_ToBook10.f k a0 = some (r1,r2)) :
  Calls Tryd.prog 10 #[.string a0] w fun e w' => e = .returned (.tuple #[.string r1,.bool r2]) ∧ Below w.heap.size w w' := by
 have HB := Aside0.mk (Below.refl w.heap.size w)
 have HG := Aside0.mk hG
 clear hG
 have H : ((impl_isIdentifier.f k 2 a0).bind fun t130 => (if t130 = true then ((strings_HasPrefix.f a0 (⟨#[57,55,56]⟩ : ByteArray)).bind fun t131 => (if t131 = true then (if 3 ≤ 12 then (if 12 ≤ (a0.size : Int) then ((impl_completeIdentifier.f k 1 (a0.extract 3 12)).bind fun bt132 => (some (bt132.1,bt132.2))) else (none)) else (none)) else (some ((⟨#[]⟩ : ByteArray),false)))) else (some ((⟨#[]⟩ : ByteArray),false)))) = some (r1,r2) := h
 clear h
 replace H := Option.bind_eq_some_iff.mp H
 obtain ⟨t130,A20,H⟩ := H
 replace H : (if t130 = true then ((strings_HasPrefix.f a0 (⟨#[57,55,56]⟩ : ByteArray)).bind fun t131 => (if t131 = true then (if 3 ≤ 12 then (if 12 ≤ (a0.size : Int) then ((impl_completeIdentifier.f k 1 (a0.extract 3 12)).bind fun bt132 => (some (bt132.1,bt132.2))) else (none)) else (none)) else (some ((⟨#[]⟩ : ByteArray),false)))) else (some ((⟨#[]⟩ : ByteArray),false))) = some (r1,r2) := H
 have A2 := Aside0.mk A20
 clear A20
 by_cases c3 : t130 = true
 ·subst c3
  have H1 : ((strings_HasPrefix.f a0 (⟨#[57,55,56]⟩ : ByteArray)).bind fun t131 => (if t131 = true then (if 3 ≤ 12 then (if 12 ≤ (a0.size : Int) then ((impl_completeIdentifier.f k 1 (a0.extract 3 12)).bind fun bt132 => (some (bt132.1,bt132.2))) else (none)) else (none)) else (some ((⟨#[]⟩ : ByteArray),false)))) = some (r1,r2) := by rw [if_pos rfl] at H;exact H
  clear H
  have H := H1
  clear H1
  replace H := Option.bind_eq_some_iff.mp H
  obtain ⟨t131,A40,H⟩ := H
  replace H : (if t131 = true then (if 3 ≤ 12 then (if 12 ≤ (a0.size : Int) then ((impl_completeIdentifier.f k 1 (a0.extract 3 12)).bind fun bt132 => (some (bt132.1,bt132.2))) else (none)) else (none)) else (some ((⟨#[]⟩ : ByteArray),false))) = some (r1,r2) := H
  have A4 := Aside0.mk A40
  clear A40
  by_cases c5 : t131 = true
  ·subst c5
   have H1 : (if 3 ≤ 12 then (if 12 ≤ (a0.size : Int) then ((impl_completeIdentifier.f k 1 (a0.extract 3 12)).bind fun bt132 => (some (bt132.1,bt132.2))) else (none)) else (none)) = some (r1,r2) := by rw [if_pos rfl] at H;exact H
   clear H
   have H := H1
   clear H1
   by_cases c6 : 3 ≤ 12
   ·rw [if_pos c6] at H
    have c6b0 := eq_true c6
    have c6b1 : decide (3 ≤ 12) = true := decide_eq_true c6
    clear c6
    by_cases c7 : 12 ≤ (a0.size : Int)
    ·rw [if_pos c7] at H
     have c7b0 := eq_true c7
     have c7b1 : decide (12 ≤ (a0.size : Int)) = true := decide_eq_true c7
     clear c7
     replace H := Option.bind_eq_some_iff.mp H
     obtain ⟨⟨t132,t133⟩,A80,H⟩ := H
     replace H : (some (t132,t133)) = some (r1,r2) := H
     have A8 := Aside0.mk A80
     clear A80
     simp only [Option.some.injEq,Prod.mk.injEq] at H
     obtain ⟨rfl,rfl⟩ := H
     go_enter Tryd.func10,Tryd.ntmps10
     go_wp2_with (first|((with_reducible refine gate_callee (f := 35) rfl ?_);refine goesL_ (some 5) rfl rfl Tryd.func35 (by kernel_rfl) rfl #[.int .i64 2,.string a0] rfl (by (try simp only [List.map_toArray,List.map_cons,List.map_nil]);first|done|rfl|(simp only [List.length_drop,List.length_take];rfl)) ?_;(with_reducible refine (impl_isIdentifier.calls k 2 a0 true _ A2.out).mono ?_);rintro e w' ⟨rfl,⟨nd,rfl⟩⟩;refine ⟨_,rfl,?_⟩)|(go_at_call 36;(with_reducible refine (strings_HasPrefix.calls a0 (⟨#[57,55,56]⟩ : ByteArray) true _ A4.out).mono ?_);rintro e w' ⟨rfl,⟨nd,rfl⟩⟩)|((with_reducible refine gate_callee (f := 37) rfl ?_);refine goesL_ (some 14) rfl rfl Tryd.func37 (by kernel_rfl) rfl #[.int .i64 1,.string (a0.extract 3 12)] rfl (by (try simp only [List.map_toArray,List.map_cons,List.map_nil]);first|done|rfl|(simp only [List.length_drop,List.length_take];rfl)) ?_;(with_reducible refine (impl_completeIdentifier.calls k 1 (a0.extract 3 12) t132 t133 _ ?side1 A8.out).mono ?_);(case side1 => exact Gw.below HG.out (by repeat (first|(with_reducible first|exact HB.out|apply lA|apply lN|apply lD)|exact HB.out)));rintro e w9 ⟨rfl,hb⟩;refine ⟨_,rfl,?_⟩;have n0_ := Aside0.mk (below_step (by repeat (first|(with_reducible first|exact HB.out|apply lA|apply lN|apply lD)|exact HB.out)) hb);clear HB;have HB := n0_;clear n0_;(try clear hb);(try clear hb2);(try clear hk);(try clear hi)))
     go_ret2
     exact ⟨by first|rfl|(simp [errW_none,errW_some] <;> rfl)|(simp [*,errW_none,errW_some] <;> rfl),by repeat (first|(with_reducible first|exact HB.out|apply lA|apply lN|apply lD)|exact HB.out)⟩
    ·rw [if_neg c7] at H
     exact absurd H (by simp)
   ·rw [if_neg c6] at H
    exact absurd H (by simp)
  ·replace c5 := Bool.eq_false_iff.mpr c5
   subst c5
   have H1 : (some ((⟨#[]⟩ : ByteArray),false)) = some (r1,r2) := by rw [if_neg (show ¬ (false = true) by decide)] at H;exact H
   clear H
   have H := H1
   clear H1
   simp only [Option.some.injEq,Prod.mk.injEq] at H
   obtain ⟨rfl,rfl⟩ := H
   go_enter Tryd.func10,Tryd.ntmps10
   go_wp2_with (first|((with_reducible refine gate_callee (f := 35) rfl ?_);refine goesL_ (some 5) rfl rfl Tryd.func35 (by kernel_rfl) rfl #[.int .i64 2,.string a0] rfl (by (try simp only [List.map_toArray,List.map_cons,List.map_nil]);first|done|rfl|(simp only [List.length_drop,List.length_take];rfl)) ?_;(with_reducible refine (impl_isIdentifier.calls k 2 a0 true _ A2.out).mono ?_);rintro e w' ⟨rfl,⟨nd,rfl⟩⟩;refine ⟨_,rfl,?_⟩)|(go_at_call 36;(with_reducible refine (strings_HasPrefix.calls a0 (⟨#[57,55,56]⟩ : ByteArray) false _ A4.out).mono ?_);rintro e w' ⟨rfl,⟨nd,rfl⟩⟩))
   go_ret2
   exact ⟨by first|rfl|(simp [errW_none,errW_some] <;> rfl)|(simp [*,errW_none,errW_some] <;> rfl),by repeat (first|(with_reducible first|exact HB.out|apply lA|apply lN|apply lD)|exact HB.out)⟩
 ·replace c3 := Bool.eq_false_iff.mpr c3
  subst c3
  have H1 : (some ((⟨#[]⟩ : ByteArray),false)) = some (r1,r2) := by rw [if_neg (show ¬ (false = true) by decide)] at H;exact H
  clear H
  have H := H1
  clear H1
  simp only [Option.some.injEq,Prod.mk.injEq] at H
  obtain ⟨rfl,rfl⟩ := H
  go_enter Tryd.func10,Tryd.ntmps10
  go_wp2_with (first|((with_reducible refine gate_callee (f := 35) rfl ?_);refine goesL_ (some 5) rfl rfl Tryd.func35 (by kernel_rfl) rfl #[.int .i64 2,.string a0] rfl (by (try simp only [List.map_toArray,List.map_cons,List.map_nil]);first|done|rfl|(simp only [List.length_drop,List.length_take];rfl)) ?_;(with_reducible refine (impl_isIdentifier.calls k 2 a0 false _ A2.out).mono ?_);rintro e w' ⟨rfl,⟨nd,rfl⟩⟩;refine ⟨_,rfl,?_⟩))
  go_ret2
  exact ⟨by first|rfl|(simp [errW_none,errW_some] <;> rfl)|(simp [*,errW_none,errW_some] <;> rfl),by repeat (first|(with_reducible first|exact HB.out|apply lA|apply lN|apply lD)|exact HB.out)⟩
def spec_ToBook13.f (k : Nat) (a0 : ByteArray) : Option (ByteArray × Bool) := (spec_l24Is.f k 1 a0).bind fun t134 => (if t134 = true then (if 0 ≤ 9 then (if 9 ≤ (a0.size : Int) then (if 3 + (a0.extract 0 9).size ≤ 9223372036854775807 then ((spec_l24Complete.f k 2 ((⟨#[57,55,56]⟩ : ByteArray) ++ (a0.extract 0 9))).bind fun t135 => (some (t135,true))) else (none)) else (none)) else (none)) else (some ((⟨#[]⟩ : ByteArray),false)))
theorem spec_ToBook13.mono : ∀ a0 k,LeO (spec_ToBook13.f k a0) (spec_ToBook13.f (k + 1) a0) := by
 intro a0 k
 unfold spec_ToBook13.f
 repeat' first
   | (with_reducible exact spec_l24Complete.mono _ _ _)
   | (with_reducible exact spec_l24Is.mono _ _ _)
   | (with_reducible exact LeO.refl _)
   | (with_reducible exact LeO.none _)
   | (with_reducible refine LeO.ite ?_ ?_)
   | (with_reducible refine LeO.bind ?_ (fun _ => ?_))
   | exact spec_l24Complete.mono _ _ _
   | exact spec_l24Is.mono _ _ _
   | exact LeO.none _
   | refine LeO.ite ?_ ?_
   | refine LeO.bind ?_ (fun _ => ?_)
set_option maxHeartbeats 8000000 in
set_option maxRecDepth 100000 in
theorem spec_ToBook13.calls (k : Nat) (a0 : ByteArray) (r1 : ByteArray) (r2 : Bool) (w : World) (h : spec_ToBook13.f k a0 = some (r1,r2)) :
  Calls Tryd.prog 11 #[.string a0] w fun e w' => e = .returned (.tuple #[.string r1,.bool r2]) ∧ Drawn0 w w' := by
 have H : ((spec_l24Is.f k 1 a0).bind fun t134 => (if t134 = true then (if 0 ≤ 9 then (if 9 ≤ (a0.size : Int) then (if 3 + (a0.extract 0 9).size ≤ 9223372036854775807 then ((spec_l24Complete.f k 2 ((⟨#[57,55,56]⟩ : ByteArray) ++ (a0.extract 0 9))).bind fun t135 => (some (t135,true))) else (none)) else (none)) else (none)) else (some ((⟨#[]⟩ : ByteArray),false)))) = some (r1,r2) := h
 clear h
 replace H := Option.bind_eq_some_iff.mp H
 obtain ⟨t134,A20,H⟩ := H
 replace H : (if t134 = true then (if 0 ≤ 9 then (if 9 ≤ (a0.size : Int) then (if 3 + (a0.extract 0 9).size ≤ 9223372036854775807 then ((spec_l24Complete.f k 2 ((⟨#[57,55,56]⟩ : ByteArray) ++ (a0.extract 0 9))).bind fun t135 => (some (t135,true))) else (none)) else (none)) else (none)) else (some ((⟨#[]⟩ : ByteArray),false))) = some (r1,r2) := H
 have A2 := Aside0.mk A20
 clear A20
 by_cases c3 : t134 = true
 ·subst c3
  have H1 : (if 0 ≤ 9 then (if 9 ≤ (a0.size : Int) then (if 3 + (a0.extract 0 9).size ≤ 9223372036854775807 then ((spec_l24Complete.f k 2 ((⟨#[57,55,56]⟩ : ByteArray) ++ (a0.extract 0 9))).bind fun t135 => (some (t135,true))) else (none)) else (none)) else (none)) = some (r1,r2) := by rw [if_pos rfl] at H;exact H
  clear H
  have H := H1
  clear H1
  by_cases c4 : 0 ≤ 9
  ·rw [if_pos c4] at H
   have c4b0 := eq_true c4
   have c4b1 : decide (0 ≤ 9) = true := decide_eq_true c4
   clear c4
   by_cases c5 : 9 ≤ (a0.size : Int)
   ·rw [if_pos c5] at H
    have c5b0 := eq_true c5
    have c5b1 : decide (9 ≤ (a0.size : Int)) = true := decide_eq_true c5
    clear c5
    by_cases c6 : 3 + (a0.extract 0 9).size ≤ 9223372036854775807
    ·rw [if_pos c6] at H
     have c6b0 := eq_true c6
     have c6b1 : decide (3 + (a0.extract 0 9).size ≤ 9223372036854775807) = true := decide_eq_true c6
     try have c6b3 : (9223372036854775807 < 3 + min 9 a0.size) = False := eq_false (by have h_ := c6;simp only [ByteArray.size_append,ByteArray.size_extract] at h_;omega)
     try have c6b2 : (9223372036854775807 < 3 + (a0.extract 0 9).size) = False := eq_false (Nat.not_lt.2 c6)
     replace H := Option.bind_eq_some_iff.mp H
     obtain ⟨t135,A70,H⟩ := H
     replace H : (some (t135,true)) = some (r1,r2) := H
     have A7 := Aside0.mk A70
     clear A70
     simp only [Option.some.injEq,Prod.mk.injEq] at H
     obtain ⟨rfl,rfl⟩ := H
     go_enter Tryd.func11,Tryd.ntmps11
     go_wp2_with (first|((with_reducible refine gate_callee (f := 33) rfl ?_);refine goesL_ (some 5) rfl rfl Tryd.func33 (by kernel_rfl) rfl #[.int .i64 1,.string a0] rfl (by (try simp only [List.map_toArray,List.map_cons,List.map_nil]);first|done|rfl|(simp only [List.length_drop,List.length_take];rfl)) ?_;(with_reducible refine (spec_l24Is.calls k 1 a0 true _ A2.out).mono ?_);rintro e w' ⟨rfl,⟨nd,rfl⟩⟩;refine ⟨_,rfl,?_⟩)|((with_reducible refine gate_callee (f := 34) rfl ?_);refine goesL_ (some 10) rfl rfl Tryd.func34 (by kernel_rfl) rfl #[.int .i64 2,.string ((⟨#[57,55,56]⟩ : ByteArray) ++ (a0.extract 0 9))] rfl (by (try simp only [List.map_toArray,List.map_cons,List.map_nil]);first|done|rfl|(simp only [List.length_drop,List.length_take];rfl)) ?_;(with_reducible refine (spec_l24Complete.calls k 2 ((⟨#[57,55,56]⟩ : ByteArray) ++ (a0.extract 0 9)) t135 _ A7.out).mono ?_);rintro e w' ⟨rfl,⟨nd,rfl⟩⟩;refine ⟨_,rfl,?_⟩))
     go_ret2
     exact ⟨by first|rfl|(simp;done)|(simp [my_isEmpty];done)|(simp [*];done),by repeat (first|exact Drawn0.refl _|apply Drawn0.step)⟩
    ·rw [if_neg c6] at H
     exact absurd H (by simp)
   ·rw [if_neg c5] at H
    exact absurd H (by simp)
  ·rw [if_neg c4] at H
   exact absurd H (by simp)
 ·replace c3 := Bool.eq_false_iff.mpr c3
  subst c3
  have H1 : (some ((⟨#[]⟩ : ByteArray),false)) = some (r1,r2) := by rw [if_neg (show ¬ (false = true) by decide)] at H;exact H
  clear H
  have H := H1
  clear H1
  simp only [Option.some.injEq,Prod.mk.injEq] at H
  obtain ⟨rfl,rfl⟩ := H
  go_enter Tryd.func11,Tryd.ntmps11
  go_wp2_with (first|((with_reducible refine gate_callee (f := 33) rfl ?_);refine goesL_ (some 5) rfl rfl Tryd.func33 (by kernel_rfl) rfl #[.int .i64 1,.string a0] rfl (by (try simp only [List.map_toArray,List.map_cons,List.map_nil]);first|done|rfl|(simp only [List.length_drop,List.length_take];rfl)) ?_;(with_reducible refine (spec_l24Is.calls k 1 a0 false _ A2.out).mono ?_);rintro e w' ⟨rfl,⟨nd,rfl⟩⟩;refine ⟨_,rfl,?_⟩))
  go_ret2
  exact ⟨by first|rfl|(simp;done)|(simp [my_isEmpty];done)|(simp [*];done),by repeat (first|exact Drawn0.refl _|apply Drawn0.step)⟩
def impl_ToBook13.f (k : Nat) (a0 : ByteArray) : Option (ByteArray × Bool) := (impl_isIdentifier.f k 1 a0).bind fun t136 => (if t136 = true then (if 0 ≤ 9 then (if 9 ≤ (a0.size : Int) then (if 3 + (a0.extract 0 9).size ≤ 9223372036854775807 then ((impl_completeIdentifier.f k 2 ((⟨#[57,55,56]⟩ : ByteArray) ++ (a0.extract 0 9))).bind fun bt137 => (some (bt137.1,bt137.2))) else (none)) else (none)) else (none)) else (some ((⟨#[]⟩ : ByteArray),false)))
theorem impl_ToBook13.mono : ∀ a0 k,LeO (impl_ToBook13.f k a0) (impl_ToBook13.f (k + 1) a0) := by
 intro a0 k
 unfold impl_ToBook13.f
 repeat' first
   | (with_reducible exact impl_completeIdentifier.mono _ _ _)
   | (with_reducible exact impl_isIdentifier.mono _ _ _)
   | (with_reducible exact LeO.refl _)
   | (with_reducible exact LeO.none _)
   | (with_reducible refine LeO.ite ?_ ?_)
   | (with_reducible refine LeO.bind ?_ (fun _ => ?_))
   | exact impl_completeIdentifier.mono _ _ _
   | exact impl_isIdentifier.mono _ _ _
   | exact LeO.none _
   | refine LeO.ite ?_ ?_
   | refine LeO.bind ?_ (fun _ => ?_)
set_option maxHeartbeats 8000000 in
set_option maxRecDepth 100000 in
theorem impl_ToBook13.calls (k : Nat) (a0 : ByteArray) (r1 : ByteArray) (r2 : Bool) (w : World) (hG : Gw w) (h : impl_ToBook13.f k a0 = some (r1,r2)) :
  Calls Tryd.prog 12 #[.string a0] w fun e w' => e = .returned (.tuple #[.string r1,.bool r2]) ∧ Below w.heap.size w w' := by
 have HB := Aside0.mk (Below.refl w.heap.size w)
 have HG := Aside0.mk hG
 clear hG
 have H : ((impl_isIdentifier.f k 1 a0).bind fun t136 => (if t136 = true then (if 0 ≤ 9 then (if 9 ≤ (a0.size : Int) then (if 3 + (a0.extract 0 9).size ≤ 9223372036854775807 then ((impl_completeIdentifier.f k 2 ((⟨#[57,55,56]⟩ : ByteArray) ++ (a0.extract 0 9))).bind fun bt137 => (some (bt137.1,bt137.2))) else (none)) else (none)) else (none)) else (some ((⟨#[]⟩ : ByteArray),false)))) = some (r1,r2) := h
 clear h
 replace H := Option.bind_eq_some_iff.mp H
 obtain ⟨t136,A20,H⟩ := H
 replace H : (if t136 = true then (if 0 ≤ 9 then (if 9 ≤ (a0.size : Int) then (if 3 + (a0.extract 0 9).size ≤ 9223372036854775807 then ((impl_completeIdentifier.f k 2 ((⟨#[57,55,56]⟩ : ByteArray) ++ (a0.extract 0 9))).bind fun bt137 => (some (bt137.1,bt137.2))) else (none)) else (none)) else (none)) else (some ((⟨#[]⟩ : ByteArray),false))) = some (r1,r2) := H
 have A2 := Aside0.mk A20
 clear A20
 by_cases c3 : t136 = true
 ·subst c3
  have H1 : (if 0 ≤ 9 then (if 9 ≤ (a0.size : Int) then (if 3 + (a0.extract 0 9).size ≤ 9223372036854775807 then ((impl_completeIdentifier.f k 2 ((⟨#[57,55,56]⟩ : ByteArray) ++ (a0.extract 0 9))).bind fun bt137 => (some (bt137.1,bt137.2))) else (none)) else (none)) else (none)) = some (r1,r2) := by rw [if_pos rfl] at H;exact H
  clear H
  have H := H1
  clear H1
  by_cases c4 : 0 ≤ 9
  ·rw [if_pos c4] at H
   have c4b0 := eq_true c4
   have c4b1 : decide (0 ≤ 9) = true := decide_eq_true c4
   clear c4
   by_cases c5 : 9 ≤ (a0.size : Int)
   ·rw [if_pos c5] at H
    have c5b0 := eq_true c5
    have c5b1 : decide (9 ≤ (a0.size : Int)) = true := decide_eq_true c5
    clear c5
    by_cases c6 : 3 + (a0.extract 0 9).size ≤ 9223372036854775807
    ·rw [if_pos c6] at H
     have c6b0 := eq_true c6
     have c6b1 : decide (3 + (a0.extract 0 9).size ≤ 9223372036854775807) = true := decide_eq_true c6
     try have c6b3 : (9223372036854775807 < 3 + min 9 a0.size) = False := eq_false (by have h_ := c6;simp only [ByteArray.size_append,ByteArray.size_extract] at h_;omega)
     try have c6b2 : (9223372036854775807 < 3 + (a0.extract 0 9).size) = False := eq_false (Nat.not_lt.2 c6)
     replace H := Option.bind_eq_some_iff.mp H
     obtain ⟨⟨t137,t138⟩,A70,H⟩ := H
     replace H : (some (t137,t138)) = some (r1,r2) := H
     have A7 := Aside0.mk A70
     clear A70
     simp only [Option.some.injEq,Prod.mk.injEq] at H
     obtain ⟨rfl,rfl⟩ := H
     go_enter Tryd.func12,Tryd.ntmps12
     go_wp2_with (first|((with_reducible refine gate_callee (f := 35) rfl ?_);refine goesL_ (some 5) rfl rfl Tryd.func35 (by kernel_rfl) rfl #[.int .i64 1,.string a0] rfl (by (try simp only [List.map_toArray,List.map_cons,List.map_nil]);first|done|rfl|(simp only [List.length_drop,List.length_take];rfl)) ?_;(with_reducible refine (impl_isIdentifier.calls k 1 a0 true _ A2.out).mono ?_);rintro e w' ⟨rfl,⟨nd,rfl⟩⟩;refine ⟨_,rfl,?_⟩)|((with_reducible refine gate_callee (f := 37) rfl ?_);refine goesL_ (some 10) rfl rfl Tryd.func37 (by kernel_rfl) rfl #[.int .i64 2,.string ((⟨#[57,55,56]⟩ : ByteArray) ++ (a0.extract 0 9))] rfl (by (try simp only [List.map_toArray,List.map_cons,List.map_nil]);first|done|rfl|(simp only [List.length_drop,List.length_take];rfl)) ?_;(with_reducible refine (impl_completeIdentifier.calls k 2 ((⟨#[57,55,56]⟩ : ByteArray) ++ (a0.extract 0 9)) t137 t138 _ ?side1 A7.out).mono ?_);(case side1 => exact Gw.below HG.out (by repeat (first|(with_reducible first|exact HB.out|apply lA|apply lN|apply lD)|exact HB.out)));rintro e w8 ⟨rfl,hb⟩;refine ⟨_,rfl,?_⟩;have n0_ := Aside0.mk (below_step (by repeat (first|(with_reducible first|exact HB.out|apply lA|apply lN|apply lD)|exact HB.out)) hb);clear HB;have HB := n0_;clear n0_;(try clear hb);(try clear hb2);(try clear hk);(try clear hi)))
     go_ret2
     exact ⟨by first|rfl|(simp [errW_none,errW_some] <;> rfl)|(simp [*,errW_none,errW_some] <;> rfl),by repeat (first|(with_reducible first|exact HB.out|apply lA|apply lN|apply lD)|exact HB.out)⟩
    ·rw [if_neg c6] at H
     exact absurd H (by simp)
   ·rw [if_neg c5] at H
    exact absurd H (by simp)
  ·rw [if_neg c4] at H
   exact absurd H (by simp)
 ·replace c3 := Bool.eq_false_iff.mpr c3
  subst c3
  have H1 : (some ((⟨#[]⟩ : ByteArray),false)) = some (r1,r2) := by rw [if_neg (show ¬ (false = true) by decide)] at H;exact H
  clear H
  have H := H1
  clear H1
  simp only [Option.some.injEq,Prod.mk.injEq] at H
  obtain ⟨rfl,rfl⟩ := H
  go_enter Tryd.func12,Tryd.ntmps12
  go_wp2_with (first|((with_reducible refine gate_callee (f := 35) rfl ?_);refine goesL_ (some 5) rfl rfl Tryd.func35 (by kernel_rfl) rfl #[.int .i64 1,.string a0] rfl (by (try simp only [List.map_toArray,List.map_cons,List.map_nil]);first|done|rfl|(simp only [List.length_drop,List.length_take];rfl)) ?_;(with_reducible refine (impl_isIdentifier.calls k 1 a0 false _ A2.out).mono ?_);rintro e w' ⟨rfl,⟨nd,rfl⟩⟩;refine ⟨_,rfl,?_⟩))
  go_ret2
  exact ⟨by first|rfl|(simp [errW_none,errW_some] <;> rfl)|(simp [*,errW_none,errW_some] <;> rfl),by repeat (first|(with_reducible first|exact HB.out|apply lA|apply lN|apply lD)|exact HB.out)⟩
end Go.Proofs.YtpnjnlcjofaglaaDoor.P
