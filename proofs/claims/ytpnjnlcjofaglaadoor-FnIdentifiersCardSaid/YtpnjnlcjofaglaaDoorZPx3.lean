/- Written by a program in this session: each theorem here says that a Go function computes the Lean function beside it, or that a law's row holds, under the conditions that the theorem itself states. -/
import Derived.Test.YtpnjnlcjofaglaaDoorZPx0
import Derived.Test.YtpnjnlcjofaglaaDoorZPx2
namespace Go.Proofs.YtpnjnlcjofaglaaDoor.P
open Go.RowKit Go.Proofs.YtpnjnlcjofaglaaDoorW.PrintWords Go.Proofs.YtpnjnlcjofaglaaDoorW.PrintLast Go.Proofs.YtpnjnlcjofaglaaDoorW.PrintMore
attribute [local go_sem] max2_int min2_int max_two min_two max_three min_three max_four min_four   -- for this text's walks alone
set_option linter.unusedVariables false
set_option linter.unusedSimpArgs false
def impl_valueOf.f (a0 : Int) : Option (Int) := if a0 = 88 then (some 10) else (some ((a0 - 48) % 256))
set_option maxHeartbeats 8000000 in
set_option maxRecDepth 100000 in
theorem impl_valueOf.calls (a0 : Int) (r : Int) (w : World) (h : impl_valueOf.f a0 = some r) :
  Calls Tryd.prog 63 #[.int .u8 a0] w fun e w' => e = .returned (.int .i64 r) ∧ Drawn0 w w' := by
 have H : (if a0 = 88 then (some 10) else (some ((a0 - 48) % 256))) = some r := h
 clear h
 by_cases c2 : a0 = 88
 ·rw [if_pos c2] at H
  have c2b0 : (a0 == 88) = true := beq_iff_eq.mpr c2
  have c2b1 : (a0 != 88) = false := bne_eq_false_iff_eq.mpr c2
  clear c2
  obtain rfl := Option.some.inj H
  simp only [Option.some.injEq,Prod.mk.injEq] at H
  obtain ⟨rfl⟩ := H
  go_enter Tryd.func63,Tryd.ntmps63
  go_wp2
  go_ret
  exact ⟨by first|rfl|(simp;done)|(simp [my_isEmpty];done)|(simp [*];done),by repeat (first|exact Drawn0.refl _|apply Drawn0.step)⟩
 ·rw [if_neg c2] at H
  have c2b0 : (a0 == 88) = false := beq_eq_false_iff_ne.mpr c2
  have c2b1 : (a0 != 88) = true := bne_iff_ne.mpr c2
  obtain rfl := Option.some.inj H
  simp only [Option.some.injEq,Prod.mk.injEq] at H
  obtain ⟨rfl⟩ := H
  go_enter Tryd.func63,Tryd.ntmps63
  go_wp2
  go_ret
  exact ⟨by first|rfl|(simp;done)|(simp [my_isEmpty];done)|(simp [*];done),by repeat (first|exact Drawn0.refl _|apply Drawn0.step)⟩
mutual
def impl_isIdentifier.l0 : Nat → ByteArray → Int → Int → Int → Option (Bool)
 | 0,_,_,_,_ => none
 | k + 1,x1,x5,x21,x22 => if x22 < x21 then (if 0 ≤ x22 then (if x22 < (x1.size : Int) then ((impl_valueOf.f (bt x1 x22)).bind fun t122 => (impl_isIdentifier.l0 k x1 (wrap64 (x5 + (wrap64 (t122 * (wrap64 (1 + (wrap64 ((Int.tmod x22 2) * 2)))))))) x21 (wrap64 (x22 + 1)))) else (none)) else (none)) else (if (Int.tmod x5 10) = 0 then ((strings_HasPrefix.f x1 (⟨#[57,55,56]⟩ : ByteArray)).bind fun t123 => (if t123 = true then (some true) else ((strings_HasPrefix.f x1 (⟨#[57,55,57]⟩ : ByteArray)).bind fun t124 => (some t124)))) else (some false))
def impl_isIdentifier.l1 : Nat → ByteArray → Int → Int → Int → Int → Option (Bool)
 | 0,_,_,_,_,_ => none
 | k + 1,x1,x5,x6,x50,x51 => if x51 < x50 then (if 0 ≤ x51 then (if x51 < (x1.size : Int) then ((impl_valueOf.f (bt x1 x51)).bind fun t125 => (impl_isIdentifier.l1 k x1 (Int.tmod (wrap64 (2 * (wrap64 (x5 + t125)))) 11) x6 x50 (wrap64 (x51 + 1)))) else (none)) else (none)) else (if 0 ≤ x6 then (if x6 < (x1.size : Int) then ((impl_valueOf.f (bt x1 x6)).bind fun t126 => (some (t126 == (Int.tmod (wrap64 (12 - x5)) 11)))) else (none)) else (none))
def impl_isIdentifier.l2 : Nat → ByteArray → Int → Int → Int → Option (Bool)
 | 0,_,_,_,_ => none
 | k + 1,x1,x5,x72,x73 => if x73 < x72 then (if 0 ≤ x73 then (if x73 < (x1.size : Int) then ((impl_valueOf.f (bt x1 x73)).bind fun t127 => (impl_isIdentifier.l2 k x1 (wrap64 (x5 + (wrap64 (t127 * (wrap64 ((x1.size : Int) - x73)))))) x72 (wrap64 (x73 + 1)))) else (none)) else (none)) else (some ((Int.tmod x5 11) == 0))
end
def impl_isIdentifier.f (k : Nat) (a0 : Int) (a1 : ByteArray) : Option (Bool) := (impl_isIdText.f k a0 a1).bind fun t121 => (if t121 = true then (if a0 = 2 then (impl_isIdentifier.l0 k a1 0 (a1.size : Int) 0) else (if a0 = 4 then (impl_isIdentifier.l1 k a1 0 (wrap64 ((a1.size : Int) - 1)) (wrap64 ((a1.size : Int) - 1)) 0) else (impl_isIdentifier.l2 k a1 0 (a1.size : Int) 0))) else (some false))
theorem impl_isIdentifier.mono_l : ∀ k,(∀ y0 y1 y2 y3,LeO (impl_isIdentifier.l0 k y0 y1 y2 y3) (impl_isIdentifier.l0 (k + 1) y0 y1 y2 y3)) ∧ (∀ y0 y1 y2 y3 y4,LeO (impl_isIdentifier.l1 k y0 y1 y2 y3 y4) (impl_isIdentifier.l1 (k + 1) y0 y1 y2 y3 y4)) ∧ (∀ y0 y1 y2 y3,LeO (impl_isIdentifier.l2 k y0 y1 y2 y3) (impl_isIdentifier.l2 (k + 1) y0 y1 y2 y3))
 | 0 => ⟨fun _ _ _ _ r h => by simp [impl_isIdentifier.l0] at h,fun _ _ _ _ _ r h => by simp [impl_isIdentifier.l1] at h,fun _ _ _ _ r h => by simp [impl_isIdentifier.l2] at h⟩
 | k + 1 => by
  obtain ⟨ih0,ih1,ih2⟩ := impl_isIdentifier.mono_l k
  refine ⟨?_,?_,?_⟩
  ·intro y0 y1 y2 y3
   unfold impl_isIdentifier.l0
   repeat' first
   | (with_reducible exact ih0 _ _ _ _)
   | (with_reducible exact ih1 _ _ _ _ _)
   | (with_reducible exact ih2 _ _ _ _)
   | (with_reducible exact impl_isIdText.mono _ _ _)
   | (with_reducible exact LeO.refl _)
   | (with_reducible exact LeO.none _)
   | (with_reducible refine LeO.ite ?_ ?_)
   | (with_reducible refine LeO.bind ?_ (fun _ => ?_))
   | exact ih0 _ _ _ _
   | exact ih1 _ _ _ _ _
   | exact ih2 _ _ _ _
   | exact impl_isIdText.mono _ _ _
   | exact LeO.none _
   | refine LeO.ite ?_ ?_
   | refine LeO.bind ?_ (fun _ => ?_)
  ·intro y0 y1 y2 y3 y4
   unfold impl_isIdentifier.l1
   repeat' first
   | (with_reducible exact ih0 _ _ _ _)
   | (with_reducible exact ih1 _ _ _ _ _)
   | (with_reducible exact ih2 _ _ _ _)
   | (with_reducible exact impl_isIdText.mono _ _ _)
   | (with_reducible exact LeO.refl _)
   | (with_reducible exact LeO.none _)
   | (with_reducible refine LeO.ite ?_ ?_)
   | (with_reducible refine LeO.bind ?_ (fun _ => ?_))
   | exact ih0 _ _ _ _
   | exact ih1 _ _ _ _ _
   | exact ih2 _ _ _ _
   | exact impl_isIdText.mono _ _ _
   | exact LeO.none _
   | refine LeO.ite ?_ ?_
   | refine LeO.bind ?_ (fun _ => ?_)
  ·intro y0 y1 y2 y3
   unfold impl_isIdentifier.l2
   repeat' first
   | (with_reducible exact ih0 _ _ _ _)
   | (with_reducible exact ih1 _ _ _ _ _)
   | (with_reducible exact ih2 _ _ _ _)
   | (with_reducible exact impl_isIdText.mono _ _ _)
   | (with_reducible exact LeO.refl _)
   | (with_reducible exact LeO.none _)
   | (with_reducible refine LeO.ite ?_ ?_)
   | (with_reducible refine LeO.bind ?_ (fun _ => ?_))
   | exact ih0 _ _ _ _
   | exact ih1 _ _ _ _ _
   | exact ih2 _ _ _ _
   | exact impl_isIdText.mono _ _ _
   | exact LeO.none _
   | refine LeO.ite ?_ ?_
   | refine LeO.bind ?_ (fun _ => ?_)
theorem impl_isIdentifier.mono : ∀ a0 a1 k,LeO (impl_isIdentifier.f k a0 a1) (impl_isIdentifier.f (k + 1) a0 a1) := by
 intro a0 a1 k
 obtain ⟨ih0,ih1,ih2⟩ := impl_isIdentifier.mono_l k
 unfold impl_isIdentifier.f
 repeat' first
   | (with_reducible exact ih0 _ _ _ _)
   | (with_reducible exact ih1 _ _ _ _ _)
   | (with_reducible exact ih2 _ _ _ _)
   | (with_reducible exact impl_isIdText.mono _ _ _)
   | (with_reducible exact LeO.refl _)
   | (with_reducible exact LeO.none _)
   | (with_reducible refine LeO.ite ?_ ?_)
   | (with_reducible refine LeO.bind ?_ (fun _ => ?_))
   | exact ih0 _ _ _ _
   | exact ih1 _ _ _ _ _
   | exact ih2 _ _ _ _
   | exact impl_isIdText.mono _ _ _
   | exact LeO.none _
   | refine LeO.ite ?_ ?_
   | refine LeO.bind ?_ (fun _ => ?_)
set_option maxHeartbeats 8000000 in
set_option maxRecDepth 100000 in
theorem impl_isIdentifier.calls (k : Nat) (a0 : Int) (a1 : ByteArray) (r : Bool) (w : World) (h : impl_isIdentifier.f k a0 a1 = some r) :
  Calls Tryd.prog 35 #[.int .i64 a0,.string a1] w fun e w' => e = .returned (.bool r) ∧ Drawn0 w w' := by
 have H : ((impl_isIdText.f k a0 a1).bind fun t121 => (if t121 = true then (if a0 = 2 then (impl_isIdentifier.l0 k a1 0 (a1.size : Int) 0) else (if a0 = 4 then (impl_isIdentifier.l1 k a1 0 (wrap64 ((a1.size : Int) - 1)) (wrap64 ((a1.size : Int) - 1)) 0) else (impl_isIdentifier.l2 k a1 0 (a1.size : Int) 0))) else (some false))) = some r := h
 clear h
 replace H := Option.bind_eq_some_iff.mp H
 obtain ⟨t121,A30,H⟩ := H
 replace H : (if t121 = true then (if a0 = 2 then (impl_isIdentifier.l0 k a1 0 (a1.size : Int) 0) else (if a0 = 4 then (impl_isIdentifier.l1 k a1 0 (wrap64 ((a1.size : Int) - 1)) (wrap64 ((a1.size : Int) - 1)) 0) else (impl_isIdentifier.l2 k a1 0 (a1.size : Int) 0))) else (some false)) = some r := H
 have A3 := Aside0.mk A30
 clear A30
 by_cases c4 : t121 = true
 ·subst c4
  have H1 : (if a0 = 2 then (impl_isIdentifier.l0 k a1 0 (a1.size : Int) 0) else (if a0 = 4 then (impl_isIdentifier.l1 k a1 0 (wrap64 ((a1.size : Int) - 1)) (wrap64 ((a1.size : Int) - 1)) 0) else (impl_isIdentifier.l2 k a1 0 (a1.size : Int) 0))) = some r := by rw [if_pos rfl] at H;exact H
  clear H
  have H := H1
  clear H1
  by_cases c5 : a0 = 2
  ·rw [if_pos c5] at H
   have c5b0 : (a0 == 2) = true := beq_iff_eq.mpr c5
   have c5b1 : (a0 != 2) = false := bne_eq_false_iff_eq.mpr c5
   clear c5
   have H' := Aside0.mk H
   clear H
   go_enter Tryd.func35,Tryd.ntmps35
   go_wp2_with (first|((with_reducible refine gate_callee (f := 53) rfl ?_);refine goesL_ (some 12) rfl rfl Tryd.func53 (by kernel_rfl) rfl #[.int .i64 a0,.string a1] rfl (by (try simp only [List.map_toArray,List.map_cons,List.map_nil]);first|done|rfl|(simp only [List.length_drop,List.length_take];rfl)) ?_;(with_reducible refine (impl_isIdText.calls k a0 a1 true _ A3.out).mono ?_);rintro e w' ⟨rfl,⟨nd,rfl⟩⟩;refine ⟨_,rfl,?_⟩))
   go_loopg [5,22] k (fun kq v5 v22 w' => ∃ (x5_1 : Int) (x22_1 : Int),v5 = .int .i64 x5_1 ∧ v22 = .int .i64 x22_1 ∧ Aside0 (impl_isIdentifier.l0 kq a1 x5_1 (a1.size : Int) x22_1 = some r) ∧ Aside0 (kq ≤ k) ∧ Drawn0 w w')
   case atStart => exact ⟨(0),(0),(by first|rfl|(simp;done)|(simp [my_isEmpty];done)|(simp [*];done)),(by first|rfl|(simp;done)|(simp [my_isEmpty];done)|(simp [*];done)),H',⟨Nat.le_refl _⟩,by repeat (first|exact Drawn0.refl _|apply Drawn0.step)⟩
   case round =>
    clear H'
    try clear p2
    try clear c3
    try clear c4
    try clear c5
    try clear c5b0
    try clear c5b1
    obtain ⟨x5_1,x22_1,rfl,rfl,HA,HK1,⟨m1,rfl⟩⟩ := hrel
    cases gk with
    | zero => exact absurd HA.out (by simp [impl_isIdentifier.l0])
    | succ k1 =>
     have H := HA.out
     clear HA
     simp only [impl_isIdentifier.l0] at H
     by_cases c6 : x22_1 < (a1.size : Int)
     ·rw [if_pos c6] at H
      have c6b0 : decide (x22_1 < (a1.size : Int)) = true := decide_eq_true c6
      clear c6
      by_cases c7 : 0 ≤ x22_1
      ·rw [if_pos c7] at H
       have c7b0 : decide (0 ≤ x22_1) = true := decide_eq_true c7
       clear c7
       by_cases c8 : x22_1 < (a1.size : Int)
       ·rw [if_pos c8] at H
        have c8b0 : decide (x22_1 < (a1.size : Int)) = true := decide_eq_true c8
        clear c8
        replace H := Option.bind_eq_some_iff.mp H
        obtain ⟨t122,A100,H⟩ := H
        replace H : (impl_isIdentifier.l0 k1 a1 (wrap64 (x5_1 + (wrap64 (t122 * (wrap64 (1 + (wrap64 ((Int.tmod x22_1 2) * 2)))))))) (a1.size : Int) (wrap64 (x22_1 + 1))) = some r := H
        have A10 := Aside0.mk A100
        clear A100
        have H' := Aside0.mk H
        clear H
        have p9 : 0 ≤ (x22_1 : Int) := of_decide_eq_true (by first|(with_reducible assumption)|assumption)
        have q9 : x22_1 < (a1.size : Int) := of_decide_eq_true (by first|(with_reducible assumption)|assumption)
        have hx9 := bt_at a1 x22_1
        replace p9 := eq_true p9
        replace q9 := eq_true q9
        go_wp2_with (first|((with_reducible refine gate_callee (f := 63) rfl ?_);refine goesL_ (some 29) rfl rfl Tryd.func63 (by kernel_rfl) rfl #[.int .u8 (bt a1 x22_1)] rfl (by (try simp only [List.map_toArray,List.map_cons,List.map_nil]);first|done|rfl|(simp only [List.length_drop,List.length_take];rfl)) ?_;(with_reducible refine (impl_valueOf.calls (bt a1 x22_1) t122 _ A10.out).mono ?_);rintro e w' ⟨rfl,⟨nd,rfl⟩⟩;refine ⟨_,rfl,?_⟩))
        go_roundg k1
        case measure => have := HK1.out;omega
        case rel => exact ⟨(wrap64 (x5_1 + (wrap64 (t122 * (wrap64 (1 + (wrap64 ((Int.tmod x22_1 2) * 2)))))))),(wrap64 (x22_1 + 1)),(by first|rfl|(simp;done)|(simp [my_isEmpty];done)|(simp [*];done)),(by first|rfl|(simp;done)|(simp [my_isEmpty];done)|(simp [*];done)),H',⟨by have := HK1.out;omega⟩,by repeat (first|exact Drawn0.refl _|apply Drawn0.step)⟩
       ·rw [if_neg c8] at H
        exact absurd H (by simp)
      ·rw [if_neg c7] at H
       exact absurd H (by simp)
     ·rw [if_neg c6] at H
      have c6b0 : decide (x22_1 < (a1.size : Int)) = false := decide_eq_false c6
      clear c6
      by_cases c11 : (Int.tmod x5_1 10) = 0
      ·rw [if_pos c11] at H
       have c11b0 : ((Int.tmod x5_1 10) == 0) = true := beq_iff_eq.mpr c11
       have c11b1 : ((Int.tmod x5_1 10) != 0) = false := bne_eq_false_iff_eq.mpr c11
       clear c11
       replace H := Option.bind_eq_some_iff.mp H
       obtain ⟨t123,A120,H⟩ := H
       replace H : (if t123 = true then (some true) else ((strings_HasPrefix.f a1 (⟨#[57,55,57]⟩ : ByteArray)).bind fun t124 => (some t124))) = some r := H
       have A12 := Aside0.mk A120
       clear A120
       by_cases c13 : t123 = true
       ·subst c13
        have H1 : (some true) = some r := by rw [if_pos rfl] at H;exact H
        clear H
        have H := H1
        clear H1
        obtain rfl := Option.some.inj H
        simp only [Option.some.injEq,Prod.mk.injEq] at H
        obtain ⟨rfl⟩ := H
        go_wp2_with (first|(go_at_call 36;(with_reducible refine (strings_HasPrefix.calls a1 (⟨#[57,55,56]⟩ : ByteArray) true _ A12.out).mono ?_);rintro e w' ⟨rfl,⟨nd,rfl⟩⟩))
        go_ret
        exact ⟨by first|rfl|(simp;done)|(simp [my_isEmpty];done)|(simp [*];done),by repeat (first|exact Drawn0.refl _|apply Drawn0.step)⟩
       ·replace c13 := Bool.eq_false_iff.mpr c13
        subst c13
        have H1 : ((strings_HasPrefix.f a1 (⟨#[57,55,57]⟩ : ByteArray)).bind fun t124 => (some t124)) = some r := by rw [if_neg (show ¬ (false = true) by decide)] at H;exact H
        clear H
        have H := H1
        clear H1
        replace H := Option.bind_eq_some_iff.mp H
        obtain ⟨t124,A140,H⟩ := H
        replace H : (some t124) = some r := H
        have A14 := Aside0.mk A140
        clear A140
        obtain rfl := Option.some.inj H
        simp only [Option.some.injEq,Prod.mk.injEq] at H
        obtain ⟨rfl⟩ := H
        go_wp2_with (first|(go_at_call 36;(with_reducible refine (strings_HasPrefix.calls a1 (⟨#[57,55,56]⟩ : ByteArray) false _ A12.out).mono ?_);rintro e w' ⟨rfl,⟨nd,rfl⟩⟩)|(go_at_call 36;(with_reducible refine (strings_HasPrefix.calls a1 (⟨#[57,55,57]⟩ : ByteArray) t124 _ A14.out).mono ?_);rintro e w' ⟨rfl,⟨nd,rfl⟩⟩))
        go_ret
        exact ⟨by first|rfl|(simp;done)|(simp [my_isEmpty];done)|(simp [*];done),by repeat (first|exact Drawn0.refl _|apply Drawn0.step)⟩
      ·rw [if_neg c11] at H
       have c11b0 : ((Int.tmod x5_1 10) == 0) = false := beq_eq_false_iff_ne.mpr c11
       have c11b1 : ((Int.tmod x5_1 10) != 0) = true := bne_iff_ne.mpr c11
       obtain rfl := Option.some.inj H
       simp only [Option.some.injEq,Prod.mk.injEq] at H
       obtain ⟨rfl⟩ := H
       go_wp2
       go_ret
       exact ⟨by first|rfl|(simp;done)|(simp [my_isEmpty];done)|(simp [*];done),by repeat (first|exact Drawn0.refl _|apply Drawn0.step)⟩
  ·rw [if_neg c5] at H
   have c5b0 : (a0 == 2) = false := beq_eq_false_iff_ne.mpr c5
   have c5b1 : (a0 != 2) = true := bne_iff_ne.mpr c5
   by_cases c15 : a0 = 4
   ·rw [if_pos c15] at H
    have c15b0 : (a0 == 4) = true := beq_iff_eq.mpr c15
    have c15b1 : (a0 != 4) = false := bne_eq_false_iff_eq.mpr c15
    clear c15
    have H' := Aside0.mk H
    clear H
    go_enter Tryd.func35,Tryd.ntmps35
    go_wp2_with (first|((with_reducible refine gate_callee (f := 53) rfl ?_);refine goesL_ (some 12) rfl rfl Tryd.func53 (by kernel_rfl) rfl #[.int .i64 a0,.string a1] rfl (by (try simp only [List.map_toArray,List.map_cons,List.map_nil]);first|done|rfl|(simp only [List.length_drop,List.length_take];rfl)) ?_;(with_reducible refine (impl_isIdText.calls k a0 a1 true _ A3.out).mono ?_);rintro e w' ⟨rfl,⟨nd,rfl⟩⟩;refine ⟨_,rfl,?_⟩))
    go_loopg [5,51] k (fun kq v5 v51 w' => ∃ (x5_1 : Int) (x51_1 : Int),v5 = .int .i64 x5_1 ∧ v51 = .int .i64 x51_1 ∧ Aside0 (impl_isIdentifier.l1 kq a1 x5_1 (wrap64 ((a1.size : Int) - 1)) (wrap64 ((a1.size : Int) - 1)) x51_1 = some r) ∧ Aside0 (kq ≤ k) ∧ Drawn0 w w')
    case atStart => exact ⟨(0),(0),(by first|rfl|(simp;done)|(simp [my_isEmpty];done)|(simp [*];done)),(by first|rfl|(simp;done)|(simp [my_isEmpty];done)|(simp [*];done)),H',⟨Nat.le_refl _⟩,by repeat (first|exact Drawn0.refl _|apply Drawn0.step)⟩
    case round =>
     clear H'
     try clear c1
     try clear p2
     try clear c3
     try clear c4
     try clear c5
     try clear c5b0
     try clear c5b1
     try clear c6
     try clear c6b0
     try clear p6
     try clear c7
     try clear c7b0
     try clear c8
     try clear c8b0
     try clear p9
     try clear q9
     try clear hx9
     try clear c11
     try clear c11b0
     try clear c11b1
     try clear c13
     try clear c15
     try clear c15b0
     try clear c15b1
     try clear p2
     try clear p9
     try clear q9
     obtain ⟨x5_1,x51_1,rfl,rfl,HA,HK1,⟨m1,rfl⟩⟩ := hrel
     cases gk with
     | zero => exact absurd HA.out (by simp [impl_isIdentifier.l1])
     | succ k1 =>
      have H := HA.out
      clear HA
      simp only [impl_isIdentifier.l1] at H
      by_cases c16 : x51_1 < (wrap64 ((a1.size : Int) - 1))
      ·rw [if_pos c16] at H
       have c16b0 : decide (x51_1 < (wrap64 ((a1.size : Int) - 1))) = true := decide_eq_true c16
       clear c16
       by_cases c17 : 0 ≤ x51_1
       ·rw [if_pos c17] at H
        have c17b0 : decide (0 ≤ x51_1) = true := decide_eq_true c17
        clear c17
        by_cases c18 : x51_1 < (a1.size : Int)
        ·rw [if_pos c18] at H
         have c18b0 : decide (x51_1 < (a1.size : Int)) = true := decide_eq_true c18
         clear c18
         replace H := Option.bind_eq_some_iff.mp H
         obtain ⟨t125,A200,H⟩ := H
         replace H : (impl_isIdentifier.l1 k1 a1 (Int.tmod (wrap64 (2 * (wrap64 (x5_1 + t125)))) 11) (wrap64 ((a1.size : Int) - 1)) (wrap64 ((a1.size : Int) - 1)) (wrap64 (x51_1 + 1))) = some r := H
         have A20 := Aside0.mk A200
         clear A200
         have H' := Aside0.mk H
         clear H
         have p19 : 0 ≤ (x51_1 : Int) := of_decide_eq_true (by first|(with_reducible assumption)|assumption)
         have q19 : x51_1 < (a1.size : Int) := of_decide_eq_true (by first|(with_reducible assumption)|assumption)
         have hx19 := bt_at a1 x51_1
         replace p19 := eq_true p19
         replace q19 := eq_true q19
         go_wp2_with (first|((with_reducible refine gate_callee (f := 63) rfl ?_);refine goesL_ (some 58) rfl rfl Tryd.func63 (by kernel_rfl) rfl #[.int .u8 (bt a1 x51_1)] rfl (by (try simp only [List.map_toArray,List.map_cons,List.map_nil]);first|done|rfl|(simp only [List.length_drop,List.length_take];rfl)) ?_;(with_reducible refine (impl_valueOf.calls (bt a1 x51_1) t125 _ A20.out).mono ?_);rintro e w' ⟨rfl,⟨nd,rfl⟩⟩;refine ⟨_,rfl,?_⟩))
         go_roundg k1
         case measure => have := HK1.out;omega
         case rel => exact ⟨(Int.tmod (wrap64 (2 * (wrap64 (x5_1 + t125)))) 11),(wrap64 (x51_1 + 1)),(by first|rfl|(simp;done)|(simp [my_isEmpty];done)|(simp [*];done)),(by first|rfl|(simp;done)|(simp [my_isEmpty];done)|(simp [*];done)),H',⟨by have := HK1.out;omega⟩,by repeat (first|exact Drawn0.refl _|apply Drawn0.step)⟩
        ·rw [if_neg c18] at H
         exact absurd H (by simp)
       ·rw [if_neg c17] at H
        exact absurd H (by simp)
      ·rw [if_neg c16] at H
       have c16b0 : decide (x51_1 < (wrap64 ((a1.size : Int) - 1))) = false := decide_eq_false c16
       clear c16
       obtain ⟨ji21,hji21⟩ : ∃ j_ : Int,(wrap64 ((a1.size : Int) - 1)) = j_ := ⟨_,rfl⟩
       replace H : (if 0 ≤ (ji21) then (if (ji21) < (a1.size : Int) then ((impl_valueOf.f (bt a1 (ji21))).bind fun t126 => (some (t126 == (Int.tmod (wrap64 (12 - x5_1)) 11)))) else (none)) else (none)) = some r := by first|(rw [hji21] at H;exact H)|(simp only [hji21] at H ⊢;exact H)
       (try rw [hji21] at c16b0)
       have hji21w : (IntKind.i64.wrap ((a1.size : Int) - 1)) = ji21 := (i64_w _).trans hji21
       by_cases c22 : 0 ≤ (ji21)
       ·rw [if_pos c22] at H
        have c22b0 : decide (0 ≤ (ji21)) = true := decide_eq_true c22
        clear c22
        by_cases c23 : (ji21) < (a1.size : Int)
        ·rw [if_pos c23] at H
         have c23b0 : decide ((ji21) < (a1.size : Int)) = true := decide_eq_true c23
         clear c23
         replace H := Option.bind_eq_some_iff.mp H
         obtain ⟨t126,A250,H⟩ := H
         replace H : (some (t126 == (Int.tmod (wrap64 (12 - x5_1)) 11))) = some r := H
         have A25 := Aside0.mk A250
         clear A250
         obtain rfl := Option.some.inj H
         simp only [Option.some.injEq,Prod.mk.injEq] at H
         obtain ⟨rfl⟩ := H
         have p24 : 0 ≤ ((ji21) : Int) := of_decide_eq_true (by first|(with_reducible assumption)|assumption)
         have q24 : (ji21) < (a1.size : Int) := of_decide_eq_true (by first|(with_reducible assumption)|assumption)
         have hx24 := bt_at a1 (ji21)
         replace p24 := eq_true p24
         replace q24 := eq_true q24
         go_wp2_with (first|((with_reducible refine gate_callee (f := 63) rfl ?_);refine goesL_ (some 66) rfl rfl Tryd.func63 (by kernel_rfl) rfl #[.int .u8 (bt a1 (ji21))] rfl (by (try simp only [List.map_toArray,List.map_cons,List.map_nil]);first|done|(simp only [hji21];rfl)|rfl|(simp only [List.length_drop,List.length_take];rfl)) ?_;(with_reducible refine (impl_valueOf.calls (bt a1 (ji21)) t126 _ A25.out).mono ?_);rintro e w' ⟨rfl,⟨nd,rfl⟩⟩;refine ⟨_,rfl,?_⟩))
         go_ret
         exact ⟨by first|rfl|(simp;done)|(simp [my_isEmpty];done)|(simp only [← hji21] <;> (first|rfl|simp))|(simp [*];done),by repeat (first|exact Drawn0.refl _|apply Drawn0.step)⟩
        ·rw [if_neg c23] at H
         exact absurd H (by simp)
       ·rw [if_neg c22] at H
        exact absurd H (by simp)
   ·rw [if_neg c15] at H
    have c15b0 : (a0 == 4) = false := beq_eq_false_iff_ne.mpr c15
    have c15b1 : (a0 != 4) = true := bne_iff_ne.mpr c15
    have H' := Aside0.mk H
    clear H
    go_enter Tryd.func35,Tryd.ntmps35
    go_wp2_with (first|((with_reducible refine gate_callee (f := 53) rfl ?_);refine goesL_ (some 12) rfl rfl Tryd.func53 (by kernel_rfl) rfl #[.int .i64 a0,.string a1] rfl (by (try simp only [List.map_toArray,List.map_cons,List.map_nil]);first|done|rfl|(simp only [List.length_drop,List.length_take];rfl)) ?_;(with_reducible refine (impl_isIdText.calls k a0 a1 true _ A3.out).mono ?_);rintro e w' ⟨rfl,⟨nd,rfl⟩⟩;refine ⟨_,rfl,?_⟩))
    go_loopg [5,73] k (fun kq v5 v73 w' => ∃ (x5_1 : Int) (x73_1 : Int),v5 = .int .i64 x5_1 ∧ v73 = .int .i64 x73_1 ∧ Aside0 (impl_isIdentifier.l2 kq a1 x5_1 (a1.size : Int) x73_1 = some r) ∧ Aside0 (kq ≤ k) ∧ Drawn0 w w')
    case atStart => exact ⟨(0),(0),(by first|rfl|(simp;done)|(simp [my_isEmpty];done)|(simp [*];done)),(by first|rfl|(simp;done)|(simp [my_isEmpty];done)|(simp [*];done)),H',⟨Nat.le_refl _⟩,by repeat (first|exact Drawn0.refl _|apply Drawn0.step)⟩
    case round =>
     clear H'
     try clear c1
     try clear p1
     try clear q1
     try clear hx1
     try clear c2
     try clear p2
     try clear q2
     try clear hx2
     try clear c3
     try clear c4
     try clear c5
     try clear c5b0
     try clear c5b1
     try clear c6
     try clear c6b0
     try clear p6
     try clear c7
     try clear c7b0
     try clear c8
     try clear c8b0
     try clear p9
     try clear q9
     try clear hx9
     try clear c11
     try clear c11b0
     try clear c11b1
     try clear c13
     try clear c15
     try clear c15b0
     try clear c15b1
     try clear c16
     try clear c16b0
     try clear c17
     try clear c17b0
     try clear c18
     try clear c18b0
     try clear p19
     try clear q19
     try clear hx19
     try clear c22
     try clear c22b0
     try clear c23
     try clear c23b0
     try clear p24
     try clear q24
     try clear hx24
     try clear p19
     try clear p2
     try clear p24
     try clear p6
     try clear p9
     try clear q19
     try clear q24
     try clear q9
     obtain ⟨x5_1,x73_1,rfl,rfl,HA,HK1,⟨m1,rfl⟩⟩ := hrel
     cases gk with
     | zero => exact absurd HA.out (by simp [impl_isIdentifier.l2])
     | succ k1 =>
      have H := HA.out
      clear HA
      simp only [impl_isIdentifier.l2] at H
      by_cases c26 : x73_1 < (a1.size : Int)
      ·rw [if_pos c26] at H
       have c26b0 : decide (x73_1 < (a1.size : Int)) = true := decide_eq_true c26
       clear c26
       by_cases c27 : 0 ≤ x73_1
       ·rw [if_pos c27] at H
        have c27b0 : decide (0 ≤ x73_1) = true := decide_eq_true c27
        clear c27
        by_cases c28 : x73_1 < (a1.size : Int)
        ·rw [if_pos c28] at H
         have c28b0 : decide (x73_1 < (a1.size : Int)) = true := decide_eq_true c28
         clear c28
         replace H := Option.bind_eq_some_iff.mp H
         obtain ⟨t127,A300,H⟩ := H
         replace H : (impl_isIdentifier.l2 k1 a1 (wrap64 (x5_1 + (wrap64 (t127 * (wrap64 ((a1.size : Int) - x73_1)))))) (a1.size : Int) (wrap64 (x73_1 + 1))) = some r := H
         have A30 := Aside0.mk A300
         clear A300
         have H' := Aside0.mk H
         clear H
         have p29 : 0 ≤ (x73_1 : Int) := of_decide_eq_true (by first|(with_reducible assumption)|assumption)
         have q29 : x73_1 < (a1.size : Int) := of_decide_eq_true (by first|(with_reducible assumption)|assumption)
         have hx29 := bt_at a1 x73_1
         replace p29 := eq_true p29
         replace q29 := eq_true q29
         go_wp2_with (first|((with_reducible refine gate_callee (f := 63) rfl ?_);refine goesL_ (some 80) rfl rfl Tryd.func63 (by kernel_rfl) rfl #[.int .u8 (bt a1 x73_1)] rfl (by (try simp only [List.map_toArray,List.map_cons,List.map_nil]);first|done|rfl|(simp only [List.length_drop,List.length_take];rfl)) ?_;(with_reducible refine (impl_valueOf.calls (bt a1 x73_1) t127 _ A30.out).mono ?_);rintro e w' ⟨rfl,⟨nd,rfl⟩⟩;refine ⟨_,rfl,?_⟩))
         go_roundg k1
         case measure => have := HK1.out;omega
         case rel => exact ⟨(wrap64 (x5_1 + (wrap64 (t127 * (wrap64 ((a1.size : Int) - x73_1)))))),(wrap64 (x73_1 + 1)),(by first|rfl|(simp;done)|(simp [my_isEmpty];done)|(simp [*];done)),(by first|rfl|(simp;done)|(simp [my_isEmpty];done)|(simp [*];done)),H',⟨by have := HK1.out;omega⟩,by repeat (first|exact Drawn0.refl _|apply Drawn0.step)⟩
        ·rw [if_neg c28] at H
         exact absurd H (by simp)
       ·rw [if_neg c27] at H
        exact absurd H (by simp)
      ·rw [if_neg c26] at H
       have c26b0 : decide (x73_1 < (a1.size : Int)) = false := decide_eq_false c26
       clear c26
       obtain rfl := Option.some.inj H
       simp only [Option.some.injEq,Prod.mk.injEq] at H
       obtain ⟨rfl⟩ := H
       go_wp2
       go_ret
       exact ⟨by first|rfl|(simp;done)|(simp [my_isEmpty];done)|(simp [*];done),by repeat (first|exact Drawn0.refl _|apply Drawn0.step)⟩
 ·replace c4 := Bool.eq_false_iff.mpr c4
  subst c4
  have H1 : (some false) = some r := by rw [if_neg (show ¬ (false = true) by decide)] at H;exact H
  clear H
  have H := H1
  clear H1
  obtain rfl := Option.some.inj H
  simp only [Option.some.injEq,Prod.mk.injEq] at H
  obtain ⟨rfl⟩ := H
  go_enter Tryd.func35,Tryd.ntmps35
  go_wp2_with (first|((with_reducible refine gate_callee (f := 53) rfl ?_);refine goesL_ (some 12) rfl rfl Tryd.func53 (by kernel_rfl) rfl #[.int .i64 a0,.string a1] rfl (by (try simp only [List.map_toArray,List.map_cons,List.map_nil]);first|done|rfl|(simp only [List.length_drop,List.length_take];rfl)) ?_;(with_reducible refine (impl_isIdText.calls k a0 a1 false _ A3.out).mono ?_);rintro e w' ⟨rfl,⟨nd,rfl⟩⟩;refine ⟨_,rfl,?_⟩))
  go_ret
  exact ⟨by first|rfl|(simp;done)|(simp [my_isEmpty];done)|(simp [*];done),by repeat (first|exact Drawn0.refl _|apply Drawn0.step)⟩
def impl_idKind.l0 : Nat → ByteArray → Int → Option (Int)
 | 0,_,_ => none
 | k + 1,x0,x3 => if x3 ≤ 4 then ((impl_isIdentifier.f k x3 x0).bind fun t128 => (if t128 = true then (some x3) else (impl_idKind.l0 k x0 (wrap64 (x3 + 1))))) else (some 0)
def impl_idKind.f (k : Nat) (a0 : ByteArray) : Option (Int) := impl_idKind.l0 k a0 1
theorem impl_idKind.mono_l : ∀ k,(∀ y0 y1,LeO (impl_idKind.l0 k y0 y1) (impl_idKind.l0 (k + 1) y0 y1))
 | 0 => fun _ _ r h => by simp [impl_idKind.l0] at h
 | k + 1 => by
  have ih0 := impl_idKind.mono_l k
  ·intro y0 y1
   unfold impl_idKind.l0
   repeat' first
   | (with_reducible exact ih0 _ _)
   | (with_reducible exact impl_isIdentifier.mono _ _ _)
   | (with_reducible exact LeO.refl _)
   | (with_reducible exact LeO.none _)
   | (with_reducible refine LeO.ite ?_ ?_)
   | (with_reducible refine LeO.bind ?_ (fun _ => ?_))
   | exact ih0 _ _
   | exact impl_isIdentifier.mono _ _ _
   | exact LeO.none _
   | refine LeO.ite ?_ ?_
   | refine LeO.bind ?_ (fun _ => ?_)
theorem impl_idKind.mono : ∀ a0 k,LeO (impl_idKind.f k a0) (impl_idKind.f (k + 1) a0) := by
 intro a0 k
 have ih0 := impl_idKind.mono_l k
 unfold impl_idKind.f
 repeat' first
   | (with_reducible exact ih0 _ _)
   | (with_reducible exact impl_isIdentifier.mono _ _ _)
   | (with_reducible exact LeO.refl _)
   | (with_reducible exact LeO.none _)
   | (with_reducible refine LeO.ite ?_ ?_)
   | (with_reducible refine LeO.bind ?_ (fun _ => ?_))
   | exact ih0 _ _
   | exact impl_isIdentifier.mono _ _ _
   | exact LeO.none _
   | refine LeO.ite ?_ ?_
   | refine LeO.bind ?_ (fun _ => ?_)
set_option maxHeartbeats 8000000 in
set_option maxRecDepth 100000 in
theorem impl_idKind.calls (k : Nat) (a0 : ByteArray) (r : Int) (w : World) (h : impl_idKind.f k a0 = some r) :
  Calls Tryd.prog 45 #[.string a0] w fun e w' => e = .returned (.int .i64 r) ∧ Drawn0 w w' := by
 have H : (impl_idKind.l0 k a0 1) = some r := h
 clear h
 have H' := Aside0.mk H
 clear H
 go_enter Tryd.func45,Tryd.ntmps45
 go_wp2
 go_loopg [3] k (fun kq v3 w' => ∃ (x3_1 : Int),v3 = .int .i64 x3_1 ∧ Aside0 (impl_idKind.l0 kq a0 x3_1 = some r) ∧ Aside0 (kq ≤ k) ∧ Drawn0 w w')
 case atStart => exact ⟨(1),(by first|rfl|(simp;done)|(simp [my_isEmpty];done)|(simp [*];done)),H',⟨Nat.le_refl _⟩,by repeat (first|exact Drawn0.refl _|apply Drawn0.step)⟩
 case round =>
  clear H'
  obtain ⟨x3_1,rfl,HA,HK1,⟨m1,rfl⟩⟩ := hrel
  cases gk with
  | zero => exact absurd HA.out (by simp [impl_idKind.l0])
  | succ k1 =>
   have H := HA.out
   clear HA
   simp only [impl_idKind.l0] at H
   by_cases c2 : x3_1 ≤ 4
   ·rw [if_pos c2] at H
    have c2b0 : decide (x3_1 ≤ 4) = true := decide_eq_true c2
    clear c2
    replace H := Option.bind_eq_some_iff.mp H
    obtain ⟨t128,A30,H⟩ := H
    replace H : (if t128 = true then (some x3_1) else (impl_idKind.l0 k1 a0 (wrap64 (x3_1 + 1)))) = some r := H
    have A3 := Aside0.mk A30
    clear A30
    by_cases c4 : t128 = true
    ·subst c4
     have H1 : (some x3_1) = some r := by rw [if_pos rfl] at H;exact H
     clear H
     have H := H1
     clear H1
     obtain rfl := Option.some.inj H
     simp only [Option.some.injEq,Prod.mk.injEq] at H
     obtain ⟨rfl⟩ := H
     go_wp2_with (first|((with_reducible refine gate_callee (f := 35) rfl ?_);refine goesL_ (some 10) rfl rfl Tryd.func35 (by kernel_rfl) rfl #[.int .i64 x3_1,.string a0] rfl (by (try simp only [List.map_toArray,List.map_cons,List.map_nil]);first|done|rfl|(simp only [List.length_drop,List.length_take];rfl)) ?_;(with_reducible refine (impl_isIdentifier.calls k1 x3_1 a0 true _ A3.out).mono ?_);rintro e w' ⟨rfl,⟨nd,rfl⟩⟩;refine ⟨_,rfl,?_⟩))
     go_ret
     exact ⟨by first|rfl|(simp;done)|(simp [my_isEmpty];done)|(simp [*];done),by repeat (first|exact Drawn0.refl _|apply Drawn0.step)⟩
    ·replace c4 := Bool.eq_false_iff.mpr c4
     subst c4
     have H1 : (impl_idKind.l0 k1 a0 (wrap64 (x3_1 + 1))) = some r := by rw [if_neg (show ¬ (false = true) by decide)] at H;exact H
     clear H
     have H := H1
     clear H1
     have H' := Aside0.mk H
     clear H
     go_wp2_with (first|((with_reducible refine gate_callee (f := 35) rfl ?_);refine goesL_ (some 10) rfl rfl Tryd.func35 (by kernel_rfl) rfl #[.int .i64 x3_1,.string a0] rfl (by (try simp only [List.map_toArray,List.map_cons,List.map_nil]);first|done|rfl|(simp only [List.length_drop,List.length_take];rfl)) ?_;(with_reducible refine (impl_isIdentifier.calls k1 x3_1 a0 false _ A3.out).mono ?_);rintro e w' ⟨rfl,⟨nd,rfl⟩⟩;refine ⟨_,rfl,?_⟩))
     go_roundg k1
     case measure => have := HK1.out;omega
     case rel => exact ⟨(wrap64 (x3_1 + 1)),(by first|rfl|(simp;done)|(simp [my_isEmpty];done)|(simp [*];done)),H',⟨by have := HK1.out;omega⟩,by repeat (first|exact Drawn0.refl _|apply Drawn0.step)⟩
   ·rw [if_neg c2] at H
    have c2b0 : decide (x3_1 ≤ 4) = false := decide_eq_false c2
    clear c2
    obtain rfl := Option.some.inj H
    simp only [Option.some.injEq,Prod.mk.injEq] at H
    obtain ⟨rfl⟩ := H
    go_wp2
    go_ret
    exact ⟨by first|rfl|(simp;done)|(simp [my_isEmpty];done)|(simp [*];done),by repeat (first|exact Drawn0.refl _|apply Drawn0.step)⟩
def impl_CompactForm.j0 : Nat → ByteArray → Bool → Option (ByteArray × Int × Bool)
 | 0,_,_ => none
 | k + 1,x0,x14 => if x14 = true then (some ((⟨#[]⟩ : ByteArray),0,false)) else ((strings_ReplaceAll.f x0 (⟨#[45]⟩ : ByteArray) (⟨#[]⟩ : ByteArray)).bind fun t133 => ((impl_idKind.f k t133).bind fun t134 => (if t134 = 0 then (some ((⟨#[]⟩ : ByteArray),0,false)) else (some (t133,t134,true)))))
def impl_CompactForm.f (k : Nat) (a0 : ByteArray) : Option (ByteArray × Int × Bool) := if (a0.size : Int) > 30 then (impl_CompactForm.j0 k a0 true) else ((strings_Split.f a0 (⟨#[45]⟩ : ByteArray)).bind fun t129 => ((slices_Contains_string_string.f k t129 (⟨#[]⟩ : ByteArray)).bind fun t132 => (impl_CompactForm.j0 k a0 t132)))
theorem impl_CompactForm.mono_l : ∀ k,(∀ y0 y1,LeO (impl_CompactForm.j0 k y0 y1) (impl_CompactForm.j0 (k + 1) y0 y1))
 | 0 => fun _ _ r h => by simp [impl_CompactForm.j0] at h
 | k + 1 => by
  have ih0 := impl_CompactForm.mono_l k
  ·intro y0 y1
   unfold impl_CompactForm.j0
   repeat' first
   | (with_reducible exact ih0 _ _)
   | (with_reducible exact impl_idKind.mono _ _)
   | (with_reducible exact slices_Contains_string_string.mono _ _ _)
   | (with_reducible exact LeO.refl _)
   | (with_reducible exact LeO.none _)
   | (with_reducible refine LeO.ite ?_ ?_)
   | (with_reducible refine LeO.bind ?_ (fun _ => ?_))
   | exact ih0 _ _
   | exact impl_idKind.mono _ _
   | exact slices_Contains_string_string.mono _ _ _
   | exact LeO.none _
   | refine LeO.ite ?_ ?_
   | refine LeO.bind ?_ (fun _ => ?_)
theorem impl_CompactForm.mono : ∀ a0 k,LeO (impl_CompactForm.f k a0) (impl_CompactForm.f (k + 1) a0) := by
 intro a0 k
 have ih0 := impl_CompactForm.mono_l k
 unfold impl_CompactForm.f
 repeat' first
   | (with_reducible exact ih0 _ _)
   | (with_reducible exact impl_idKind.mono _ _)
   | (with_reducible exact slices_Contains_string_string.mono _ _ _)
   | (with_reducible exact LeO.refl _)
   | (with_reducible exact LeO.none _)
   | (with_reducible refine LeO.ite ?_ ?_)
   | (with_reducible refine LeO.bind ?_ (fun _ => ?_))
   | exact ih0 _ _
   | exact impl_idKind.mono _ _
   | exact slices_Contains_string_string.mono _ _ _
   | exact LeO.none _
   | refine LeO.ite ?_ ?_
   | refine LeO.bind ?_ (fun _ => ?_)
set_option maxHeartbeats 8000000 in
set_option maxRecDepth 100000 in
theorem impl_CompactForm.calls (k : Nat) (a0 : ByteArray) (r1 : ByteArray) (r2 : Int) (r3 : Bool) (w : World) (hG : Gm w) (h : impl_CompactForm.f k a0 = some (r1,r2,r3)) :
  Calls Tryd.prog 16 #[.string a0] w fun e w' => e = .returned (.tuple #[.string r1,.int .i64 r2,.bool r3]) ∧ Below w.heap.size w w' := by
 have HB := Aside0.mk (Below.refl w.heap.size w)
 have HG := Aside0.mk hG
 clear hG
 have H : (if (a0.size : Int) > 30 then (impl_CompactForm.j0 k a0 true) else ((strings_Split.f a0 (⟨#[45]⟩ : ByteArray)).bind fun t129 => ((slices_Contains_string_string.f k t129 (⟨#[]⟩ : ByteArray)).bind fun t132 => (impl_CompactForm.j0 k a0 t132)))) = some (r1,r2,r3) := h
 clear h
 have HC2 := Aside0.mk H
 clear H
 go_enter Tryd.func16,Tryd.ntmps16
 go_upto_region 1 with (fail)
 go_cut [14] (fun v14 wc => ∃ (kq : Nat) (x14_1 : Bool),v14 = .bool x14_1 ∧ Aside0 (impl_CompactForm.j0 kq a0 x14_1 = some (r1,r2,r3)) ∧ Aside0 (kq ≤ k) ∧ Aside0 (Below w.heap.size w wc))
 case first =>
  have H := HC2.out
  clear HC2
  by_cases c3 : (a0.size : Int) > 30
  ·rw [if_pos c3] at H
   have c3b0 : decide (30 < (a0.size : Int)) = true := decide_eq_true c3
   have c3b1 : decide (30 < a0.size) = true := decide_eq_true (by omega)
   clear c3
   (first|rw [c3b0]|(simp only [i64_w,i32_w];rw [c3b0])|skip)
   have H' := Aside0.mk H
   clear H
   go_wp2
   go_meet
   case rel => exact ⟨_,(true),(by first|rfl|(simp;done)|(simp [my_isEmpty];done)|(simp [*];done)),H',⟨by first|omega|exact Nat.le_refl _⟩,⟨by repeat (first|(with_reducible first|exact HB.out|apply lA|apply lN|apply lD)|exact HB.out)⟩⟩
  ·rw [if_neg c3] at H
   have c3b0 : decide (30 < (a0.size : Int)) = false := decide_eq_false c3
   have c3b1 : decide (30 < a0.size) = false := decide_eq_false (by omega)
   clear c3
   (first|rw [c3b0]|(simp only [i64_w,i32_w];rw [c3b0])|skip)
   replace H := Option.bind_eq_some_iff.mp H
   obtain ⟨t129,A40,H⟩ := H
   replace H : ((slices_Contains_string_string.f k t129 (⟨#[]⟩ : ByteArray)).bind fun t132 => (impl_CompactForm.j0 k a0 t132)) = some (r1,r2,r3) := H
   have A4 := Aside0.mk A40
   clear A40
   replace H := Option.bind_eq_some_iff.mp H
   obtain ⟨t132,A50,H⟩ := H
   replace H : (impl_CompactForm.j0 k a0 t132) = some (r1,r2,r3) := H
   have A5 := Aside0.mk A50
   clear A50
   have H' := Aside0.mk H
   clear H
   go_wp2_with (first|(go_at_call 43;(with_reducible refine (strings_Split.calls a0 (⟨#[45]⟩ : ByteArray) t129 _ ?side1 A4.out).mono ?_);(case side1 => exact Gm.below HG.out (by repeat (first|(with_reducible first|exact HB.out|apply lA|apply lN|apply lD)|exact HB.out)));rintro e w6 ⟨v130,rfl,ho0,hb⟩;have n0_ := Aside0.mk (Kd.R_lower ho0 (below_size (by repeat (first|(with_reducible first|exact HB.out|apply lA|apply lN|apply lD)|exact HB.out))));have n1_ := Aside0.mk (below_step (by repeat (first|(with_reducible first|exact HB.out|apply lA|apply lN|apply lD)|exact HB.out)) hb);clear HB;have HO131 := n0_;have HB := n1_;clear n0_ n1_;(try clear hb);(try clear hb2);(try clear hk);(try clear hi);(try clear ho0);obtain ⟨Ao7,co7,eo7⟩ := Kd.R_slice HO131.out;subst eo7)|(go_at_call 42;(with_reducible refine (slices_Contains_string_string.calls k _ _ t129 (⟨#[]⟩ : ByteArray) t132 _ ?side1 ?side2 A5.out).mono ?_);(case side1 => repeat (first|exact (Kd.R_reads' HO131.out).2.2|(with_reducible refine Kd.C_alloc ?_ _)|(with_reducible refine Kd.C_drewN ?_ _)|(with_reducible refine Kd.C_drew ?_)));(case side2 => exact (Kd.R_reads' HO131.out).2.1);rintro e w' ⟨rfl,⟨nd,rfl⟩⟩))
   go_meet
   case rel => exact ⟨_,(t132),(by first|rfl|(simp;done)|(simp [my_isEmpty];done)|(simp [*];done)),H',⟨by first|omega|exact Nat.le_refl _⟩,⟨by repeat (first|(with_reducible first|exact HB.out|apply lA|apply lN|apply lD)|exact HB.out)⟩⟩
 case rest =>
  clear HC2
  try clear c1
  try clear p2
  try clear c3
  try clear c3b0
  try clear c3b1
  obtain ⟨kq,x14_1,rfl,HA,HJ1,HB⟩ := hcut
  cases kq with
  | zero => exact absurd HA.out (by simp [impl_CompactForm.j0])
  | succ kj1 =>
   have H := HA.out
   clear HA
   simp only [impl_CompactForm.j0] at H
   by_cases c8 : x14_1 = true
   ·subst c8
    have H1 : (some ((⟨#[]⟩ : ByteArray),0,false)) = some (r1,r2,r3) := by rw [if_pos rfl] at H;exact H
    clear H
    have H := H1
    clear H1
    simp only [Option.some.injEq,Prod.mk.injEq] at H
    obtain ⟨rfl,rfl,rfl⟩ := H
    go_wp2
    go_ret3
    exact ⟨by first|rfl|(simp [errW_none,errW_some] <;> rfl)|(simp [*,errW_none,errW_some] <;> rfl),by repeat (first|(with_reducible first|exact HB.out|apply lA|apply lN|apply lD)|exact HB.out)⟩
   ·replace c8 := Bool.eq_false_iff.mpr c8
    subst c8
    have H1 : ((strings_ReplaceAll.f a0 (⟨#[45]⟩ : ByteArray) (⟨#[]⟩ : ByteArray)).bind fun t133 => ((impl_idKind.f kj1 t133).bind fun t134 => (if t134 = 0 then (some ((⟨#[]⟩ : ByteArray),0,false)) else (some (t133,t134,true))))) = some (r1,r2,r3) := by rw [if_neg (show ¬ (false = true) by decide)] at H;exact H
    clear H
    have H := H1
    clear H1
    replace H := Option.bind_eq_some_iff.mp H
    obtain ⟨t133,A90,H⟩ := H
    replace H : ((impl_idKind.f kj1 t133).bind fun t134 => (if t134 = 0 then (some ((⟨#[]⟩ : ByteArray),0,false)) else (some (t133,t134,true)))) = some (r1,r2,r3) := H
    have A9 := Aside0.mk A90
    clear A90
    replace H := Option.bind_eq_some_iff.mp H
    obtain ⟨t134,A100,H⟩ := H
    replace H : (if t134 = 0 then (some ((⟨#[]⟩ : ByteArray),0,false)) else (some (t133,t134,true))) = some (r1,r2,r3) := H
    have A10 := Aside0.mk A100
    clear A100
    by_cases c11 : t134 = 0
    ·rw [if_pos c11] at H
     have c11b0 : (t134 == 0) = true := beq_iff_eq.mpr c11
     have c11b1 : (t134 != 0) = false := bne_eq_false_iff_eq.mpr c11
     clear c11
     simp only [Option.some.injEq,Prod.mk.injEq] at H
     obtain ⟨rfl,rfl,rfl⟩ := H
     go_wp2_with (first|((with_reducible refine gate_callee (f := 44) rfl ?_);refine goesL_ (some 16) rfl rfl Tryd.func44 (by kernel_rfl) rfl #[.string a0,.string (⟨#[45]⟩ : ByteArray),.string (⟨#[]⟩ : ByteArray)] rfl (by (try simp only [List.map_toArray,List.map_cons,List.map_nil]);first|done|rfl|(simp only [List.length_drop,List.length_take];rfl)) ?_;(with_reducible refine (strings_ReplaceAll.calls a0 (⟨#[45]⟩ : ByteArray) (⟨#[]⟩ : ByteArray) t133 _ ?side1 A9.out).mono ?_);(case side1 => exact Gm.below HG.out (by repeat (first|(with_reducible first|exact HB.out|apply lA|apply lN|apply lD)|exact HB.out)));rintro e w12 ⟨rfl,hb⟩;refine ⟨_,rfl,?_⟩;have n0_ := Aside0.mk (below_step (by repeat (first|(with_reducible first|exact HB.out|apply lA|apply lN|apply lD)|exact HB.out)) hb);clear HB;have HB := n0_;clear n0_;(try clear hb);(try clear hb2);(try clear hk);(try clear hi))|((with_reducible refine gate_callee (f := 45) rfl ?_);refine goesL_ (some 18) rfl rfl Tryd.func45 (by kernel_rfl) rfl #[.string t133] rfl (by (try simp only [List.map_toArray,List.map_cons,List.map_nil]);first|done|rfl|(simp only [List.length_drop,List.length_take];rfl)) ?_;(with_reducible refine (impl_idKind.calls kj1 t133 t134 _ A10.out).mono ?_);rintro e w' ⟨rfl,⟨nd,rfl⟩⟩;refine ⟨_,rfl,?_⟩))
     go_ret3
     exact ⟨by first|rfl|(simp [errW_none,errW_some] <;> rfl)|(simp [*,errW_none,errW_some] <;> rfl),by repeat (first|(with_reducible first|exact HB.out|apply lA|apply lN|apply lD)|exact HB.out)⟩
    ·rw [if_neg c11] at H
     have c11b0 : (t134 == 0) = false := beq_eq_false_iff_ne.mpr c11
     have c11b1 : (t134 != 0) = true := bne_iff_ne.mpr c11
     simp only [Option.some.injEq,Prod.mk.injEq] at H
     obtain ⟨rfl,rfl,rfl⟩ := H
     go_wp2_with (first|((with_reducible refine gate_callee (f := 44) rfl ?_);refine goesL_ (some 16) rfl rfl Tryd.func44 (by kernel_rfl) rfl #[.string a0,.string (⟨#[45]⟩ : ByteArray),.string (⟨#[]⟩ : ByteArray)] rfl (by (try simp only [List.map_toArray,List.map_cons,List.map_nil]);first|done|rfl|(simp only [List.length_drop,List.length_take];rfl)) ?_;(with_reducible refine (strings_ReplaceAll.calls a0 (⟨#[45]⟩ : ByteArray) (⟨#[]⟩ : ByteArray) t133 _ ?side1 A9.out).mono ?_);(case side1 => exact Gm.below HG.out (by repeat (first|(with_reducible first|exact HB.out|apply lA|apply lN|apply lD)|exact HB.out)));rintro e w13 ⟨rfl,hb⟩;refine ⟨_,rfl,?_⟩;have n0_ := Aside0.mk (below_step (by repeat (first|(with_reducible first|exact HB.out|apply lA|apply lN|apply lD)|exact HB.out)) hb);clear HB;have HB := n0_;clear n0_;(try clear hb);(try clear hb2);(try clear hk);(try clear hi))|((with_reducible refine gate_callee (f := 45) rfl ?_);refine goesL_ (some 18) rfl rfl Tryd.func45 (by kernel_rfl) rfl #[.string t133] rfl (by (try simp only [List.map_toArray,List.map_cons,List.map_nil]);first|done|rfl|(simp only [List.length_drop,List.length_take];rfl)) ?_;(with_reducible refine (impl_idKind.calls kj1 t133 t134 _ A10.out).mono ?_);rintro e w' ⟨rfl,⟨nd,rfl⟩⟩;refine ⟨_,rfl,?_⟩))
     go_ret3
     exact ⟨by first|rfl|(simp [errW_none,errW_some] <;> rfl)|(simp [*,errW_none,errW_some] <;> rfl),by repeat (first|(with_reducible first|exact HB.out|apply lA|apply lN|apply lD)|exact HB.out)⟩
def laws_FnExactCompactForm.f (k : Nat) (a0 : ByteArray) : Option (Bool) := if (a0.size : Int) > 1048576 then (some true) else ((spec_CompactForm.f k a0).bind fun bt135 => ((impl_CompactForm.f k a0).bind fun bt138 => (if bt138.1.toList = bt135.1.toList then (if bt138.2.1 = bt135.2.1 then (if (bt138.2.2 != bt135.2.2) = true then (some false) else (some true)) else (some false)) else (some false))))
theorem laws_FnExactCompactForm.mono : ∀ a0 k,LeO (laws_FnExactCompactForm.f k a0) (laws_FnExactCompactForm.f (k + 1) a0) := by
 intro a0 k
 unfold laws_FnExactCompactForm.f
 repeat' first
   | (with_reducible exact impl_CompactForm.mono _ _)
   | (with_reducible exact spec_CompactForm.mono _ _)
   | (with_reducible exact LeO.refl _)
   | (with_reducible exact LeO.none _)
   | (with_reducible refine LeO.ite ?_ ?_)
   | (with_reducible refine LeO.bind ?_ (fun _ => ?_))
   | exact impl_CompactForm.mono _ _
   | exact spec_CompactForm.mono _ _
   | exact LeO.none _
   | refine LeO.ite ?_ ?_
   | refine LeO.bind ?_ (fun _ => ?_)
set_option maxHeartbeats 8000000 in
set_option maxRecDepth 100000 in
theorem laws_FnExactCompactForm.calls (k : Nat) (a0 : ByteArray) (r : Bool) (w : World) (hG : Gm w) (hr_ : r = true) (h : laws_FnExactCompactForm.f k a0 = some r) :
  Calls Tryd.prog 6 #[.string a0] w fun e w' => e = .returned (.bool r) ∧ Below w.heap.size w w' := by
 have HB := Aside0.mk (Below.refl w.heap.size w)
 have HG := Aside0.mk hG
 clear hG
 have H : (if (a0.size : Int) > 1048576 then (some true) else ((spec_CompactForm.f k a0).bind fun bt135 => ((impl_CompactForm.f k a0).bind fun bt138 => (if bt138.1.toList = bt135.1.toList then (if bt138.2.1 = bt135.2.1 then (if (bt138.2.2 != bt135.2.2) = true then (some false) else (some true)) else (some false)) else (some false))))) = some r := h
 clear h
 by_cases c2 : (a0.size : Int) > 1048576
 ·rw [if_pos c2] at H
  have c2b0 : decide (1048576 < (a0.size : Int)) = true := decide_eq_true c2
  have c2b1 : decide (1048576 < a0.size) = true := decide_eq_true (by omega)
  clear c2
  obtain rfl := Option.some.inj H
  try clear hr_
  go_enter Tryd.func6,Tryd.ntmps6
  go_wp2
  go_ret
  exact ⟨by first|rfl|(simp [errW_none,errW_some] <;> rfl)|(simp [*,errW_none,errW_some] <;> rfl),by repeat (first|(with_reducible first|exact HB.out|apply lA|apply lN|apply lD)|exact HB.out)⟩
 ·rw [if_neg c2] at H
  have c2b0 : decide (1048576 < (a0.size : Int)) = false := decide_eq_false c2
  have c2b1 : decide (1048576 < a0.size) = false := decide_eq_false (by omega)
  clear c2
  replace H := Option.bind_eq_some_iff.mp H
  obtain ⟨⟨t135,t136,t137⟩,A30,H⟩ := H
  replace H : ((impl_CompactForm.f k a0).bind fun bt138 => (if bt138.1.toList = t135.toList then (if bt138.2.1 = t136 then (if (bt138.2.2 != t137) = true then (some false) else (some true)) else (some false)) else (some false))) = some r := H
  have A3 := Aside0.mk A30
  clear A30
  replace H := Option.bind_eq_some_iff.mp H
  obtain ⟨⟨t138,t139,t140⟩,A40,H⟩ := H
  replace H : (if t138.toList = t135.toList then (if t139 = t136 then (if (t140 != t137) = true then (some false) else (some true)) else (some false)) else (some false)) = some r := H
  have A4 := Aside0.mk A40
  clear A40
  by_cases c5 : t138.toList = t135.toList
  ·rw [if_pos c5] at H
   have c5b0 : (t138.toList == t135.toList) = true := beq_iff_eq.mpr c5
   have c5b1 : (t138.toList != t135.toList) = false := bne_eq_false_iff_eq.mpr c5
   clear c5
   by_cases c6 : t139 = t136
   ·rw [if_pos c6] at H
    have c6b0 : (t139 == t136) = true := beq_iff_eq.mpr c6
    have c6b1 : (t139 != t136) = false := bne_eq_false_iff_eq.mpr c6
    clear c6
    by_cases c7 : (t140 != t137) = true
    ·rw [if_pos c7] at H
     have c7b0 : (t140 != t137) = true := c7
     (try (have c7b1 : decide (t140 = t137) = false := by simpa using c7))
     (try (have c7b2 : (t140 == t137) = false := by simpa using c7))
     (try (have c7b3 : ¬ (t140 = t137) := by simpa using c7))
     clear c7
     exact absurd ((Option.some.inj H).trans hr_) (by decide)
    ·rw [if_neg c7] at H
     have c7b0 : (t140 != t137) = false := by simpa using c7
     (try (have c7b1 : decide (t140 = t137) = true := by simpa using c7))
     (try (have c7b2 : (t140 == t137) = true := by simpa using c7))
     clear c7
     obtain rfl := Option.some.inj H
     try clear hr_
     go_enter Tryd.func6,Tryd.ntmps6
     go_wp2_with (first|((with_reducible refine gate_callee (f := 15) rfl ?_);refine goesL_ (some 14) rfl rfl Tryd.func15 (by kernel_rfl) rfl #[.string a0] rfl (by (try simp only [List.map_toArray,List.map_cons,List.map_nil]);first|done|rfl|(simp only [List.length_drop,List.length_take];rfl)) ?_;(with_reducible refine (spec_CompactForm.calls k a0 t135 t136 t137 _ A3.out).mono ?_);rintro e w' ⟨rfl,⟨nd,rfl⟩⟩;refine ⟨_,rfl,?_⟩)|((with_reducible refine gate_callee (f := 16) rfl ?_);refine goesL_ (some 20) rfl rfl Tryd.func16 (by kernel_rfl) rfl #[.string a0] rfl (by (try simp only [List.map_toArray,List.map_cons,List.map_nil]);first|done|rfl|(simp only [List.length_drop,List.length_take];rfl)) ?_;(with_reducible refine (impl_CompactForm.calls k a0 t138 t139 t140 _ ?side1 A4.out).mono ?_);(case side1 => exact Gm.below HG.out (by repeat (first|(with_reducible first|exact HB.out|apply lA|apply lN|apply lD)|exact HB.out)));rintro e w8 ⟨rfl,hb⟩;refine ⟨_,rfl,?_⟩;have n0_ := Aside0.mk (below_step (by repeat (first|(with_reducible first|exact HB.out|apply lA|apply lN|apply lD)|exact HB.out)) hb);clear HB;have HB := n0_;clear n0_;(try clear hb);(try clear hb2);(try clear hk);(try clear hi)))
     go_ret
     exact ⟨by first|rfl|(simp [errW_none,errW_some] <;> rfl)|(simp [*,errW_none,errW_some] <;> rfl),by repeat (first|(with_reducible first|exact HB.out|apply lA|apply lN|apply lD)|exact HB.out)⟩
   ·rw [if_neg c6] at H
    have c6b0 : (t139 == t136) = false := beq_eq_false_iff_ne.mpr c6
    have c6b1 : (t139 != t136) = true := bne_iff_ne.mpr c6
    exact absurd ((Option.some.inj H).trans hr_) (by decide)
  ·rw [if_neg c5] at H
   have c5b0 : (t138.toList == t135.toList) = false := beq_eq_false_iff_ne.mpr c5
   have c5b1 : (t138.toList != t135.toList) = true := bne_iff_ne.mpr c5
   exact absurd ((Option.some.inj H).trans hr_) (by decide)
def laws_FnExactCompactForm.Pure : Prop := ∀ (a0 : ByteArray),(a0.size ≤ 140737488351232) → ∃ k,laws_FnExactCompactForm.f k a0 = some true
end Go.Proofs.YtpnjnlcjofaglaaDoor.P
