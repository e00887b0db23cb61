/- Written by a program in this session: each theorem here says that a Go function computes the Lean function beside it, or that a law's row holds, under the conditions that the theorem itself states. -/
import Derived.Test.YtpnjnlcjofaglaaDoorZPx0
import Derived.Test.YtpnjnlcjofaglaaDoorZPx1
import Derived.Test.YtpnjnlcjofaglaaDoorZPx2
import Derived.Test.YtpnjnlcjofaglaaDoorZPx3
import Derived.Test.YtpnjnlcjofaglaaDoorZPx4
import Derived.Test.YtpnjnlcjofaglaaDoorZPx7
import Derived.RegionTactic
namespace Go.Proofs.YtpnjnlcjofaglaaDoor.P
open Go.RowKit Go.Proofs.YtpnjnlcjofaglaaDoorW.PrintWords Go.Proofs.YtpnjnlcjofaglaaDoorW.PrintLast Go.Proofs.YtpnjnlcjofaglaaDoorW.PrintMore
attribute [local go_sem] max2_int min2_int max_two min_two max_three min_three max_four min_four   -- for this text's walks alone
set_option linter.unusedVariables false
set_option linter.unusedSimpArgs false
mutual
def spec_RepairDigit.j0 : Nat → Int → ByteArray → Int → Bool → Option (ByteArray × Bool)
 | 0,_,_,_,_ => none
 | k + 1,x0,x1,x2,x23 => if x23 = true then (some ((⟨#[]⟩ : ByteArray),false)) else (spec_RepairDigit.l0 k x0 x1 x2 (⟨#[]⟩ : ByteArray) 0)
def spec_RepairDigit.l0 : Nat → Int → ByteArray → Int → ByteArray → Int → Option (ByteArray × Bool)
 | 0,_,_,_,_,_ => none
 | k + 1,x0,x1,x2,x8,x10 => if x10 < 11 then (if 0 ≤ x2 then (if x2 ≤ (x1.size : Int) then (if 0 ≤ x10 then (if x10 ≤ (wrap64 (x10 + 1)) then (if (wrap64 (x10 + 1)) ≤ 11 then (if (x1.extract 0 (x2 : Int).toNat).size + ((⟨#[48,49,50,51,52,53,54,55,56,57,88]⟩ : ByteArray).extract (x10 : Int).toNat ((wrap64 (x10 + 1)) : Int).toNat).size ≤ 9223372036854775807 then (if 0 ≤ (wrap64 (x2 + 1)) then (if (wrap64 (x2 + 1)) ≤ (x1.size : Int) then (if ((x1.extract 0 (x2 : Int).toNat) ++ ((⟨#[48,49,50,51,52,53,54,55,56,57,88]⟩ : ByteArray).extract (x10 : Int).toNat ((wrap64 (x10 + 1)) : Int).toNat)).size + (x1.extract ((wrap64 (x2 + 1)) : Int).toNat x1.size).size ≤ 9223372036854775807 then ((spec_l24Is.f k x0 (((x1.extract 0 (x2 : Int).toNat) ++ ((⟨#[48,49,50,51,52,53,54,55,56,57,88]⟩ : ByteArray).extract (x10 : Int).toNat ((wrap64 (x10 + 1)) : Int).toNat)) ++ (x1.extract ((wrap64 (x2 + 1)) : Int).toNat x1.size))).bind fun t281 => (if t281 = true then (if x8.toList = ([] : List UInt8) then (spec_RepairDigit.l0 k x0 x1 x2 (((x1.extract 0 (x2 : Int).toNat) ++ ((⟨#[48,49,50,51,52,53,54,55,56,57,88]⟩ : ByteArray).extract (x10 : Int).toNat ((wrap64 (x10 + 1)) : Int).toNat)) ++ (x1.extract ((wrap64 (x2 + 1)) : Int).toNat x1.size)) (wrap64 (x10 + 1))) else (some ((⟨#[]⟩ : ByteArray),false))) else (spec_RepairDigit.l0 k x0 x1 x2 x8 (wrap64 (x10 + 1))))) else (none)) else (none)) else (none)) else (none)) else (none)) else (none)) else (none)) else (none)) else (none)) else (some (x8,(x8.toList != ([] : List UInt8))))
end
def spec_RepairDigit.f (k : Nat) (a0 : Int) (a1 : ByteArray) (a2 : Int) : Option (ByteArray × Bool) := (spec_l24Form.f k a0 a1).bind fun t279 => (if t279 = true then ((spec_l1In.f a2 0 (wrap64 ((a1.size : Int) - 1))).bind fun t280 => (spec_RepairDigit.j0 k a0 a1 a2 (!t280))) else (spec_RepairDigit.j0 k a0 a1 a2 true))
theorem spec_RepairDigit.mono_l : ∀ k,(∀ y0 y1 y2 y3,LeO (spec_RepairDigit.j0 k y0 y1 y2 y3) (spec_RepairDigit.j0 (k + 1) y0 y1 y2 y3)) ∧ (∀ y0 y1 y2 y3 y4,LeO (spec_RepairDigit.l0 k y0 y1 y2 y3 y4) (spec_RepairDigit.l0 (k + 1) y0 y1 y2 y3 y4))
 | 0 => ⟨fun _ _ _ _ r h => by simp [spec_RepairDigit.j0] at h,fun _ _ _ _ _ r h => by simp [spec_RepairDigit.l0] at h⟩
 | k + 1 => by
  obtain ⟨ih0,ih1⟩ := spec_RepairDigit.mono_l k
  refine ⟨?_,?_⟩
  ·intro y0 y1 y2 y3
   unfold spec_RepairDigit.j0
   repeat' first
   | (with_reducible exact ih0 _ _ _ _)
   | (with_reducible exact ih1 _ _ _ _ _)
   | (with_reducible exact spec_l24Form.mono _ _ _)
   | (with_reducible exact spec_l24Is.mono _ _ _)
   | (with_reducible exact LeO.refl _)
   | (with_reducible exact LeO.none _)
   | (with_reducible refine LeO.ite ?_ ?_)
   | (with_reducible refine LeO.bind ?_ (fun _ => ?_))
   | exact ih0 _ _ _ _
   | exact ih1 _ _ _ _ _
   | exact spec_l24Form.mono _ _ _
   | exact spec_l24Is.mono _ _ _
   | exact LeO.none _
   | refine LeO.ite ?_ ?_
   | refine LeO.bind ?_ (fun _ => ?_)
  ·intro y0 y1 y2 y3 y4
   unfold spec_RepairDigit.l0
   repeat' first
   | (with_reducible exact ih0 _ _ _ _)
   | (with_reducible exact ih1 _ _ _ _ _)
   | (with_reducible exact spec_l24Form.mono _ _ _)
   | (with_reducible exact spec_l24Is.mono _ _ _)
   | (with_reducible exact LeO.refl _)
   | (with_reducible exact LeO.none _)
   | (with_reducible refine LeO.ite ?_ ?_)
   | (with_reducible refine LeO.bind ?_ (fun _ => ?_))
   | exact ih0 _ _ _ _
   | exact ih1 _ _ _ _ _
   | exact spec_l24Form.mono _ _ _
   | exact spec_l24Is.mono _ _ _
   | exact LeO.none _
   | refine LeO.ite ?_ ?_
   | refine LeO.bind ?_ (fun _ => ?_)
theorem spec_RepairDigit.mono : ∀ a0 a1 a2 k,LeO (spec_RepairDigit.f k a0 a1 a2) (spec_RepairDigit.f (k + 1) a0 a1 a2) := by
 intro a0 a1 a2 k
 obtain ⟨ih0,ih1⟩ := spec_RepairDigit.mono_l k
 unfold spec_RepairDigit.f
 repeat' first
   | (with_reducible exact ih0 _ _ _ _)
   | (with_reducible exact ih1 _ _ _ _ _)
   | (with_reducible exact spec_l24Form.mono _ _ _)
   | (with_reducible exact spec_l24Is.mono _ _ _)
   | (with_reducible exact LeO.refl _)
   | (with_reducible exact LeO.none _)
   | (with_reducible refine LeO.ite ?_ ?_)
   | (with_reducible refine LeO.bind ?_ (fun _ => ?_))
   | exact ih0 _ _ _ _
   | exact ih1 _ _ _ _ _
   | exact spec_l24Form.mono _ _ _
   | exact spec_l24Is.mono _ _ _
   | exact LeO.none _
   | refine LeO.ite ?_ ?_
   | refine LeO.bind ?_ (fun _ => ?_)
set_option maxHeartbeats 8000000 in
set_option maxRecDepth 100000 in
theorem spec_RepairDigit.calls (k : Nat) (a0 : Int) (a1 : ByteArray) (a2 : Int) (r1 : ByteArray) (r2 : Bool) (w : World) (h : spec_RepairDigit.f k a0 a1 a2 = some (r1,r2)) :
  Calls Tryd.prog 28 #[.int .i64 a0,.string a1,.int .i64 a2] w fun e w' => e = .returned (.tuple #[.string r1,.bool r2]) ∧ Drawn0 w w' := by
 have H : ((spec_l24Form.f k a0 a1).bind fun t279 => (if t279 = true then ((spec_l1In.f a2 0 (wrap64 ((a1.size : Int) - 1))).bind fun t280 => (spec_RepairDigit.j0 k a0 a1 a2 (!t280))) else (spec_RepairDigit.j0 k a0 a1 a2 true))) = some (r1,r2) := h
 clear h
 have HC4 := Aside0.mk H
 clear H
 go_enter Tryd.func28,Tryd.ntmps28
 go_upto_region 1 with (fail)
 repeat (go_quiet (fail);go_upto_region 1 with (fail))
 go_cut [23] (fun v23 wc => ∃ (kq : Nat) (x23_3 : Bool),v23 = .bool x23_3 ∧ Aside0 (spec_RepairDigit.j0 kq a0 a1 a2 x23_3 = some (r1,r2)) ∧ Aside0 (kq ≤ k) ∧ Drawn0 w wc)
 case first =>
  have H := HC4.out
  clear HC4
  replace H := Option.bind_eq_some_iff.mp H
  obtain ⟨t279,A50,H⟩ := H
  replace H : (if t279 = true then ((spec_l1In.f a2 0 (wrap64 ((a1.size : Int) - 1))).bind fun t280 => (spec_RepairDigit.j0 k a0 a1 a2 (!t280))) else (spec_RepairDigit.j0 k a0 a1 a2 true)) = some (r1,r2) := H
  have A5 := Aside0.mk A50
  clear A50
  by_cases c6 : t279 = true
  ·subst c6
   have H1 : ((spec_l1In.f a2 0 (wrap64 ((a1.size : Int) - 1))).bind fun t280 => (spec_RepairDigit.j0 k a0 a1 a2 (!t280))) = some (r1,r2) := by rw [if_pos rfl] at H;exact H
   clear H
   have H := H1
   clear H1
   replace H := Option.bind_eq_some_iff.mp H
   obtain ⟨t280,A70,H⟩ := H
   replace H : (spec_RepairDigit.j0 k a0 a1 a2 (!t280)) = some (r1,r2) := H
   have A7 := Aside0.mk A70
   clear A70
   have H' := Aside0.mk H
   clear H
   go_wp2_with (first|(go_at_call 57;(with_reducible refine (spec_l24Form.calls k a0 a1 true _ A5.out).mono ?_);rintro e w' ⟨rfl,⟨nd,rfl⟩⟩;(try first|exact ⟨rfl,_,World.drewN_drewN _ _ _⟩|exact ⟨rfl,_,Eq.trans (World.drewN_drewN _ _ _) (congrArg (World.drewN _) (Nat.add_assoc _ _ _))⟩))|(go_at_call 58;(with_reducible refine (spec_l1In.calls a2 0 (wrap64 ((a1.size : Int) - 1)) t280 _ A7.out).mono ?_);rintro e w' ⟨rfl,⟨nd,rfl⟩⟩;(try first|exact ⟨rfl,_,World.drewN_drewN _ _ _⟩|exact ⟨rfl,_,Eq.trans (World.drewN_drewN _ _ _) (congrArg (World.drewN _) (Nat.add_assoc _ _ _))⟩)))
   repeat (go_quiet (first|(go_at_call 57;(with_reducible refine (spec_l24Form.calls k a0 a1 true _ A5.out).mono ?_);rintro e w' ⟨rfl,⟨nd,rfl⟩⟩;(try first|exact ⟨rfl,_,World.drewN_drewN _ _ _⟩|exact ⟨rfl,_,Eq.trans (World.drewN_drewN _ _ _) (congrArg (World.drewN _) (Nat.add_assoc _ _ _))⟩))|(go_at_call 58;(with_reducible refine (spec_l1In.calls a2 0 (wrap64 ((a1.size : Int) - 1)) t280 _ A7.out).mono ?_);rintro e w' ⟨rfl,⟨nd,rfl⟩⟩;(try first|exact ⟨rfl,_,World.drewN_drewN _ _ _⟩|exact ⟨rfl,_,Eq.trans (World.drewN_drewN _ _ _) (congrArg (World.drewN _) (Nat.add_assoc _ _ _))⟩)));try go_wp2_with (first|(go_at_call 57;(with_reducible refine (spec_l24Form.calls k a0 a1 true _ A5.out).mono ?_);rintro e w' ⟨rfl,⟨nd,rfl⟩⟩;(try first|exact ⟨rfl,_,World.drewN_drewN _ _ _⟩|exact ⟨rfl,_,Eq.trans (World.drewN_drewN _ _ _) (congrArg (World.drewN _) (Nat.add_assoc _ _ _))⟩))|(go_at_call 58;(with_reducible refine (spec_l1In.calls a2 0 (wrap64 ((a1.size : Int) - 1)) t280 _ A7.out).mono ?_);rintro e w' ⟨rfl,⟨nd,rfl⟩⟩;(try first|exact ⟨rfl,_,World.drewN_drewN _ _ _⟩|exact ⟨rfl,_,Eq.trans (World.drewN_drewN _ _ _) (congrArg (World.drewN _) (Nat.add_assoc _ _ _))⟩))))
   go_meet
   case rel => exact ⟨_,(!t280),(by first|rfl|(simp;done)|(simp [my_isEmpty];done)|(simp [*];done)),H',⟨by first|omega|exact Nat.le_refl _⟩,by repeat (first|exact Drawn0.refl _|apply Drawn0.step)⟩
  ·replace c6 := Bool.eq_false_iff.mpr c6
   subst c6
   have H1 : (spec_RepairDigit.j0 k a0 a1 a2 true) = some (r1,r2) := by rw [if_neg (show ¬ (false = true) by decide)] at H;exact H
   clear H
   have H := H1
   clear H1
   have H' := Aside0.mk H
   clear H
   go_wp2_with (first|(go_at_call 57;(with_reducible refine (spec_l24Form.calls k a0 a1 false _ A5.out).mono ?_);rintro e w' ⟨rfl,⟨nd,rfl⟩⟩;(try first|exact ⟨rfl,_,World.drewN_drewN _ _ _⟩|exact ⟨rfl,_,Eq.trans (World.drewN_drewN _ _ _) (congrArg (World.drewN _) (Nat.add_assoc _ _ _))⟩)))
   repeat (go_quiet (first|(go_at_call 57;(with_reducible refine (spec_l24Form.calls k a0 a1 false _ A5.out).mono ?_);rintro e w' ⟨rfl,⟨nd,rfl⟩⟩;(try first|exact ⟨rfl,_,World.drewN_drewN _ _ _⟩|exact ⟨rfl,_,Eq.trans (World.drewN_drewN _ _ _) (congrArg (World.drewN _) (Nat.add_assoc _ _ _))⟩)));try go_wp2_with (first|(go_at_call 57;(with_reducible refine (spec_l24Form.calls k a0 a1 false _ A5.out).mono ?_);rintro e w' ⟨rfl,⟨nd,rfl⟩⟩;(try first|exact ⟨rfl,_,World.drewN_drewN _ _ _⟩|exact ⟨rfl,_,Eq.trans (World.drewN_drewN _ _ _) (congrArg (World.drewN _) (Nat.add_assoc _ _ _))⟩))))
   go_meet
   case rel => exact ⟨_,(true),(by first|rfl|(simp;done)|(simp [my_isEmpty];done)|(simp [*];done)),H',⟨by first|omega|exact Nat.le_refl _⟩,by repeat (first|exact Drawn0.refl _|apply Drawn0.step)⟩
 case rest =>
  clear HC4
  try clear c2
  try clear p2
  try clear c6
  try clear p6
  obtain ⟨kq,x23_3,rfl,HA,HJ3,⟨mc3,rfl⟩⟩ := hcut
  cases kq with
  | zero => exact absurd HA.out (by simp [spec_RepairDigit.j0])
  | succ kj3 =>
   have H := HA.out
   clear HA
   simp only [spec_RepairDigit.j0] at H
   by_cases c8 : x23_3 = true
   ·subst c8
    have H1 : (some ((⟨#[]⟩ : ByteArray),false)) = some (r1,r2) := by rw [if_pos rfl] at H;exact H
    clear H
    have H := H1
    clear H1
    simp only [Option.some.injEq,Prod.mk.injEq] at H
    obtain ⟨rfl,rfl⟩ := H
    go_wp2
    repeat (go_quiet (fail);try go_wp2)
    go_ret2
    exact ⟨by first|rfl|(simp;done)|(simp [my_isEmpty];done)|(simp [*];done),by repeat (first|exact Drawn0.refl _|apply Drawn0.step)⟩
   ·replace c8 := Bool.eq_false_iff.mpr c8
    subst c8
    have H1 : (spec_RepairDigit.l0 kj3 a0 a1 a2 (⟨#[]⟩ : ByteArray) 0) = some (r1,r2) := by rw [if_neg (show ¬ (false = true) by decide)] at H;exact H
    clear H
    have H := H1
    clear H1
    have H' := Aside0.mk H
    clear H
    go_wp2
    repeat (go_quiet (fail);try go_wp2)
    go_loopg [8,10] kj3 (fun kq v8 v10 w' => ∃ (x8_2 : ByteArray) (x10_2 : Int),v8 = .string x8_2 ∧ v10 = .int .i64 x10_2 ∧ Aside0 (spec_RepairDigit.l0 kq a0 a1 a2 x8_2 x10_2 = some (r1,r2)) ∧ Aside0 (kq ≤ kj3) ∧ Drawn0 w w')
    case atStart => exact ⟨((⟨#[]⟩ : ByteArray)),(0),(by first|rfl|(simp;done)|(simp [my_isEmpty];done)|(simp [*];done)),(by first|rfl|(simp;done)|(simp [my_isEmpty];done)|(simp [*];done)),H',⟨Nat.le_refl _⟩,by repeat (first|exact Drawn0.refl _|apply Drawn0.step)⟩
    case round =>
     clear H'
     try clear c2
     try clear p2
     try clear c3
     try clear c6
     try clear p6
     try clear c8
     try clear p2
     try clear p6
     obtain ⟨x8_2,x10_2,rfl,rfl,HA,HK2,⟨m2,rfl⟩⟩ := hrel
     cases gk with
     | zero => exact absurd HA.out (by simp [spec_RepairDigit.l0])
     | succ k2 =>
      have H := HA.out
      clear HA
      simp only [spec_RepairDigit.l0] at H
      by_cases c9 : x10_2 < 11
      ·rw [if_pos c9] at H
       have c9b0 : decide (x10_2 < 11) = true := decide_eq_true c9
       clear c9
       by_cases c10 : 0 ≤ a2
       ·rw [if_pos c10] at H
        have c10b0 := eq_true c10
        have c10b1 : decide (0 ≤ a2) = true := decide_eq_true c10
        clear c10
        by_cases c11 : a2 ≤ (a1.size : Int)
        ·rw [if_pos c11] at H
         have c11b0 := eq_true c11
         have c11b1 : decide (a2 ≤ (a1.size : Int)) = true := decide_eq_true c11
         clear c11
         by_cases c12 : 0 ≤ x10_2
         ·rw [if_pos c12] at H
          have c12b0 := eq_true c12
          have c12b1 : decide (0 ≤ x10_2) = true := decide_eq_true c12
          clear c12
          by_cases c13 : x10_2 ≤ (wrap64 (x10_2 + 1))
          ·rw [if_pos c13] at H
           have c13b0 := eq_true c13
           have c13b1 : decide (x10_2 ≤ (wrap64 (x10_2 + 1))) = true := decide_eq_true c13
           by_cases c14 : (wrap64 (x10_2 + 1)) ≤ 11
           ·rw [if_pos c14] at H
            have c14b0 := eq_true c14
            have c14b1 : decide ((wrap64 (x10_2 + 1)) ≤ 11) = true := decide_eq_true c14
            by_cases c15 : (a1.extract 0 (a2 : Int).toNat).size + ((⟨#[48,49,50,51,52,53,54,55,56,57,88]⟩ : ByteArray).extract (x10_2 : Int).toNat ((wrap64 (x10_2 + 1)) : Int).toNat).size ≤ 9223372036854775807
            ·rw [if_pos c15] at H
             have c15b0 := eq_true c15
             have c15b1 : decide ((a1.extract 0 (a2 : Int).toNat).size + ((⟨#[48,49,50,51,52,53,54,55,56,57,88]⟩ : ByteArray).extract (x10_2 : Int).toNat ((wrap64 (x10_2 + 1)) : Int).toNat).size ≤ 9223372036854775807) = true := decide_eq_true c15
             try have c15b3 : (9223372036854775807 < (a1.extract 0 (a2 : Int).toNat).size + ((((wrap64 (x10_2 + 1)) : Int).toNat - (x10_2 : Int).toNat))) = False := eq_false (by have h_ := c15;simp only [ByteArray.size_append,ByteArray.size_extract] at h_;have hs0_ : (⟨#[48,49,50,51,52,53,54,55,56,57,88]⟩ : ByteArray).size = 11 := rfl;omega)
             try have c15b4 : (9223372036854775807 < min (a2 : Int).toNat a1.size + ((((wrap64 (x10_2 + 1)) : Int).toNat - (x10_2 : Int).toNat))) = False := eq_false (by have h_ := c15;simp only [ByteArray.size_append,ByteArray.size_extract] at h_;have hs0_ : (⟨#[48,49,50,51,52,53,54,55,56,57,88]⟩ : ByteArray).size = 11 := rfl;omega)
             try have c15b2 : (9223372036854775807 < (a1.extract 0 (a2 : Int).toNat).size + ((⟨#[48,49,50,51,52,53,54,55,56,57,88]⟩ : ByteArray).extract (x10_2 : Int).toNat ((wrap64 (x10_2 + 1)) : Int).toNat).size) = False := eq_false (Nat.not_lt.2 c15)
             obtain ⟨ji16,hji16⟩ : ∃ j_ : Int,(wrap64 (a2 + 1)) = j_ := ⟨_,rfl⟩
             replace H : (if 0 ≤ (ji16) then (if (ji16) ≤ (a1.size : Int) then (if ((a1.extract 0 (a2 : Int).toNat) ++ ((⟨#[48,49,50,51,52,53,54,55,56,57,88]⟩ : ByteArray).extract (x10_2 : Int).toNat ((wrap64 (x10_2 + 1)) : Int).toNat)).size + (a1.extract ((ji16) : Int).toNat a1.size).size ≤ 9223372036854775807 then ((spec_l24Is.f k2 a0 (((a1.extract 0 (a2 : Int).toNat) ++ ((⟨#[48,49,50,51,52,53,54,55,56,57,88]⟩ : ByteArray).extract (x10_2 : Int).toNat ((wrap64 (x10_2 + 1)) : Int).toNat)) ++ (a1.extract ((ji16) : Int).toNat a1.size))).bind fun t281 => (if t281 = true then (if x8_2.toList = ([] : List UInt8) then (spec_RepairDigit.l0 k2 a0 a1 a2 (((a1.extract 0 (a2 : Int).toNat) ++ ((⟨#[48,49,50,51,52,53,54,55,56,57,88]⟩ : ByteArray).extract (x10_2 : Int).toNat ((wrap64 (x10_2 + 1)) : Int).toNat)) ++ (a1.extract ((ji16) : Int).toNat a1.size)) (wrap64 (x10_2 + 1))) else (some ((⟨#[]⟩ : ByteArray),false))) else (spec_RepairDigit.l0 k2 a0 a1 a2 x8_2 (wrap64 (x10_2 + 1))))) else (none)) else (none)) else (none)) = some (r1,r2) := by first|(rw [hji16] at H;exact H)|(simp only [hji16] at H ⊢;exact H)
             have hji16w : (IntKind.i64.wrap (a2 + 1)) = ji16 := (i64_w _).trans hji16
             by_cases c17 : 0 ≤ (ji16)
             ·rw [if_pos c17] at H
              have c17b0 := eq_true c17
              have c17b1 : decide (0 ≤ (ji16)) = true := decide_eq_true c17
              clear c17
              by_cases c18 : (ji16) ≤ (a1.size : Int)
              ·rw [if_pos c18] at H
               have c18b0 := eq_true c18
               have c18b1 : decide ((ji16) ≤ (a1.size : Int)) = true := decide_eq_true c18
               clear c18
               obtain ⟨sj19,hsj19⟩ : ∃ s_ : ByteArray,(a1.extract ((ji16) : Int).toNat a1.size) = s_ := ⟨_,rfl⟩
               replace H : (if ((a1.extract 0 (a2 : Int).toNat) ++ ((⟨#[48,49,50,51,52,53,54,55,56,57,88]⟩ : ByteArray).extract (x10_2 : Int).toNat ((wrap64 (x10_2 + 1)) : Int).toNat)).size + sj19.size ≤ 9223372036854775807 then ((spec_l24Is.f k2 a0 (((a1.extract 0 (a2 : Int).toNat) ++ ((⟨#[48,49,50,51,52,53,54,55,56,57,88]⟩ : ByteArray).extract (x10_2 : Int).toNat ((wrap64 (x10_2 + 1)) : Int).toNat)) ++ sj19)).bind fun t281 => (if t281 = true then (if x8_2.toList = ([] : List UInt8) then (spec_RepairDigit.l0 k2 a0 a1 a2 (((a1.extract 0 (a2 : Int).toNat) ++ ((⟨#[48,49,50,51,52,53,54,55,56,57,88]⟩ : ByteArray).extract (x10_2 : Int).toNat ((wrap64 (x10_2 + 1)) : Int).toNat)) ++ sj19) (wrap64 (x10_2 + 1))) else (some ((⟨#[]⟩ : ByteArray),false))) else (spec_RepairDigit.l0 k2 a0 a1 a2 x8_2 (wrap64 (x10_2 + 1))))) else (none)) = some (r1,r2) := by (have he_ : (a1.extract ((ji16) : Int).toNat a1.size) = sj19 := hsj19);first|(rw [he_] at H;exact H)|(simp only [he_] at H ⊢;exact H)
               by_cases c20 : ((a1.extract 0 (a2 : Int).toNat) ++ ((⟨#[48,49,50,51,52,53,54,55,56,57,88]⟩ : ByteArray).extract (x10_2 : Int).toNat ((wrap64 (x10_2 + 1)) : Int).toNat)).size + sj19.size ≤ 9223372036854775807
               ·rw [if_pos c20] at H
                have c20b0 := eq_true c20
                have c20b1 : decide (((a1.extract 0 (a2 : Int).toNat) ++ ((⟨#[48,49,50,51,52,53,54,55,56,57,88]⟩ : ByteArray).extract (x10_2 : Int).toNat ((wrap64 (x10_2 + 1)) : Int).toNat)).size + sj19.size ≤ 9223372036854775807) = true := decide_eq_true c20
                try have c20b3 : (9223372036854775807 < (a1.extract 0 (a2 : Int).toNat).size + ((((wrap64 (x10_2 + 1)) : Int).toNat - (x10_2 : Int).toNat)) + sj19.size) = False := eq_false (by have h_ := c20;simp only [ByteArray.size_append,ByteArray.size_extract] at h_;have hs0_ : (⟨#[48,49,50,51,52,53,54,55,56,57,88]⟩ : ByteArray).size = 11 := rfl;omega)
                try have c20b4 : (9223372036854775807 < min (a2 : Int).toNat a1.size + ((((wrap64 (x10_2 + 1)) : Int).toNat - (x10_2 : Int).toNat)) + sj19.size) = False := eq_false (by have h_ := c20;simp only [ByteArray.size_append,ByteArray.size_extract] at h_;have hs0_ : (⟨#[48,49,50,51,52,53,54,55,56,57,88]⟩ : ByteArray).size = 11 := rfl;omega)
                try have c20b2 : (9223372036854775807 < ((a1.extract 0 (a2 : Int).toNat) ++ ((⟨#[48,49,50,51,52,53,54,55,56,57,88]⟩ : ByteArray).extract (x10_2 : Int).toNat ((wrap64 (x10_2 + 1)) : Int).toNat)).size + sj19.size) = False := eq_false (Nat.not_lt.2 c20)
                replace H := Option.bind_eq_some_iff.mp H
                obtain ⟨t281,A210,H⟩ := H
                replace H : (if t281 = true then (if x8_2.toList = ([] : List UInt8) then (spec_RepairDigit.l0 k2 a0 a1 a2 (((a1.extract 0 (a2 : Int).toNat) ++ ((⟨#[48,49,50,51,52,53,54,55,56,57,88]⟩ : ByteArray).extract (x10_2 : Int).toNat ((wrap64 (x10_2 + 1)) : Int).toNat)) ++ sj19) (wrap64 (x10_2 + 1))) else (some ((⟨#[]⟩ : ByteArray),false))) else (spec_RepairDigit.l0 k2 a0 a1 a2 x8_2 (wrap64 (x10_2 + 1)))) = some (r1,r2) := H
                have A21 := Aside0.mk A210
                clear A210
                by_cases c22 : t281 = true
                ·subst c22
                 have H1 : (if x8_2.toList = ([] : List UInt8) then (spec_RepairDigit.l0 k2 a0 a1 a2 (((a1.extract 0 (a2 : Int).toNat) ++ ((⟨#[48,49,50,51,52,53,54,55,56,57,88]⟩ : ByteArray).extract (x10_2 : Int).toNat ((wrap64 (x10_2 + 1)) : Int).toNat)) ++ sj19) (wrap64 (x10_2 + 1))) else (some ((⟨#[]⟩ : ByteArray),false))) = some (r1,r2) := by rw [if_pos rfl] at H;exact H
                 clear H
                 have H := H1
                 clear H1
                 by_cases c23 : x8_2.toList = ([] : List UInt8)
                 ·rw [if_pos c23] at H
                  have c23b0 : (x8_2.toList == ([] : List UInt8)) = true := beq_iff_eq.mpr c23
                  have c23b1 : (x8_2.toList != ([] : List UInt8)) = false := bne_eq_false_iff_eq.mpr c23
                  clear c23
                  have H' := Aside0.mk H
                  clear H
                  go_wp2_with (first|(go_at_call 33;(with_reducible refine (spec_l24Is.calls k2 a0 (((a1.extract 0 (a2 : Int).toNat) ++ ((⟨#[48,49,50,51,52,53,54,55,56,57,88]⟩ : ByteArray).extract (x10_2 : Int).toNat ((wrap64 (x10_2 + 1)) : Int).toNat)) ++ sj19) true _ A21.out).mono ?_);rintro e w' ⟨rfl,⟨nd,rfl⟩⟩;(try first|exact ⟨rfl,_,World.drewN_drewN _ _ _⟩|exact ⟨rfl,_,Eq.trans (World.drewN_drewN _ _ _) (congrArg (World.drewN _) (Nat.add_assoc _ _ _))⟩)))
                  repeat (go_quiet (first|(go_at_call 33;(with_reducible refine (spec_l24Is.calls k2 a0 (((a1.extract 0 (a2 : Int).toNat) ++ ((⟨#[48,49,50,51,52,53,54,55,56,57,88]⟩ : ByteArray).extract (x10_2 : Int).toNat ((wrap64 (x10_2 + 1)) : Int).toNat)) ++ sj19) true _ A21.out).mono ?_);rintro e w' ⟨rfl,⟨nd,rfl⟩⟩;(try first|exact ⟨rfl,_,World.drewN_drewN _ _ _⟩|exact ⟨rfl,_,Eq.trans (World.drewN_drewN _ _ _) (congrArg (World.drewN _) (Nat.add_assoc _ _ _))⟩)));try go_wp2_with (first|(go_at_call 33;(with_reducible refine (spec_l24Is.calls k2 a0 (((a1.extract 0 (a2 : Int).toNat) ++ ((⟨#[48,49,50,51,52,53,54,55,56,57,88]⟩ : ByteArray).extract (x10_2 : Int).toNat ((wrap64 (x10_2 + 1)) : Int).toNat)) ++ sj19) true _ A21.out).mono ?_);rintro e w' ⟨rfl,⟨nd,rfl⟩⟩;(try first|exact ⟨rfl,_,World.drewN_drewN _ _ _⟩|exact ⟨rfl,_,Eq.trans (World.drewN_drewN _ _ _) (congrArg (World.drewN _) (Nat.add_assoc _ _ _))⟩))))
                  go_roundg k2
                  case measure => have := HJ3.out;have := HK2.out;omega
                  case rel => exact ⟨(((a1.extract 0 (a2 : Int).toNat) ++ ((⟨#[48,49,50,51,52,53,54,55,56,57,88]⟩ : ByteArray).extract (x10_2 : Int).toNat ((wrap64 (x10_2 + 1)) : Int).toNat)) ++ sj19),(wrap64 (x10_2 + 1)),(by first|rfl|(simp;done)|(simp [my_isEmpty];done)|(simp only [← hsj19] <;> (first|rfl|simp))|(simp [*];done)),(by first|rfl|(simp;done)|(simp [my_isEmpty];done)|(simp [*];done)),H',⟨by have := HJ3.out;have := HK2.out;omega⟩,by repeat (first|exact Drawn0.refl _|apply Drawn0.step)⟩
                 ·rw [if_neg c23] at H
                  have c23b0 : (x8_2.toList == ([] : List UInt8)) = false := beq_eq_false_iff_ne.mpr c23
                  have c23b1 : (x8_2.toList != ([] : List UInt8)) = true := bne_iff_ne.mpr c23
                  simp only [Option.some.injEq,Prod.mk.injEq] at H
                  obtain ⟨rfl,rfl⟩ := H
                  go_wp2_with (first|(go_at_call 33;(with_reducible refine (spec_l24Is.calls k2 a0 (((a1.extract 0 (a2 : Int).toNat) ++ ((⟨#[48,49,50,51,52,53,54,55,56,57,88]⟩ : ByteArray).extract (x10_2 : Int).toNat ((wrap64 (x10_2 + 1)) : Int).toNat)) ++ sj19) true _ A21.out).mono ?_);rintro e w' ⟨rfl,⟨nd,rfl⟩⟩;(try first|exact ⟨rfl,_,World.drewN_drewN _ _ _⟩|exact ⟨rfl,_,Eq.trans (World.drewN_drewN _ _ _) (congrArg (World.drewN _) (Nat.add_assoc _ _ _))⟩)))
                  repeat (go_quiet (first|(go_at_call 33;(with_reducible refine (spec_l24Is.calls k2 a0 (((a1.extract 0 (a2 : Int).toNat) ++ ((⟨#[48,49,50,51,52,53,54,55,56,57,88]⟩ : ByteArray).extract (x10_2 : Int).toNat ((wrap64 (x10_2 + 1)) : Int).toNat)) ++ sj19) true _ A21.out).mono ?_);rintro e w' ⟨rfl,⟨nd,rfl⟩⟩;(try first|exact ⟨rfl,_,World.drewN_drewN _ _ _⟩|exact ⟨rfl,_,Eq.trans (World.drewN_drewN _ _ _) (congrArg (World.drewN _) (Nat.add_assoc _ _ _))⟩)));try go_wp2_with (first|(go_at_call 33;(with_reducible refine (spec_l24Is.calls k2 a0 (((a1.extract 0 (a2 : Int).toNat) ++ ((⟨#[48,49,50,51,52,53,54,55,56,57,88]⟩ : ByteArray).extract (x10_2 : Int).toNat ((wrap64 (x10_2 + 1)) : Int).toNat)) ++ sj19) true _ A21.out).mono ?_);rintro e w' ⟨rfl,⟨nd,rfl⟩⟩;(try first|exact ⟨rfl,_,World.drewN_drewN _ _ _⟩|exact ⟨rfl,_,Eq.trans (World.drewN_drewN _ _ _) (congrArg (World.drewN _) (Nat.add_assoc _ _ _))⟩))))
                  go_ret2
                  exact ⟨by first|rfl|(simp;done)|(simp [my_isEmpty];done)|(simp only [← hji16,← hsj19] <;> (first|rfl|simp))|(simp [*];done),by repeat (first|exact Drawn0.refl _|apply Drawn0.step)⟩
                ·replace c22 := Bool.eq_false_iff.mpr c22
                 subst c22
                 have H1 : (spec_RepairDigit.l0 k2 a0 a1 a2 x8_2 (wrap64 (x10_2 + 1))) = some (r1,r2) := by rw [if_neg (show ¬ (false = true) by decide)] at H;exact H
                 clear H
                 have H := H1
                 clear H1
                 have H' := Aside0.mk H
                 clear H
                 go_wp2_with (first|(go_at_call 33;(with_reducible refine (spec_l24Is.calls k2 a0 (((a1.extract 0 (a2 : Int).toNat) ++ ((⟨#[48,49,50,51,52,53,54,55,56,57,88]⟩ : ByteArray).extract (x10_2 : Int).toNat ((wrap64 (x10_2 + 1)) : Int).toNat)) ++ sj19) false _ A21.out).mono ?_);rintro e w' ⟨rfl,⟨nd,rfl⟩⟩;(try first|exact ⟨rfl,_,World.drewN_drewN _ _ _⟩|exact ⟨rfl,_,Eq.trans (World.drewN_drewN _ _ _) (congrArg (World.drewN _) (Nat.add_assoc _ _ _))⟩)))
                 repeat (go_quiet (first|(go_at_call 33;(with_reducible refine (spec_l24Is.calls k2 a0 (((a1.extract 0 (a2 : Int).toNat) ++ ((⟨#[48,49,50,51,52,53,54,55,56,57,88]⟩ : ByteArray).extract (x10_2 : Int).toNat ((wrap64 (x10_2 + 1)) : Int).toNat)) ++ sj19) false _ A21.out).mono ?_);rintro e w' ⟨rfl,⟨nd,rfl⟩⟩;(try first|exact ⟨rfl,_,World.drewN_drewN _ _ _⟩|exact ⟨rfl,_,Eq.trans (World.drewN_drewN _ _ _) (congrArg (World.drewN _) (Nat.add_assoc _ _ _))⟩)));try go_wp2_with (first|(go_at_call 33;(with_reducible refine (spec_l24Is.calls k2 a0 (((a1.extract 0 (a2 : Int).toNat) ++ ((⟨#[48,49,50,51,52,53,54,55,56,57,88]⟩ : ByteArray).extract (x10_2 : Int).toNat ((wrap64 (x10_2 + 1)) : Int).toNat)) ++ sj19) false _ A21.out).mono ?_);rintro e w' ⟨rfl,⟨nd,rfl⟩⟩;(try first|exact ⟨rfl,_,World.drewN_drewN _ _ _⟩|exact ⟨rfl,_,Eq.trans (World.drewN_drewN _ _ _) (congrArg (World.drewN _) (Nat.add_assoc _ _ _))⟩))))
                 go_roundg k2
                 case measure => have := HJ3.out;have := HK2.out;omega
                 case rel => exact ⟨(x8_2),(wrap64 (x10_2 + 1)),(by first|rfl|(simp;done)|(simp [my_isEmpty];done)|(simp [*];done)),(by first|rfl|(simp;done)|(simp [my_isEmpty];done)|(simp [*];done)),H',⟨by have := HJ3.out;have := HK2.out;omega⟩,by repeat (first|exact Drawn0.refl _|apply Drawn0.step)⟩
               ·rw [if_neg c20] at H
                exact absurd H (by simp)
              ·rw [if_neg c18] at H
               exact absurd H (by simp)
             ·rw [if_neg c17] at H
              exact absurd H (by simp)
            ·rw [if_neg c15] at H
             exact absurd H (by simp)
           ·rw [if_neg c14] at H
            exact absurd H (by simp)
          ·rw [if_neg c13] at H
           exact absurd H (by simp)
         ·rw [if_neg c12] at H
          exact absurd H (by simp)
        ·rw [if_neg c11] at H
         exact absurd H (by simp)
       ·rw [if_neg c10] at H
        exact absurd H (by simp)
      ·rw [if_neg c9] at H
       have c9b0 : decide (x10_2 < 11) = false := decide_eq_false c9
       clear c9
       simp only [Option.some.injEq,Prod.mk.injEq] at H
       obtain ⟨rfl,rfl⟩ := H
       go_wp2
       repeat (go_quiet (fail);try go_wp2)
       go_ret2
       exact ⟨by first|rfl|(simp;done)|(simp [my_isEmpty];done)|(simp [*];done),by repeat (first|exact Drawn0.refl _|apply Drawn0.step)⟩
def swapAt (s : ByteArray) (i : Nat) : ByteArray := strOfNums (((bytesOf s).set i (bt s ((i + 1 : Nat) : Int))).set (i + 1) (bt s (i : Int)))
def impl_SwapsOf.l0 : Nat → Int → ByteArray → List Int → Nat → Option (List Int × Bool)
 | 0,_,_,_,_ => none
 | k + 1,a0,s,out,i => if i + 1 < s.size then (impl_isIdentifier.f k a0 (swapAt s i)).bind fun t => (if t = true then (if out.length < 17592186044416 then impl_SwapsOf.l0 k a0 s (out ++ [(i : Int)]) (i + 1) else none) else impl_SwapsOf.l0 k a0 s out (i + 1)) else some (out,true)
def impl_SwapsOf.f (k : Nat) (a0 : Int) (a1 : ByteArray) : Option (List Int × Bool) :=
 if a1.size ≤ 140737488351232 then ((impl_isIdKind.f a0).bind fun b => if b = true then ((impl_isIdText.f k a0 a1).bind fun t => (if t = true then impl_SwapsOf.l0 k a0 a1 [] 0 else some ([],false))) else some ([],false)) else none
theorem impl_SwapsOf.mono_l : ∀ k,(∀ y0 y1 y2 y3,LeO (impl_SwapsOf.l0 k y0 y1 y2 y3) (impl_SwapsOf.l0 (k + 1) y0 y1 y2 y3))
 | 0 => fun _ _ _ _ r h => by simp [impl_SwapsOf.l0] at h
 | k + 1 => by
  have ih0 := impl_SwapsOf.mono_l k
  intro y0 y1 y2 y3
  unfold impl_SwapsOf.l0
  repeat' first
   | (with_reducible exact ih0 _ _ _ _)
   | (with_reducible exact impl_isIdentifier.mono _ _ _)
   | (with_reducible exact LeO.refl _)
   | (with_reducible exact LeO.none _)
   | (with_reducible refine LeO.ite ?_ ?_)
   | (with_reducible refine LeO.bind ?_ (fun _ => ?_))
theorem impl_SwapsOf.mono : ∀ a0 a1 k,LeO (impl_SwapsOf.f k a0 a1) (impl_SwapsOf.f (k + 1) a0 a1) := by
 intro a0 a1 k
 have ih0 := impl_SwapsOf.mono_l k
 unfold impl_SwapsOf.f
 repeat' first
   | (with_reducible exact ih0 _ _ _ _)
   | (with_reducible exact impl_isIdText.mono _ _ _)
   | (with_reducible exact LeO.refl _)
   | (with_reducible exact LeO.none _)
   | (with_reducible refine LeO.ite ?_ ?_)
   | (with_reducible refine LeO.bind ?_ (fun _ => ?_))
set_option maxHeartbeats 8000000 in
set_option maxRecDepth 100000 in
theorem impl_SwapsOf.calls (k : Nat) (a0 : Int) (a1 : ByteArray) (r1 : List Int) (r2 : Bool) (w : World) (h : impl_SwapsOf.f k a0 a1 = some (r1,r2)) :
  Calls Tryd.prog 30 #[.int .i64 a0,.string a1] w fun e w' => ∃ v0_ : Value,e = .returned (.tuple #[v0_,.bool r2]) ∧ Kd.R (Kd.int .i64) 3 w' w.heap.size (fun _ => True) v0_ r1 ∧ Below w.heap.size w w' := by
 have HB := Aside0.mk (Below.refl w.heap.size w)
 unfold impl_SwapsOf.f at h
 by_cases hs : a1.size ≤ 140737488351232
 case neg => rw [if_neg hs] at h;cases h
 rw [if_pos hs] at h
 have HS := Aside0.mk hs
 clear hs
 obtain ⟨b,hb,h⟩ := Option.bind_eq_some_iff.1 h
 have A1 := Aside0.mk hb
 clear hb
 cases b with
 | false =>
  rw [if_neg Bool.false_ne_true] at h
  simp only [Option.some.injEq,Prod.mk.injEq] at h
  obtain ⟨rfl,rfl⟩ := h
  go_enter Tryd.func30,Tryd.ntmps30
  go_wp2_with (first|(go_at_call 39;(with_reducible refine (impl_isIdKind.calls a0 false _ A1.out).mono ?_);rintro e w' ⟨rfl,⟨nd,rfl⟩⟩))
  go_ret2
  exact ⟨_,rfl,Kd.R_nil _ _ _ _ _,lN HB.out _⟩
 | true =>
  rw [if_pos rfl] at h
  obtain ⟨t,ht,h⟩ := Option.bind_eq_some_iff.1 h
  have A2 := Aside0.mk ht
  clear ht
  cases t with
  | false =>
   rw [if_neg Bool.false_ne_true] at h
   simp only [Option.some.injEq,Prod.mk.injEq] at h
   obtain ⟨rfl,rfl⟩ := h
   go_enter Tryd.func30,Tryd.ntmps30
   go_wp2_with (first|(go_at_call 39;(with_reducible refine (impl_isIdKind.calls a0 true _ A1.out).mono ?_);rintro e w' ⟨rfl,⟨nd,rfl⟩⟩)|(go_at_call 53;(with_reducible refine (impl_isIdText.calls k a0 a1 false _ A2.out).mono ?_);rintro e w' ⟨rfl,⟨nd2,rfl⟩⟩))
   go_ret2
   exact ⟨_,rfl,Kd.R_nil _ _ _ _ _,by repeat (first|(with_reducible first|exact HB.out|apply lN|apply lD)|exact HB.out)⟩
  | true =>
   rw [if_pos rfl] at h
   have H' := Aside0.mk h
   clear h
   go_enter Tryd.func30,Tryd.ntmps30
   go_wp2_with (first
    | ((with_reducible refine gate_dst (N := 18) rfl ?_);refine Kd.R_lit (Kd.int .i64) _ 3 ?hg (N := 18) ?hd (xs := ([] : List Int)) (inner := []) (ok := fun _ => True) (okp := fun _ => True) ?hr ?hp (fun _ hk => hk) trivial (Below.refl _ _) (Nat.le_refl _) (by simp) ?_;(case hd => rfl);(case hg => rfl);(case hr => first|(go_simp;done)|(go_simp;rfl));(case hp => exact (Reps.none _ _));intro v1 w5 ho6 hb hg_ hnew_;clear hg_ hnew_;have n0_ := Aside0.mk (Kd.R_lower ho6 (below_size (by repeat (first|(with_reducible first|exact HB.out|apply lA|apply lN|apply lD)|exact HB.out))));have n1_ := Aside0.mk (below_step (by repeat (first|(with_reducible first|exact HB.out|apply lA|apply lN|apply lD)|exact HB.out)) hb);clear HB;have HO := n0_;have HB := n1_;clear n0_ n1_;clear hb ho6)
    | (go_at_call 39;(with_reducible refine (impl_isIdKind.calls a0 true _ A1.out).mono ?_);rintro e w' ⟨rfl,⟨nd,rfl⟩⟩)
    | (go_at_call 53;(with_reducible refine (impl_isIdText.calls k a0 a1 true _ A2.out).mono ?_);rintro e w' ⟨rfl,⟨nd2,rfl⟩⟩))
   go_loopg [6,7,8] k (fun kq v6 v7 v8 w' => ∃ (xs : List Int) (i : Nat),v7 = .int .i64 i ∧ Aside0 (impl_SwapsOf.l0 kq a0 a1 xs i = some (r1,r2)) ∧ Aside0 (kq ≤ k) ∧ Aside0 (i ≤ a1.size) ∧ Aside0 (Kd.R (Kd.int .i64) 3 w' w.heap.size (fun _ => True) v6 xs) ∧ Aside0 (Below w.heap.size w w'))
   case atStart => exact ⟨[],0,rfl,H',⟨Nat.le_refl _⟩,⟨Nat.zero_le _⟩,⟨by (with_reducible repeat (first|apply Kd.R_alloc|apply Kd.R_drewN|apply Kd.R_drew));exact HO.out⟩,⟨by repeat (first|(with_reducible first|exact HB.out|apply lA|apply lN|apply lD)|exact HB.out)⟩⟩
   case round =>
    clear H'
    try clear HO HB
    obtain ⟨xs,i,rfl,HA,HK1,HI1,HO,HB⟩ := hrel
    cases gk with
    | zero => exact absurd HA.out (by simp [impl_SwapsOf.l0])
    | succ k1 =>
     have H := HA.out
     clear HA
     rw [impl_SwapsOf.l0] at H
     have hsz : (a1.size : Int) ≤ 140737488351232 := by have := HS.out;omega
     by_cases hlt : i + 1 < a1.size
     ·rw [if_pos hlt] at H
      have hlt' : (i : Int) + 1 < (a1.size : Int) := by omega
      obtain ⟨t,A30,H⟩ := Option.bind_eq_some_iff.1 H
      have A3 := Aside0.mk A30
      have HLT := Aside0.mk hlt
      clear A30
      obtain ⟨g,cap,W1,hcv,HR0⟩ := conv_ex (P := Tryd.prog) wr 9 29 5 a1 Tryd.underlying9 Tryd.underlying29 Tryd.underlying5
      have hc0 := HR0.cell i (by rw [bytesOf_length];omega)
      have hc1 := HR0.cell (i + 1) (by rw [bytesOf_length];omega)
      have hf0 := HR0.free i (by rw [bytesOf_length];omega)
      have hf1 := HR0.free (i + 1) (by rw [bytesOf_length];omega)
      have HR := Aside0.mk HR0
      clear HR0
      clear hlt
      have H' := Aside0.mk H
      clear H
      go_wp2
      have hi0 : 0 ≤ (i : Int) := by omega
      have hi1 : (i : Int) < (a1.size : Int) := by omega
      have hw1 : IntKind.i64.wrap ((i : Int) + 1) = (i : Int) + 1 := IntWalk.i64_in _ (by omega)
      have h01 : 0 ≤ (i : Int) + 1 := by omega
      have hn1 : ((i : Int) + 1).toNat = i + 1 := by omega
      go_region
      have hb1 : (a1[i + 1].toNat : Int) = bt a1 ((i + 1 : Nat) : Int) := by
       unfold bt
       rw [dif_pos (by omega)]
       rfl
      have hb0 : (a1[i].toNat : Int) = bt a1 (i : Int) := by
       unfold bt
       rw [dif_pos (by omega)]
       rfl
      rw [hb1,hb0]
      have hset := (((HR.out.set i (bt a1 ((i + 1 : Nat) : Int))).set (i + 1) (bt a1 (i : Int))).drewN 1)
      obtain ⟨W2,hW2⟩ : ∃ W2,W2 = ((W1.setCell ⟨g,i,none⟩ (.int .u8 (bt a1 ((i + 1 : Nat) : Int)))).setCell ⟨g,i + 1,none⟩ (.int .u8 (bt a1 (i : Int)))).drew := ⟨_,rfl⟩
      have hset2 : BRow wr W2 g (((bytesOf a1).set i (bt a1 ((i + 1 : Nat) : Int))).set (i + 1) (bt a1 (i : Int))) := by rw [hW2];exact hset
      rw [← hW2]
      have ht := hset2.text 29 5 9 Tryd.underlying29 Tryd.underlying5 Tryd.underlying9 a1.size cap (by rw [List.length_set,List.length_set,bytesOf_length])
      replace ht : (convert 29 9 (.slice (some ⟨g,0,none⟩) a1.size cap)).run Tryd.prog W2 = .ok (.string (swapAt a1 i)) W2 := ht
      have HO2 := Aside0.mk (Kd.R_below HO.out hset2.below)
      have HB2 := Aside0.mk (below_step HB.out hset2.below)
      clear hset hset2 hW2 hb1 hb0 hcv hc0 hc1 hf0 hf1 hw1 h01 hn1 HO HB
      cases t with
      | true =>
       replace H' := H'.out
       rw [if_pos rfl] at H'
       by_cases hlen : xs.length < 17592186044416
       ·rw [if_pos hlen] at H'
        have H := Aside0.mk H'
        have HLEN := Aside0.mk hlen
        clear H' hlen
        go_wp2_with (first
         | (go_at_call 35;(with_reducible refine (impl_isIdentifier.calls k1 a0 (swapAt a1 i) true _ A3.out).mono ?_);rintro e w' ⟨rfl,⟨nd,rfl⟩⟩)
         | ((with_reducible refine gate_builtin (b := .append) (xs := #[.tmp 46,.tmp 48]) rfl ?_);at_builtin;refine Kd.R_append (Kd.int .i64) (w0 := w) w.heap.size rfl (.tmp 46) (.tmp 48) 39 3 (.int .i64 0) 8 rfl Tryd.underlying39 info3 rfl (by decide) (by omega) u6 xs (i : Int) [.int .i64 (i : Int)] (fun _ => True) (fun _ => False) rfl rfl ?aP (fun _ hk => hk.elim) ?aF ?aO ?aB ?aS ?aL ?_;(case aP => exact rfl);(case aB => exact (by repeat (first|(with_reducible first|exact HB2.out|apply lA|apply lN|apply lD)|exact HB2.out)));(case aF => exact (fun _ _ => trivial));(case aO => exact (by (with_reducible repeat (first|apply Kd.R_alloc|apply Kd.R_drewN|apply Kd.R_drew));exact HO2.out));(case aS => exact (below_size (by repeat (first|(with_reducible first|exact HB2.out|apply lA|apply lN|apply lD)|exact HB2.out))));(case aL => have := HLEN.out;omega);intro v364 w27 ho hb hg hat;have HB3 := Aside0.mk (hb);have HO3 := Aside0.mk (ho);clear ho hb hg hat))
        go_roundg k1
        case measure => have := HK1.out;omega
        case rel => exact ⟨xs ++ [(i : Int)],i + 1,by go_num,H,⟨by have := HK1.out;omega⟩,⟨by have := HLT.out;omega⟩,⟨HO3.out⟩,⟨HB3.out⟩⟩
       ·rw [if_neg hlen] at H'
        cases H'
      | false =>
       replace H' := H'.out
       rw [if_neg Bool.false_ne_true] at H'
       have H := Aside0.mk H'
       clear H'
       go_wp2_with (first
        | (go_at_call 35;(with_reducible refine (impl_isIdentifier.calls k1 a0 (swapAt a1 i) false _ A3.out).mono ?_);rintro e w' ⟨rfl,⟨nd,rfl⟩⟩))
       go_roundg k1
       case measure => have := HK1.out;omega
       case rel => exact ⟨xs,i + 1,by go_num,H,⟨by have := HK1.out;omega⟩,⟨by have := HLT.out;omega⟩,⟨by (with_reducible repeat (first|apply Kd.R_alloc|apply Kd.R_drewN|apply Kd.R_drew));exact HO2.out⟩,⟨by repeat (first|(with_reducible first|exact HB2.out|apply lA|apply lN|apply lD)|exact HB2.out)⟩⟩
     ·rw [if_neg hlt] at H
      have hlt2 : ¬ ((i : Int) + 1 < (a1.size : Int)) := by omega
      have hlt3 : decide ((i : Int) + 1 < (a1.size : Int)) = false := decide_eq_false hlt2
      simp only [Option.some.injEq,Prod.mk.injEq] at H
      obtain ⟨rfl,rfl⟩ := H
      have hmax : (i : Int) ≤ 140737488351232 := by have := HI1.out;omega
      clear hlt hlt2
      go_wp2
      go_ret2
      exact ⟨_,rfl,HO.out,HB.out⟩
def spec_SwapsOf.l0 : Nat → Int → ByteArray → List Int → Int → Option (List Int × Bool)
 | 0,_,_,_,_ => none
 | k + 1,x0,x1,x6,x7 => if (wrap64 (x7 + 1)) < (x1.size : Int) then (if 0 ≤ x7 then (if x7 ≤ (x1.size : Int) then (if 0 ≤ (wrap64 (x7 + 1)) then (if (wrap64 (x7 + 1)) ≤ (wrap64 (x7 + 2)) then (if (wrap64 (x7 + 2)) ≤ (x1.size : Int) then (if (x1.extract 0 (x7 : Int).toNat).size + (x1.extract ((wrap64 (x7 + 1)) : Int).toNat ((wrap64 (x7 + 2)) : Int).toNat).size ≤ 9223372036854775807 then (if x7 ≤ (wrap64 (x7 + 1)) then (if (wrap64 (x7 + 1)) ≤ (x1.size : Int) then (if ((x1.extract 0 (x7 : Int).toNat) ++ (x1.extract ((wrap64 (x7 + 1)) : Int).toNat ((wrap64 (x7 + 2)) : Int).toNat)).size + (x1.extract (x7 : Int).toNat ((wrap64 (x7 + 1)) : Int).toNat).size ≤ 9223372036854775807 then (if 0 ≤ (wrap64 (x7 + 2)) then (if (((x1.extract 0 (x7 : Int).toNat) ++ (x1.extract ((wrap64 (x7 + 1)) : Int).toNat ((wrap64 (x7 + 2)) : Int).toNat)) ++ (x1.extract (x7 : Int).toNat ((wrap64 (x7 + 1)) : Int).toNat)).size + (x1.extract ((wrap64 (x7 + 2)) : Int).toNat x1.size).size ≤ 9223372036854775807 then ((spec_l24Is.f k x0 ((((x1.extract 0 (x7 : Int).toNat) ++ (x1.extract ((wrap64 (x7 + 1)) : Int).toNat ((wrap64 (x7 + 2)) : Int).toNat)) ++ (x1.extract (x7 : Int).toNat ((wrap64 (x7 + 1)) : Int).toNat)) ++ (x1.extract ((wrap64 (x7 + 2)) : Int).toNat x1.size))).bind fun t286 => (if t286 = true then (if x6.length < 17592186044416 then (spec_SwapsOf.l0 k x0 x1 (x6 ++ [x7]) (wrap64 (x7 + 1))) else (none)) else (spec_SwapsOf.l0 k x0 x1 x6 (wrap64 (x7 + 1))))) else (none)) else (none)) else (none)) else (none)) else (none)) else (none)) else (none)) else (none)) else (none)) else (none)) else (none)) else (some (x6,true))
def spec_SwapsOf.f (k : Nat) (a0 : Int) (a1 : ByteArray) : Option (List Int × Bool) := (some (([] : List Int) : List Int)).bind fun y282 => ((spec_l24Form.f k a0 a1).bind fun t285 => (if t285 = true then (spec_SwapsOf.l0 k a0 a1 y282 0) else (some (y282,false))))
theorem spec_SwapsOf.mono_l : ∀ k,(∀ y0 y1 y2 y3,LeO (spec_SwapsOf.l0 k y0 y1 y2 y3) (spec_SwapsOf.l0 (k + 1) y0 y1 y2 y3))
 | 0 => fun _ _ _ _ r h => by simp [spec_SwapsOf.l0] at h
 | k + 1 => by
  have ih0 := spec_SwapsOf.mono_l k
  ·intro y0 y1 y2 y3
   unfold spec_SwapsOf.l0
   repeat' first
   | (with_reducible exact ih0 _ _ _ _)
   | (with_reducible exact spec_l24Form.mono _ _ _)
   | (with_reducible exact spec_l24Is.mono _ _ _)
   | (with_reducible exact LeO.refl _)
   | (with_reducible exact LeO.none _)
   | (with_reducible refine LeO.ite ?_ ?_)
   | (with_reducible refine LeO.bind ?_ (fun _ => ?_))
   | exact ih0 _ _ _ _
   | exact spec_l24Form.mono _ _ _
   | exact spec_l24Is.mono _ _ _
   | exact LeO.none _
   | refine LeO.ite ?_ ?_
   | refine LeO.bind ?_ (fun _ => ?_)
theorem spec_SwapsOf.mono : ∀ a0 a1 k,LeO (spec_SwapsOf.f k a0 a1) (spec_SwapsOf.f (k + 1) a0 a1) := by
 intro a0 a1 k
 have ih0 := spec_SwapsOf.mono_l k
 unfold spec_SwapsOf.f
 repeat' first
   | (with_reducible exact ih0 _ _ _ _)
   | (with_reducible exact spec_l24Form.mono _ _ _)
   | (with_reducible exact spec_l24Is.mono _ _ _)
   | (with_reducible exact LeO.refl _)
   | (with_reducible exact LeO.none _)
   | (with_reducible refine LeO.ite ?_ ?_)
   | (with_reducible refine LeO.bind ?_ (fun _ => ?_))
   | exact ih0 _ _ _ _
   | exact spec_l24Form.mono _ _ _
   | exact spec_l24Is.mono _ _ _
   | exact LeO.none _
   | refine LeO.ite ?_ ?_
   | refine LeO.bind ?_ (fun _ => ?_)
set_option maxHeartbeats 8000000 in
set_option maxRecDepth 100000 in
theorem spec_SwapsOf.calls (k : Nat) (a0 : Int) (a1 : ByteArray) (r1 : List Int) (r2 : Bool) (w : World) (h : spec_SwapsOf.f k a0 a1 = some (r1,r2)) :
  Calls Tryd.prog 31 #[.int .i64 a0,.string a1] w fun e w' => ∃ v0_ : Value,e = .returned (.tuple #[v0_,.bool r2]) ∧ Kd.R (Kd.int .i64) 3 w' w.heap.size (fun _ => True) v0_ r1 ∧ Below w.heap.size w w' := by
 have HB := Aside0.mk (Below.refl w.heap.size w)
 have H : ((some (([] : List Int) : List Int)).bind fun y282 => ((spec_l24Form.f k a0 a1).bind fun t285 => (if t285 = true then (spec_SwapsOf.l0 k a0 a1 y282 0) else (some (y282,false))))) = some (r1,r2) := h
 clear h
 obtain ⟨y282,hy282⟩ : ∃ y_ : List Int,y_ = (([] : List Int)) := ⟨_,rfl⟩
 replace H : ((spec_l24Form.f k a0 a1).bind fun t285 => (if t285 = true then (spec_SwapsOf.l0 k a0 a1 y282 0) else (some (y282,false)))) = some (r1,r2) := by first|(rw [hy282];with_reducible exact H)|(have H2_ := (Option.bind_some _ _).symm.trans H;rw [hy282];with_reducible exact H2_)|(have H2_ := (Option.bind_some _ _).symm.trans H;with_reducible exact H2_)|with_reducible exact H|(rw [hy282];exact H)|exact H
 have Ny282 := Aside0.mk hy282
 clear hy282
 replace H := Option.bind_eq_some_iff.mp H
 obtain ⟨t285,A30,H⟩ := H
 replace H : (if t285 = true then (spec_SwapsOf.l0 k a0 a1 y282 0) else (some (y282,false))) = some (r1,r2) := H
 have A3 := Aside0.mk A30
 clear A30
 by_cases c4 : t285 = true
 ·subst c4
  have H1 : (spec_SwapsOf.l0 k a0 a1 y282 0) = some (r1,r2) := by rw [if_pos rfl] at H;exact H
  clear H
  have H := H1
  clear H1
  have H' := Aside0.mk H
  clear H
  go_enter Tryd.func31,Tryd.ntmps31
  go_wp2_with (first|((with_reducible refine gate_dst (N := 8) rfl ?_);refine Kd.R_lit (Kd.int .i64) _ 3 ?hg (N := 8) ?hd (xs := ([] : List Int)) (inner := []) (ok := fun _ => True) (okp := fun _ => True) ?hr ?hp (fun _ hk => hk) trivial (Below.refl _ _) (Nat.le_refl _) (by simp) ?_;(case hd => rfl);(case hg => rfl);(case hr => first|(go_simp;done)|(go_simp;rfl));(case hp => exact (Reps.none _ _));intro v283 w5 ho6 hb hg_ hnew_;clear hg_ hnew_;(first|rw [← Ny282.out] at ho6|(simp only [Int.reduceToNat] at ho6;rw [← Ny282.out] at ho6));have n0_ := Aside0.mk (Kd.R_lower ho6 (below_size (by repeat (first|(with_reducible first|exact HB.out|apply lA|apply lN|apply lD)|exact HB.out))));have n1_ := Aside0.mk (below_step (by repeat (first|(with_reducible first|exact HB.out|apply lA|apply lN|apply lD)|exact HB.out)) hb);clear HB;have HO284 := n0_;have HB := n1_;clear n0_ n1_;clear hb ho6)|(go_at_call 57;(with_reducible refine (spec_l24Form.calls k a0 a1 true _ A3.out).mono ?_);rintro e w' ⟨rfl,⟨nd,rfl⟩⟩;(try first|exact ⟨rfl,_,World.drewN_drewN _ _ _⟩|exact ⟨rfl,_,Eq.trans (World.drewN_drewN _ _ _) (congrArg (World.drewN _) (Nat.add_assoc _ _ _))⟩)))
  repeat (go_quiet (first|((with_reducible refine gate_dst (N := 8) rfl ?_);refine Kd.R_lit (Kd.int .i64) _ 3 ?hg (N := 8) ?hd (xs := ([] : List Int)) (inner := []) (ok := fun _ => True) (okp := fun _ => True) ?hr ?hp (fun _ hk => hk) trivial (Below.refl _ _) (Nat.le_refl _) (by simp) ?_;(case hd => rfl);(case hg => rfl);(case hr => first|(go_simp;done)|(go_simp;rfl));(case hp => exact (Reps.none _ _));intro v283 w5 ho6 hb hg_ hnew_;clear hg_ hnew_;(first|rw [← Ny282.out] at ho6|(simp only [Int.reduceToNat] at ho6;rw [← Ny282.out] at ho6));have n0_ := Aside0.mk (Kd.R_lower ho6 (below_size (by repeat (first|(with_reducible first|exact HB.out|apply lA|apply lN|apply lD)|exact HB.out))));have n1_ := Aside0.mk (below_step (by repeat (first|(with_reducible first|exact HB.out|apply lA|apply lN|apply lD)|exact HB.out)) hb);clear HB;have HO284 := n0_;have HB := n1_;clear n0_ n1_;clear hb ho6)|(go_at_call 57;(with_reducible refine (spec_l24Form.calls k a0 a1 true _ A3.out).mono ?_);rintro e w' ⟨rfl,⟨nd,rfl⟩⟩;(try first|exact ⟨rfl,_,World.drewN_drewN _ _ _⟩|exact ⟨rfl,_,Eq.trans (World.drewN_drewN _ _ _) (congrArg (World.drewN _) (Nat.add_assoc _ _ _))⟩)));try go_wp2_with (first|((with_reducible refine gate_dst (N := 8) rfl ?_);refine Kd.R_lit (Kd.int .i64) _ 3 ?hg (N := 8) ?hd (xs := ([] : List Int)) (inner := []) (ok := fun _ => True) (okp := fun _ => True) ?hr ?hp (fun _ hk => hk) trivial (Below.refl _ _) (Nat.le_refl _) (by simp) ?_;(case hd => rfl);(case hg => rfl);(case hr => first|(go_simp;done)|(go_simp;rfl));(case hp => exact (Reps.none _ _));intro v283 w5 ho6 hb hg_ hnew_;clear hg_ hnew_;(first|rw [← Ny282.out] at ho6|(simp only [Int.reduceToNat] at ho6;rw [← Ny282.out] at ho6));have n0_ := Aside0.mk (Kd.R_lower ho6 (below_size (by repeat (first|(with_reducible first|exact HB.out|apply lA|apply lN|apply lD)|exact HB.out))));have n1_ := Aside0.mk (below_step (by repeat (first|(with_reducible first|exact HB.out|apply lA|apply lN|apply lD)|exact HB.out)) hb);clear HB;have HO284 := n0_;have HB := n1_;clear n0_ n1_;clear hb ho6)|(go_at_call 57;(with_reducible refine (spec_l24Form.calls k a0 a1 true _ A3.out).mono ?_);rintro e w' ⟨rfl,⟨nd,rfl⟩⟩;(try first|exact ⟨rfl,_,World.drewN_drewN _ _ _⟩|exact ⟨rfl,_,Eq.trans (World.drewN_drewN _ _ _) (congrArg (World.drewN _) (Nat.add_assoc _ _ _))⟩))))
  go_loopg [6,7] k (fun kq v6 v7 w' => ∃ (x6_1 : List Int) (x7_1 : Int),v7 = .int .i64 x7_1 ∧ Aside0 (spec_SwapsOf.l0 kq a0 a1 x6_1 x7_1 = some (r1,r2)) ∧ Aside0 (kq ≤ k) ∧ Aside0 (Kd.R (Kd.int .i64) 3 w' w.heap.size (fun _ => True) v6 x6_1) ∧ Aside0 (Below w.heap.size w w'))
  case atStart => exact ⟨(y282),(0),(by first|rfl|(simp;done)|(simp [my_isEmpty];done)|(simp [*];done)),H',⟨Nat.le_refl _⟩,⟨by (with_reducible repeat (first|apply Kd.R_alloc|apply Kd.R_drewN|apply Kd.R_drew));exact HO284.out⟩,⟨by repeat (first|(with_reducible first|exact HB.out|apply lA|apply lN|apply lD)|exact HB.out)⟩⟩
  case round =>
   clear H'
   try clear p2
   try clear c3
   try clear c4
   obtain ⟨x6_1,x7_1,rfl,HA,HK1,HO_6,HB⟩ := hrel
   cases gk with
   | zero => exact absurd HA.out (by simp [spec_SwapsOf.l0])
   | succ k1 =>
    have H := HA.out
    clear HA
    simp only [spec_SwapsOf.l0] at H
    by_cases c7 : (wrap64 (x7_1 + 1)) < (a1.size : Int)
    ·rw [if_pos c7] at H
     have c7b0 : decide ((wrap64 (x7_1 + 1)) < (a1.size : Int)) = true := decide_eq_true c7
     clear c7
     by_cases c8 : 0 ≤ x7_1
     ·rw [if_pos c8] at H
      have c8b0 := eq_true c8
      have c8b1 : decide (0 ≤ x7_1) = true := decide_eq_true c8
      clear c8
      by_cases c9 : x7_1 ≤ (a1.size : Int)
      ·rw [if_pos c9] at H
       have c9b0 := eq_true c9
       have c9b1 : decide (x7_1 ≤ (a1.size : Int)) = true := decide_eq_true c9
       clear c9
       obtain ⟨ji10,hji10⟩ : ∃ j_ : Int,(wrap64 (x7_1 + 1)) = j_ := ⟨_,rfl⟩
       replace H : (if 0 ≤ (ji10) then (if (ji10) ≤ (wrap64 (x7_1 + 2)) then (if (wrap64 (x7_1 + 2)) ≤ (a1.size : Int) then (if (a1.extract 0 (x7_1 : Int).toNat).size + (a1.extract ((ji10) : Int).toNat ((wrap64 (x7_1 + 2)) : Int).toNat).size ≤ 9223372036854775807 then (if x7_1 ≤ (ji10) then (if (ji10) ≤ (a1.size : Int) then (if ((a1.extract 0 (x7_1 : Int).toNat) ++ (a1.extract ((ji10) : Int).toNat ((wrap64 (x7_1 + 2)) : Int).toNat)).size + (a1.extract (x7_1 : Int).toNat ((ji10) : Int).toNat).size ≤ 9223372036854775807 then (if 0 ≤ (wrap64 (x7_1 + 2)) then (if (((a1.extract 0 (x7_1 : Int).toNat) ++ (a1.extract ((ji10) : Int).toNat ((wrap64 (x7_1 + 2)) : Int).toNat)) ++ (a1.extract (x7_1 : Int).toNat ((ji10) : Int).toNat)).size + (a1.extract ((wrap64 (x7_1 + 2)) : Int).toNat a1.size).size ≤ 9223372036854775807 then ((spec_l24Is.f k1 a0 ((((a1.extract 0 (x7_1 : Int).toNat) ++ (a1.extract ((ji10) : Int).toNat ((wrap64 (x7_1 + 2)) : Int).toNat)) ++ (a1.extract (x7_1 : Int).toNat ((ji10) : Int).toNat)) ++ (a1.extract ((wrap64 (x7_1 + 2)) : Int).toNat a1.size))).bind fun t286 => (if t286 = true then (if x6_1.length < 17592186044416 then (spec_SwapsOf.l0 k1 a0 a1 (x6_1 ++ [x7_1]) ji10) else (none)) else (spec_SwapsOf.l0 k1 a0 a1 x6_1 ji10))) else (none)) else (none)) else (none)) else (none)) else (none)) else (none)) else (none)) else (none)) else (none)) = some (r1,r2) := by first|(rw [hji10] at H;exact H)|(simp only [hji10] at H ⊢;exact H)
       (try rw [hji10] at c7b0)
       have hji10w : (IntKind.i64.wrap (x7_1 + 1)) = ji10 := (i64_w _).trans hji10
       by_cases c11 : 0 ≤ (ji10)
       ·rw [if_pos c11] at H
        have c11b0 := eq_true c11
        have c11b1 : decide (0 ≤ (ji10)) = true := decide_eq_true c11
        clear c11
        by_cases c12 : (ji10) ≤ (wrap64 (x7_1 + 2))
        ·rw [if_pos c12] at H
         have c12b0 := eq_true c12
         have c12b1 : decide ((ji10) ≤ (wrap64 (x7_1 + 2))) = true := decide_eq_true c12
         by_cases c13 : (wrap64 (x7_1 + 2)) ≤ (a1.size : Int)
         ·rw [if_pos c13] at H
          have c13b0 := eq_true c13
          have c13b1 : decide ((wrap64 (x7_1 + 2)) ≤ (a1.size : Int)) = true := decide_eq_true c13
          obtain ⟨sj14,hsj14⟩ : ∃ s_ : ByteArray,(a1.extract ((wrap64 (x7_1 + 2)) : Int).toNat a1.size) = s_ := ⟨_,rfl⟩
          replace H : (if (a1.extract 0 (x7_1 : Int).toNat).size + (a1.extract ((ji10) : Int).toNat ((wrap64 (x7_1 + 2)) : Int).toNat).size ≤ 9223372036854775807 then (if x7_1 ≤ (ji10) then (if (ji10) ≤ (a1.size : Int) then (if ((a1.extract 0 (x7_1 : Int).toNat) ++ (a1.extract ((ji10) : Int).toNat ((wrap64 (x7_1 + 2)) : Int).toNat)).size + (a1.extract (x7_1 : Int).toNat ((ji10) : Int).toNat).size ≤ 9223372036854775807 then (if 0 ≤ (wrap64 (x7_1 + 2)) then (if (((a1.extract 0 (x7_1 : Int).toNat) ++ (a1.extract ((ji10) : Int).toNat ((wrap64 (x7_1 + 2)) : Int).toNat)) ++ (a1.extract (x7_1 : Int).toNat ((ji10) : Int).toNat)).size + sj14.size ≤ 9223372036854775807 then ((spec_l24Is.f k1 a0 ((((a1.extract 0 (x7_1 : Int).toNat) ++ (a1.extract ((ji10) : Int).toNat ((wrap64 (x7_1 + 2)) : Int).toNat)) ++ (a1.extract (x7_1 : Int).toNat ((ji10) : Int).toNat)) ++ sj14)).bind fun t286 => (if t286 = true then (if x6_1.length < 17592186044416 then (spec_SwapsOf.l0 k1 a0 a1 (x6_1 ++ [x7_1]) ji10) else (none)) else (spec_SwapsOf.l0 k1 a0 a1 x6_1 ji10))) else (none)) else (none)) else (none)) else (none)) else (none)) else (none)) = some (r1,r2) := by (have he_ : (a1.extract ((wrap64 (x7_1 + 2)) : Int).toNat a1.size) = sj14 := hsj14);first|(rw [he_] at H;exact H)|(simp only [he_] at H ⊢;exact H)
          by_cases c15 : (a1.extract 0 (x7_1 : Int).toNat).size + (a1.extract ((ji10) : Int).toNat ((wrap64 (x7_1 + 2)) : Int).toNat).size ≤ 9223372036854775807
          ·rw [if_pos c15] at H
           have c15b0 := eq_true c15
           have c15b1 : decide ((a1.extract 0 (x7_1 : Int).toNat).size + (a1.extract ((ji10) : Int).toNat ((wrap64 (x7_1 + 2)) : Int).toNat).size ≤ 9223372036854775807) = true := decide_eq_true c15
           try have c15b3 : (9223372036854775807 < (a1.extract 0 (x7_1 : Int).toNat).size + ((a1.extract ((ji10) : Int).toNat ((wrap64 (x7_1 + 2)) : Int).toNat).size)) = False := eq_false (by have h_ := c15;simp only [ByteArray.size_append,ByteArray.size_extract] at h_;omega)
           try have c15b4 : (9223372036854775807 < min (x7_1 : Int).toNat a1.size + ((min ((wrap64 (x7_1 + 2)) : Int).toNat a1.size - ((ji10) : Int).toNat))) = False := eq_false (by have h_ := c15;simp only [ByteArray.size_append,ByteArray.size_extract] at h_;omega)
           try have c15b2 : (9223372036854775807 < (a1.extract 0 (x7_1 : Int).toNat).size + (a1.extract ((ji10) : Int).toNat ((wrap64 (x7_1 + 2)) : Int).toNat).size) = False := eq_false (Nat.not_lt.2 c15)
           have c16b0 := eq_true (of_decide_eq_true (by first|(with_reducible assumption)|assumption) : 0 ≤ x7_1)
           by_cases c17 : x7_1 ≤ (ji10)
           ·rw [if_pos c17] at H
            have c17b0 := eq_true c17
            have c17b1 : decide (x7_1 ≤ (ji10)) = true := decide_eq_true c17
            clear c17
            by_cases c18 : (ji10) ≤ (a1.size : Int)
            ·rw [if_pos c18] at H
             have c18b0 := eq_true c18
             have c18b1 : decide ((ji10) ≤ (a1.size : Int)) = true := decide_eq_true c18
             clear c18
             by_cases c19 : ((a1.extract 0 (x7_1 : Int).toNat) ++ (a1.extract ((ji10) : Int).toNat ((wrap64 (x7_1 + 2)) : Int).toNat)).size + (a1.extract (x7_1 : Int).toNat ((ji10) : Int).toNat).size ≤ 9223372036854775807
             ·rw [if_pos c19] at H
              have c19b0 := eq_true c19
              have c19b1 : decide (((a1.extract 0 (x7_1 : Int).toNat) ++ (a1.extract ((ji10) : Int).toNat ((wrap64 (x7_1 + 2)) : Int).toNat)).size + (a1.extract (x7_1 : Int).toNat ((ji10) : Int).toNat).size ≤ 9223372036854775807) = true := decide_eq_true c19
              try have c19b3 : (9223372036854775807 < (a1.extract 0 (x7_1 : Int).toNat).size + ((a1.extract ((ji10) : Int).toNat ((wrap64 (x7_1 + 2)) : Int).toNat).size) + (a1.extract (x7_1 : Int).toNat ((ji10) : Int).toNat).size) = False := eq_false (by have h_ := c19;simp only [ByteArray.size_append,ByteArray.size_extract] at h_;omega)
              try have c19b4 : (9223372036854775807 < min (x7_1 : Int).toNat a1.size + ((min ((wrap64 (x7_1 + 2)) : Int).toNat a1.size - ((ji10) : Int).toNat)) + (min ((ji10) : Int).toNat a1.size - (x7_1 : Int).toNat)) = False := eq_false (by have h_ := c19;simp only [ByteArray.size_append,ByteArray.size_extract] at h_;omega)
              try have c19b2 : (9223372036854775807 < ((a1.extract 0 (x7_1 : Int).toNat) ++ (a1.extract ((ji10) : Int).toNat ((wrap64 (x7_1 + 2)) : Int).toNat)).size + (a1.extract (x7_1 : Int).toNat ((ji10) : Int).toNat).size) = False := eq_false (Nat.not_lt.2 c19)
              obtain ⟨ji20,hji20⟩ : ∃ j_ : Int,(wrap64 (x7_1 + 2)) = j_ := ⟨_,rfl⟩
              (try rw [hji20] at hsj14)
              replace H : (if 0 ≤ (ji20) then (if (((a1.extract 0 (x7_1 : Int).toNat) ++ (a1.extract ((ji10) : Int).toNat ((ji20) : Int).toNat)) ++ (a1.extract (x7_1 : Int).toNat ((ji10) : Int).toNat)).size + sj14.size ≤ 9223372036854775807 then ((spec_l24Is.f k1 a0 ((((a1.extract 0 (x7_1 : Int).toNat) ++ (a1.extract ((ji10) : Int).toNat ((ji20) : Int).toNat)) ++ (a1.extract (x7_1 : Int).toNat ((ji10) : Int).toNat)) ++ sj14)).bind fun t286 => (if t286 = true then (if x6_1.length < 17592186044416 then (spec_SwapsOf.l0 k1 a0 a1 (x6_1 ++ [x7_1]) ji10) else (none)) else (spec_SwapsOf.l0 k1 a0 a1 x6_1 ji10))) else (none)) else (none)) = some (r1,r2) := by first|(rw [hji20] at H;exact H)|(simp only [hji20] at H ⊢;exact H)
              (try rw [hji20] at c12b0)
              (try rw [hji20] at c12b1)
              (try rw [hji20] at c12)
              (try rw [hji20] at c13b0)
              (try rw [hji20] at c13b1)
              (try rw [hji20] at c13)
              (try rw [hji20] at c15b0)
              (try rw [hji20] at c15b1)
              (try rw [hji20] at c15)
              (try rw [hji20] at c19b0)
              (try rw [hji20] at c19b1)
              (try rw [hji20] at c19)
              have hji20w : (IntKind.i64.wrap (x7_1 + 2)) = ji20 := (i64_w _).trans hji20
              by_cases c21 : 0 ≤ (ji20)
              ·rw [if_pos c21] at H
               have c21b0 := eq_true c21
               have c21b1 : decide (0 ≤ (ji20)) = true := decide_eq_true c21
               clear c21
               have c22b0 := eq_true (of_decide_eq_true (by first|(with_reducible assumption)|assumption) : (ji20) ≤ (a1.size : Int))
               by_cases c23 : (((a1.extract 0 (x7_1 : Int).toNat) ++ (a1.extract ((ji10) : Int).toNat ((ji20) : Int).toNat)) ++ (a1.extract (x7_1 : Int).toNat ((ji10) : Int).toNat)).size + sj14.size ≤ 9223372036854775807
               ·rw [if_pos c23] at H
                have c23b0 := eq_true c23
                have c23b1 : decide ((((a1.extract 0 (x7_1 : Int).toNat) ++ (a1.extract ((ji10) : Int).toNat ((ji20) : Int).toNat)) ++ (a1.extract (x7_1 : Int).toNat ((ji10) : Int).toNat)).size + sj14.size ≤ 9223372036854775807) = true := decide_eq_true c23
                try have c23b3 : (9223372036854775807 < (a1.extract 0 (x7_1 : Int).toNat).size + (a1.extract ((ji10) : Int).toNat ((ji20) : Int).toNat).size + (a1.extract (x7_1 : Int).toNat ((ji10) : Int).toNat).size + sj14.size) = False := eq_false (by have h_ := c23;simp only [ByteArray.size_append,ByteArray.size_extract] at h_;omega)
                try have c23b4 : (9223372036854775807 < min (x7_1 : Int).toNat a1.size + (min ((ji20) : Int).toNat a1.size - ((ji10) : Int).toNat) + (min ((ji10) : Int).toNat a1.size - (x7_1 : Int).toNat) + sj14.size) = False := eq_false (by have h_ := c23;simp only [ByteArray.size_append,ByteArray.size_extract] at h_;omega)
                try have c23b2 : (9223372036854775807 < (((a1.extract 0 (x7_1 : Int).toNat) ++ (a1.extract ((ji10) : Int).toNat ((ji20) : Int).toNat)) ++ (a1.extract (x7_1 : Int).toNat ((ji10) : Int).toNat)).size + sj14.size) = False := eq_false (Nat.not_lt.2 c23)
                replace H := Option.bind_eq_some_iff.mp H
                obtain ⟨t286,A240,H⟩ := H
                replace H : (if t286 = true then (if x6_1.length < 17592186044416 then (spec_SwapsOf.l0 k1 a0 a1 (x6_1 ++ [x7_1]) ji10) else (none)) else (spec_SwapsOf.l0 k1 a0 a1 x6_1 ji10)) = some (r1,r2) := H
                have A24 := Aside0.mk A240
                clear A240
                by_cases c25 : t286 = true
                ·subst c25
                 have H1 : (if x6_1.length < 17592186044416 then (spec_SwapsOf.l0 k1 a0 a1 (x6_1 ++ [x7_1]) ji10) else (none)) = some (r1,r2) := by rw [if_pos rfl] at H;exact H
                 clear H
                 have H := H1
                 clear H1
                 by_cases c26 : x6_1.length < 17592186044416
                 ·rw [if_pos c26] at H
                  have LMc26 := Aside0.mk c26
                  clear c26
                  obtain ⟨y287,hy287⟩ : ∃ y_ : List Int,y_ = (x6_1 ++ [x7_1]) := ⟨_,rfl⟩
                  replace H : (spec_SwapsOf.l0 k1 a0 a1 y287 ji10) = some (r1,r2) := by first|(rw [hy287];with_reducible exact H)|(have H2_ := (Option.bind_some _ _).symm.trans H;rw [hy287];with_reducible exact H2_)|(have H2_ := (Option.bind_some _ _).symm.trans H;with_reducible exact H2_)|with_reducible exact H|(rw [hy287];exact H)|exact H
                  have Ny287 := Aside0.mk hy287
                  clear hy287
                  have H' := Aside0.mk H
                  clear H
                  go_wp2_with (first|(go_at_call 33;(with_reducible refine (spec_l24Is.calls k1 a0 ((((a1.extract 0 (x7_1 : Int).toNat) ++ (a1.extract ((ji10) : Int).toNat ((ji20) : Int).toNat)) ++ (a1.extract (x7_1 : Int).toNat ((ji10) : Int).toNat)) ++ sj14) true _ A24.out).mono ?_);rintro e w' ⟨rfl,⟨nd,rfl⟩⟩;(try first|exact ⟨rfl,_,World.drewN_drewN _ _ _⟩|exact ⟨rfl,_,Eq.trans (World.drewN_drewN _ _ _) (congrArg (World.drewN _) (Nat.add_assoc _ _ _))⟩))|((with_reducible refine gate_builtin (b := .append) (xs := #[.tmp 44,.tmp 46]) rfl ?_);at_builtin;refine Kd.R_append (Kd.int .i64) (w0 := w) w.heap.size rfl (.tmp 44) (.tmp 46) 39 3 (.int .i64 0) 8 rfl Tryd.underlying39 info3 rfl (by decide) (by omega) u6 x6_1 x7_1 [.int .i64 x7_1] (fun _ => True) (fun _ => False) rfl rfl ?aP (fun _ hk => hk.elim) ?aF ?aO ?aB ?aS ?aL ?_;(case aP => exact rfl);(case aB => exact (by repeat (first|(with_reducible first|exact HB.out|apply lA|apply lN|apply lD)|exact HB.out)));(case aF => exact (fun _ _ => trivial));(case aO => exact (by (with_reducible repeat (first|apply Kd.R_alloc|apply Kd.R_drewN|apply Kd.R_drew));exact HO_6.out));(case aS => exact (below_size (by repeat (first|(with_reducible first|exact HB.out|apply lA|apply lN|apply lD)|exact HB.out))));(case aL => have := LMc26.out;omega);intro v288 w27 ho hb hg hat;rw [← Ny287.out] at ho;have n0_ := Aside0.mk (hb);have n1_ := Aside0.mk (ho);clear HB;clear HO_6;have HB := n0_;have HO289 := n1_;clear n0_ n1_;clear ho hb hg hat))
                  repeat (go_quiet (first|(go_at_call 33;(with_reducible refine (spec_l24Is.calls k1 a0 ((((a1.extract 0 (x7_1 : Int).toNat) ++ (a1.extract ((ji10) : Int).toNat ((ji20) : Int).toNat)) ++ (a1.extract (x7_1 : Int).toNat ((ji10) : Int).toNat)) ++ sj14) true _ A24.out).mono ?_);rintro e w' ⟨rfl,⟨nd,rfl⟩⟩;(try first|exact ⟨rfl,_,World.drewN_drewN _ _ _⟩|exact ⟨rfl,_,Eq.trans (World.drewN_drewN _ _ _) (congrArg (World.drewN _) (Nat.add_assoc _ _ _))⟩))|((with_reducible refine gate_builtin (b := .append) (xs := #[.tmp 44,.tmp 46]) rfl ?_);at_builtin;refine Kd.R_append (Kd.int .i64) (w0 := w) w.heap.size rfl (.tmp 44) (.tmp 46) 39 3 (.int .i64 0) 8 rfl Tryd.underlying39 info3 rfl (by decide) (by omega) u6 x6_1 x7_1 [.int .i64 x7_1] (fun _ => True) (fun _ => False) rfl rfl ?aP (fun _ hk => hk.elim) ?aF ?aO ?aB ?aS ?aL ?_;(case aP => exact rfl);(case aB => exact (by repeat (first|(with_reducible first|exact HB.out|apply lA|apply lN|apply lD)|exact HB.out)));(case aF => exact (fun _ _ => trivial));(case aO => exact (by (with_reducible repeat (first|apply Kd.R_alloc|apply Kd.R_drewN|apply Kd.R_drew));exact HO_6.out));(case aS => exact (below_size (by repeat (first|(with_reducible first|exact HB.out|apply lA|apply lN|apply lD)|exact HB.out))));(case aL => have := LMc26.out;omega);intro v288 w27 ho hb hg hat;rw [← Ny287.out] at ho;have n0_ := Aside0.mk (hb);have n1_ := Aside0.mk (ho);clear HB;clear HO_6;have HB := n0_;have HO289 := n1_;clear n0_ n1_;clear ho hb hg hat));try go_wp2_with (first|(go_at_call 33;(with_reducible refine (spec_l24Is.calls k1 a0 ((((a1.extract 0 (x7_1 : Int).toNat) ++ (a1.extract ((ji10) : Int).toNat ((ji20) : Int).toNat)) ++ (a1.extract (x7_1 : Int).toNat ((ji10) : Int).toNat)) ++ sj14) true _ A24.out).mono ?_);rintro e w' ⟨rfl,⟨nd,rfl⟩⟩;(try first|exact ⟨rfl,_,World.drewN_drewN _ _ _⟩|exact ⟨rfl,_,Eq.trans (World.drewN_drewN _ _ _) (congrArg (World.drewN _) (Nat.add_assoc _ _ _))⟩))|((with_reducible refine gate_builtin (b := .append) (xs := #[.tmp 44,.tmp 46]) rfl ?_);at_builtin;refine Kd.R_append (Kd.int .i64) (w0 := w) w.heap.size rfl (.tmp 44) (.tmp 46) 39 3 (.int .i64 0) 8 rfl Tryd.underlying39 info3 rfl (by decide) (by omega) u6 x6_1 x7_1 [.int .i64 x7_1] (fun _ => True) (fun _ => False) rfl rfl ?aP (fun _ hk => hk.elim) ?aF ?aO ?aB ?aS ?aL ?_;(case aP => exact rfl);(case aB => exact (by repeat (first|(with_reducible first|exact HB.out|apply lA|apply lN|apply lD)|exact HB.out)));(case aF => exact (fun _ _ => trivial));(case aO => exact (by (with_reducible repeat (first|apply Kd.R_alloc|apply Kd.R_drewN|apply Kd.R_drew));exact HO_6.out));(case aS => exact (below_size (by repeat (first|(with_reducible first|exact HB.out|apply lA|apply lN|apply lD)|exact HB.out))));(case aL => have := LMc26.out;omega);intro v288 w27 ho hb hg hat;rw [← Ny287.out] at ho;have n0_ := Aside0.mk (hb);have n1_ := Aside0.mk (ho);clear HB;clear HO_6;have HB := n0_;have HO289 := n1_;clear n0_ n1_;clear ho hb hg hat)))
                  go_roundg k1
                  case measure => have := HK1.out;omega
                  case rel => exact ⟨(y287),(ji10),(by first|rfl|(simp;done)|(simp [my_isEmpty];done)|(simp only [← hji10] <;> (first|rfl|simp))|(simp [*];done)),H',⟨by have := HK1.out;omega⟩,⟨by (with_reducible repeat (first|apply Kd.R_alloc|apply Kd.R_drewN|apply Kd.R_drew));exact HO289.out⟩,⟨by repeat (first|(with_reducible first|exact HB.out|apply lA|apply lN|apply lD)|exact HB.out)⟩⟩
                 ·rw [if_neg c26] at H
                  exact absurd H (by simp)
                ·replace c25 := Bool.eq_false_iff.mpr c25
                 subst c25
                 have H1 : (spec_SwapsOf.l0 k1 a0 a1 x6_1 ji10) = some (r1,r2) := by rw [if_neg (show ¬ (false = true) by decide)] at H;exact H
                 clear H
                 have H := H1
                 clear H1
                 have H' := Aside0.mk H
                 clear H
                 go_wp2_with (first|(go_at_call 33;(with_reducible refine (spec_l24Is.calls k1 a0 ((((a1.extract 0 (x7_1 : Int).toNat) ++ (a1.extract ((ji10) : Int).toNat ((ji20) : Int).toNat)) ++ (a1.extract (x7_1 : Int).toNat ((ji10) : Int).toNat)) ++ sj14) false _ A24.out).mono ?_);rintro e w' ⟨rfl,⟨nd,rfl⟩⟩;(try first|exact ⟨rfl,_,World.drewN_drewN _ _ _⟩|exact ⟨rfl,_,Eq.trans (World.drewN_drewN _ _ _) (congrArg (World.drewN _) (Nat.add_assoc _ _ _))⟩)))
                 repeat (go_quiet (first|(go_at_call 33;(with_reducible refine (spec_l24Is.calls k1 a0 ((((a1.extract 0 (x7_1 : Int).toNat) ++ (a1.extract ((ji10) : Int).toNat ((ji20) : Int).toNat)) ++ (a1.extract (x7_1 : Int).toNat ((ji10) : Int).toNat)) ++ sj14) false _ A24.out).mono ?_);rintro e w' ⟨rfl,⟨nd,rfl⟩⟩;(try first|exact ⟨rfl,_,World.drewN_drewN _ _ _⟩|exact ⟨rfl,_,Eq.trans (World.drewN_drewN _ _ _) (congrArg (World.drewN _) (Nat.add_assoc _ _ _))⟩)));try go_wp2_with (first|(go_at_call 33;(with_reducible refine (spec_l24Is.calls k1 a0 ((((a1.extract 0 (x7_1 : Int).toNat) ++ (a1.extract ((ji10) : Int).toNat ((ji20) : Int).toNat)) ++ (a1.extract (x7_1 : Int).toNat ((ji10) : Int).toNat)) ++ sj14) false _ A24.out).mono ?_);rintro e w' ⟨rfl,⟨nd,rfl⟩⟩;(try first|exact ⟨rfl,_,World.drewN_drewN _ _ _⟩|exact ⟨rfl,_,Eq.trans (World.drewN_drewN _ _ _) (congrArg (World.drewN _) (Nat.add_assoc _ _ _))⟩))))
                 go_roundg k1
                 case measure => have := HK1.out;omega
                 case rel => exact ⟨(x6_1),(ji10),(by first|rfl|(simp;done)|(simp [my_isEmpty];done)|(simp only [← hji10] <;> (first|rfl|simp))|(simp [*];done)),H',⟨by have := HK1.out;omega⟩,⟨by (with_reducible repeat (first|apply Kd.R_alloc|apply Kd.R_drewN|apply Kd.R_drew));exact HO_6.out⟩,⟨by repeat (first|(with_reducible first|exact HB.out|apply lA|apply lN|apply lD)|exact HB.out)⟩⟩
               ·rw [if_neg c23] at H
                exact absurd H (by simp)
              ·rw [if_neg c21] at H
               exact absurd H (by simp)
             ·rw [if_neg c19] at H
              exact absurd H (by simp)
            ·rw [if_neg c18] at H
             exact absurd H (by simp)
           ·rw [if_neg c17] at H
            exact absurd H (by simp)
          ·rw [if_neg c15] at H
           exact absurd H (by simp)
         ·rw [if_neg c13] at H
          exact absurd H (by simp)
        ·rw [if_neg c12] at H
         exact absurd H (by simp)
       ·rw [if_neg c11] at H
        exact absurd H (by simp)
      ·rw [if_neg c9] at H
       exact absurd H (by simp)
     ·rw [if_neg c8] at H
      exact absurd H (by simp)
    ·rw [if_neg c7] at H
     have c7b0 : decide ((wrap64 (x7_1 + 1)) < (a1.size : Int)) = false := decide_eq_false c7
     clear c7
     simp only [Option.some.injEq,Prod.mk.injEq] at H
     obtain ⟨rfl,rfl⟩ := H
     go_wp2
     repeat (go_quiet (fail);try go_wp2)
     go_ret2
     exact ⟨_,by first|rfl|(simp [errW_none,errW_some] <;> rfl)|(simp [*,errW_none,errW_some] <;> rfl),by (with_reducible repeat (first|apply Kd.R_alloc|apply Kd.R_drewN|apply Kd.R_drew));exact HO_6.out,by repeat (first|(with_reducible first|exact HB.out|apply lA|apply lN|apply lD)|exact HB.out)⟩
 ·replace c4 := Bool.eq_false_iff.mpr c4
  subst c4
  have H1 : (some (y282,false)) = some (r1,r2) := by rw [if_neg (show ¬ (false = true) by decide)] at H;exact H
  clear H
  have H := H1
  clear H1
  simp only [Option.some.injEq,Prod.mk.injEq] at H
  obtain ⟨rfl,rfl⟩ := H
  go_enter Tryd.func31,Tryd.ntmps31
  go_wp2_with (first|((with_reducible refine gate_dst (N := 8) rfl ?_);refine Kd.R_lit (Kd.int .i64) _ 3 ?hg (N := 8) ?hd (xs := ([] : List Int)) (inner := []) (ok := fun _ => True) (okp := fun _ => True) ?hr ?hp (fun _ hk => hk) trivial (Below.refl _ _) (Nat.le_refl _) (by simp) ?_;(case hd => rfl);(case hg => rfl);(case hr => first|(go_simp;done)|(go_simp;rfl));(case hp => exact (Reps.none _ _));intro v283 w28 ho29 hb hg_ hnew_;clear hg_ hnew_;(first|rw [← Ny282.out] at ho29|(simp only [Int.reduceToNat] at ho29;rw [← Ny282.out] at ho29));have n0_ := Aside0.mk (Kd.R_lower ho29 (below_size (by repeat (first|(with_reducible first|exact HB.out|apply lA|apply lN|apply lD)|exact HB.out))));have n1_ := Aside0.mk (below_step (by repeat (first|(with_reducible first|exact HB.out|apply lA|apply lN|apply lD)|exact HB.out)) hb);clear HB;have HO284 := n0_;have HB := n1_;clear n0_ n1_;clear hb ho29)|(go_at_call 57;(with_reducible refine (spec_l24Form.calls k a0 a1 false _ A3.out).mono ?_);rintro e w' ⟨rfl,⟨nd,rfl⟩⟩;(try first|exact ⟨rfl,_,World.drewN_drewN _ _ _⟩|exact ⟨rfl,_,Eq.trans (World.drewN_drewN _ _ _) (congrArg (World.drewN _) (Nat.add_assoc _ _ _))⟩)))
  repeat (go_quiet (first|((with_reducible refine gate_dst (N := 8) rfl ?_);refine Kd.R_lit (Kd.int .i64) _ 3 ?hg (N := 8) ?hd (xs := ([] : List Int)) (inner := []) (ok := fun _ => True) (okp := fun _ => True) ?hr ?hp (fun _ hk => hk) trivial (Below.refl _ _) (Nat.le_refl _) (by simp) ?_;(case hd => rfl);(case hg => rfl);(case hr => first|(go_simp;done)|(go_simp;rfl));(case hp => exact (Reps.none _ _));intro v283 w28 ho29 hb hg_ hnew_;clear hg_ hnew_;(first|rw [← Ny282.out] at ho29|(simp only [Int.reduceToNat] at ho29;rw [← Ny282.out] at ho29));have n0_ := Aside0.mk (Kd.R_lower ho29 (below_size (by repeat (first|(with_reducible first|exact HB.out|apply lA|apply lN|apply lD)|exact HB.out))));have n1_ := Aside0.mk (below_step (by repeat (first|(with_reducible first|exact HB.out|apply lA|apply lN|apply lD)|exact HB.out)) hb);clear HB;have HO284 := n0_;have HB := n1_;clear n0_ n1_;clear hb ho29)|(go_at_call 57;(with_reducible refine (spec_l24Form.calls k a0 a1 false _ A3.out).mono ?_);rintro e w' ⟨rfl,⟨nd,rfl⟩⟩;(try first|exact ⟨rfl,_,World.drewN_drewN _ _ _⟩|exact ⟨rfl,_,Eq.trans (World.drewN_drewN _ _ _) (congrArg (World.drewN _) (Nat.add_assoc _ _ _))⟩)));try go_wp2_with (first|((with_reducible refine gate_dst (N := 8) rfl ?_);refine Kd.R_lit (Kd.int .i64) _ 3 ?hg (N := 8) ?hd (xs := ([] : List Int)) (inner := []) (ok := fun _ => True) (okp := fun _ => True) ?hr ?hp (fun _ hk => hk) trivial (Below.refl _ _) (Nat.le_refl _) (by simp) ?_;(case hd => rfl);(case hg => rfl);(case hr => first|(go_simp;done)|(go_simp;rfl));(case hp => exact (Reps.none _ _));intro v283 w28 ho29 hb hg_ hnew_;clear hg_ hnew_;(first|rw [← Ny282.out] at ho29|(simp only [Int.reduceToNat] at ho29;rw [← Ny282.out] at ho29));have n0_ := Aside0.mk (Kd.R_lower ho29 (below_size (by repeat (first|(with_reducible first|exact HB.out|apply lA|apply lN|apply lD)|exact HB.out))));have n1_ := Aside0.mk (below_step (by repeat (first|(with_reducible first|exact HB.out|apply lA|apply lN|apply lD)|exact HB.out)) hb);clear HB;have HO284 := n0_;have HB := n1_;clear n0_ n1_;clear hb ho29)|(go_at_call 57;(with_reducible refine (spec_l24Form.calls k a0 a1 false _ A3.out).mono ?_);rintro e w' ⟨rfl,⟨nd,rfl⟩⟩;(try first|exact ⟨rfl,_,World.drewN_drewN _ _ _⟩|exact ⟨rfl,_,Eq.trans (World.drewN_drewN _ _ _) (congrArg (World.drewN _) (Nat.add_assoc _ _ _))⟩))))
  go_ret2
  exact ⟨_,by first|rfl|(simp [errW_none,errW_some] <;> rfl)|(simp [*,errW_none,errW_some] <;> rfl),by (with_reducible repeat (first|apply Kd.R_alloc|apply Kd.R_drewN|apply Kd.R_drew));exact HO284.out,by repeat (first|(with_reducible first|exact HB.out|apply lA|apply lN|apply lD)|exact HB.out)⟩
def laws_rInts.l0 : Nat → List Int → List Int → Int → Option (Bool)
 | 0,_,_,_ => none
 | k + 1,x0,x1,x5 => if x5 < (x0.length : Int) then (if 0 ≤ x5 then (if x5 < (x1.length : Int) then (if (rd x0 x5) = (rd x1 x5) then (laws_rInts.l0 k x0 x1 (wrap64 (x5 + 1))) else (some false)) else (none)) else (none)) else (some true)
def laws_rInts.f (k : Nat) (l0 : List Int) (l1 : List Int) : Option (Bool) := if (l0.length : Int) = (l1.length : Int) then (laws_rInts.l0 k l0 l1 0) else (some false)
theorem laws_rInts.mono_l : ∀ k,(∀ y0 y1 y2,LeO (laws_rInts.l0 k y0 y1 y2) (laws_rInts.l0 (k + 1) y0 y1 y2))
 | 0 => fun _ _ _ r h => by simp [laws_rInts.l0] at h
 | k + 1 => by
  have ih0 := laws_rInts.mono_l k
  ·intro y0 y1 y2
   unfold laws_rInts.l0
   repeat' first
   | (with_reducible exact ih0 _ _ _)
   | (with_reducible exact LeO.refl _)
   | (with_reducible exact LeO.none _)
   | (with_reducible refine LeO.ite ?_ ?_)
   | (with_reducible refine LeO.bind ?_ (fun _ => ?_))
   | exact ih0 _ _ _
   | exact LeO.none _
   | refine LeO.ite ?_ ?_
   | refine LeO.bind ?_ (fun _ => ?_)
theorem laws_rInts.mono : ∀ a0 a1 k,LeO (laws_rInts.f k a0 a1) (laws_rInts.f (k + 1) a0 a1) := by
 intro a0 a1 k
 have ih0 := laws_rInts.mono_l k
 unfold laws_rInts.f
 repeat' first
   | (with_reducible exact ih0 _ _ _)
   | (with_reducible exact LeO.refl _)
   | (with_reducible exact LeO.none _)
   | (with_reducible refine LeO.ite ?_ ?_)
   | (with_reducible refine LeO.bind ?_ (fun _ => ?_))
   | exact ih0 _ _ _
   | exact LeO.none _
   | refine LeO.ite ?_ ?_
   | refine LeO.bind ?_ (fun _ => ?_)
set_option maxHeartbeats 8000000 in
set_option maxRecDepth 100000 in
theorem laws_rInts.calls (k : Nat) (A0 : Option Addr) (c0 : Nat) (l0 : List Int) (A1 : Option Addr) (c1 : Nat) (l1 : List Int) (r : Bool) (w : World) (hr0 : Kd.C (Kd.int .i64) w A0 l0.length l0) (hc0 : l0.length ≤ c0) (hr1 : Kd.C (Kd.int .i64) w A1 l1.length l1) (hc1 : l1.length ≤ c1) (h : laws_rInts.f k l0 l1 = some r) :
  Calls Tryd.prog 32 #[.slice A0 l0.length c0,.slice A1 l1.length c1] w fun e w' => e = .returned (.bool r) ∧ Drawn0 w w' := by
 have HR0 := Aside0.mk hr0
 have HC0 := Aside0.mk hc0
 clear hr0 hc0
 have HR1 := Aside0.mk hr1
 have HC1 := Aside0.mk hc1
 clear hr1 hc1
 have H : (if (l0.length : Int) = (l1.length : Int) then (laws_rInts.l0 k l0 l1 0) else (some false)) = some r := h
 clear h
 by_cases c3 : (l0.length : Int) = (l1.length : Int)
 ·rw [if_pos c3] at H
  have c3b0 : ((l0.length : Int) == (l1.length : Int)) = true := beq_iff_eq.mpr c3
  have c3b1 : ((l0.length : Int) != (l1.length : Int)) = false := bne_eq_false_iff_eq.mpr c3
  have c3b2 : (l0.length == l1.length) = true := by first|simpa using c3|(simp at c3 ⊢;omega)
  clear c3
  have H' := Aside0.mk H
  clear H
  go_enter Tryd.func32,Tryd.ntmps32
  go_wp2
  repeat (go_quiet (fail);try go_wp2)
  go_loopg [5] k (fun kq v5 w' => ∃ (x5_1 : Int),v5 = .int .i64 x5_1 ∧ Aside0 (laws_rInts.l0 kq l0 l1 x5_1 = some r) ∧ Aside0 (kq ≤ k) ∧ Drawn0 w w')
  case atStart => exact ⟨(0),(by first|rfl|(simp;done)|(simp [my_isEmpty];done)|(simp [*];done)),H',⟨Nat.le_refl _⟩,by repeat (first|exact Drawn0.refl _|apply Drawn0.step)⟩
  case round =>
   clear H'
   try clear c1
   try clear p2
   try clear c3
   try clear c3b0
   try clear c3b1
   try clear c3b2
   obtain ⟨x5_1,rfl,HA,HK1,⟨m1,rfl⟩⟩ := hrel
   cases gk with
   | zero => exact absurd HA.out (by simp [laws_rInts.l0])
   | succ k1 =>
    have H := HA.out
    clear HA
    simp only [laws_rInts.l0] at H
    by_cases c4 : x5_1 < (l0.length : Int)
    ·rw [if_pos c4] at H
     have c4b0 : decide (x5_1 < (l0.length : Int)) = true := decide_eq_true c4
     clear c4
     by_cases c5 : 0 ≤ x5_1
     ·rw [if_pos c5] at H
      have c5b0 : decide (0 ≤ x5_1) = true := decide_eq_true c5
      clear c5
      by_cases c6 : x5_1 < (l1.length : Int)
      ·rw [if_pos c6] at H
       have c6b0 : decide (x5_1 < (l1.length : Int)) = true := decide_eq_true c6
       clear c6
       by_cases c7 : (rd l0 x5_1) = (rd l1 x5_1)
       ·rw [if_pos c7] at H
        have c7b0 : ((rd l0 x5_1) == (rd l1 x5_1)) = true := beq_iff_eq.mpr c7
        have c7b1 : ((rd l0 x5_1) != (rd l1 x5_1)) = false := bne_eq_false_iff_eq.mpr c7
        clear c7
        have H' := Aside0.mk H
        clear H
        have p290 : 0 ≤ (x5_1 : Int) := of_decide_eq_true (by first|(with_reducible assumption)|assumption)
        have q290 : x5_1 < (l0.length : Int) := of_decide_eq_true (by first|(with_reducible assumption)|assumption)
        obtain ⟨ad290,e290,hx290_0⟩ := Kd.at_int HR0.out x5_1 p290 q290
        cases e290
        replace p290 := eq_true p290
        replace q290 := eq_true q290
        have p291 : 0 ≤ (x5_1 : Int) := of_decide_eq_true (by first|(with_reducible assumption)|assumption)
        have q291 : x5_1 < (l1.length : Int) := of_decide_eq_true (by first|(with_reducible assumption)|assumption)
        obtain ⟨ad291,e291,hx291_0⟩ := Kd.at_int HR1.out x5_1 p291 q291
        cases e291
        replace p291 := eq_true p291
        replace q291 := eq_true q291
        go_wp2
        repeat (go_quiet (fail);try go_wp2)
        go_roundg k1
        case measure => have := HK1.out;omega
        case rel => exact ⟨(wrap64 (x5_1 + 1)),(by first|rfl|(simp;done)|(simp [my_isEmpty];done)|(simp [*];done)),H',⟨by have := HK1.out;omega⟩,by repeat (first|exact Drawn0.refl _|apply Drawn0.step)⟩
       ·rw [if_neg c7] at H
        have c7b0 : ((rd l0 x5_1) == (rd l1 x5_1)) = false := beq_eq_false_iff_ne.mpr c7
        have c7b1 : ((rd l0 x5_1) != (rd l1 x5_1)) = true := bne_iff_ne.mpr c7
        obtain rfl := Option.some.inj H
        simp only [Option.some.injEq,Prod.mk.injEq] at H
        obtain ⟨rfl⟩ := H
        have p290 : 0 ≤ (x5_1 : Int) := of_decide_eq_true (by first|(with_reducible assumption)|assumption)
        have q290 : x5_1 < (l0.length : Int) := of_decide_eq_true (by first|(with_reducible assumption)|assumption)
        obtain ⟨ad290,e290,hx290_0⟩ := Kd.at_int HR0.out x5_1 p290 q290
        cases e290
        replace p290 := eq_true p290
        replace q290 := eq_true q290
        have p291 : 0 ≤ (x5_1 : Int) := of_decide_eq_true (by first|(with_reducible assumption)|assumption)
        have q291 : x5_1 < (l1.length : Int) := of_decide_eq_true (by first|(with_reducible assumption)|assumption)
        obtain ⟨ad291,e291,hx291_0⟩ := Kd.at_int HR1.out x5_1 p291 q291
        cases e291
        replace p291 := eq_true p291
        replace q291 := eq_true q291
        go_wp2
        repeat (go_quiet (fail);try go_wp2)
        go_ret
        exact ⟨by first|rfl|(simp;done)|(simp [my_isEmpty];done)|(simp [*];done),by repeat (first|exact Drawn0.refl _|apply Drawn0.step)⟩
      ·rw [if_neg c6] at H
       exact absurd H (by simp)
     ·rw [if_neg c5] at H
      exact absurd H (by simp)
    ·rw [if_neg c4] at H
     have c4b0 : decide (x5_1 < (l0.length : Int)) = false := decide_eq_false c4
     clear c4
     obtain rfl := Option.some.inj H
     simp only [Option.some.injEq,Prod.mk.injEq] at H
     obtain ⟨rfl⟩ := H
     go_wp2
     repeat (go_quiet (fail);try go_wp2)
     go_ret
     exact ⟨by first|rfl|(simp;done)|(simp [my_isEmpty];done)|(simp [*];done),by repeat (first|exact Drawn0.refl _|apply Drawn0.step)⟩
 ·rw [if_neg c3] at H
  have c3b0 : ((l0.length : Int) == (l1.length : Int)) = false := beq_eq_false_iff_ne.mpr c3
  have c3b1 : ((l0.length : Int) != (l1.length : Int)) = true := bne_iff_ne.mpr c3
  have c3b2 : (l0.length == l1.length) = false := by first|simpa using c3|(simp at c3 ⊢;omega)
  obtain rfl := Option.some.inj H
  simp only [Option.some.injEq,Prod.mk.injEq] at H
  obtain ⟨rfl⟩ := H
  go_enter Tryd.func32,Tryd.ntmps32
  go_wp2
  repeat (go_quiet (fail);try go_wp2)
  go_ret
  exact ⟨by first|rfl|(simp;done)|(simp [my_isEmpty];done)|(simp [*];done),by repeat (first|exact Drawn0.refl _|apply Drawn0.step)⟩
end Go.Proofs.YtpnjnlcjofaglaaDoor.P
