/- Written by a program in this session: each theorem here says that a Go function computes the Lean function beside it, or that a law's row holds, under the conditions that the theorem itself states. -/
import Derived.Test.YtpnjnlcjofaglaaDoorZPx0
import Derived.Test.YtpnjnlcjofaglaaDoorZPx1
import Derived.Test.YtpnjnlcjofaglaaDoorZPx3
import Derived.Test.YtpnjnlcjofaglaaDoorZPx4
namespace Go.Proofs.YtpnjnlcjofaglaaDoor.P
open Go.RowKit Go.Proofs.YtpnjnlcjofaglaaDoorW.PrintWords Go.Proofs.YtpnjnlcjofaglaaDoorW.PrintLast Go.Proofs.YtpnjnlcjofaglaaDoorW.PrintMore
attribute [local go_sem] max2_int min2_int max_two min_two max_three min_three max_four min_four   -- for this text's walks alone
set_option linter.unusedVariables false
set_option linter.unusedSimpArgs false
def spec_l1Cur_spoilt.f (s0_0 : List Int) (s0_1 : Int) (s0_2 : Int) (a1 : ByteArray) (a2 : ByteArray) : Option (ByteArray × Int × Int) := if a1.toList = ([] : List UInt8) then (if 0 ≤ 1 then (if 1 ≤ (a2.size : Int) then (some (a2.extract 0 1,s0_1,s0_2)) else (none)) else (none)) else ((spec_l1Cur_pick.f s0_0 s0_1 s0_2 (a1.size : Int)).bind fun bt171 => ((spec_l1Cur_pick.f s0_0 bt171.2.1 bt171.2.2 (a2.size : Int)).bind fun bt174 => (if 0 ≤ bt174.1 then (if bt174.1 ≤ (a2.size : Int) then (if 0 ≤ 1 then (if 1 ≤ ((a2.extract (bt174.1 : Int).toNat a2.size).size : Int) then ((spec_l1Cur_pick.f s0_0 bt174.2.1 bt174.2.2 3).bind fun bt177 => (if bt177.1 = 0 then (if 0 ≤ bt171.1 then (if bt171.1 ≤ (a1.size : Int) then (if (a1.extract 0 (bt171.1 : Int).toNat).size + ((a2.extract (bt174.1 : Int).toNat a2.size).extract 0 1).size ≤ 9223372036854775807 then (if ((a1.extract 0 (bt171.1 : Int).toNat) ++ ((a2.extract (bt174.1 : Int).toNat a2.size).extract 0 1)).size + (a1.extract (bt171.1 : Int).toNat a1.size).size ≤ 9223372036854775807 then (some (((a1.extract 0 (bt171.1 : Int).toNat) ++ ((a2.extract (bt174.1 : Int).toNat a2.size).extract 0 1)) ++ (a1.extract (bt171.1 : Int).toNat a1.size),bt177.2.1,bt177.2.2)) else (none)) else (none)) else (none)) else (none)) else (if bt177.1 = 1 then (if 0 ≤ bt171.1 then (if bt171.1 ≤ (a1.size : Int) then (if (a1.extract 0 (bt171.1 : Int).toNat).size + ((a2.extract (bt174.1 : Int).toNat a2.size).extract 0 1).size ≤ 9223372036854775807 then (if 0 ≤ (wrap64 (bt171.1 + 1)) then (if (wrap64 (bt171.1 + 1)) ≤ (a1.size : Int) then (if ((a1.extract 0 (bt171.1 : Int).toNat) ++ ((a2.extract (bt174.1 : Int).toNat a2.size).extract 0 1)).size + (a1.extract ((wrap64 (bt171.1 + 1)) : Int).toNat a1.size).size ≤ 9223372036854775807 then (some (((a1.extract 0 (bt171.1 : Int).toNat) ++ ((a2.extract (bt174.1 : Int).toNat a2.size).extract 0 1)) ++ (a1.extract ((wrap64 (bt171.1 + 1)) : Int).toNat a1.size),bt177.2.1,bt177.2.2)) else (none)) else (none)) else (none)) else (none)) else (none)) else (none)) else (if 0 ≤ bt171.1 then (if bt171.1 ≤ (a1.size : Int) then (if 0 ≤ (wrap64 (bt171.1 + 1)) then (if (wrap64 (bt171.1 + 1)) ≤ (a1.size : Int) then (if (a1.extract 0 (bt171.1 : Int).toNat).size + (a1.extract ((wrap64 (bt171.1 + 1)) : Int).toNat a1.size).size ≤ 9223372036854775807 then (some ((a1.extract 0 (bt171.1 : Int).toNat) ++ (a1.extract ((wrap64 (bt171.1 + 1)) : Int).toNat a1.size),bt177.2.1,bt177.2.2)) else (none)) else (none)) else (none)) else (none)) else (none))))) else (none)) else (none)) else (none)) else (none))))
set_option maxHeartbeats 8000000 in
set_option maxRecDepth 100000 in
theorem spec_l1Cur_spoilt.calls (g : Nat) (s0_0 : List Int) (s0_1 : Int) (s0_2 : Int) (a1 : ByteArray) (a2 : ByteArray) (r1 : ByteArray) (r2 : Int) (r3 : Int) (w0 w : World) (hI : IsS56 w0 w g s0_0 s0_1 s0_2) (hB : Below w0.heap.size w0 w) (h : spec_l1Cur_spoilt.f s0_0 s0_1 s0_2 a1 a2 = some (r1,r2,r3)) :
  Calls Tryd.prog 50 #[.pointer (some ⟨g,0,none⟩),.string a1,.string a2] w fun e w' => e = .returned (.string r1) ∧ IsS56 w0 w' g s0_0 r2 r3 ∧ Below w0.heap.size w0 w' ∧ KeepBut w w' g none := by
 have HI0 := Aside0.mk hI
 have HK := Aside0.mk (KeepBut.refl w g none)
 have HL := Aside0.mk hB.size
 clear hI
 have HW0 := Aside0.mk hB.size
 have HB := Aside0.mk hB
 clear hB
 have H : (if a1.toList = ([] : List UInt8) then (if 0 ≤ 1 then (if 1 ≤ (a2.size : Int) then (some (a2.extract 0 1,s0_1,s0_2)) else (none)) else (none)) else ((spec_l1Cur_pick.f s0_0 s0_1 s0_2 (a1.size : Int)).bind fun bt171 => ((spec_l1Cur_pick.f s0_0 bt171.2.1 bt171.2.2 (a2.size : Int)).bind fun bt174 => (if 0 ≤ bt174.1 then (if bt174.1 ≤ (a2.size : Int) then (if 0 ≤ 1 then (if 1 ≤ ((a2.extract (bt174.1 : Int).toNat a2.size).size : Int) then ((spec_l1Cur_pick.f s0_0 bt174.2.1 bt174.2.2 3).bind fun bt177 => (if bt177.1 = 0 then (if 0 ≤ bt171.1 then (if bt171.1 ≤ (a1.size : Int) then (if (a1.extract 0 (bt171.1 : Int).toNat).size + ((a2.extract (bt174.1 : Int).toNat a2.size).extract 0 1).size ≤ 9223372036854775807 then (if ((a1.extract 0 (bt171.1 : Int).toNat) ++ ((a2.extract (bt174.1 : Int).toNat a2.size).extract 0 1)).size + (a1.extract (bt171.1 : Int).toNat a1.size).size ≤ 9223372036854775807 then (some (((a1.extract 0 (bt171.1 : Int).toNat) ++ ((a2.extract (bt174.1 : Int).toNat a2.size).extract 0 1)) ++ (a1.extract (bt171.1 : Int).toNat a1.size),bt177.2.1,bt177.2.2)) else (none)) else (none)) else (none)) else (none)) else (if bt177.1 = 1 then (if 0 ≤ bt171.1 then (if bt171.1 ≤ (a1.size : Int) then (if (a1.extract 0 (bt171.1 : Int).toNat).size + ((a2.extract (bt174.1 : Int).toNat a2.size).extract 0 1).size ≤ 9223372036854775807 then (if 0 ≤ (wrap64 (bt171.1 + 1)) then (if (wrap64 (bt171.1 + 1)) ≤ (a1.size : Int) then (if ((a1.extract 0 (bt171.1 : Int).toNat) ++ ((a2.extract (bt174.1 : Int).toNat a2.size).extract 0 1)).size + (a1.extract ((wrap64 (bt171.1 + 1)) : Int).toNat a1.size).size ≤ 9223372036854775807 then (some (((a1.extract 0 (bt171.1 : Int).toNat) ++ ((a2.extract (bt174.1 : Int).toNat a2.size).extract 0 1)) ++ (a1.extract ((wrap64 (bt171.1 + 1)) : Int).toNat a1.size),bt177.2.1,bt177.2.2)) else (none)) else (none)) else (none)) else (none)) else (none)) else (none)) else (if 0 ≤ bt171.1 then (if bt171.1 ≤ (a1.size : Int) then (if 0 ≤ (wrap64 (bt171.1 + 1)) then (if (wrap64 (bt171.1 + 1)) ≤ (a1.size : Int) then (if (a1.extract 0 (bt171.1 : Int).toNat).size + (a1.extract ((wrap64 (bt171.1 + 1)) : Int).toNat a1.size).size ≤ 9223372036854775807 then (some ((a1.extract 0 (bt171.1 : Int).toNat) ++ (a1.extract ((wrap64 (bt171.1 + 1)) : Int).toNat a1.size),bt177.2.1,bt177.2.2)) else (none)) else (none)) else (none)) else (none)) else (none))))) else (none)) else (none)) else (none)) else (none))))) = some (r1,r2,r3) := h
 clear h
 by_cases c4 : a1.toList = ([] : List UInt8)
 ·rw [if_pos c4] at H
  have c4b0 : (a1.toList == ([] : List UInt8)) = true := beq_iff_eq.mpr c4
  have c4b1 : (a1.toList != ([] : List UInt8)) = false := bne_eq_false_iff_eq.mpr c4
  clear c4
  by_cases c5 : 0 ≤ 1
  ·rw [if_pos c5] at H
   have c5b0 := eq_true c5
   have c5b1 : decide (0 ≤ 1) = true := decide_eq_true c5
   clear c5
   by_cases c6 : 1 ≤ (a2.size : Int)
   ·rw [if_pos c6] at H
    have c6b0 := eq_true c6
    have c6b1 : decide (1 ≤ (a2.size : Int)) = true := decide_eq_true c6
    clear c6
    simp only [Option.some.injEq,Prod.mk.injEq] at H
    obtain ⟨rfl,rfl,rfl⟩ := H
    go_enter Tryd.func50,Tryd.ntmps50
    go_wp2
    repeat (go_quiet (fail);try go_wp2)
    go_ret
    exact ⟨by first|rfl|(simp [errW_none,errW_some] <;> rfl)|(simp [*,errW_none,errW_some] <;> rfl),by repeat (first|(with_reducible first|exact HI0.out|apply IsS56.alloc|apply IsS56.drewN|apply IsS56.drew|apply IsS56.set_1|apply IsS56.set_2)|exact HI0.out),by repeat (first|(with_reducible first|exact HB.out|apply lA|apply lN|apply lD|refine below_set ?_ (IsS56.ge HI0.out))|exact HB.out),by repeat (first|(with_reducible first|exact HK.out|apply KeepBut.set_|apply keep_drewN|apply keep_drew|apply keep_alloc)|exact HK.out)⟩
   ·rw [if_neg c6] at H
    exact absurd H (by simp)
  ·rw [if_neg c5] at H
   exact absurd H (by simp)
 ·rw [if_neg c4] at H
  have c4b0 : (a1.toList == ([] : List UInt8)) = false := beq_eq_false_iff_ne.mpr c4
  have c4b1 : (a1.toList != ([] : List UInt8)) = true := bne_iff_ne.mpr c4
  replace H := Option.bind_eq_some_iff.mp H
  obtain ⟨⟨t171,t172,t173⟩,A70,H⟩ := H
  replace H : ((spec_l1Cur_pick.f s0_0 t172 t173 (a2.size : Int)).bind fun bt174 => (if 0 ≤ bt174.1 then (if bt174.1 ≤ (a2.size : Int) then (if 0 ≤ 1 then (if 1 ≤ ((a2.extract (bt174.1 : Int).toNat a2.size).size : Int) then ((spec_l1Cur_pick.f s0_0 bt174.2.1 bt174.2.2 3).bind fun bt177 => (if bt177.1 = 0 then (if 0 ≤ t171 then (if t171 ≤ (a1.size : Int) then (if (a1.extract 0 (t171 : Int).toNat).size + ((a2.extract (bt174.1 : Int).toNat a2.size).extract 0 1).size ≤ 9223372036854775807 then (if ((a1.extract 0 (t171 : Int).toNat) ++ ((a2.extract (bt174.1 : Int).toNat a2.size).extract 0 1)).size + (a1.extract (t171 : Int).toNat a1.size).size ≤ 9223372036854775807 then (some (((a1.extract 0 (t171 : Int).toNat) ++ ((a2.extract (bt174.1 : Int).toNat a2.size).extract 0 1)) ++ (a1.extract (t171 : Int).toNat a1.size),bt177.2.1,bt177.2.2)) else (none)) else (none)) else (none)) else (none)) else (if bt177.1 = 1 then (if 0 ≤ t171 then (if t171 ≤ (a1.size : Int) then (if (a1.extract 0 (t171 : Int).toNat).size + ((a2.extract (bt174.1 : Int).toNat a2.size).extract 0 1).size ≤ 9223372036854775807 then (if 0 ≤ (wrap64 (t171 + 1)) then (if (wrap64 (t171 + 1)) ≤ (a1.size : Int) then (if ((a1.extract 0 (t171 : Int).toNat) ++ ((a2.extract (bt174.1 : Int).toNat a2.size).extract 0 1)).size + (a1.extract ((wrap64 (t171 + 1)) : Int).toNat a1.size).size ≤ 9223372036854775807 then (some (((a1.extract 0 (t171 : Int).toNat) ++ ((a2.extract (bt174.1 : Int).toNat a2.size).extract 0 1)) ++ (a1.extract ((wrap64 (t171 + 1)) : Int).toNat a1.size),bt177.2.1,bt177.2.2)) else (none)) else (none)) else (none)) else (none)) else (none)) else (none)) else (if 0 ≤ t171 then (if t171 ≤ (a1.size : Int) then (if 0 ≤ (wrap64 (t171 + 1)) then (if (wrap64 (t171 + 1)) ≤ (a1.size : Int) then (if (a1.extract 0 (t171 : Int).toNat).size + (a1.extract ((wrap64 (t171 + 1)) : Int).toNat a1.size).size ≤ 9223372036854775807 then (some ((a1.extract 0 (t171 : Int).toNat) ++ (a1.extract ((wrap64 (t171 + 1)) : Int).toNat a1.size),bt177.2.1,bt177.2.2)) else (none)) else (none)) else (none)) else (none)) else (none))))) else (none)) else (none)) else (none)) else (none))) = some (r1,r2,r3) := H
  have A7 := Aside0.mk A70
  clear A70
  replace H := Option.bind_eq_some_iff.mp H
  obtain ⟨⟨t174,t175,t176⟩,A80,H⟩ := H
  replace H : (if 0 ≤ t174 then (if t174 ≤ (a2.size : Int) then (if 0 ≤ 1 then (if 1 ≤ ((a2.extract (t174 : Int).toNat a2.size).size : Int) then ((spec_l1Cur_pick.f s0_0 t175 t176 3).bind fun bt177 => (if bt177.1 = 0 then (if 0 ≤ t171 then (if t171 ≤ (a1.size : Int) then (if (a1.extract 0 (t171 : Int).toNat).size + ((a2.extract (t174 : Int).toNat a2.size).extract 0 1).size ≤ 9223372036854775807 then (if ((a1.extract 0 (t171 : Int).toNat) ++ ((a2.extract (t174 : Int).toNat a2.size).extract 0 1)).size + (a1.extract (t171 : Int).toNat a1.size).size ≤ 9223372036854775807 then (some (((a1.extract 0 (t171 : Int).toNat) ++ ((a2.extract (t174 : Int).toNat a2.size).extract 0 1)) ++ (a1.extract (t171 : Int).toNat a1.size),bt177.2.1,bt177.2.2)) else (none)) else (none)) else (none)) else (none)) else (if bt177.1 = 1 then (if 0 ≤ t171 then (if t171 ≤ (a1.size : Int) then (if (a1.extract 0 (t171 : Int).toNat).size + ((a2.extract (t174 : Int).toNat a2.size).extract 0 1).size ≤ 9223372036854775807 then (if 0 ≤ (wrap64 (t171 + 1)) then (if (wrap64 (t171 + 1)) ≤ (a1.size : Int) then (if ((a1.extract 0 (t171 : Int).toNat) ++ ((a2.extract (t174 : Int).toNat a2.size).extract 0 1)).size + (a1.extract ((wrap64 (t171 + 1)) : Int).toNat a1.size).size ≤ 9223372036854775807 then (some (((a1.extract 0 (t171 : Int).toNat) ++ ((a2.extract (t174 : Int).toNat a2.size).extract 0 1)) ++ (a1.extract ((wrap64 (t171 + 1)) : Int).toNat a1.size),bt177.2.1,bt177.2.2)) else (none)) else (none)) else (none)) else (none)) else (none)) else (none)) else (if 0 ≤ t171 then (if t171 ≤ (a1.size : Int) then (if 0 ≤ (wrap64 (t171 + 1)) then (if (wrap64 (t171 + 1)) ≤ (a1.size : Int) then (if (a1.extract 0 (t171 : Int).toNat).size + (a1.extract ((wrap64 (t171 + 1)) : Int).toNat a1.size).size ≤ 9223372036854775807 then (some ((a1.extract 0 (t171 : Int).toNat) ++ (a1.extract ((wrap64 (t171 + 1)) : Int).toNat a1.size),bt177.2.1,bt177.2.2)) else (none)) else (none)) else (none)) else (none)) else (none))))) else (none)) else (none)) else (none)) else (none)) = some (r1,r2,r3) := H
  have A8 := Aside0.mk A80
  clear A80
  by_cases c9 : 0 ≤ t174
  ·rw [if_pos c9] at H
   have c9b0 := eq_true c9
   have c9b1 : decide (0 ≤ t174) = true := decide_eq_true c9
   clear c9
   by_cases c10 : t174 ≤ (a2.size : Int)
   ·rw [if_pos c10] at H
    have c10b0 := eq_true c10
    have c10b1 : decide (t174 ≤ (a2.size : Int)) = true := decide_eq_true c10
    clear c10
    obtain ⟨sj11,hsj11⟩ : ∃ s_ : ByteArray,(a2.extract (t174 : Int).toNat a2.size) = s_ := ⟨_,rfl⟩
    replace H : (if 0 ≤ 1 then (if 1 ≤ (sj11.size : Int) then ((spec_l1Cur_pick.f s0_0 t175 t176 3).bind fun bt177 => (if bt177.1 = 0 then (if 0 ≤ t171 then (if t171 ≤ (a1.size : Int) then (if (a1.extract 0 (t171 : Int).toNat).size + (sj11.extract 0 1).size ≤ 9223372036854775807 then (if ((a1.extract 0 (t171 : Int).toNat) ++ (sj11.extract 0 1)).size + (a1.extract (t171 : Int).toNat a1.size).size ≤ 9223372036854775807 then (some (((a1.extract 0 (t171 : Int).toNat) ++ (sj11.extract 0 1)) ++ (a1.extract (t171 : Int).toNat a1.size),bt177.2.1,bt177.2.2)) else (none)) else (none)) else (none)) else (none)) else (if bt177.1 = 1 then (if 0 ≤ t171 then (if t171 ≤ (a1.size : Int) then (if (a1.extract 0 (t171 : Int).toNat).size + (sj11.extract 0 1).size ≤ 9223372036854775807 then (if 0 ≤ (wrap64 (t171 + 1)) then (if (wrap64 (t171 + 1)) ≤ (a1.size : Int) then (if ((a1.extract 0 (t171 : Int).toNat) ++ (sj11.extract 0 1)).size + (a1.extract ((wrap64 (t171 + 1)) : Int).toNat a1.size).size ≤ 9223372036854775807 then (some (((a1.extract 0 (t171 : Int).toNat) ++ (sj11.extract 0 1)) ++ (a1.extract ((wrap64 (t171 + 1)) : Int).toNat a1.size),bt177.2.1,bt177.2.2)) else (none)) else (none)) else (none)) else (none)) else (none)) else (none)) else (if 0 ≤ t171 then (if t171 ≤ (a1.size : Int) then (if 0 ≤ (wrap64 (t171 + 1)) then (if (wrap64 (t171 + 1)) ≤ (a1.size : Int) then (if (a1.extract 0 (t171 : Int).toNat).size + (a1.extract ((wrap64 (t171 + 1)) : Int).toNat a1.size).size ≤ 9223372036854775807 then (some ((a1.extract 0 (t171 : Int).toNat) ++ (a1.extract ((wrap64 (t171 + 1)) : Int).toNat a1.size),bt177.2.1,bt177.2.2)) else (none)) else (none)) else (none)) else (none)) else (none))))) else (none)) else (none)) = some (r1,r2,r3) := by (have he_ : (a2.extract (t174 : Int).toNat a2.size) = sj11 := hsj11);first|(rw [he_] at H;exact H)|(simp only [he_] at H ⊢;exact H)
    (try rw [hsj11] at A7)
    (try rw [hsj11] at A8)
    by_cases c12 : 0 ≤ 1
    ·rw [if_pos c12] at H
     have c12b0 := eq_true c12
     have c12b1 : decide (0 ≤ 1) = true := decide_eq_true c12
     clear c12
     by_cases c13 : 1 ≤ (sj11.size : Int)
     ·rw [if_pos c13] at H
      have c13b0 := eq_true c13
      have c13b1 : decide (1 ≤ (sj11.size : Int)) = true := decide_eq_true c13
      clear c13
      replace H := Option.bind_eq_some_iff.mp H
      obtain ⟨⟨t177,t178,t179⟩,A140,H⟩ := H
      replace H : (if t177 = 0 then (if 0 ≤ t171 then (if t171 ≤ (a1.size : Int) then (if (a1.extract 0 (t171 : Int).toNat).size + (sj11.extract 0 1).size ≤ 9223372036854775807 then (if ((a1.extract 0 (t171 : Int).toNat) ++ (sj11.extract 0 1)).size + (a1.extract (t171 : Int).toNat a1.size).size ≤ 9223372036854775807 then (some (((a1.extract 0 (t171 : Int).toNat) ++ (sj11.extract 0 1)) ++ (a1.extract (t171 : Int).toNat a1.size),t178,t179)) else (none)) else (none)) else (none)) else (none)) else (if t177 = 1 then (if 0 ≤ t171 then (if t171 ≤ (a1.size : Int) then (if (a1.extract 0 (t171 : Int).toNat).size + (sj11.extract 0 1).size ≤ 9223372036854775807 then (if 0 ≤ (wrap64 (t171 + 1)) then (if (wrap64 (t171 + 1)) ≤ (a1.size : Int) then (if ((a1.extract 0 (t171 : Int).toNat) ++ (sj11.extract 0 1)).size + (a1.extract ((wrap64 (t171 + 1)) : Int).toNat a1.size).size ≤ 9223372036854775807 then (some (((a1.extract 0 (t171 : Int).toNat) ++ (sj11.extract 0 1)) ++ (a1.extract ((wrap64 (t171 + 1)) : Int).toNat a1.size),t178,t179)) else (none)) else (none)) else (none)) else (none)) else (none)) else (none)) else (if 0 ≤ t171 then (if t171 ≤ (a1.size : Int) then (if 0 ≤ (wrap64 (t171 + 1)) then (if (wrap64 (t171 + 1)) ≤ (a1.size : Int) then (if (a1.extract 0 (t171 : Int).toNat).size + (a1.extract ((wrap64 (t171 + 1)) : Int).toNat a1.size).size ≤ 9223372036854775807 then (some ((a1.extract 0 (t171 : Int).toNat) ++ (a1.extract ((wrap64 (t171 + 1)) : Int).toNat a1.size),t178,t179)) else (none)) else (none)) else (none)) else (none)) else (none)))) = some (r1,r2,r3) := H
      have A14 := Aside0.mk A140
      clear A140
      by_cases c15 : t177 = 0
      ·rw [if_pos c15] at H
       have c15b0 : (t177 == 0) = true := beq_iff_eq.mpr c15
       have c15b1 : (t177 != 0) = false := bne_eq_false_iff_eq.mpr c15
       clear c15
       by_cases c16 : 0 ≤ t171
       ·rw [if_pos c16] at H
        have c16b0 := eq_true c16
        have c16b1 : decide (0 ≤ t171) = true := decide_eq_true c16
        clear c16
        by_cases c17 : t171 ≤ (a1.size : Int)
        ·rw [if_pos c17] at H
         have c17b0 := eq_true c17
         have c17b1 : decide (t171 ≤ (a1.size : Int)) = true := decide_eq_true c17
         clear c17
         obtain ⟨sj18,hsj18⟩ : ∃ s_ : ByteArray,(a1.extract (t171 : Int).toNat a1.size) = s_ := ⟨_,rfl⟩
         replace H : (if (a1.extract 0 (t171 : Int).toNat).size + (sj11.extract 0 1).size ≤ 9223372036854775807 then (if ((a1.extract 0 (t171 : Int).toNat) ++ (sj11.extract 0 1)).size + sj18.size ≤ 9223372036854775807 then (some (((a1.extract 0 (t171 : Int).toNat) ++ (sj11.extract 0 1)) ++ sj18,t178,t179)) else (none)) else (none)) = some (r1,r2,r3) := by (have he_ : (a1.extract (t171 : Int).toNat a1.size) = sj18 := hsj18);first|(rw [he_] at H;exact H)|(simp only [he_] at H ⊢;exact H)
         (try rw [hsj18] at A7)
         (try rw [hsj18] at A8)
         (try rw [hsj18] at A14)
         by_cases c19 : (a1.extract 0 (t171 : Int).toNat).size + (sj11.extract 0 1).size ≤ 9223372036854775807
         ·rw [if_pos c19] at H
          have c19b0 := eq_true c19
          have c19b1 : decide ((a1.extract 0 (t171 : Int).toNat).size + (sj11.extract 0 1).size ≤ 9223372036854775807) = true := decide_eq_true c19
          try have c19b3 : (9223372036854775807 < min (t171 : Int).toNat a1.size + min 1 sj11.size) = False := eq_false (by have h_ := c19;simp only [ByteArray.size_append,ByteArray.size_extract] at h_;omega)
          try have c19b2 : (9223372036854775807 < (a1.extract 0 (t171 : Int).toNat).size + (sj11.extract 0 1).size) = False := eq_false (Nat.not_lt.2 c19)
          have c20b0 := eq_true (of_decide_eq_true (by first|(with_reducible assumption)|assumption) : 0 ≤ t171)
          have c21b0 := eq_true (of_decide_eq_true (by first|(with_reducible assumption)|assumption) : t171 ≤ (a1.size : Int))
          by_cases c22 : ((a1.extract 0 (t171 : Int).toNat) ++ (sj11.extract 0 1)).size + sj18.size ≤ 9223372036854775807
          ·rw [if_pos c22] at H
           have c22b0 := eq_true c22
           have c22b1 : decide (((a1.extract 0 (t171 : Int).toNat) ++ (sj11.extract 0 1)).size + sj18.size ≤ 9223372036854775807) = true := decide_eq_true c22
           try have c22b3 : (9223372036854775807 < (a1.extract 0 (t171 : Int).toNat).size + (sj11.extract 0 1).size + sj18.size) = False := eq_false (by have h_ := c22;simp only [ByteArray.size_append,ByteArray.size_extract] at h_;omega)
           try have c22b4 : (9223372036854775807 < min (t171 : Int).toNat a1.size + min 1 sj11.size + sj18.size) = False := eq_false (by have h_ := c22;simp only [ByteArray.size_append,ByteArray.size_extract] at h_;omega)
           try have c22b2 : (9223372036854775807 < ((a1.extract 0 (t171 : Int).toNat) ++ (sj11.extract 0 1)).size + sj18.size) = False := eq_false (Nat.not_lt.2 c22)
           simp only [Option.some.injEq,Prod.mk.injEq] at H
           obtain ⟨rfl,rfl,rfl⟩ := H
           go_enter Tryd.func50,Tryd.ntmps50
           go_wp2_with (first|(go_at_call 49;(with_reducible refine (spec_l1Cur_pick.calls g s0_0 s0_1 s0_2 (a1.size : Int) t171 t172 t173 w0 _ ?side1 ?side2 A7.out).mono ?_);(case side1 => repeat (first|(with_reducible first|exact HI0.out|apply IsS56.alloc|apply IsS56.drewN|apply IsS56.drew|apply IsS56.set_1|apply IsS56.set_2)|exact HI0.out));(case side2 => repeat (first|(with_reducible first|exact HB.out|apply lA|apply lN|apply lD|refine below_set ?_ (IsS56.ge HI0.out))|exact HB.out));rintro e w23 ⟨rfl,hi,hb,hk⟩;have n0_ := Aside0.mk (KeepBut.trans (by repeat (first|(with_reducible first|exact HK.out|apply KeepBut.set_|apply keep_drewN|apply keep_drew|apply keep_alloc)|exact HK.out)) hk (.inl rfl));have n1_ := Aside0.mk (hb);have n2_ := Aside0.mk (hi);clear HK;clear HB;clear HI0;have HK := n0_;have HB := n1_;have HI0 := n2_;clear n0_ n1_ n2_;(try clear hb);(try clear hb2);(try clear hk);(try clear hi))|(go_at_call 49;(with_reducible refine (spec_l1Cur_pick.calls g s0_0 t172 t173 (a2.size : Int) t174 t175 t176 w0 _ ?side1 ?side2 A8.out).mono ?_);(case side1 => repeat (first|(with_reducible first|exact HI0.out|apply IsS56.alloc|apply IsS56.drewN|apply IsS56.drew|apply IsS56.set_1|apply IsS56.set_2)|exact HI0.out));(case side2 => repeat (first|(with_reducible first|exact HB.out|apply lA|apply lN|apply lD|refine below_set ?_ (IsS56.ge HI0.out))|exact HB.out));rintro e w24 ⟨rfl,hi,hb,hk⟩;have n0_ := Aside0.mk (KeepBut.trans (by repeat (first|(with_reducible first|exact HK.out|apply KeepBut.set_|apply keep_drewN|apply keep_drew|apply keep_alloc)|exact HK.out)) hk (.inl rfl));have n1_ := Aside0.mk (hb);have n2_ := Aside0.mk (hi);clear HK;clear HB;clear HI0;have HK := n0_;have HB := n1_;have HI0 := n2_;clear n0_ n1_ n2_;(try clear hb);(try clear hb2);(try clear hk);(try clear hi))|(go_at_call 49;(with_reducible refine (spec_l1Cur_pick.calls g s0_0 t175 t176 3 t177 t178 t179 w0 _ ?side1 ?side2 A14.out).mono ?_);(case side1 => repeat (first|(with_reducible first|exact HI0.out|apply IsS56.alloc|apply IsS56.drewN|apply IsS56.drew|apply IsS56.set_1|apply IsS56.set_2)|exact HI0.out));(case side2 => repeat (first|(with_reducible first|exact HB.out|apply lA|apply lN|apply lD|refine below_set ?_ (IsS56.ge HI0.out))|exact HB.out));rintro e w25 ⟨rfl,hi,hb,hk⟩;have n0_ := Aside0.mk (KeepBut.trans (by repeat (first|(with_reducible first|exact HK.out|apply KeepBut.set_|apply keep_drewN|apply keep_drew|apply keep_alloc)|exact HK.out)) hk (.inl rfl));have n1_ := Aside0.mk (hb);have n2_ := Aside0.mk (hi);clear HK;clear HB;clear HI0;have HK := n0_;have HB := n1_;have HI0 := n2_;clear n0_ n1_ n2_;(try clear hb);(try clear hb2);(try clear hk);(try clear hi)))
           repeat (go_quiet (first|(go_at_call 49;(with_reducible refine (spec_l1Cur_pick.calls g s0_0 s0_1 s0_2 (a1.size : Int) t171 t172 t173 w0 _ ?side1 ?side2 A7.out).mono ?_);(case side1 => repeat (first|(with_reducible first|exact HI0.out|apply IsS56.alloc|apply IsS56.drewN|apply IsS56.drew|apply IsS56.set_1|apply IsS56.set_2)|exact HI0.out));(case side2 => repeat (first|(with_reducible first|exact HB.out|apply lA|apply lN|apply lD|refine below_set ?_ (IsS56.ge HI0.out))|exact HB.out));rintro e w23 ⟨rfl,hi,hb,hk⟩;have n0_ := Aside0.mk (KeepBut.trans (by repeat (first|(with_reducible first|exact HK.out|apply KeepBut.set_|apply keep_drewN|apply keep_drew|apply keep_alloc)|exact HK.out)) hk (.inl rfl));have n1_ := Aside0.mk (hb);have n2_ := Aside0.mk (hi);clear HK;clear HB;clear HI0;have HK := n0_;have HB := n1_;have HI0 := n2_;clear n0_ n1_ n2_;(try clear hb);(try clear hb2);(try clear hk);(try clear hi))|(go_at_call 49;(with_reducible refine (spec_l1Cur_pick.calls g s0_0 t172 t173 (a2.size : Int) t174 t175 t176 w0 _ ?side1 ?side2 A8.out).mono ?_);(case side1 => repeat (first|(with_reducible first|exact HI0.out|apply IsS56.alloc|apply IsS56.drewN|apply IsS56.drew|apply IsS56.set_1|apply IsS56.set_2)|exact HI0.out));(case side2 => repeat (first|(with_reducible first|exact HB.out|apply lA|apply lN|apply lD|refine below_set ?_ (IsS56.ge HI0.out))|exact HB.out));rintro e w24 ⟨rfl,hi,hb,hk⟩;have n0_ := Aside0.mk (KeepBut.trans (by repeat (first|(with_reducible first|exact HK.out|apply KeepBut.set_|apply keep_drewN|apply keep_drew|apply keep_alloc)|exact HK.out)) hk (.inl rfl));have n1_ := Aside0.mk (hb);have n2_ := Aside0.mk (hi);clear HK;clear HB;clear HI0;have HK := n0_;have HB := n1_;have HI0 := n2_;clear n0_ n1_ n2_;(try clear hb);(try clear hb2);(try clear hk);(try clear hi))|(go_at_call 49;(with_reducible refine (spec_l1Cur_pick.calls g s0_0 t175 t176 3 t177 t178 t179 w0 _ ?side1 ?side2 A14.out).mono ?_);(case side1 => repeat (first|(with_reducible first|exact HI0.out|apply IsS56.alloc|apply IsS56.drewN|apply IsS56.drew|apply IsS56.set_1|apply IsS56.set_2)|exact HI0.out));(case side2 => repeat (first|(with_reducible first|exact HB.out|apply lA|apply lN|apply lD|refine below_set ?_ (IsS56.ge HI0.out))|exact HB.out));rintro e w25 ⟨rfl,hi,hb,hk⟩;have n0_ := Aside0.mk (KeepBut.trans (by repeat (first|(with_reducible first|exact HK.out|apply KeepBut.set_|apply keep_drewN|apply keep_drew|apply keep_alloc)|exact HK.out)) hk (.inl rfl));have n1_ := Aside0.mk (hb);have n2_ := Aside0.mk (hi);clear HK;clear HB;clear HI0;have HK := n0_;have HB := n1_;have HI0 := n2_;clear n0_ n1_ n2_;(try clear hb);(try clear hb2);(try clear hk);(try clear hi)));try go_wp2_with (first|(go_at_call 49;(with_reducible refine (spec_l1Cur_pick.calls g s0_0 s0_1 s0_2 (a1.size : Int) t171 t172 t173 w0 _ ?side1 ?side2 A7.out).mono ?_);(case side1 => repeat (first|(with_reducible first|exact HI0.out|apply IsS56.alloc|apply IsS56.drewN|apply IsS56.drew|apply IsS56.set_1|apply IsS56.set_2)|exact HI0.out));(case side2 => repeat (first|(with_reducible first|exact HB.out|apply lA|apply lN|apply lD|refine below_set ?_ (IsS56.ge HI0.out))|exact HB.out));rintro e w23 ⟨rfl,hi,hb,hk⟩;have n0_ := Aside0.mk (KeepBut.trans (by repeat (first|(with_reducible first|exact HK.out|apply KeepBut.set_|apply keep_drewN|apply keep_drew|apply keep_alloc)|exact HK.out)) hk (.inl rfl));have n1_ := Aside0.mk (hb);have n2_ := Aside0.mk (hi);clear HK;clear HB;clear HI0;have HK := n0_;have HB := n1_;have HI0 := n2_;clear n0_ n1_ n2_;(try clear hb);(try clear hb2);(try clear hk);(try clear hi))|(go_at_call 49;(with_reducible refine (spec_l1Cur_pick.calls g s0_0 t172 t173 (a2.size : Int) t174 t175 t176 w0 _ ?side1 ?side2 A8.out).mono ?_);(case side1 => repeat (first|(with_reducible first|exact HI0.out|apply IsS56.alloc|apply IsS56.drewN|apply IsS56.drew|apply IsS56.set_1|apply IsS56.set_2)|exact HI0.out));(case side2 => repeat (first|(with_reducible first|exact HB.out|apply lA|apply lN|apply lD|refine below_set ?_ (IsS56.ge HI0.out))|exact HB.out));rintro e w24 ⟨rfl,hi,hb,hk⟩;have n0_ := Aside0.mk (KeepBut.trans (by repeat (first|(with_reducible first|exact HK.out|apply KeepBut.set_|apply keep_drewN|apply keep_drew|apply keep_alloc)|exact HK.out)) hk (.inl rfl));have n1_ := Aside0.mk (hb);have n2_ := Aside0.mk (hi);clear HK;clear HB;clear HI0;have HK := n0_;have HB := n1_;have HI0 := n2_;clear n0_ n1_ n2_;(try clear hb);(try clear hb2);(try clear hk);(try clear hi))|(go_at_call 49;(with_reducible refine (spec_l1Cur_pick.calls g s0_0 t175 t176 3 t177 t178 t179 w0 _ ?side1 ?side2 A14.out).mono ?_);(case side1 => repeat (first|(with_reducible first|exact HI0.out|apply IsS56.alloc|apply IsS56.drewN|apply IsS56.drew|apply IsS56.set_1|apply IsS56.set_2)|exact HI0.out));(case side2 => repeat (first|(with_reducible first|exact HB.out|apply lA|apply lN|apply lD|refine below_set ?_ (IsS56.ge HI0.out))|exact HB.out));rintro e w25 ⟨rfl,hi,hb,hk⟩;have n0_ := Aside0.mk (KeepBut.trans (by repeat (first|(with_reducible first|exact HK.out|apply KeepBut.set_|apply keep_drewN|apply keep_drew|apply keep_alloc)|exact HK.out)) hk (.inl rfl));have n1_ := Aside0.mk (hb);have n2_ := Aside0.mk (hi);clear HK;clear HB;clear HI0;have HK := n0_;have HB := n1_;have HI0 := n2_;clear n0_ n1_ n2_;(try clear hb);(try clear hb2);(try clear hk);(try clear hi))))
           go_ret
           exact ⟨by first|rfl|(simp [errW_none,errW_some] <;> rfl)|(simp only [← hsj11,← hsj18];first|rfl|(simp [errW_none,errW_some] <;> rfl))|(simp [*,errW_none,errW_some] <;> rfl),by repeat (first|(with_reducible first|exact HI0.out|apply IsS56.alloc|apply IsS56.drewN|apply IsS56.drew|apply IsS56.set_1|apply IsS56.set_2)|exact HI0.out),by repeat (first|(with_reducible first|exact HB.out|apply lA|apply lN|apply lD|refine below_set ?_ (IsS56.ge HI0.out))|exact HB.out),by repeat (first|(with_reducible first|exact HK.out|apply KeepBut.set_|apply keep_drewN|apply keep_drew|apply keep_alloc)|exact HK.out)⟩
          ·rw [if_neg c22] at H
           exact absurd H (by simp)
         ·rw [if_neg c19] at H
          exact absurd H (by simp)
        ·rw [if_neg c17] at H
         exact absurd H (by simp)
       ·rw [if_neg c16] at H
        exact absurd H (by simp)
      ·rw [if_neg c15] at H
       have c15b0 : (t177 == 0) = false := beq_eq_false_iff_ne.mpr c15
       have c15b1 : (t177 != 0) = true := bne_iff_ne.mpr c15
       by_cases c26 : t177 = 1
       ·rw [if_pos c26] at H
        have c26b0 : (t177 == 1) = true := beq_iff_eq.mpr c26
        have c26b1 : (t177 != 1) = false := bne_eq_false_iff_eq.mpr c26
        clear c26
        by_cases c27 : 0 ≤ t171
        ·rw [if_pos c27] at H
         have c27b0 := eq_true c27
         have c27b1 : decide (0 ≤ t171) = true := decide_eq_true c27
         clear c27
         by_cases c28 : t171 ≤ (a1.size : Int)
         ·rw [if_pos c28] at H
          have c28b0 := eq_true c28
          have c28b1 : decide (t171 ≤ (a1.size : Int)) = true := decide_eq_true c28
          clear c28
          by_cases c29 : (a1.extract 0 (t171 : Int).toNat).size + (sj11.extract 0 1).size ≤ 9223372036854775807
          ·rw [if_pos c29] at H
           have c29b0 := eq_true c29
           have c29b1 : decide ((a1.extract 0 (t171 : Int).toNat).size + (sj11.extract 0 1).size ≤ 9223372036854775807) = true := decide_eq_true c29
           try have c29b3 : (9223372036854775807 < min (t171 : Int).toNat a1.size + min 1 sj11.size) = False := eq_false (by have h_ := c29;simp only [ByteArray.size_append,ByteArray.size_extract] at h_;omega)
           try have c29b2 : (9223372036854775807 < (a1.extract 0 (t171 : Int).toNat).size + (sj11.extract 0 1).size) = False := eq_false (Nat.not_lt.2 c29)
           obtain ⟨ji30,hji30⟩ : ∃ j_ : Int,(wrap64 (t171 + 1)) = j_ := ⟨_,rfl⟩
           (try rw [hji30] at hsj11)
           (try rw [hji30] at hsj18)
           replace H : (if 0 ≤ (ji30) then (if (ji30) ≤ (a1.size : Int) then (if ((a1.extract 0 (t171 : Int).toNat) ++ (sj11.extract 0 1)).size + (a1.extract ((ji30) : Int).toNat a1.size).size ≤ 9223372036854775807 then (some (((a1.extract 0 (t171 : Int).toNat) ++ (sj11.extract 0 1)) ++ (a1.extract ((ji30) : Int).toNat a1.size),t178,t179)) else (none)) else (none)) else (none)) = some (r1,r2,r3) := by first|(rw [hji30] at H;exact H)|(simp only [hji30] at H ⊢;exact H)
           (try rw [hji30] at A7)
           (try rw [hji30] at A8)
           (try rw [hji30] at A14)
           have hji30w : (IntKind.i64.wrap (t171 + 1)) = ji30 := (i64_w _).trans hji30
           by_cases c31 : 0 ≤ (ji30)
           ·rw [if_pos c31] at H
            have c31b0 := eq_true c31
            have c31b1 : decide (0 ≤ (ji30)) = true := decide_eq_true c31
            clear c31
            by_cases c32 : (ji30) ≤ (a1.size : Int)
            ·rw [if_pos c32] at H
             have c32b0 := eq_true c32
             have c32b1 : decide ((ji30) ≤ (a1.size : Int)) = true := decide_eq_true c32
             clear c32
             obtain ⟨sj33,hsj33⟩ : ∃ s_ : ByteArray,(a1.extract ((ji30) : Int).toNat a1.size) = s_ := ⟨_,rfl⟩
             replace H : (if ((a1.extract 0 (t171 : Int).toNat) ++ (sj11.extract 0 1)).size + sj33.size ≤ 9223372036854775807 then (some (((a1.extract 0 (t171 : Int).toNat) ++ (sj11.extract 0 1)) ++ sj33,t178,t179)) else (none)) = some (r1,r2,r3) := by (have he_ : (a1.extract ((ji30) : Int).toNat a1.size) = sj33 := hsj33);first|(rw [he_] at H;exact H)|(simp only [he_] at H ⊢;exact H)
             (try rw [hsj33] at A7)
             (try rw [hsj33] at A8)
             (try rw [hsj33] at A14)
             by_cases c34 : ((a1.extract 0 (t171 : Int).toNat) ++ (sj11.extract 0 1)).size + sj33.size ≤ 9223372036854775807
             ·rw [if_pos c34] at H
              have c34b0 := eq_true c34
              have c34b1 : decide (((a1.extract 0 (t171 : Int).toNat) ++ (sj11.extract 0 1)).size + sj33.size ≤ 9223372036854775807) = true := decide_eq_true c34
              try have c34b3 : (9223372036854775807 < (a1.extract 0 (t171 : Int).toNat).size + (sj11.extract 0 1).size + sj33.size) = False := eq_false (by have h_ := c34;simp only [ByteArray.size_append,ByteArray.size_extract] at h_;omega)
              try have c34b4 : (9223372036854775807 < min (t171 : Int).toNat a1.size + min 1 sj11.size + sj33.size) = False := eq_false (by have h_ := c34;simp only [ByteArray.size_append,ByteArray.size_extract] at h_;omega)
              try have c34b2 : (9223372036854775807 < ((a1.extract 0 (t171 : Int).toNat) ++ (sj11.extract 0 1)).size + sj33.size) = False := eq_false (Nat.not_lt.2 c34)
              simp only [Option.some.injEq,Prod.mk.injEq] at H
              obtain ⟨rfl,rfl,rfl⟩ := H
              go_enter Tryd.func50,Tryd.ntmps50
              go_wp2_with (first|(go_at_call 49;(with_reducible refine (spec_l1Cur_pick.calls g s0_0 s0_1 s0_2 (a1.size : Int) t171 t172 t173 w0 _ ?side1 ?side2 A7.out).mono ?_);(case side1 => repeat (first|(with_reducible first|exact HI0.out|apply IsS56.alloc|apply IsS56.drewN|apply IsS56.drew|apply IsS56.set_1|apply IsS56.set_2)|exact HI0.out));(case side2 => repeat (first|(with_reducible first|exact HB.out|apply lA|apply lN|apply lD|refine below_set ?_ (IsS56.ge HI0.out))|exact HB.out));rintro e w35 ⟨rfl,hi,hb,hk⟩;have n0_ := Aside0.mk (KeepBut.trans (by repeat (first|(with_reducible first|exact HK.out|apply KeepBut.set_|apply keep_drewN|apply keep_drew|apply keep_alloc)|exact HK.out)) hk (.inl rfl));have n1_ := Aside0.mk (hb);have n2_ := Aside0.mk (hi);clear HK;clear HB;clear HI0;have HK := n0_;have HB := n1_;have HI0 := n2_;clear n0_ n1_ n2_;(try clear hb);(try clear hb2);(try clear hk);(try clear hi))|(go_at_call 49;(with_reducible refine (spec_l1Cur_pick.calls g s0_0 t172 t173 (a2.size : Int) t174 t175 t176 w0 _ ?side1 ?side2 A8.out).mono ?_);(case side1 => repeat (first|(with_reducible first|exact HI0.out|apply IsS56.alloc|apply IsS56.drewN|apply IsS56.drew|apply IsS56.set_1|apply IsS56.set_2)|exact HI0.out));(case side2 => repeat (first|(with_reducible first|exact HB.out|apply lA|apply lN|apply lD|refine below_set ?_ (IsS56.ge HI0.out))|exact HB.out));rintro e w36 ⟨rfl,hi,hb,hk⟩;have n0_ := Aside0.mk (KeepBut.trans (by repeat (first|(with_reducible first|exact HK.out|apply KeepBut.set_|apply keep_drewN|apply keep_drew|apply keep_alloc)|exact HK.out)) hk (.inl rfl));have n1_ := Aside0.mk (hb);have n2_ := Aside0.mk (hi);clear HK;clear HB;clear HI0;have HK := n0_;have HB := n1_;have HI0 := n2_;clear n0_ n1_ n2_;(try clear hb);(try clear hb2);(try clear hk);(try clear hi))|(go_at_call 49;(with_reducible refine (spec_l1Cur_pick.calls g s0_0 t175 t176 3 t177 t178 t179 w0 _ ?side1 ?side2 A14.out).mono ?_);(case side1 => repeat (first|(with_reducible first|exact HI0.out|apply IsS56.alloc|apply IsS56.drewN|apply IsS56.drew|apply IsS56.set_1|apply IsS56.set_2)|exact HI0.out));(case side2 => repeat (first|(with_reducible first|exact HB.out|apply lA|apply lN|apply lD|refine below_set ?_ (IsS56.ge HI0.out))|exact HB.out));rintro e w37 ⟨rfl,hi,hb,hk⟩;have n0_ := Aside0.mk (KeepBut.trans (by repeat (first|(with_reducible first|exact HK.out|apply KeepBut.set_|apply keep_drewN|apply keep_drew|apply keep_alloc)|exact HK.out)) hk (.inl rfl));have n1_ := Aside0.mk (hb);have n2_ := Aside0.mk (hi);clear HK;clear HB;clear HI0;have HK := n0_;have HB := n1_;have HI0 := n2_;clear n0_ n1_ n2_;(try clear hb);(try clear hb2);(try clear hk);(try clear hi)))
              repeat (go_quiet (first|(go_at_call 49;(with_reducible refine (spec_l1Cur_pick.calls g s0_0 s0_1 s0_2 (a1.size : Int) t171 t172 t173 w0 _ ?side1 ?side2 A7.out).mono ?_);(case side1 => repeat (first|(with_reducible first|exact HI0.out|apply IsS56.alloc|apply IsS56.drewN|apply IsS56.drew|apply IsS56.set_1|apply IsS56.set_2)|exact HI0.out));(case side2 => repeat (first|(with_reducible first|exact HB.out|apply lA|apply lN|apply lD|refine below_set ?_ (IsS56.ge HI0.out))|exact HB.out));rintro e w35 ⟨rfl,hi,hb,hk⟩;have n0_ := Aside0.mk (KeepBut.trans (by repeat (first|(with_reducible first|exact HK.out|apply KeepBut.set_|apply keep_drewN|apply keep_drew|apply keep_alloc)|exact HK.out)) hk (.inl rfl));have n1_ := Aside0.mk (hb);have n2_ := Aside0.mk (hi);clear HK;clear HB;clear HI0;have HK := n0_;have HB := n1_;have HI0 := n2_;clear n0_ n1_ n2_;(try clear hb);(try clear hb2);(try clear hk);(try clear hi))|(go_at_call 49;(with_reducible refine (spec_l1Cur_pick.calls g s0_0 t172 t173 (a2.size : Int) t174 t175 t176 w0 _ ?side1 ?side2 A8.out).mono ?_);(case side1 => repeat (first|(with_reducible first|exact HI0.out|apply IsS56.alloc|apply IsS56.drewN|apply IsS56.drew|apply IsS56.set_1|apply IsS56.set_2)|exact HI0.out));(case side2 => repeat (first|(with_reducible first|exact HB.out|apply lA|apply lN|apply lD|refine below_set ?_ (IsS56.ge HI0.out))|exact HB.out));rintro e w36 ⟨rfl,hi,hb,hk⟩;have n0_ := Aside0.mk (KeepBut.trans (by repeat (first|(with_reducible first|exact HK.out|apply KeepBut.set_|apply keep_drewN|apply keep_drew|apply keep_alloc)|exact HK.out)) hk (.inl rfl));have n1_ := Aside0.mk (hb);have n2_ := Aside0.mk (hi);clear HK;clear HB;clear HI0;have HK := n0_;have HB := n1_;have HI0 := n2_;clear n0_ n1_ n2_;(try clear hb);(try clear hb2);(try clear hk);(try clear hi))|(go_at_call 49;(with_reducible refine (spec_l1Cur_pick.calls g s0_0 t175 t176 3 t177 t178 t179 w0 _ ?side1 ?side2 A14.out).mono ?_);(case side1 => repeat (first|(with_reducible first|exact HI0.out|apply IsS56.alloc|apply IsS56.drewN|apply IsS56.drew|apply IsS56.set_1|apply IsS56.set_2)|exact HI0.out));(case side2 => repeat (first|(with_reducible first|exact HB.out|apply lA|apply lN|apply lD|refine below_set ?_ (IsS56.ge HI0.out))|exact HB.out));rintro e w37 ⟨rfl,hi,hb,hk⟩;have n0_ := Aside0.mk (KeepBut.trans (by repeat (first|(with_reducible first|exact HK.out|apply KeepBut.set_|apply keep_drewN|apply keep_drew|apply keep_alloc)|exact HK.out)) hk (.inl rfl));have n1_ := Aside0.mk (hb);have n2_ := Aside0.mk (hi);clear HK;clear HB;clear HI0;have HK := n0_;have HB := n1_;have HI0 := n2_;clear n0_ n1_ n2_;(try clear hb);(try clear hb2);(try clear hk);(try clear hi)));try go_wp2_with (first|(go_at_call 49;(with_reducible refine (spec_l1Cur_pick.calls g s0_0 s0_1 s0_2 (a1.size : Int) t171 t172 t173 w0 _ ?side1 ?side2 A7.out).mono ?_);(case side1 => repeat (first|(with_reducible first|exact HI0.out|apply IsS56.alloc|apply IsS56.drewN|apply IsS56.drew|apply IsS56.set_1|apply IsS56.set_2)|exact HI0.out));(case side2 => repeat (first|(with_reducible first|exact HB.out|apply lA|apply lN|apply lD|refine below_set ?_ (IsS56.ge HI0.out))|exact HB.out));rintro e w35 ⟨rfl,hi,hb,hk⟩;have n0_ := Aside0.mk (KeepBut.trans (by repeat (first|(with_reducible first|exact HK.out|apply KeepBut.set_|apply keep_drewN|apply keep_drew|apply keep_alloc)|exact HK.out)) hk (.inl rfl));have n1_ := Aside0.mk (hb);have n2_ := Aside0.mk (hi);clear HK;clear HB;clear HI0;have HK := n0_;have HB := n1_;have HI0 := n2_;clear n0_ n1_ n2_;(try clear hb);(try clear hb2);(try clear hk);(try clear hi))|(go_at_call 49;(with_reducible refine (spec_l1Cur_pick.calls g s0_0 t172 t173 (a2.size : Int) t174 t175 t176 w0 _ ?side1 ?side2 A8.out).mono ?_);(case side1 => repeat (first|(with_reducible first|exact HI0.out|apply IsS56.alloc|apply IsS56.drewN|apply IsS56.drew|apply IsS56.set_1|apply IsS56.set_2)|exact HI0.out));(case side2 => repeat (first|(with_reducible first|exact HB.out|apply lA|apply lN|apply lD|refine below_set ?_ (IsS56.ge HI0.out))|exact HB.out));rintro e w36 ⟨rfl,hi,hb,hk⟩;have n0_ := Aside0.mk (KeepBut.trans (by repeat (first|(with_reducible first|exact HK.out|apply KeepBut.set_|apply keep_drewN|apply keep_drew|apply keep_alloc)|exact HK.out)) hk (.inl rfl));have n1_ := Aside0.mk (hb);have n2_ := Aside0.mk (hi);clear HK;clear HB;clear HI0;have HK := n0_;have HB := n1_;have HI0 := n2_;clear n0_ n1_ n2_;(try clear hb);(try clear hb2);(try clear hk);(try clear hi))|(go_at_call 49;(with_reducible refine (spec_l1Cur_pick.calls g s0_0 t175 t176 3 t177 t178 t179 w0 _ ?side1 ?side2 A14.out).mono ?_);(case side1 => repeat (first|(with_reducible first|exact HI0.out|apply IsS56.alloc|apply IsS56.drewN|apply IsS56.drew|apply IsS56.set_1|apply IsS56.set_2)|exact HI0.out));(case side2 => repeat (first|(with_reducible first|exact HB.out|apply lA|apply lN|apply lD|refine below_set ?_ (IsS56.ge HI0.out))|exact HB.out));rintro e w37 ⟨rfl,hi,hb,hk⟩;have n0_ := Aside0.mk (KeepBut.trans (by repeat (first|(with_reducible first|exact HK.out|apply KeepBut.set_|apply keep_drewN|apply keep_drew|apply keep_alloc)|exact HK.out)) hk (.inl rfl));have n1_ := Aside0.mk (hb);have n2_ := Aside0.mk (hi);clear HK;clear HB;clear HI0;have HK := n0_;have HB := n1_;have HI0 := n2_;clear n0_ n1_ n2_;(try clear hb);(try clear hb2);(try clear hk);(try clear hi))))
              go_ret
              exact ⟨by first|rfl|(simp [errW_none,errW_some] <;> rfl)|(simp only [← hsj11,← hji30,← hsj33];first|rfl|(simp [errW_none,errW_some] <;> rfl))|(simp [*,errW_none,errW_some] <;> rfl),by repeat (first|(with_reducible first|exact HI0.out|apply IsS56.alloc|apply IsS56.drewN|apply IsS56.drew|apply IsS56.set_1|apply IsS56.set_2)|exact HI0.out),by repeat (first|(with_reducible first|exact HB.out|apply lA|apply lN|apply lD|refine below_set ?_ (IsS56.ge HI0.out))|exact HB.out),by repeat (first|(with_reducible first|exact HK.out|apply KeepBut.set_|apply keep_drewN|apply keep_drew|apply keep_alloc)|exact HK.out)⟩
             ·rw [if_neg c34] at H
              exact absurd H (by simp)
            ·rw [if_neg c32] at H
             exact absurd H (by simp)
           ·rw [if_neg c31] at H
            exact absurd H (by simp)
          ·rw [if_neg c29] at H
           exact absurd H (by simp)
         ·rw [if_neg c28] at H
          exact absurd H (by simp)
        ·rw [if_neg c27] at H
         exact absurd H (by simp)
       ·rw [if_neg c26] at H
        have c26b0 : (t177 == 1) = false := beq_eq_false_iff_ne.mpr c26
        have c26b1 : (t177 != 1) = true := bne_iff_ne.mpr c26
        by_cases c38 : 0 ≤ t171
        ·rw [if_pos c38] at H
         have c38b0 := eq_true c38
         have c38b1 : decide (0 ≤ t171) = true := decide_eq_true c38
         clear c38
         by_cases c39 : t171 ≤ (a1.size : Int)
         ·rw [if_pos c39] at H
          have c39b0 := eq_true c39
          have c39b1 : decide (t171 ≤ (a1.size : Int)) = true := decide_eq_true c39
          clear c39
          obtain ⟨ji40,hji40⟩ : ∃ j_ : Int,(wrap64 (t171 + 1)) = j_ := ⟨_,rfl⟩
          (try rw [hji40] at hsj11)
          (try rw [hji40] at hsj18)
          (try rw [hji40] at hsj33)
          replace H : (if 0 ≤ (ji40) then (if (ji40) ≤ (a1.size : Int) then (if (a1.extract 0 (t171 : Int).toNat).size + (a1.extract ((ji40) : Int).toNat a1.size).size ≤ 9223372036854775807 then (some ((a1.extract 0 (t171 : Int).toNat) ++ (a1.extract ((ji40) : Int).toNat a1.size),t178,t179)) else (none)) else (none)) else (none)) = some (r1,r2,r3) := by first|(rw [hji40] at H;exact H)|(simp only [hji40] at H ⊢;exact H)
          (try rw [hji40] at A7)
          (try rw [hji40] at A8)
          (try rw [hji40] at A14)
          have hji40w : (IntKind.i64.wrap (t171 + 1)) = ji40 := (i64_w _).trans hji40
          by_cases c41 : 0 ≤ (ji40)
          ·rw [if_pos c41] at H
           have c41b0 := eq_true c41
           have c41b1 : decide (0 ≤ (ji40)) = true := decide_eq_true c41
           clear c41
           by_cases c42 : (ji40) ≤ (a1.size : Int)
           ·rw [if_pos c42] at H
            have c42b0 := eq_true c42
            have c42b1 : decide ((ji40) ≤ (a1.size : Int)) = true := decide_eq_true c42
            clear c42
            obtain ⟨sj43,hsj43⟩ : ∃ s_ : ByteArray,(a1.extract ((ji40) : Int).toNat a1.size) = s_ := ⟨_,rfl⟩
            replace H : (if (a1.extract 0 (t171 : Int).toNat).size + sj43.size ≤ 9223372036854775807 then (some ((a1.extract 0 (t171 : Int).toNat) ++ sj43,t178,t179)) else (none)) = some (r1,r2,r3) := by (have he_ : (a1.extract ((ji40) : Int).toNat a1.size) = sj43 := hsj43);first|(rw [he_] at H;exact H)|(simp only [he_] at H ⊢;exact H)
            (try rw [hsj43] at A7)
            (try rw [hsj43] at A8)
            (try rw [hsj43] at A14)
            by_cases c44 : (a1.extract 0 (t171 : Int).toNat).size + sj43.size ≤ 9223372036854775807
            ·rw [if_pos c44] at H
             have c44b0 := eq_true c44
             have c44b1 : decide ((a1.extract 0 (t171 : Int).toNat).size + sj43.size ≤ 9223372036854775807) = true := decide_eq_true c44
             try have c44b3 : (9223372036854775807 < min (t171 : Int).toNat a1.size + sj43.size) = False := eq_false (by have h_ := c44;simp only [ByteArray.size_append,ByteArray.size_extract] at h_;omega)
             try have c44b2 : (9223372036854775807 < (a1.extract 0 (t171 : Int).toNat).size + sj43.size) = False := eq_false (Nat.not_lt.2 c44)
             simp only [Option.some.injEq,Prod.mk.injEq] at H
             obtain ⟨rfl,rfl,rfl⟩ := H
             go_enter Tryd.func50,Tryd.ntmps50
             go_wp2_with (first|(go_at_call 49;(with_reducible refine (spec_l1Cur_pick.calls g s0_0 s0_1 s0_2 (a1.size : Int) t171 t172 t173 w0 _ ?side1 ?side2 A7.out).mono ?_);(case side1 => repeat (first|(with_reducible first|exact HI0.out|apply IsS56.alloc|apply IsS56.drewN|apply IsS56.drew|apply IsS56.set_1|apply IsS56.set_2)|exact HI0.out));(case side2 => repeat (first|(with_reducible first|exact HB.out|apply lA|apply lN|apply lD|refine below_set ?_ (IsS56.ge HI0.out))|exact HB.out));rintro e w45 ⟨rfl,hi,hb,hk⟩;have n0_ := Aside0.mk (KeepBut.trans (by repeat (first|(with_reducible first|exact HK.out|apply KeepBut.set_|apply keep_drewN|apply keep_drew|apply keep_alloc)|exact HK.out)) hk (.inl rfl));have n1_ := Aside0.mk (hb);have n2_ := Aside0.mk (hi);clear HK;clear HB;clear HI0;have HK := n0_;have HB := n1_;have HI0 := n2_;clear n0_ n1_ n2_;(try clear hb);(try clear hb2);(try clear hk);(try clear hi))|(go_at_call 49;(with_reducible refine (spec_l1Cur_pick.calls g s0_0 t172 t173 (a2.size : Int) t174 t175 t176 w0 _ ?side1 ?side2 A8.out).mono ?_);(case side1 => repeat (first|(with_reducible first|exact HI0.out|apply IsS56.alloc|apply IsS56.drewN|apply IsS56.drew|apply IsS56.set_1|apply IsS56.set_2)|exact HI0.out));(case side2 => repeat (first|(with_reducible first|exact HB.out|apply lA|apply lN|apply lD|refine below_set ?_ (IsS56.ge HI0.out))|exact HB.out));rintro e w46 ⟨rfl,hi,hb,hk⟩;have n0_ := Aside0.mk (KeepBut.trans (by repeat (first|(with_reducible first|exact HK.out|apply KeepBut.set_|apply keep_drewN|apply keep_drew|apply keep_alloc)|exact HK.out)) hk (.inl rfl));have n1_ := Aside0.mk (hb);have n2_ := Aside0.mk (hi);clear HK;clear HB;clear HI0;have HK := n0_;have HB := n1_;have HI0 := n2_;clear n0_ n1_ n2_;(try clear hb);(try clear hb2);(try clear hk);(try clear hi))|(go_at_call 49;(with_reducible refine (spec_l1Cur_pick.calls g s0_0 t175 t176 3 t177 t178 t179 w0 _ ?side1 ?side2 A14.out).mono ?_);(case side1 => repeat (first|(with_reducible first|exact HI0.out|apply IsS56.alloc|apply IsS56.drewN|apply IsS56.drew|apply IsS56.set_1|apply IsS56.set_2)|exact HI0.out));(case side2 => repeat (first|(with_reducible first|exact HB.out|apply lA|apply lN|apply lD|refine below_set ?_ (IsS56.ge HI0.out))|exact HB.out));rintro e w47 ⟨rfl,hi,hb,hk⟩;have n0_ := Aside0.mk (KeepBut.trans (by repeat (first|(with_reducible first|exact HK.out|apply KeepBut.set_|apply keep_drewN|apply keep_drew|apply keep_alloc)|exact HK.out)) hk (.inl rfl));have n1_ := Aside0.mk (hb);have n2_ := Aside0.mk (hi);clear HK;clear HB;clear HI0;have HK := n0_;have HB := n1_;have HI0 := n2_;clear n0_ n1_ n2_;(try clear hb);(try clear hb2);(try clear hk);(try clear hi)))
             repeat (go_quiet (first|(go_at_call 49;(with_reducible refine (spec_l1Cur_pick.calls g s0_0 s0_1 s0_2 (a1.size : Int) t171 t172 t173 w0 _ ?side1 ?side2 A7.out).mono ?_);(case side1 => repeat (first|(with_reducible first|exact HI0.out|apply IsS56.alloc|apply IsS56.drewN|apply IsS56.drew|apply IsS56.set_1|apply IsS56.set_2)|exact HI0.out));(case side2 => repeat (first|(with_reducible first|exact HB.out|apply lA|apply lN|apply lD|refine below_set ?_ (IsS56.ge HI0.out))|exact HB.out));rintro e w45 ⟨rfl,hi,hb,hk⟩;have n0_ := Aside0.mk (KeepBut.trans (by repeat (first|(with_reducible first|exact HK.out|apply KeepBut.set_|apply keep_drewN|apply keep_drew|apply keep_alloc)|exact HK.out)) hk (.inl rfl));have n1_ := Aside0.mk (hb);have n2_ := Aside0.mk (hi);clear HK;clear HB;clear HI0;have HK := n0_;have HB := n1_;have HI0 := n2_;clear n0_ n1_ n2_;(try clear hb);(try clear hb2);(try clear hk);(try clear hi))|(go_at_call 49;(with_reducible refine (spec_l1Cur_pick.calls g s0_0 t172 t173 (a2.size : Int) t174 t175 t176 w0 _ ?side1 ?side2 A8.out).mono ?_);(case side1 => repeat (first|(with_reducible first|exact HI0.out|apply IsS56.alloc|apply IsS56.drewN|apply IsS56.drew|apply IsS56.set_1|apply IsS56.set_2)|exact HI0.out));(case side2 => repeat (first|(with_reducible first|exact HB.out|apply lA|apply lN|apply lD|refine below_set ?_ (IsS56.ge HI0.out))|exact HB.out));rintro e w46 ⟨rfl,hi,hb,hk⟩;have n0_ := Aside0.mk (KeepBut.trans (by repeat (first|(with_reducible first|exact HK.out|apply KeepBut.set_|apply keep_drewN|apply keep_drew|apply keep_alloc)|exact HK.out)) hk (.inl rfl));have n1_ := Aside0.mk (hb);have n2_ := Aside0.mk (hi);clear HK;clear HB;clear HI0;have HK := n0_;have HB := n1_;have HI0 := n2_;clear n0_ n1_ n2_;(try clear hb);(try clear hb2);(try clear hk);(try clear hi))|(go_at_call 49;(with_reducible refine (spec_l1Cur_pick.calls g s0_0 t175 t176 3 t177 t178 t179 w0 _ ?side1 ?side2 A14.out).mono ?_);(case side1 => repeat (first|(with_reducible first|exact HI0.out|apply IsS56.alloc|apply IsS56.drewN|apply IsS56.drew|apply IsS56.set_1|apply IsS56.set_2)|exact HI0.out));(case side2 => repeat (first|(with_reducible first|exact HB.out|apply lA|apply lN|apply lD|refine below_set ?_ (IsS56.ge HI0.out))|exact HB.out));rintro e w47 ⟨rfl,hi,hb,hk⟩;have n0_ := Aside0.mk (KeepBut.trans (by repeat (first|(with_reducible first|exact HK.out|apply KeepBut.set_|apply keep_drewN|apply keep_drew|apply keep_alloc)|exact HK.out)) hk (.inl rfl));have n1_ := Aside0.mk (hb);have n2_ := Aside0.mk (hi);clear HK;clear HB;clear HI0;have HK := n0_;have HB := n1_;have HI0 := n2_;clear n0_ n1_ n2_;(try clear hb);(try clear hb2);(try clear hk);(try clear hi)));try go_wp2_with (first|(go_at_call 49;(with_reducible refine (spec_l1Cur_pick.calls g s0_0 s0_1 s0_2 (a1.size : Int) t171 t172 t173 w0 _ ?side1 ?side2 A7.out).mono ?_);(case side1 => repeat (first|(with_reducible first|exact HI0.out|apply IsS56.alloc|apply IsS56.drewN|apply IsS56.drew|apply IsS56.set_1|apply IsS56.set_2)|exact HI0.out));(case side2 => repeat (first|(with_reducible first|exact HB.out|apply lA|apply lN|apply lD|refine below_set ?_ (IsS56.ge HI0.out))|exact HB.out));rintro e w45 ⟨rfl,hi,hb,hk⟩;have n0_ := Aside0.mk (KeepBut.trans (by repeat (first|(with_reducible first|exact HK.out|apply KeepBut.set_|apply keep_drewN|apply keep_drew|apply keep_alloc)|exact HK.out)) hk (.inl rfl));have n1_ := Aside0.mk (hb);have n2_ := Aside0.mk (hi);clear HK;clear HB;clear HI0;have HK := n0_;have HB := n1_;have HI0 := n2_;clear n0_ n1_ n2_;(try clear hb);(try clear hb2);(try clear hk);(try clear hi))|(go_at_call 49;(with_reducible refine (spec_l1Cur_pick.calls g s0_0 t172 t173 (a2.size : Int) t174 t175 t176 w0 _ ?side1 ?side2 A8.out).mono ?_);(case side1 => repeat (first|(with_reducible first|exact HI0.out|apply IsS56.alloc|apply IsS56.drewN|apply IsS56.drew|apply IsS56.set_1|apply IsS56.set_2)|exact HI0.out));(case side2 => repeat (first|(with_reducible first|exact HB.out|apply lA|apply lN|apply lD|refine below_set ?_ (IsS56.ge HI0.out))|exact HB.out));rintro e w46 ⟨rfl,hi,hb,hk⟩;have n0_ := Aside0.mk (KeepBut.trans (by repeat (first|(with_reducible first|exact HK.out|apply KeepBut.set_|apply keep_drewN|apply keep_drew|apply keep_alloc)|exact HK.out)) hk (.inl rfl));have n1_ := Aside0.mk (hb);have n2_ := Aside0.mk (hi);clear HK;clear HB;clear HI0;have HK := n0_;have HB := n1_;have HI0 := n2_;clear n0_ n1_ n2_;(try clear hb);(try clear hb2);(try clear hk);(try clear hi))|(go_at_call 49;(with_reducible refine (spec_l1Cur_pick.calls g s0_0 t175 t176 3 t177 t178 t179 w0 _ ?side1 ?side2 A14.out).mono ?_);(case side1 => repeat (first|(with_reducible first|exact HI0.out|apply IsS56.alloc|apply IsS56.drewN|apply IsS56.drew|apply IsS56.set_1|apply IsS56.set_2)|exact HI0.out));(case side2 => repeat (first|(with_reducible first|exact HB.out|apply lA|apply lN|apply lD|refine below_set ?_ (IsS56.ge HI0.out))|exact HB.out));rintro e w47 ⟨rfl,hi,hb,hk⟩;have n0_ := Aside0.mk (KeepBut.trans (by repeat (first|(with_reducible first|exact HK.out|apply KeepBut.set_|apply keep_drewN|apply keep_drew|apply keep_alloc)|exact HK.out)) hk (.inl rfl));have n1_ := Aside0.mk (hb);have n2_ := Aside0.mk (hi);clear HK;clear HB;clear HI0;have HK := n0_;have HB := n1_;have HI0 := n2_;clear n0_ n1_ n2_;(try clear hb);(try clear hb2);(try clear hk);(try clear hi))))
             go_ret
             exact ⟨by first|rfl|(simp [errW_none,errW_some] <;> rfl)|(simp only [← hsj11,← hji40,← hsj43];first|rfl|(simp [errW_none,errW_some] <;> rfl))|(simp [*,errW_none,errW_some] <;> rfl),by repeat (first|(with_reducible first|exact HI0.out|apply IsS56.alloc|apply IsS56.drewN|apply IsS56.drew|apply IsS56.set_1|apply IsS56.set_2)|exact HI0.out),by repeat (first|(with_reducible first|exact HB.out|apply lA|apply lN|apply lD|refine below_set ?_ (IsS56.ge HI0.out))|exact HB.out),by repeat (first|(with_reducible first|exact HK.out|apply KeepBut.set_|apply keep_drewN|apply keep_drew|apply keep_alloc)|exact HK.out)⟩
            ·rw [if_neg c44] at H
             exact absurd H (by simp)
           ·rw [if_neg c42] at H
            exact absurd H (by simp)
          ·rw [if_neg c41] at H
           exact absurd H (by simp)
         ·rw [if_neg c39] at H
          exact absurd H (by simp)
        ·rw [if_neg c38] at H
         exact absurd H (by simp)
     ·rw [if_neg c13] at H
      exact absurd H (by simp)
    ·rw [if_neg c12] at H
     exact absurd H (by simp)
   ·rw [if_neg c10] at H
    exact absurd H (by simp)
  ·rw [if_neg c9] at H
   exact absurd H (by simp)
def spec_l1Cur_among.f (s0_0 : List Int) (s0_1 : Int) (s0_2 : Int) (l1 : List Int) : Option (Int × Int × Int) := (spec_l1Cur_pick.f s0_0 s0_1 s0_2 (l1.length : Int)).bind fun bt180 => (if 0 ≤ bt180.1 then (if bt180.1 < (l1.length : Int) then (some (rd l1 bt180.1,bt180.2.1,bt180.2.2)) else (none)) else (none))
set_option maxHeartbeats 8000000 in
set_option maxRecDepth 100000 in
theorem spec_l1Cur_among.calls (g : Nat) (s0_0 : List Int) (s0_1 : Int) (s0_2 : Int) (A1 : Option Addr) (c1 : Nat) (l1 : List Int) (r1 : Int) (r2 : Int) (r3 : Int) (w0 w : World) (hI : IsS56 w0 w g s0_0 s0_1 s0_2) (hB : Below w0.heap.size w0 w) (hr1 : Kd.C (Kd.int .i64) w A1 l1.length l1) (hc1 : l1.length ≤ c1) (hf1 : ∀ ad,A1 = some ad → 0 < l1.length → ad.block ≠ g) (h : spec_l1Cur_among.f s0_0 s0_1 s0_2 l1 = some (r1,r2,r3)) :
  Calls Tryd.prog 52 #[.pointer (some ⟨g,0,none⟩),.slice A1 l1.length c1] w fun e w' => e = .returned (.int .i64 r1) ∧ IsS56 w0 w' g s0_0 r2 r3 ∧ Below w0.heap.size w0 w' ∧ KeepBut w w' g none := by
 have HR1 := Aside0.mk hr1
 have HC1 := Aside0.mk hc1
 clear hr1 hc1
 have HI0 := Aside0.mk hI
 have HK := Aside0.mk (KeepBut.refl w g none)
 have HL := Aside0.mk hB.size
 clear hI
 have HW0 := Aside0.mk hB.size
 have HB := Aside0.mk hB
 clear hB
 have H : ((spec_l1Cur_pick.f s0_0 s0_1 s0_2 (l1.length : Int)).bind fun bt180 => (if 0 ≤ bt180.1 then (if bt180.1 < (l1.length : Int) then (some (rd l1 bt180.1,bt180.2.1,bt180.2.2)) else (none)) else (none))) = some (r1,r2,r3) := h
 clear h
 replace H := Option.bind_eq_some_iff.mp H
 obtain ⟨⟨t180,t181,t182⟩,A30,H⟩ := H
 replace H : (if 0 ≤ t180 then (if t180 < (l1.length : Int) then (some (rd l1 t180,t181,t182)) else (none)) else (none)) = some (r1,r2,r3) := H
 have A3 := Aside0.mk A30
 clear A30
 by_cases c4 : 0 ≤ t180
 ·rw [if_pos c4] at H
  have c4b0 : decide (0 ≤ t180) = true := decide_eq_true c4
  clear c4
  by_cases c5 : t180 < (l1.length : Int)
  ·rw [if_pos c5] at H
   have c5b0 : decide (t180 < (l1.length : Int)) = true := decide_eq_true c5
   clear c5
   simp only [Option.some.injEq,Prod.mk.injEq] at H
   obtain ⟨rfl,rfl,rfl⟩ := H
   go_enter Tryd.func52,Tryd.ntmps52
   go_wp2_with (first|((with_reducible refine gate_callee (f := 49) rfl ?_);refine goesL_ (some 9) rfl rfl Tryd.func49 (by kernel_rfl) rfl #[.pointer (some ⟨g,0,none⟩),.int .i64 (l1.length : Int)] rfl (by (try simp only [List.map_toArray,List.map_cons,List.map_nil]);first|done|rfl|(simp only [List.length_drop,List.length_take];rfl)) ?_;(with_reducible refine (spec_l1Cur_pick.calls g s0_0 s0_1 s0_2 (l1.length : Int) t180 t181 t182 w0 _ ?side1 ?side2 A3.out).mono ?_);(case side1 => repeat (first|(with_reducible first|exact HI0.out|apply IsS56.alloc|apply IsS56.drewN|apply IsS56.drew|apply IsS56.set_1|apply IsS56.set_2)|exact HI0.out));(case side2 => repeat (first|(with_reducible first|exact HB.out|apply lA|apply lN|apply lD|refine below_set ?_ (IsS56.ge HI0.out))|exact HB.out));rintro e w6 ⟨rfl,hi,hb,hk⟩;refine ⟨_,rfl,?_⟩;have n0_ := Aside0.mk (KeepBut.trans (by repeat (first|(with_reducible first|exact HK.out|apply KeepBut.set_|apply keep_drewN|apply keep_drew|apply keep_alloc)|exact HK.out)) hk (.inl rfl));have n1_ := Aside0.mk (hb);have n2_ := Aside0.mk (hi);clear HK;clear HB;clear HI0;have HK := n0_;have HB := n1_;have HI0 := n2_;clear n0_ n1_ n2_;(try clear hb);(try clear hb2);(try clear hk);(try clear hi);have p183 : 0 ≤ (t180 : Int) := of_decide_eq_true (by first|(with_reducible assumption)|assumption);have q183 : t180 < (l1.length : Int) := of_decide_eq_true (by first|(with_reducible assumption)|assumption);obtain ⟨ad183,e183,hx183_0⟩ := Kd.at_int HR1.out t180 p183 q183;cases e183;replace hx183_0 := keep_cell HK.out hx183_0 (by first|(rw [add_block];exact hf1 _ rfl (by omega))|exact hf1 _ rfl (by omega)|exact hf1 ad183 rfl (by omega));replace p183 := eq_true p183;replace q183 := eq_true q183))
   go_ret
   exact ⟨by first|rfl|(simp [errW_none,errW_some] <;> rfl)|(simp [*,errW_none,errW_some] <;> rfl),by repeat (first|(with_reducible first|exact HI0.out|apply IsS56.alloc|apply IsS56.drewN|apply IsS56.drew|apply IsS56.set_1|apply IsS56.set_2)|exact HI0.out),by repeat (first|(with_reducible first|exact HB.out|apply lA|apply lN|apply lD|refine below_set ?_ (IsS56.ge HI0.out))|exact HB.out),by repeat (first|(with_reducible first|exact HK.out|apply KeepBut.set_|apply keep_drewN|apply keep_drew|apply keep_alloc)|exact HK.out)⟩
  ·rw [if_neg c5] at H
   exact absurd H (by simp)
 ·rw [if_neg c4] at H
  exact absurd H (by simp)
def spec_DrawCheckIdentifier.f (k : Nat) (l0 : List Int) : Option (ByteArray) := (spec_l1Cur_kind24.f l0 0 0).bind fun bt185 => ((spec_l1Cur_id24.f k l0 bt185.2.1 bt185.2.2 bt185.1).bind fun bt188 => ((spec_l1Cur_pick.f l0 bt188.2.1 bt188.2.2 6).bind fun bt191 => (if bt191.1 = 0 then ((spec_l1Cur_spoilt.f l0 bt191.2.1 bt191.2.2 bt188.1 (⟨#[48,88,49,57,45]⟩ : ByteArray)).bind fun bt194 => (some bt194.1)) else (if bt191.1 = 1 then ((spec_l1Cur_among.f l0 bt191.2.1 bt191.2.2 (([8,10,13,16,9] : List Int))).bind fun bt200 => ((spec_l1Cur_digits24.f k l0 bt200.2.1 bt200.2.2 bt200.1).bind fun bt203 => (some bt203.1))) else (some bt188.1)))))
theorem spec_DrawCheckIdentifier.mono : ∀ a0 k,LeO (spec_DrawCheckIdentifier.f k a0) (spec_DrawCheckIdentifier.f (k + 1) a0) := by
 intro a0 k
 unfold spec_DrawCheckIdentifier.f
 repeat' first
   | (with_reducible exact spec_l1Cur_digits24.mono _ _ _ _ _)
   | (with_reducible exact spec_l1Cur_id24.mono _ _ _ _ _)
   | (with_reducible exact LeO.refl _)
   | (with_reducible exact LeO.none _)
   | (with_reducible refine LeO.ite ?_ ?_)
   | (with_reducible refine LeO.bind ?_ (fun _ => ?_))
   | exact spec_l1Cur_digits24.mono _ _ _ _ _
   | exact spec_l1Cur_id24.mono _ _ _ _ _
   | exact LeO.none _
   | refine LeO.ite ?_ ?_
   | refine LeO.bind ?_ (fun _ => ?_)
set_option maxHeartbeats 8000000 in
set_option maxRecDepth 100000 in
theorem spec_DrawCheckIdentifier.calls (k : Nat) (A0 : Option Addr) (c0 : Nat) (l0 : List Int) (r : ByteArray) (w : World) (hr0 : Kd.C (Kd.int .u8) w A0 l0.length l0) (hc0 : l0.length ≤ c0) (h : spec_DrawCheckIdentifier.f k l0 = some r) :
  Calls Tryd.prog 20 #[.slice A0 l0.length c0] w fun e w' => e = .returned (.string r) ∧ Below w.heap.size w w' := by
 have hu56 := Tryd.underlying56
 have HR0 := Aside0.mk hr0
 have HC0 := Aside0.mk hc0
 clear hr0 hc0
 have HB := Aside0.mk (Below.refl w.heap.size w)
 have H : ((spec_l1Cur_kind24.f l0 0 0).bind fun bt185 => ((spec_l1Cur_id24.f k l0 bt185.2.1 bt185.2.2 bt185.1).bind fun bt188 => ((spec_l1Cur_pick.f l0 bt188.2.1 bt188.2.2 6).bind fun bt191 => (if bt191.1 = 0 then ((spec_l1Cur_spoilt.f l0 bt191.2.1 bt191.2.2 bt188.1 (⟨#[48,88,49,57,45]⟩ : ByteArray)).bind fun bt194 => (some bt194.1)) else (if bt191.1 = 1 then ((spec_l1Cur_among.f l0 bt191.2.1 bt191.2.2 (([8,10,13,16,9] : List Int))).bind fun bt200 => ((spec_l1Cur_digits24.f k l0 bt200.2.1 bt200.2.2 bt200.1).bind fun bt203 => (some bt203.1))) else (some bt188.1)))))) = some r := h
 clear h
 replace H := Option.bind_eq_some_iff.mp H
 obtain ⟨⟨t185,t186,t187⟩,A20,H⟩ := H
 replace H : ((spec_l1Cur_id24.f k l0 t186 t187 t185).bind fun bt188 => ((spec_l1Cur_pick.f l0 bt188.2.1 bt188.2.2 6).bind fun bt191 => (if bt191.1 = 0 then ((spec_l1Cur_spoilt.f l0 bt191.2.1 bt191.2.2 bt188.1 (⟨#[48,88,49,57,45]⟩ : ByteArray)).bind fun bt194 => (some bt194.1)) else (if bt191.1 = 1 then ((spec_l1Cur_among.f l0 bt191.2.1 bt191.2.2 (([8,10,13,16,9] : List Int))).bind fun bt200 => ((spec_l1Cur_digits24.f k l0 bt200.2.1 bt200.2.2 bt200.1).bind fun bt203 => (some bt203.1))) else (some bt188.1))))) = some r := H
 have A2 := Aside0.mk A20
 clear A20
 replace H := Option.bind_eq_some_iff.mp H
 obtain ⟨⟨t188,t189,t190⟩,A30,H⟩ := H
 replace H : ((spec_l1Cur_pick.f l0 t189 t190 6).bind fun bt191 => (if bt191.1 = 0 then ((spec_l1Cur_spoilt.f l0 bt191.2.1 bt191.2.2 t188 (⟨#[48,88,49,57,45]⟩ : ByteArray)).bind fun bt194 => (some bt194.1)) else (if bt191.1 = 1 then ((spec_l1Cur_among.f l0 bt191.2.1 bt191.2.2 (([8,10,13,16,9] : List Int))).bind fun bt200 => ((spec_l1Cur_digits24.f k l0 bt200.2.1 bt200.2.2 bt200.1).bind fun bt203 => (some bt203.1))) else (some t188)))) = some r := H
 have A3 := Aside0.mk A30
 clear A30
 replace H := Option.bind_eq_some_iff.mp H
 obtain ⟨⟨t191,t192,t193⟩,A40,H⟩ := H
 replace H : (if t191 = 0 then ((spec_l1Cur_spoilt.f l0 t192 t193 t188 (⟨#[48,88,49,57,45]⟩ : ByteArray)).bind fun bt194 => (some bt194.1)) else (if t191 = 1 then ((spec_l1Cur_among.f l0 t192 t193 (([8,10,13,16,9] : List Int))).bind fun bt200 => ((spec_l1Cur_digits24.f k l0 bt200.2.1 bt200.2.2 bt200.1).bind fun bt203 => (some bt203.1))) else (some t188))) = some r := H
 have A4 := Aside0.mk A40
 clear A40
 by_cases c5 : t191 = 0
 ·rw [if_pos c5] at H
  have c5b0 : (t191 == 0) = true := beq_iff_eq.mpr c5
  have c5b1 : (t191 != 0) = false := bne_eq_false_iff_eq.mpr c5
  clear c5
  replace H := Option.bind_eq_some_iff.mp H
  obtain ⟨⟨t194,t195,t196⟩,A60,H⟩ := H
  replace H : (some t194) = some r := H
  have A6 := Aside0.mk A60
  clear A60
  obtain rfl := Option.some.inj H
  simp only [Option.some.injEq,Prod.mk.injEq] at H
  obtain ⟨rfl⟩ := H
  go_enter Tryd.func20,Tryd.ntmps20
  go_wp2_with (first|((with_reducible refine gate_dst (N := 7) rfl ?_);refine box_event ?hg (N := 7) ?hd (cs := #[.slice A0 l0.length c0,.int .i64 0,.int .u64 0]) (t := 56) ?hr ?_;(case hd => rfl);(case hg => rfl);(case hr => first|(go_simp;done)|(go_simp;rfl));intro gb184 hg w7 hbox hb;have n0_ := Aside0.mk (below_step (by repeat (first|(with_reducible first|exact HB.out|apply lA|apply lN|apply lD)|exact HB.out)) hb);have n1_ := Aside0.mk ((show IsS56 w w7 gb184 l0 0 0 from ⟨_,_,hbox,(by rw [hg];exact (below_size (by repeat (first|(with_reducible first|exact HB.out|apply lA|apply lN|apply lD)|exact HB.out))) : w.heap.size ≤ gb184),HR0.out⟩));clear HB;have HB := n0_;have HI184 := n1_;clear n0_ n1_;clear hb hbox hg)|((with_reducible refine gate_callee (f := 48) rfl ?_);refine goesL_ (some 10) rfl rfl Tryd.func48 (by kernel_rfl) rfl #[.pointer (some ⟨gb184,0,none⟩)] rfl (by (try simp only [List.map_toArray,List.map_cons,List.map_nil]);first|done|rfl|(simp only [List.length_drop,List.length_take];rfl)) ?_;(with_reducible refine (spec_l1Cur_kind24.calls gb184 l0 0 0 t185 t186 t187 w _ ?side1 ?side2 A2.out).mono ?_);(case side1 => repeat (first|(with_reducible first|exact HI184.out|apply IsS56.alloc|apply IsS56.drewN|apply IsS56.drew|apply IsS56.set_1|apply IsS56.set_2)|exact HI184.out));(case side2 => repeat (first|(with_reducible first|exact HB.out|apply lA|apply lN|apply lD|refine below_set ?_ (IsS56.ge HI184.out))|exact HB.out));rintro e w8 ⟨rfl,hi,hb,hk⟩;refine ⟨_,rfl,?_⟩;have n0_ := Aside0.mk (hb);have n1_ := Aside0.mk (hi);clear HB;clear HI184;have HB := n0_;have HI184 := n1_;clear n0_ n1_;(try clear hb);(try clear hb2);(try clear hk);(try clear hi))|((with_reducible refine gate_callee (f := 47) rfl ?_);refine goesL_ (some 11) rfl rfl Tryd.func47 (by kernel_rfl) rfl #[.pointer (some ⟨gb184,0,none⟩),.int .i64 t185] rfl (by (try simp only [List.map_toArray,List.map_cons,List.map_nil]);first|done|rfl|(simp only [List.length_drop,List.length_take];rfl)) ?_;(with_reducible refine (spec_l1Cur_id24.calls k gb184 l0 t186 t187 t185 t188 t189 t190 w _ ?side1 ?side2 A3.out).mono ?_);(case side1 => repeat (first|(with_reducible first|exact HI184.out|apply IsS56.alloc|apply IsS56.drewN|apply IsS56.drew|apply IsS56.set_1|apply IsS56.set_2)|exact HI184.out));(case side2 => repeat (first|(with_reducible first|exact HB.out|apply lA|apply lN|apply lD|refine below_set ?_ (IsS56.ge HI184.out))|exact HB.out));rintro e w9 ⟨rfl,hi,hb,hk⟩;refine ⟨_,rfl,?_⟩;have n0_ := Aside0.mk (hb);have n1_ := Aside0.mk (hi);clear HB;clear HI184;have HB := n0_;have HI184 := n1_;clear n0_ n1_;(try clear hb);(try clear hb2);(try clear hk);(try clear hi))|((with_reducible refine gate_callee (f := 49) rfl ?_);refine goesL_ (some 13) rfl rfl Tryd.func49 (by kernel_rfl) rfl #[.pointer (some ⟨gb184,0,none⟩),.int .i64 6] rfl (by (try simp only [List.map_toArray,List.map_cons,List.map_nil]);first|done|rfl|(simp only [List.length_drop,List.length_take];rfl)) ?_;(with_reducible refine (spec_l1Cur_pick.calls gb184 l0 t189 t190 6 t191 t192 t193 w _ ?side1 ?side2 A4.out).mono ?_);(case side1 => repeat (first|(with_reducible first|exact HI184.out|apply IsS56.alloc|apply IsS56.drewN|apply IsS56.drew|apply IsS56.set_1|apply IsS56.set_2)|exact HI184.out));(case side2 => repeat (first|(with_reducible first|exact HB.out|apply lA|apply lN|apply lD|refine below_set ?_ (IsS56.ge HI184.out))|exact HB.out));rintro e w10 ⟨rfl,hi,hb,hk⟩;refine ⟨_,rfl,?_⟩;have n0_ := Aside0.mk (hb);have n1_ := Aside0.mk (hi);clear HB;clear HI184;have HB := n0_;have HI184 := n1_;clear n0_ n1_;(try clear hb);(try clear hb2);(try clear hk);(try clear hi))|((with_reducible refine gate_callee (f := 50) rfl ?_);refine goesL_ (some 18) rfl rfl Tryd.func50 (by kernel_rfl) rfl #[.pointer (some ⟨gb184,0,none⟩),.string t188,.string (⟨#[48,88,49,57,45]⟩ : ByteArray)] rfl (by (try simp only [List.map_toArray,List.map_cons,List.map_nil]);first|done|rfl|(simp only [List.length_drop,List.length_take];rfl)) ?_;(with_reducible refine (spec_l1Cur_spoilt.calls gb184 l0 t192 t193 t188 (⟨#[48,88,49,57,45]⟩ : ByteArray) t194 t195 t196 w _ ?side1 ?side2 A6.out).mono ?_);(case side1 => repeat (first|(with_reducible first|exact HI184.out|apply IsS56.alloc|apply IsS56.drewN|apply IsS56.drew|apply IsS56.set_1|apply IsS56.set_2)|exact HI184.out));(case side2 => repeat (first|(with_reducible first|exact HB.out|apply lA|apply lN|apply lD|refine below_set ?_ (IsS56.ge HI184.out))|exact HB.out));rintro e w11 ⟨rfl,hi,hb,hk⟩;refine ⟨_,rfl,?_⟩;have n0_ := Aside0.mk (hb);have n1_ := Aside0.mk (hi);clear HB;clear HI184;have HB := n0_;have HI184 := n1_;clear n0_ n1_;(try clear hb);(try clear hb2);(try clear hk);(try clear hi)))
  go_ret
  exact ⟨by first|rfl|(simp [errW_none,errW_some] <;> rfl)|(simp [*,errW_none,errW_some] <;> rfl),by repeat (first|(with_reducible first|exact HB.out|apply lA|apply lN|apply lD|refine below_set ?_ (IsS56.ge HI184.out))|exact HB.out)⟩
 ·rw [if_neg c5] at H
  have c5b0 : (t191 == 0) = false := beq_eq_false_iff_ne.mpr c5
  have c5b1 : (t191 != 0) = true := bne_iff_ne.mpr c5
  by_cases c12 : t191 = 1
  ·rw [if_pos c12] at H
   have c12b0 : (t191 == 1) = true := beq_iff_eq.mpr c12
   have c12b1 : (t191 != 1) = false := bne_eq_false_iff_eq.mpr c12
   clear c12
   obtain ⟨y197,hy197⟩ : ∃ y_ : List Int,y_ = (([8,10,13,16,9] : List Int)) := ⟨_,rfl⟩
   replace H : ((spec_l1Cur_among.f l0 t192 t193 y197).bind fun bt200 => ((spec_l1Cur_digits24.f k l0 bt200.2.1 bt200.2.2 bt200.1).bind fun bt203 => (some bt203.1))) = some r := by first|(rw [hy197];with_reducible exact H)|(have H2_ := (Option.bind_some _ _).symm.trans H;rw [hy197];with_reducible exact H2_)|(have H2_ := (Option.bind_some _ _).symm.trans H;with_reducible exact H2_)|with_reducible exact H|(rw [hy197];exact H)|exact H
   have Ny197 := Aside0.mk hy197
   clear hy197
   replace H := Option.bind_eq_some_iff.mp H
   obtain ⟨⟨t200,t201,t202⟩,A130,H⟩ := H
   replace H : ((spec_l1Cur_digits24.f k l0 t201 t202 t200).bind fun bt203 => (some bt203.1)) = some r := H
   have A13 := Aside0.mk A130
   clear A130
   replace H := Option.bind_eq_some_iff.mp H
   obtain ⟨⟨t203,t204,t205⟩,A140,H⟩ := H
   replace H : (some t203) = some r := H
   have A14 := Aside0.mk A140
   clear A140
   obtain rfl := Option.some.inj H
   simp only [Option.some.injEq,Prod.mk.injEq] at H
   obtain ⟨rfl⟩ := H
   go_enter Tryd.func20,Tryd.ntmps20
   go_wp2_with (first|((with_reducible refine gate_dst (N := 7) rfl ?_);refine box_event ?hg (N := 7) ?hd (cs := #[.slice A0 l0.length c0,.int .i64 0,.int .u64 0]) (t := 56) ?hr ?_;(case hd => rfl);(case hg => rfl);(case hr => first|(go_simp;done)|(go_simp;rfl));intro gb184 hg w15 hbox hb;have n0_ := Aside0.mk (below_step (by repeat (first|(with_reducible first|exact HB.out|apply lA|apply lN|apply lD)|exact HB.out)) hb);have n1_ := Aside0.mk ((show IsS56 w w15 gb184 l0 0 0 from ⟨_,_,hbox,(by rw [hg];exact (below_size (by repeat (first|(with_reducible first|exact HB.out|apply lA|apply lN|apply lD)|exact HB.out))) : w.heap.size ≤ gb184),HR0.out⟩));clear HB;have HB := n0_;have HI184 := n1_;clear n0_ n1_;clear hb hbox hg)|((with_reducible refine gate_callee (f := 48) rfl ?_);refine goesL_ (some 10) rfl rfl Tryd.func48 (by kernel_rfl) rfl #[.pointer (some ⟨gb184,0,none⟩)] rfl (by (try simp only [List.map_toArray,List.map_cons,List.map_nil]);first|done|rfl|(simp only [List.length_drop,List.length_take];rfl)) ?_;(with_reducible refine (spec_l1Cur_kind24.calls gb184 l0 0 0 t185 t186 t187 w _ ?side1 ?side2 A2.out).mono ?_);(case side1 => repeat (first|(with_reducible first|exact HI184.out|apply IsS56.alloc|apply IsS56.drewN|apply IsS56.drew|apply IsS56.set_1|apply IsS56.set_2)|exact HI184.out));(case side2 => repeat (first|(with_reducible first|exact HB.out|apply lA|apply lN|apply lD|refine below_set ?_ (IsS56.ge HI184.out))|exact HB.out));rintro e w16 ⟨rfl,hi,hb,hk⟩;refine ⟨_,rfl,?_⟩;have n0_ := Aside0.mk (hb);have n1_ := Aside0.mk (hi);clear HB;clear HI184;have HB := n0_;have HI184 := n1_;clear n0_ n1_;(try clear hb);(try clear hb2);(try clear hk);(try clear hi))|((with_reducible refine gate_callee (f := 47) rfl ?_);refine goesL_ (some 11) rfl rfl Tryd.func47 (by kernel_rfl) rfl #[.pointer (some ⟨gb184,0,none⟩),.int .i64 t185] rfl (by (try simp only [List.map_toArray,List.map_cons,List.map_nil]);first|done|rfl|(simp only [List.length_drop,List.length_take];rfl)) ?_;(with_reducible refine (spec_l1Cur_id24.calls k gb184 l0 t186 t187 t185 t188 t189 t190 w _ ?side1 ?side2 A3.out).mono ?_);(case side1 => repeat (first|(with_reducible first|exact HI184.out|apply IsS56.alloc|apply IsS56.drewN|apply IsS56.drew|apply IsS56.set_1|apply IsS56.set_2)|exact HI184.out));(case side2 => repeat (first|(with_reducible first|exact HB.out|apply lA|apply lN|apply lD|refine below_set ?_ (IsS56.ge HI184.out))|exact HB.out));rintro e w17 ⟨rfl,hi,hb,hk⟩;refine ⟨_,rfl,?_⟩;have n0_ := Aside0.mk (hb);have n1_ := Aside0.mk (hi);clear HB;clear HI184;have HB := n0_;have HI184 := n1_;clear n0_ n1_;(try clear hb);(try clear hb2);(try clear hk);(try clear hi))|((with_reducible refine gate_callee (f := 49) rfl ?_);refine goesL_ (some 13) rfl rfl Tryd.func49 (by kernel_rfl) rfl #[.pointer (some ⟨gb184,0,none⟩),.int .i64 6] rfl (by (try simp only [List.map_toArray,List.map_cons,List.map_nil]);first|done|rfl|(simp only [List.length_drop,List.length_take];rfl)) ?_;(with_reducible refine (spec_l1Cur_pick.calls gb184 l0 t189 t190 6 t191 t192 t193 w _ ?side1 ?side2 A4.out).mono ?_);(case side1 => repeat (first|(with_reducible first|exact HI184.out|apply IsS56.alloc|apply IsS56.drewN|apply IsS56.drew|apply IsS56.set_1|apply IsS56.set_2)|exact HI184.out));(case side2 => repeat (first|(with_reducible first|exact HB.out|apply lA|apply lN|apply lD|refine below_set ?_ (IsS56.ge HI184.out))|exact HB.out));rintro e w18 ⟨rfl,hi,hb,hk⟩;refine ⟨_,rfl,?_⟩;have n0_ := Aside0.mk (hb);have n1_ := Aside0.mk (hi);clear HB;clear HI184;have HB := n0_;have HI184 := n1_;clear n0_ n1_;(try clear hb);(try clear hb2);(try clear hk);(try clear hi))|((with_reducible refine gate_dst (N := 23) rfl ?_);refine Kd.R_lit (Kd.int .i64) _ 3 ?hg (N := 23) ?hd (xs := ([8,10,13,16,9] : List Int)) (inner := [.int .i64 8,.int .i64 10,.int .i64 13,.int .i64 16,.int .i64 9]) (ok := fun _ => True) (okp := fun _ => True) ?hr ?hp (fun _ hk => hk) trivial (Below.refl _ _) (Nat.le_refl _) (by simp) ?_;(case hd => rfl);(case hg => rfl);(case hr => first|(go_simp;done)|(go_simp;rfl));(case hp => exact (Reps.one (show Kd.M (Kd.int .i64) _ _ _ 8 [.int .i64 8] from rfl) (Reps.one (show Kd.M (Kd.int .i64) _ _ _ 10 [.int .i64 10] from rfl) (Reps.one (show Kd.M (Kd.int .i64) _ _ _ 13 [.int .i64 13] from rfl) (Reps.one (show Kd.M (Kd.int .i64) _ _ _ 16 [.int .i64 16] from rfl) (Reps.one (show Kd.M (Kd.int .i64) _ _ _ 9 [.int .i64 9] from rfl) (Reps.none _ _)))))));intro v198 w19 ho20 hb hg_ hnew_;clear hg_ hnew_;(first|rw [← Ny197.out] at ho20|(simp only [Int.reduceToNat] at ho20;rw [← Ny197.out] at ho20));have n0_ := Aside0.mk (Kd.R_lower ho20 (below_size (by repeat (first|(with_reducible first|exact HB.out|apply lA|apply lN|apply lD|refine below_set ?_ (IsS56.ge HI184.out))|exact HB.out))));have n1_ := Aside0.mk (IsS56.below (by repeat (first|(with_reducible first|exact HI184.out|apply IsS56.alloc|apply IsS56.drewN|apply IsS56.drew|apply IsS56.set_1|apply IsS56.set_2)|exact HI184.out)) hb);have n2_ := Aside0.mk (below_step (by repeat (first|(with_reducible first|exact HB.out|apply lA|apply lN|apply lD|refine below_set ?_ (IsS56.ge HI184.out))|exact HB.out)) hb);clear HI184;clear HB;have HO199 := n0_;have HI184 := n1_;have HB := n2_;clear n0_ n1_ n2_;clear hb ho20;obtain ⟨Ao21,co21,eo21⟩ := Kd.R_slice HO199.out;subst eo21)|((with_reducible refine gate_callee (f := 52) rfl ?_);refine goesL_ (some 24) rfl rfl Tryd.func52 (by kernel_rfl) rfl #[.pointer (some ⟨gb184,0,none⟩),.slice Ao21 y197.length co21] rfl (by (try simp only [List.map_toArray,List.map_cons,List.map_nil]);first|done|rfl|(simp only [List.length_drop,List.length_take];rfl)) ?_;(with_reducible refine (spec_l1Cur_among.calls gb184 l0 t192 t193 _ _ y197 t200 t201 t202 w _ ?side1 ?side2 ?side3 ?side4 ?side5 A13.out).mono ?_);(case side1 => repeat (first|(with_reducible first|exact HI184.out|apply IsS56.alloc|apply IsS56.drewN|apply IsS56.drew|apply IsS56.set_1|apply IsS56.set_2)|exact HI184.out));(case side2 => repeat (first|(with_reducible first|exact HB.out|apply lA|apply lN|apply lD|refine below_set ?_ (IsS56.ge HI184.out))|exact HB.out));(case side3 => repeat (first|exact (Kd.R_reads' HO199.out).2.2|(with_reducible refine Kd.C_alloc ?_ _)|(with_reducible refine Kd.C_drewN ?_ _)|(with_reducible refine Kd.C_drew ?_)));(case side4 => exact (Kd.R_reads' HO199.out).2.1);(case side5 => exact far_slice (IsS56.own_ne HI184.out HO199.out (by decide)));rintro e w22 ⟨rfl,hi,hb,hk⟩;refine ⟨_,rfl,?_⟩;have n0_ := Aside0.mk (Kd.R_mono (Kd.R_keep (IsS56.apart (show IsS56 w _ gb184 l0 t192 t193 from by repeat (first|(with_reducible first|exact HI184.out|apply IsS56.alloc|apply IsS56.drewN|apply IsS56.drew|apply IsS56.set_1|apply IsS56.set_2)|exact HI184.out)) (by (with_reducible repeat (first|apply Kd.R_alloc|apply Kd.R_drewN|apply Kd.R_drew));exact HO199.out) (by decide)) hk (fun _ h => h.2)) (fun _ h => h.1));have n1_ := Aside0.mk (hb);have n2_ := Aside0.mk (hi);clear HO199;clear HB;clear HI184;have HO199 := n0_;have HB := n1_;have HI184 := n2_;clear n0_ n1_ n2_;(try clear hb);(try clear hb2);(try clear hk);(try clear hi))|((with_reducible refine gate_callee (f := 51) rfl ?_);refine goesL_ (some 25) rfl rfl Tryd.func51 (by kernel_rfl) rfl #[.pointer (some ⟨gb184,0,none⟩),.int .i64 t200] rfl (by (try simp only [List.map_toArray,List.map_cons,List.map_nil]);first|done|rfl|(simp only [List.length_drop,List.length_take];rfl)) ?_;(with_reducible refine (spec_l1Cur_digits24.calls k gb184 l0 t201 t202 t200 t203 t204 t205 w _ ?side1 ?side2 A14.out).mono ?_);(case side1 => repeat (first|(with_reducible first|exact HI184.out|apply IsS56.alloc|apply IsS56.drewN|apply IsS56.drew|apply IsS56.set_1|apply IsS56.set_2)|exact HI184.out));(case side2 => repeat (first|(with_reducible first|exact HB.out|apply lA|apply lN|apply lD|refine below_set ?_ (IsS56.ge HI184.out))|exact HB.out));rintro e w23 ⟨rfl,hi,hb,hk⟩;refine ⟨_,rfl,?_⟩;have n0_ := Aside0.mk (Kd.R_mono (Kd.R_keep (IsS56.apart (show IsS56 w _ gb184 l0 t201 t202 from by repeat (first|(with_reducible first|exact HI184.out|apply IsS56.alloc|apply IsS56.drewN|apply IsS56.drew|apply IsS56.set_1|apply IsS56.set_2)|exact HI184.out)) (by (with_reducible repeat (first|apply Kd.R_alloc|apply Kd.R_drewN|apply Kd.R_drew));exact HO199.out) (by decide)) hk (fun _ h => h.2)) (fun _ h => h.1));have n1_ := Aside0.mk (hb);have n2_ := Aside0.mk (hi);clear HO199;clear HB;clear HI184;have HO199 := n0_;have HB := n1_;have HI184 := n2_;clear n0_ n1_ n2_;(try clear hb);(try clear hb2);(try clear hk);(try clear hi)))
   go_ret
   exact ⟨by first|rfl|(simp [errW_none,errW_some] <;> rfl)|(simp [*,errW_none,errW_some] <;> rfl),by repeat (first|(with_reducible first|exact HB.out|apply lA|apply lN|apply lD|refine below_set ?_ (IsS56.ge HI184.out))|exact HB.out)⟩
  ·rw [if_neg c12] at H
   have c12b0 : (t191 == 1) = false := beq_eq_false_iff_ne.mpr c12
   have c12b1 : (t191 != 1) = true := bne_iff_ne.mpr c12
   obtain rfl := Option.some.inj H
   simp only [Option.some.injEq,Prod.mk.injEq] at H
   obtain ⟨rfl⟩ := H
   go_enter Tryd.func20,Tryd.ntmps20
   go_wp2_with (first|((with_reducible refine gate_dst (N := 7) rfl ?_);refine box_event ?hg (N := 7) ?hd (cs := #[.slice A0 l0.length c0,.int .i64 0,.int .u64 0]) (t := 56) ?hr ?_;(case hd => rfl);(case hg => rfl);(case hr => first|(go_simp;done)|(go_simp;rfl));intro gb184 hg w24 hbox hb;have n0_ := Aside0.mk (below_step (by repeat (first|(with_reducible first|exact HB.out|apply lA|apply lN|apply lD)|exact HB.out)) hb);have n1_ := Aside0.mk ((show IsS56 w w24 gb184 l0 0 0 from ⟨_,_,hbox,(by rw [hg];exact (below_size (by repeat (first|(with_reducible first|exact HB.out|apply lA|apply lN|apply lD)|exact HB.out))) : w.heap.size ≤ gb184),HR0.out⟩));clear HB;have HB := n0_;have HI184 := n1_;clear n0_ n1_;clear hb hbox hg)|((with_reducible refine gate_callee (f := 48) rfl ?_);refine goesL_ (some 10) rfl rfl Tryd.func48 (by kernel_rfl) rfl #[.pointer (some ⟨gb184,0,none⟩)] rfl (by (try simp only [List.map_toArray,List.map_cons,List.map_nil]);first|done|rfl|(simp only [List.length_drop,List.length_take];rfl)) ?_;(with_reducible refine (spec_l1Cur_kind24.calls gb184 l0 0 0 t185 t186 t187 w _ ?side1 ?side2 A2.out).mono ?_);(case side1 => repeat (first|(with_reducible first|exact HI184.out|apply IsS56.alloc|apply IsS56.drewN|apply IsS56.drew|apply IsS56.set_1|apply IsS56.set_2)|exact HI184.out));(case side2 => repeat (first|(with_reducible first|exact HB.out|apply lA|apply lN|apply lD|refine below_set ?_ (IsS56.ge HI184.out))|exact HB.out));rintro e w25 ⟨rfl,hi,hb,hk⟩;refine ⟨_,rfl,?_⟩;have n0_ := Aside0.mk (hb);have n1_ := Aside0.mk (hi);clear HB;clear HI184;have HB := n0_;have HI184 := n1_;clear n0_ n1_;(try clear hb);(try clear hb2);(try clear hk);(try clear hi))|((with_reducible refine gate_callee (f := 47) rfl ?_);refine goesL_ (some 11) rfl rfl Tryd.func47 (by kernel_rfl) rfl #[.pointer (some ⟨gb184,0,none⟩),.int .i64 t185] rfl (by (try simp only [List.map_toArray,List.map_cons,List.map_nil]);first|done|rfl|(simp only [List.length_drop,List.length_take];rfl)) ?_;(with_reducible refine (spec_l1Cur_id24.calls k gb184 l0 t186 t187 t185 t188 t189 t190 w _ ?side1 ?side2 A3.out).mono ?_);(case side1 => repeat (first|(with_reducible first|exact HI184.out|apply IsS56.alloc|apply IsS56.drewN|apply IsS56.drew|apply IsS56.set_1|apply IsS56.set_2)|exact HI184.out));(case side2 => repeat (first|(with_reducible first|exact HB.out|apply lA|apply lN|apply lD|refine below_set ?_ (IsS56.ge HI184.out))|exact HB.out));rintro e w26 ⟨rfl,hi,hb,hk⟩;refine ⟨_,rfl,?_⟩;have n0_ := Aside0.mk (hb);have n1_ := Aside0.mk (hi);clear HB;clear HI184;have HB := n0_;have HI184 := n1_;clear n0_ n1_;(try clear hb);(try clear hb2);(try clear hk);(try clear hi))|((with_reducible refine gate_callee (f := 49) rfl ?_);refine goesL_ (some 13) rfl rfl Tryd.func49 (by kernel_rfl) rfl #[.pointer (some ⟨gb184,0,none⟩),.int .i64 6] rfl (by (try simp only [List.map_toArray,List.map_cons,List.map_nil]);first|done|rfl|(simp only [List.length_drop,List.length_take];rfl)) ?_;(with_reducible refine (spec_l1Cur_pick.calls gb184 l0 t189 t190 6 t191 t192 t193 w _ ?side1 ?side2 A4.out).mono ?_);(case side1 => repeat (first|(with_reducible first|exact HI184.out|apply IsS56.alloc|apply IsS56.drewN|apply IsS56.drew|apply IsS56.set_1|apply IsS56.set_2)|exact HI184.out));(case side2 => repeat (first|(with_reducible first|exact HB.out|apply lA|apply lN|apply lD|refine below_set ?_ (IsS56.ge HI184.out))|exact HB.out));rintro e w27 ⟨rfl,hi,hb,hk⟩;refine ⟨_,rfl,?_⟩;have n0_ := Aside0.mk (hb);have n1_ := Aside0.mk (hi);clear HB;clear HI184;have HB := n0_;have HI184 := n1_;clear n0_ n1_;(try clear hb);(try clear hb2);(try clear hk);(try clear hi)))
   go_ret
   exact ⟨by first|rfl|(simp [errW_none,errW_some] <;> rfl)|(simp [*,errW_none,errW_some] <;> rfl),by repeat (first|(with_reducible first|exact HB.out|apply lA|apply lN|apply lD|refine below_set ?_ (IsS56.ge HI184.out))|exact HB.out)⟩
def spec_l1Cur_one.f (s0_0 : List Int) (s0_1 : Int) (s0_2 : Int) (a1 : Int) : Option (Bool × Int × Int) := (spec_l1Cur_pick.f s0_0 s0_1 s0_2 a1).bind fun bt206 => (some ((bt206.1 == 0),bt206.2.1,bt206.2.2))
set_option maxHeartbeats 8000000 in
set_option maxRecDepth 100000 in
theorem spec_l1Cur_one.calls (g : Nat) (s0_0 : List Int) (s0_1 : Int) (s0_2 : Int) (a1 : Int) (r1 : Bool) (r2 : Int) (r3 : Int) (w0 w : World) (hI : IsS56 w0 w g s0_0 s0_1 s0_2) (hB : Below w0.heap.size w0 w) (h : spec_l1Cur_one.f s0_0 s0_1 s0_2 a1 = some (r1,r2,r3)) :
  Calls Tryd.prog 46 #[.pointer (some ⟨g,0,none⟩),.int .i64 a1] w fun e w' => e = .returned (.bool r1) ∧ IsS56 w0 w' g s0_0 r2 r3 ∧ Below w0.heap.size w0 w' ∧ KeepBut w w' g none := by
 have HI0 := Aside0.mk hI
 have HK := Aside0.mk (KeepBut.refl w g none)
 have HL := Aside0.mk hB.size
 clear hI
 have HW0 := Aside0.mk hB.size
 have HB := Aside0.mk hB
 clear hB
 have H : ((spec_l1Cur_pick.f s0_0 s0_1 s0_2 a1).bind fun bt206 => (some ((bt206.1 == 0),bt206.2.1,bt206.2.2))) = some (r1,r2,r3) := h
 clear h
 replace H := Option.bind_eq_some_iff.mp H
 obtain ⟨⟨t206,t207,t208⟩,A30,H⟩ := H
 replace H : (some ((t206 == 0),t207,t208)) = some (r1,r2,r3) := H
 have A3 := Aside0.mk A30
 clear A30
 simp only [Option.some.injEq,Prod.mk.injEq] at H
 obtain ⟨rfl,rfl,rfl⟩ := H
 go_enter Tryd.func46,Tryd.ntmps46
 go_wp2_with (first|((with_reducible refine gate_callee (f := 49) rfl ?_);refine goesL_ (some 7) rfl rfl Tryd.func49 (by kernel_rfl) rfl #[.pointer (some ⟨g,0,none⟩),.int .i64 a1] rfl (by (try simp only [List.map_toArray,List.map_cons,List.map_nil]);first|done|rfl|(simp only [List.length_drop,List.length_take];rfl)) ?_;(with_reducible refine (spec_l1Cur_pick.calls g s0_0 s0_1 s0_2 a1 t206 t207 t208 w0 _ ?side1 ?side2 A3.out).mono ?_);(case side1 => repeat (first|(with_reducible first|exact HI0.out|apply IsS56.alloc|apply IsS56.drewN|apply IsS56.drew|apply IsS56.set_1|apply IsS56.set_2)|exact HI0.out));(case side2 => repeat (first|(with_reducible first|exact HB.out|apply lA|apply lN|apply lD|refine below_set ?_ (IsS56.ge HI0.out))|exact HB.out));rintro e w4 ⟨rfl,hi,hb,hk⟩;refine ⟨_,rfl,?_⟩;have n0_ := Aside0.mk (KeepBut.trans (by repeat (first|(with_reducible first|exact HK.out|apply KeepBut.set_|apply keep_drewN|apply keep_drew|apply keep_alloc)|exact HK.out)) hk (.inl rfl));have n1_ := Aside0.mk (hb);have n2_ := Aside0.mk (hi);clear HK;clear HB;clear HI0;have HK := n0_;have HB := n1_;have HI0 := n2_;clear n0_ n1_ n2_;(try clear hb);(try clear hb2);(try clear hk);(try clear hi)))
 go_ret
 exact ⟨by first|rfl|(simp [errW_none,errW_some] <;> rfl)|(simp [*,errW_none,errW_some] <;> rfl),by repeat (first|(with_reducible first|exact HI0.out|apply IsS56.alloc|apply IsS56.drewN|apply IsS56.drew|apply IsS56.set_1|apply IsS56.set_2)|exact HI0.out),by repeat (first|(with_reducible first|exact HB.out|apply lA|apply lN|apply lD|refine below_set ?_ (IsS56.ge HI0.out))|exact HB.out),by repeat (first|(with_reducible first|exact HK.out|apply KeepBut.set_|apply keep_drewN|apply keep_drew|apply keep_alloc)|exact HK.out)⟩
def spec_DrawToBook13.f (k : Nat) (l0 : List Int) : Option (ByteArray) := (spec_l1Cur_one.f l0 0 0 6).bind fun bt210 => (if bt210.1 = true then ((spec_DrawCheckIdentifier.f k l0).bind fun t213 => (some t213)) else ((spec_l1Cur_id24.f k l0 bt210.2.1 bt210.2.2 1).bind fun bt214 => (some bt214.1)))
theorem spec_DrawToBook13.mono : ∀ a0 k,LeO (spec_DrawToBook13.f k a0) (spec_DrawToBook13.f (k + 1) a0) := by
 intro a0 k
 unfold spec_DrawToBook13.f
 repeat' first
   | (with_reducible exact spec_DrawCheckIdentifier.mono _ _)
   | (with_reducible exact spec_l1Cur_id24.mono _ _ _ _ _)
   | (with_reducible exact LeO.refl _)
   | (with_reducible exact LeO.none _)
   | (with_reducible refine LeO.ite ?_ ?_)
   | (with_reducible refine LeO.bind ?_ (fun _ => ?_))
   | exact spec_DrawCheckIdentifier.mono _ _
   | exact spec_l1Cur_id24.mono _ _ _ _ _
   | exact LeO.none _
   | refine LeO.ite ?_ ?_
   | refine LeO.bind ?_ (fun _ => ?_)
set_option maxHeartbeats 8000000 in
set_option maxRecDepth 100000 in
theorem spec_DrawToBook13.calls (k : Nat) (A0 : Option Addr) (c0 : Nat) (l0 : List Int) (r : ByteArray) (w : World) (hr0 : Kd.C (Kd.int .u8) w A0 l0.length l0) (hc0 : l0.length ≤ c0) (h : spec_DrawToBook13.f k l0 = some r) :
  Calls Tryd.prog 18 #[.slice A0 l0.length c0] w fun e w' => e = .returned (.string r) ∧ Below w.heap.size w w' := by
 have hu56 := Tryd.underlying56
 have HR0 := Aside0.mk hr0
 have HC0 := Aside0.mk hc0
 clear hr0 hc0
 have HB := Aside0.mk (Below.refl w.heap.size w)
 have H : ((spec_l1Cur_one.f l0 0 0 6).bind fun bt210 => (if bt210.1 = true then ((spec_DrawCheckIdentifier.f k l0).bind fun t213 => (some t213)) else ((spec_l1Cur_id24.f k l0 bt210.2.1 bt210.2.2 1).bind fun bt214 => (some bt214.1)))) = some r := h
 clear h
 replace H := Option.bind_eq_some_iff.mp H
 obtain ⟨⟨t210,t211,t212⟩,A20,H⟩ := H
 replace H : (if t210 = true then ((spec_DrawCheckIdentifier.f k l0).bind fun t213 => (some t213)) else ((spec_l1Cur_id24.f k l0 t211 t212 1).bind fun bt214 => (some bt214.1))) = some r := H
 have A2 := Aside0.mk A20
 clear A20
 by_cases c3 : t210 = true
 ·subst c3
  have H1 : ((spec_DrawCheckIdentifier.f k l0).bind fun t213 => (some t213)) = some r := by rw [if_pos rfl] at H;exact H
  clear H
  have H := H1
  clear H1
  replace H := Option.bind_eq_some_iff.mp H
  obtain ⟨t213,A40,H⟩ := H
  replace H : (some t213) = some r := H
  have A4 := Aside0.mk A40
  clear A40
  obtain rfl := Option.some.inj H
  simp only [Option.some.injEq,Prod.mk.injEq] at H
  obtain ⟨rfl⟩ := H
  go_enter Tryd.func18,Tryd.ntmps18
  go_wp2_with (first|((with_reducible refine gate_dst (N := 6) rfl ?_);refine box_event ?hg (N := 6) ?hd (cs := #[.slice A0 l0.length c0,.int .i64 0,.int .u64 0]) (t := 56) ?hr ?_;(case hd => rfl);(case hg => rfl);(case hr => first|(go_simp;done)|(go_simp;rfl));intro gb209 hg w5 hbox hb;have n0_ := Aside0.mk (below_step (by repeat (first|(with_reducible first|exact HB.out|apply lA|apply lN|apply lD)|exact HB.out)) hb);have n1_ := Aside0.mk ((show IsS56 w w5 gb209 l0 0 0 from ⟨_,_,hbox,(by rw [hg];exact (below_size (by repeat (first|(with_reducible first|exact HB.out|apply lA|apply lN|apply lD)|exact HB.out))) : w.heap.size ≤ gb209),HR0.out⟩));clear HB;have HB := n0_;have HI209 := n1_;clear n0_ n1_;clear hb hbox hg)|((with_reducible refine gate_callee (f := 46) rfl ?_);refine goesL_ (some 8) rfl rfl Tryd.func46 (by kernel_rfl) rfl #[.pointer (some ⟨gb209,0,none⟩),.int .i64 6] rfl (by (try simp only [List.map_toArray,List.map_cons,List.map_nil]);first|done|rfl|(simp only [List.length_drop,List.length_take];rfl)) ?_;(with_reducible refine (spec_l1Cur_one.calls gb209 l0 0 0 6 true t211 t212 w _ ?side1 ?side2 A2.out).mono ?_);(case side1 => repeat (first|(with_reducible first|exact HI209.out|apply IsS56.alloc|apply IsS56.drewN|apply IsS56.drew|apply IsS56.set_1|apply IsS56.set_2)|exact HI209.out));(case side2 => repeat (first|(with_reducible first|exact HB.out|apply lA|apply lN|apply lD|refine below_set ?_ (IsS56.ge HI209.out))|exact HB.out));rintro e w6 ⟨rfl,hi,hb,hk⟩;refine ⟨_,rfl,?_⟩;have n0_ := Aside0.mk (hb);have n1_ := Aside0.mk (hi);clear HB;clear HI209;have HB := n0_;have HI209 := n1_;clear n0_ n1_;(try clear hb);(try clear hb2);(try clear hk);(try clear hi))|((with_reducible refine gate_callee (f := 20) rfl ?_);refine goesL_ (some 10) rfl rfl Tryd.func20 (by kernel_rfl) rfl #[.slice A0 l0.length c0] rfl (by (try simp only [List.map_toArray,List.map_cons,List.map_nil]);first|done|rfl|(simp only [List.length_drop,List.length_take];rfl)) ?_;(with_reducible refine (spec_DrawCheckIdentifier.calls k _ _ l0 t213 _ ?side1 ?side2 A4.out).mono ?_);(case side1 => repeat (first|exact (Kd.C_below HR0.out HB.out)|(with_reducible refine Kd.C_alloc ?_ _)|(with_reducible refine Kd.C_drewN ?_ _)|(with_reducible refine Kd.C_drew ?_)));(case side2 => exact HC0.out);rintro e w7 ⟨rfl,hb⟩;refine ⟨_,rfl,?_⟩;have n0_ := Aside0.mk (IsS56.below (by repeat (first|(with_reducible first|exact HI209.out|apply IsS56.alloc|apply IsS56.drewN|apply IsS56.drew|apply IsS56.set_1|apply IsS56.set_2)|exact HI209.out)) hb);have n1_ := Aside0.mk (below_step (by repeat (first|(with_reducible first|exact HB.out|apply lA|apply lN|apply lD|refine below_set ?_ (IsS56.ge HI209.out))|exact HB.out)) hb);clear HI209;clear HB;have HI209 := n0_;have HB := n1_;clear n0_ n1_;(try clear hb);(try clear hb2);(try clear hk);(try clear hi)))
  go_ret
  exact ⟨by first|rfl|(simp [errW_none,errW_some] <;> rfl)|(simp [*,errW_none,errW_some] <;> rfl),by repeat (first|(with_reducible first|exact HB.out|apply lA|apply lN|apply lD|refine below_set ?_ (IsS56.ge HI209.out))|exact HB.out)⟩
 ·replace c3 := Bool.eq_false_iff.mpr c3
  subst c3
  have H1 : ((spec_l1Cur_id24.f k l0 t211 t212 1).bind fun bt214 => (some bt214.1)) = some r := by rw [if_neg (show ¬ (false = true) by decide)] at H;exact H
  clear H
  have H := H1
  clear H1
  replace H := Option.bind_eq_some_iff.mp H
  obtain ⟨⟨t214,t215,t216⟩,A80,H⟩ := H
  replace H : (some t214) = some r := H
  have A8 := Aside0.mk A80
  clear A80
  obtain rfl := Option.some.inj H
  simp only [Option.some.injEq,Prod.mk.injEq] at H
  obtain ⟨rfl⟩ := H
  go_enter Tryd.func18,Tryd.ntmps18
  go_wp2_with (first|((with_reducible refine gate_dst (N := 6) rfl ?_);refine box_event ?hg (N := 6) ?hd (cs := #[.slice A0 l0.length c0,.int .i64 0,.int .u64 0]) (t := 56) ?hr ?_;(case hd => rfl);(case hg => rfl);(case hr => first|(go_simp;done)|(go_simp;rfl));intro gb209 hg w9 hbox hb;have n0_ := Aside0.mk (below_step (by repeat (first|(with_reducible first|exact HB.out|apply lA|apply lN|apply lD)|exact HB.out)) hb);have n1_ := Aside0.mk ((show IsS56 w w9 gb209 l0 0 0 from ⟨_,_,hbox,(by rw [hg];exact (below_size (by repeat (first|(with_reducible first|exact HB.out|apply lA|apply lN|apply lD)|exact HB.out))) : w.heap.size ≤ gb209),HR0.out⟩));clear HB;have HB := n0_;have HI209 := n1_;clear n0_ n1_;clear hb hbox hg)|((with_reducible refine gate_callee (f := 46) rfl ?_);refine goesL_ (some 8) rfl rfl Tryd.func46 (by kernel_rfl) rfl #[.pointer (some ⟨gb209,0,none⟩),.int .i64 6] rfl (by (try simp only [List.map_toArray,List.map_cons,List.map_nil]);first|done|rfl|(simp only [List.length_drop,List.length_take];rfl)) ?_;(with_reducible refine (spec_l1Cur_one.calls gb209 l0 0 0 6 false t211 t212 w _ ?side1 ?side2 A2.out).mono ?_);(case side1 => repeat (first|(with_reducible first|exact HI209.out|apply IsS56.alloc|apply IsS56.drewN|apply IsS56.drew|apply IsS56.set_1|apply IsS56.set_2)|exact HI209.out));(case side2 => repeat (first|(with_reducible first|exact HB.out|apply lA|apply lN|apply lD|refine below_set ?_ (IsS56.ge HI209.out))|exact HB.out));rintro e w10 ⟨rfl,hi,hb,hk⟩;refine ⟨_,rfl,?_⟩;have n0_ := Aside0.mk (hb);have n1_ := Aside0.mk (hi);clear HB;clear HI209;have HB := n0_;have HI209 := n1_;clear n0_ n1_;(try clear hb);(try clear hb2);(try clear hk);(try clear hi))|((with_reducible refine gate_callee (f := 47) rfl ?_);refine goesL_ (some 12) rfl rfl Tryd.func47 (by kernel_rfl) rfl #[.pointer (some ⟨gb209,0,none⟩),.int .i64 1] rfl (by (try simp only [List.map_toArray,List.map_cons,List.map_nil]);first|done|rfl|(simp only [List.length_drop,List.length_take];rfl)) ?_;(with_reducible refine (spec_l1Cur_id24.calls k gb209 l0 t211 t212 1 t214 t215 t216 w _ ?side1 ?side2 A8.out).mono ?_);(case side1 => repeat (first|(with_reducible first|exact HI209.out|apply IsS56.alloc|apply IsS56.drewN|apply IsS56.drew|apply IsS56.set_1|apply IsS56.set_2)|exact HI209.out));(case side2 => repeat (first|(with_reducible first|exact HB.out|apply lA|apply lN|apply lD|refine below_set ?_ (IsS56.ge HI209.out))|exact HB.out));rintro e w11 ⟨rfl,hi,hb,hk⟩;refine ⟨_,rfl,?_⟩;have n0_ := Aside0.mk (hb);have n1_ := Aside0.mk (hi);clear HB;clear HI209;have HB := n0_;have HI209 := n1_;clear n0_ n1_;(try clear hb);(try clear hb2);(try clear hk);(try clear hi)))
  go_ret
  exact ⟨by first|rfl|(simp [errW_none,errW_some] <;> rfl)|(simp [*,errW_none,errW_some] <;> rfl),by repeat (first|(with_reducible first|exact HB.out|apply lA|apply lN|apply lD|refine below_set ?_ (IsS56.ge HI209.out))|exact HB.out)⟩
def spec_DrawToBook10.f (k : Nat) (l0 : List Int) : Option (ByteArray) := (spec_l1Cur_one.f l0 0 0 6).bind fun bt218 => (if bt218.1 = true then ((spec_DrawCheckIdentifier.f k l0).bind fun t221 => (some t221)) else ((spec_l1Cur_id24.f k l0 bt218.2.1 bt218.2.2 2).bind fun bt222 => (some bt222.1)))
theorem spec_DrawToBook10.mono : ∀ a0 k,LeO (spec_DrawToBook10.f k a0) (spec_DrawToBook10.f (k + 1) a0) := by
 intro a0 k
 unfold spec_DrawToBook10.f
 repeat' first
   | (with_reducible exact spec_DrawCheckIdentifier.mono _ _)
   | (with_reducible exact spec_l1Cur_id24.mono _ _ _ _ _)
   | (with_reducible exact LeO.refl _)
   | (with_reducible exact LeO.none _)
   | (with_reducible refine LeO.ite ?_ ?_)
   | (with_reducible refine LeO.bind ?_ (fun _ => ?_))
   | exact spec_DrawCheckIdentifier.mono _ _
   | exact spec_l1Cur_id24.mono _ _ _ _ _
   | exact LeO.none _
   | refine LeO.ite ?_ ?_
   | refine LeO.bind ?_ (fun _ => ?_)
set_option maxHeartbeats 8000000 in
set_option maxRecDepth 100000 in
theorem spec_DrawToBook10.calls (k : Nat) (A0 : Option Addr) (c0 : Nat) (l0 : List Int) (r : ByteArray) (w : World) (hr0 : Kd.C (Kd.int .u8) w A0 l0.length l0) (hc0 : l0.length ≤ c0) (h : spec_DrawToBook10.f k l0 = some r) :
  Calls Tryd.prog 19 #[.slice A0 l0.length c0] w fun e w' => e = .returned (.string r) ∧ Below w.heap.size w w' := by
 have hu56 := Tryd.underlying56
 have HR0 := Aside0.mk hr0
 have HC0 := Aside0.mk hc0
 clear hr0 hc0
 have HB := Aside0.mk (Below.refl w.heap.size w)
 have H : ((spec_l1Cur_one.f l0 0 0 6).bind fun bt218 => (if bt218.1 = true then ((spec_DrawCheckIdentifier.f k l0).bind fun t221 => (some t221)) else ((spec_l1Cur_id24.f k l0 bt218.2.1 bt218.2.2 2).bind fun bt222 => (some bt222.1)))) = some r := h
 clear h
 replace H := Option.bind_eq_some_iff.mp H
 obtain ⟨⟨t218,t219,t220⟩,A20,H⟩ := H
 replace H : (if t218 = true then ((spec_DrawCheckIdentifier.f k l0).bind fun t221 => (some t221)) else ((spec_l1Cur_id24.f k l0 t219 t220 2).bind fun bt222 => (some bt222.1))) = some r := H
 have A2 := Aside0.mk A20
 clear A20
 by_cases c3 : t218 = true
 ·subst c3
  have H1 : ((spec_DrawCheckIdentifier.f k l0).bind fun t221 => (some t221)) = some r := by rw [if_pos rfl] at H;exact H
  clear H
  have H := H1
  clear H1
  replace H := Option.bind_eq_some_iff.mp H
  obtain ⟨t221,A40,H⟩ := H
  replace H : (some t221) = some r := H
  have A4 := Aside0.mk A40
  clear A40
  obtain rfl := Option.some.inj H
  simp only [Option.some.injEq,Prod.mk.injEq] at H
  obtain ⟨rfl⟩ := H
  go_enter Tryd.func19,Tryd.ntmps19
  go_wp2_with (first|((with_reducible refine gate_dst (N := 6) rfl ?_);refine box_event ?hg (N := 6) ?hd (cs := #[.slice A0 l0.length c0,.int .i64 0,.int .u64 0]) (t := 56) ?hr ?_;(case hd => rfl);(case hg => rfl);(case hr => first|(go_simp;done)|(go_simp;rfl));intro gb217 hg w5 hbox hb;have n0_ := Aside0.mk (below_step (by repeat (first|(with_reducible first|exact HB.out|apply lA|apply lN|apply lD)|exact HB.out)) hb);have n1_ := Aside0.mk ((show IsS56 w w5 gb217 l0 0 0 from ⟨_,_,hbox,(by rw [hg];exact (below_size (by repeat (first|(with_reducible first|exact HB.out|apply lA|apply lN|apply lD)|exact HB.out))) : w.heap.size ≤ gb217),HR0.out⟩));clear HB;have HB := n0_;have HI217 := n1_;clear n0_ n1_;clear hb hbox hg)|((with_reducible refine gate_callee (f := 46) rfl ?_);refine goesL_ (some 8) rfl rfl Tryd.func46 (by kernel_rfl) rfl #[.pointer (some ⟨gb217,0,none⟩),.int .i64 6] rfl (by (try simp only [List.map_toArray,List.map_cons,List.map_nil]);first|done|rfl|(simp only [List.length_drop,List.length_take];rfl)) ?_;(with_reducible refine (spec_l1Cur_one.calls gb217 l0 0 0 6 true t219 t220 w _ ?side1 ?side2 A2.out).mono ?_);(case side1 => repeat (first|(with_reducible first|exact HI217.out|apply IsS56.alloc|apply IsS56.drewN|apply IsS56.drew|apply IsS56.set_1|apply IsS56.set_2)|exact HI217.out));(case side2 => repeat (first|(with_reducible first|exact HB.out|apply lA|apply lN|apply lD|refine below_set ?_ (IsS56.ge HI217.out))|exact HB.out));rintro e w6 ⟨rfl,hi,hb,hk⟩;refine ⟨_,rfl,?_⟩;have n0_ := Aside0.mk (hb);have n1_ := Aside0.mk (hi);clear HB;clear HI217;have HB := n0_;have HI217 := n1_;clear n0_ n1_;(try clear hb);(try clear hb2);(try clear hk);(try clear hi))|((with_reducible refine gate_callee (f := 20) rfl ?_);refine goesL_ (some 10) rfl rfl Tryd.func20 (by kernel_rfl) rfl #[.slice A0 l0.length c0] rfl (by (try simp only [List.map_toArray,List.map_cons,List.map_nil]);first|done|rfl|(simp only [List.length_drop,List.length_take];rfl)) ?_;(with_reducible refine (spec_DrawCheckIdentifier.calls k _ _ l0 t221 _ ?side1 ?side2 A4.out).mono ?_);(case side1 => repeat (first|exact (Kd.C_below HR0.out HB.out)|(with_reducible refine Kd.C_alloc ?_ _)|(with_reducible refine Kd.C_drewN ?_ _)|(with_reducible refine Kd.C_drew ?_)));(case side2 => exact HC0.out);rintro e w7 ⟨rfl,hb⟩;refine ⟨_,rfl,?_⟩;have n0_ := Aside0.mk (IsS56.below (by repeat (first|(with_reducible first|exact HI217.out|apply IsS56.alloc|apply IsS56.drewN|apply IsS56.drew|apply IsS56.set_1|apply IsS56.set_2)|exact HI217.out)) hb);have n1_ := Aside0.mk (below_step (by repeat (first|(with_reducible first|exact HB.out|apply lA|apply lN|apply lD|refine below_set ?_ (IsS56.ge HI217.out))|exact HB.out)) hb);clear HI217;clear HB;have HI217 := n0_;have HB := n1_;clear n0_ n1_;(try clear hb);(try clear hb2);(try clear hk);(try clear hi)))
  go_ret
  exact ⟨by first|rfl|(simp [errW_none,errW_some] <;> rfl)|(simp [*,errW_none,errW_some] <;> rfl),by repeat (first|(with_reducible first|exact HB.out|apply lA|apply lN|apply lD|refine below_set ?_ (IsS56.ge HI217.out))|exact HB.out)⟩
 ·replace c3 := Bool.eq_false_iff.mpr c3
  subst c3
  have H1 : ((spec_l1Cur_id24.f k l0 t219 t220 2).bind fun bt222 => (some bt222.1)) = some r := by rw [if_neg (show ¬ (false = true) by decide)] at H;exact H
  clear H
  have H := H1
  clear H1
  replace H := Option.bind_eq_some_iff.mp H
  obtain ⟨⟨t222,t223,t224⟩,A80,H⟩ := H
  replace H : (some t222) = some r := H
  have A8 := Aside0.mk A80
  clear A80
  obtain rfl := Option.some.inj H
  simp only [Option.some.injEq,Prod.mk.injEq] at H
  obtain ⟨rfl⟩ := H
  go_enter Tryd.func19,Tryd.ntmps19
  go_wp2_with (first|((with_reducible refine gate_dst (N := 6) rfl ?_);refine box_event ?hg (N := 6) ?hd (cs := #[.slice A0 l0.length c0,.int .i64 0,.int .u64 0]) (t := 56) ?hr ?_;(case hd => rfl);(case hg => rfl);(case hr => first|(go_simp;done)|(go_simp;rfl));intro gb217 hg w9 hbox hb;have n0_ := Aside0.mk (below_step (by repeat (first|(with_reducible first|exact HB.out|apply lA|apply lN|apply lD)|exact HB.out)) hb);have n1_ := Aside0.mk ((show IsS56 w w9 gb217 l0 0 0 from ⟨_,_,hbox,(by rw [hg];exact (below_size (by repeat (first|(with_reducible first|exact HB.out|apply lA|apply lN|apply lD)|exact HB.out))) : w.heap.size ≤ gb217),HR0.out⟩));clear HB;have HB := n0_;have HI217 := n1_;clear n0_ n1_;clear hb hbox hg)|((with_reducible refine gate_callee (f := 46) rfl ?_);refine goesL_ (some 8) rfl rfl Tryd.func46 (by kernel_rfl) rfl #[.pointer (some ⟨gb217,0,none⟩),.int .i64 6] rfl (by (try simp only [List.map_toArray,List.map_cons,List.map_nil]);first|done|rfl|(simp only [List.length_drop,List.length_take];rfl)) ?_;(with_reducible refine (spec_l1Cur_one.calls gb217 l0 0 0 6 false t219 t220 w _ ?side1 ?side2 A2.out).mono ?_);(case side1 => repeat (first|(with_reducible first|exact HI217.out|apply IsS56.alloc|apply IsS56.drewN|apply IsS56.drew|apply IsS56.set_1|apply IsS56.set_2)|exact HI217.out));(case side2 => repeat (first|(with_reducible first|exact HB.out|apply lA|apply lN|apply lD|refine below_set ?_ (IsS56.ge HI217.out))|exact HB.out));rintro e w10 ⟨rfl,hi,hb,hk⟩;refine ⟨_,rfl,?_⟩;have n0_ := Aside0.mk (hb);have n1_ := Aside0.mk (hi);clear HB;clear HI217;have HB := n0_;have HI217 := n1_;clear n0_ n1_;(try clear hb);(try clear hb2);(try clear hk);(try clear hi))|((with_reducible refine gate_callee (f := 47) rfl ?_);refine goesL_ (some 12) rfl rfl Tryd.func47 (by kernel_rfl) rfl #[.pointer (some ⟨gb217,0,none⟩),.int .i64 2] rfl (by (try simp only [List.map_toArray,List.map_cons,List.map_nil]);first|done|rfl|(simp only [List.length_drop,List.length_take];rfl)) ?_;(with_reducible refine (spec_l1Cur_id24.calls k gb217 l0 t219 t220 2 t222 t223 t224 w _ ?side1 ?side2 A8.out).mono ?_);(case side1 => repeat (first|(with_reducible first|exact HI217.out|apply IsS56.alloc|apply IsS56.drewN|apply IsS56.drew|apply IsS56.set_1|apply IsS56.set_2)|exact HI217.out));(case side2 => repeat (first|(with_reducible first|exact HB.out|apply lA|apply lN|apply lD|refine below_set ?_ (IsS56.ge HI217.out))|exact HB.out));rintro e w11 ⟨rfl,hi,hb,hk⟩;refine ⟨_,rfl,?_⟩;have n0_ := Aside0.mk (hb);have n1_ := Aside0.mk (hi);clear HB;clear HI217;have HB := n0_;have HI217 := n1_;clear n0_ n1_;(try clear hb);(try clear hb2);(try clear hk);(try clear hi)))
  go_ret
  exact ⟨by first|rfl|(simp [errW_none,errW_some] <;> rfl)|(simp [*,errW_none,errW_some] <;> rfl),by repeat (first|(with_reducible first|exact HB.out|apply lA|apply lN|apply lD|refine below_set ?_ (IsS56.ge HI217.out))|exact HB.out)⟩
def impl_idKind.l0 : Nat → ByteArray → Int → Option (Int)
 | 0,_,_ => none
 | k + 1,x0,x3 => if x3 ≤ 4 then ((impl_isIdentifier.f k x3 x0).bind fun t225 => (if t225 = true then (some x3) else (impl_idKind.l0 k x0 (wrap64 (x3 + 1))))) else (some 0)
def impl_idKind.f (k : Nat) (a0 : ByteArray) : Option (Int) := impl_idKind.l0 k a0 1
theorem impl_idKind.mono_l : ∀ k,(∀ y0 y1,LeO (impl_idKind.l0 k y0 y1) (impl_idKind.l0 (k + 1) y0 y1))
 | 0 => fun _ _ r h => by simp [impl_idKind.l0] at h
 | k + 1 => by
  have ih0 := impl_idKind.mono_l k
  ·intro y0 y1
   unfold impl_idKind.l0
   repeat' first
   | (with_reducible exact ih0 _ _)
   | (with_reducible exact impl_isIdentifier.mono _ _ _)
   | (with_reducible exact LeO.refl _)
   | (with_reducible exact LeO.none _)
   | (with_reducible refine LeO.ite ?_ ?_)
   | (with_reducible refine LeO.bind ?_ (fun _ => ?_))
   | exact ih0 _ _
   | exact impl_isIdentifier.mono _ _ _
   | exact LeO.none _
   | refine LeO.ite ?_ ?_
   | refine LeO.bind ?_ (fun _ => ?_)
theorem impl_idKind.mono : ∀ a0 k,LeO (impl_idKind.f k a0) (impl_idKind.f (k + 1) a0) := by
 intro a0 k
 have ih0 := impl_idKind.mono_l k
 unfold impl_idKind.f
 repeat' first
   | (with_reducible exact ih0 _ _)
   | (with_reducible exact impl_isIdentifier.mono _ _ _)
   | (with_reducible exact LeO.refl _)
   | (with_reducible exact LeO.none _)
   | (with_reducible refine LeO.ite ?_ ?_)
   | (with_reducible refine LeO.bind ?_ (fun _ => ?_))
   | exact ih0 _ _
   | exact impl_isIdentifier.mono _ _ _
   | exact LeO.none _
   | refine LeO.ite ?_ ?_
   | refine LeO.bind ?_ (fun _ => ?_)
set_option maxHeartbeats 8000000 in
set_option maxRecDepth 100000 in
theorem impl_idKind.calls (k : Nat) (a0 : ByteArray) (r : Int) (w : World) (h : impl_idKind.f k a0 = some r) :
  Calls Tryd.prog 45 #[.string a0] w fun e w' => e = .returned (.int .i64 r) ∧ Drawn0 w w' := by
 have H : (impl_idKind.l0 k a0 1) = some r := h
 clear h
 have H' := Aside0.mk H
 clear H
 go_enter Tryd.func45,Tryd.ntmps45
 go_wp2
 go_loopg [3] k (fun kq v3 w' => ∃ (x3_1 : Int),v3 = .int .i64 x3_1 ∧ Aside0 (impl_idKind.l0 kq a0 x3_1 = some r) ∧ Aside0 (kq ≤ k) ∧ Drawn0 w w')
 case atStart => exact ⟨(1),(by first|rfl|(simp;done)|(simp [my_isEmpty];done)|(simp [*];done)),H',⟨Nat.le_refl _⟩,by repeat (first|exact Drawn0.refl _|apply Drawn0.step)⟩
 case round =>
  clear H'
  obtain ⟨x3_1,rfl,HA,HK1,⟨m1,rfl⟩⟩ := hrel
  cases gk with
  | zero => exact absurd HA.out (by simp [impl_idKind.l0])
  | succ k1 =>
   have H := HA.out
   clear HA
   simp only [impl_idKind.l0] at H
   by_cases c2 : x3_1 ≤ 4
   ·rw [if_pos c2] at H
    have c2b0 : decide (x3_1 ≤ 4) = true := decide_eq_true c2
    clear c2
    replace H := Option.bind_eq_some_iff.mp H
    obtain ⟨t225,A30,H⟩ := H
    replace H : (if t225 = true then (some x3_1) else (impl_idKind.l0 k1 a0 (wrap64 (x3_1 + 1)))) = some r := H
    have A3 := Aside0.mk A30
    clear A30
    by_cases c4 : t225 = true
    ·subst c4
     have H1 : (some x3_1) = some r := by rw [if_pos rfl] at H;exact H
     clear H
     have H := H1
     clear H1
     obtain rfl := Option.some.inj H
     simp only [Option.some.injEq,Prod.mk.injEq] at H
     obtain ⟨rfl⟩ := H
     go_wp2_with (first|((with_reducible refine gate_callee (f := 35) rfl ?_);refine goesL_ (some 10) rfl rfl Tryd.func35 (by kernel_rfl) rfl #[.int .i64 x3_1,.string a0] rfl (by (try simp only [List.map_toArray,List.map_cons,List.map_nil]);first|done|rfl|(simp only [List.length_drop,List.length_take];rfl)) ?_;(with_reducible refine (impl_isIdentifier.calls k1 x3_1 a0 true _ A3.out).mono ?_);rintro e w' ⟨rfl,⟨nd,rfl⟩⟩;refine ⟨_,rfl,?_⟩))
     go_ret
     exact ⟨by first|rfl|(simp;done)|(simp [my_isEmpty];done)|(simp [*];done),by repeat (first|exact Drawn0.refl _|apply Drawn0.step)⟩
    ·replace c4 := Bool.eq_false_iff.mpr c4
     subst c4
     have H1 : (impl_idKind.l0 k1 a0 (wrap64 (x3_1 + 1))) = some r := by rw [if_neg (show ¬ (false = true) by decide)] at H;exact H
     clear H
     have H := H1
     clear H1
     have H' := Aside0.mk H
     clear H
     go_wp2_with (first|((with_reducible refine gate_callee (f := 35) rfl ?_);refine goesL_ (some 10) rfl rfl Tryd.func35 (by kernel_rfl) rfl #[.int .i64 x3_1,.string a0] rfl (by (try simp only [List.map_toArray,List.map_cons,List.map_nil]);first|done|rfl|(simp only [List.length_drop,List.length_take];rfl)) ?_;(with_reducible refine (impl_isIdentifier.calls k1 x3_1 a0 false _ A3.out).mono ?_);rintro e w' ⟨rfl,⟨nd,rfl⟩⟩;refine ⟨_,rfl,?_⟩))
     go_roundg k1
     case measure => have := HK1.out;omega
     case rel => exact ⟨(wrap64 (x3_1 + 1)),(by first|rfl|(simp;done)|(simp [my_isEmpty];done)|(simp [*];done)),H',⟨by have := HK1.out;omega⟩,by repeat (first|exact Drawn0.refl _|apply Drawn0.step)⟩
   ·rw [if_neg c2] at H
    have c2b0 : decide (x3_1 ≤ 4) = false := decide_eq_false c2
    clear c2
    obtain rfl := Option.some.inj H
    simp only [Option.some.injEq,Prod.mk.injEq] at H
    obtain ⟨rfl⟩ := H
    go_wp2
    go_ret
    exact ⟨by first|rfl|(simp;done)|(simp [my_isEmpty];done)|(simp [*];done),by repeat (first|exact Drawn0.refl _|apply Drawn0.step)⟩
def impl_CheckIdentifier.f (k : Nat) (a0 : ByteArray) : Option (Int × Bool) := (impl_idKind.f k a0).bind fun t226 => (some (t226,decide (t226 > 0)))
theorem impl_CheckIdentifier.mono : ∀ a0 k,LeO (impl_CheckIdentifier.f k a0) (impl_CheckIdentifier.f (k + 1) a0) := by
 intro a0 k
 unfold impl_CheckIdentifier.f
 repeat' first
   | (with_reducible exact impl_idKind.mono _ _)
   | (with_reducible exact LeO.refl _)
   | (with_reducible exact LeO.none _)
   | (with_reducible refine LeO.ite ?_ ?_)
   | (with_reducible refine LeO.bind ?_ (fun _ => ?_))
   | exact impl_idKind.mono _ _
   | exact LeO.none _
   | refine LeO.ite ?_ ?_
   | refine LeO.bind ?_ (fun _ => ?_)
set_option maxHeartbeats 8000000 in
set_option maxRecDepth 100000 in
theorem impl_CheckIdentifier.calls (k : Nat) (a0 : ByteArray) (r1 : Int) (r2 : Bool) (w : World) (h : impl_CheckIdentifier.f k a0 = some (r1,r2)) :
  Calls Tryd.prog 21 #[.string a0] w fun e w' => e = .returned (.tuple #[.int .i64 r1,.bool r2]) ∧ Drawn0 w w' := by
 have H : ((impl_idKind.f k a0).bind fun t226 => (some (t226,decide (t226 > 0)))) = some (r1,r2) := h
 clear h
 replace H := Option.bind_eq_some_iff.mp H
 obtain ⟨t226,A20,H⟩ := H
 replace H : (some (t226,decide (t226 > 0))) = some (r1,r2) := H
 have A2 := Aside0.mk A20
 clear A20
 simp only [Option.some.injEq,Prod.mk.injEq] at H
 obtain ⟨rfl,rfl⟩ := H
 go_enter Tryd.func21,Tryd.ntmps21
 go_wp2_with (first|((with_reducible refine gate_callee (f := 45) rfl ?_);refine goesL_ (some 6) rfl rfl Tryd.func45 (by kernel_rfl) rfl #[.string a0] rfl (by (try simp only [List.map_toArray,List.map_cons,List.map_nil]);first|done|rfl|(simp only [List.length_drop,List.length_take];rfl)) ?_;(with_reducible refine (impl_idKind.calls k a0 t226 _ A2.out).mono ?_);rintro e w' ⟨rfl,⟨nd,rfl⟩⟩;refine ⟨_,rfl,?_⟩))
 go_ret2
 exact ⟨by first|rfl|(simp;done)|(simp [my_isEmpty];done)|(simp [*];done),by repeat (first|exact Drawn0.refl _|apply Drawn0.step)⟩
def spec_l24Kind.l0 : Nat → ByteArray → Int → Option (Int)
 | 0,_,_ => none
 | k + 1,x0,x3 => if x3 ≤ 4 then ((spec_l24Is.f k x3 x0).bind fun t227 => (if t227 = true then (some x3) else (spec_l24Kind.l0 k x0 (wrap64 (x3 + 1))))) else (some 0)
def spec_l24Kind.f (k : Nat) (a0 : ByteArray) : Option (Int) := spec_l24Kind.l0 k a0 1
theorem spec_l24Kind.mono_l : ∀ k,(∀ y0 y1,LeO (spec_l24Kind.l0 k y0 y1) (spec_l24Kind.l0 (k + 1) y0 y1))
 | 0 => fun _ _ r h => by simp [spec_l24Kind.l0] at h
 | k + 1 => by
  have ih0 := spec_l24Kind.mono_l k
  ·intro y0 y1
   unfold spec_l24Kind.l0
   repeat' first
   | (with_reducible exact ih0 _ _)
   | (with_reducible exact spec_l24Is.mono _ _ _)
   | (with_reducible exact LeO.refl _)
   | (with_reducible exact LeO.none _)
   | (with_reducible refine LeO.ite ?_ ?_)
   | (with_reducible refine LeO.bind ?_ (fun _ => ?_))
   | exact ih0 _ _
   | exact spec_l24Is.mono _ _ _
   | exact LeO.none _
   | refine LeO.ite ?_ ?_
   | refine LeO.bind ?_ (fun _ => ?_)
theorem spec_l24Kind.mono : ∀ a0 k,LeO (spec_l24Kind.f k a0) (spec_l24Kind.f (k + 1) a0) := by
 intro a0 k
 have ih0 := spec_l24Kind.mono_l k
 unfold spec_l24Kind.f
 repeat' first
   | (with_reducible exact ih0 _ _)
   | (with_reducible exact spec_l24Is.mono _ _ _)
   | (with_reducible exact LeO.refl _)
   | (with_reducible exact LeO.none _)
   | (with_reducible refine LeO.ite ?_ ?_)
   | (with_reducible refine LeO.bind ?_ (fun _ => ?_))
   | exact ih0 _ _
   | exact spec_l24Is.mono _ _ _
   | exact LeO.none _
   | refine LeO.ite ?_ ?_
   | refine LeO.bind ?_ (fun _ => ?_)
set_option maxHeartbeats 8000000 in
set_option maxRecDepth 100000 in
theorem spec_l24Kind.calls (k : Nat) (a0 : ByteArray) (r : Int) (w : World) (h : spec_l24Kind.f k a0 = some r) :
  Calls Tryd.prog 41 #[.string a0] w fun e w' => e = .returned (.int .i64 r) ∧ Drawn0 w w' := by
 have H : (spec_l24Kind.l0 k a0 1) = some r := h
 clear h
 have H' := Aside0.mk H
 clear H
 go_enter Tryd.func41,Tryd.ntmps41
 go_wp2
 go_loopg [3] k (fun kq v3 w' => ∃ (x3_1 : Int),v3 = .int .i64 x3_1 ∧ Aside0 (spec_l24Kind.l0 kq a0 x3_1 = some r) ∧ Aside0 (kq ≤ k) ∧ Drawn0 w w')
 case atStart => exact ⟨(1),(by first|rfl|(simp;done)|(simp [my_isEmpty];done)|(simp [*];done)),H',⟨Nat.le_refl _⟩,by repeat (first|exact Drawn0.refl _|apply Drawn0.step)⟩
 case round =>
  clear H'
  obtain ⟨x3_1,rfl,HA,HK1,⟨m1,rfl⟩⟩ := hrel
  cases gk with
  | zero => exact absurd HA.out (by simp [spec_l24Kind.l0])
  | succ k1 =>
   have H := HA.out
   clear HA
   simp only [spec_l24Kind.l0] at H
   by_cases c2 : x3_1 ≤ 4
   ·rw [if_pos c2] at H
    have c2b0 : decide (x3_1 ≤ 4) = true := decide_eq_true c2
    clear c2
    replace H := Option.bind_eq_some_iff.mp H
    obtain ⟨t227,A30,H⟩ := H
    replace H : (if t227 = true then (some x3_1) else (spec_l24Kind.l0 k1 a0 (wrap64 (x3_1 + 1)))) = some r := H
    have A3 := Aside0.mk A30
    clear A30
    by_cases c4 : t227 = true
    ·subst c4
     have H1 : (some x3_1) = some r := by rw [if_pos rfl] at H;exact H
     clear H
     have H := H1
     clear H1
     obtain rfl := Option.some.inj H
     simp only [Option.some.injEq,Prod.mk.injEq] at H
     obtain ⟨rfl⟩ := H
     go_wp2_with (first|((with_reducible refine gate_callee (f := 33) rfl ?_);refine goesL_ (some 10) rfl rfl Tryd.func33 (by kernel_rfl) rfl #[.int .i64 x3_1,.string a0] rfl (by (try simp only [List.map_toArray,List.map_cons,List.map_nil]);first|done|rfl|(simp only [List.length_drop,List.length_take];rfl)) ?_;(with_reducible refine (spec_l24Is.calls k1 x3_1 a0 true _ A3.out).mono ?_);rintro e w' ⟨rfl,⟨nd,rfl⟩⟩;refine ⟨_,rfl,?_⟩))
     go_ret
     exact ⟨by first|rfl|(simp;done)|(simp [my_isEmpty];done)|(simp [*];done),by repeat (first|exact Drawn0.refl _|apply Drawn0.step)⟩
    ·replace c4 := Bool.eq_false_iff.mpr c4
     subst c4
     have H1 : (spec_l24Kind.l0 k1 a0 (wrap64 (x3_1 + 1))) = some r := by rw [if_neg (show ¬ (false = true) by decide)] at H;exact H
     clear H
     have H := H1
     clear H1
     have H' := Aside0.mk H
     clear H
     go_wp2_with (first|((with_reducible refine gate_callee (f := 33) rfl ?_);refine goesL_ (some 10) rfl rfl Tryd.func33 (by kernel_rfl) rfl #[.int .i64 x3_1,.string a0] rfl (by (try simp only [List.map_toArray,List.map_cons,List.map_nil]);first|done|rfl|(simp only [List.length_drop,List.length_take];rfl)) ?_;(with_reducible refine (spec_l24Is.calls k1 x3_1 a0 false _ A3.out).mono ?_);rintro e w' ⟨rfl,⟨nd,rfl⟩⟩;refine ⟨_,rfl,?_⟩))
     go_roundg k1
     case measure => have := HK1.out;omega
     case rel => exact ⟨(wrap64 (x3_1 + 1)),(by first|rfl|(simp;done)|(simp [my_isEmpty];done)|(simp [*];done)),H',⟨by have := HK1.out;omega⟩,by repeat (first|exact Drawn0.refl _|apply Drawn0.step)⟩
   ·rw [if_neg c2] at H
    have c2b0 : decide (x3_1 ≤ 4) = false := decide_eq_false c2
    clear c2
    obtain rfl := Option.some.inj H
    simp only [Option.some.injEq,Prod.mk.injEq] at H
    obtain ⟨rfl⟩ := H
    go_wp2
    go_ret
    exact ⟨by first|rfl|(simp;done)|(simp [my_isEmpty];done)|(simp [*];done),by repeat (first|exact Drawn0.refl _|apply Drawn0.step)⟩
def spec_CheckIdentifier.f (k : Nat) (a0 : ByteArray) : Option (Int × Bool) := (spec_l24Kind.f k a0).bind fun t228 => (some (t228,decide (t228 > 0)))
theorem spec_CheckIdentifier.mono : ∀ a0 k,LeO (spec_CheckIdentifier.f k a0) (spec_CheckIdentifier.f (k + 1) a0) := by
 intro a0 k
 unfold spec_CheckIdentifier.f
 repeat' first
   | (with_reducible exact spec_l24Kind.mono _ _)
   | (with_reducible exact LeO.refl _)
   | (with_reducible exact LeO.none _)
   | (with_reducible refine LeO.ite ?_ ?_)
   | (with_reducible refine LeO.bind ?_ (fun _ => ?_))
   | exact spec_l24Kind.mono _ _
   | exact LeO.none _
   | refine LeO.ite ?_ ?_
   | refine LeO.bind ?_ (fun _ => ?_)
set_option maxHeartbeats 8000000 in
set_option maxRecDepth 100000 in
theorem spec_CheckIdentifier.calls (k : Nat) (a0 : ByteArray) (r1 : Int) (r2 : Bool) (w : World) (h : spec_CheckIdentifier.f k a0 = some (r1,r2)) :
  Calls Tryd.prog 22 #[.string a0] w fun e w' => e = .returned (.tuple #[.int .i64 r1,.bool r2]) ∧ Drawn0 w w' := by
 have H : ((spec_l24Kind.f k a0).bind fun t228 => (some (t228,decide (t228 > 0)))) = some (r1,r2) := h
 clear h
 replace H := Option.bind_eq_some_iff.mp H
 obtain ⟨t228,A20,H⟩ := H
 replace H : (some (t228,decide (t228 > 0))) = some (r1,r2) := H
 have A2 := Aside0.mk A20
 clear A20
 simp only [Option.some.injEq,Prod.mk.injEq] at H
 obtain ⟨rfl,rfl⟩ := H
 go_enter Tryd.func22,Tryd.ntmps22
 go_wp2_with (first|((with_reducible refine gate_callee (f := 41) rfl ?_);refine goesL_ (some 6) rfl rfl Tryd.func41 (by kernel_rfl) rfl #[.string a0] rfl (by (try simp only [List.map_toArray,List.map_cons,List.map_nil]);first|done|rfl|(simp only [List.length_drop,List.length_take];rfl)) ?_;(with_reducible refine (spec_l24Kind.calls k a0 t228 _ A2.out).mono ?_);rintro e w' ⟨rfl,⟨nd,rfl⟩⟩;refine ⟨_,rfl,?_⟩))
 go_ret2
 exact ⟨by first|rfl|(simp;done)|(simp [my_isEmpty];done)|(simp [*];done),by repeat (first|exact Drawn0.refl _|apply Drawn0.step)⟩
end Go.Proofs.YtpnjnlcjofaglaaDoor.P
