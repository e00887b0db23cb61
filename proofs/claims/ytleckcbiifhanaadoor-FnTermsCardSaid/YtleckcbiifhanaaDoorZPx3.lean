/- Written by a program in this session: each theorem here says that a Go function computes the Lean function beside it, or that a law's row holds, under the conditions that the theorem itself states. -/
import Derived.Test.YtleckcbiifhanaaDoorZPx0
import Derived.Test.YtleckcbiifhanaaDoorZPx1
namespace Go.Proofs.YtleckcbiifhanaaDoor.P
open Go.RowKit Go.Proofs.YtleckcbiifhanaaDoorW.PrintWords Go.Proofs.YtleckcbiifhanaaDoorW.PrintLast Go.Proofs.YtleckcbiifhanaaDoorW.PrintMore
attribute [local go_sem] max2_int min2_int max_two min_two max_three min_three max_four min_four   -- for this text's walks alone
set_option linter.unusedVariables false
set_option linter.unusedSimpArgs false
def spec_l1Cur_among.f (s0_0 : List Int) (s0_1 : Int) (s0_2 : Int) (l1 : List Int) : Option (Int × Int × Int) := (spec_l1Cur_pick.f s0_0 s0_1 s0_2 (l1.length : Int)).bind fun bt172 => (if 0 ≤ bt172.1 then (if bt172.1 < (l1.length : Int) then (some (rd l1 bt172.1,bt172.2.1,bt172.2.2)) else (none)) else (none))
set_option maxHeartbeats 8000000 in
set_option maxRecDepth 100000 in
theorem spec_l1Cur_among.calls (g : Nat) (s0_0 : List Int) (s0_1 : Int) (s0_2 : Int) (A1 : Option Addr) (c1 : Nat) (l1 : List Int) (r1 : Int) (r2 : Int) (r3 : Int) (w0 w : World) (hI : IsS53 w0 w g s0_0 s0_1 s0_2) (hB : Below w0.heap.size w0 w) (hr1 : Kd.C (Kd.int .i64) w A1 l1.length l1) (hc1 : l1.length ≤ c1) (hf1 : ∀ ad,A1 = some ad → 0 < l1.length → ad.block ≠ g) (h : spec_l1Cur_among.f s0_0 s0_1 s0_2 l1 = some (r1,r2,r3)) :
  Calls Tryd.prog 47 #[.pointer (some ⟨g,0,none⟩),.slice A1 l1.length c1] w fun e w' => e = .returned (.int .i64 r1) ∧ IsS53 w0 w' g s0_0 r2 r3 ∧ Below w0.heap.size w0 w' ∧ KeepBut w w' g none := by
 have HR1 := aM hr1;have HC1 := aM hc1;clear hr1 hc1;have HI0 := aM hI;have HK := aM (KeepBut.refl w g none);have HL := aM hB.size;clear hI;have HW0 := aM hB.size;have HB := aM hB;clear hB;have H : ((spec_l1Cur_pick.f s0_0 s0_1 s0_2 (l1.length : Int)).bind fun bt172 => (if 0 ≤ bt172.1 then (if bt172.1 < (l1.length : Int) then (some (rd l1 bt172.1,bt172.2.1,bt172.2.2)) else (none)) else (none))) = some (r1,r2,r3) := h;clear h;replace H := Option.bind_eq_some_iff.mp H;obtain ⟨⟨t172,t173,t174⟩,A30,H⟩ := H;replace H : (if 0 ≤ t172 then (if t172 < (l1.length : Int) then (some (rd l1 t172,t173,t174)) else (none)) else (none)) = some (r1,r2,r3) := H;have A3 := aM A30;clear A30
 by_cases c4 : 0 ≤ t172
 ·rw [if_pos c4] at H;have c4b0 : decide (0 ≤ t172) = true := dT c4;clear c4
  by_cases c5 : t172 < (l1.length : Int)
  ·rw [if_pos c5] at H;have c5b0 : decide (t172 < (l1.length : Int)) = true := dT c5;clear c5;simp only [eS,eP] at H;obtain ⟨rfl,rfl,rfl⟩ := H;go_enter Tryd.func47,Tryd.ntmps47;go_wp2_with (first|((with_reducible refine gate_callee (f := 36) rfl ?_);refine gl_ (some 9) Tryd.func36 #[.pointer (some ⟨g,0,none⟩),.int .i64 (l1.length : Int)] ?_;(with_reducible refine (spec_l1Cur_pick.calls g s0_0 s0_1 s0_2 (l1.length : Int) t172 t173 t174 w0 _ ?side1 ?side2 A3.out).mono ?_);(case side1 => exact hi53_);(case side2 => exact hb53_);rintro e w6 ⟨rfl,hi,hb,hk⟩;refine ⟨_,rfl,?_⟩;replace HK := aM (KeepBut.trans wK_ hk (.inl rfl));replace HB := aM (hb);replace HI0 := aM (hi);have p175 : 0 ≤ (t172 : Int) := oD (by assumption);have q175 : t172 < (l1.length : Int) := oD (by assumption);obtain ⟨ad175,e175,hx175_0⟩ := Kd.at_int HR1.out t172 p175 q175;cases e175;replace hx175_0 := keep_cell HK.out hx175_0 (by first|(rw [add_block];exact hf1 _ rfl (by omega))|exact hf1 _ rfl (by omega)|exact hf1 ad175 rfl (by omega));replace p175 := eq_true p175;replace q175 := eq_true q175));go_ret;exact ⟨by first|rfl|(simp [*];done),hi53_,hb53_,wK_⟩
  ·rw [if_neg c5] at H;exact absurd H (by simp)
 ·rw [if_neg c4] at H;exact absurd H (by simp)
end Go.Proofs.YtleckcbiifhanaaDoor.P
