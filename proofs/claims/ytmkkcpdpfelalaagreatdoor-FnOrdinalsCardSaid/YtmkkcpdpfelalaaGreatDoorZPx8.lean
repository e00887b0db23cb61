/- Written by a program in this session: each theorem here says that a Go function computes the Lean function beside it, or that a law's row holds, under the conditions that the theorem itself states. -/
import Derived.Test.YtmkkcpdpfelalaaGreatDoorZPx0
import Derived.Test.YtmkkcpdpfelalaaGreatDoorZPx7
namespace Go.Proofs.YtmkkcpdpfelalaaGreatDoor.P
open Go.RowKit Go.Proofs.YtmkkcpdpfelalaaGreatDoorW.PrintWords Go.Proofs.YtmkkcpdpfelalaaGreatDoorW.PrintLast Go.Proofs.YtmkkcpdpfelalaaGreatDoorW.PrintMore
attribute [local go_sem] max2_int min2_int max_two min_two max_three min_three max_four min_four   -- for this text's walks alone
set_option linter.unusedVariables false
set_option linter.unusedSimpArgs false
def spec_l23Term.f (k : Nat) (a0_0 : ByteArray) (a0_1 : ByteArray) (a0_2 : ByteArray) : Option (Bool) := (spec_l23Key.f k a0_0).bind fun t310 => (if t310 = true then ((spec_l23Bytes.f k a0_1 1 20 32).bind fun t311 => (if t311 = true then ((spec_l23Bytes.f k a0_2 1 20 32).bind fun t312 => (some t312)) else (some false))) else (some false))
theorem spec_l23Term.mono : ∀ a0 a1 a2 k,LeO (spec_l23Term.f k a0 a1 a2) (spec_l23Term.f (k + 1) a0 a1 a2) := by
 intro a0 a1 a2 k
 unfold spec_l23Term.f
 repeat' first
   | (with_reducible exact spec_l23Bytes.mono _ _ _ _ _)
   | (with_reducible exact spec_l23Key.mono _ _)
   | (with_reducible exact LeO.refl _)
   | (with_reducible exact LeO.none _)
   | (with_reducible refine LeO.ite ?_ ?_)
   | (with_reducible refine LeO.bind ?_ (fun _ => ?_))
   | exact spec_l23Bytes.mono _ _ _ _ _
   | exact spec_l23Key.mono _ _
   | exact LeO.none _
   | refine LeO.ite ?_ ?_
   | refine LeO.bind ?_ (fun _ => ?_)
set_option maxHeartbeats 8000000 in
set_option maxRecDepth 100000 in
theorem spec_l23Term.calls (k : Nat) (a0_0 : ByteArray) (a0_1 : ByteArray) (a0_2 : ByteArray) (r : Bool) (w : World) (h : spec_l23Term.f k a0_0 a0_1 a0_2 = some r) :
  Calls Tryz.prog 48 #[.agg #[.string a0_0,.string a0_1,.string a0_2]] w fun e w' => e = .returned (.bool r) ∧ Below w.heap.size w w' := by
 have hu65 := Tryz.underlying65;have HB := aM (Below.refl w.heap.size w);have H : ((spec_l23Key.f k a0_0).bind fun t310 => (if t310 = true then ((spec_l23Bytes.f k a0_1 1 20 32).bind fun t311 => (if t311 = true then ((spec_l23Bytes.f k a0_2 1 20 32).bind fun t312 => (some t312)) else (some false))) else (some false))) = some r := h;clear h;obtain ⟨t310,A2,H⟩ := bE_ H
 by_cases c3 : t310 = true
 focus
  subst c3;rw [if_pos rfl] at H;obtain ⟨t311,A4,H⟩ := bE_ H
  by_cases c5 : t311 = true
  focus
   subst c5;rw [if_pos rfl] at H;obtain ⟨t312,A6,H⟩ := bE_ H;obtain rfl := Option.some.inj H;simp only [eS,eP] at H;obtain ⟨rfl⟩ := H
  rotate_left
  focus
   replace c5 := Bool.eq_false_iff.mpr c5;subst c5;rw [if_neg Bool.false_ne_true] at H;obtain rfl := Option.some.inj H;simp only [eS,eP] at H;obtain ⟨rfl⟩ := H
 rotate_left 2
 focus
  replace c3 := Bool.eq_false_iff.mpr c3;subst c3;rw [if_neg Bool.false_ne_true] at H;obtain rfl := Option.some.inj H;simp only [eS,eP] at H;obtain ⟨rfl⟩ := H
 all_goals
  go_enter Tryz.func48,Tryz.ntmps48;go_wp2_with (first|((with_reducible refine gate_dst (N := 1) rfl ?_);refine box_event ?hg (N := 1) ?hd (cs := #[.string a0_0,.string a0_1,.string a0_2]) (t := 65) ?hr ?_;(case hd => rfl);(case hg => rfl);(case hr => first|(go_simp;done)|(go_simp;rfl));intro gb309 hg Wgb309 hbox hb;have BK309 := aM (hbox);have GW309 := aM ((by rw [hg];exact (lZ hb_) : w.heap.size ≤ gb309));have GE309 := GW309;replace HB := aM (lT hb_ hb);clear hb hbox hg;obtain ⟨hcz309x309_0,hcz309x309_1,hcz309x309_2,hfz309x309_0,hfz309x309_1,hfz309x309_2⟩ := z3_ BK309.out)|((with_reducible refine gate_callee (f := 47) rfl ?_);refine goesL_ (some 5) rfl rfl Tryz.func47 (by kernel_rfl) rfl #[.string a0_0] rfl (by (try simp only [mT,mC,mN]);first|done|rfl|(simp only [xD,xT];rfl)) ?_;(with_reducible refine (spec_l23Key.calls _ _ _ _ A2.out).mono ?_);rintro e w' ⟨rfl,⟨nd,rfl⟩⟩;refine ⟨_,rfl,?_⟩)|(go_at_call 35;(with_reducible refine (spec_l23Bytes.calls _ _ _ _ _ _ _ A4.out).mono ?_);rintro e w' ⟨rfl,⟨nd,rfl⟩⟩)|(go_at_call 35;(with_reducible refine (spec_l23Bytes.calls _ _ _ _ _ _ _ A6.out).mono ?_);rintro e w' ⟨rfl,⟨nd,rfl⟩⟩));go_ret;exact ⟨by first|rfl|(simp [*];done),hb_⟩
end Go.Proofs.YtmkkcpdpfelalaaGreatDoor.P
