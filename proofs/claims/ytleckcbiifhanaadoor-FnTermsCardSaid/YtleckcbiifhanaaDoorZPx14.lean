/- Written by a program in this session: each theorem here says that a Go function computes the Lean function beside it, or that a law's row holds, under the conditions that the theorem itself states. -/
import Derived.Test.YtleckcbiifhanaaDoorZPx0
import Derived.Test.YtleckcbiifhanaaDoorZPx1
import Derived.Test.YtleckcbiifhanaaDoorZPx3
import Derived.Test.YtleckcbiifhanaaDoorZPx5
import Derived.Test.YtleckcbiifhanaaDoorZPx7
namespace Go.Proofs.YtleckcbiifhanaaDoor.P
open Go.RowKit Go.Proofs.YtleckcbiifhanaaDoorW.PrintWords Go.Proofs.YtleckcbiifhanaaDoorW.PrintLast Go.Proofs.YtleckcbiifhanaaDoorW.PrintMore
attribute [local go_sem] max2_int min2_int max_two min_two max_three min_three max_four min_four   -- for this text's walks alone
set_option linter.unusedVariables false
set_option linter.unusedSimpArgs false
set_option maxHeartbeats 8000000 in
set_option maxRecDepth 100000 in
theorem impl_termIndex_closure (x y z key : ByteArray) (p : Nat) (w : World) (hk : w.cell? ⟨p,0,none⟩ = some (.string key)) (hp : p < w.heap.size) :
  Calls Tryd.prog 54 #[.agg #[.string x,.string y,.string z],.pointer (some ⟨p,0,none⟩)] w fun e w' => e = .returned (.bool (x.toList == key.toList)) ∧ Below w.heap.size w w' := by
 have hu61 := Tryd.underlying29;have HB := aM (Below.refl w.heap.size w);have hk2 := fun (W : World) (h : Below w.heap.size w W) => (h.cell (p := ⟨p,0,none⟩) hp).trans hk;go_enter Tryd.func54,Tryd.ntmps54;go_wp2;go_ret;exact ⟨rfl,lA (Below.refl _ _) _⟩
def impl_termIndex_at (key : ByteArray) (l : List S29) : Int → Nat → Int
 | _,0 => -1
 | i,d + 1 => if ((rd_T29 l i).f0.toList == key.toList) = true then i else impl_termIndex_at key l (i + 1) d
set_option maxHeartbeats 8000000 in
set_option maxRecDepth 100000 in
theorem impl_termIndex_index (A0 : Option Addr) (c0 : Nat) (l0 : List S29) (key : ByteArray) (p : Nat) (w : World) (hr0 : Kd.C k29 w A0 l0.length l0) (hc0 : l0.length ≤ c0) (hl : l0.length ≤ 4611686018427387904) (hk : w.cell? ⟨p,0,none⟩ = some (.string key)) (hp : p < w.heap.size) :
  Calls Tryd.prog 53 #[.slice A0 l0.length c0,.func (.func 54) #[] #[.pointer (some ⟨p,0,none⟩)]] w fun e w' => e = .returned (.int .i64 (impl_termIndex_at key l0 0 l0.length)) ∧ Below w.heap.size w w' := by
 have hu61 := Tryd.underlying29;have HR0 := aM hr0;have HC0 := aM hc0;clear hr0 hc0;have HK := aM hk;clear hk;have HS := aM hp;clear hp;have HL := aM hl;clear hl;generalize hR : impl_termIndex_at key l0 0 l0.length = R;have HH := aM hR;clear hR;go_enter Tryd.func53,Tryd.ntmps53;go_wp2;go_loopg [8] l0.length (fun gg v8 wr => ∃ x8_1 : Int,v8 = .int .i64 x8_1 ∧ Aside0 (0 ≤ x8_1 ∧ x8_1 + gg = l0.length) ∧ Aside0 (impl_termIndex_at key l0 x8_1 gg = R) ∧ Aside0 (Below w.heap.size w wr))
 case atStart => exact ⟨0,rfl,⟨by omega,by omega⟩,HH,⟨Below.refl _ w⟩⟩
 case round =>
  clear HH;obtain ⟨x8_1,rfl,HG,HA,HB⟩ := hrel
  cases gk with
  | zero =>
   have c3b0 : decide (x8_1 < (l0.length : Int)) = false := dF (by have := HG.out;omega);have hR : -1 = R := (by rw [impl_termIndex_at] : impl_termIndex_at key l0 x8_1 0 = -1).symm.trans HA.out;clear HA;subst hR;go_wp2;go_ret;exact ⟨by first|rfl|(simp;done)|(simp [*];done),HB.out⟩
  | succ k1 =>
   have c3b0 : decide (x8_1 < (l0.length : Int)) = true := dT (by have := HG.out;omega);have c4b0 : decide (0 ≤ x8_1) = true := dT (by have := HG.out;omega);have p179 : 0 ≤ (x8_1 : Int) := oD (by assumption);have q179 : x8_1 < (l0.length : Int) := oD (by assumption);obtain ⟨ad179,e179,hx179_0,hx179_1,hx179_2⟩ := at_T29 HR0.out x8_1 p179 q179;cases e179;replace hx179_0 := (HB.out.cell (wB w _ hx179_0)).trans hx179_0;replace hx179_1 := (HB.out.cell (wB w _ hx179_1)).trans hx179_1;replace hx179_2 := (HB.out.cell (wB w _ hx179_2)).trans hx179_2;replace p179 := eq_true p179;replace q179 := eq_true q179;have HA2 := HA.out;rw [impl_termIndex_at] at HA2;clear HA;generalize hcc : ((rd_T29 l0 x8_1).f0.toList == key.toList) = cc at HA2
   have HCL : Aside0 (∀ W : World,Below w.heap.size w W → Calls Tryd.prog 54 #[.agg #[.string ((rd_T29 l0 x8_1).f0),.string ((rd_T29 l0 x8_1).f1),.string ((rd_T29 l0 x8_1).f2)],.pointer (some ⟨p,0,none⟩)] W fun e w' => e = .returned (.bool cc) ∧ Below W.heap.size W w') := ⟨fun W hW => by
    rw [← hcc];exact impl_termIndex_closure _ _ _ key p W ((hW.cell (p := ⟨p,0,none⟩) HS.out).trans HK.out) (Nat.lt_of_lt_of_le HS.out (lZ hW))⟩
   clear hcc
   cases cc with
   | true =>
    rw [if_pos rfl] at HA2;subst HA2;go_wp2_with (first|(go_at_call 54;(refine (HCL.out _ HB.out).mono ?_);rintro e w8 ⟨rfl,hb⟩;replace HB := aM (lT HB.out hb)));go_ret;exact ⟨by first|rfl|(simp;done)|(simp [*];done),HB.out⟩
   | false =>
    rw [if_neg Bool.false_ne_true] at HA2;have HA3 := aM HA2;clear HA2;go_wp2_with (first|(go_at_call 54;(refine (HCL.out _ HB.out).mono ?_);rintro e w8 ⟨rfl,hb⟩;replace HB := aM (lT HB.out hb)));go_roundg k1
    case measure => omega
    case rel =>
     have hw : wrap64 (x8_1 + 1) = x8_1 + 1 := by
      have := HG.out;have := HL.out;unfold wrap64;omega
     exact ⟨wrap64 (x8_1 + 1),(by first|rfl|(simp;done)|(simp [*];done)),(by rw [hw];have := HG.out;exact ⟨⟨by omega,by omega⟩⟩),(by rw [hw];exact HA3),HB⟩
def impl_termIndex.f (a0_0 : ByteArray) (l0_1 : List S29) (l0_2 : List S66) (a0_3 a0_4 a1 : ByteArray) : Option Int := if l0_1.length ≤ 4611686018427387904 then some (impl_termIndex_at a1 l0_1 0 l0_1.length) else none
set_option maxHeartbeats 8000000 in
set_option maxRecDepth 100000 in
theorem impl_termIndex.calls (a0_0 : ByteArray) (A0_1 : Option Addr) (c0_1 : Nat) (l0_1 : List (S29)) (A0_2 : Option Addr) (c0_2 : Nat) (l0_2 : List (S66)) (a0_3 : ByteArray) (a0_4 : ByteArray) (a1 : ByteArray) (r : Int) (w : World) (hr0_1 : Kd.C k29 w A0_1 l0_1.length l0_1) (hc0_1 : l0_1.length ≤ c0_1) (hr0_2 : Kd.C k66 w A0_2 l0_2.length l0_2) (hc0_2 : l0_2.length ≤ c0_2) (h : impl_termIndex.f a0_0 l0_1 l0_2 a0_3 a0_4 a1 = some r) :
  Calls Tryd.prog 26 #[.agg #[.string a0_0,.slice A0_1 l0_1.length c0_1,.slice A0_2 l0_2.length c0_2,.string a0_3,.string a0_4],.string a1] w fun e w' => e = .returned (.int .i64 r) ∧ Below w.heap.size w w' := by
 unfold impl_termIndex.f at h
 by_cases hl : l0_1.length ≤ 4611686018427387904
 ·rw [if_pos hl] at h;obtain rfl := Option.some.inj h;have hu31 := Tryd.underlying27;have HR0_1 := aM hr0_1;have HC0_1 := aM hc0_1;clear hr0_1 hc0_1 hr0_2 hc0_2 h;have HL := aM hl;clear hl;have hmf : ∀ (fn : Fn) (first cap : Array Value) (w : World),(Instr.makeFunc fn first cap).run Tryd.prog w = .ok (.func fn first cap) w := fun _ _ _ _ => rfl;go_enter Tryd.func26,Tryd.ntmps26;go_wp2_with (first|(go_at_call 53;(refine (impl_termIndex_index A0_1 c0_1 l0_1 a1 (w.heap.size + 1) _ ?side1 HC0_1.out HL.out ?side2 ?side3).mono ?_);(case side1 => repeat (first|exact HR0_1.out|(with_reducible refine cA ?_ _)));(case side2 => go_simp);(case side3 => simp);rintro e w8 ⟨rfl,hb⟩));go_ret;exact ⟨rfl,lT (lA (lA (Below.refl _ _) _) _) hb⟩
 ·rw [if_neg hl] at h;cases h
def impl_isNumber.f (a0 : Int) : Option (Bool) := (impl_inside.f a0 0 999999).bind fun t409 => (some t409)
set_option maxHeartbeats 8000000 in
set_option maxRecDepth 100000 in
theorem impl_isNumber.calls (a0 : Int) (r : Bool) (w : World) (h : impl_isNumber.f a0 = some r) :
  Calls Tryd.prog 27 #[.int .i64 a0] w fun e w' => e = .returned (.bool r) ∧ Drawn0 w w' := by
 have H : ((impl_inside.f a0 0 999999).bind fun t409 => (some t409)) = some r := h;clear h;obtain ⟨t409,A2,H⟩ := bE_ H;obtain rfl := Option.some.inj H;simp only [eS,eP] at H;obtain ⟨rfl⟩ := H;go_enter Tryd.func27,Tryd.ntmps27;go_wp2_with (first|((with_reducible refine gate_callee (f := 55) rfl ?_);refine gl_ (some 4) Tryd.func55 #[.int .i64 a0,.int .i64 0,.int .i64 999999] ?_;(with_reducible refine (impl_inside.calls a0 0 999999 t409 _ A2.out).mono ?_);rintro e w' ⟨rfl,⟨nd,rfl⟩⟩;refine ⟨_,rfl,?_⟩));go_ret;exact ⟨by first|rfl|(simp [*];done),by repeat (first|exact Drawn0.refl _|apply Drawn0.step)⟩
def impl_termFor.f (a0_0 : ByteArray) (l0_1 : List (S29)) (l0_2 : List (S66)) (a0_3 : ByteArray) (a0_4 : ByteArray) (a1 : Int) (a2 : Int) : Option (ByteArray) := if a2 = 1 then (if 0 ≤ a1 then (if a1 < (l0_1.length : Int) then (some ((rd_T29 l0_1 a1).f1)) else (none)) else (none)) else (if 0 ≤ a1 then (if a1 < (l0_1.length : Int) then (some ((rd_T29 l0_1 a1).f2)) else (none)) else (none))
set_option maxHeartbeats 8000000 in
set_option maxRecDepth 100000 in
theorem impl_termFor.calls (a0_0 : ByteArray) (A0_1 : Option Addr) (c0_1 : Nat) (l0_1 : List (S29)) (A0_2 : Option Addr) (c0_2 : Nat) (l0_2 : List (S66)) (a0_3 : ByteArray) (a0_4 : ByteArray) (a1 : Int) (a2 : Int) (r : ByteArray) (w : World) (hr0_1 : Kd.C k29 w A0_1 l0_1.length l0_1) (hc0_1 : l0_1.length ≤ c0_1) (hr0_2 : Kd.C k66 w A0_2 l0_2.length l0_2) (hc0_2 : l0_2.length ≤ c0_2) (h : impl_termFor.f a0_0 l0_1 l0_2 a0_3 a0_4 a1 a2 = some r) :
  Calls Tryd.prog 28 #[.agg #[.string a0_0,.slice A0_1 l0_1.length c0_1,.slice A0_2 l0_2.length c0_2,.string a0_3,.string a0_4],.int .i64 a1,.int .i64 a2] w fun e w' => e = .returned (.string r) ∧ Below w.heap.size w w' := by
 have hu27 := Tryd.underlying27;have HR0_1 := aM hr0_1;have HC0_1 := aM hc0_1;clear hr0_1 hc0_1;have HR0_2 := aM hr0_2;have HC0_2 := aM hc0_2;clear hr0_2 hc0_2;have HB := aM (Below.refl w.heap.size w);have H : (if a2 = 1 then (if 0 ≤ a1 then (if a1 < (l0_1.length : Int) then (some ((rd_T29 l0_1 a1).f1)) else (none)) else (none)) else (if 0 ≤ a1 then (if a1 < (l0_1.length : Int) then (some ((rd_T29 l0_1 a1).f2)) else (none)) else (none))) = some r := h;clear h
 by_cases c4 : a2 = 1
 focus
  rw [if_pos c4] at H;have c4b0 : (a2 == 1) = true := beq_iff_eq.mpr c4;have c4b1 : (a2 != 1) = false := bne_eq_false_iff_eq.mpr c4;clear c4
  by_cases c5 : 0 ≤ a1
  rotate_left;rw [if_neg c5] at H;exact absurd H (by simp);rw [if_pos c5] at H;have c5b0 : decide (0 ≤ a1) = true := dT c5;clear c5
  by_cases c6 : a1 < (l0_1.length : Int)
  rotate_left;rw [if_neg c6] at H;exact absurd H (by simp);rw [if_pos c6] at H;have c6b0 : decide (a1 < (l0_1.length : Int)) = true := dT c6;clear c6;obtain rfl := Option.some.inj H;simp only [eS,eP] at H;obtain ⟨rfl⟩ := H
 rotate_left
 focus
  rw [if_neg c4] at H;have c4b0 : (a2 == 1) = false := beq_eq_false_iff_ne.mpr c4;have c4b1 : (a2 != 1) = true := bne_iff_ne.mpr c4
  by_cases c9 : 0 ≤ a1
  rotate_left;rw [if_neg c9] at H;exact absurd H (by simp);rw [if_pos c9] at H;have c9b0 : decide (0 ≤ a1) = true := dT c9;clear c9
  by_cases c10 : a1 < (l0_1.length : Int)
  rotate_left;rw [if_neg c10] at H;exact absurd H (by simp);rw [if_pos c10] at H;have c10b0 : decide (a1 < (l0_1.length : Int)) = true := dT c10;clear c10;obtain rfl := Option.some.inj H;simp only [eS,eP] at H;obtain ⟨rfl⟩ := H
 all_goals
  go_enter Tryd.func28,Tryd.ntmps28;go_wp2_with (first|((with_reducible refine gate_dst (N := 3) rfl ?_);refine bx_ (N := 3) (cs := #[.string a0_0,.slice A0_1 l0_1.length c0_1,.slice A0_2 l0_2.length c0_2,.string a0_3,.string a0_4]) (t := 27) ?_;intro gb410 hg Wgb410 hbox hb;have BK410 := aM (hbox);have GW410 := aM ((by rw [hg];exact (lZ wB_) : w.heap.size ≤ gb410));have GE410 := GW410;replace HB := aM (lT wB_ hb);clear hb hbox hg;obtain ⟨hcz410x410_0,hcz410x410_1,hcz410x410_2,hcz410x410_3,hcz410x410_4,hfz410x410_0,hfz410x410_1,hfz410x410_2,hfz410x410_3,hfz410x410_4⟩ := z5_ BK410.out;have p01 : 0 ≤ (a1 : Int) := oD (by assumption);have q01 : a1 < (l0_1.length : Int) := oD (by assumption);obtain ⟨ad01,e01,hx01_0,hx01_1,hx01_2⟩ := at_T29 HR0_1.out a1 p01 q01;cases e01;replace hx01_0 := (HB.out.cell (wB w _ hx01_0)).trans hx01_0;replace hx01_1 := (HB.out.cell (wB w _ hx01_1)).trans hx01_1;replace hx01_2 := (HB.out.cell (wB w _ hx01_2)).trans hx01_2;replace p01 := eq_true p01;replace q01 := eq_true q01));go_ret;exact ⟨by first|rfl|(simp [*];done),wB_⟩
def impl_TermFor.f (k : Nat) (a0_0 : ByteArray) (l0_1 : List (S29)) (l0_2 : List (S66)) (a0_3 : ByteArray) (a0_4 : ByteArray) (a1 : ByteArray) (a2 : Int) : Option (ByteArray × Bool) := (impl_termIndex.f a0_0 l0_1 l0_2 a0_3 a0_4 a1).bind fun t414 => ((impl_IsValidLocale.f k a0_0 l0_1 l0_2 a0_3 a0_4).bind fun t415 => (if t415 = true then ((impl_isNumber.f a2).bind fun t416 => (if t416 = true then (if t414 < 0 then (some ((⟨#[]⟩ : ByteArray),false)) else ((impl_termFor.f a0_0 l0_1 l0_2 a0_3 a0_4 t414 a2).bind fun t417 => (some (t417,true)))) else (some ((⟨#[]⟩ : ByteArray),false)))) else (some ((⟨#[]⟩ : ByteArray),false))))
set_option maxHeartbeats 8000000 in
set_option maxRecDepth 100000 in
theorem impl_TermFor.calls (k : Nat) (a0_0 : ByteArray) (A0_1 : Option Addr) (c0_1 : Nat) (l0_1 : List (S29)) (A0_2 : Option Addr) (c0_2 : Nat) (l0_2 : List (S66)) (a0_3 : ByteArray) (a0_4 : ByteArray) (a1 : ByteArray) (a2 : Int) (r1 : ByteArray) (r2 : Bool) (w : World) (hr0_1 : Kd.C k29 w A0_1 l0_1.length l0_1) (hc0_1 : l0_1.length ≤ c0_1) (hr0_2 : Kd.C k66 w A0_2 l0_2.length l0_2) (hc0_2 : l0_2.length ≤ c0_2) (h : impl_TermFor.f k a0_0 l0_1 l0_2 a0_3 a0_4 a1 a2 = some (r1,r2)) :
  Calls Tryd.prog 8 #[.agg #[.string a0_0,.slice A0_1 l0_1.length c0_1,.slice A0_2 l0_2.length c0_2,.string a0_3,.string a0_4],.string a1,.int .i64 a2] w fun e w' => e = .returned (.tuple #[.string r1,.bool r2]) ∧ Below w.heap.size w w' := by
 have hu27 := Tryd.underlying27;have HR0_1 := aM hr0_1;have HC0_1 := aM hc0_1;clear hr0_1 hc0_1;have HR0_2 := aM hr0_2;have HC0_2 := aM hc0_2;clear hr0_2 hc0_2;have HB := aM (Below.refl w.heap.size w);have H : ((impl_termIndex.f a0_0 l0_1 l0_2 a0_3 a0_4 a1).bind fun t414 => ((impl_IsValidLocale.f k a0_0 l0_1 l0_2 a0_3 a0_4).bind fun t415 => (if t415 = true then ((impl_isNumber.f a2).bind fun t416 => (if t416 = true then (if t414 < 0 then (some ((⟨#[]⟩ : ByteArray),false)) else ((impl_termFor.f a0_0 l0_1 l0_2 a0_3 a0_4 t414 a2).bind fun t417 => (some (t417,true)))) else (some ((⟨#[]⟩ : ByteArray),false)))) else (some ((⟨#[]⟩ : ByteArray),false))))) = some (r1,r2) := h;clear h;obtain ⟨t414,A4,H⟩ := bE_ H;obtain ⟨t415,A5,H⟩ := bE_ H
 by_cases c6 : t415 = true
 focus
  subst c6;rw [if_pos rfl] at H;obtain ⟨t416,A7,H⟩ := bE_ H
  by_cases c8 : t416 = true
  focus
   subst c8;rw [if_pos rfl] at H
   by_cases c9 : t414 < 0
   focus
    rw [if_pos c9] at H;have c9b0 : decide (t414 < 0) = true := dT c9;clear c9;simp only [eS,eP] at H;obtain ⟨rfl,rfl⟩ := H
   rotate_left
   focus
    rw [if_neg c9] at H;have c9b0 : decide (t414 < 0) = false := dF c9;clear c9;obtain ⟨t417,A15,H⟩ := bE_ H;simp only [eS,eP] at H;obtain ⟨rfl,rfl⟩ := H
  rotate_left 2
  focus
   replace c8 := Bool.eq_false_iff.mpr c8;subst c8;rw [if_neg Bool.false_ne_true] at H;simp only [eS,eP] at H;obtain ⟨rfl,rfl⟩ := H
 rotate_left 3
 focus
  replace c6 := Bool.eq_false_iff.mpr c6;subst c6;rw [if_neg Bool.false_ne_true] at H;simp only [eS,eP] at H;obtain ⟨rfl,rfl⟩ := H
 all_goals
  go_enter Tryd.func8,Tryd.ntmps8;go_wp2_with (first|((with_reducible refine gate_dst (N := 3) rfl ?_);refine bx_ (N := 3) (cs := #[.string a0_0,.slice A0_1 l0_1.length c0_1,.slice A0_2 l0_2.length c0_2,.string a0_3,.string a0_4]) (t := 27) ?_;intro gb413 hg Wgb413 hbox hb;have BK413 := aM (hbox);have GW413 := aM ((by rw [hg];exact (lZ wB_) : w.heap.size ≤ gb413));have GE413 := GW413;replace HB := aM (lT wB_ hb);clear hb hbox hg;obtain ⟨hcz413x413_0,hcz413x413_1,hcz413x413_2,hcz413x413_3,hcz413x413_4,hfz413x413_0,hfz413x413_1,hfz413x413_2,hfz413x413_3,hfz413x413_4⟩ := z5_ BK413.out)|((with_reducible refine gate_callee (f := 26) rfl ?_);refine gl_ (some 11) Tryd.func26 #[.agg #[.string a0_0,.slice A0_1 l0_1.length c0_1,.slice A0_2 l0_2.length c0_2,.string a0_3,.string a0_4],.string a1] ?_;(with_reducible refine (impl_termIndex.calls _ _ _ _ _ _ _ _ _ _ _ _ ?side1 ?side2 ?side3 ?side4 A4.out).mono ?_);(case side1 => exact wX_ HR0_1.out);(case side2 => exact HC0_1.out);(case side3 => exact wX_ HR0_2.out);(case side4 => exact HC0_2.out);rintro e WA4 ⟨rfl,hb⟩;refine ⟨_,rfl,?_⟩;replace BK413 := aM (bw_ BK413.out hb);replace HB := aM (lT wB_ hb);obtain ⟨hcz4x413_0,hcz4x413_1,hcz4x413_2,hcz4x413_3,hcz4x413_4,hfz4x413_0,hfz4x413_1,hfz4x413_2,hfz4x413_3,hfz4x413_4⟩ := z5_ BK413.out)|((with_reducible refine gate_callee (f := 10) rfl ?_);refine gl_ (some 13) Tryd.func10 #[.agg #[.string a0_0,.slice A0_1 l0_1.length c0_1,.slice A0_2 l0_2.length c0_2,.string a0_3,.string a0_4]] ?_;(with_reducible refine (impl_IsValidLocale.calls _ _ _ _ _ _ _ _ _ _ _ _ ?side1 ?side2 ?side3 ?side4 A5.out).mono ?_);(case side1 => exact wX_ HR0_1.out);(case side2 => exact HC0_1.out);(case side3 => exact wX_ HR0_2.out);(case side4 => exact HC0_2.out);rintro e WA5 ⟨rfl,hb⟩;refine ⟨_,rfl,?_⟩;replace BK413 := aM (bw_ BK413.out hb);replace HB := aM (lT wB_ hb))|(go_at_call 27;(with_reducible refine (impl_isNumber.calls _ _ _ A7.out).mono ?_);rintro e w' ⟨rfl,⟨nd,rfl⟩⟩;obtain ⟨hcz7x413_0,hcz7x413_1,hcz7x413_2,hcz7x413_3,hcz7x413_4,hfz7x413_0,hfz7x413_1,hfz7x413_2,hfz7x413_3,hfz7x413_4⟩ := z5_ BK413.out)|((with_reducible refine gate_callee (f := 28) rfl ?_);refine gl_ (some 27) Tryd.func28 #[.agg #[.string a0_0,.slice A0_1 l0_1.length c0_1,.slice A0_2 l0_2.length c0_2,.string a0_3,.string a0_4],.int .i64 t414,.int .i64 a2] ?_;(with_reducible refine (impl_termFor.calls _ _ _ _ _ _ _ _ _ _ _ _ _ ?side1 ?side2 ?side3 ?side4 A15.out).mono ?_);(case side1 => repeat (first|exact (cB HR0_1.out wB_)|(with_reducible first|refine cA ?_ _|refine cN ?_ _|refine cD ?_)));(case side2 => exact HC0_1.out);(case side3 => repeat (first|exact (cB HR0_2.out wB_)|(with_reducible first|refine cA ?_ _|refine cN ?_ _|refine cD ?_)));(case side4 => exact HC0_2.out);rintro e WA15 ⟨rfl,hb⟩;refine ⟨_,rfl,?_⟩;replace BK413 := aM (bw_ BK413.out hb);replace HB := aM (lT wB_ hb)));go_ret2;exact ⟨by first|rfl|(simp [*];done),wB_⟩
def impl_FallbackTerm_1.f (k : Nat) (a0_0 : ByteArray) (l0_1 : List (S29)) (l0_2 : List (S66)) (a0_3 : ByteArray) (a0_4 : ByteArray) : Option (Bool) := (impl_IsValidLocale.f k a0_0 l0_1 l0_2 a0_3 a0_4).bind fun t419 => (some (!t419))
set_option maxHeartbeats 8000000 in
set_option maxRecDepth 100000 in
theorem impl_FallbackTerm_1.calls (k : Nat) (a0_0 : ByteArray) (A0_1 : Option Addr) (c0_1 : Nat) (l0_1 : List (S29)) (A0_2 : Option Addr) (c0_2 : Nat) (l0_2 : List (S66)) (a0_3 : ByteArray) (a0_4 : ByteArray) (r : Bool) (w : World) (hr0_1 : Kd.C k29 w A0_1 l0_1.length l0_1) (hc0_1 : l0_1.length ≤ c0_1) (hr0_2 : Kd.C k66 w A0_2 l0_2.length l0_2) (hc0_2 : l0_2.length ≤ c0_2) (h : impl_FallbackTerm_1.f k a0_0 l0_1 l0_2 a0_3 a0_4 = some r) :
  Calls Tryd.prog 30 #[.agg #[.string a0_0,.slice A0_1 l0_1.length c0_1,.slice A0_2 l0_2.length c0_2,.string a0_3,.string a0_4]] w fun e w' => e = .returned (.bool r) ∧ Below w.heap.size w w' := by
 have hu27 := Tryd.underlying27;have HR0_1 := aM hr0_1;have HC0_1 := aM hc0_1;clear hr0_1 hc0_1;have HR0_2 := aM hr0_2;have HC0_2 := aM hc0_2;clear hr0_2 hc0_2;have HB := aM (Below.refl w.heap.size w);have H : ((impl_IsValidLocale.f k a0_0 l0_1 l0_2 a0_3 a0_4).bind fun t419 => (some (!t419))) = some r := h;clear h;obtain ⟨t419,A2,H⟩ := bE_ H;obtain rfl := Option.some.inj H;simp only [eS,eP] at H;obtain ⟨rfl⟩ := H;go_enter Tryd.func30,Tryd.ntmps30;go_wp2_with (first|((with_reducible refine gate_dst (N := 1) rfl ?_);refine bx_ (N := 1) (cs := #[.string a0_0,.slice A0_1 l0_1.length c0_1,.slice A0_2 l0_2.length c0_2,.string a0_3,.string a0_4]) (t := 27) ?_;intro gb418 hg w3 hbox hb;have BK418 := aM (hbox);have GW418 := aM ((by rw [hg];exact (lZ wB_) : w.heap.size ≤ gb418));have GE418 := GW418;replace HB := aM (lT wB_ hb);clear hb hbox hg;obtain ⟨hcz4_0,hcz4_1,hcz4_2,hcz4_3,hcz4_4,hfz4_0,hfz4_1,hfz4_2,hfz4_3,hfz4_4⟩ := z5_ BK418.out)|((with_reducible refine gate_callee (f := 10) rfl ?_);refine gl_ (some 4) Tryd.func10 #[.agg #[.string a0_0,.slice A0_1 l0_1.length c0_1,.slice A0_2 l0_2.length c0_2,.string a0_3,.string a0_4]] ?_;(with_reducible refine (impl_IsValidLocale.calls k a0_0 _ _ l0_1 _ _ l0_2 a0_3 a0_4 t419 _ ?side1 ?side2 ?side3 ?side4 A2.out).mono ?_);(case side1 => exact wX_ HR0_1.out);(case side2 => exact HC0_1.out);(case side3 => exact wX_ HR0_2.out);(case side4 => exact HC0_2.out);rintro e w5 ⟨rfl,hb⟩;refine ⟨_,rfl,?_⟩;replace BK418 := aM (bw_ BK418.out hb);replace HB := aM (lT wB_ hb)));go_ret;exact ⟨by first|rfl|(simp [*];done),wB_⟩
def impl_Locale_56.l0 : Nat → List (S27) → Int → Int → Option (Int)
 | 0,_,_,_ => none
 | k + 1,x0,x7,x8 => if x8 < x7 then (if 0 ≤ x8 then (if x8 < (x0.length : Int) then ((impl_FallbackTerm_1.f k ((rd_T27 x0 x8).f0) ((rd_T27 x0 x8).f1) ((rd_T27 x0 x8).f2) ((rd_T27 x0 x8).f3) ((rd_T27 x0 x8).f4)).bind fun t421 => (if t421 = true then (some x8) else (impl_Locale_56.l0 k x0 x7 (wrap64 (x8 + 1))))) else (none)) else (none)) else (some (-1))
def impl_Locale_56.f (k : Nat) (l0 : List (S27)) (a1 : Int) : Option (Int) := impl_Locale_56.l0 k l0 (l0.length : Int) 0
set_option maxHeartbeats 8000000 in
set_option maxRecDepth 100000 in
theorem impl_Locale_56.calls (k : Nat) (A0 : Option Addr) (c0 : Nat) (l0 : List (S27)) (a1 : Int) (r : Int) (w : World) (hr0 : Kd.C k27 w A0 l0.length l0) (hc0 : l0.length ≤ c0) (h : impl_Locale_56.f k l0 a1 = some r) :
  Calls Tryd.prog 56 #[.slice A0 l0.length c0,.func (.func 30) #[] #[]] w fun e w' => e = .returned (.int .i64 r) ∧ Below w.heap.size w w' := by
 have hu27 := Tryd.underlying27;have HR0 := aM hr0;have HC0 := aM hc0;clear hr0 hc0;have HB := aM (Below.refl w.heap.size w);have H : (impl_Locale_56.l0 k l0 (l0.length : Int) 0) = some r := h;clear h;have H' := aM H;clear H;go_enter Tryd.func56,Tryd.ntmps56;go_wp2;go_loopg [8] k (fun kq v8 w' => ∃ (x8_1 : Int),v8 = .int .i64 x8_1 ∧ Aside0 (impl_Locale_56.l0 kq l0 (l0.length : Int) x8_1 = some r) ∧ Aside0 (kq ≤ k) ∧ Aside0 (Below w.heap.size w w'))
 case atStart => exact ⟨(0),(by first|rfl|(simp [*];done)),H',⟨Nat.le_refl _⟩,⟨wB_⟩⟩
 case round =>
  clear H';obtain ⟨x8_1,rfl,HA,HK1,HB⟩ := hrel
  cases gk with
  | zero => exact absurd HA.out (by simp [impl_Locale_56.l0])
  | succ k1 =>
   have H := HA.out;clear HA;simp only [impl_Locale_56.l0] at H
   by_cases c3 : x8_1 < (l0.length : Int)
   focus
    rw [if_pos c3] at H;have c3b0 : decide (x8_1 < (l0.length : Int)) = true := dT c3;clear c3
    by_cases c4 : 0 ≤ x8_1
    rotate_left;rw [if_neg c4] at H;exact absurd H (by simp);rw [if_pos c4] at H;have c4b0 : decide (0 ≤ x8_1) = true := dT c4;clear c4
    by_cases c5 : x8_1 < (l0.length : Int)
    rotate_left;rw [if_neg c5] at H;exact absurd H (by simp);rw [if_pos c5] at H;have c5b0 : decide (x8_1 < (l0.length : Int)) = true := dT c5;clear c5;obtain ⟨t421,A6,H⟩ := bE_ H
    by_cases c7 : t421 = true
    focus
     subst c7;rw [if_pos rfl] at H;obtain rfl := Option.some.inj H;simp only [eS,eP] at H;obtain ⟨rfl⟩ := H
    rotate_left
    focus
     replace c7 := Bool.eq_false_iff.mpr c7;subst c7;rw [if_neg Bool.false_ne_true] at H;have H' := aM H;clear H
   rotate_left 2
   focus
    rw [if_neg c3] at H;have c3b0 : decide (x8_1 < (l0.length : Int)) = false := dF c3;clear c3;obtain rfl := Option.some.inj H;simp only [eS,eP] at H;obtain ⟨rfl⟩ := H
   all_goals
    (try (have p01 : 0 ≤ (x8_1 : Int) := oD (by assumption);have q01 : x8_1 < (l0.length : Int) := oD (by assumption);obtain ⟨ad01,A01_1,c01_1,A01_2,c01_2,e01,hx01_0,hx01_1,hx01_2,hx01_3,hx01_4,hl01_1,hi01_1,hl01_2,hi01_2⟩ := at_T27 HR0.out x8_1 p01 q01;cases e01;replace hx01_0 := (HB.out.cell (wB w _ hx01_0)).trans hx01_0;replace hx01_1 := (HB.out.cell (wB w _ hx01_1)).trans hx01_1;replace hx01_2 := (HB.out.cell (wB w _ hx01_2)).trans hx01_2;replace hx01_3 := (HB.out.cell (wB w _ hx01_3)).trans hx01_3;replace hx01_4 := (HB.out.cell (wB w _ hx01_4)).trans hx01_4;have HR01_1 := aM hi01_1;have HC01_1 := aM hl01_1;clear hi01_1 hl01_1;have HR01_2 := aM hi01_2;have HC01_2 := aM hl01_2;clear hi01_2 hl01_2;replace p01 := eq_true p01;replace q01 := eq_true q01));go_wp2_with (first|(go_at_call 30;(with_reducible refine (impl_FallbackTerm_1.calls _ _ _ _ _ _ _ _ _ _ _ _ ?side1 ?side2 ?side3 ?side4 A6.out).mono ?_);(case side1 => exact wX_ HR01_1.out);(case side2 => exact HC01_1.out);(case side3 => exact wX_ HR01_2.out);(case side4 => exact HC01_2.out);rintro e WA6 ⟨rfl,hb⟩;replace HB := aM (lT wB_ hb)))
    first
     |
      go_ret;exact ⟨by first|rfl|(simp [*];done),wB_⟩
     |
      go_roundg k1
      case measure => have := HK1.out;omega
      case rel => exact ⟨(wrap64 (x8_1 + 1)),(by first|rfl|(simp [*];done)),H',⟨by have := HK1.out;omega⟩,⟨wB_⟩⟩
def impl_Locale_29.f (k : Nat) (l0 : List (S27)) (a1 : Int) : Option (Bool) := (impl_Locale_56.f k l0 a1).bind fun t422 => (some (decide (t422 ≥ 0)))
set_option maxHeartbeats 8000000 in
set_option maxRecDepth 100000 in
theorem impl_Locale_29.calls (k : Nat) (A0 : Option Addr) (c0 : Nat) (l0 : List (S27)) (a1 : Int) (r : Bool) (w : World) (hr0 : Kd.C k27 w A0 l0.length l0) (hc0 : l0.length ≤ c0) (h : impl_Locale_29.f k l0 a1 = some r) :
  Calls Tryd.prog 29 #[.slice A0 l0.length c0,.func (.func 30) #[] #[]] w fun e w' => e = .returned (.bool r) ∧ Below w.heap.size w w' := by
 have HR0 := aM hr0;have HC0 := aM hc0;clear hr0 hc0;have HB := aM (Below.refl w.heap.size w);have H : ((impl_Locale_56.f k l0 a1).bind fun t422 => (some (decide (t422 ≥ 0)))) = some r := h;clear h;obtain ⟨t422,A3,H⟩ := bE_ H;obtain rfl := Option.some.inj H;simp only [eS,eP] at H;obtain ⟨rfl⟩ := H;go_enter Tryd.func29,Tryd.ntmps29;go_wp2_with (first|((with_reducible refine gate_callee (f := 56) rfl ?_);refine gl_ (some 7) Tryd.func56 #[.slice A0 l0.length c0,.func (.func 30) #[] #[]] ?_;(with_reducible refine (impl_Locale_56.calls k _ _ l0 a1 t422 _ ?side1 ?side2 A3.out).mono ?_);(case side1 => repeat (first|exact HR0.out|(with_reducible first|refine cA ?_ _|refine cN ?_ _|refine cD ?_)));(case side2 => exact HC0.out);rintro e w4 ⟨rfl,hb⟩;refine ⟨_,rfl,?_⟩;replace HB := aM (lT wB_ hb)));go_ret;exact ⟨by first|rfl|(simp [*];done),wB_⟩
mutual
def impl_FallbackTerm.j0 : Nat → List (S27) → ByteArray → Int → Bool → Option (ByteArray × Int × Bool)
 | 0,_,_,_,_ => none
 | k + 1,x0,x1,x2,x23 => if x23 = true then (some ((⟨#[]⟩ : ByteArray),0,false)) else (impl_FallbackTerm.l0 k x1 x2 x0 (x0.length : Int) 0)
def impl_FallbackTerm.l0 : Nat → ByteArray → Int → List (S27) → Int → Int → Option (ByteArray × Int × Bool)
 | 0,_,_,_,_,_ => none
 | k + 1,x1,x2,x24,x25,x26 => if x26 < x25 then (if 0 ≤ x26 then (if x26 < (x24.length : Int) then ((impl_termIndex.f ((rd_T27 x24 x26).f0) ((rd_T27 x24 x26).f1) ((rd_T27 x24 x26).f2) ((rd_T27 x24 x26).f3) ((rd_T27 x24 x26).f4) x1).bind fun t427 => (if t427 ≥ 0 then ((impl_termFor.f ((rd_T27 x24 x26).f0) ((rd_T27 x24 x26).f1) ((rd_T27 x24 x26).f2) ((rd_T27 x24 x26).f3) ((rd_T27 x24 x26).f4) t427 x2).bind fun t428 => (some (t428,x26,true))) else (impl_FallbackTerm.l0 k x1 x2 x24 x25 (wrap64 (x26 + 1))))) else (none)) else (none)) else (some ((⟨#[]⟩ : ByteArray),0,false))
end
def impl_FallbackTerm.f (k : Nat) (l0 : List (S27)) (a1 : ByteArray) (a2 : Int) : Option (ByteArray × Int × Bool) := if (l0.length : Int) > 5 then (impl_FallbackTerm.j0 k l0 a1 a2 true) else ((impl_isNumber.f a2).bind fun t423 => (if t423 = true then ((impl_Locale_29.f k l0 0).bind fun t424 => (impl_FallbackTerm.j0 k l0 a1 a2 t424)) else (impl_FallbackTerm.j0 k l0 a1 a2 true)))
set_option maxHeartbeats 8000000 in
set_option maxRecDepth 100000 in
theorem impl_FallbackTerm.calls (k : Nat) (A0 : Option Addr) (c0 : Nat) (l0 : List (S27)) (a1 : ByteArray) (a2 : Int) (r1 : ByteArray) (r2 : Int) (r3 : Bool) (w : World) (hr0 : Kd.C k27 w A0 l0.length l0) (hc0 : l0.length ≤ c0) (h : impl_FallbackTerm.f k l0 a1 a2 = some (r1,r2,r3)) :
  Calls Tryd.prog 9 #[.slice A0 l0.length c0,.string a1,.int .i64 a2] w fun e w' => e = .returned (.tuple #[.string r1,.int .i64 r2,.bool r3]) ∧ Below w.heap.size w w' := by
 have hu27 := Tryd.underlying27;have HR0 := aM hr0;have HC0 := aM hc0;clear hr0 hc0;have HB := aM (Below.refl w.heap.size w);have H : (if (l0.length : Int) > 5 then (impl_FallbackTerm.j0 k l0 a1 a2 true) else ((impl_isNumber.f a2).bind fun t423 => (if t423 = true then ((impl_Locale_29.f k l0 0).bind fun t424 => (impl_FallbackTerm.j0 k l0 a1 a2 t424)) else (impl_FallbackTerm.j0 k l0 a1 a2 true)))) = some (r1,r2,r3) := h;clear h;have HC4 := aM H;clear H;go_enter Tryd.func9,Tryd.ntmps9;go_upto_region 1 with (fail);go_cut [23] (fun v23 wc => ∃ (kq : Nat) (x23_3 : Bool),v23 = .bool x23_3 ∧ Aside0 (impl_FallbackTerm.j0 kq l0 a1 a2 x23_3 = some (r1,r2,r3)) ∧ Aside0 (kq ≤ k) ∧ Aside0 (Below w.heap.size w wc))
 case first =>
  have H := HC4.out;clear HC4
  by_cases c5 : (l0.length : Int) > 5
  focus
   rw [if_pos c5] at H;have c5b0 : decide (5 < (l0.length : Int)) = true := dT c5;have c5b1 : decide (5 < l0.length) = true := dT (by omega);clear c5;(first|rw [c5b0]|(simp only [i64_w,i32_w];rw [c5b0])|skip);have H' := aM H;clear H
  rotate_left
  focus
   rw [if_neg c5] at H;have c5b0 : decide (5 < (l0.length : Int)) = false := dF c5;have c5b1 : decide (5 < l0.length) = false := dF (by omega);clear c5;(first|rw [c5b0]|(simp only [i64_w,i32_w];rw [c5b0])|skip);obtain ⟨t423,A6,H⟩ := bE_ H
   by_cases c7 : t423 = true
   focus
    subst c7;rw [if_pos rfl] at H;obtain ⟨t424,A8,H⟩ := bE_ H;have H' := aM H;clear H
   rotate_left
   focus
    replace c7 := Bool.eq_false_iff.mpr c7;subst c7;rw [if_neg Bool.false_ne_true] at H;have H' := aM H;clear H
  all_goals
   go_wp2_with (first|(go_at_call 27;(with_reducible refine (impl_isNumber.calls _ _ _ A6.out).mono ?_);rintro e w' ⟨rfl,⟨nd,rfl⟩⟩)|(go_at_call 29;(with_reducible refine (impl_Locale_29.calls _ _ _ _ _ _ _ ?side1 ?side2 A8.out).mono ?_);(case side1 => repeat (first|exact (cB HR0.out wB_)|(with_reducible first|refine cA ?_ _|refine cN ?_ _|refine cD ?_)));(case side2 => exact HC0.out);rintro e WA8 ⟨rfl,hb⟩;replace HB := aM (lT wB_ hb)));go_meet
   case rel => first|(exact ⟨_,(true),(by first|rfl|(simp [*];done)),H',⟨by first|omega|exact Nat.le_refl _⟩,⟨wB_⟩⟩)|(exact ⟨_,(t424),(by first|rfl|(simp [*];done)),H',⟨by first|omega|exact Nat.le_refl _⟩,⟨wB_⟩⟩)
 case rest =>
  clear HC4;obtain ⟨kq,x23_3,rfl,HA,HJ3,HB⟩ := hcut
  cases kq with
  | zero => exact absurd HA.out (by simp [impl_FallbackTerm.j0])
  | succ kj3 =>
   have H := HA.out;clear HA;simp only [impl_FallbackTerm.j0] at H
   by_cases c10 : x23_3 = true
   ·subst c10;rw [if_pos rfl] at H;simp only [eS,eP] at H;obtain ⟨rfl,rfl,rfl⟩ := H;go_wp2;go_ret3;exact ⟨by first|rfl|(simp [*];done),wB_⟩
   ·replace c10 := Bool.eq_false_iff.mpr c10;subst c10;rw [if_neg Bool.false_ne_true] at H;have H' := aM H;clear H;go_wp2;go_loopg [26] kj3 (fun kq v26 w' => ∃ (x26_2 : Int),v26 = .int .i64 x26_2 ∧ Aside0 (impl_FallbackTerm.l0 kq a1 a2 l0 (l0.length : Int) x26_2 = some (r1,r2,r3)) ∧ Aside0 (kq ≤ kj3) ∧ Aside0 (Below w.heap.size w w'))
    case atStart => exact ⟨(0),(by first|rfl|(simp [*];done)),H',⟨Nat.le_refl _⟩,⟨wB_⟩⟩
    case round =>
     clear H';obtain ⟨x26_2,rfl,HA,HK2,HB⟩ := hrel
     cases gk with
     | zero => exact absurd HA.out (by simp [impl_FallbackTerm.l0])
     | succ k2 =>
      have H := HA.out;clear HA;simp only [impl_FallbackTerm.l0] at H
      by_cases c11 : x26_2 < (l0.length : Int)
      focus
       rw [if_pos c11] at H;have c11b0 : decide (x26_2 < (l0.length : Int)) = true := dT c11;clear c11
       by_cases c12 : 0 ≤ x26_2
       rotate_left;rw [if_neg c12] at H;exact absurd H (by simp);rw [if_pos c12] at H;have c12b0 : decide (0 ≤ x26_2) = true := dT c12;clear c12
       by_cases c13 : x26_2 < (l0.length : Int)
       rotate_left;rw [if_neg c13] at H;exact absurd H (by simp);rw [if_pos c13] at H;have c13b0 : decide (x26_2 < (l0.length : Int)) = true := dT c13;clear c13;obtain ⟨t427,A14,H⟩ := bE_ H
       by_cases c15 : t427 ≥ 0
       focus
        rw [if_pos c15] at H;have c15b0 : decide (0 ≤ t427) = true := dT c15;clear c15;obtain ⟨t428,A16,H⟩ := bE_ H;simp only [eS,eP] at H;obtain ⟨rfl,rfl,rfl⟩ := H
       rotate_left
       focus
        rw [if_neg c15] at H;have c15b0 : decide (0 ≤ t427) = false := dF c15;clear c15;have H' := aM H;clear H
      rotate_left 2
      focus
       rw [if_neg c11] at H;have c11b0 : decide (x26_2 < (l0.length : Int)) = false := dF c11;clear c11;simp only [eS,eP] at H;obtain ⟨rfl,rfl,rfl⟩ := H
      all_goals
       (try (have p01 : 0 ≤ (x26_2 : Int) := oD (by assumption);have q01 : x26_2 < (l0.length : Int) := oD (by assumption);obtain ⟨ad01,A01_1,c01_1,A01_2,c01_2,e01,hx01_0,hx01_1,hx01_2,hx01_3,hx01_4,hl01_1,hi01_1,hl01_2,hi01_2⟩ := at_T27 HR0.out x26_2 p01 q01;cases e01;replace hx01_0 := (HB.out.cell (wB w _ hx01_0)).trans hx01_0;replace hx01_1 := (HB.out.cell (wB w _ hx01_1)).trans hx01_1;replace hx01_2 := (HB.out.cell (wB w _ hx01_2)).trans hx01_2;replace hx01_3 := (HB.out.cell (wB w _ hx01_3)).trans hx01_3;replace hx01_4 := (HB.out.cell (wB w _ hx01_4)).trans hx01_4;have HR01_1 := aM hi01_1;have HC01_1 := aM hl01_1;clear hi01_1 hl01_1;have HR01_2 := aM hi01_2;have HC01_2 := aM hl01_2;clear hi01_2 hl01_2;replace p01 := eq_true p01;replace q01 := eq_true q01));go_wp2_with (first|((with_reducible refine gate_dst (N := 10) rfl ?_);refine bx_ (N := 10) (cs := #[.string (⟨#[]⟩ : ByteArray),.slice none 0 0,.slice none 0 0,.string (⟨#[]⟩ : ByteArray),.string (⟨#[]⟩ : ByteArray)]) (t := 27) ?_;intro gb426 hg Wgb426 hbox hb;have BK426 := aM (hbox);have GW426 := aM ((by rw [hg];exact (lZ wB_) : w.heap.size ≤ gb426));have GE426 := GW426;replace HB := aM (lT wB_ hb);clear hb hbox hg;obtain ⟨hcz426x426_0,hcz426x426_1,hcz426x426_2,hcz426x426_3,hcz426x426_4,hfz426x426_0,hfz426x426_1,hfz426x426_2,hfz426x426_3,hfz426x426_4⟩ := z5_ BK426.out)|((with_reducible refine gate_callee (f := 26) rfl ?_);refine gl_ (some 33) Tryd.func26 #[.agg #[.string ((rd_T27 l0 x26_2).f0),.slice A01_1 ((rd_T27 l0 x26_2).f1).length c01_1,.slice A01_2 ((rd_T27 l0 x26_2).f2).length c01_2,.string ((rd_T27 l0 x26_2).f3),.string ((rd_T27 l0 x26_2).f4)],.string a1] ?_;(with_reducible refine (impl_termIndex.calls _ _ _ _ _ _ _ _ _ _ _ _ ?side1 ?side2 ?side3 ?side4 A14.out).mono ?_);(case side1 => exact cB HR01_1.out wB_);(case side2 => exact HC01_1.out);(case side3 => exact cB HR01_2.out wB_);(case side4 => exact HC01_2.out);rintro e WA14 ⟨rfl,hb⟩;refine ⟨_,rfl,?_⟩;replace BK426 := aM (bW (g := gb426) (o := .cells #[.string ((rd_T27 l0 x26_2).f0),.slice A01_1 ((rd_T27 l0 x26_2).f1).length c01_1,.slice A01_2 ((rd_T27 l0 x26_2).f2).length c01_2,.string ((rd_T27 l0 x26_2).f3),.string ((rd_T27 l0 x26_2).f4)] 27 (0,0)) (bq5_ BK426.out) hb);replace HB := aM (lT wB_ hb);obtain ⟨hcz14x426_0,hcz14x426_1,hcz14x426_2,hcz14x426_3,hcz14x426_4,hfz14x426_0,hfz14x426_1,hfz14x426_2,hfz14x426_3,hfz14x426_4⟩ := z5_ BK426.out)|((with_reducible refine gate_callee (f := 28) rfl ?_);refine gl_ (some 39) Tryd.func28 #[.agg #[.string ((rd_T27 l0 x26_2).f0),.slice A01_1 ((rd_T27 l0 x26_2).f1).length c01_1,.slice A01_2 ((rd_T27 l0 x26_2).f2).length c01_2,.string ((rd_T27 l0 x26_2).f3),.string ((rd_T27 l0 x26_2).f4)],.int .i64 t427,.int .i64 a2] ?_;(with_reducible refine (impl_termFor.calls _ _ _ _ _ _ _ _ _ _ _ _ _ ?side1 ?side2 ?side3 ?side4 A16.out).mono ?_);(case side1 => exact wX_ HR01_1.out);(case side2 => exact HC01_1.out);(case side3 => exact wX_ HR01_2.out);(case side4 => exact HC01_2.out);rintro e WA16 ⟨rfl,hb⟩;refine ⟨_,rfl,?_⟩;replace BK426 := aM (bw_ BK426.out hb);replace HB := aM (lT wB_ hb)))
       first
        |
         go_ret3;(first|exact ⟨by first|rfl|(simp [*];done),wB_⟩|exact ⟨by first|rfl|(simp [*];done),wB_⟩)
        |
         go_roundg k2
         case measure => have := HJ3.out;have := HK2.out;omega
         case rel => exact ⟨(wrap64 (x26_2 + 1)),(by first|rfl|(simp [*];done)),H',⟨by have := HJ3.out;have := HK2.out;omega⟩,⟨wB_⟩⟩
def spec_l1Cur_number23.f (s0_0 : List Int) (s0_1 : Int) (s0_2 : Int) : Option (Int × Int × Int) := (spec_l1Cur_pick.f s0_0 s0_1 s0_2 1000).bind fun bt429 => ((some (([0,1,2,3,11,12,21,101,111,1999,bt429.1,999999,(-1),1000000] : List Int) : List Int)).bind fun y432 => ((spec_l1Cur_pick.f s0_0 bt429.2.1 bt429.2.2 24).bind fun bt435 => (if 0 ≤ (wrap64 (12 + (wrap64 (Int.tdiv bt435.1 11)))) then (if (wrap64 (12 + (wrap64 (Int.tdiv bt435.1 11)))) ≤ (y432.length : Int) then ((spec_l1Cur_among.f s0_0 bt435.2.1 bt435.2.2 (y432.take ((wrap64 (12 + (wrap64 (Int.tdiv bt435.1 11)))) : Int).toNat)).bind fun bt442 => (some (bt442.1,bt442.2.1,bt442.2.2))) else (none)) else (none))))
set_option maxHeartbeats 8000000 in
set_option maxRecDepth 100000 in
theorem spec_l1Cur_number23.calls (g : Nat) (s0_0 : List Int) (s0_1 : Int) (s0_2 : Int) (r1 : Int) (r2 : Int) (r3 : Int) (w0 w : World) (hI : IsS53 w0 w g s0_0 s0_1 s0_2) (hB : Below w0.heap.size w0 w) (h : spec_l1Cur_number23.f s0_0 s0_1 s0_2 = some (r1,r2,r3)) :
  Calls Tryd.prog 39 #[.pointer (some ⟨g,0,none⟩)] w fun e w' => e = .returned (.int .i64 r1) ∧ IsS53 w0 w' g s0_0 r2 r3 ∧ Below w0.heap.size w0 w' ∧ KeepBut w w' g none := by
 have HI0 := aM hI;have HK := aM (KeepBut.refl w g none);have HL := aM hB.size;clear hI;have HW0 := aM hB.size;have HB := aM hB;clear hB;have H : ((spec_l1Cur_pick.f s0_0 s0_1 s0_2 1000).bind fun bt429 => ((some (([0,1,2,3,11,12,21,101,111,1999,bt429.1,999999,(-1),1000000] : List Int) : List Int)).bind fun y432 => ((spec_l1Cur_pick.f s0_0 bt429.2.1 bt429.2.2 24).bind fun bt435 => (if 0 ≤ (wrap64 (12 + (wrap64 (Int.tdiv bt435.1 11)))) then (if (wrap64 (12 + (wrap64 (Int.tdiv bt435.1 11)))) ≤ (y432.length : Int) then ((spec_l1Cur_among.f s0_0 bt435.2.1 bt435.2.2 (y432.take ((wrap64 (12 + (wrap64 (Int.tdiv bt435.1 11)))) : Int).toNat)).bind fun bt442 => (some (bt442.1,bt442.2.1,bt442.2.2))) else (none)) else (none))))) = some (r1,r2,r3) := h;clear h;replace H := Option.bind_eq_some_iff.mp H;obtain ⟨⟨t429,t430,t431⟩,A20,H⟩ := H;replace H : ((some (([0,1,2,3,11,12,21,101,111,1999,t429,999999,(-1),1000000] : List Int) : List Int)).bind fun y432 => ((spec_l1Cur_pick.f s0_0 t430 t431 24).bind fun bt435 => (if 0 ≤ (wrap64 (12 + (wrap64 (Int.tdiv bt435.1 11)))) then (if (wrap64 (12 + (wrap64 (Int.tdiv bt435.1 11)))) ≤ (y432.length : Int) then ((spec_l1Cur_among.f s0_0 bt435.2.1 bt435.2.2 (y432.take ((wrap64 (12 + (wrap64 (Int.tdiv bt435.1 11)))) : Int).toNat)).bind fun bt442 => (some (bt442.1,bt442.2.1,bt442.2.2))) else (none)) else (none)))) = some (r1,r2,r3) := H;have A2 := aM A20;clear A20;obtain ⟨y432,hy432⟩ : ∃ y_ : List Int,y_ = (([0,1,2,3,11,12,21,101,111,1999,t429,999999,(-1),1000000] : List Int)) := ⟨_,rfl⟩;replace H : ((spec_l1Cur_pick.f s0_0 t430 t431 24).bind fun bt435 => (if 0 ≤ (wrap64 (12 + (wrap64 (Int.tdiv bt435.1 11)))) then (if (wrap64 (12 + (wrap64 (Int.tdiv bt435.1 11)))) ≤ (y432.length : Int) then ((spec_l1Cur_among.f s0_0 bt435.2.1 bt435.2.2 (y432.take ((wrap64 (12 + (wrap64 (Int.tdiv bt435.1 11)))) : Int).toNat)).bind fun bt442 => (some (bt442.1,bt442.2.1,bt442.2.2))) else (none)) else (none))) = some (r1,r2,r3) := (by first|(rw [hy432];with_reducible exact H)|(have H2_ := (Option.bind_some _ _).symm.trans H;rw [hy432];with_reducible exact H2_)|(have H2_ := (Option.bind_some _ _).symm.trans H;with_reducible exact H2_)|with_reducible exact H|(rw [hy432];exact H)|exact H);have Ny432 := aM hy432;clear hy432;replace H := Option.bind_eq_some_iff.mp H;obtain ⟨⟨t435,t436,t437⟩,A30,H⟩ := H;replace H : (if 0 ≤ (wrap64 (12 + (wrap64 (Int.tdiv t435 11)))) then (if (wrap64 (12 + (wrap64 (Int.tdiv t435 11)))) ≤ (y432.length : Int) then ((spec_l1Cur_among.f s0_0 t436 t437 (y432.take ((wrap64 (12 + (wrap64 (Int.tdiv t435 11)))) : Int).toNat)).bind fun bt442 => (some (bt442.1,bt442.2.1,bt442.2.2))) else (none)) else (none)) = some (r1,r2,r3) := H;have A3 := aM A30;clear A30;obtain ⟨ji4,hji4⟩ : ∃ j_ : Int,(wrap64 (12 + (wrap64 (Int.tdiv t435 11)))) = j_ := ⟨_,rfl⟩;replace H : (if 0 ≤ (ji4) then (if (ji4) ≤ (y432.length : Int) then ((spec_l1Cur_among.f s0_0 t436 t437 (y432.take ((ji4) : Int).toNat)).bind fun bt442 => (some (bt442.1,bt442.2.1,bt442.2.2))) else (none)) else (none)) = some (r1,r2,r3) := (by first|(rw [hji4] at H;exact H)|(simp only [hji4] at H ⊢;exact H));(try rw [hji4] at A2);(try rw [hji4] at A3);have hji4w : (IntKind.i64.wrap (12 + (wrap64 (Int.tdiv t435 11)))) = ji4 := (i64_w _).trans hji4
 by_cases c5 : 0 ≤ (ji4)
 ·rw [if_pos c5] at H;have c5b0 := eq_true c5;have c5b1 : decide (0 ≤ (ji4)) = true := dT c5;clear c5
  by_cases c6 : (ji4) ≤ (y432.length : Int)
  ·rw [if_pos c6] at H;have c6b0 := eq_true c6;have c6b1 : decide ((ji4) ≤ (y432.length : Int)) = true := dT c6;clear c6;obtain ⟨y438,hy438⟩ : ∃ y_ : List Int,y_ = (y432.take ((ji4) : Int).toNat) := ⟨_,rfl⟩;replace H : ((spec_l1Cur_among.f s0_0 t436 t437 y438).bind fun bt442 => (some (bt442.1,bt442.2.1,bt442.2.2))) = some (r1,r2,r3) := (by first|(rw [hy438];with_reducible exact H)|(have H2_ := (Option.bind_some _ _).symm.trans H;rw [hy438];with_reducible exact H2_)|(have H2_ := (Option.bind_some _ _).symm.trans H;with_reducible exact H2_)|with_reducible exact H|(rw [hy438];exact H)|exact H);have Ny438 := aM hy438;clear hy438;replace H := Option.bind_eq_some_iff.mp H;obtain ⟨⟨t442,t443,t444⟩,A70,H⟩ := H;replace H : (some (t442,t443,t444)) = some (r1,r2,r3) := H;have A7 := aM A70;clear A70;simp only [eS,eP] at H;obtain ⟨rfl,rfl,rfl⟩ := H;go_enter Tryd.func39,Tryd.ntmps39;go_wp2_with (first|((with_reducible refine gate_callee (f := 36) rfl ?_);refine gl_ (some 5) Tryd.func36 #[.pointer (some ⟨g,0,none⟩),.int .i64 1000] ?_;(with_reducible refine (spec_l1Cur_pick.calls g s0_0 s0_1 s0_2 1000 t429 t430 t431 w0 _ ?side1 ?side2 A2.out).mono ?_);(case side1 => exact hi53_);(case side2 => exact hb53_);rintro e w8 ⟨rfl,hi,hb,hk⟩;refine ⟨_,rfl,?_⟩;replace HK := aM (KeepBut.trans wK_ hk (.inl rfl));replace HB := aM (hb);replace HI0 := aM (hi))|((with_reducible refine gate_dst (N := 6) rfl ?_);refine Kd.R_lit (Kd.int .i64) _ 3 ?hg (N := 6) ?hd (xs := ([0,1,2,3,11,12,21,101,111,1999,t429,999999,(-1),1000000] : List Int)) (inner := [.int .i64 0,.int .i64 1,.int .i64 2,.int .i64 3,.int .i64 11,.int .i64 12,.int .i64 21,.int .i64 101,.int .i64 111,.int .i64 1999,.int .i64 t429,.int .i64 999999,.int .i64 (-1),.int .i64 1000000]) (ok := fun _ => True) (okp := fun _ => True) ?hr ?hp (fun _ hk => hk) trivial (Below.refl _ _) (Nat.le_refl _) (by simp) ?_;(case hd => rfl);(case hg => rfl);(case hr => first|(go_simp;done)|(go_simp;rfl));(case hp => exact (Reps.one (show Kd.M (Kd.int .i64) _ _ _ 0 [.int .i64 0] from rfl) (Reps.one (show Kd.M (Kd.int .i64) _ _ _ 1 [.int .i64 1] from rfl) (Reps.one (show Kd.M (Kd.int .i64) _ _ _ 2 [.int .i64 2] from rfl) (Reps.one (show Kd.M (Kd.int .i64) _ _ _ 3 [.int .i64 3] from rfl) (Reps.one (show Kd.M (Kd.int .i64) _ _ _ 11 [.int .i64 11] from rfl) (Reps.one (show Kd.M (Kd.int .i64) _ _ _ 12 [.int .i64 12] from rfl) (Reps.one (show Kd.M (Kd.int .i64) _ _ _ 21 [.int .i64 21] from rfl) (Reps.one (show Kd.M (Kd.int .i64) _ _ _ 101 [.int .i64 101] from rfl) (Reps.one (show Kd.M (Kd.int .i64) _ _ _ 111 [.int .i64 111] from rfl) (Reps.one (show Kd.M (Kd.int .i64) _ _ _ 1999 [.int .i64 1999] from rfl) (Reps.one (show Kd.M (Kd.int .i64) _ _ _ t429 [.int .i64 t429] from rfl) (Reps.one (show Kd.M (Kd.int .i64) _ _ _ 999999 [.int .i64 999999] from rfl) (Reps.one (show Kd.M (Kd.int .i64) _ _ _ (-1) [.int .i64 (-1)] from rfl) (Reps.one (show Kd.M (Kd.int .i64) _ _ _ 1000000 [.int .i64 1000000] from rfl) (Reps.none _ _))))))))))))))));intro v433 w9 ho10 hb hg_ hnew_;clear hg_ hnew_;(first|rw [← Ny432.out] at ho10|(simp only [Int.reduceToNat] at ho10;rw [← Ny432.out] at ho10));have HO434 := aM (Kd.R_lower ho10 (keep_size (w := w) (g := g) (row := none) wK_));replace HK := aM (KeepBut.trans wK_ (KeepBut.of_below hb g none) (.inl rfl));replace HB := aM (lT hb53_ hb);replace HI0 := aM (IsS53.below hi53_ hb);clear hb ho10)|((with_reducible refine gate_callee (f := 36) rfl ?_);refine gl_ (some 8) Tryd.func36 #[.pointer (some ⟨g,0,none⟩),.int .i64 24] ?_;(with_reducible refine (spec_l1Cur_pick.calls g s0_0 t430 t431 24 t435 t436 t437 w0 _ ?side1 ?side2 A3.out).mono ?_);(case side1 => exact hi53_);(case side2 => exact hb53_);rintro e w11 ⟨rfl,hi,hb,hk⟩;refine ⟨_,rfl,?_⟩;replace HO434 := aM (Kd.R_mono (Kd.R_keep (IsS53.apart (show IsS53 w0 _ g s0_0 t430 t431 from hi53_) (wO_ HO434.out) (by decide)) hk (fun _ h => h.2)) (fun _ h => h.1));replace HK := aM (KeepBut.trans wK_ hk (.inl rfl));replace HB := aM (hb);replace HI0 := aM (hi);obtain ⟨Ao13,co13,eo13⟩ := Kd.R_slice HO434.out;subst eo13;have q12 : ((ji4) : Int) ≤ ((y432.length : Int) : Int) := oD (by assumption);obtain ⟨i012,hi012,_,hsz12,_⟩ := info_parts info3;have hroom12 : y432.length ≤ co13 := (rR HO434.out).2.1;have hC12 : Kd.C (Kd.int .i64) _ Ao13 y432.length y432 := (rR HO434.out).2.2;have hcut12 := cut_to (P := Tryd.prog) 74 3 .i64 Tryd.underlying74 hi012 Ao13 y432.length co13 (ji4) (oD (by assumption)) q12 hroom12;have hr12 := Kd.C_take (m := ((ji4) : Int).toNat) hC12 (by omega);have hy12 : y438.length = ((ji4) : Int).toNat := (by rw [Ny438.out,xT];omega);rw [← Ny438.out] at hr12;rw [← hy12] at hcut12;have HR441 := aM hr12;have HC441 := aM (show y438.length ≤ co13 from by omega);clear hr12 hC12 hroom12 hi012 hsz12;have KY12 := aM hy12;clear hy12;have KL12 := aM (show ((ji4) : Int).toNat ≤ y432.length from by omega);replace q12 := eq_true q12)|((with_reducible refine gate_callee (f := 47) rfl ?_);refine gl_ (some 12) Tryd.func47 #[.pointer (some ⟨g,0,none⟩),.slice Ao13 y438.length co13] ?_;(with_reducible refine (spec_l1Cur_among.calls g s0_0 t436 t437 _ _ y438 t442 t443 t444 w0 _ ?side1 ?side2 ?side3 ?side4 ?side5 A7.out).mono ?_);(case side1 => exact hi53_);(case side2 => exact hb53_);(case side3 => repeat (first|exact (by repeat (first|(with_reducible exact HR441.out)|(with_reducible first|refine cA ?_ _|refine cN ?_ _|refine cD ?_)|exact HR441.out))|(with_reducible first|refine cA ?_ _|refine cN ?_ _|refine cD ?_)));(case side4 => exact HC441.out);(case side5 => first|exact far_slice (IsS53.own_ne HI0.out HO434.out (by decide))|(have hz_ := IsS53.own_ne HI0.out HO434.out (by decide);intro ad_ e_ _ q_;exact hz_ (by simp [Value.ownBlock,e_,q_])));rintro e w14 ⟨rfl,hi,hb,hk⟩;refine ⟨_,rfl,?_⟩;replace HO434 := aM (Kd.R_mono (Kd.R_keep (IsS53.apart (show IsS53 w0 _ g s0_0 t436 t437 from hi53_) (wO_ HO434.out) (by decide)) hk (fun _ h => h.2)) (fun _ h => h.1));replace HK := aM (KeepBut.trans wK_ hk (.inl rfl));replace HB := aM (hb);replace HI0 := aM (hi)));go_ret;exact ⟨by first|rfl|(simp [errW_none,errW_some] <;> rfl)|(simp only [← hji4];first|rfl|(simp [errW_none,errW_some] <;> rfl))|(simp [*,errW_none,errW_some] <;> rfl),hi53_,hb53_,wK_⟩
  ·rw [if_neg c6] at H;exact absurd H (by simp)
 ·rw [if_neg c5] at H;exact absurd H (by simp)
end Go.Proofs.YtleckcbiifhanaaDoor.P
