/- Written by a program in this session: each theorem here says that a Go function computes the Lean function beside it, or that a law's row holds, under the conditions that the theorem itself states. -/
import Derived.Test.YtmkkcpdpfelalaaZPx0
namespace Go.Proofs.Ytmkkcpdpfelalaa.P
open Go.RowKit Go.Proofs.YtmkkcpdpfelalaaW.PrintWords Go.Proofs.YtmkkcpdpfelalaaW.PrintLast Go.Proofs.YtmkkcpdpfelalaaW.PrintMore
attribute [local go_sem] max2_int min2_int max_two min_two max_three min_three max_four min_four   -- for this text's walks alone
set_option linter.unusedVariables false
set_option linter.unusedSimpArgs false
def laws_szTerm.f (a0_0 : ByteArray) (a0_1 : ByteArray) (a0_2 : ByteArray) (a1 : Int) : Option (Int) := if (wrap64 (a1 - (a0_0.size : Int))) < 0 then (some (-1)) else (if (wrap64 ((wrap64 (a1 - (a0_0.size : Int))) - (a0_1.size : Int))) < 0 then (some (-1)) else (if (wrap64 ((wrap64 ((wrap64 (a1 - (a0_0.size : Int))) - (a0_1.size : Int))) - (a0_2.size : Int))) < 0 then (some (-1)) else (some (wrap64 ((wrap64 ((wrap64 (a1 - (a0_0.size : Int))) - (a0_1.size : Int))) - (a0_2.size : Int))))))
set_option maxHeartbeats 8000000 in
set_option maxRecDepth 100000 in
theorem laws_szTerm.calls (a0_0 : ByteArray) (a0_1 : ByteArray) (a0_2 : ByteArray) (a1 : Int) (r : Int) (w : World) (h : laws_szTerm.f a0_0 a0_1 a0_2 a1 = some r) :
  Calls Try.prog 31 #[.agg #[.string a0_0,.string a0_1,.string a0_2],.int .i64 a1] w fun e w' => e = .returned (.int .i64 r) ∧ Below w.heap.size w w' := by
 have hu57 := Try.underlying57;have HB := aM (Below.refl w.heap.size w);have H : (if (wrap64 (a1 - (a0_0.size : Int))) < 0 then (some (-1)) else (if (wrap64 ((wrap64 (a1 - (a0_0.size : Int))) - (a0_1.size : Int))) < 0 then (some (-1)) else (if (wrap64 ((wrap64 ((wrap64 (a1 - (a0_0.size : Int))) - (a0_1.size : Int))) - (a0_2.size : Int))) < 0 then (some (-1)) else (some (wrap64 ((wrap64 ((wrap64 (a1 - (a0_0.size : Int))) - (a0_1.size : Int))) - (a0_2.size : Int))))))) = some r := h;clear h
 by_cases c3 : (wrap64 (a1 - (a0_0.size : Int))) < 0
 focus
  rw [if_pos c3] at H;have c3b0 : decide ((wrap64 (a1 - (a0_0.size : Int))) < 0) = true := dT c3;clear c3;obtain rfl := Option.some.inj H;simp only [eS,eP] at H;obtain ⟨rfl⟩ := H
 rotate_left
 focus
  rw [if_neg c3] at H;have c3b0 : decide ((wrap64 (a1 - (a0_0.size : Int))) < 0) = false := dF c3;clear c3
  by_cases c6 : (wrap64 ((wrap64 (a1 - (a0_0.size : Int))) - (a0_1.size : Int))) < 0
  focus
   rw [if_pos c6] at H;have c6b0 : decide ((wrap64 ((wrap64 (a1 - (a0_0.size : Int))) - (a0_1.size : Int))) < 0) = true := dT c6;clear c6;obtain rfl := Option.some.inj H;simp only [eS,eP] at H;obtain ⟨rfl⟩ := H
  rotate_left
  focus
   rw [if_neg c6] at H;have c6b0 : decide ((wrap64 ((wrap64 (a1 - (a0_0.size : Int))) - (a0_1.size : Int))) < 0) = false := dF c6;clear c6
   by_cases c9 : (wrap64 ((wrap64 ((wrap64 (a1 - (a0_0.size : Int))) - (a0_1.size : Int))) - (a0_2.size : Int))) < 0
   focus
    rw [if_pos c9] at H;have c9b0 : decide ((wrap64 ((wrap64 ((wrap64 (a1 - (a0_0.size : Int))) - (a0_1.size : Int))) - (a0_2.size : Int))) < 0) = true := dT c9;clear c9;obtain rfl := Option.some.inj H;simp only [eS,eP] at H;obtain ⟨rfl⟩ := H
   rotate_left
   focus
    rw [if_neg c9] at H;have c9b0 : decide ((wrap64 ((wrap64 ((wrap64 (a1 - (a0_0.size : Int))) - (a0_1.size : Int))) - (a0_2.size : Int))) < 0) = false := dF c9;clear c9;obtain rfl := Option.some.inj H;simp only [eS,eP] at H;obtain ⟨rfl⟩ := H
 all_goals
  go_enter Try.func31,Try.ntmps31;go_wp2_with (first|((with_reducible refine gate_dst (N := 2) rfl ?_);refine box_event ?hg (N := 2) ?hd (cs := #[.string a0_0,.string a0_1,.string a0_2]) (t := 57) ?hr ?_;(case hd => rfl);(case hg => rfl);(case hr => first|(go_simp;done)|(go_simp;rfl));intro gb101 hg Wgb101 hbox hb;have BK101 := aM (hbox);have GW101 := aM ((by rw [hg];exact (lZ hb_) : w.heap.size ≤ gb101));have GE101 := GW101;replace HB := aM (lT hb_ hb);clear hb hbox hg;obtain ⟨hcz101x101_0,hcz101x101_1,hcz101x101_2,hfz101x101_0,hfz101x101_1,hfz101x101_2⟩ := z3_ BK101.out));go_ret;exact ⟨by first|rfl|(simp [*];done),hb_⟩
def laws_szTermS.l0 : Nat → List (S57) → Int → Int → Option (Int)
 | 0,_,_,_ => none
 | k + 1,x0,x1,x5 => if x5 < (x0.length : Int) then (if 0 ≤ x5 then ((laws_szTerm.f ((rd_T57 x0 x5).f0) ((rd_T57 x0 x5).f1) ((rd_T57 x0 x5).f2) x1).bind fun t103 => (if t103 < 0 then (some (-1)) else (laws_szTermS.l0 k x0 t103 (wrap64 (x5 + 1))))) else (none)) else (some x1)
def laws_szTermS.f (k : Nat) (l0 : List (S57)) (a1 : Int) : Option (Int) := if (wrap64 (a1 - (l0.length : Int))) < 0 then (some (-1)) else (laws_szTermS.l0 k l0 (wrap64 (a1 - (l0.length : Int))) 0)
theorem laws_szTermS.mono_l : ∀ k,(∀ y0 y1 y2,LeO (laws_szTermS.l0 k y0 y1 y2) (laws_szTermS.l0 (k + 1) y0 y1 y2))
 | 0 => fun _ _ _ r h => by simp [laws_szTermS.l0] at h
 | k + 1 => by
  have ih0 := laws_szTermS.mono_l k
  ·intro y0 y1 y2
   unfold laws_szTermS.l0
   repeat' first
   | (with_reducible exact ih0 _ _ _)
   | (with_reducible exact LeO.refl _)
   | (with_reducible exact LeO.none _)
   | (with_reducible refine LeO.ite ?_ ?_)
   | (with_reducible refine LeO.bind ?_ (fun _ => ?_))
   | exact ih0 _ _ _
   | exact LeO.none _
   | refine LeO.ite ?_ ?_
   | refine LeO.bind ?_ (fun _ => ?_)
theorem laws_szTermS.mono : ∀ a0 a1 k,LeO (laws_szTermS.f k a0 a1) (laws_szTermS.f (k + 1) a0 a1) := by
 intro a0 a1 k
 have ih0 := laws_szTermS.mono_l k
 unfold laws_szTermS.f
 repeat' first
   | (with_reducible exact ih0 _ _ _)
   | (with_reducible exact LeO.refl _)
   | (with_reducible exact LeO.none _)
   | (with_reducible refine LeO.ite ?_ ?_)
   | (with_reducible refine LeO.bind ?_ (fun _ => ?_))
   | exact ih0 _ _ _
   | exact LeO.none _
   | refine LeO.ite ?_ ?_
   | refine LeO.bind ?_ (fun _ => ?_)
set_option maxHeartbeats 8000000 in
set_option maxRecDepth 100000 in
theorem laws_szTermS.calls (k : Nat) (A0 : Option Addr) (c0 : Nat) (l0 : List (S57)) (a1 : Int) (r : Int) (w : World) (hr0 : Kd.C k57 w A0 l0.length l0) (hc0 : l0.length ≤ c0) (h : laws_szTermS.f k l0 a1 = some r) :
  Calls Try.prog 36 #[.slice A0 l0.length c0,.int .i64 a1] w fun e w' => e = .returned (.int .i64 r) ∧ Below w.heap.size w w' := by
 have hu57 := Try.underlying57;have HR0 := aM hr0;have HC0 := aM hc0;clear hr0 hc0;have HB := aM (Below.refl w.heap.size w);have H : (if (wrap64 (a1 - (l0.length : Int))) < 0 then (some (-1)) else (laws_szTermS.l0 k l0 (wrap64 (a1 - (l0.length : Int))) 0)) = some r := h;clear h
 by_cases c3 : (wrap64 (a1 - (l0.length : Int))) < 0
 ·rw [if_pos c3] at H;have c3b0 : decide ((wrap64 (a1 - (l0.length : Int))) < 0) = true := dT c3;clear c3;obtain rfl := Option.some.inj H;simp only [eS,eP] at H;obtain ⟨rfl⟩ := H;go_enter Try.func36,Try.ntmps36;go_wp2;go_ret;exact ⟨by first|rfl|(simp [*];done),hb_⟩
 ·rw [if_neg c3] at H;have c3b0 : decide ((wrap64 (a1 - (l0.length : Int))) < 0) = false := dF c3;clear c3;have H' := aM H;clear H;go_enter Try.func36,Try.ntmps36;go_wp2;go_loopg [1,5] k (fun kq v1 v5 w' => ∃ (x1_1 : Int) (x5_1 : Int),v1 = .int .i64 x1_1 ∧ v5 = .int .i64 x5_1 ∧ Aside0 (laws_szTermS.l0 kq l0 x1_1 x5_1 = some r) ∧ Aside0 (kq ≤ k) ∧ Aside0 (Below w.heap.size w w'))
  case atStart => exact ⟨(wrap64 (a1 - (l0.length : Int))),(0),(by first|rfl|(simp [*];done)),(by first|rfl|(simp [*];done)),H',⟨Nat.le_refl _⟩,⟨hb_⟩⟩
  case round =>
   clear H';(try clear p2);(try clear c3);(try clear c3b0);obtain ⟨x1_1,x5_1,rfl,rfl,HA,HK1,HB⟩ := hrel
   cases gk with
   | zero => exact absurd HA.out (by simp [laws_szTermS.l0])
   | succ k1 =>
    have H := HA.out;clear HA;simp only [laws_szTermS.l0] at H
    by_cases c4 : x5_1 < (l0.length : Int)
    focus
     rw [if_pos c4] at H;have c4b0 : decide (x5_1 < (l0.length : Int)) = true := dT c4;clear c4
     by_cases c5 : 0 ≤ x5_1
     rotate_left;rw [if_neg c5] at H;exact absurd H (by simp);rw [if_pos c5] at H;have c5b0 : decide (0 ≤ x5_1) = true := dT c5;clear c5;obtain ⟨t103,A6,H⟩ := bE_ H
     by_cases c7 : t103 < 0
     focus
      rw [if_pos c7] at H;have c7b0 : decide (t103 < 0) = true := dT c7;clear c7;obtain rfl := Option.some.inj H;simp only [eS,eP] at H;obtain ⟨rfl⟩ := H
     rotate_left
     focus
      rw [if_neg c7] at H;have c7b0 : decide (t103 < 0) = false := dF c7;clear c7;have H' := aM H;clear H
    rotate_left 2
    focus
     rw [if_neg c4] at H;have c4b0 : decide (x5_1 < (l0.length : Int)) = false := dF c4;clear c4;obtain rfl := Option.some.inj H;simp only [eS,eP] at H;obtain ⟨rfl⟩ := H
    all_goals
     (try (have p01 : 0 ≤ (x5_1 : Int) := oD (by assumption);have q01 : x5_1 < (l0.length : Int) := oD (by assumption);obtain ⟨ad01,e01,hx01_0,hx01_1,hx01_2⟩ := at_T57 HR0.out x5_1 p01 q01;cases e01;replace hx01_0 := (HB.out.cell (wB w _ hx01_0)).trans hx01_0;replace hx01_1 := (HB.out.cell (wB w _ hx01_1)).trans hx01_1;replace hx01_2 := (HB.out.cell (wB w _ hx01_2)).trans hx01_2;replace p01 := eq_true p01;replace q01 := eq_true q01));go_wp2_with (first|((with_reducible refine gate_callee (f := 31) rfl ?_);refine goesL_ (some 23) rfl rfl Try.func31 (by kernel_rfl) rfl #[.agg #[.string ((rd_T57 l0 x5_1).f0),.string ((rd_T57 l0 x5_1).f1),.string ((rd_T57 l0 x5_1).f2)],.int .i64 x1_1] rfl (by (try simp only [mT,mC,mN]);first|done|rfl|(simp only [xD,xT];rfl)) ?_;(with_reducible refine (laws_szTerm.calls _ _ _ _ _ _ A6.out).mono ?_);rintro e WA6 ⟨rfl,hb⟩;refine ⟨_,rfl,?_⟩;replace HB := aM (lT hb_ hb);(try clear hb)))
     first
      |
       go_ret;exact ⟨by first|rfl|(simp [*];done),hb_⟩
      |
       go_roundg k1
       case measure => have := HK1.out;omega
       case rel => exact ⟨(t103),(wrap64 (x5_1 + 1)),(by first|rfl|(simp [*];done)),(by first|rfl|(simp [*];done)),H',⟨by have := HK1.out;omega⟩,⟨hb_⟩⟩
def laws_szOrdinalRule.f (a0_0 : Int) (a0_1 : Int) (a0_2 : ByteArray) (a1 : Int) : Option (Int) := if (wrap64 (a1 - (a0_2.size : Int))) < 0 then (some (-1)) else (some (wrap64 (a1 - (a0_2.size : Int))))
set_option maxHeartbeats 8000000 in
set_option maxRecDepth 100000 in
theorem laws_szOrdinalRule.calls (a0_0 : Int) (a0_1 : Int) (a0_2 : ByteArray) (a1 : Int) (r : Int) (w : World) (h : laws_szOrdinalRule.f a0_0 a0_1 a0_2 a1 = some r) :
  Calls Try.prog 69 #[.agg #[.int .i64 a0_0,.int .i64 a0_1,.string a0_2],.int .i64 a1] w fun e w' => e = .returned (.int .i64 r) ∧ Below w.heap.size w w' := by
 have hu91 := Try.underlying91;have HB := aM (Below.refl w.heap.size w);have H : (if (wrap64 (a1 - (a0_2.size : Int))) < 0 then (some (-1)) else (some (wrap64 (a1 - (a0_2.size : Int))))) = some r := h;clear h
 by_cases c3 : (wrap64 (a1 - (a0_2.size : Int))) < 0
 focus
  rw [if_pos c3] at H;have c3b0 : decide ((wrap64 (a1 - (a0_2.size : Int))) < 0) = true := dT c3;clear c3;obtain rfl := Option.some.inj H;simp only [eS,eP] at H;obtain ⟨rfl⟩ := H
 rotate_left
 focus
  rw [if_neg c3] at H;have c3b0 : decide ((wrap64 (a1 - (a0_2.size : Int))) < 0) = false := dF c3;clear c3;obtain rfl := Option.some.inj H;simp only [eS,eP] at H;obtain ⟨rfl⟩ := H
 all_goals
  go_enter Try.func69,Try.ntmps69;go_wp2_with (first|((with_reducible refine gate_dst (N := 2) rfl ?_);refine box_event ?hg (N := 2) ?hd (cs := #[.int .i64 a0_0,.int .i64 a0_1,.string a0_2]) (t := 91) ?hr ?_;(case hd => rfl);(case hg => rfl);(case hr => first|(go_simp;done)|(go_simp;rfl));intro gb104 hg Wgb104 hbox hb;have BK104 := aM (hbox);have GW104 := aM ((by rw [hg];exact (lZ hb_) : w.heap.size ≤ gb104));have GE104 := GW104;replace HB := aM (lT hb_ hb);clear hb hbox hg;obtain ⟨hcz104x104_0,hcz104x104_1,hcz104x104_2,hfz104x104_0,hfz104x104_1,hfz104x104_2⟩ := z3_ BK104.out));go_ret;exact ⟨by first|rfl|(simp [*];done),hb_⟩
def laws_szOrdinalRuleS.l0 : Nat → List (S91) → Int → Int → Option (Int)
 | 0,_,_,_ => none
 | k + 1,x0,x1,x5 => if x5 < (x0.length : Int) then (if 0 ≤ x5 then ((laws_szOrdinalRule.f ((rd_T91 x0 x5).f0) ((rd_T91 x0 x5).f1) ((rd_T91 x0 x5).f2) x1).bind fun t106 => (if t106 < 0 then (some (-1)) else (laws_szOrdinalRuleS.l0 k x0 t106 (wrap64 (x5 + 1))))) else (none)) else (some x1)
def laws_szOrdinalRuleS.f (k : Nat) (l0 : List (S91)) (a1 : Int) : Option (Int) := if (wrap64 (a1 - (l0.length : Int))) < 0 then (some (-1)) else (laws_szOrdinalRuleS.l0 k l0 (wrap64 (a1 - (l0.length : Int))) 0)
theorem laws_szOrdinalRuleS.mono_l : ∀ k,(∀ y0 y1 y2,LeO (laws_szOrdinalRuleS.l0 k y0 y1 y2) (laws_szOrdinalRuleS.l0 (k + 1) y0 y1 y2))
 | 0 => fun _ _ _ r h => by simp [laws_szOrdinalRuleS.l0] at h
 | k + 1 => by
  have ih0 := laws_szOrdinalRuleS.mono_l k
  ·intro y0 y1 y2
   unfold laws_szOrdinalRuleS.l0
   repeat' first
   | (with_reducible exact ih0 _ _ _)
   | (with_reducible exact LeO.refl _)
   | (with_reducible exact LeO.none _)
   | (with_reducible refine LeO.ite ?_ ?_)
   | (with_reducible refine LeO.bind ?_ (fun _ => ?_))
   | exact ih0 _ _ _
   | exact LeO.none _
   | refine LeO.ite ?_ ?_
   | refine LeO.bind ?_ (fun _ => ?_)
theorem laws_szOrdinalRuleS.mono : ∀ a0 a1 k,LeO (laws_szOrdinalRuleS.f k a0 a1) (laws_szOrdinalRuleS.f (k + 1) a0 a1) := by
 intro a0 a1 k
 have ih0 := laws_szOrdinalRuleS.mono_l k
 unfold laws_szOrdinalRuleS.f
 repeat' first
   | (with_reducible exact ih0 _ _ _)
   | (with_reducible exact LeO.refl _)
   | (with_reducible exact LeO.none _)
   | (with_reducible refine LeO.ite ?_ ?_)
   | (with_reducible refine LeO.bind ?_ (fun _ => ?_))
   | exact ih0 _ _ _
   | exact LeO.none _
   | refine LeO.ite ?_ ?_
   | refine LeO.bind ?_ (fun _ => ?_)
set_option maxHeartbeats 8000000 in
set_option maxRecDepth 100000 in
theorem laws_szOrdinalRuleS.calls (k : Nat) (A0 : Option Addr) (c0 : Nat) (l0 : List (S91)) (a1 : Int) (r : Int) (w : World) (hr0 : Kd.C k91 w A0 l0.length l0) (hc0 : l0.length ≤ c0) (h : laws_szOrdinalRuleS.f k l0 a1 = some r) :
  Calls Try.prog 37 #[.slice A0 l0.length c0,.int .i64 a1] w fun e w' => e = .returned (.int .i64 r) ∧ Below w.heap.size w w' := by
 have hu91 := Try.underlying91;have HR0 := aM hr0;have HC0 := aM hc0;clear hr0 hc0;have HB := aM (Below.refl w.heap.size w);have H : (if (wrap64 (a1 - (l0.length : Int))) < 0 then (some (-1)) else (laws_szOrdinalRuleS.l0 k l0 (wrap64 (a1 - (l0.length : Int))) 0)) = some r := h;clear h
 by_cases c3 : (wrap64 (a1 - (l0.length : Int))) < 0
 ·rw [if_pos c3] at H;have c3b0 : decide ((wrap64 (a1 - (l0.length : Int))) < 0) = true := dT c3;clear c3;obtain rfl := Option.some.inj H;simp only [eS,eP] at H;obtain ⟨rfl⟩ := H;go_enter Try.func37,Try.ntmps37;go_wp2;go_ret;exact ⟨by first|rfl|(simp [*];done),hb_⟩
 ·rw [if_neg c3] at H;have c3b0 : decide ((wrap64 (a1 - (l0.length : Int))) < 0) = false := dF c3;clear c3;have H' := aM H;clear H;go_enter Try.func37,Try.ntmps37;go_wp2;go_loopg [1,5] k (fun kq v1 v5 w' => ∃ (x1_1 : Int) (x5_1 : Int),v1 = .int .i64 x1_1 ∧ v5 = .int .i64 x5_1 ∧ Aside0 (laws_szOrdinalRuleS.l0 kq l0 x1_1 x5_1 = some r) ∧ Aside0 (kq ≤ k) ∧ Aside0 (Below w.heap.size w w'))
  case atStart => exact ⟨(wrap64 (a1 - (l0.length : Int))),(0),(by first|rfl|(simp [*];done)),(by first|rfl|(simp [*];done)),H',⟨Nat.le_refl _⟩,⟨hb_⟩⟩
  case round =>
   clear H';(try clear p2);(try clear c3);(try clear c3b0);obtain ⟨x1_1,x5_1,rfl,rfl,HA,HK1,HB⟩ := hrel
   cases gk with
   | zero => exact absurd HA.out (by simp [laws_szOrdinalRuleS.l0])
   | succ k1 =>
    have H := HA.out;clear HA;simp only [laws_szOrdinalRuleS.l0] at H
    by_cases c4 : x5_1 < (l0.length : Int)
    focus
     rw [if_pos c4] at H;have c4b0 : decide (x5_1 < (l0.length : Int)) = true := dT c4;clear c4
     by_cases c5 : 0 ≤ x5_1
     rotate_left;rw [if_neg c5] at H;exact absurd H (by simp);rw [if_pos c5] at H;have c5b0 : decide (0 ≤ x5_1) = true := dT c5;clear c5;obtain ⟨t106,A6,H⟩ := bE_ H
     by_cases c7 : t106 < 0
     focus
      rw [if_pos c7] at H;have c7b0 : decide (t106 < 0) = true := dT c7;clear c7;obtain rfl := Option.some.inj H;simp only [eS,eP] at H;obtain ⟨rfl⟩ := H
     rotate_left
     focus
      rw [if_neg c7] at H;have c7b0 : decide (t106 < 0) = false := dF c7;clear c7;have H' := aM H;clear H
    rotate_left 2
    focus
     rw [if_neg c4] at H;have c4b0 : decide (x5_1 < (l0.length : Int)) = false := dF c4;clear c4;obtain rfl := Option.some.inj H;simp only [eS,eP] at H;obtain ⟨rfl⟩ := H
    all_goals
     (try (have p01 : 0 ≤ (x5_1 : Int) := oD (by assumption);have q01 : x5_1 < (l0.length : Int) := oD (by assumption);obtain ⟨ad01,e01,hx01_0,hx01_1,hx01_2⟩ := at_T91 HR0.out x5_1 p01 q01;cases e01;replace hx01_0 := (HB.out.cell (wB w _ hx01_0)).trans hx01_0;replace hx01_1 := (HB.out.cell (wB w _ hx01_1)).trans hx01_1;replace hx01_2 := (HB.out.cell (wB w _ hx01_2)).trans hx01_2;replace p01 := eq_true p01;replace q01 := eq_true q01));go_wp2_with (first|((with_reducible refine gate_callee (f := 69) rfl ?_);refine goesL_ (some 23) rfl rfl Try.func69 (by kernel_rfl) rfl #[.agg #[.int .i64 ((rd_T91 l0 x5_1).f0),.int .i64 ((rd_T91 l0 x5_1).f1),.string ((rd_T91 l0 x5_1).f2)],.int .i64 x1_1] rfl (by (try simp only [mT,mC,mN]);first|done|rfl|(simp only [xD,xT];rfl)) ?_;(with_reducible refine (laws_szOrdinalRule.calls _ _ _ _ _ _ A6.out).mono ?_);rintro e WA6 ⟨rfl,hb⟩;refine ⟨_,rfl,?_⟩;replace HB := aM (lT hb_ hb);(try clear hb)))
     first
      |
       go_ret;exact ⟨by first|rfl|(simp [*];done),hb_⟩
      |
       go_roundg k1
       case measure => have := HK1.out;omega
       case rel => exact ⟨(t106),(wrap64 (x5_1 + 1)),(by first|rfl|(simp [*];done)),(by first|rfl|(simp [*];done)),H',⟨by have := HK1.out;omega⟩,⟨hb_⟩⟩
def laws_szLocale.f (k : Nat) (a0_0 : ByteArray) (l0_1 : List (S57)) (l0_2 : List (S91)) (a0_3 : ByteArray) (a0_4 : ByteArray) (a1 : Int) : Option (Int) := if (wrap64 (a1 - (a0_0.size : Int))) < 0 then (some (-1)) else ((laws_szTermS.f k l0_1 (wrap64 (a1 - (a0_0.size : Int)))).bind fun t108 => (if t108 < 0 then (some (-1)) else ((laws_szOrdinalRuleS.f k l0_2 t108).bind fun t109 => (if t109 < 0 then (some (-1)) else (if (wrap64 (t109 - (a0_3.size : Int))) < 0 then (some (-1)) else (if (wrap64 ((wrap64 (t109 - (a0_3.size : Int))) - (a0_4.size : Int))) < 0 then (some (-1)) else (some (wrap64 ((wrap64 (t109 - (a0_3.size : Int))) - (a0_4.size : Int))))))))))
theorem laws_szLocale.mono : ∀ a0 a1 a2 a3 a4 a5 k,LeO (laws_szLocale.f k a0 a1 a2 a3 a4 a5) (laws_szLocale.f (k + 1) a0 a1 a2 a3 a4 a5) := by
 intro a0 a1 a2 a3 a4 a5 k
 unfold laws_szLocale.f
 repeat' first
   | (with_reducible exact laws_szOrdinalRuleS.mono _ _ _)
   | (with_reducible exact laws_szTermS.mono _ _ _)
   | (with_reducible exact LeO.refl _)
   | (with_reducible exact LeO.none _)
   | (with_reducible refine LeO.ite ?_ ?_)
   | (with_reducible refine LeO.bind ?_ (fun _ => ?_))
   | exact laws_szOrdinalRuleS.mono _ _ _
   | exact laws_szTermS.mono _ _ _
   | exact LeO.none _
   | refine LeO.ite ?_ ?_
   | refine LeO.bind ?_ (fun _ => ?_)
set_option maxHeartbeats 8000000 in
set_option maxRecDepth 100000 in
theorem laws_szLocale.calls (k : Nat) (a0_0 : ByteArray) (A0_1 : Option Addr) (c0_1 : Nat) (l0_1 : List (S57)) (A0_2 : Option Addr) (c0_2 : Nat) (l0_2 : List (S91)) (a0_3 : ByteArray) (a0_4 : ByteArray) (a1 : Int) (r : Int) (w : World) (hr0_1 : Kd.C k57 w A0_1 l0_1.length l0_1) (hc0_1 : l0_1.length ≤ c0_1) (hr0_2 : Kd.C k91 w A0_2 l0_2.length l0_2) (hc0_2 : l0_2.length ≤ c0_2) (h : laws_szLocale.f k a0_0 l0_1 l0_2 a0_3 a0_4 a1 = some r) :
  Calls Try.prog 9 #[.agg #[.string a0_0,.slice A0_1 l0_1.length c0_1,.slice A0_2 l0_2.length c0_2,.string a0_3,.string a0_4],.int .i64 a1] w fun e w' => e = .returned (.int .i64 r) ∧ Below w.heap.size w w' := by
 have hu25 := Try.underlying25;have HR0_1 := aM hr0_1;have HC0_1 := aM hc0_1;clear hr0_1 hc0_1;have HR0_2 := aM hr0_2;have HC0_2 := aM hc0_2;clear hr0_2 hc0_2;have HB := aM (Below.refl w.heap.size w);have H : (if (wrap64 (a1 - (a0_0.size : Int))) < 0 then (some (-1)) else ((laws_szTermS.f k l0_1 (wrap64 (a1 - (a0_0.size : Int)))).bind fun t108 => (if t108 < 0 then (some (-1)) else ((laws_szOrdinalRuleS.f k l0_2 t108).bind fun t109 => (if t109 < 0 then (some (-1)) else (if (wrap64 (t109 - (a0_3.size : Int))) < 0 then (some (-1)) else (if (wrap64 ((wrap64 (t109 - (a0_3.size : Int))) - (a0_4.size : Int))) < 0 then (some (-1)) else (some (wrap64 ((wrap64 (t109 - (a0_3.size : Int))) - (a0_4.size : Int))))))))))) = some r := h;clear h
 by_cases c3 : (wrap64 (a1 - (a0_0.size : Int))) < 0
 focus
  rw [if_pos c3] at H;have c3b0 : decide ((wrap64 (a1 - (a0_0.size : Int))) < 0) = true := dT c3;clear c3;obtain rfl := Option.some.inj H;simp only [eS,eP] at H;obtain ⟨rfl⟩ := H
 rotate_left
 focus
  rw [if_neg c3] at H;have c3b0 : decide ((wrap64 (a1 - (a0_0.size : Int))) < 0) = false := dF c3;clear c3;obtain ⟨t108,A6,H⟩ := bE_ H
  by_cases c7 : t108 < 0
  focus
   rw [if_pos c7] at H;have c7b0 : decide (t108 < 0) = true := dT c7;clear c7;obtain rfl := Option.some.inj H;simp only [eS,eP] at H;obtain ⟨rfl⟩ := H
  rotate_left
  focus
   rw [if_neg c7] at H;have c7b0 : decide (t108 < 0) = false := dF c7;clear c7;obtain ⟨t109,A11,H⟩ := bE_ H
   by_cases c12 : t109 < 0
   focus
    rw [if_pos c12] at H;have c12b0 : decide (t109 < 0) = true := dT c12;clear c12;obtain rfl := Option.some.inj H;simp only [eS,eP] at H;obtain ⟨rfl⟩ := H
   rotate_left
   focus
    rw [if_neg c12] at H;have c12b0 : decide (t109 < 0) = false := dF c12;clear c12
    by_cases c18 : (wrap64 (t109 - (a0_3.size : Int))) < 0
    focus
     rw [if_pos c18] at H;have c18b0 : decide ((wrap64 (t109 - (a0_3.size : Int))) < 0) = true := dT c18;clear c18;obtain rfl := Option.some.inj H;simp only [eS,eP] at H;obtain ⟨rfl⟩ := H
    rotate_left
    focus
     rw [if_neg c18] at H;have c18b0 : decide ((wrap64 (t109 - (a0_3.size : Int))) < 0) = false := dF c18;clear c18
     by_cases c25 : (wrap64 ((wrap64 (t109 - (a0_3.size : Int))) - (a0_4.size : Int))) < 0
     focus
      rw [if_pos c25] at H;have c25b0 : decide ((wrap64 ((wrap64 (t109 - (a0_3.size : Int))) - (a0_4.size : Int))) < 0) = true := dT c25;clear c25;obtain rfl := Option.some.inj H;simp only [eS,eP] at H;obtain ⟨rfl⟩ := H
     rotate_left
     focus
      rw [if_neg c25] at H;have c25b0 : decide ((wrap64 ((wrap64 (t109 - (a0_3.size : Int))) - (a0_4.size : Int))) < 0) = false := dF c25;clear c25;obtain rfl := Option.some.inj H;simp only [eS,eP] at H;obtain ⟨rfl⟩ := H
 all_goals
  go_enter Try.func9,Try.ntmps9;go_wp2_with (first|((with_reducible refine gate_dst (N := 2) rfl ?_);refine box_event ?hg (N := 2) ?hd (cs := #[.string a0_0,.slice A0_1 l0_1.length c0_1,.slice A0_2 l0_2.length c0_2,.string a0_3,.string a0_4]) (t := 25) ?hr ?_;(case hd => rfl);(case hg => rfl);(case hr => first|(go_simp;done)|(go_simp;rfl));intro gb107 hg Wgb107 hbox hb;have BK107 := aM (hbox);have GW107 := aM ((by rw [hg];exact (lZ hb_) : w.heap.size ≤ gb107));have GE107 := GW107;replace HB := aM (lT hb_ hb);clear hb hbox hg;obtain ⟨hcz107x107_0,hcz107x107_1,hcz107x107_2,hcz107x107_3,hcz107x107_4,hfz107x107_0,hfz107x107_1,hfz107x107_2,hfz107x107_3,hfz107x107_4⟩ := z5_ BK107.out)|((with_reducible refine gate_callee (f := 36) rfl ?_);refine goesL_ (some 15) rfl rfl Try.func36 (by kernel_rfl) rfl #[.slice A0_1 l0_1.length c0_1,.int .i64 (wrap64 (a1 - (a0_0.size : Int)))] rfl (by (try simp only [mT,mC,mN]);first|done|rfl|(simp only [xD,xT];rfl)) ?_;(with_reducible refine (laws_szTermS.calls _ _ _ _ _ _ _ ?side1 ?side2 A6.out).mono ?_);(case side1 => repeat (first|exact (cB HR0_1.out HB.out)|(with_reducible first|refine cA ?_ _|refine cN ?_ _|refine cD ?_)));(case side2 => exact HC0_1.out);rintro e WA6 ⟨rfl,hb⟩;refine ⟨_,rfl,?_⟩;replace BK107 := aM (bW (g := gb107) (o := .cells #[.string a0_0,.slice A0_1 l0_1.length c0_1,.slice A0_2 l0_2.length c0_2,.string a0_3,.string a0_4] 25 (0,0)) (bk_ BK107.out) hb);replace HB := aM (lT hb_ hb);(try clear hb);obtain ⟨hcz6x107_0,hcz6x107_1,hcz6x107_2,hcz6x107_3,hcz6x107_4,hfz6x107_0,hfz6x107_1,hfz6x107_2,hfz6x107_3,hfz6x107_4⟩ := z5_ BK107.out)|((with_reducible refine gate_callee (f := 37) rfl ?_);refine goesL_ (some 21) rfl rfl Try.func37 (by kernel_rfl) rfl #[.slice A0_2 l0_2.length c0_2,.int .i64 t108] rfl (by (try simp only [mT,mC,mN]);first|done|rfl|(simp only [xD,xT];rfl)) ?_;(with_reducible refine (laws_szOrdinalRuleS.calls _ _ _ _ _ _ _ ?side1 ?side2 A11.out).mono ?_);(case side1 => repeat (first|exact (cB HR0_2.out HB.out)|(with_reducible first|refine cA ?_ _|refine cN ?_ _|refine cD ?_)));(case side2 => exact HC0_2.out);rintro e WA11 ⟨rfl,hb⟩;refine ⟨_,rfl,?_⟩;replace BK107 := aM (bW (g := gb107) (o := .cells #[.string a0_0,.slice A0_1 l0_1.length c0_1,.slice A0_2 l0_2.length c0_2,.string a0_3,.string a0_4] 25 (0,0)) (bk_ BK107.out) hb);replace HB := aM (lT hb_ hb);(try clear hb);obtain ⟨hcz11x107_0,hcz11x107_1,hcz11x107_2,hcz11x107_3,hcz11x107_4,hfz11x107_0,hfz11x107_1,hfz11x107_2,hfz11x107_3,hfz11x107_4⟩ := z5_ BK107.out));go_ret;exact ⟨by first|rfl|(simp [*];done),hb_⟩
def laws_toTerm.f (a0_0 : ByteArray) (a0_1 : ByteArray) (a0_2 : ByteArray) : Option (ByteArray × ByteArray × ByteArray) := some (a0_0,a0_1,a0_2)
set_option maxHeartbeats 8000000 in
set_option maxRecDepth 100000 in
theorem laws_toTerm.calls (a0_0 : ByteArray) (a0_1 : ByteArray) (a0_2 : ByteArray) (r1 : ByteArray) (r2 : ByteArray) (r3 : ByteArray) (w : World) (h : laws_toTerm.f a0_0 a0_1 a0_2 = some (r1,r2,r3)) :
  Calls Try.prog 33 #[.agg #[.string a0_0,.string a0_1,.string a0_2]] w fun e w' => e = .returned (.agg #[.string r1,.string r2,.string r3]) ∧ Below w.heap.size w w' := by
 have hu57 := Try.underlying57;have hu61 := Try.underlying61;have HB := aM (Below.refl w.heap.size w);have H : (some (a0_0,a0_1,a0_2)) = some (r1,r2,r3) := h;clear h;simp only [eS,eP] at H;obtain ⟨rfl,rfl,rfl⟩ := H;go_enter Try.func33,Try.ntmps33;go_wp2_with (first|((with_reducible refine gate_dst (N := 1) rfl ?_);refine box_event ?hg (N := 1) ?hd (cs := #[.string a0_0,.string a0_1,.string a0_2]) (t := 57) ?hr ?_;(case hd => rfl);(case hg => rfl);(case hr => first|(go_simp;done)|(go_simp;rfl));intro gb110 hg w2 hbox hb;have BK110 := aM (hbox);have GW110 := aM ((by rw [hg];exact (lZ hb_) : w.heap.size ≤ gb110));have GE110 := GW110;replace HB := aM (lT hb_ hb);clear hb hbox hg)|((with_reducible refine gate_dst (N := 2) rfl ?_);refine box_event ?hg (N := 2) ?hd (cs := #[.string (⟨#[]⟩ : ByteArray),.string (⟨#[]⟩ : ByteArray),.string (⟨#[]⟩ : ByteArray)]) (t := 61) ?hr ?_;(case hd => rfl);(case hg => rfl);(case hr => first|(go_simp;done)|(go_simp;rfl));intro gb111 hg w3 hbox hb;have BK111 := aM (hbox);have GW111 := aM ((by rw [hg];exact (lZ hb_) : w.heap.size ≤ gb111));have GE111 := GW111;have NB110_111 := aM ((by rw [hg];exact Nat.ne_of_lt (blk_lt (g := gb110) (o := .cells #[.string a0_0,.string a0_1,.string a0_2] 57 (0,0)) (bk_ BK110.out)) : gb110 ≠ gb111));have NB111_110 := aM ((by rw [hg];exact Nat.ne_of_gt (blk_lt (g := gb110) (o := .cells #[.string a0_0,.string a0_1,.string a0_2] 57 (0,0)) (bk_ BK110.out)) : gb111 ≠ gb110));replace BK110 := aM (bW (g := gb110) (o := .cells #[.string a0_0,.string a0_1,.string a0_2] 57 (0,0)) (bk_ BK110.out) hb);replace HB := aM (lT hb_ hb);clear hb hbox hg)|((with_reducible refine gate_dst (N := 3) rfl ?_);refine box_event ?hg (N := 3) ?hd (cs := #[.string (⟨#[]⟩ : ByteArray),.string (⟨#[]⟩ : ByteArray),.string (⟨#[]⟩ : ByteArray)]) (t := 61) ?hr ?_;(case hd => rfl);(case hg => rfl);(case hr => first|(go_simp;done)|(go_simp;rfl));intro gb112 hg w4 hbox hb;have BK112 := aM (hbox);have GW112 := aM ((by rw [hg];exact (lZ hb_) : w.heap.size ≤ gb112));have GE112 := GW112;have NB110_112 := aM ((by rw [hg];exact Nat.ne_of_lt (blk_lt (g := gb110) (o := .cells #[.string a0_0,.string a0_1,.string a0_2] 57 (0,0)) (bk_ BK110.out)) : gb110 ≠ gb112));have NB112_110 := aM ((by rw [hg];exact Nat.ne_of_gt (blk_lt (g := gb110) (o := .cells #[.string a0_0,.string a0_1,.string a0_2] 57 (0,0)) (bk_ BK110.out)) : gb112 ≠ gb110));have NB111_112 := aM ((by rw [hg];exact Nat.ne_of_lt (blk_lt (g := gb111) (o := .cells #[.string (⟨#[]⟩ : ByteArray),.string (⟨#[]⟩ : ByteArray),.string (⟨#[]⟩ : ByteArray)] 61 (0,0)) (bk_ BK111.out)) : gb111 ≠ gb112));have NB112_111 := aM ((by rw [hg];exact Nat.ne_of_gt (blk_lt (g := gb111) (o := .cells #[.string (⟨#[]⟩ : ByteArray),.string (⟨#[]⟩ : ByteArray),.string (⟨#[]⟩ : ByteArray)] 61 (0,0)) (bk_ BK111.out)) : gb112 ≠ gb111));replace BK110 := aM (bW (g := gb110) (o := .cells #[.string a0_0,.string a0_1,.string a0_2] 57 (0,0)) (bk_ BK110.out) hb);replace BK111 := aM (bW (g := gb111) (o := .cells #[.string (⟨#[]⟩ : ByteArray),.string (⟨#[]⟩ : ByteArray),.string (⟨#[]⟩ : ByteArray)] 61 (0,0)) (bk_ BK111.out) hb);replace HB := aM (lT hb_ hb);clear hb hbox hg;have hnb5 := NB110_111.out;have hnc5 := NB111_110.out;have hnb6 := NB110_112.out;have hnc6 := NB112_110.out;obtain ⟨hcz7_0,hcz7_1,hcz7_2,hfz7_0,hfz7_1,hfz7_2⟩ := z3_ BK110.out;have hnb8 := NB112_111.out;have hnc8 := NB111_112.out;obtain ⟨hcz9_0,hcz9_1,hcz9_2,hfz9_0,hfz9_1,hfz9_2⟩ := z3_ BK112.out;obtain ⟨hcz10_0,hcz10_1,hcz10_2,hfz10_0,hfz10_1,hfz10_2⟩ := z3_ BK111.out));refine bodyPost_ret (results_cell_row rfl _ _ gb111 61 #[.string a0_0,.string a0_1,.string a0_2] (0,0) _ rfl (by (with_reducible repeat (first|refine bN ?_ _|refine bD ?_|refine bA ?_ _));refine blk_put (cs := #[.string a0_0,.string a0_1,.string (⟨#[]⟩ : ByteArray)]) ?_ 2 _ rfl;(with_reducible repeat (first|refine bN ?_ _|refine bD ?_|refine bA ?_ _));refine blk_put (cs := #[.string a0_0,.string (⟨#[]⟩ : ByteArray),.string (⟨#[]⟩ : ByteArray)]) ?_ 1 _ rfl;(with_reducible repeat (first|refine bN ?_ _|refine bD ?_|refine bA ?_ _));refine blk_put (cs := #[.string (⟨#[]⟩ : ByteArray),.string (⟨#[]⟩ : ByteArray),.string (⟨#[]⟩ : ByteArray)]) ?_ 0 _ rfl;(with_reducible repeat (first|refine bN ?_ _|refine bD ?_|refine bA ?_ _));refine blk_far ?_ NB111_112.out _;(with_reducible repeat (first|refine bN ?_ _|refine bD ?_|refine bA ?_ _));refine blk_far ?_ NB111_112.out _;(with_reducible repeat (first|refine bN ?_ _|refine bD ?_|refine bA ?_ _));refine blk_far ?_ NB111_112.out _;(with_reducible repeat (first|refine bN ?_ _|refine bD ?_|refine bA ?_ _));exact BK111.out) Try.underlying61 rfl (by kernel_rfl)) rfl ?_;exact ⟨by first|rfl|(simp [*];done),hb_⟩
def laws_toTermS.l0 : Nat → List (S57) → List (S61) → Int → Option ((List (S61)))
 | 0,_,_,_ => none
 | k + 1,x0,x3,x4 => if x4 < (x0.length : Int) then (if 0 ≤ x4 then ((laws_toTerm.f ((rd_T57 x0 x4).f0) ((rd_T57 x0 x4).f1) ((rd_T57 x0 x4).f2)).bind fun bt117 => (if x4 < (x3.length : Int) then (laws_toTermS.l0 k x0 (x3.set (x4 : Int).toNat (⟨bt117.1,bt117.2.1,bt117.2.2⟩ : S61)) (wrap64 (x4 + 1))) else (none))) else (none)) else (some x3)
def laws_toTermS.f (k : Nat) (l0 : List (S57)) : Option ((List (S61))) := if 0 ≤ (l0.length : Int) then (if ((l0.length : Int) : Int).toNat ≤ 5864062014805 then (laws_toTermS.l0 k l0 (List.replicate ((l0.length : Int) : Int).toNat z61) 0) else (none)) else (none)
theorem laws_toTermS.mono_l : ∀ k,(∀ y0 y1 y2,LeO (laws_toTermS.l0 k y0 y1 y2) (laws_toTermS.l0 (k + 1) y0 y1 y2))
 | 0 => fun _ _ _ r h => by simp [laws_toTermS.l0] at h
 | k + 1 => by
  have ih0 := laws_toTermS.mono_l k
  ·intro y0 y1 y2
   unfold laws_toTermS.l0
   repeat' first
   | (with_reducible exact ih0 _ _ _)
   | (with_reducible exact LeO.refl _)
   | (with_reducible exact LeO.none _)
   | (with_reducible refine LeO.ite ?_ ?_)
   | (with_reducible refine LeO.bind ?_ (fun _ => ?_))
   | exact ih0 _ _ _
   | exact LeO.none _
   | refine LeO.ite ?_ ?_
   | refine LeO.bind ?_ (fun _ => ?_)
theorem laws_toTermS.mono : ∀ a0 k,LeO (laws_toTermS.f k a0) (laws_toTermS.f (k + 1) a0) := by
 intro a0 k
 have ih0 := laws_toTermS.mono_l k
 unfold laws_toTermS.f
 repeat' first
   | (with_reducible exact ih0 _ _ _)
   | (with_reducible exact LeO.refl _)
   | (with_reducible exact LeO.none _)
   | (with_reducible refine LeO.ite ?_ ?_)
   | (with_reducible refine LeO.bind ?_ (fun _ => ?_))
   | exact ih0 _ _ _
   | exact LeO.none _
   | refine LeO.ite ?_ ?_
   | refine LeO.bind ?_ (fun _ => ?_)
set_option maxHeartbeats 8000000 in
set_option maxRecDepth 100000 in
theorem laws_toTermS.calls (k : Nat) (A0 : Option Addr) (c0 : Nat) (l0 : List (S57)) (r : List (S61)) (w : World) (hr0 : Kd.C k57 w A0 l0.length l0) (hc0 : l0.length ≤ c0) (h : laws_toTermS.f k l0 = some r) :
  Calls Try.prog 39 #[.slice A0 l0.length c0] w fun e w' => ∃ v0_ : Value,e = .returned (v0_) ∧ Kd.R k61 61 w' w.heap.size (fun _ => True) v0_ r ∧ Below w.heap.size w w' := by
 have hu57 := Try.underlying57;have hu61 := Try.underlying61;have HR0 := aM hr0;have HC0 := aM hc0;clear hr0 hc0;have HB := aM (Below.refl w.heap.size w);have H : (if 0 ≤ (l0.length : Int) then (if ((l0.length : Int) : Int).toNat ≤ 5864062014805 then (laws_toTermS.l0 k l0 (List.replicate ((l0.length : Int) : Int).toNat z61) 0) else (none)) else (none)) = some r := h;clear h
 by_cases c2 : 0 ≤ (l0.length : Int)
 ·rw [if_pos c2] at H;have c2b0 := eq_true c2;have c2b1 : decide (0 ≤ (l0.length : Int)) = true := dT c2;clear c2
  by_cases c3 : ((l0.length : Int) : Int).toNat ≤ 5864062014805
  ·rw [if_pos c3] at H;have c3b0 := eq_true c3;have c3b1 : decide (((l0.length : Int) : Int).toNat ≤ 5864062014805) = true := dT c3;clear c3;obtain ⟨y113,hy113⟩ : ∃ y_ : List (S61),y_ = (List.replicate ((l0.length : Int) : Int).toNat z61) := ⟨_,rfl⟩;replace H : (laws_toTermS.l0 k l0 y113 0) = some r := (by first|(rw [hy113];with_reducible exact H)|(have H2_ := (Option.bind_some _ _).symm.trans H;rw [hy113];with_reducible exact H2_)|(have H2_ := (Option.bind_some _ _).symm.trans H;with_reducible exact H2_)|with_reducible exact H|(rw [hy113];exact H)|exact H);have Ny113 := aM hy113;clear hy113;have H' := aM H;clear H;go_enter Try.func39,Try.ntmps39;go_wp2_with (first|((with_reducible refine gate_dst (N := 7) rfl ?_);refine Kd.R_make k61 _ 61 rfl (N := 7) rfl 28 _ _ rfl (l0.length : Int) rfl rfl Try.underlying28 (.agg #[(.string ⟨#[]⟩),(.string ⟨#[]⟩),(.string ⟨#[]⟩)]) 48 info61 rfl (by decide) (by omega) z61 (ok := fun _ => True) (okp := fun _ => True) (k61_mkM _ _ _ z61 ) (fun _ hk => hk) trivial (oD (by assumption)) (Nat.le_trans (Nat.mul_le_mul_right _ (oD (by assumption) : (l0.length : Int).toNat ≤ 5864062014805)) (by omega)) (Below.refl _ _) (Nat.le_refl _) ?_;intro v114 w4 ho5 hb hg_ hnew_;clear hg_ hnew_;(first|rw [← Ny113.out] at ho5|(simp only [Int.reduceToNat] at ho5;rw [← Ny113.out] at ho5));have HO115 := aM (Kd.R_lower ho5 (lZ hb_));replace HB := aM (lT hb_ hb);clear hb ho5));go_loopg [4] k (fun kq v4 w' => ∃ (x3_1 : List (S61)) (x4_1 : Int),v4 = .int .i64 x4_1 ∧ Aside0 (laws_toTermS.l0 kq l0 x3_1 x4_1 = some r) ∧ Aside0 (kq ≤ k) ∧ Aside0 (Kd.R k61 61 w' w.heap.size (fun _ => True) v114 x3_1) ∧ Aside0 (Below w.heap.size w w'))
   case atStart => exact ⟨(y113),(0),(by first|rfl|(simp [*];done)),H',⟨Nat.le_refl _⟩,⟨by (with_reducible repeat (first|apply rA|apply rN|apply rD));exact HO115.out⟩,⟨hb_⟩⟩
   case round =>
    clear H';(try clear c2);(try clear c2b0);(try clear c2b1);(try clear p2);(try clear c3);(try clear c3b0);(try clear c3b1);obtain ⟨x3_1,x4_1,rfl,HA,HK1,HO_3,HB⟩ := hrel
    cases gk with
    | zero => exact absurd HA.out (by simp [laws_toTermS.l0])
    | succ k1 =>
     have H := HA.out;clear HA;simp only [laws_toTermS.l0] at H
     by_cases c6 : x4_1 < (l0.length : Int)
     focus
      rw [if_pos c6] at H;have c6b0 : decide (x4_1 < (l0.length : Int)) = true := dT c6;clear c6
      by_cases c7 : 0 ≤ x4_1
      rotate_left;rw [if_neg c7] at H;exact absurd H (by simp);rw [if_pos c7] at H;have c7b0 : decide (0 ≤ x4_1) = true := dT c7;clear c7;replace H := Option.bind_eq_some_iff.mp H;obtain ⟨⟨t117,t118,t119⟩,A80,H⟩ := H;replace H : (if x4_1 < (x3_1.length : Int) then (laws_toTermS.l0 k1 l0 (x3_1.set (x4_1 : Int).toNat (⟨t117,t118,t119⟩ : S61)) (wrap64 (x4_1 + 1))) else (none)) = some r := H;have A8 := aM A80;clear A80
      by_cases c9 : x4_1 < (x3_1.length : Int)
      rotate_left;rw [if_neg c9] at H;exact absurd H (by simp);rw [if_pos c9] at H;have c9b0 : decide (x4_1 < (x3_1.length : Int)) = true := dT c9;clear c9;obtain ⟨y120,hy120⟩ : ∃ y_ : List (S61),y_ = (x3_1.set (x4_1 : Int).toNat (⟨t117,t118,t119⟩ : S61)) := ⟨_,rfl⟩;replace H : (laws_toTermS.l0 k1 l0 y120 (wrap64 (x4_1 + 1))) = some r := (by first|(rw [hy120];with_reducible exact H)|(have H2_ := (Option.bind_some _ _).symm.trans H;rw [hy120];with_reducible exact H2_)|(have H2_ := (Option.bind_some _ _).symm.trans H;with_reducible exact H2_)|with_reducible exact H|(rw [hy120];exact H)|exact H);have Ny120 := aM hy120;clear hy120;have H' := aM H;clear H
     rotate_left
     focus
      rw [if_neg c6] at H;have c6b0 : decide (x4_1 < (l0.length : Int)) = false := dF c6;clear c6;obtain rfl := Option.some.inj H;simp only [eS,eP] at H;obtain ⟨rfl⟩ := H
     all_goals
      (try (have p01 : 0 ≤ (x4_1 : Int) := oD (by assumption);have q01 : x4_1 < (l0.length : Int) := oD (by assumption);obtain ⟨ad01,e01,hx01_0,hx01_1,hx01_2⟩ := at_T57 HR0.out x4_1 p01 q01;cases e01;replace hx01_0 := (HB.out.cell (wB w _ hx01_0)).trans hx01_0;replace hx01_1 := (HB.out.cell (wB w _ hx01_1)).trans hx01_1;replace hx01_2 := (HB.out.cell (wB w _ hx01_2)).trans hx01_2;replace p01 := eq_true p01;replace q01 := eq_true q01));go_wp2_with (first|((with_reducible refine gate_callee (f := 33) rfl ?_);refine goesL_ (some 20) rfl rfl Try.func33 (by kernel_rfl) rfl #[.agg #[.string ((rd_T57 l0 x4_1).f0),.string ((rd_T57 l0 x4_1).f1),.string ((rd_T57 l0 x4_1).f2)]] rfl (by (try simp only [mT,mC,mN]);first|done|rfl|(simp only [xD,xT];rfl)) ?_;(with_reducible refine (laws_toTerm.calls _ _ _ _ _ _ _ A8.out).mono ?_);rintro e WA8 ⟨rfl,hb⟩;refine ⟨_,rfl,?_⟩;replace HO_3 := aM (rB (ho_ HO_3.out) hb);replace HB := aM (lT hb_ hb);(try clear hb);have p02 : 0 ≤ (x4_1 : Int) := oD (by assumption);have q02 : (x4_1 : Int) < ((x3_1.length : Int) : Int) := oD (by assumption);obtain ⟨go10,co10,eo10,gb10,gl10,cl10,HG10⟩ := Kd.R_form HO_3.out (by omega);(first|cases eo10|(injection eo10 with ea_ en_ ec_;(first|subst ea_|(injection ea_ with ea_;subst ea_));subst ec_;clear en_));have GB10 := aM gb10;have GG10 := aM HG10;clear gb10 gl10 HG10;obtain ⟨ce10,hcl10,hM10,hcc10,hfr10⟩ := Kd.R_elem HO_3.out z61 (x4_1 : Int) p02 q02;obtain rfl := k61_openM hM10;have hx02_0 : WA8.cell? ⟨go10,(x4_1 : Int).toNat * 3,none⟩ = some (.string ((rd_T61 x3_1 x4_1).f0)) := hcc10 0 _ rfl;have hx02_1 : WA8.cell? ⟨go10,(x4_1 : Int).toNat * 3 + 1,none⟩ = some (.string ((rd_T61 x3_1 x4_1).f1)) := hcc10 1 _ rfl;have hx02_2 : WA8.cell? ⟨go10,(x4_1 : Int).toNat * 3 + 2,none⟩ = some (.string ((rd_T61 x3_1 x4_1).f2)) := hcc10 2 _ rfl;have hf10_0 : WA8.frozen? ⟨go10,(x4_1 : Int).toNat * 3,none⟩ = false := hfr10 0;have hf10_1 : WA8.frozen? ⟨go10,(x4_1 : Int).toNat * 3 + 1,none⟩ = false := hfr10 1;have hf10_2 : WA8.frozen? ⟨go10,(x4_1 : Int).toNat * 3 + 2,none⟩ = false := hfr10 2;clear hcl10 hcc10 hfr10 hM10;replace p02 := eq_true p02;replace q02 := eq_true q02;have HX12 := aM (show Kd.R k61 61 WA8 w.heap.size (fun _ => True) (.slice (some ⟨go10,0,none⟩) x3_1.length co10) x3_1 from (ho_ HO_3.out));obtain ⟨ce12,hcl12,hM12,hcc12,hfr12⟩ := Kd.R_elem HX12.out z61 (x4_1 : Int) (oD (by assumption)) (by have h_ : (x4_1 : Int) < ((x3_1.length : Int) : Int) := oD (by assumption);first|exact h_|(have e_ := (rR HO_3.out).1;omega)|simpa using h_);obtain rfl := k61_openM hM12;have HP12 := Kd.R_seg HX12.out (x4_1 : Int) (oD (by assumption)) (by have h_ : (x4_1 : Int) < ((x3_1.length : Int) : Int) := oD (by assumption);first|exact h_|(have e_ := (rR HO_3.out).1;omega)|simpa using h_) (seg := [.string t117,.string t118,.string t119]) (j := 0) hcl12 hcc12 (show 3 ≤ 3 from by decide) (x' := (⟨t117,t118,t119⟩ : S61)) (k61_mkM _ _ _ (⟨t117,t118,t119⟩ : S61) ) (fun _ hk => hk);have hx12_0 := hcc12 0 _ rfl;(try simp only [show (k61).sz = 3 from rfl,Nat.mul_one,Nat.add_zero] at hx12_0);have hf12_0 := hfr12 0;(try simp only [show (k61).sz = 3 from rfl,Nat.mul_one,Nat.add_zero] at hf12_0);have hx12_1 := hcc12 1 _ rfl;(try simp only [show (k61).sz = 3 from rfl,Nat.mul_one,Nat.add_zero] at hx12_1);have hf12_1 := hfr12 1;(try simp only [show (k61).sz = 3 from rfl,Nat.mul_one,Nat.add_zero] at hf12_1);have hx12_2 := hcc12 2 _ rfl;(try simp only [show (k61).sz = 3 from rfl,Nat.mul_one,Nat.add_zero] at hx12_2);have hf12_2 := hfr12 2;(try simp only [show (k61).sz = 3 from rfl,Nat.mul_one,Nat.add_zero] at hf12_2);clear hcl12 hcc12 hfr12 hM12)|((with_reducible refine gate_store (t := 61) (p := 21) rfl ?_);refine store_event (t := 61) (p := 21) (v := ?vo_w13) (w1 := (((WA8.setCell ⟨go10,(x4_1 : Int).toNat * 3,none⟩ (.string t117)).setCell ⟨go10,(x4_1 : Int).toNat * 3 + 1,none⟩ (.string t118)).setCell ⟨go10,(x4_1 : Int).toNat * 3 + 2,none⟩ (.string t119))) ?hg ?ho ?hn ?hr ?_;(case ho => rfl);(case hg => rfl);(case hn => rfl);(case hr => first|(go_simp;done)|(go_simp;rfl));intro w13 hw;have hg : WA8.grownBy w13 (some go10) := (by rw [hw];exact HP12.2);have hp_ : Kd.R k61 61 w13 w.heap.size (fun _ => True) (.slice (some ⟨go10,0,none⟩) x3_1.length co10) y120 := (by rw [hw,Ny120.out];exact HP12.1);clear HP12;replace HO_3 := aM (hp_);replace HB := aM ((by rw [hw];exact lS (lS (lS (HB.out) GB10.out) GB10.out) GB10.out : Below w.heap.size w w13));clear hg hw hp_))
      first
       |
        go_ret;exact ⟨_,by first|rfl|(simp [*];done),by (with_reducible repeat (first|apply rA|apply rN|apply rD));exact HO_3.out,hb_⟩
       |
        go_roundg k1
        case measure => have := HK1.out;omega
        case rel => exact ⟨(y120),(wrap64 (x4_1 + 1)),(by first|rfl|(simp [*];done)),H',⟨by have := HK1.out;omega⟩,⟨by (with_reducible repeat (first|apply rA|apply rN|apply rD));exact HO_3.out⟩,⟨hb_⟩⟩
  ·rw [if_neg c3] at H;exact absurd H (by simp)
 ·rw [if_neg c2] at H;exact absurd H (by simp)
def laws_toOrdinalRule.f (a0_0 : Int) (a0_1 : Int) (a0_2 : ByteArray) : Option (Int × Int × ByteArray) := some (a0_0,a0_1,a0_2)
set_option maxHeartbeats 8000000 in
set_option maxRecDepth 100000 in
theorem laws_toOrdinalRule.calls (a0_0 : Int) (a0_1 : Int) (a0_2 : ByteArray) (r1 : Int) (r2 : Int) (r3 : ByteArray) (w : World) (h : laws_toOrdinalRule.f a0_0 a0_1 a0_2 = some (r1,r2,r3)) :
  Calls Try.prog 72 #[.agg #[.int .i64 a0_0,.int .i64 a0_1,.string a0_2]] w fun e w' => e = .returned (.agg #[.int .i64 r1,.int .i64 r2,.string r3]) ∧ Below w.heap.size w w' := by
 have hu91 := Try.underlying91;have hu72 := Try.underlying72;have HB := aM (Below.refl w.heap.size w);have H : (some (a0_0,a0_1,a0_2)) = some (r1,r2,r3) := h;clear h;simp only [eS,eP] at H;obtain ⟨rfl,rfl,rfl⟩ := H;go_enter Try.func72,Try.ntmps72;go_wp2_with (first|((with_reducible refine gate_dst (N := 1) rfl ?_);refine box_event ?hg (N := 1) ?hd (cs := #[.int .i64 a0_0,.int .i64 a0_1,.string a0_2]) (t := 91) ?hr ?_;(case hd => rfl);(case hg => rfl);(case hr => first|(go_simp;done)|(go_simp;rfl));intro gb121 hg w2 hbox hb;have BK121 := aM (hbox);have GW121 := aM ((by rw [hg];exact (lZ hb_) : w.heap.size ≤ gb121));have GE121 := GW121;replace HB := aM (lT hb_ hb);clear hb hbox hg)|((with_reducible refine gate_dst (N := 2) rfl ?_);refine box_event ?hg (N := 2) ?hd (cs := #[.int .i64 0,.int .i64 0,.string (⟨#[]⟩ : ByteArray)]) (t := 72) ?hr ?_;(case hd => rfl);(case hg => rfl);(case hr => first|(go_simp;done)|(go_simp;rfl));intro gb122 hg w3 hbox hb;have BK122 := aM (hbox);have GW122 := aM ((by rw [hg];exact (lZ hb_) : w.heap.size ≤ gb122));have GE122 := GW122;have NB121_122 := aM ((by rw [hg];exact Nat.ne_of_lt (blk_lt (g := gb121) (o := .cells #[.int .i64 a0_0,.int .i64 a0_1,.string a0_2] 91 (0,0)) (bk_ BK121.out)) : gb121 ≠ gb122));have NB122_121 := aM ((by rw [hg];exact Nat.ne_of_gt (blk_lt (g := gb121) (o := .cells #[.int .i64 a0_0,.int .i64 a0_1,.string a0_2] 91 (0,0)) (bk_ BK121.out)) : gb122 ≠ gb121));replace BK121 := aM (bW (g := gb121) (o := .cells #[.int .i64 a0_0,.int .i64 a0_1,.string a0_2] 91 (0,0)) (bk_ BK121.out) hb);replace HB := aM (lT hb_ hb);clear hb hbox hg)|((with_reducible refine gate_dst (N := 3) rfl ?_);refine box_event ?hg (N := 3) ?hd (cs := #[.int .i64 0,.int .i64 0,.string (⟨#[]⟩ : ByteArray)]) (t := 72) ?hr ?_;(case hd => rfl);(case hg => rfl);(case hr => first|(go_simp;done)|(go_simp;rfl));intro gb123 hg w4 hbox hb;have BK123 := aM (hbox);have GW123 := aM ((by rw [hg];exact (lZ hb_) : w.heap.size ≤ gb123));have GE123 := GW123;have NB121_123 := aM ((by rw [hg];exact Nat.ne_of_lt (blk_lt (g := gb121) (o := .cells #[.int .i64 a0_0,.int .i64 a0_1,.string a0_2] 91 (0,0)) (bk_ BK121.out)) : gb121 ≠ gb123));have NB123_121 := aM ((by rw [hg];exact Nat.ne_of_gt (blk_lt (g := gb121) (o := .cells #[.int .i64 a0_0,.int .i64 a0_1,.string a0_2] 91 (0,0)) (bk_ BK121.out)) : gb123 ≠ gb121));have NB122_123 := aM ((by rw [hg];exact Nat.ne_of_lt (blk_lt (g := gb122) (o := .cells #[.int .i64 0,.int .i64 0,.string (⟨#[]⟩ : ByteArray)] 72 (0,0)) (bk_ BK122.out)) : gb122 ≠ gb123));have NB123_122 := aM ((by rw [hg];exact Nat.ne_of_gt (blk_lt (g := gb122) (o := .cells #[.int .i64 0,.int .i64 0,.string (⟨#[]⟩ : ByteArray)] 72 (0,0)) (bk_ BK122.out)) : gb123 ≠ gb122));replace BK121 := aM (bW (g := gb121) (o := .cells #[.int .i64 a0_0,.int .i64 a0_1,.string a0_2] 91 (0,0)) (bk_ BK121.out) hb);replace BK122 := aM (bW (g := gb122) (o := .cells #[.int .i64 0,.int .i64 0,.string (⟨#[]⟩ : ByteArray)] 72 (0,0)) (bk_ BK122.out) hb);replace HB := aM (lT hb_ hb);clear hb hbox hg;have hnb5 := NB121_122.out;have hnc5 := NB122_121.out;have hnb6 := NB121_123.out;have hnc6 := NB123_121.out;obtain ⟨hcz7_0,hcz7_1,hcz7_2,hfz7_0,hfz7_1,hfz7_2⟩ := z3_ BK121.out;have hnb8 := NB123_122.out;have hnc8 := NB122_123.out;obtain ⟨hcz9_0,hcz9_1,hcz9_2,hfz9_0,hfz9_1,hfz9_2⟩ := z3_ BK123.out;obtain ⟨hcz10_0,hcz10_1,hcz10_2,hfz10_0,hfz10_1,hfz10_2⟩ := z3_ BK122.out));refine bodyPost_ret (results_cell_row rfl _ _ gb122 72 #[.int .i64 a0_0,.int .i64 a0_1,.string a0_2] (0,0) _ rfl (by (with_reducible repeat (first|refine bN ?_ _|refine bD ?_|refine bA ?_ _));refine blk_put (cs := #[.int .i64 a0_0,.int .i64 a0_1,.string (⟨#[]⟩ : ByteArray)]) ?_ 2 _ rfl;(with_reducible repeat (first|refine bN ?_ _|refine bD ?_|refine bA ?_ _));refine blk_put (cs := #[.int .i64 a0_0,.int .i64 0,.string (⟨#[]⟩ : ByteArray)]) ?_ 1 _ rfl;(with_reducible repeat (first|refine bN ?_ _|refine bD ?_|refine bA ?_ _));refine blk_put (cs := #[.int .i64 0,.int .i64 0,.string (⟨#[]⟩ : ByteArray)]) ?_ 0 _ rfl;(with_reducible repeat (first|refine bN ?_ _|refine bD ?_|refine bA ?_ _));refine blk_far ?_ NB122_123.out _;(with_reducible repeat (first|refine bN ?_ _|refine bD ?_|refine bA ?_ _));refine blk_far ?_ NB122_123.out _;(with_reducible repeat (first|refine bN ?_ _|refine bD ?_|refine bA ?_ _));refine blk_far ?_ NB122_123.out _;(with_reducible repeat (first|refine bN ?_ _|refine bD ?_|refine bA ?_ _));exact BK122.out) Try.underlying72 rfl (by kernel_rfl)) rfl ?_;exact ⟨by first|rfl|(simp [*];done),hb_⟩
def laws_toOrdinalRuleS.l0 : Nat → List (S91) → List (S72) → Int → Option ((List (S72)))
 | 0,_,_,_ => none
 | k + 1,x0,x3,x4 => if x4 < (x0.length : Int) then (if 0 ≤ x4 then ((laws_toOrdinalRule.f ((rd_T91 x0 x4).f0) ((rd_T91 x0 x4).f1) ((rd_T91 x0 x4).f2)).bind fun bt128 => (if x4 < (x3.length : Int) then (laws_toOrdinalRuleS.l0 k x0 (x3.set (x4 : Int).toNat (⟨bt128.1,bt128.2.1,bt128.2.2⟩ : S72)) (wrap64 (x4 + 1))) else (none))) else (none)) else (some x3)
def laws_toOrdinalRuleS.f (k : Nat) (l0 : List (S91)) : Option ((List (S72))) := if 0 ≤ (l0.length : Int) then (if ((l0.length : Int) : Int).toNat ≤ 8796093022208 then (laws_toOrdinalRuleS.l0 k l0 (List.replicate ((l0.length : Int) : Int).toNat z72) 0) else (none)) else (none)
theorem laws_toOrdinalRuleS.mono_l : ∀ k,(∀ y0 y1 y2,LeO (laws_toOrdinalRuleS.l0 k y0 y1 y2) (laws_toOrdinalRuleS.l0 (k + 1) y0 y1 y2))
 | 0 => fun _ _ _ r h => by simp [laws_toOrdinalRuleS.l0] at h
 | k + 1 => by
  have ih0 := laws_toOrdinalRuleS.mono_l k
  ·intro y0 y1 y2
   unfold laws_toOrdinalRuleS.l0
   repeat' first
   | (with_reducible exact ih0 _ _ _)
   | (with_reducible exact LeO.refl _)
   | (with_reducible exact LeO.none _)
   | (with_reducible refine LeO.ite ?_ ?_)
   | (with_reducible refine LeO.bind ?_ (fun _ => ?_))
   | exact ih0 _ _ _
   | exact LeO.none _
   | refine LeO.ite ?_ ?_
   | refine LeO.bind ?_ (fun _ => ?_)
theorem laws_toOrdinalRuleS.mono : ∀ a0 k,LeO (laws_toOrdinalRuleS.f k a0) (laws_toOrdinalRuleS.f (k + 1) a0) := by
 intro a0 k
 have ih0 := laws_toOrdinalRuleS.mono_l k
 unfold laws_toOrdinalRuleS.f
 repeat' first
   | (with_reducible exact ih0 _ _ _)
   | (with_reducible exact LeO.refl _)
   | (with_reducible exact LeO.none _)
   | (with_reducible refine LeO.ite ?_ ?_)
   | (with_reducible refine LeO.bind ?_ (fun _ => ?_))
   | exact ih0 _ _ _
   | exact LeO.none _
   | refine LeO.ite ?_ ?_
   | refine LeO.bind ?_ (fun _ => ?_)
set_option maxHeartbeats 8000000 in
set_option maxRecDepth 100000 in
theorem laws_toOrdinalRuleS.calls (k : Nat) (A0 : Option Addr) (c0 : Nat) (l0 : List (S91)) (r : List (S72)) (w : World) (hr0 : Kd.C k91 w A0 l0.length l0) (hc0 : l0.length ≤ c0) (h : laws_toOrdinalRuleS.f k l0 = some r) :
  Calls Try.prog 40 #[.slice A0 l0.length c0] w fun e w' => ∃ v0_ : Value,e = .returned (v0_) ∧ Kd.R k72 72 w' w.heap.size (fun _ => True) v0_ r ∧ Below w.heap.size w w' := by
 have hu91 := Try.underlying91;have hu72 := Try.underlying72;have HR0 := aM hr0;have HC0 := aM hc0;clear hr0 hc0;have HB := aM (Below.refl w.heap.size w);have H : (if 0 ≤ (l0.length : Int) then (if ((l0.length : Int) : Int).toNat ≤ 8796093022208 then (laws_toOrdinalRuleS.l0 k l0 (List.replicate ((l0.length : Int) : Int).toNat z72) 0) else (none)) else (none)) = some r := h;clear h
 by_cases c2 : 0 ≤ (l0.length : Int)
 ·rw [if_pos c2] at H;have c2b0 := eq_true c2;have c2b1 : decide (0 ≤ (l0.length : Int)) = true := dT c2;clear c2
  by_cases c3 : ((l0.length : Int) : Int).toNat ≤ 8796093022208
  ·rw [if_pos c3] at H;have c3b0 := eq_true c3;have c3b1 : decide (((l0.length : Int) : Int).toNat ≤ 8796093022208) = true := dT c3;clear c3;obtain ⟨y124,hy124⟩ : ∃ y_ : List (S72),y_ = (List.replicate ((l0.length : Int) : Int).toNat z72) := ⟨_,rfl⟩;replace H : (laws_toOrdinalRuleS.l0 k l0 y124 0) = some r := (by first|(rw [hy124];with_reducible exact H)|(have H2_ := (Option.bind_some _ _).symm.trans H;rw [hy124];with_reducible exact H2_)|(have H2_ := (Option.bind_some _ _).symm.trans H;with_reducible exact H2_)|with_reducible exact H|(rw [hy124];exact H)|exact H);have Ny124 := aM hy124;clear hy124;have H' := aM H;clear H;go_enter Try.func40,Try.ntmps40;go_wp2_with (first|((with_reducible refine gate_dst (N := 7) rfl ?_);refine Kd.R_make k72 _ 72 rfl (N := 7) rfl 29 _ _ rfl (l0.length : Int) rfl rfl Try.underlying29 (.agg #[(.int .i64 0),(.int .i64 0),(.string ⟨#[]⟩)]) 32 info72 rfl (by decide) (by omega) z72 (ok := fun _ => True) (okp := fun _ => True) (k72_mkM _ _ _ z72 ) (fun _ hk => hk) trivial (oD (by assumption)) (Nat.le_trans (Nat.mul_le_mul_right _ (oD (by assumption) : (l0.length : Int).toNat ≤ 8796093022208)) (by omega)) (Below.refl _ _) (Nat.le_refl _) ?_;intro v125 w4 ho5 hb hg_ hnew_;clear hg_ hnew_;(first|rw [← Ny124.out] at ho5|(simp only [Int.reduceToNat] at ho5;rw [← Ny124.out] at ho5));have HO126 := aM (Kd.R_lower ho5 (lZ hb_));replace HB := aM (lT hb_ hb);clear hb ho5));go_loopg [4] k (fun kq v4 w' => ∃ (x3_1 : List (S72)) (x4_1 : Int),v4 = .int .i64 x4_1 ∧ Aside0 (laws_toOrdinalRuleS.l0 kq l0 x3_1 x4_1 = some r) ∧ Aside0 (kq ≤ k) ∧ Aside0 (Kd.R k72 72 w' w.heap.size (fun _ => True) v125 x3_1) ∧ Aside0 (Below w.heap.size w w'))
   case atStart => exact ⟨(y124),(0),(by first|rfl|(simp [*];done)),H',⟨Nat.le_refl _⟩,⟨by (with_reducible repeat (first|apply rA|apply rN|apply rD));exact HO126.out⟩,⟨hb_⟩⟩
   case round =>
    clear H';(try clear c2);(try clear c2b0);(try clear c2b1);(try clear p2);(try clear c3);(try clear c3b0);(try clear c3b1);(try clear c4);obtain ⟨x3_1,x4_1,rfl,HA,HK1,HO_3,HB⟩ := hrel
    cases gk with
    | zero => exact absurd HA.out (by simp [laws_toOrdinalRuleS.l0])
    | succ k1 =>
     have H := HA.out;clear HA;simp only [laws_toOrdinalRuleS.l0] at H
     by_cases c6 : x4_1 < (l0.length : Int)
     focus
      rw [if_pos c6] at H;have c6b0 : decide (x4_1 < (l0.length : Int)) = true := dT c6;clear c6
      by_cases c7 : 0 ≤ x4_1
      rotate_left;rw [if_neg c7] at H;exact absurd H (by simp);rw [if_pos c7] at H;have c7b0 : decide (0 ≤ x4_1) = true := dT c7;clear c7;replace H := Option.bind_eq_some_iff.mp H;obtain ⟨⟨t128,t129,t130⟩,A80,H⟩ := H;replace H : (if x4_1 < (x3_1.length : Int) then (laws_toOrdinalRuleS.l0 k1 l0 (x3_1.set (x4_1 : Int).toNat (⟨t128,t129,t130⟩ : S72)) (wrap64 (x4_1 + 1))) else (none)) = some r := H;have A8 := aM A80;clear A80
      by_cases c9 : x4_1 < (x3_1.length : Int)
      rotate_left;rw [if_neg c9] at H;exact absurd H (by simp);rw [if_pos c9] at H;have c9b0 : decide (x4_1 < (x3_1.length : Int)) = true := dT c9;clear c9;obtain ⟨y131,hy131⟩ : ∃ y_ : List (S72),y_ = (x3_1.set (x4_1 : Int).toNat (⟨t128,t129,t130⟩ : S72)) := ⟨_,rfl⟩;replace H : (laws_toOrdinalRuleS.l0 k1 l0 y131 (wrap64 (x4_1 + 1))) = some r := (by first|(rw [hy131];with_reducible exact H)|(have H2_ := (Option.bind_some _ _).symm.trans H;rw [hy131];with_reducible exact H2_)|(have H2_ := (Option.bind_some _ _).symm.trans H;with_reducible exact H2_)|with_reducible exact H|(rw [hy131];exact H)|exact H);have Ny131 := aM hy131;clear hy131;have H' := aM H;clear H
     rotate_left
     focus
      rw [if_neg c6] at H;have c6b0 : decide (x4_1 < (l0.length : Int)) = false := dF c6;clear c6;obtain rfl := Option.some.inj H;simp only [eS,eP] at H;obtain ⟨rfl⟩ := H
     all_goals
      (try (have p01 : 0 ≤ (x4_1 : Int) := oD (by assumption);have q01 : x4_1 < (l0.length : Int) := oD (by assumption);obtain ⟨ad01,e01,hx01_0,hx01_1,hx01_2⟩ := at_T91 HR0.out x4_1 p01 q01;cases e01;replace hx01_0 := (HB.out.cell (wB w _ hx01_0)).trans hx01_0;replace hx01_1 := (HB.out.cell (wB w _ hx01_1)).trans hx01_1;replace hx01_2 := (HB.out.cell (wB w _ hx01_2)).trans hx01_2;replace p01 := eq_true p01;replace q01 := eq_true q01));go_wp2_with (first|((with_reducible refine gate_callee (f := 72) rfl ?_);refine goesL_ (some 20) rfl rfl Try.func72 (by kernel_rfl) rfl #[.agg #[.int .i64 ((rd_T91 l0 x4_1).f0),.int .i64 ((rd_T91 l0 x4_1).f1),.string ((rd_T91 l0 x4_1).f2)]] rfl (by (try simp only [mT,mC,mN]);first|done|rfl|(simp only [xD,xT];rfl)) ?_;(with_reducible refine (laws_toOrdinalRule.calls _ _ _ _ _ _ _ A8.out).mono ?_);rintro e WA8 ⟨rfl,hb⟩;refine ⟨_,rfl,?_⟩;replace HO_3 := aM (rB (ho_ HO_3.out) hb);replace HB := aM (lT hb_ hb);(try clear hb);have p02 : 0 ≤ (x4_1 : Int) := oD (by assumption);have q02 : (x4_1 : Int) < ((x3_1.length : Int) : Int) := oD (by assumption);obtain ⟨go10,co10,eo10,gb10,gl10,cl10,HG10⟩ := Kd.R_form HO_3.out (by omega);(first|cases eo10|(injection eo10 with ea_ en_ ec_;(first|subst ea_|(injection ea_ with ea_;subst ea_));subst ec_;clear en_));have GB10 := aM gb10;have GG10 := aM HG10;clear gb10 gl10 HG10;obtain ⟨ce10,hcl10,hM10,hcc10,hfr10⟩ := Kd.R_elem HO_3.out z72 (x4_1 : Int) p02 q02;obtain rfl := k72_openM hM10;have hx02_0 : WA8.cell? ⟨go10,(x4_1 : Int).toNat * 3,none⟩ = some (.int .i64 ((rd_T72 x3_1 x4_1).f0)) := hcc10 0 _ rfl;have hx02_1 : WA8.cell? ⟨go10,(x4_1 : Int).toNat * 3 + 1,none⟩ = some (.int .i64 ((rd_T72 x3_1 x4_1).f1)) := hcc10 1 _ rfl;have hx02_2 : WA8.cell? ⟨go10,(x4_1 : Int).toNat * 3 + 2,none⟩ = some (.string ((rd_T72 x3_1 x4_1).f2)) := hcc10 2 _ rfl;have hf10_0 : WA8.frozen? ⟨go10,(x4_1 : Int).toNat * 3,none⟩ = false := hfr10 0;have hf10_1 : WA8.frozen? ⟨go10,(x4_1 : Int).toNat * 3 + 1,none⟩ = false := hfr10 1;have hf10_2 : WA8.frozen? ⟨go10,(x4_1 : Int).toNat * 3 + 2,none⟩ = false := hfr10 2;clear hcl10 hcc10 hfr10 hM10;replace p02 := eq_true p02;replace q02 := eq_true q02;have HX12 := aM (show Kd.R k72 72 WA8 w.heap.size (fun _ => True) (.slice (some ⟨go10,0,none⟩) x3_1.length co10) x3_1 from (ho_ HO_3.out));obtain ⟨ce12,hcl12,hM12,hcc12,hfr12⟩ := Kd.R_elem HX12.out z72 (x4_1 : Int) (oD (by assumption)) (by have h_ : (x4_1 : Int) < ((x3_1.length : Int) : Int) := oD (by assumption);first|exact h_|(have e_ := (rR HO_3.out).1;omega)|simpa using h_);obtain rfl := k72_openM hM12;have HP12 := Kd.R_seg HX12.out (x4_1 : Int) (oD (by assumption)) (by have h_ : (x4_1 : Int) < ((x3_1.length : Int) : Int) := oD (by assumption);first|exact h_|(have e_ := (rR HO_3.out).1;omega)|simpa using h_) (seg := [.int .i64 t128,.int .i64 t129,.string t130]) (j := 0) hcl12 hcc12 (show 3 ≤ 3 from by decide) (x' := (⟨t128,t129,t130⟩ : S72)) (k72_mkM _ _ _ (⟨t128,t129,t130⟩ : S72) ) (fun _ hk => hk);have hx12_0 := hcc12 0 _ rfl;(try simp only [show (k72).sz = 3 from rfl,Nat.mul_one,Nat.add_zero] at hx12_0);have hf12_0 := hfr12 0;(try simp only [show (k72).sz = 3 from rfl,Nat.mul_one,Nat.add_zero] at hf12_0);have hx12_1 := hcc12 1 _ rfl;(try simp only [show (k72).sz = 3 from rfl,Nat.mul_one,Nat.add_zero] at hx12_1);have hf12_1 := hfr12 1;(try simp only [show (k72).sz = 3 from rfl,Nat.mul_one,Nat.add_zero] at hf12_1);have hx12_2 := hcc12 2 _ rfl;(try simp only [show (k72).sz = 3 from rfl,Nat.mul_one,Nat.add_zero] at hx12_2);have hf12_2 := hfr12 2;(try simp only [show (k72).sz = 3 from rfl,Nat.mul_one,Nat.add_zero] at hf12_2);clear hcl12 hcc12 hfr12 hM12)|((with_reducible refine gate_store (t := 72) (p := 21) rfl ?_);refine store_event (t := 72) (p := 21) (v := ?vo_w13) (w1 := (((WA8.setCell ⟨go10,(x4_1 : Int).toNat * 3,none⟩ (.int .i64 t128)).setCell ⟨go10,(x4_1 : Int).toNat * 3 + 1,none⟩ (.int .i64 t129)).setCell ⟨go10,(x4_1 : Int).toNat * 3 + 2,none⟩ (.string t130))) ?hg ?ho ?hn ?hr ?_;(case ho => rfl);(case hg => rfl);(case hn => rfl);(case hr => first|(go_simp;done)|(go_simp;rfl));intro w13 hw;have hg : WA8.grownBy w13 (some go10) := (by rw [hw];exact HP12.2);have hp_ : Kd.R k72 72 w13 w.heap.size (fun _ => True) (.slice (some ⟨go10,0,none⟩) x3_1.length co10) y131 := (by rw [hw,Ny131.out];exact HP12.1);clear HP12;replace HO_3 := aM (hp_);replace HB := aM ((by rw [hw];exact lS (lS (lS (HB.out) GB10.out) GB10.out) GB10.out : Below w.heap.size w w13));clear hg hw hp_))
      first
       |
        go_ret;exact ⟨_,by first|rfl|(simp [*];done),by (with_reducible repeat (first|apply rA|apply rN|apply rD));exact HO_3.out,hb_⟩
       |
        go_roundg k1
        case measure => have := HK1.out;omega
        case rel => exact ⟨(y131),(wrap64 (x4_1 + 1)),(by first|rfl|(simp [*];done)),H',⟨by have := HK1.out;omega⟩,⟨by (with_reducible repeat (first|apply rA|apply rN|apply rD));exact HO_3.out⟩,⟨hb_⟩⟩
  ·rw [if_neg c3] at H;exact absurd H (by simp)
 ·rw [if_neg c2] at H;exact absurd H (by simp)
def laws_toLocale.f (k : Nat) (a0_0 : ByteArray) (l0_1 : List (S57)) (l0_2 : List (S91)) (a0_3 : ByteArray) (a0_4 : ByteArray) : Option (ByteArray × (List (S61)) × (List (S72)) × ByteArray × ByteArray) := (laws_toTermS.f k l0_1).bind fun t135 => ((laws_toOrdinalRuleS.f k l0_2).bind fun t138 => (some (a0_0,t135,t138,a0_3,a0_4)))
theorem laws_toLocale.mono : ∀ a0 a1 a2 a3 a4 k,LeO (laws_toLocale.f k a0 a1 a2 a3 a4) (laws_toLocale.f (k + 1) a0 a1 a2 a3 a4) := by
 intro a0 a1 a2 a3 a4 k
 unfold laws_toLocale.f
 repeat' first
   | (with_reducible exact laws_toOrdinalRuleS.mono _ _)
   | (with_reducible exact laws_toTermS.mono _ _)
   | (with_reducible exact LeO.refl _)
   | (with_reducible exact LeO.none _)
   | (with_reducible refine LeO.ite ?_ ?_)
   | (with_reducible refine LeO.bind ?_ (fun _ => ?_))
   | exact laws_toOrdinalRuleS.mono _ _
   | exact laws_toTermS.mono _ _
   | exact LeO.none _
   | refine LeO.ite ?_ ?_
   | refine LeO.bind ?_ (fun _ => ?_)
set_option maxHeartbeats 8000000 in
set_option maxRecDepth 100000 in
theorem laws_toLocale.calls (k : Nat) (a0_0 : ByteArray) (A0_1 : Option Addr) (c0_1 : Nat) (l0_1 : List (S57)) (A0_2 : Option Addr) (c0_2 : Nat) (l0_2 : List (S91)) (a0_3 : ByteArray) (a0_4 : ByteArray) (r1 : ByteArray) (r2 : List (S61)) (r3 : List (S72)) (r4 : ByteArray) (r5 : ByteArray) (w : World) (hr0_1 : Kd.C k57 w A0_1 l0_1.length l0_1) (hc0_1 : l0_1.length ≤ c0_1) (hr0_2 : Kd.C k91 w A0_2 l0_2.length l0_2) (hc0_2 : l0_2.length ≤ c0_2) (h : laws_toLocale.f k a0_0 l0_1 l0_2 a0_3 a0_4 = some (r1,r2,r3,r4,r5)) :
  Calls Try.prog 11 #[.agg #[.string a0_0,.slice A0_1 l0_1.length c0_1,.slice A0_2 l0_2.length c0_2,.string a0_3,.string a0_4]] w fun e w' => ∃ v1_ v2_ : Value,e = .returned (.agg #[.string r1,v1_,v2_,.string r4,.string r5]) ∧ Kd.R k61 61 w' w.heap.size (fun _ => True) v1_ r2 ∧ Kd.R k72 72 w' w.heap.size (fun _ => True) v2_ r3 ∧ Below w.heap.size w w' := by
 have hu25 := Try.underlying25;have hu31 := Try.underlying31;have HR0_1 := aM hr0_1;have HC0_1 := aM hc0_1;clear hr0_1 hc0_1;have HR0_2 := aM hr0_2;have HC0_2 := aM hc0_2;clear hr0_2 hc0_2;have HB := aM (Below.refl w.heap.size w);have H : ((laws_toTermS.f k l0_1).bind fun t135 => ((laws_toOrdinalRuleS.f k l0_2).bind fun t138 => (some (a0_0,t135,t138,a0_3,a0_4)))) = some (r1,r2,r3,r4,r5) := h;clear h;obtain ⟨t135,A2,H⟩ := bE_ H;obtain ⟨t138,A3,H⟩ := bE_ H;simp only [eS,eP] at H;obtain ⟨rfl,rfl,rfl,rfl,rfl⟩ := H;go_enter Try.func11,Try.ntmps11;go_wp2_with (first|((with_reducible refine gate_dst (N := 1) rfl ?_);refine box_event ?hg (N := 1) ?hd (cs := #[.string a0_0,.slice A0_1 l0_1.length c0_1,.slice A0_2 l0_2.length c0_2,.string a0_3,.string a0_4]) (t := 25) ?hr ?_;(case hd => rfl);(case hg => rfl);(case hr => first|(go_simp;done)|(go_simp;rfl));intro af hg w4 hbox hb;have ac := aM (hbox);have aw := aM ((by rw [hg];exact (lZ hb_) : w.heap.size ≤ af));have GE132 := aw;replace HB := aM (lT hb_ hb);clear hb hbox hg)|((with_reducible refine gate_dst (N := 2) rfl ?_);refine box_event ?hg (N := 2) ?hd (cs := #[.string (⟨#[]⟩ : ByteArray),.slice none 0 0,.slice none 0 0,.string (⟨#[]⟩ : ByteArray),.string (⟨#[]⟩ : ByteArray)]) (t := 31) ?hr ?_;(case hd => rfl);(case hg => rfl);(case hr => first|(go_simp;done)|(go_simp;rfl));intro aa hg w5 hbox hb;have ag := aM (hbox);have ax := aM ((by rw [hg];exact (lZ hb_) : w.heap.size ≤ aa));have GE133 := ax;have ao := aM ((by rw [hg];exact Nat.ne_of_lt (blk_lt (g := af) (o := .cells #[.string a0_0,.slice A0_1 l0_1.length c0_1,.slice A0_2 l0_2.length c0_2,.string a0_3,.string a0_4] 25 (0,0)) (bk_ ac.out)) : af ≠ aa));have ap := aM ((by rw [hg];exact Nat.ne_of_gt (blk_lt (g := af) (o := .cells #[.string a0_0,.slice A0_1 l0_1.length c0_1,.slice A0_2 l0_2.length c0_2,.string a0_3,.string a0_4] 25 (0,0)) (bk_ ac.out)) : aa ≠ af));replace ac := aM (bW (g := af) (o := .cells #[.string a0_0,.slice A0_1 l0_1.length c0_1,.slice A0_2 l0_2.length c0_2,.string a0_3,.string a0_4] 25 (0,0)) (bk_ ac.out) hb);replace HB := aM (lT hb_ hb);clear hb hbox hg)|((with_reducible refine gate_dst (N := 3) rfl ?_);refine box_event ?hg (N := 3) ?hd (cs := #[.string (⟨#[]⟩ : ByteArray),.slice none 0 0,.slice none 0 0,.string (⟨#[]⟩ : ByteArray),.string (⟨#[]⟩ : ByteArray)]) (t := 31) ?hr ?_;(case hd => rfl);(case hg => rfl);(case hr => first|(go_simp;done)|(go_simp;rfl));intro ae hg w6 hbox hb;have ah := aM (hbox);have ay := aM ((by rw [hg];exact (lZ hb_) : w.heap.size ≤ ae));have GE134 := ay;have ai := aM ((by rw [hg];exact Nat.ne_of_lt (blk_lt (g := af) (o := .cells #[.string a0_0,.slice A0_1 l0_1.length c0_1,.slice A0_2 l0_2.length c0_2,.string a0_3,.string a0_4] 25 (0,0)) (bk_ ac.out)) : af ≠ ae));have ar := aM ((by rw [hg];exact Nat.ne_of_gt (blk_lt (g := af) (o := .cells #[.string a0_0,.slice A0_1 l0_1.length c0_1,.slice A0_2 l0_2.length c0_2,.string a0_3,.string a0_4] 25 (0,0)) (bk_ ac.out)) : ae ≠ af));have ab := aM ((by rw [hg];exact Nat.ne_of_lt (blk_lt (g := aa) (o := .cells #[.string (⟨#[]⟩ : ByteArray),.slice none 0 0,.slice none 0 0,.string (⟨#[]⟩ : ByteArray),.string (⟨#[]⟩ : ByteArray)] 31 (0,0)) (bk_ ag.out)) : aa ≠ ae));have au := aM ((by rw [hg];exact Nat.ne_of_gt (blk_lt (g := aa) (o := .cells #[.string (⟨#[]⟩ : ByteArray),.slice none 0 0,.slice none 0 0,.string (⟨#[]⟩ : ByteArray),.string (⟨#[]⟩ : ByteArray)] 31 (0,0)) (bk_ ag.out)) : ae ≠ aa));replace ac := aM (bW (g := af) (o := .cells #[.string a0_0,.slice A0_1 l0_1.length c0_1,.slice A0_2 l0_2.length c0_2,.string a0_3,.string a0_4] 25 (0,0)) (bk_ ac.out) hb);replace ag := aM (bW (g := aa) (o := .cells #[.string (⟨#[]⟩ : ByteArray),.slice none 0 0,.slice none 0 0,.string (⟨#[]⟩ : ByteArray),.string (⟨#[]⟩ : ByteArray)] 31 (0,0)) (bk_ ag.out) hb);replace HB := aM (lT hb_ hb);clear hb hbox hg;have hnb7 := ao.out;have hnc7 := ap.out;have hnb8 := ai.out;have hnc8 := ar.out;obtain ⟨hcz9_0,hcz9_1,hcz9_2,hcz9_3,hcz9_4,hfz9_0,hfz9_1,hfz9_2,hfz9_3,hfz9_4⟩ := z5_ ac.out;have hnb10 := au.out;have hnc10 := ab.out;obtain ⟨hcz11_0,hcz11_1,hcz11_2,hcz11_3,hcz11_4,hfz11_0,hfz11_1,hfz11_2,hfz11_3,hfz11_4⟩ := z5_ ah.out)|((with_reducible refine gate_callee (f := 39) rfl ?_);refine goesL_ (some 9) rfl rfl Try.func39 (by kernel_rfl) rfl #[.slice A0_1 l0_1.length c0_1] rfl (by (try simp only [mT,mC,mN]);first|done|rfl|(simp only [xD,xT];rfl)) ?_;(with_reducible refine (laws_toTermS.calls k _ _ l0_1 t135 _ ?side1 ?side2 A2.out).mono ?_);(case side1 => exact cB HR0_1.out hb_);(case side2 => exact HC0_1.out);rintro e w12 ⟨v136,rfl,ho0,hb⟩;refine ⟨_,rfl,?_⟩;have an := aM (Kd.R_lower ho0 (lZ hb_));replace ac := aM (bW (g := af) (o := .cells #[.string a0_0,.slice A0_1 l0_1.length c0_1,.slice A0_2 l0_2.length c0_2,.string a0_3,.string a0_4] 25 (0,0)) (by (with_reducible repeat (first|refine bN ?_ _|refine bD ?_|refine bA ?_ _));refine blk_far ?_ ai.out _;(with_reducible repeat (first|refine bN ?_ _|refine bD ?_|refine bA ?_ _));exact ac.out) hb);replace ag := aM (bW (g := aa) (o := .cells #[.string (⟨#[]⟩ : ByteArray),.slice none 0 0,.slice none 0 0,.string (⟨#[]⟩ : ByteArray),.string (⟨#[]⟩ : ByteArray)] 31 (0,0)) (by (with_reducible repeat (first|refine bN ?_ _|refine bD ?_|refine bA ?_ _));refine blk_far ?_ ab.out _;(with_reducible repeat (first|refine bN ?_ _|refine bD ?_|refine bA ?_ _));exact ag.out) hb);replace ah := aM (bW (g := ae) (o := .cells #[.string a0_0,.slice none 0 0,.slice none 0 0,.string (⟨#[]⟩ : ByteArray),.string (⟨#[]⟩ : ByteArray)] 31 (0,0)) (by (with_reducible repeat (first|refine bN ?_ _|refine bD ?_|refine bA ?_ _));refine blk_put (cs := #[.string (⟨#[]⟩ : ByteArray),.slice none 0 0,.slice none 0 0,.string (⟨#[]⟩ : ByteArray),.string (⟨#[]⟩ : ByteArray)]) ?_ 0 _ rfl;(with_reducible repeat (first|refine bN ?_ _|refine bD ?_|refine bA ?_ _));exact ah.out) hb);replace HB := aM (lT hb_ hb);(try clear hb);(try clear ho0);obtain ⟨aj,ak,az⟩ := Kd.R_slice an.out;subst az;obtain ⟨hcz14_0,hcz14_1,hcz14_2,hcz14_3,hcz14_4,hfz14_0,hfz14_1,hfz14_2,hfz14_3,hfz14_4⟩ := z5_ ah.out;obtain ⟨hcz15_0,hcz15_1,hcz15_2,hcz15_3,hcz15_4,hfz15_0,hfz15_1,hfz15_2,hfz15_3,hfz15_4⟩ := z5_ ac.out)|((with_reducible refine gate_callee (f := 40) rfl ?_);refine goesL_ (some 13) rfl rfl Try.func40 (by kernel_rfl) rfl #[.slice A0_2 l0_2.length c0_2] rfl (by (try simp only [mT,mC,mN]);first|done|rfl|(simp only [xD,xT];rfl)) ?_;(with_reducible refine (laws_toOrdinalRuleS.calls k _ _ l0_2 t138 _ ?side1 ?side2 A3.out).mono ?_);(case side1 => exact cB HR0_2.out hb_);(case side2 => exact HC0_2.out);rintro e w16 ⟨v139,rfl,ho0,hb⟩;refine ⟨_,rfl,?_⟩;have av := aM (Kd.R_lower ho0 (lZ hb_));replace an := aM (rB (by (with_reducible repeat (first|apply rA|apply rN|apply rD));exact (Kd.R_mono (rF (p := ⟨ae,1,none⟩) (Kd.R_types an.out ah.out (by decide)) (fun _ hk => hk.2) (.slice aj t135.length ak)) (fun _ h_ => h_.1))) hb);replace ac := aM (bW (g := af) (o := .cells #[.string a0_0,.slice A0_1 l0_1.length c0_1,.slice A0_2 l0_2.length c0_2,.string a0_3,.string a0_4] 25 (0,0)) (by (with_reducible repeat (first|refine bN ?_ _|refine bD ?_|refine bA ?_ _));refine blk_far ?_ ai.out _;(with_reducible repeat (first|refine bN ?_ _|refine bD ?_|refine bA ?_ _));exact ac.out) hb);replace ag := aM (bW (g := aa) (o := .cells #[.string (⟨#[]⟩ : ByteArray),.slice none 0 0,.slice none 0 0,.string (⟨#[]⟩ : ByteArray),.string (⟨#[]⟩ : ByteArray)] 31 (0,0)) (by (with_reducible repeat (first|refine bN ?_ _|refine bD ?_|refine bA ?_ _));refine blk_far ?_ ab.out _;(with_reducible repeat (first|refine bN ?_ _|refine bD ?_|refine bA ?_ _));exact ag.out) hb);replace ah := aM (bW (g := ae) (o := .cells #[.string a0_0,.slice aj t135.length ak,.slice none 0 0,.string (⟨#[]⟩ : ByteArray),.string (⟨#[]⟩ : ByteArray)] 31 (0,0)) (by (with_reducible repeat (first|refine bN ?_ _|refine bD ?_|refine bA ?_ _));refine blk_put (cs := #[.string a0_0,.slice none 0 0,.slice none 0 0,.string (⟨#[]⟩ : ByteArray),.string (⟨#[]⟩ : ByteArray)]) ?_ 1 _ rfl;(with_reducible repeat (first|refine bN ?_ _|refine bD ?_|refine bA ?_ _));exact ah.out) hb);replace HB := aM (lT hb_ hb);(try clear hb);(try clear ho0);obtain ⟨al,am,aA⟩ := Kd.R_slice av.out;subst aA;obtain ⟨hcz18_0,hcz18_1,hcz18_2,hcz18_3,hcz18_4,hfz18_0,hfz18_1,hfz18_2,hfz18_3,hfz18_4⟩ := z5_ ah.out;obtain ⟨hcz19_0,hcz19_1,hcz19_2,hcz19_3,hcz19_4,hfz19_0,hfz19_1,hfz19_2,hfz19_3,hfz19_4⟩ := z5_ ac.out;obtain ⟨hcz20_0,hcz20_1,hcz20_2,hcz20_3,hcz20_4,hfz20_0,hfz20_1,hfz20_2,hfz20_3,hfz20_4⟩ := z5_ ag.out));refine bodyPost_ret (results_cell_row rfl _ _ aa 31 #[.string a0_0,.slice aj t135.length ak,.slice al t138.length am,.string a0_3,.string a0_4] (0,0) _ rfl (by (with_reducible repeat (first|refine bN ?_ _|refine bD ?_|refine bA ?_ _));refine blk_put (cs := #[.string a0_0,.slice aj t135.length ak,.slice al t138.length am,.string a0_3,.string (⟨#[]⟩ : ByteArray)]) ?_ 4 _ rfl;(with_reducible repeat (first|refine bN ?_ _|refine bD ?_|refine bA ?_ _));refine blk_put (cs := #[.string a0_0,.slice aj t135.length ak,.slice al t138.length am,.string (⟨#[]⟩ : ByteArray),.string (⟨#[]⟩ : ByteArray)]) ?_ 3 _ rfl;(with_reducible repeat (first|refine bN ?_ _|refine bD ?_|refine bA ?_ _));refine blk_put (cs := #[.string a0_0,.slice aj t135.length ak,.slice none 0 0,.string (⟨#[]⟩ : ByteArray),.string (⟨#[]⟩ : ByteArray)]) ?_ 2 _ rfl;(with_reducible repeat (first|refine bN ?_ _|refine bD ?_|refine bA ?_ _));refine blk_put (cs := #[.string a0_0,.slice none 0 0,.slice none 0 0,.string (⟨#[]⟩ : ByteArray),.string (⟨#[]⟩ : ByteArray)]) ?_ 1 _ rfl;(with_reducible repeat (first|refine bN ?_ _|refine bD ?_|refine bA ?_ _));refine blk_put (cs := #[.string (⟨#[]⟩ : ByteArray),.slice none 0 0,.slice none 0 0,.string (⟨#[]⟩ : ByteArray),.string (⟨#[]⟩ : ByteArray)]) ?_ 0 _ rfl;(with_reducible repeat (first|refine bN ?_ _|refine bD ?_|refine bA ?_ _));refine blk_far ?_ ab.out _;(with_reducible repeat (first|refine bN ?_ _|refine bD ?_|refine bA ?_ _));refine blk_far ?_ ab.out _;(with_reducible repeat (first|refine bN ?_ _|refine bD ?_|refine bA ?_ _));refine blk_far ?_ ab.out _;(with_reducible repeat (first|refine bN ?_ _|refine bD ?_|refine bA ?_ _));exact ag.out) Try.underlying31 rfl (by kernel_rfl)) rfl ?_;exact ⟨_,_,by first|rfl|(simp [*];done),by (with_reducible repeat (first|apply rA|apply rN|apply rD));exact Kd.R_mono (rF (p := ⟨aa,4,none⟩) (rF (p := ⟨aa,3,none⟩) (rF (p := ⟨aa,2,none⟩) (rF (p := ⟨aa,1,none⟩) (rF (p := ⟨aa,0,none⟩) (rF (p := ⟨ae,4,none⟩) (rF (p := ⟨ae,3,none⟩) (rF (p := ⟨ae,2,none⟩) (Kd.R_types (Kd.R_types an.out ah.out (by decide)) ag.out (by decide)) (fun _ hk => hk.1.2) (.slice al t138.length am)) (fun _ hk => hk.1.2) (.string a0_3)) (fun _ hk => hk.1.2) (.string a0_4)) (fun _ hk => hk.2) (.string a0_0)) (fun _ hk => hk.2) (.slice aj t135.length ak)) (fun _ hk => hk.2) (.slice al t138.length am)) (fun _ hk => hk.2) (.string a0_3)) (fun _ hk => hk.2) (.string a0_4)) (fun _ hk => trivial),by (with_reducible repeat (first|apply rA|apply rN|apply rD));exact Kd.R_mono (rF (p := ⟨aa,4,none⟩) (rF (p := ⟨aa,3,none⟩) (rF (p := ⟨aa,2,none⟩) (rF (p := ⟨aa,1,none⟩) (rF (p := ⟨aa,0,none⟩) (rF (p := ⟨ae,4,none⟩) (rF (p := ⟨ae,3,none⟩) (rF (p := ⟨ae,2,none⟩) (Kd.R_types (Kd.R_types av.out ah.out (by decide)) ag.out (by decide)) (fun _ hk => hk.1.2) (.slice al t138.length am)) (fun _ hk => hk.1.2) (.string a0_3)) (fun _ hk => hk.1.2) (.string a0_4)) (fun _ hk => hk.2) (.string a0_0)) (fun _ hk => hk.2) (.slice aj t135.length ak)) (fun _ hk => hk.2) (.slice al t138.length am)) (fun _ hk => hk.2) (.string a0_3)) (fun _ hk => hk.2) (.string a0_4)) (fun _ hk => trivial),hb_⟩
end Go.Proofs.Ytmkkcpdpfelalaa.P
