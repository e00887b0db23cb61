/- Written by a program in this session: each theorem here says that a Go function computes the Lean function beside it, or that a law's row holds, under the conditions that the theorem itself states. -/
import Derived.Test.YtmkkcpdpfelalaaDoorZPx0
namespace Go.Proofs.YtmkkcpdpfelalaaDoor.P
open Go.RowKit Go.Proofs.YtmkkcpdpfelalaaDoorW.PrintWords Go.Proofs.YtmkkcpdpfelalaaDoorW.PrintLast Go.Proofs.YtmkkcpdpfelalaaDoorW.PrintMore
attribute [local go_sem] max2_int min2_int max_two min_two max_three min_three max_four min_four   -- for this text's walks alone
set_option linter.unusedVariables false
set_option linter.unusedSimpArgs false
def laws_szTerm.f (a0_0 : ByteArray) (a0_1 : ByteArray) (a0_2 : ByteArray) (a1 : Int) : Option (Int) := if (wrap64 (a1 - (a0_0.size : Int))) < 0 then (some (-1)) else (if (wrap64 ((wrap64 (a1 - (a0_0.size : Int))) - (a0_1.size : Int))) < 0 then (some (-1)) else (if (wrap64 ((wrap64 ((wrap64 (a1 - (a0_0.size : Int))) - (a0_1.size : Int))) - (a0_2.size : Int))) < 0 then (some (-1)) else (some (wrap64 ((wrap64 ((wrap64 (a1 - (a0_0.size : Int))) - (a0_1.size : Int))) - (a0_2.size : Int))))))
set_option maxHeartbeats 8000000 in
set_option maxRecDepth 100000 in
theorem laws_szTerm.calls (a0_0 : ByteArray) (a0_1 : ByteArray) (a0_2 : ByteArray) (a1 : Int) (r : Int) (w : World) (h : laws_szTerm.f a0_0 a0_1 a0_2 a1 = some r) :
  Calls Tryd.prog 67 #[.agg #[.string a0_0,.string a0_1,.string a0_2],.int .i64 a1] w fun e w' => e = .returned (.int .i64 r) ∧ Below w.heap.size w w' := by
 have hu95 := Tryd.underlying95;have HB := aM (Below.refl w.heap.size w);have H : (if (wrap64 (a1 - (a0_0.size : Int))) < 0 then (some (-1)) else (if (wrap64 ((wrap64 (a1 - (a0_0.size : Int))) - (a0_1.size : Int))) < 0 then (some (-1)) else (if (wrap64 ((wrap64 ((wrap64 (a1 - (a0_0.size : Int))) - (a0_1.size : Int))) - (a0_2.size : Int))) < 0 then (some (-1)) else (some (wrap64 ((wrap64 ((wrap64 (a1 - (a0_0.size : Int))) - (a0_1.size : Int))) - (a0_2.size : Int))))))) = some r := h;clear h
 by_cases c3 : (wrap64 (a1 - (a0_0.size : Int))) < 0
 focus
  rw [if_pos c3] at H;have c3b0 : decide ((wrap64 (a1 - (a0_0.size : Int))) < 0) = true := dT c3;clear c3;obtain rfl := Option.some.inj H;simp only [eS,eP] at H;obtain ⟨rfl⟩ := H
 rotate_left
 focus
  rw [if_neg c3] at H;have c3b0 : decide ((wrap64 (a1 - (a0_0.size : Int))) < 0) = false := dF c3;clear c3
  by_cases c6 : (wrap64 ((wrap64 (a1 - (a0_0.size : Int))) - (a0_1.size : Int))) < 0
  focus
   rw [if_pos c6] at H;have c6b0 : decide ((wrap64 ((wrap64 (a1 - (a0_0.size : Int))) - (a0_1.size : Int))) < 0) = true := dT c6;clear c6;obtain rfl := Option.some.inj H;simp only [eS,eP] at H;obtain ⟨rfl⟩ := H
  rotate_left
  focus
   rw [if_neg c6] at H;have c6b0 : decide ((wrap64 ((wrap64 (a1 - (a0_0.size : Int))) - (a0_1.size : Int))) < 0) = false := dF c6;clear c6
   by_cases c9 : (wrap64 ((wrap64 ((wrap64 (a1 - (a0_0.size : Int))) - (a0_1.size : Int))) - (a0_2.size : Int))) < 0
   focus
    rw [if_pos c9] at H;have c9b0 : decide ((wrap64 ((wrap64 ((wrap64 (a1 - (a0_0.size : Int))) - (a0_1.size : Int))) - (a0_2.size : Int))) < 0) = true := dT c9;clear c9;obtain rfl := Option.some.inj H;simp only [eS,eP] at H;obtain ⟨rfl⟩ := H
   rotate_left
   focus
    rw [if_neg c9] at H;have c9b0 : decide ((wrap64 ((wrap64 ((wrap64 (a1 - (a0_0.size : Int))) - (a0_1.size : Int))) - (a0_2.size : Int))) < 0) = false := dF c9;clear c9;obtain rfl := Option.some.inj H;simp only [eS,eP] at H;obtain ⟨rfl⟩ := H
 all_goals
  go_enter Tryd.func67,Tryd.ntmps67;go_wp2_with (first|((with_reducible refine gate_dst (N := 2) rfl ?_);refine box_event ?hg (N := 2) ?hd (cs := #[.string a0_0,.string a0_1,.string a0_2]) (t := 95) ?hr ?_;(case hd => rfl);(case hg => rfl);(case hr => first|(go_simp;done)|(go_simp;rfl));intro gb101 hg Wgb101 hbox hb;have BK101 := aM (hbox);have GW101 := aM ((by rw [hg];exact (lZ (by repeat (first|(with_reducible first|exact HB.out|apply lA|apply lN|apply lD)|exact HB.out))) : w.heap.size ≤ gb101));have GE101 := GW101;replace HB := aM (lT (by repeat (first|(with_reducible first|exact HB.out|apply lA|apply lN|apply lD)|exact HB.out)) hb);clear hb hbox hg;obtain ⟨hcz101x101_0,hcz101x101_1,hcz101x101_2,hfz101x101_0,hfz101x101_1,hfz101x101_2⟩ := z3_ BK101.out));go_ret;exact ⟨by first|rfl|(simp [*];done),by repeat (first|(with_reducible first|exact HB.out|apply lA|apply lN|apply lD|refine lS ?_ GE101.out)|exact HB.out)⟩
def laws_szTermS.l0 : Nat → List (S95) → Int → Int → Option (Int)
 | 0,_,_,_ => none
 | k + 1,x0,x1,x5 => if x5 < (x0.length : Int) then (if 0 ≤ x5 then ((laws_szTerm.f ((rd_T95 x0 x5).f0) ((rd_T95 x0 x5).f1) ((rd_T95 x0 x5).f2) x1).bind fun t103 => (if t103 < 0 then (some (-1)) else (laws_szTermS.l0 k x0 t103 (wrap64 (x5 + 1))))) else (none)) else (some x1)
def laws_szTermS.f (k : Nat) (l0 : List (S95)) (a1 : Int) : Option (Int) := if (wrap64 (a1 - (l0.length : Int))) < 0 then (some (-1)) else (laws_szTermS.l0 k l0 (wrap64 (a1 - (l0.length : Int))) 0)
theorem laws_szTermS.mono_l : ∀ k,(∀ y0 y1 y2,LeO (laws_szTermS.l0 k y0 y1 y2) (laws_szTermS.l0 (k + 1) y0 y1 y2))
 | 0 => fun _ _ _ r h => by simp [laws_szTermS.l0] at h
 | k + 1 => by
  have ih0 := laws_szTermS.mono_l k
  ·intro y0 y1 y2
   unfold laws_szTermS.l0
   repeat' first
   | (with_reducible exact ih0 _ _ _)
   | (with_reducible exact LeO.refl _)
   | (with_reducible exact LeO.none _)
   | (with_reducible refine LeO.ite ?_ ?_)
   | (with_reducible refine LeO.bind ?_ (fun _ => ?_))
   | exact ih0 _ _ _
   | exact LeO.none _
   | refine LeO.ite ?_ ?_
   | refine LeO.bind ?_ (fun _ => ?_)
theorem laws_szTermS.mono : ∀ a0 a1 k,LeO (laws_szTermS.f k a0 a1) (laws_szTermS.f (k + 1) a0 a1) := by
 intro a0 a1 k
 have ih0 := laws_szTermS.mono_l k
 unfold laws_szTermS.f
 repeat' first
   | (with_reducible exact ih0 _ _ _)
   | (with_reducible exact LeO.refl _)
   | (with_reducible exact LeO.none _)
   | (with_reducible refine LeO.ite ?_ ?_)
   | (with_reducible refine LeO.bind ?_ (fun _ => ?_))
   | exact ih0 _ _ _
   | exact LeO.none _
   | refine LeO.ite ?_ ?_
   | refine LeO.bind ?_ (fun _ => ?_)
set_option maxHeartbeats 8000000 in
set_option maxRecDepth 100000 in
theorem laws_szTermS.calls (k : Nat) (A0 : Option Addr) (c0 : Nat) (l0 : List (S95)) (a1 : Int) (r : Int) (w : World) (hr0 : Kd.C k95 w A0 l0.length l0) (hc0 : l0.length ≤ c0) (h : laws_szTermS.f k l0 a1 = some r) :
  Calls Tryd.prog 30 #[.slice A0 l0.length c0,.int .i64 a1] w fun e w' => e = .returned (.int .i64 r) ∧ Below w.heap.size w w' := by
 have hu95 := Tryd.underlying95;have HR0 := aM hr0;have HC0 := aM hc0;clear hr0 hc0;have HB := aM (Below.refl w.heap.size w);have H : (if (wrap64 (a1 - (l0.length : Int))) < 0 then (some (-1)) else (laws_szTermS.l0 k l0 (wrap64 (a1 - (l0.length : Int))) 0)) = some r := h;clear h
 by_cases c3 : (wrap64 (a1 - (l0.length : Int))) < 0
 ·rw [if_pos c3] at H;have c3b0 : decide ((wrap64 (a1 - (l0.length : Int))) < 0) = true := dT c3;clear c3;obtain rfl := Option.some.inj H;simp only [eS,eP] at H;obtain ⟨rfl⟩ := H;go_enter Tryd.func30,Tryd.ntmps30;go_wp2;go_ret;exact ⟨by first|rfl|(simp [*];done),by repeat (first|(with_reducible first|exact HB.out|apply lA|apply lN|apply lD)|exact HB.out)⟩
 ·rw [if_neg c3] at H;have c3b0 : decide ((wrap64 (a1 - (l0.length : Int))) < 0) = false := dF c3;clear c3;have H' := aM H;clear H;go_enter Tryd.func30,Tryd.ntmps30;go_wp2;go_loopg [1,5] k (fun kq v1 v5 w' => ∃ (x1_1 : Int) (x5_1 : Int),v1 = .int .i64 x1_1 ∧ v5 = .int .i64 x5_1 ∧ Aside0 (laws_szTermS.l0 kq l0 x1_1 x5_1 = some r) ∧ Aside0 (kq ≤ k) ∧ Aside0 (Below w.heap.size w w'))
  case atStart => exact ⟨(wrap64 (a1 - (l0.length : Int))),(0),(by first|rfl|(simp [*];done)),(by first|rfl|(simp [*];done)),H',⟨Nat.le_refl _⟩,⟨by repeat (first|(with_reducible first|exact HB.out|apply lA|apply lN|apply lD)|exact HB.out)⟩⟩
  case round =>
   clear H';(try clear p2);(try clear c3);(try clear c3b0);obtain ⟨x1_1,x5_1,rfl,rfl,HA,HK1,HB⟩ := hrel
   cases gk with
   | zero => exact absurd HA.out (by simp [laws_szTermS.l0])
   | succ k1 =>
    have H := HA.out;clear HA;simp only [laws_szTermS.l0] at H
    by_cases c4 : x5_1 < (l0.length : Int)
    focus
     rw [if_pos c4] at H;have c4b0 : decide (x5_1 < (l0.length : Int)) = true := dT c4;clear c4
     by_cases c5 : 0 ≤ x5_1
     rotate_left;rw [if_neg c5] at H;exact absurd H (by simp);rw [if_pos c5] at H;have c5b0 : decide (0 ≤ x5_1) = true := dT c5;clear c5;obtain ⟨t103,A6,H⟩ := bE_ H
     by_cases c7 : t103 < 0
     focus
      rw [if_pos c7] at H;have c7b0 : decide (t103 < 0) = true := dT c7;clear c7;obtain rfl := Option.some.inj H;simp only [eS,eP] at H;obtain ⟨rfl⟩ := H
     rotate_left
     focus
      rw [if_neg c7] at H;have c7b0 : decide (t103 < 0) = false := dF c7;clear c7;have H' := aM H;clear H
    rotate_left 2
    focus
     rw [if_neg c4] at H;have c4b0 : decide (x5_1 < (l0.length : Int)) = false := dF c4;clear c4;obtain rfl := Option.some.inj H;simp only [eS,eP] at H;obtain ⟨rfl⟩ := H
    all_goals
     (try (have p01 : 0 ≤ (x5_1 : Int) := oD (by assumption);have q01 : x5_1 < (l0.length : Int) := oD (by assumption);obtain ⟨ad01,e01,hx01_0,hx01_1,hx01_2⟩ := at_T95 HR0.out x5_1 p01 q01;cases e01;replace hx01_0 := (HB.out.cell (wB w _ hx01_0)).trans hx01_0;replace hx01_1 := (HB.out.cell (wB w _ hx01_1)).trans hx01_1;replace hx01_2 := (HB.out.cell (wB w _ hx01_2)).trans hx01_2;replace p01 := eq_true p01;replace q01 := eq_true q01));go_wp2_with (first|((with_reducible refine gate_callee (f := 67) rfl ?_);refine goesL_ (some 23) rfl rfl Tryd.func67 (by kernel_rfl) rfl #[.agg #[.string ((rd_T95 l0 x5_1).f0),.string ((rd_T95 l0 x5_1).f1),.string ((rd_T95 l0 x5_1).f2)],.int .i64 x1_1] rfl (by (try simp only [mT,mC,mN]);first|done|rfl|(simp only [xD,xT];rfl)) ?_;(with_reducible refine (laws_szTerm.calls _ _ _ _ _ _ A6.out).mono ?_);rintro e WA6 ⟨rfl,hb⟩;refine ⟨_,rfl,?_⟩;replace HB := aM (lT (by repeat (first|(with_reducible first|exact HB.out|apply lA|apply lN|apply lD)|exact HB.out)) hb);(try clear hb)))
     first
      |
       go_ret;exact ⟨by first|rfl|(simp [*];done),by repeat (first|(with_reducible first|exact HB.out|apply lA|apply lN|apply lD)|exact HB.out)⟩
      |
       go_roundg k1
       case measure => have := HK1.out;omega
       case rel => exact ⟨(t103),(wrap64 (x5_1 + 1)),(by first|rfl|(simp [*];done)),(by first|rfl|(simp [*];done)),H',⟨by have := HK1.out;omega⟩,⟨by repeat (first|(with_reducible first|exact HB.out|apply lA|apply lN|apply lD)|exact HB.out)⟩⟩
def laws_szOrdinalRule.f (a0_0 : Int) (a0_1 : Int) (a0_2 : ByteArray) (a1 : Int) : Option (Int) := if (wrap64 (a1 - (a0_2.size : Int))) < 0 then (some (-1)) else (some (wrap64 (a1 - (a0_2.size : Int))))
set_option maxHeartbeats 8000000 in
set_option maxRecDepth 100000 in
theorem laws_szOrdinalRule.calls (a0_0 : Int) (a0_1 : Int) (a0_2 : ByteArray) (a1 : Int) (r : Int) (w : World) (h : laws_szOrdinalRule.f a0_0 a0_1 a0_2 a1 = some r) :
  Calls Tryd.prog 68 #[.agg #[.int .i64 a0_0,.int .i64 a0_1,.string a0_2],.int .i64 a1] w fun e w' => e = .returned (.int .i64 r) ∧ Below w.heap.size w w' := by
 have hu97 := Tryd.underlying97;have HB := aM (Below.refl w.heap.size w);have H : (if (wrap64 (a1 - (a0_2.size : Int))) < 0 then (some (-1)) else (some (wrap64 (a1 - (a0_2.size : Int))))) = some r := h;clear h
 by_cases c3 : (wrap64 (a1 - (a0_2.size : Int))) < 0
 focus
  rw [if_pos c3] at H;have c3b0 : decide ((wrap64 (a1 - (a0_2.size : Int))) < 0) = true := dT c3;clear c3;obtain rfl := Option.some.inj H;simp only [eS,eP] at H;obtain ⟨rfl⟩ := H
 rotate_left
 focus
  rw [if_neg c3] at H;have c3b0 : decide ((wrap64 (a1 - (a0_2.size : Int))) < 0) = false := dF c3;clear c3;obtain rfl := Option.some.inj H;simp only [eS,eP] at H;obtain ⟨rfl⟩ := H
 all_goals
  go_enter Tryd.func68,Tryd.ntmps68;go_wp2_with (first|((with_reducible refine gate_dst (N := 2) rfl ?_);refine box_event ?hg (N := 2) ?hd (cs := #[.int .i64 a0_0,.int .i64 a0_1,.string a0_2]) (t := 97) ?hr ?_;(case hd => rfl);(case hg => rfl);(case hr => first|(go_simp;done)|(go_simp;rfl));intro gb104 hg Wgb104 hbox hb;have BK104 := aM (hbox);have GW104 := aM ((by rw [hg];exact (lZ (by repeat (first|(with_reducible first|exact HB.out|apply lA|apply lN|apply lD)|exact HB.out))) : w.heap.size ≤ gb104));have GE104 := GW104;replace HB := aM (lT (by repeat (first|(with_reducible first|exact HB.out|apply lA|apply lN|apply lD)|exact HB.out)) hb);clear hb hbox hg;obtain ⟨hcz104x104_0,hcz104x104_1,hcz104x104_2,hfz104x104_0,hfz104x104_1,hfz104x104_2⟩ := z3_ BK104.out));go_ret;exact ⟨by first|rfl|(simp [*];done),by repeat (first|(with_reducible first|exact HB.out|apply lA|apply lN|apply lD|refine lS ?_ GE104.out)|exact HB.out)⟩
def laws_szOrdinalRuleS.l0 : Nat → List (S97) → Int → Int → Option (Int)
 | 0,_,_,_ => none
 | k + 1,x0,x1,x5 => if x5 < (x0.length : Int) then (if 0 ≤ x5 then ((laws_szOrdinalRule.f ((rd_T97 x0 x5).f0) ((rd_T97 x0 x5).f1) ((rd_T97 x0 x5).f2) x1).bind fun t106 => (if t106 < 0 then (some (-1)) else (laws_szOrdinalRuleS.l0 k x0 t106 (wrap64 (x5 + 1))))) else (none)) else (some x1)
def laws_szOrdinalRuleS.f (k : Nat) (l0 : List (S97)) (a1 : Int) : Option (Int) := if (wrap64 (a1 - (l0.length : Int))) < 0 then (some (-1)) else (laws_szOrdinalRuleS.l0 k l0 (wrap64 (a1 - (l0.length : Int))) 0)
theorem laws_szOrdinalRuleS.mono_l : ∀ k,(∀ y0 y1 y2,LeO (laws_szOrdinalRuleS.l0 k y0 y1 y2) (laws_szOrdinalRuleS.l0 (k + 1) y0 y1 y2))
 | 0 => fun _ _ _ r h => by simp [laws_szOrdinalRuleS.l0] at h
 | k + 1 => by
  have ih0 := laws_szOrdinalRuleS.mono_l k
  ·intro y0 y1 y2
   unfold laws_szOrdinalRuleS.l0
   repeat' first
   | (with_reducible exact ih0 _ _ _)
   | (with_reducible exact LeO.refl _)
   | (with_reducible exact LeO.none _)
   | (with_reducible refine LeO.ite ?_ ?_)
   | (with_reducible refine LeO.bind ?_ (fun _ => ?_))
   | exact ih0 _ _ _
   | exact LeO.none _
   | refine LeO.ite ?_ ?_
   | refine LeO.bind ?_ (fun _ => ?_)
theorem laws_szOrdinalRuleS.mono : ∀ a0 a1 k,LeO (laws_szOrdinalRuleS.f k a0 a1) (laws_szOrdinalRuleS.f (k + 1) a0 a1) := by
 intro a0 a1 k
 have ih0 := laws_szOrdinalRuleS.mono_l k
 unfold laws_szOrdinalRuleS.f
 repeat' first
   | (with_reducible exact ih0 _ _ _)
   | (with_reducible exact LeO.refl _)
   | (with_reducible exact LeO.none _)
   | (with_reducible refine LeO.ite ?_ ?_)
   | (with_reducible refine LeO.bind ?_ (fun _ => ?_))
   | exact ih0 _ _ _
   | exact LeO.none _
   | refine LeO.ite ?_ ?_
   | refine LeO.bind ?_ (fun _ => ?_)
set_option maxHeartbeats 8000000 in
set_option maxRecDepth 100000 in
theorem laws_szOrdinalRuleS.calls (k : Nat) (A0 : Option Addr) (c0 : Nat) (l0 : List (S97)) (a1 : Int) (r : Int) (w : World) (hr0 : Kd.C k97 w A0 l0.length l0) (hc0 : l0.length ≤ c0) (h : laws_szOrdinalRuleS.f k l0 a1 = some r) :
  Calls Tryd.prog 31 #[.slice A0 l0.length c0,.int .i64 a1] w fun e w' => e = .returned (.int .i64 r) ∧ Below w.heap.size w w' := by
 have hu97 := Tryd.underlying97;have HR0 := aM hr0;have HC0 := aM hc0;clear hr0 hc0;have HB := aM (Below.refl w.heap.size w);have H : (if (wrap64 (a1 - (l0.length : Int))) < 0 then (some (-1)) else (laws_szOrdinalRuleS.l0 k l0 (wrap64 (a1 - (l0.length : Int))) 0)) = some r := h;clear h
 by_cases c3 : (wrap64 (a1 - (l0.length : Int))) < 0
 ·rw [if_pos c3] at H;have c3b0 : decide ((wrap64 (a1 - (l0.length : Int))) < 0) = true := dT c3;clear c3;obtain rfl := Option.some.inj H;simp only [eS,eP] at H;obtain ⟨rfl⟩ := H;go_enter Tryd.func31,Tryd.ntmps31;go_wp2;go_ret;exact ⟨by first|rfl|(simp [*];done),by repeat (first|(with_reducible first|exact HB.out|apply lA|apply lN|apply lD)|exact HB.out)⟩
 ·rw [if_neg c3] at H;have c3b0 : decide ((wrap64 (a1 - (l0.length : Int))) < 0) = false := dF c3;clear c3;have H' := aM H;clear H;go_enter Tryd.func31,Tryd.ntmps31;go_wp2;go_loopg [1,5] k (fun kq v1 v5 w' => ∃ (x1_1 : Int) (x5_1 : Int),v1 = .int .i64 x1_1 ∧ v5 = .int .i64 x5_1 ∧ Aside0 (laws_szOrdinalRuleS.l0 kq l0 x1_1 x5_1 = some r) ∧ Aside0 (kq ≤ k) ∧ Aside0 (Below w.heap.size w w'))
  case atStart => exact ⟨(wrap64 (a1 - (l0.length : Int))),(0),(by first|rfl|(simp [*];done)),(by first|rfl|(simp [*];done)),H',⟨Nat.le_refl _⟩,⟨by repeat (first|(with_reducible first|exact HB.out|apply lA|apply lN|apply lD)|exact HB.out)⟩⟩
  case round =>
   clear H';(try clear p2);(try clear c3);(try clear c3b0);obtain ⟨x1_1,x5_1,rfl,rfl,HA,HK1,HB⟩ := hrel
   cases gk with
   | zero => exact absurd HA.out (by simp [laws_szOrdinalRuleS.l0])
   | succ k1 =>
    have H := HA.out;clear HA;simp only [laws_szOrdinalRuleS.l0] at H
    by_cases c4 : x5_1 < (l0.length : Int)
    focus
     rw [if_pos c4] at H;have c4b0 : decide (x5_1 < (l0.length : Int)) = true := dT c4;clear c4
     by_cases c5 : 0 ≤ x5_1
     rotate_left;rw [if_neg c5] at H;exact absurd H (by simp);rw [if_pos c5] at H;have c5b0 : decide (0 ≤ x5_1) = true := dT c5;clear c5;obtain ⟨t106,A6,H⟩ := bE_ H
     by_cases c7 : t106 < 0
     focus
      rw [if_pos c7] at H;have c7b0 : decide (t106 < 0) = true := dT c7;clear c7;obtain rfl := Option.some.inj H;simp only [eS,eP] at H;obtain ⟨rfl⟩ := H
     rotate_left
     focus
      rw [if_neg c7] at H;have c7b0 : decide (t106 < 0) = false := dF c7;clear c7;have H' := aM H;clear H
    rotate_left 2
    focus
     rw [if_neg c4] at H;have c4b0 : decide (x5_1 < (l0.length : Int)) = false := dF c4;clear c4;obtain rfl := Option.some.inj H;simp only [eS,eP] at H;obtain ⟨rfl⟩ := H
    all_goals
     (try (have p01 : 0 ≤ (x5_1 : Int) := oD (by assumption);have q01 : x5_1 < (l0.length : Int) := oD (by assumption);obtain ⟨ad01,e01,hx01_0,hx01_1,hx01_2⟩ := at_T97 HR0.out x5_1 p01 q01;cases e01;replace hx01_0 := (HB.out.cell (wB w _ hx01_0)).trans hx01_0;replace hx01_1 := (HB.out.cell (wB w _ hx01_1)).trans hx01_1;replace hx01_2 := (HB.out.cell (wB w _ hx01_2)).trans hx01_2;replace p01 := eq_true p01;replace q01 := eq_true q01));go_wp2_with (first|((with_reducible refine gate_callee (f := 68) rfl ?_);refine goesL_ (some 23) rfl rfl Tryd.func68 (by kernel_rfl) rfl #[.agg #[.int .i64 ((rd_T97 l0 x5_1).f0),.int .i64 ((rd_T97 l0 x5_1).f1),.string ((rd_T97 l0 x5_1).f2)],.int .i64 x1_1] rfl (by (try simp only [mT,mC,mN]);first|done|rfl|(simp only [xD,xT];rfl)) ?_;(with_reducible refine (laws_szOrdinalRule.calls _ _ _ _ _ _ A6.out).mono ?_);rintro e WA6 ⟨rfl,hb⟩;refine ⟨_,rfl,?_⟩;replace HB := aM (lT (by repeat (first|(with_reducible first|exact HB.out|apply lA|apply lN|apply lD)|exact HB.out)) hb);(try clear hb)))
     first
      |
       go_ret;exact ⟨by first|rfl|(simp [*];done),by repeat (first|(with_reducible first|exact HB.out|apply lA|apply lN|apply lD)|exact HB.out)⟩
      |
       go_roundg k1
       case measure => have := HK1.out;omega
       case rel => exact ⟨(t106),(wrap64 (x5_1 + 1)),(by first|rfl|(simp [*];done)),(by first|rfl|(simp [*];done)),H',⟨by have := HK1.out;omega⟩,⟨by repeat (first|(with_reducible first|exact HB.out|apply lA|apply lN|apply lD)|exact HB.out)⟩⟩
def laws_szLocale.f (k : Nat) (a0_0 : ByteArray) (l0_1 : List (S95)) (l0_2 : List (S97)) (a0_3 : ByteArray) (a0_4 : ByteArray) (a1 : Int) : Option (Int) := if (wrap64 (a1 - (a0_0.size : Int))) < 0 then (some (-1)) else ((laws_szTermS.f k l0_1 (wrap64 (a1 - (a0_0.size : Int)))).bind fun t108 => (if t108 < 0 then (some (-1)) else ((laws_szOrdinalRuleS.f k l0_2 t108).bind fun t109 => (if t109 < 0 then (some (-1)) else (if (wrap64 (t109 - (a0_3.size : Int))) < 0 then (some (-1)) else (if (wrap64 ((wrap64 (t109 - (a0_3.size : Int))) - (a0_4.size : Int))) < 0 then (some (-1)) else (some (wrap64 ((wrap64 (t109 - (a0_3.size : Int))) - (a0_4.size : Int))))))))))
theorem laws_szLocale.mono : ∀ a0 a1 a2 a3 a4 a5 k,LeO (laws_szLocale.f k a0 a1 a2 a3 a4 a5) (laws_szLocale.f (k + 1) a0 a1 a2 a3 a4 a5) := by
 intro a0 a1 a2 a3 a4 a5 k
 unfold laws_szLocale.f
 repeat' first
   | (with_reducible exact laws_szOrdinalRuleS.mono _ _ _)
   | (with_reducible exact laws_szTermS.mono _ _ _)
   | (with_reducible exact LeO.refl _)
   | (with_reducible exact LeO.none _)
   | (with_reducible refine LeO.ite ?_ ?_)
   | (with_reducible refine LeO.bind ?_ (fun _ => ?_))
   | exact laws_szOrdinalRuleS.mono _ _ _
   | exact laws_szTermS.mono _ _ _
   | exact LeO.none _
   | refine LeO.ite ?_ ?_
   | refine LeO.bind ?_ (fun _ => ?_)
set_option maxHeartbeats 8000000 in
set_option maxRecDepth 100000 in
theorem laws_szLocale.calls (k : Nat) (a0_0 : ByteArray) (A0_1 : Option Addr) (c0_1 : Nat) (l0_1 : List (S95)) (A0_2 : Option Addr) (c0_2 : Nat) (l0_2 : List (S97)) (a0_3 : ByteArray) (a0_4 : ByteArray) (a1 : Int) (r : Int) (w : World) (hr0_1 : Kd.C k95 w A0_1 l0_1.length l0_1) (hc0_1 : l0_1.length ≤ c0_1) (hr0_2 : Kd.C k97 w A0_2 l0_2.length l0_2) (hc0_2 : l0_2.length ≤ c0_2) (h : laws_szLocale.f k a0_0 l0_1 l0_2 a0_3 a0_4 a1 = some r) :
  Calls Tryd.prog 7 #[.agg #[.string a0_0,.slice A0_1 l0_1.length c0_1,.slice A0_2 l0_2.length c0_2,.string a0_3,.string a0_4],.int .i64 a1] w fun e w' => e = .returned (.int .i64 r) ∧ Below w.heap.size w w' := by
 have hu25 := Tryd.underlying25;have HR0_1 := aM hr0_1;have HC0_1 := aM hc0_1;clear hr0_1 hc0_1;have HR0_2 := aM hr0_2;have HC0_2 := aM hc0_2;clear hr0_2 hc0_2;have HB := aM (Below.refl w.heap.size w);have H : (if (wrap64 (a1 - (a0_0.size : Int))) < 0 then (some (-1)) else ((laws_szTermS.f k l0_1 (wrap64 (a1 - (a0_0.size : Int)))).bind fun t108 => (if t108 < 0 then (some (-1)) else ((laws_szOrdinalRuleS.f k l0_2 t108).bind fun t109 => (if t109 < 0 then (some (-1)) else (if (wrap64 (t109 - (a0_3.size : Int))) < 0 then (some (-1)) else (if (wrap64 ((wrap64 (t109 - (a0_3.size : Int))) - (a0_4.size : Int))) < 0 then (some (-1)) else (some (wrap64 ((wrap64 (t109 - (a0_3.size : Int))) - (a0_4.size : Int))))))))))) = some r := h;clear h
 by_cases c3 : (wrap64 (a1 - (a0_0.size : Int))) < 0
 focus
  rw [if_pos c3] at H;have c3b0 : decide ((wrap64 (a1 - (a0_0.size : Int))) < 0) = true := dT c3;clear c3;obtain rfl := Option.some.inj H;simp only [eS,eP] at H;obtain ⟨rfl⟩ := H
 rotate_left
 focus
  rw [if_neg c3] at H;have c3b0 : decide ((wrap64 (a1 - (a0_0.size : Int))) < 0) = false := dF c3;clear c3;obtain ⟨t108,A6,H⟩ := bE_ H
  by_cases c7 : t108 < 0
  focus
   rw [if_pos c7] at H;have c7b0 : decide (t108 < 0) = true := dT c7;clear c7;obtain rfl := Option.some.inj H;simp only [eS,eP] at H;obtain ⟨rfl⟩ := H
  rotate_left
  focus
   rw [if_neg c7] at H;have c7b0 : decide (t108 < 0) = false := dF c7;clear c7;obtain ⟨t109,A11,H⟩ := bE_ H
   by_cases c12 : t109 < 0
   focus
    rw [if_pos c12] at H;have c12b0 : decide (t109 < 0) = true := dT c12;clear c12;obtain rfl := Option.some.inj H;simp only [eS,eP] at H;obtain ⟨rfl⟩ := H
   rotate_left
   focus
    rw [if_neg c12] at H;have c12b0 : decide (t109 < 0) = false := dF c12;clear c12
    by_cases c18 : (wrap64 (t109 - (a0_3.size : Int))) < 0
    focus
     rw [if_pos c18] at H;have c18b0 : decide ((wrap64 (t109 - (a0_3.size : Int))) < 0) = true := dT c18;clear c18;obtain rfl := Option.some.inj H;simp only [eS,eP] at H;obtain ⟨rfl⟩ := H
    rotate_left
    focus
     rw [if_neg c18] at H;have c18b0 : decide ((wrap64 (t109 - (a0_3.size : Int))) < 0) = false := dF c18;clear c18
     by_cases c25 : (wrap64 ((wrap64 (t109 - (a0_3.size : Int))) - (a0_4.size : Int))) < 0
     focus
      rw [if_pos c25] at H;have c25b0 : decide ((wrap64 ((wrap64 (t109 - (a0_3.size : Int))) - (a0_4.size : Int))) < 0) = true := dT c25;clear c25;obtain rfl := Option.some.inj H;simp only [eS,eP] at H;obtain ⟨rfl⟩ := H
     rotate_left
     focus
      rw [if_neg c25] at H;have c25b0 : decide ((wrap64 ((wrap64 (t109 - (a0_3.size : Int))) - (a0_4.size : Int))) < 0) = false := dF c25;clear c25;obtain rfl := Option.some.inj H;simp only [eS,eP] at H;obtain ⟨rfl⟩ := H
 all_goals
  go_enter Tryd.func7,Tryd.ntmps7;go_wp2_with (first|((with_reducible refine gate_dst (N := 2) rfl ?_);refine box_event ?hg (N := 2) ?hd (cs := #[.string a0_0,.slice A0_1 l0_1.length c0_1,.slice A0_2 l0_2.length c0_2,.string a0_3,.string a0_4]) (t := 25) ?hr ?_;(case hd => rfl);(case hg => rfl);(case hr => first|(go_simp;done)|(go_simp;rfl));intro gb107 hg Wgb107 hbox hb;have BK107 := aM (hbox);have GW107 := aM ((by rw [hg];exact (lZ (by repeat (first|(with_reducible first|exact HB.out|apply lA|apply lN|apply lD)|exact HB.out))) : w.heap.size ≤ gb107));have GE107 := GW107;replace HB := aM (lT (by repeat (first|(with_reducible first|exact HB.out|apply lA|apply lN|apply lD)|exact HB.out)) hb);clear hb hbox hg;obtain ⟨hcz107x107_0,hcz107x107_1,hcz107x107_2,hcz107x107_3,hcz107x107_4,hfz107x107_0,hfz107x107_1,hfz107x107_2,hfz107x107_3,hfz107x107_4⟩ := z5_ BK107.out)|((with_reducible refine gate_callee (f := 30) rfl ?_);refine goesL_ (some 15) rfl rfl Tryd.func30 (by kernel_rfl) rfl #[.slice A0_1 l0_1.length c0_1,.int .i64 (wrap64 (a1 - (a0_0.size : Int)))] rfl (by (try simp only [mT,mC,mN]);first|done|rfl|(simp only [xD,xT];rfl)) ?_;(with_reducible refine (laws_szTermS.calls _ _ _ _ _ _ _ ?side1 ?side2 A6.out).mono ?_);(case side1 => repeat (first|exact (cB HR0_1.out HB.out)|(with_reducible first|refine cA ?_ _|refine cN ?_ _|refine cD ?_)));(case side2 => exact HC0_1.out);rintro e WA6 ⟨rfl,hb⟩;refine ⟨_,rfl,?_⟩;replace BK107 := aM (bW (g := gb107) (o := .cells #[.string a0_0,.slice A0_1 l0_1.length c0_1,.slice A0_2 l0_2.length c0_2,.string a0_3,.string a0_4] 25 (0,0)) (by (with_reducible repeat (first|refine bN ?_ _|refine bD ?_|refine bA ?_ _));exact BK107.out) hb);replace HB := aM (lT (by repeat (first|(with_reducible first|exact HB.out|apply lA|apply lN|apply lD|refine lS ?_ GE107.out)|exact HB.out)) hb);(try clear hb);obtain ⟨hcz6x107_0,hcz6x107_1,hcz6x107_2,hcz6x107_3,hcz6x107_4,hfz6x107_0,hfz6x107_1,hfz6x107_2,hfz6x107_3,hfz6x107_4⟩ := z5_ BK107.out)|((with_reducible refine gate_callee (f := 31) rfl ?_);refine goesL_ (some 21) rfl rfl Tryd.func31 (by kernel_rfl) rfl #[.slice A0_2 l0_2.length c0_2,.int .i64 t108] rfl (by (try simp only [mT,mC,mN]);first|done|rfl|(simp only [xD,xT];rfl)) ?_;(with_reducible refine (laws_szOrdinalRuleS.calls _ _ _ _ _ _ _ ?side1 ?side2 A11.out).mono ?_);(case side1 => repeat (first|exact (cB HR0_2.out HB.out)|(with_reducible first|refine cA ?_ _|refine cN ?_ _|refine cD ?_)));(case side2 => exact HC0_2.out);rintro e WA11 ⟨rfl,hb⟩;refine ⟨_,rfl,?_⟩;replace BK107 := aM (bW (g := gb107) (o := .cells #[.string a0_0,.slice A0_1 l0_1.length c0_1,.slice A0_2 l0_2.length c0_2,.string a0_3,.string a0_4] 25 (0,0)) (by (with_reducible repeat (first|refine bN ?_ _|refine bD ?_|refine bA ?_ _));exact BK107.out) hb);replace HB := aM (lT (by repeat (first|(with_reducible first|exact HB.out|apply lA|apply lN|apply lD|refine lS ?_ GE107.out)|exact HB.out)) hb);(try clear hb);obtain ⟨hcz11x107_0,hcz11x107_1,hcz11x107_2,hcz11x107_3,hcz11x107_4,hfz11x107_0,hfz11x107_1,hfz11x107_2,hfz11x107_3,hfz11x107_4⟩ := z5_ BK107.out));go_ret;exact ⟨by first|rfl|(simp [*];done),by repeat (first|(with_reducible first|exact HB.out|apply lA|apply lN|apply lD|refine lS ?_ GE107.out)|exact HB.out)⟩
def spec_l1In.f (a0 : Int) (a1 : Int) (a2 : Int) : Option (Bool) := if a0 ≥ a1 then (some (decide (a0 ≤ a2))) else (some false)
set_option maxHeartbeats 8000000 in
set_option maxRecDepth 100000 in
theorem spec_l1In.calls (a0 : Int) (a1 : Int) (a2 : Int) (r : Bool) (w : World) (h : spec_l1In.f a0 a1 a2 = some r) :
  Calls Tryd.prog 33 #[.int .i64 a0,.int .i64 a1,.int .i64 a2] w fun e w' => e = .returned (.bool r) ∧ Drawn0 w w' := by
 have H : (if a0 ≥ a1 then (some (decide (a0 ≤ a2))) else (some false)) = some r := h;clear h
 by_cases c4 : a0 ≥ a1
 focus
  rw [if_pos c4] at H;have c4b0 : decide (a1 ≤ a0) = true := dT c4;clear c4;obtain rfl := Option.some.inj H;simp only [eS,eP] at H;obtain ⟨rfl⟩ := H
 rotate_left
 focus
  rw [if_neg c4] at H;have c4b0 : decide (a1 ≤ a0) = false := dF c4;clear c4;obtain rfl := Option.some.inj H;simp only [eS,eP] at H;obtain ⟨rfl⟩ := H
 all_goals
  go_enter Tryd.func33,Tryd.ntmps33;go_wp2;go_ret;exact ⟨by first|rfl|(simp [*];done),by repeat (first|exact Drawn0.refl _|apply Drawn0.step)⟩
def spec_l23Key.l0 : Nat → ByteArray → Int → Option (Bool)
 | 0,_,_ => none
 | k + 1,x0,x3 => if x3 < (x0.size : Int) then (if 0 ≤ x3 then (if (bt x0 x3) < 97 then (some false) else (if (bt x0 x3) > 122 then (some false) else (spec_l23Key.l0 k x0 (wrap64 (x3 + 1))))) else (none)) else ((spec_l1In.f (x0.size : Int) 1 10).bind fun t110 => (some t110))
def spec_l23Key.f (k : Nat) (a0 : ByteArray) : Option (Bool) := spec_l23Key.l0 k a0 0
theorem spec_l23Key.mono_l : ∀ k,(∀ y0 y1,LeO (spec_l23Key.l0 k y0 y1) (spec_l23Key.l0 (k + 1) y0 y1))
 | 0 => fun _ _ r h => by simp [spec_l23Key.l0] at h
 | k + 1 => by
  have ih0 := spec_l23Key.mono_l k
  ·intro y0 y1
   unfold spec_l23Key.l0
   repeat' first
   | (with_reducible exact ih0 _ _)
   | (with_reducible exact LeO.refl _)
   | (with_reducible exact LeO.none _)
   | (with_reducible refine LeO.ite ?_ ?_)
   | (with_reducible refine LeO.bind ?_ (fun _ => ?_))
   | exact ih0 _ _
   | exact LeO.none _
   | refine LeO.ite ?_ ?_
   | refine LeO.bind ?_ (fun _ => ?_)
theorem spec_l23Key.mono : ∀ a0 k,LeO (spec_l23Key.f k a0) (spec_l23Key.f (k + 1) a0) := by
 intro a0 k
 have ih0 := spec_l23Key.mono_l k
 unfold spec_l23Key.f
 repeat' first
   | (with_reducible exact ih0 _ _)
   | (with_reducible exact LeO.refl _)
   | (with_reducible exact LeO.none _)
   | (with_reducible refine LeO.ite ?_ ?_)
   | (with_reducible refine LeO.bind ?_ (fun _ => ?_))
   | exact ih0 _ _
   | exact LeO.none _
   | refine LeO.ite ?_ ?_
   | refine LeO.bind ?_ (fun _ => ?_)
set_option maxHeartbeats 8000000 in
set_option maxRecDepth 100000 in
theorem spec_l23Key.calls (k : Nat) (a0 : ByteArray) (r : Bool) (w : World) (h : spec_l23Key.f k a0 = some r) :
  Calls Tryd.prog 69 #[.string a0] w fun e w' => e = .returned (.bool r) ∧ Drawn0 w w' := by
 have H : (spec_l23Key.l0 k a0 0) = some r := h;clear h;have H' := aM H;clear H;go_enter Tryd.func69,Tryd.ntmps69;go_wp2;go_loopg [3] k (fun kq v3 w' => ∃ (x3_1 : Int),v3 = .int .i64 x3_1 ∧ Aside0 (spec_l23Key.l0 kq a0 x3_1 = some r) ∧ Aside0 (kq ≤ k) ∧ Drawn0 w w')
 case atStart => exact ⟨(0),(by first|rfl|(simp [*];done)),H',⟨Nat.le_refl _⟩,by repeat (first|exact Drawn0.refl _|apply Drawn0.step)⟩
 case round =>
  clear H';obtain ⟨x3_1,rfl,HA,HK1,⟨m1,rfl⟩⟩ := hrel
  cases gk with
  | zero => exact absurd HA.out (by simp [spec_l23Key.l0])
  | succ k1 =>
   have H := HA.out;clear HA;simp only [spec_l23Key.l0] at H
   by_cases c2 : x3_1 < (a0.size : Int)
   focus
    rw [if_pos c2] at H;have c2b0 : decide (x3_1 < (a0.size : Int)) = true := dT c2;clear c2
    by_cases c3 : 0 ≤ x3_1
    rotate_left;rw [if_neg c3] at H;exact absurd H (by simp);rw [if_pos c3] at H;have c3b0 : decide (0 ≤ x3_1) = true := dT c3;clear c3
    by_cases c5 : (bt a0 x3_1) < 97
    focus
     rw [if_pos c5] at H;have c5b0 : decide ((bt a0 x3_1) < 97) = true := dT c5;clear c5;obtain rfl := Option.some.inj H;simp only [eS,eP] at H;obtain ⟨rfl⟩ := H
    rotate_left
    focus
     rw [if_neg c5] at H;have c5b0 : decide ((bt a0 x3_1) < 97) = false := dF c5;clear c5
     by_cases c7 : (bt a0 x3_1) > 122
     focus
      rw [if_pos c7] at H;have c7b0 : decide (122 < (bt a0 x3_1)) = true := dT c7;clear c7;obtain rfl := Option.some.inj H;simp only [eS,eP] at H;obtain ⟨rfl⟩ := H
     rotate_left
     focus
      rw [if_neg c7] at H;have c7b0 : decide (122 < (bt a0 x3_1)) = false := dF c7;clear c7;have H' := aM H;clear H
   rotate_left 3
   focus
    rw [if_neg c2] at H;have c2b0 : decide (x3_1 < (a0.size : Int)) = false := dF c2;clear c2;obtain ⟨t110,A8,H⟩ := bE_ H;obtain rfl := Option.some.inj H;simp only [eS,eP] at H;obtain ⟨rfl⟩ := H
   all_goals
    (try (have p01 : 0 ≤ (x3_1 : Int) := oD (by assumption);have q01 : x3_1 < (a0.size : Int) := oD (by assumption);have hx01 := bt_at a0 x3_1;replace p01 := eq_true p01;replace q01 := eq_true q01));go_wp2_with (first|((with_reducible refine gate_callee (f := 33) rfl ?_);refine goesL_ (some 22) rfl rfl Tryd.func33 (by kernel_rfl) rfl #[.int .i64 (a0.size : Int),.int .i64 1,.int .i64 10] rfl (by (try simp only [mT,mC,mN]);first|done|rfl|(simp only [xD,xT];rfl)) ?_;(with_reducible refine (spec_l1In.calls _ _ _ _ _ A8.out).mono ?_);rintro e w' ⟨rfl,⟨nd,rfl⟩⟩;refine ⟨_,rfl,?_⟩))
    first
     |
      go_ret;exact ⟨by first|rfl|(simp [*];done),by repeat (first|exact Drawn0.refl _|apply Drawn0.step)⟩
     |
      go_roundg k1
      case measure => have := HK1.out;omega
      case rel => exact ⟨(wrap64 (x3_1 + 1)),(by first|rfl|(simp [*];done)),H',⟨by have := HK1.out;omega⟩,by repeat (first|exact Drawn0.refl _|apply Drawn0.step)⟩
def spec_l23Bytes.l0 : Nat → ByteArray → Int → Int → Int → Int → Option (Bool)
 | 0,_,_,_,_,_ => none
 | k + 1,x0,x1,x2,x3,x9 => if x9 < (x0.size : Int) then (if 0 ≤ x9 then (if (bt x0 x9) < x3 then (some false) else (if (bt x0 x9) > 126 then (some false) else (spec_l23Bytes.l0 k x0 x1 x2 x3 (wrap64 (x9 + 1))))) else (none)) else ((spec_l1In.f (x0.size : Int) x1 x2).bind fun t111 => (some t111))
def spec_l23Bytes.f (k : Nat) (a0 : ByteArray) (a1 : Int) (a2 : Int) (a3 : Int) : Option (Bool) := spec_l23Bytes.l0 k a0 a1 a2 a3 0
theorem spec_l23Bytes.mono_l : ∀ k,(∀ y0 y1 y2 y3 y4,LeO (spec_l23Bytes.l0 k y0 y1 y2 y3 y4) (spec_l23Bytes.l0 (k + 1) y0 y1 y2 y3 y4))
 | 0 => fun _ _ _ _ _ r h => by simp [spec_l23Bytes.l0] at h
 | k + 1 => by
  have ih0 := spec_l23Bytes.mono_l k
  ·intro y0 y1 y2 y3 y4
   unfold spec_l23Bytes.l0
   repeat' first
   | (with_reducible exact ih0 _ _ _ _ _)
   | (with_reducible exact LeO.refl _)
   | (with_reducible exact LeO.none _)
   | (with_reducible refine LeO.ite ?_ ?_)
   | (with_reducible refine LeO.bind ?_ (fun _ => ?_))
   | exact ih0 _ _ _ _ _
   | exact LeO.none _
   | refine LeO.ite ?_ ?_
   | refine LeO.bind ?_ (fun _ => ?_)
theorem spec_l23Bytes.mono : ∀ a0 a1 a2 a3 k,LeO (spec_l23Bytes.f k a0 a1 a2 a3) (spec_l23Bytes.f (k + 1) a0 a1 a2 a3) := by
 intro a0 a1 a2 a3 k
 have ih0 := spec_l23Bytes.mono_l k
 unfold spec_l23Bytes.f
 repeat' first
   | (with_reducible exact ih0 _ _ _ _ _)
   | (with_reducible exact LeO.refl _)
   | (with_reducible exact LeO.none _)
   | (with_reducible refine LeO.ite ?_ ?_)
   | (with_reducible refine LeO.bind ?_ (fun _ => ?_))
   | exact ih0 _ _ _ _ _
   | exact LeO.none _
   | refine LeO.ite ?_ ?_
   | refine LeO.bind ?_ (fun _ => ?_)
set_option maxHeartbeats 8000000 in
set_option maxRecDepth 100000 in
theorem spec_l23Bytes.calls (k : Nat) (a0 : ByteArray) (a1 : Int) (a2 : Int) (a3 : Int) (r : Bool) (w : World) (h : spec_l23Bytes.f k a0 a1 a2 a3 = some r) :
  Calls Tryd.prog 70 #[.string a0,.int .i64 a1,.int .i64 a2,.int .u8 a3] w fun e w' => e = .returned (.bool r) ∧ Drawn0 w w' := by
 have H : (spec_l23Bytes.l0 k a0 a1 a2 a3 0) = some r := h;clear h;have H' := aM H;clear H;go_enter Tryd.func70,Tryd.ntmps70;go_wp2;go_loopg [9] k (fun kq v9 w' => ∃ (x9_1 : Int),v9 = .int .i64 x9_1 ∧ Aside0 (spec_l23Bytes.l0 kq a0 a1 a2 a3 x9_1 = some r) ∧ Aside0 (kq ≤ k) ∧ Drawn0 w w')
 case atStart => exact ⟨(0),(by first|rfl|(simp [*];done)),H',⟨Nat.le_refl _⟩,by repeat (first|exact Drawn0.refl _|apply Drawn0.step)⟩
 case round =>
  clear H';(try clear p2);obtain ⟨x9_1,rfl,HA,HK1,⟨m1,rfl⟩⟩ := hrel
  cases gk with
  | zero => exact absurd HA.out (by simp [spec_l23Bytes.l0])
  | succ k1 =>
   have H := HA.out;clear HA;simp only [spec_l23Bytes.l0] at H
   by_cases c5 : x9_1 < (a0.size : Int)
   focus
    rw [if_pos c5] at H;have c5b0 : decide (x9_1 < (a0.size : Int)) = true := dT c5;clear c5
    by_cases c6 : 0 ≤ x9_1
    rotate_left;rw [if_neg c6] at H;exact absurd H (by simp);rw [if_pos c6] at H;have c6b0 : decide (0 ≤ x9_1) = true := dT c6;clear c6
    by_cases c8 : (bt a0 x9_1) < a3
    focus
     rw [if_pos c8] at H;have c8b0 : decide ((bt a0 x9_1) < a3) = true := dT c8;clear c8;obtain rfl := Option.some.inj H;simp only [eS,eP] at H;obtain ⟨rfl⟩ := H
    rotate_left
    focus
     rw [if_neg c8] at H;have c8b0 : decide ((bt a0 x9_1) < a3) = false := dF c8;clear c8
     by_cases c10 : (bt a0 x9_1) > 126
     focus
      rw [if_pos c10] at H;have c10b0 : decide (126 < (bt a0 x9_1)) = true := dT c10;clear c10;obtain rfl := Option.some.inj H;simp only [eS,eP] at H;obtain ⟨rfl⟩ := H
     rotate_left
     focus
      rw [if_neg c10] at H;have c10b0 : decide (126 < (bt a0 x9_1)) = false := dF c10;clear c10;have H' := aM H;clear H
   rotate_left 3
   focus
    rw [if_neg c5] at H;have c5b0 : decide (x9_1 < (a0.size : Int)) = false := dF c5;clear c5;obtain ⟨t111,A11,H⟩ := bE_ H;obtain rfl := Option.some.inj H;simp only [eS,eP] at H;obtain ⟨rfl⟩ := H
   all_goals
    (try (have p01 : 0 ≤ (x9_1 : Int) := oD (by assumption);have q01 : x9_1 < (a0.size : Int) := oD (by assumption);have hx01 := bt_at a0 x9_1;replace p01 := eq_true p01;replace q01 := eq_true q01));go_wp2_with (first|((with_reducible refine gate_callee (f := 33) rfl ?_);refine goesL_ (some 31) rfl rfl Tryd.func33 (by kernel_rfl) rfl #[.int .i64 (a0.size : Int),.int .i64 a1,.int .i64 a2] rfl (by (try simp only [mT,mC,mN]);first|done|rfl|(simp only [xD,xT];rfl)) ?_;(with_reducible refine (spec_l1In.calls _ _ _ _ _ A11.out).mono ?_);rintro e w' ⟨rfl,⟨nd,rfl⟩⟩;refine ⟨_,rfl,?_⟩))
    first
     |
      go_ret;exact ⟨by first|rfl|(simp [*];done),by repeat (first|exact Drawn0.refl _|apply Drawn0.step)⟩
     |
      go_roundg k1
      case measure => have := HK1.out;omega
      case rel => exact ⟨(wrap64 (x9_1 + 1)),(by first|rfl|(simp [*];done)),H',⟨by have := HK1.out;omega⟩,by repeat (first|exact Drawn0.refl _|apply Drawn0.step)⟩
def spec_l23Term.f (k : Nat) (a0_0 : ByteArray) (a0_1 : ByteArray) (a0_2 : ByteArray) : Option (Bool) := (spec_l23Key.f k a0_0).bind fun t113 => (if t113 = true then ((spec_l23Bytes.f k a0_1 1 20 32).bind fun t114 => (if t114 = true then ((spec_l23Bytes.f k a0_2 1 20 32).bind fun t115 => (some t115)) else (some false))) else (some false))
theorem spec_l23Term.mono : ∀ a0 a1 a2 k,LeO (spec_l23Term.f k a0 a1 a2) (spec_l23Term.f (k + 1) a0 a1 a2) := by
 intro a0 a1 a2 k
 unfold spec_l23Term.f
 repeat' first
   | (with_reducible exact spec_l23Bytes.mono _ _ _ _ _)
   | (with_reducible exact spec_l23Key.mono _ _)
   | (with_reducible exact LeO.refl _)
   | (with_reducible exact LeO.none _)
   | (with_reducible refine LeO.ite ?_ ?_)
   | (with_reducible refine LeO.bind ?_ (fun _ => ?_))
   | exact spec_l23Bytes.mono _ _ _ _ _
   | exact spec_l23Key.mono _ _
   | exact LeO.none _
   | refine LeO.ite ?_ ?_
   | refine LeO.bind ?_ (fun _ => ?_)
set_option maxHeartbeats 8000000 in
set_option maxRecDepth 100000 in
theorem spec_l23Term.calls (k : Nat) (a0_0 : ByteArray) (a0_1 : ByteArray) (a0_2 : ByteArray) (r : Bool) (w : World) (h : spec_l23Term.f k a0_0 a0_1 a0_2 = some r) :
  Calls Tryd.prog 71 #[.agg #[.string a0_0,.string a0_1,.string a0_2]] w fun e w' => e = .returned (.bool r) ∧ Below w.heap.size w w' := by
 have hu41 := Tryd.underlying41;have HB := aM (Below.refl w.heap.size w);have H : ((spec_l23Key.f k a0_0).bind fun t113 => (if t113 = true then ((spec_l23Bytes.f k a0_1 1 20 32).bind fun t114 => (if t114 = true then ((spec_l23Bytes.f k a0_2 1 20 32).bind fun t115 => (some t115)) else (some false))) else (some false))) = some r := h;clear h;obtain ⟨t113,A2,H⟩ := bE_ H
 by_cases c3 : t113 = true
 focus
  subst c3;rw [if_pos rfl] at H;obtain ⟨t114,A4,H⟩ := bE_ H
  by_cases c5 : t114 = true
  focus
   subst c5;rw [if_pos rfl] at H;obtain ⟨t115,A6,H⟩ := bE_ H;obtain rfl := Option.some.inj H;simp only [eS,eP] at H;obtain ⟨rfl⟩ := H
  rotate_left
  focus
   replace c5 := Bool.eq_false_iff.mpr c5;subst c5;rw [if_neg Bool.false_ne_true] at H;obtain rfl := Option.some.inj H;simp only [eS,eP] at H;obtain ⟨rfl⟩ := H
 rotate_left 2
 focus
  replace c3 := Bool.eq_false_iff.mpr c3;subst c3;rw [if_neg Bool.false_ne_true] at H;obtain rfl := Option.some.inj H;simp only [eS,eP] at H;obtain ⟨rfl⟩ := H
 all_goals
  go_enter Tryd.func71,Tryd.ntmps71;go_wp2_with (first|((with_reducible refine gate_dst (N := 1) rfl ?_);refine box_event ?hg (N := 1) ?hd (cs := #[.string a0_0,.string a0_1,.string a0_2]) (t := 41) ?hr ?_;(case hd => rfl);(case hg => rfl);(case hr => first|(go_simp;done)|(go_simp;rfl));intro gb112 hg Wgb112 hbox hb;have BK112 := aM (hbox);have GW112 := aM ((by rw [hg];exact (lZ (by repeat (first|(with_reducible first|exact HB.out|apply lA|apply lN|apply lD)|exact HB.out))) : w.heap.size ≤ gb112));have GE112 := GW112;replace HB := aM (lT (by repeat (first|(with_reducible first|exact HB.out|apply lA|apply lN|apply lD)|exact HB.out)) hb);clear hb hbox hg;obtain ⟨hcz112x112_0,hcz112x112_1,hcz112x112_2,hfz112x112_0,hfz112x112_1,hfz112x112_2⟩ := z3_ BK112.out)|((with_reducible refine gate_callee (f := 69) rfl ?_);refine goesL_ (some 5) rfl rfl Tryd.func69 (by kernel_rfl) rfl #[.string a0_0] rfl (by (try simp only [mT,mC,mN]);first|done|rfl|(simp only [xD,xT];rfl)) ?_;(with_reducible refine (spec_l23Key.calls _ _ _ _ A2.out).mono ?_);rintro e w' ⟨rfl,⟨nd,rfl⟩⟩;refine ⟨_,rfl,?_⟩)|(go_at_call 70;(with_reducible refine (spec_l23Bytes.calls _ _ _ _ _ _ _ A4.out).mono ?_);rintro e w' ⟨rfl,⟨nd,rfl⟩⟩)|(go_at_call 70;(with_reducible refine (spec_l23Bytes.calls _ _ _ _ _ _ _ A6.out).mono ?_);rintro e w' ⟨rfl,⟨nd,rfl⟩⟩));go_ret;exact ⟨by first|rfl|(simp [*];done),by repeat (first|(with_reducible first|exact HB.out|apply lA|apply lN|apply lD|refine lS ?_ GE112.out)|exact HB.out)⟩
end Go.Proofs.YtmkkcpdpfelalaaDoor.P
