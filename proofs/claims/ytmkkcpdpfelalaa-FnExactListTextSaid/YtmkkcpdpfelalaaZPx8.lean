/- Written by a program in this session: each theorem here says that a Go function computes the Lean function beside it, or that a law's row holds, under the conditions that the theorem itself states. -/
import Derived.Test.YtmkkcpdpfelalaaZPx0
import Derived.Test.YtmkkcpdpfelalaaZPx1
import Derived.Test.YtmkkcpdpfelalaaZPx2
import Derived.Test.YtmkkcpdpfelalaaZPx3
import Derived.Test.YtmkkcpdpfelalaaZPx5
namespace Go.Proofs.Ytmkkcpdpfelalaa.P
open Go.RowKit Go.Proofs.YtmkkcpdpfelalaaW.PrintWords Go.Proofs.YtmkkcpdpfelalaaW.PrintLast Go.Proofs.YtmkkcpdpfelalaaW.PrintMore
attribute [local go_sem] max2_int min2_int max_two min_two max_three min_three max_four min_four   -- for this text's walks alone
set_option linter.unusedVariables false
set_option linter.unusedSimpArgs false
def spec_l23Find.l0 : Nat → ByteArray → Int → ByteArray → List (S61) → List (S72) → ByteArray → ByteArray → Option (Int)
 | 0,_,_,_,_,_,_,_ => none
 | k + 1,x1,x5,x241000,x241001,x241002,x241003,x241004 => if x5 < (x241001.length : Int) then (if 0 ≤ x5 then (if ((rd_T61 x241001 x5).f0).toList = x1.toList then (some x5) else (spec_l23Find.l0 k x1 (wrap64 (x5 + 1)) x241000 x241001 x241002 x241003 x241004)) else (none)) else (some (-1))
def spec_l23Find.f (k : Nat) (a0_0 : ByteArray) (l0_1 : List (S61)) (l0_2 : List (S72)) (a0_3 : ByteArray) (a0_4 : ByteArray) (a1 : ByteArray) : Option (Int) := spec_l23Find.l0 k a1 0 a0_0 l0_1 l0_2 a0_3 a0_4
theorem spec_l23Find.mono_l : ∀ k,(∀ y0 y1 y2 y3 y4 y5 y6,LeO (spec_l23Find.l0 k y0 y1 y2 y3 y4 y5 y6) (spec_l23Find.l0 (k + 1) y0 y1 y2 y3 y4 y5 y6))
 | 0 => fun _ _ _ _ _ _ _ r h => by simp [spec_l23Find.l0] at h
 | k + 1 => by
  have ih0 := spec_l23Find.mono_l k
  ·intro y0 y1 y2 y3 y4 y5 y6
   unfold spec_l23Find.l0
   repeat' first
   | (with_reducible exact ih0 _ _ _ _ _ _ _)
   | (with_reducible exact LeO.refl _)
   | (with_reducible exact LeO.none _)
   | (with_reducible refine LeO.ite ?_ ?_)
   | (with_reducible refine LeO.bind ?_ (fun _ => ?_))
   | exact ih0 _ _ _ _ _ _ _
   | exact LeO.none _
   | refine LeO.ite ?_ ?_
   | refine LeO.bind ?_ (fun _ => ?_)
theorem spec_l23Find.mono : ∀ a0 a1 a2 a3 a4 a5 k,LeO (spec_l23Find.f k a0 a1 a2 a3 a4 a5) (spec_l23Find.f (k + 1) a0 a1 a2 a3 a4 a5) := by
 intro a0 a1 a2 a3 a4 a5 k
 have ih0 := spec_l23Find.mono_l k
 unfold spec_l23Find.f
 repeat' first
   | (with_reducible exact ih0 _ _ _ _ _ _ _)
   | (with_reducible exact LeO.refl _)
   | (with_reducible exact LeO.none _)
   | (with_reducible refine LeO.ite ?_ ?_)
   | (with_reducible refine LeO.bind ?_ (fun _ => ?_))
   | exact ih0 _ _ _ _ _ _ _
   | exact LeO.none _
   | refine LeO.ite ?_ ?_
   | refine LeO.bind ?_ (fun _ => ?_)
set_option maxHeartbeats 8000000 in
set_option maxRecDepth 100000 in
theorem spec_l23Find.calls (k : Nat) (a0_0 : ByteArray) (A0_1 : Option Addr) (c0_1 : Nat) (l0_1 : List (S61)) (A0_2 : Option Addr) (c0_2 : Nat) (l0_2 : List (S72)) (a0_3 : ByteArray) (a0_4 : ByteArray) (a1 : ByteArray) (r : Int) (w : World) (hr0_1 : Kd.C k61 w A0_1 l0_1.length l0_1) (hc0_1 : l0_1.length ≤ c0_1) (hr0_2 : Kd.C k72 w A0_2 l0_2.length l0_2) (hc0_2 : l0_2.length ≤ c0_2) (h : spec_l23Find.f k a0_0 l0_1 l0_2 a0_3 a0_4 a1 = some r) :
  Calls Try.prog 48 #[.agg #[.string a0_0,.slice A0_1 l0_1.length c0_1,.slice A0_2 l0_2.length c0_2,.string a0_3,.string a0_4],.string a1] w fun e w' => e = .returned (.int .i64 r) ∧ Below w.heap.size w w' := by
 have hu31 := Try.underlying31;have HR0_1 := aM hr0_1;have HC0_1 := aM hc0_1;clear hr0_1 hc0_1;have HR0_2 := aM hr0_2;have HC0_2 := aM hc0_2;clear hr0_2 hc0_2;have HB := aM (Below.refl w.heap.size w);have H : (spec_l23Find.l0 k a1 0 a0_0 l0_1 l0_2 a0_3 a0_4) = some r := h;clear h;have H' := aM H;clear H;go_enter Try.func48,Try.ntmps48;go_wp2_with (first|((with_reducible refine gate_dst (N := 2) rfl ?_);refine box_event ?hg (N := 2) ?hd (cs := #[.string a0_0,.slice A0_1 l0_1.length c0_1,.slice A0_2 l0_2.length c0_2,.string a0_3,.string a0_4]) (t := 31) ?hr ?_;(case hd => rfl);(case hg => rfl);(case hr => first|(go_simp;done)|(go_simp;rfl));intro gb240 hg w3 hbox hb;have BK240 := aM (hbox);have GW240 := aM ((by rw [hg];exact (lZ (by repeat (first|(with_reducible first|exact HB.out|apply lA|apply lN|apply lD)|exact HB.out))) : w.heap.size ≤ gb240));have GE240 := GW240;replace HB := aM (lT (by repeat (first|(with_reducible first|exact HB.out|apply lA|apply lN|apply lD)|exact HB.out)) hb);clear hb hbox hg));go_loopg [5] k (fun kq v5 w' => ∃ (x5_1 : Int),v5 = .int .i64 x5_1 ∧ Aside0 (spec_l23Find.l0 kq a1 x5_1 a0_0 l0_1 l0_2 a0_3 a0_4 = some r) ∧ Aside0 (kq ≤ k) ∧ Aside0 (w'.heap[gb240]? = some (.cells #[.string a0_0,(.slice A0_1 l0_1.length c0_1),(.slice A0_2 l0_2.length c0_2),.string a0_3,.string a0_4] 31 (0,0))) ∧ Aside0 (Below w.heap.size w w'))
 case atStart => exact ⟨(0),(by first|rfl|(simp [*];done)),H',⟨Nat.le_refl _⟩,⟨by (with_reducible repeat (first|refine bN ?_ _|refine bD ?_|refine bA ?_ _));exact BK240.out⟩,⟨by repeat (first|(with_reducible first|exact HB.out|apply lA|apply lN|apply lD|refine lS ?_ GE240.out)|exact HB.out)⟩⟩
 case round =>
  clear H';(try clear p2);obtain ⟨x5_1,rfl,HA,HK1,BK240,HB⟩ := hrel
  cases gk with
  | zero => exact absurd HA.out (by simp [spec_l23Find.l0])
  | succ k1 =>
   have H := HA.out;clear HA;simp only [spec_l23Find.l0] at H
   by_cases c4 : x5_1 < (l0_1.length : Int)
   focus
    rw [if_pos c4] at H;have c4b0 : decide (x5_1 < (l0_1.length : Int)) = true := dT c4;clear c4
    by_cases c5 : 0 ≤ x5_1
    rotate_left;rw [if_neg c5] at H;exact absurd H (by simp);rw [if_pos c5] at H;have c5b0 : decide (0 ≤ x5_1) = true := dT c5;clear c5
    by_cases c6 : ((rd_T61 l0_1 x5_1).f0).toList = a1.toList
    focus
     rw [if_pos c6] at H;have c6b0 : (((rd_T61 l0_1 x5_1).f0).toList == a1.toList) = true := beq_iff_eq.mpr c6;have c6b1 : (((rd_T61 l0_1 x5_1).f0).toList != a1.toList) = false := bne_eq_false_iff_eq.mpr c6;clear c6;obtain rfl := Option.some.inj H;simp only [eS,eP] at H;obtain ⟨rfl⟩ := H
    rotate_left
    focus
     rw [if_neg c6] at H;have c6b0 : (((rd_T61 l0_1 x5_1).f0).toList == a1.toList) = false := beq_eq_false_iff_ne.mpr c6;have c6b1 : (((rd_T61 l0_1 x5_1).f0).toList != a1.toList) = true := bne_iff_ne.mpr c6;have H' := aM H;clear H
   rotate_left 2
   focus
    rw [if_neg c4] at H;have c4b0 : decide (x5_1 < (l0_1.length : Int)) = false := dF c4;clear c4;obtain rfl := Option.some.inj H;simp only [eS,eP] at H;obtain ⟨rfl⟩ := H
   all_goals
    (try obtain ⟨hczx240_0,hczx240_1,hczx240_2,hczx240_3,hczx240_4,hfzx240_0,hfzx240_1,hfzx240_2,hfzx240_3,hfzx240_4⟩ := z5_ BK240.out);(try (have p01 : 0 ≤ (x5_1 : Int) := oD (by assumption);have q01 : x5_1 < (l0_1.length : Int) := oD (by assumption);obtain ⟨ad01,e01,hx01_0,hx01_1,hx01_2⟩ := at_T61 HR0_1.out x5_1 p01 q01;cases e01;replace hx01_0 := (HB.out.cell (wB w _ hx01_0)).trans hx01_0;replace hx01_1 := (HB.out.cell (wB w _ hx01_1)).trans hx01_1;replace hx01_2 := (HB.out.cell (wB w _ hx01_2)).trans hx01_2;replace p01 := eq_true p01;replace q01 := eq_true q01));go_wp2
    first
     |
      go_ret;exact ⟨by first|rfl|(simp [*];done),by repeat (first|(with_reducible first|exact HB.out|apply lA|apply lN|apply lD|refine lS ?_ GE240.out)|exact HB.out)⟩
     |
      go_roundg k1
      case measure => have := HK1.out;omega
      case rel => exact ⟨(wrap64 (x5_1 + 1)),(by first|rfl|(simp [*];done)),H',⟨by have := HK1.out;omega⟩,⟨by (with_reducible repeat (first|refine bN ?_ _|refine bD ?_|refine bA ?_ _));exact BK240.out⟩,⟨by repeat (first|(with_reducible first|exact HB.out|apply lA|apply lN|apply lD|refine lS ?_ GE240.out)|exact HB.out)⟩⟩
def spec_l23For.f (a0_0 : ByteArray) (a0_1 : ByteArray) (a0_2 : ByteArray) (a1 : Int) : Option (ByteArray) := if a1 = 1 then (some a0_1) else (some a0_2)
set_option maxHeartbeats 8000000 in
set_option maxRecDepth 100000 in
theorem spec_l23For.calls (a0_0 : ByteArray) (a0_1 : ByteArray) (a0_2 : ByteArray) (a1 : Int) (r : ByteArray) (w : World) (h : spec_l23For.f a0_0 a0_1 a0_2 a1 = some r) :
  Calls Try.prog 50 #[.agg #[.string a0_0,.string a0_1,.string a0_2],.int .i64 a1] w fun e w' => e = .returned (.string r) ∧ Below w.heap.size w w' := by
 have hu61 := Try.underlying61;have HB := aM (Below.refl w.heap.size w);have H : (if a1 = 1 then (some a0_1) else (some a0_2)) = some r := h;clear h
 by_cases c3 : a1 = 1
 focus
  rw [if_pos c3] at H;have c3b0 : (a1 == 1) = true := beq_iff_eq.mpr c3;have c3b1 : (a1 != 1) = false := bne_eq_false_iff_eq.mpr c3;clear c3;obtain rfl := Option.some.inj H;simp only [eS,eP] at H;obtain ⟨rfl⟩ := H
 rotate_left
 focus
  rw [if_neg c3] at H;have c3b0 : (a1 == 1) = false := beq_eq_false_iff_ne.mpr c3;have c3b1 : (a1 != 1) = true := bne_iff_ne.mpr c3;obtain rfl := Option.some.inj H;simp only [eS,eP] at H;obtain ⟨rfl⟩ := H
 all_goals
  go_enter Try.func50,Try.ntmps50;go_wp2_with (first|((with_reducible refine gate_dst (N := 2) rfl ?_);refine box_event ?hg (N := 2) ?hd (cs := #[.string a0_0,.string a0_1,.string a0_2]) (t := 61) ?hr ?_;(case hd => rfl);(case hg => rfl);(case hr => first|(go_simp;done)|(go_simp;rfl));intro gb242 hg Wgb242 hbox hb;have BK242 := aM (hbox);have GW242 := aM ((by rw [hg];exact (lZ (by repeat (first|(with_reducible first|exact HB.out|apply lA|apply lN|apply lD)|exact HB.out))) : w.heap.size ≤ gb242));have GE242 := GW242;replace HB := aM (lT (by repeat (first|(with_reducible first|exact HB.out|apply lA|apply lN|apply lD)|exact HB.out)) hb);clear hb hbox hg;obtain ⟨hcz242x242_0,hcz242x242_1,hcz242x242_2,hfz242x242_0,hfz242x242_1,hfz242x242_2⟩ := z3_ BK242.out));go_ret;exact ⟨by first|rfl|(simp [*];done),by repeat (first|(with_reducible first|exact HB.out|apply lA|apply lN|apply lD|refine lS ?_ GE242.out)|exact HB.out)⟩
def spec_TermFor.f (k : Nat) (a0_0 : ByteArray) (l0_1 : List (S61)) (l0_2 : List (S72)) (a0_3 : ByteArray) (a0_4 : ByteArray) (a1 : ByteArray) (a2 : Int) : Option (ByteArray × Bool) := (spec_l23Find.f k a0_0 l0_1 l0_2 a0_3 a0_4 a1).bind fun t244 => ((spec_l23Good.f k a0_0 l0_1 l0_2 a0_3 a0_4).bind fun t245 => (if t245 = true then ((spec_l1In.f a2 0 999999).bind fun t246 => (if t246 = true then (if t244 < 0 then (some ((⟨#[]⟩ : ByteArray),false)) else (if 0 ≤ t244 then (if t244 < (l0_1.length : Int) then ((spec_l23For.f ((rd_T61 l0_1 t244).f0) ((rd_T61 l0_1 t244).f1) ((rd_T61 l0_1 t244).f2) a2).bind fun t248 => (some (t248,true))) else (none)) else (none))) else (some ((⟨#[]⟩ : ByteArray),false)))) else (some ((⟨#[]⟩ : ByteArray),false))))
theorem spec_TermFor.mono : ∀ a0 a1 a2 a3 a4 a5 a6 k,LeO (spec_TermFor.f k a0 a1 a2 a3 a4 a5 a6) (spec_TermFor.f (k + 1) a0 a1 a2 a3 a4 a5 a6) := by
 intro a0 a1 a2 a3 a4 a5 a6 k
 unfold spec_TermFor.f
 repeat' first
   | (with_reducible exact spec_l23Find.mono _ _ _ _ _ _ _)
   | (with_reducible exact spec_l23Good.mono _ _ _ _ _ _)
   | (with_reducible exact LeO.refl _)
   | (with_reducible exact LeO.none _)
   | (with_reducible refine LeO.ite ?_ ?_)
   | (with_reducible refine LeO.bind ?_ (fun _ => ?_))
   | exact spec_l23Find.mono _ _ _ _ _ _ _
   | exact spec_l23Good.mono _ _ _ _ _ _
   | exact LeO.none _
   | refine LeO.ite ?_ ?_
   | refine LeO.bind ?_ (fun _ => ?_)
set_option maxHeartbeats 8000000 in
set_option maxRecDepth 100000 in
theorem spec_TermFor.calls (k : Nat) (a0_0 : ByteArray) (A0_1 : Option Addr) (c0_1 : Nat) (l0_1 : List (S61)) (A0_2 : Option Addr) (c0_2 : Nat) (l0_2 : List (S72)) (a0_3 : ByteArray) (a0_4 : ByteArray) (a1 : ByteArray) (a2 : Int) (r1 : ByteArray) (r2 : Bool) (w : World) (hr0_1 : Kd.C k61 w A0_1 l0_1.length l0_1) (hc0_1 : l0_1.length ≤ c0_1) (hr0_2 : Kd.C k72 w A0_2 l0_2.length l0_2) (hc0_2 : l0_2.length ≤ c0_2) (h : spec_TermFor.f k a0_0 l0_1 l0_2 a0_3 a0_4 a1 a2 = some (r1,r2)) :
  Calls Try.prog 14 #[.agg #[.string a0_0,.slice A0_1 l0_1.length c0_1,.slice A0_2 l0_2.length c0_2,.string a0_3,.string a0_4],.string a1,.int .i64 a2] w fun e w' => e = .returned (.tuple #[.string r1,.bool r2]) ∧ Below w.heap.size w w' := by
 have hu31 := Try.underlying31;have hu61 := Try.underlying61;have HR0_1 := aM hr0_1;have HC0_1 := aM hc0_1;clear hr0_1 hc0_1;have HR0_2 := aM hr0_2;have HC0_2 := aM hc0_2;clear hr0_2 hc0_2;have HB := aM (Below.refl w.heap.size w);have H : ((spec_l23Find.f k a0_0 l0_1 l0_2 a0_3 a0_4 a1).bind fun t244 => ((spec_l23Good.f k a0_0 l0_1 l0_2 a0_3 a0_4).bind fun t245 => (if t245 = true then ((spec_l1In.f a2 0 999999).bind fun t246 => (if t246 = true then (if t244 < 0 then (some ((⟨#[]⟩ : ByteArray),false)) else (if 0 ≤ t244 then (if t244 < (l0_1.length : Int) then ((spec_l23For.f ((rd_T61 l0_1 t244).f0) ((rd_T61 l0_1 t244).f1) ((rd_T61 l0_1 t244).f2) a2).bind fun t248 => (some (t248,true))) else (none)) else (none))) else (some ((⟨#[]⟩ : ByteArray),false)))) else (some ((⟨#[]⟩ : ByteArray),false))))) = some (r1,r2) := h;clear h;obtain ⟨t244,A4,H⟩ := bE_ H;obtain ⟨t245,A5,H⟩ := bE_ H
 by_cases c6 : t245 = true
 focus
  subst c6;rw [if_pos rfl] at H;obtain ⟨t246,A7,H⟩ := bE_ H
  by_cases c8 : t246 = true
  focus
   subst c8;rw [if_pos rfl] at H
   by_cases c9 : t244 < 0
   focus
    rw [if_pos c9] at H;have c9b0 : decide (t244 < 0) = true := dT c9;clear c9;simp only [eS,eP] at H;obtain ⟨rfl,rfl⟩ := H
   rotate_left
   focus
    rw [if_neg c9] at H;have c9b0 : decide (t244 < 0) = false := dF c9;clear c9
    by_cases c15 : 0 ≤ t244
    rotate_left;rw [if_neg c15] at H;exact absurd H (by simp);rw [if_pos c15] at H;have c15b0 : decide (0 ≤ t244) = true := dT c15;clear c15
    by_cases c16 : t244 < (l0_1.length : Int)
    rotate_left;rw [if_neg c16] at H;exact absurd H (by simp);rw [if_pos c16] at H;have c16b0 : decide (t244 < (l0_1.length : Int)) = true := dT c16;clear c16;obtain ⟨t248,A17,H⟩ := bE_ H;simp only [eS,eP] at H;obtain ⟨rfl,rfl⟩ := H
  rotate_left 2
  focus
   replace c8 := Bool.eq_false_iff.mpr c8;subst c8;rw [if_neg Bool.false_ne_true] at H;simp only [eS,eP] at H;obtain ⟨rfl,rfl⟩ := H
 rotate_left 3
 focus
  replace c6 := Bool.eq_false_iff.mpr c6;subst c6;rw [if_neg Bool.false_ne_true] at H;simp only [eS,eP] at H;obtain ⟨rfl,rfl⟩ := H
 all_goals
  go_enter Try.func14,Try.ntmps14;go_wp2_with (first|((with_reducible refine gate_dst (N := 3) rfl ?_);refine box_event ?hg (N := 3) ?hd (cs := #[.string a0_0,.slice A0_1 l0_1.length c0_1,.slice A0_2 l0_2.length c0_2,.string a0_3,.string a0_4]) (t := 31) ?hr ?_;(case hd => rfl);(case hg => rfl);(case hr => first|(go_simp;done)|(go_simp;rfl));intro gb243 hg Wgb243 hbox hb;have BK243 := aM (hbox);have GW243 := aM ((by rw [hg];exact (lZ (by repeat (first|(with_reducible first|exact HB.out|apply lA|apply lN|apply lD)|exact HB.out))) : w.heap.size ≤ gb243));have GE243 := GW243;replace HB := aM (lT (by repeat (first|(with_reducible first|exact HB.out|apply lA|apply lN|apply lD)|exact HB.out)) hb);clear hb hbox hg;obtain ⟨hcz243x243_0,hcz243x243_1,hcz243x243_2,hcz243x243_3,hcz243x243_4,hfz243x243_0,hfz243x243_1,hfz243x243_2,hfz243x243_3,hfz243x243_4⟩ := z5_ BK243.out)|((with_reducible refine gate_callee (f := 48) rfl ?_);refine goesL_ (some 11) rfl rfl Try.func48 (by kernel_rfl) rfl #[.agg #[.string a0_0,.slice A0_1 l0_1.length c0_1,.slice A0_2 l0_2.length c0_2,.string a0_3,.string a0_4],.string a1] rfl (by (try simp only [mT,mC,mN]);first|done|rfl|(simp only [xD,xT];rfl)) ?_;(with_reducible refine (spec_l23Find.calls _ _ _ _ _ _ _ _ _ _ _ _ _ ?side1 ?side2 ?side3 ?side4 A4.out).mono ?_);(case side1 => repeat (first|exact (cB HR0_1.out HB.out)|(with_reducible first|refine cA ?_ _|refine cN ?_ _|refine cD ?_)));(case side2 => exact HC0_1.out);(case side3 => repeat (first|exact (cB HR0_2.out HB.out)|(with_reducible first|refine cA ?_ _|refine cN ?_ _|refine cD ?_)));(case side4 => exact HC0_2.out);rintro e WA4 ⟨rfl,hb⟩;refine ⟨_,rfl,?_⟩;replace BK243 := aM (bW (g := gb243) (o := .cells #[.string a0_0,.slice A0_1 l0_1.length c0_1,.slice A0_2 l0_2.length c0_2,.string a0_3,.string a0_4] 31 (0,0)) (by (with_reducible repeat (first|refine bN ?_ _|refine bD ?_|refine bA ?_ _));exact BK243.out) hb);replace HB := aM (lT (by repeat (first|(with_reducible first|exact HB.out|apply lA|apply lN|apply lD|refine lS ?_ GE243.out)|exact HB.out)) hb);(try clear hb);obtain ⟨hcz4x243_0,hcz4x243_1,hcz4x243_2,hcz4x243_3,hcz4x243_4,hfz4x243_0,hfz4x243_1,hfz4x243_2,hfz4x243_3,hfz4x243_4⟩ := z5_ BK243.out)|((with_reducible refine gate_callee (f := 38) rfl ?_);refine goesL_ (some 13) rfl rfl Try.func38 (by kernel_rfl) rfl #[.agg #[.string a0_0,.slice A0_1 l0_1.length c0_1,.slice A0_2 l0_2.length c0_2,.string a0_3,.string a0_4]] rfl (by (try simp only [mT,mC,mN]);first|done|rfl|(simp only [xD,xT];rfl)) ?_;(with_reducible refine (spec_l23Good.calls _ _ _ _ _ _ _ _ _ _ _ _ ?side1 ?side2 ?side3 ?side4 A5.out).mono ?_);(case side1 => repeat (first|exact (cB HR0_1.out HB.out)|(with_reducible first|refine cA ?_ _|refine cN ?_ _|refine cD ?_)));(case side2 => exact HC0_1.out);(case side3 => repeat (first|exact (cB HR0_2.out HB.out)|(with_reducible first|refine cA ?_ _|refine cN ?_ _|refine cD ?_)));(case side4 => exact HC0_2.out);rintro e WA5 ⟨rfl,hb⟩;refine ⟨_,rfl,?_⟩;replace BK243 := aM (bW (g := gb243) (o := .cells #[.string a0_0,.slice A0_1 l0_1.length c0_1,.slice A0_2 l0_2.length c0_2,.string a0_3,.string a0_4] 31 (0,0)) (by (with_reducible repeat (first|refine bN ?_ _|refine bD ?_|refine bA ?_ _));exact BK243.out) hb);replace HB := aM (lT (by repeat (first|(with_reducible first|exact HB.out|apply lA|apply lN|apply lD|refine lS ?_ GE243.out)|exact HB.out)) hb);(try clear hb))|(go_at_call 49;(with_reducible refine (spec_l1In.calls _ _ _ _ _ A7.out).mono ?_);rintro e w' ⟨rfl,⟨nd,rfl⟩⟩;obtain ⟨hcz7x243_0,hcz7x243_1,hcz7x243_2,hcz7x243_3,hcz7x243_4,hfz7x243_0,hfz7x243_1,hfz7x243_2,hfz7x243_3,hfz7x243_4⟩ := z5_ BK243.out;(try (have p01 : 0 ≤ (t244 : Int) := oD (by assumption);have q01 : t244 < (l0_1.length : Int) := oD (by assumption);obtain ⟨ad01,e01,hx01_0,hx01_1,hx01_2⟩ := at_T61 HR0_1.out t244 p01 q01;cases e01;replace hx01_0 := (HB.out.cell (wB w _ hx01_0)).trans hx01_0;replace hx01_1 := (HB.out.cell (wB w _ hx01_1)).trans hx01_1;replace hx01_2 := (HB.out.cell (wB w _ hx01_2)).trans hx01_2;replace p01 := eq_true p01;replace q01 := eq_true q01)))|((with_reducible refine gate_callee (f := 50) rfl ?_);refine goesL_ (some 30) rfl rfl Try.func50 (by kernel_rfl) rfl #[.agg #[.string ((rd_T61 l0_1 t244).f0),.string ((rd_T61 l0_1 t244).f1),.string ((rd_T61 l0_1 t244).f2)],.int .i64 a2] rfl (by (try simp only [mT,mC,mN]);first|done|rfl|(simp only [xD,xT];rfl)) ?_;(with_reducible refine (spec_l23For.calls _ _ _ _ _ _ A17.out).mono ?_);rintro e WA17 ⟨rfl,hb⟩;refine ⟨_,rfl,?_⟩;replace BK243 := aM (bW (g := gb243) (o := .cells #[.string a0_0,.slice (some ad01) l0_1.length c0_1,.slice A0_2 l0_2.length c0_2,.string a0_3,.string a0_4] 31 (0,0)) (by (with_reducible repeat (first|refine bN ?_ _|refine bD ?_|refine bA ?_ _));exact BK243.out) hb);replace HB := aM (lT (by repeat (first|(with_reducible first|exact HB.out|apply lA|apply lN|apply lD|refine lS ?_ GE243.out)|exact HB.out)) hb);(try clear hb)));go_ret2;exact ⟨by first|rfl|(simp [*];done),by repeat (first|(with_reducible first|exact HB.out|apply lA|apply lN|apply lD|refine lS ?_ GE243.out)|exact HB.out)⟩
set_option maxHeartbeats 8000000 in
set_option maxRecDepth 100000 in
theorem impl_termIndex_closure (x y z key : ByteArray) (p : Nat) (w : World) (hk : w.cell? ⟨p,0,none⟩ = some (.string key)) (hp : p < w.heap.size) :
  Calls Try.prog 80 #[.agg #[.string x,.string y,.string z],.pointer (some ⟨p,0,none⟩)] w fun e w' => e = .returned (.bool (x.toList == key.toList)) ∧ Below w.heap.size w w' := by
 have hu61 := Try.underlying61;have HB := aM (Below.refl w.heap.size w);have hk2 := fun (W : World) (h : Below w.heap.size w W) => (h.cell (p := ⟨p,0,none⟩) hp).trans hk;go_enter Try.func80,Try.ntmps80;go_wp2;go_ret;exact ⟨rfl,lA (Below.refl _ _) _⟩
def impl_termIndex_at (key : ByteArray) (l : List S61) : Int → Nat → Int
 | _,0 => -1
 | i,d + 1 => if ((rd_T61 l i).f0.toList == key.toList) = true then i else impl_termIndex_at key l (i + 1) d
set_option maxHeartbeats 8000000 in
set_option maxRecDepth 100000 in
theorem impl_termIndex_index (A0 : Option Addr) (c0 : Nat) (l0 : List S61) (key : ByteArray) (p : Nat) (w : World) (hr0 : Kd.C k61 w A0 l0.length l0) (hc0 : l0.length ≤ c0) (hl : l0.length ≤ 4611686018427387904) (hk : w.cell? ⟨p,0,none⟩ = some (.string key)) (hp : p < w.heap.size) :
  Calls Try.prog 79 #[.slice A0 l0.length c0,.func (.func 80) #[] #[.pointer (some ⟨p,0,none⟩)]] w fun e w' => e = .returned (.int .i64 (impl_termIndex_at key l0 0 l0.length)) ∧ Below w.heap.size w w' := by
 have hu61 := Try.underlying61;have HR0 := aM hr0;have HC0 := aM hc0;clear hr0 hc0;have HK := aM hk;clear hk;have HS := aM hp;clear hp;have HL := aM hl;clear hl;generalize hR : impl_termIndex_at key l0 0 l0.length = R;have HH := aM hR;clear hR;go_enter Try.func79,Try.ntmps79;go_wp2;go_loopg [8] l0.length (fun gg v8 wr => ∃ x8_1 : Int,v8 = .int .i64 x8_1 ∧ Aside0 (0 ≤ x8_1 ∧ x8_1 + gg = l0.length) ∧ Aside0 (impl_termIndex_at key l0 x8_1 gg = R) ∧ Aside0 (Below w.heap.size w wr))
 case atStart => exact ⟨0,rfl,⟨by omega,by omega⟩,HH,⟨Below.refl _ w⟩⟩
 case round =>
  clear HH;obtain ⟨x8_1,rfl,HG,HA,HB⟩ := hrel
  cases gk with
  | zero =>
   have c3b0 : decide (x8_1 < (l0.length : Int)) = false := dF (by have := HG.out;omega);have hR : -1 = R := (by rw [impl_termIndex_at] : impl_termIndex_at key l0 x8_1 0 = -1).symm.trans HA.out;clear HA;subst hR;go_wp2;go_ret;exact ⟨by first|rfl|(simp;done)|(simp [*];done),HB.out⟩
  | succ k1 =>
   have c3b0 : decide (x8_1 < (l0.length : Int)) = true := dT (by have := HG.out;omega);have c4b0 : decide (0 ≤ x8_1) = true := dT (by have := HG.out;omega);have p179 : 0 ≤ (x8_1 : Int) := oD (by assumption);have q179 : x8_1 < (l0.length : Int) := oD (by assumption);obtain ⟨ad179,e179,hx179_0,hx179_1,hx179_2⟩ := at_T61 HR0.out x8_1 p179 q179;cases e179;replace hx179_0 := (HB.out.cell (wB w _ hx179_0)).trans hx179_0;replace hx179_1 := (HB.out.cell (wB w _ hx179_1)).trans hx179_1;replace hx179_2 := (HB.out.cell (wB w _ hx179_2)).trans hx179_2;replace p179 := eq_true p179;replace q179 := eq_true q179;have HA2 := HA.out;rw [impl_termIndex_at] at HA2;clear HA;generalize hcc : ((rd_T61 l0 x8_1).f0.toList == key.toList) = cc at HA2
   have HCL : Aside0 (∀ W : World,Below w.heap.size w W → Calls Try.prog 80 #[.agg #[.string ((rd_T61 l0 x8_1).f0),.string ((rd_T61 l0 x8_1).f1),.string ((rd_T61 l0 x8_1).f2)],.pointer (some ⟨p,0,none⟩)] W fun e w' => e = .returned (.bool cc) ∧ Below W.heap.size W w') := ⟨fun W hW => by
    rw [← hcc];exact impl_termIndex_closure _ _ _ key p W ((hW.cell (p := ⟨p,0,none⟩) HS.out).trans HK.out) (Nat.lt_of_lt_of_le HS.out (lZ hW))⟩
   clear hcc
   cases cc with
   | true =>
    rw [if_pos rfl] at HA2;subst HA2;go_wp2_with (first|(go_at_call 80;(refine (HCL.out _ HB.out).mono ?_);rintro e w8 ⟨rfl,hb⟩;replace HB := aM (lT HB.out hb);(try clear hb)));go_ret;exact ⟨by first|rfl|(simp;done)|(simp [*];done),HB.out⟩
   | false =>
    rw [if_neg Bool.false_ne_true] at HA2;have HA3 := aM HA2;clear HA2;go_wp2_with (first|(go_at_call 80;(refine (HCL.out _ HB.out).mono ?_);rintro e w8 ⟨rfl,hb⟩;replace HB := aM (lT HB.out hb);(try clear hb)));go_roundg k1
    case measure => omega
    case rel =>
     have hw : wrap64 (x8_1 + 1) = x8_1 + 1 := by
      have := HG.out;have := HL.out;unfold wrap64;omega
     exact ⟨wrap64 (x8_1 + 1),(by first|rfl|(simp;done)|(simp [*];done)),(by rw [hw];have := HG.out;exact ⟨⟨by omega,by omega⟩⟩),(by rw [hw];exact HA3),HB⟩
def impl_termIndex.f (a0_0 : ByteArray) (l0_1 : List S61) (l0_2 : List S72) (a0_3 a0_4 a1 : ByteArray) : Option Int := if l0_1.length ≤ 4611686018427387904 then some (impl_termIndex_at a1 l0_1 0 l0_1.length) else none
set_option maxHeartbeats 8000000 in
set_option maxRecDepth 100000 in
theorem impl_termIndex.calls (a0_0 : ByteArray) (A0_1 : Option Addr) (c0_1 : Nat) (l0_1 : List (S61)) (A0_2 : Option Addr) (c0_2 : Nat) (l0_2 : List (S72)) (a0_3 : ByteArray) (a0_4 : ByteArray) (a1 : ByteArray) (r : Int) (w : World) (hr0_1 : Kd.C k61 w A0_1 l0_1.length l0_1) (hc0_1 : l0_1.length ≤ c0_1) (hr0_2 : Kd.C k72 w A0_2 l0_2.length l0_2) (hc0_2 : l0_2.length ≤ c0_2) (h : impl_termIndex.f a0_0 l0_1 l0_2 a0_3 a0_4 a1 = some r) :
  Calls Try.prog 51 #[.agg #[.string a0_0,.slice A0_1 l0_1.length c0_1,.slice A0_2 l0_2.length c0_2,.string a0_3,.string a0_4],.string a1] w fun e w' => e = .returned (.int .i64 r) ∧ Below w.heap.size w w' := by
 unfold impl_termIndex.f at h
 by_cases hl : l0_1.length ≤ 4611686018427387904
 ·rw [if_pos hl] at h;obtain rfl := Option.some.inj h;have hu31 := Try.underlying31;have HR0_1 := aM hr0_1;have HC0_1 := aM hc0_1;clear hr0_1 hc0_1 hr0_2 hc0_2 h;have HL := aM hl;clear hl;have hmf : ∀ (fn : Fn) (first cap : Array Value) (w : World),(Instr.makeFunc fn first cap).run Try.prog w = .ok (.func fn first cap) w := fun _ _ _ _ => rfl;go_enter Try.func51,Try.ntmps51;go_wp2_with (first|(go_at_call 79;(refine (impl_termIndex_index A0_1 c0_1 l0_1 a1 (w.heap.size + 1) _ ?side1 HC0_1.out HL.out ?side2 ?side3).mono ?_);(case side1 => repeat (first|exact HR0_1.out|(with_reducible refine cA ?_ _)));(case side2 => go_simp);(case side3 => simp);rintro e w8 ⟨rfl,hb⟩));go_ret;exact ⟨rfl,lT (lA (lA (Below.refl _ _) _) _) hb⟩
 ·rw [if_neg hl] at h;cases h
def impl_isNumber.f (a0 : Int) : Option (Bool) := (impl_inside.f a0 0 999999).bind fun t249 => (some t249)
set_option maxHeartbeats 8000000 in
set_option maxRecDepth 100000 in
theorem impl_isNumber.calls (a0 : Int) (r : Bool) (w : World) (h : impl_isNumber.f a0 = some r) :
  Calls Try.prog 52 #[.int .i64 a0] w fun e w' => e = .returned (.bool r) ∧ Drawn0 w w' := by
 have H : ((impl_inside.f a0 0 999999).bind fun t249 => (some t249)) = some r := h;clear h;obtain ⟨t249,A2,H⟩ := bE_ H;obtain rfl := Option.some.inj H;simp only [eS,eP] at H;obtain ⟨rfl⟩ := H;go_enter Try.func52,Try.ntmps52;go_wp2_with (first|((with_reducible refine gate_callee (f := 74) rfl ?_);refine goesL_ (some 4) rfl rfl Try.func74 (by kernel_rfl) rfl #[.int .i64 a0,.int .i64 0,.int .i64 999999] rfl (by (try simp only [mT,mC,mN]);first|done|rfl|(simp only [xD,xT];rfl)) ?_;(with_reducible refine (impl_inside.calls a0 0 999999 t249 _ A2.out).mono ?_);rintro e w' ⟨rfl,⟨nd,rfl⟩⟩;refine ⟨_,rfl,?_⟩));go_ret;exact ⟨by first|rfl|(simp [*];done),by repeat (first|exact Drawn0.refl _|apply Drawn0.step)⟩
def impl_termFor.f (a0_0 : ByteArray) (l0_1 : List (S61)) (l0_2 : List (S72)) (a0_3 : ByteArray) (a0_4 : ByteArray) (a1 : Int) (a2 : Int) : Option (ByteArray) := if a2 = 1 then (if 0 ≤ a1 then (if a1 < (l0_1.length : Int) then (some ((rd_T61 l0_1 a1).f1)) else (none)) else (none)) else (if 0 ≤ a1 then (if a1 < (l0_1.length : Int) then (some ((rd_T61 l0_1 a1).f2)) else (none)) else (none))
set_option maxHeartbeats 8000000 in
set_option maxRecDepth 100000 in
theorem impl_termFor.calls (a0_0 : ByteArray) (A0_1 : Option Addr) (c0_1 : Nat) (l0_1 : List (S61)) (A0_2 : Option Addr) (c0_2 : Nat) (l0_2 : List (S72)) (a0_3 : ByteArray) (a0_4 : ByteArray) (a1 : Int) (a2 : Int) (r : ByteArray) (w : World) (hr0_1 : Kd.C k61 w A0_1 l0_1.length l0_1) (hc0_1 : l0_1.length ≤ c0_1) (hr0_2 : Kd.C k72 w A0_2 l0_2.length l0_2) (hc0_2 : l0_2.length ≤ c0_2) (h : impl_termFor.f a0_0 l0_1 l0_2 a0_3 a0_4 a1 a2 = some r) :
  Calls Try.prog 53 #[.agg #[.string a0_0,.slice A0_1 l0_1.length c0_1,.slice A0_2 l0_2.length c0_2,.string a0_3,.string a0_4],.int .i64 a1,.int .i64 a2] w fun e w' => e = .returned (.string r) ∧ Below w.heap.size w w' := by
 have hu31 := Try.underlying31;have HR0_1 := aM hr0_1;have HC0_1 := aM hc0_1;clear hr0_1 hc0_1;have HR0_2 := aM hr0_2;have HC0_2 := aM hc0_2;clear hr0_2 hc0_2;have HB := aM (Below.refl w.heap.size w);have H : (if a2 = 1 then (if 0 ≤ a1 then (if a1 < (l0_1.length : Int) then (some ((rd_T61 l0_1 a1).f1)) else (none)) else (none)) else (if 0 ≤ a1 then (if a1 < (l0_1.length : Int) then (some ((rd_T61 l0_1 a1).f2)) else (none)) else (none))) = some r := h;clear h
 by_cases c4 : a2 = 1
 focus
  rw [if_pos c4] at H;have c4b0 : (a2 == 1) = true := beq_iff_eq.mpr c4;have c4b1 : (a2 != 1) = false := bne_eq_false_iff_eq.mpr c4;clear c4
  by_cases c5 : 0 ≤ a1
  rotate_left;rw [if_neg c5] at H;exact absurd H (by simp);rw [if_pos c5] at H;have c5b0 : decide (0 ≤ a1) = true := dT c5;clear c5
  by_cases c6 : a1 < (l0_1.length : Int)
  rotate_left;rw [if_neg c6] at H;exact absurd H (by simp);rw [if_pos c6] at H;have c6b0 : decide (a1 < (l0_1.length : Int)) = true := dT c6;clear c6;obtain rfl := Option.some.inj H;simp only [eS,eP] at H;obtain ⟨rfl⟩ := H
 rotate_left
 focus
  rw [if_neg c4] at H;have c4b0 : (a2 == 1) = false := beq_eq_false_iff_ne.mpr c4;have c4b1 : (a2 != 1) = true := bne_iff_ne.mpr c4
  by_cases c9 : 0 ≤ a1
  rotate_left;rw [if_neg c9] at H;exact absurd H (by simp);rw [if_pos c9] at H;have c9b0 : decide (0 ≤ a1) = true := dT c9;clear c9
  by_cases c10 : a1 < (l0_1.length : Int)
  rotate_left;rw [if_neg c10] at H;exact absurd H (by simp);rw [if_pos c10] at H;have c10b0 : decide (a1 < (l0_1.length : Int)) = true := dT c10;clear c10;obtain rfl := Option.some.inj H;simp only [eS,eP] at H;obtain ⟨rfl⟩ := H
 all_goals
  go_enter Try.func53,Try.ntmps53;go_wp2_with (first|((with_reducible refine gate_dst (N := 3) rfl ?_);refine box_event ?hg (N := 3) ?hd (cs := #[.string a0_0,.slice A0_1 l0_1.length c0_1,.slice A0_2 l0_2.length c0_2,.string a0_3,.string a0_4]) (t := 31) ?hr ?_;(case hd => rfl);(case hg => rfl);(case hr => first|(go_simp;done)|(go_simp;rfl));intro gb250 hg Wgb250 hbox hb;have BK250 := aM (hbox);have GW250 := aM ((by rw [hg];exact (lZ (by repeat (first|(with_reducible first|exact HB.out|apply lA|apply lN|apply lD)|exact HB.out))) : w.heap.size ≤ gb250));have GE250 := GW250;replace HB := aM (lT (by repeat (first|(with_reducible first|exact HB.out|apply lA|apply lN|apply lD)|exact HB.out)) hb);clear hb hbox hg;obtain ⟨hcz250x250_0,hcz250x250_1,hcz250x250_2,hcz250x250_3,hcz250x250_4,hfz250x250_0,hfz250x250_1,hfz250x250_2,hfz250x250_3,hfz250x250_4⟩ := z5_ BK250.out;have p01 : 0 ≤ (a1 : Int) := oD (by assumption);have q01 : a1 < (l0_1.length : Int) := oD (by assumption);obtain ⟨ad01,e01,hx01_0,hx01_1,hx01_2⟩ := at_T61 HR0_1.out a1 p01 q01;cases e01;replace hx01_0 := (HB.out.cell (wB w _ hx01_0)).trans hx01_0;replace hx01_1 := (HB.out.cell (wB w _ hx01_1)).trans hx01_1;replace hx01_2 := (HB.out.cell (wB w _ hx01_2)).trans hx01_2;replace p01 := eq_true p01;replace q01 := eq_true q01));go_ret;exact ⟨by first|rfl|(simp [*];done),by repeat (first|(with_reducible first|exact HB.out|apply lA|apply lN|apply lD|refine lS ?_ GE250.out)|exact HB.out)⟩
def impl_TermFor.f (k : Nat) (a0_0 : ByteArray) (l0_1 : List (S61)) (l0_2 : List (S72)) (a0_3 : ByteArray) (a0_4 : ByteArray) (a1 : ByteArray) (a2 : Int) : Option (ByteArray × Bool) := (impl_termIndex.f a0_0 l0_1 l0_2 a0_3 a0_4 a1).bind fun t254 => ((impl_IsValidLocale.f k a0_0 l0_1 l0_2 a0_3 a0_4).bind fun t255 => (if t255 = true then ((impl_isNumber.f a2).bind fun t256 => (if t256 = true then (if t254 < 0 then (some ((⟨#[]⟩ : ByteArray),false)) else ((impl_termFor.f a0_0 l0_1 l0_2 a0_3 a0_4 t254 a2).bind fun t257 => (some (t257,true)))) else (some ((⟨#[]⟩ : ByteArray),false)))) else (some ((⟨#[]⟩ : ByteArray),false))))
theorem impl_TermFor.mono : ∀ a0 a1 a2 a3 a4 a5 a6 k,LeO (impl_TermFor.f k a0 a1 a2 a3 a4 a5 a6) (impl_TermFor.f (k + 1) a0 a1 a2 a3 a4 a5 a6) := by
 intro a0 a1 a2 a3 a4 a5 a6 k
 unfold impl_TermFor.f
 repeat' first
   | (with_reducible exact impl_IsValidLocale.mono _ _ _ _ _ _)
   | (with_reducible exact LeO.refl _)
   | (with_reducible exact LeO.none _)
   | (with_reducible refine LeO.ite ?_ ?_)
   | (with_reducible refine LeO.bind ?_ (fun _ => ?_))
   | exact impl_IsValidLocale.mono _ _ _ _ _ _
   | exact LeO.none _
   | refine LeO.ite ?_ ?_
   | refine LeO.bind ?_ (fun _ => ?_)
set_option maxHeartbeats 8000000 in
set_option maxRecDepth 100000 in
theorem impl_TermFor.calls (k : Nat) (a0_0 : ByteArray) (A0_1 : Option Addr) (c0_1 : Nat) (l0_1 : List (S61)) (A0_2 : Option Addr) (c0_2 : Nat) (l0_2 : List (S72)) (a0_3 : ByteArray) (a0_4 : ByteArray) (a1 : ByteArray) (a2 : Int) (r1 : ByteArray) (r2 : Bool) (w : World) (hr0_1 : Kd.C k61 w A0_1 l0_1.length l0_1) (hc0_1 : l0_1.length ≤ c0_1) (hr0_2 : Kd.C k72 w A0_2 l0_2.length l0_2) (hc0_2 : l0_2.length ≤ c0_2) (h : impl_TermFor.f k a0_0 l0_1 l0_2 a0_3 a0_4 a1 a2 = some (r1,r2)) :
  Calls Try.prog 15 #[.agg #[.string a0_0,.slice A0_1 l0_1.length c0_1,.slice A0_2 l0_2.length c0_2,.string a0_3,.string a0_4],.string a1,.int .i64 a2] w fun e w' => e = .returned (.tuple #[.string r1,.bool r2]) ∧ Below w.heap.size w w' := by
 have hu31 := Try.underlying31;have HR0_1 := aM hr0_1;have HC0_1 := aM hc0_1;clear hr0_1 hc0_1;have HR0_2 := aM hr0_2;have HC0_2 := aM hc0_2;clear hr0_2 hc0_2;have HB := aM (Below.refl w.heap.size w);have H : ((impl_termIndex.f a0_0 l0_1 l0_2 a0_3 a0_4 a1).bind fun t254 => ((impl_IsValidLocale.f k a0_0 l0_1 l0_2 a0_3 a0_4).bind fun t255 => (if t255 = true then ((impl_isNumber.f a2).bind fun t256 => (if t256 = true then (if t254 < 0 then (some ((⟨#[]⟩ : ByteArray),false)) else ((impl_termFor.f a0_0 l0_1 l0_2 a0_3 a0_4 t254 a2).bind fun t257 => (some (t257,true)))) else (some ((⟨#[]⟩ : ByteArray),false)))) else (some ((⟨#[]⟩ : ByteArray),false))))) = some (r1,r2) := h;clear h;obtain ⟨t254,A4,H⟩ := bE_ H;obtain ⟨t255,A5,H⟩ := bE_ H
 by_cases c6 : t255 = true
 focus
  subst c6;rw [if_pos rfl] at H;obtain ⟨t256,A7,H⟩ := bE_ H
  by_cases c8 : t256 = true
  focus
   subst c8;rw [if_pos rfl] at H
   by_cases c9 : t254 < 0
   focus
    rw [if_pos c9] at H;have c9b0 : decide (t254 < 0) = true := dT c9;clear c9;simp only [eS,eP] at H;obtain ⟨rfl,rfl⟩ := H
   rotate_left
   focus
    rw [if_neg c9] at H;have c9b0 : decide (t254 < 0) = false := dF c9;clear c9;obtain ⟨t257,A15,H⟩ := bE_ H;simp only [eS,eP] at H;obtain ⟨rfl,rfl⟩ := H
  rotate_left 2
  focus
   replace c8 := Bool.eq_false_iff.mpr c8;subst c8;rw [if_neg Bool.false_ne_true] at H;simp only [eS,eP] at H;obtain ⟨rfl,rfl⟩ := H
 rotate_left 3
 focus
  replace c6 := Bool.eq_false_iff.mpr c6;subst c6;rw [if_neg Bool.false_ne_true] at H;simp only [eS,eP] at H;obtain ⟨rfl,rfl⟩ := H
 all_goals
  go_enter Try.func15,Try.ntmps15;go_wp2_with (first|((with_reducible refine gate_dst (N := 3) rfl ?_);refine box_event ?hg (N := 3) ?hd (cs := #[.string a0_0,.slice A0_1 l0_1.length c0_1,.slice A0_2 l0_2.length c0_2,.string a0_3,.string a0_4]) (t := 31) ?hr ?_;(case hd => rfl);(case hg => rfl);(case hr => first|(go_simp;done)|(go_simp;rfl));intro gb253 hg Wgb253 hbox hb;have BK253 := aM (hbox);have GW253 := aM ((by rw [hg];exact (lZ (by repeat (first|(with_reducible first|exact HB.out|apply lA|apply lN|apply lD)|exact HB.out))) : w.heap.size ≤ gb253));have GE253 := GW253;replace HB := aM (lT (by repeat (first|(with_reducible first|exact HB.out|apply lA|apply lN|apply lD)|exact HB.out)) hb);clear hb hbox hg;obtain ⟨hcz253x253_0,hcz253x253_1,hcz253x253_2,hcz253x253_3,hcz253x253_4,hfz253x253_0,hfz253x253_1,hfz253x253_2,hfz253x253_3,hfz253x253_4⟩ := z5_ BK253.out)|((with_reducible refine gate_callee (f := 51) rfl ?_);refine goesL_ (some 11) rfl rfl Try.func51 (by kernel_rfl) rfl #[.agg #[.string a0_0,.slice A0_1 l0_1.length c0_1,.slice A0_2 l0_2.length c0_2,.string a0_3,.string a0_4],.string a1] rfl (by (try simp only [mT,mC,mN]);first|done|rfl|(simp only [xD,xT];rfl)) ?_;(with_reducible refine (impl_termIndex.calls _ _ _ _ _ _ _ _ _ _ _ _ ?side1 ?side2 ?side3 ?side4 A4.out).mono ?_);(case side1 => repeat (first|exact (cB HR0_1.out HB.out)|(with_reducible first|refine cA ?_ _|refine cN ?_ _|refine cD ?_)));(case side2 => exact HC0_1.out);(case side3 => repeat (first|exact (cB HR0_2.out HB.out)|(with_reducible first|refine cA ?_ _|refine cN ?_ _|refine cD ?_)));(case side4 => exact HC0_2.out);rintro e WA4 ⟨rfl,hb⟩;refine ⟨_,rfl,?_⟩;replace BK253 := aM (bW (g := gb253) (o := .cells #[.string a0_0,.slice A0_1 l0_1.length c0_1,.slice A0_2 l0_2.length c0_2,.string a0_3,.string a0_4] 31 (0,0)) (by (with_reducible repeat (first|refine bN ?_ _|refine bD ?_|refine bA ?_ _));exact BK253.out) hb);replace HB := aM (lT (by repeat (first|(with_reducible first|exact HB.out|apply lA|apply lN|apply lD|refine lS ?_ GE253.out)|exact HB.out)) hb);(try clear hb);obtain ⟨hcz4x253_0,hcz4x253_1,hcz4x253_2,hcz4x253_3,hcz4x253_4,hfz4x253_0,hfz4x253_1,hfz4x253_2,hfz4x253_3,hfz4x253_4⟩ := z5_ BK253.out)|((with_reducible refine gate_callee (f := 12) rfl ?_);refine goesL_ (some 13) rfl rfl Try.func12 (by kernel_rfl) rfl #[.agg #[.string a0_0,.slice A0_1 l0_1.length c0_1,.slice A0_2 l0_2.length c0_2,.string a0_3,.string a0_4]] rfl (by (try simp only [mT,mC,mN]);first|done|rfl|(simp only [xD,xT];rfl)) ?_;(with_reducible refine (impl_IsValidLocale.calls _ _ _ _ _ _ _ _ _ _ _ _ ?side1 ?side2 ?side3 ?side4 A5.out).mono ?_);(case side1 => repeat (first|exact (cB HR0_1.out HB.out)|(with_reducible first|refine cA ?_ _|refine cN ?_ _|refine cD ?_)));(case side2 => exact HC0_1.out);(case side3 => repeat (first|exact (cB HR0_2.out HB.out)|(with_reducible first|refine cA ?_ _|refine cN ?_ _|refine cD ?_)));(case side4 => exact HC0_2.out);rintro e WA5 ⟨rfl,hb⟩;refine ⟨_,rfl,?_⟩;replace BK253 := aM (bW (g := gb253) (o := .cells #[.string a0_0,.slice A0_1 l0_1.length c0_1,.slice A0_2 l0_2.length c0_2,.string a0_3,.string a0_4] 31 (0,0)) (by (with_reducible repeat (first|refine bN ?_ _|refine bD ?_|refine bA ?_ _));exact BK253.out) hb);replace HB := aM (lT (by repeat (first|(with_reducible first|exact HB.out|apply lA|apply lN|apply lD|refine lS ?_ GE253.out)|exact HB.out)) hb);(try clear hb))|(go_at_call 52;(with_reducible refine (impl_isNumber.calls _ _ _ A7.out).mono ?_);rintro e w' ⟨rfl,⟨nd,rfl⟩⟩;obtain ⟨hcz7x253_0,hcz7x253_1,hcz7x253_2,hcz7x253_3,hcz7x253_4,hfz7x253_0,hfz7x253_1,hfz7x253_2,hfz7x253_3,hfz7x253_4⟩ := z5_ BK253.out)|((with_reducible refine gate_callee (f := 53) rfl ?_);refine goesL_ (some 27) rfl rfl Try.func53 (by kernel_rfl) rfl #[.agg #[.string a0_0,.slice A0_1 l0_1.length c0_1,.slice A0_2 l0_2.length c0_2,.string a0_3,.string a0_4],.int .i64 t254,.int .i64 a2] rfl (by (try simp only [mT,mC,mN]);first|done|rfl|(simp only [xD,xT];rfl)) ?_;(with_reducible refine (impl_termFor.calls _ _ _ _ _ _ _ _ _ _ _ _ _ ?side1 ?side2 ?side3 ?side4 A15.out).mono ?_);(case side1 => repeat (first|exact (cB HR0_1.out (by repeat (first|(with_reducible first|exact HB.out|apply lA|apply lN|apply lD|refine lS ?_ GE253.out)|exact HB.out)))|(with_reducible first|refine cA ?_ _|refine cN ?_ _|refine cD ?_)));(case side2 => exact HC0_1.out);(case side3 => repeat (first|exact (cB HR0_2.out (by repeat (first|(with_reducible first|exact HB.out|apply lA|apply lN|apply lD|refine lS ?_ GE253.out)|exact HB.out)))|(with_reducible first|refine cA ?_ _|refine cN ?_ _|refine cD ?_)));(case side4 => exact HC0_2.out);rintro e WA15 ⟨rfl,hb⟩;refine ⟨_,rfl,?_⟩;replace BK253 := aM (bW (g := gb253) (o := .cells #[.string a0_0,.slice A0_1 l0_1.length c0_1,.slice A0_2 l0_2.length c0_2,.string a0_3,.string a0_4] 31 (0,0)) (by (with_reducible repeat (first|refine bN ?_ _|refine bD ?_|refine bA ?_ _));exact BK253.out) hb);replace HB := aM (lT (by repeat (first|(with_reducible first|exact HB.out|apply lA|apply lN|apply lD|refine lS ?_ GE253.out)|exact HB.out)) hb);(try clear hb)));go_ret2;exact ⟨by first|rfl|(simp [*];done),by repeat (first|(with_reducible first|exact HB.out|apply lA|apply lN|apply lD|refine lS ?_ GE253.out)|exact HB.out)⟩
end Go.Proofs.Ytmkkcpdpfelalaa.P
