/- Written by a program in this session: each theorem here says that a Go function computes the Lean function beside it, or that a law's row holds, under the conditions that the theorem itself states. -/
import Derived.Test.YtmkkcpdpfelalaaZPx0
import Derived.Test.YtmkkcpdpfelalaaZPx1
import Derived.Test.YtmkkcpdpfelalaaZPx2
import Derived.Test.YtmkkcpdpfelalaaZPx3
import Derived.Test.YtmkkcpdpfelalaaZShelf
namespace Go.Proofs.Ytmkkcpdpfelalaa.P
open Go.RowKit Go.Proofs.YtmkkcpdpfelalaaW.PrintWords Go.Proofs.YtmkkcpdpfelalaaW.PrintLast Go.Proofs.YtmkkcpdpfelalaaW.PrintMore
attribute [local go_sem] max2_int min2_int max_two min_two max_three min_three max_four min_four   -- for this text's walks alone
set_option linter.unusedVariables false
set_option linter.unusedSimpArgs false
mutual
def spec_ListText.j0 : Nat → List ByteArray → Bool → ByteArray → List (S61) → List (S72) → ByteArray → ByteArray → Option (ByteArray × Bool)
 | 0,_,_,_,_,_,_,_ => none
 | k + 1,x1,x15,x505000,x505001,x505002,x505003,x505004 => if x15 = true then (some ((⟨#[]⟩ : ByteArray),false)) else (spec_ListText.l0 k x1 (⟨#[]⟩ : ByteArray) 0 x505000 x505001 x505002 x505003 x505004)
def spec_ListText.l0 : Nat → List ByteArray → ByteArray → Int → ByteArray → List (S61) → List (S72) → ByteArray → ByteArray → Option (ByteArray × Bool)
 | 0,_,_,_,_,_,_,_,_ => none
 | k + 1,x1,x6,x7,x505000,x505001,x505002,x505003,x505004 => if x7 < (x1.length : Int) then (if 0 ≤ x7 then ((spec_l23Bytes.f k (rdOf ByteArray.empty x1 x7) 0 20 32).bind fun t507 => (if t507 = true then (if x7 = 0 then (if x6.size + (rdOf ByteArray.empty x1 x7).size ≤ 9223372036854775807 then (spec_ListText.l0 k x1 (x6 ++ (rdOf ByteArray.empty x1 x7)) (wrap64 (x7 + 1)) x505000 x505001 x505002 x505003 x505004) else (none)) else (if (x1.length : Int) = 2 then (if x6.size + x505004.size ≤ 9223372036854775807 then (if (x6 ++ x505004).size + (rdOf ByteArray.empty x1 x7).size ≤ 9223372036854775807 then (spec_ListText.l0 k x1 ((x6 ++ x505004) ++ (rdOf ByteArray.empty x1 x7)) (wrap64 (x7 + 1)) x505000 x505001 x505002 x505003 x505004) else (none)) else (none)) else (if x7 = (wrap64 ((x1.length : Int) - 1)) then (if x6.size + x505003.size ≤ 9223372036854775807 then (if (x6 ++ x505003).size + (rdOf ByteArray.empty x1 x7).size ≤ 9223372036854775807 then (spec_ListText.l0 k x1 ((x6 ++ x505003) ++ (rdOf ByteArray.empty x1 x7)) (wrap64 (x7 + 1)) x505000 x505001 x505002 x505003 x505004) else (none)) else (none)) else (if x6.size + 2 ≤ 9223372036854775807 then (if (x6 ++ (⟨#[44,32]⟩ : ByteArray)).size + (rdOf ByteArray.empty x1 x7).size ≤ 9223372036854775807 then (spec_ListText.l0 k x1 ((x6 ++ (⟨#[44,32]⟩ : ByteArray)) ++ (rdOf ByteArray.empty x1 x7)) (wrap64 (x7 + 1)) x505000 x505001 x505002 x505003 x505004) else (none)) else (none))))) else (some ((⟨#[]⟩ : ByteArray),false)))) else (none)) else (some (x6,true))
end
def spec_ListText.f (k : Nat) (a0_0 : ByteArray) (l0_1 : List (S61)) (l0_2 : List (S72)) (a0_3 : ByteArray) (a0_4 : ByteArray) (l1 : List ByteArray) : Option (ByteArray × Bool) := (spec_l23Good.f k a0_0 l0_1 l0_2 a0_3 a0_4).bind fun t505 => (if t505 = true then (spec_ListText.j0 k l1 (decide ((l1.length : Int) > 10)) a0_0 l0_1 l0_2 a0_3 a0_4) else (spec_ListText.j0 k l1 true a0_0 l0_1 l0_2 a0_3 a0_4))
theorem spec_ListText.mono_l : ∀ k,(∀ y0 y1 y2 y3 y4 y5 y6,LeO (spec_ListText.j0 k y0 y1 y2 y3 y4 y5 y6) (spec_ListText.j0 (k + 1) y0 y1 y2 y3 y4 y5 y6)) ∧ (∀ y0 y1 y2 y3 y4 y5 y6 y7,LeO (spec_ListText.l0 k y0 y1 y2 y3 y4 y5 y6 y7) (spec_ListText.l0 (k + 1) y0 y1 y2 y3 y4 y5 y6 y7))
 | 0 => ⟨fun _ _ _ _ _ _ _ r h => by simp [spec_ListText.j0] at h,fun _ _ _ _ _ _ _ _ r h => by simp [spec_ListText.l0] at h⟩
 | k + 1 => by
  obtain ⟨ih0,ih1⟩ := spec_ListText.mono_l k
  refine ⟨?_,?_⟩
  ·intro y0 y1 y2 y3 y4 y5 y6
   unfold spec_ListText.j0
   repeat' first
   | (with_reducible exact ih0 _ _ _ _ _ _ _)
   | (with_reducible exact ih1 _ _ _ _ _ _ _ _)
   | (with_reducible exact spec_l23Bytes.mono _ _ _ _ _)
   | (with_reducible exact spec_l23Good.mono _ _ _ _ _ _)
   | (with_reducible exact LeO.refl _)
   | (with_reducible exact LeO.none _)
   | (with_reducible refine LeO.ite ?_ ?_)
   | (with_reducible refine LeO.bind ?_ (fun _ => ?_))
   | exact ih0 _ _ _ _ _ _ _
   | exact ih1 _ _ _ _ _ _ _ _
   | exact spec_l23Bytes.mono _ _ _ _ _
   | exact spec_l23Good.mono _ _ _ _ _ _
   | exact LeO.none _
   | refine LeO.ite ?_ ?_
   | refine LeO.bind ?_ (fun _ => ?_)
  ·intro y0 y1 y2 y3 y4 y5 y6 y7
   unfold spec_ListText.l0
   repeat' first
   | (with_reducible exact ih0 _ _ _ _ _ _ _)
   | (with_reducible exact ih1 _ _ _ _ _ _ _ _)
   | (with_reducible exact spec_l23Bytes.mono _ _ _ _ _)
   | (with_reducible exact spec_l23Good.mono _ _ _ _ _ _)
   | (with_reducible exact LeO.refl _)
   | (with_reducible exact LeO.none _)
   | (with_reducible refine LeO.ite ?_ ?_)
   | (with_reducible refine LeO.bind ?_ (fun _ => ?_))
   | exact ih0 _ _ _ _ _ _ _
   | exact ih1 _ _ _ _ _ _ _ _
   | exact spec_l23Bytes.mono _ _ _ _ _
   | exact spec_l23Good.mono _ _ _ _ _ _
   | exact LeO.none _
   | refine LeO.ite ?_ ?_
   | refine LeO.bind ?_ (fun _ => ?_)
theorem spec_ListText.mono : ∀ a0 a1 a2 a3 a4 a5 k,LeO (spec_ListText.f k a0 a1 a2 a3 a4 a5) (spec_ListText.f (k + 1) a0 a1 a2 a3 a4 a5) := by
 intro a0 a1 a2 a3 a4 a5 k
 obtain ⟨ih0,ih1⟩ := spec_ListText.mono_l k
 unfold spec_ListText.f
 repeat' first
   | (with_reducible exact ih0 _ _ _ _ _ _ _)
   | (with_reducible exact ih1 _ _ _ _ _ _ _ _)
   | (with_reducible exact spec_l23Bytes.mono _ _ _ _ _)
   | (with_reducible exact spec_l23Good.mono _ _ _ _ _ _)
   | (with_reducible exact LeO.refl _)
   | (with_reducible exact LeO.none _)
   | (with_reducible refine LeO.ite ?_ ?_)
   | (with_reducible refine LeO.bind ?_ (fun _ => ?_))
   | exact ih0 _ _ _ _ _ _ _
   | exact ih1 _ _ _ _ _ _ _ _
   | exact spec_l23Bytes.mono _ _ _ _ _
   | exact spec_l23Good.mono _ _ _ _ _ _
   | exact LeO.none _
   | refine LeO.ite ?_ ?_
   | refine LeO.bind ?_ (fun _ => ?_)
set_option maxHeartbeats 8000000 in
set_option maxRecDepth 100000 in
theorem spec_ListText.calls (k : Nat) (a0_0 : ByteArray) (A0_1 : Option Addr) (c0_1 : Nat) (l0_1 : List (S61)) (A0_2 : Option Addr) (c0_2 : Nat) (l0_2 : List (S72)) (a0_3 : ByteArray) (a0_4 : ByteArray) (A1 : Option Addr) (c1 : Nat) (l1 : List ByteArray) (r1 : ByteArray) (r2 : Bool) (w : World) (hr0_1 : Kd.C k61 w A0_1 l0_1.length l0_1) (hc0_1 : l0_1.length ≤ c0_1) (hr0_2 : Kd.C k72 w A0_2 l0_2.length l0_2) (hc0_2 : l0_2.length ≤ c0_2) (hr1 : Kd.C Kd.string w A1 l1.length l1) (hc1 : l1.length ≤ c1) (h : spec_ListText.f k a0_0 l0_1 l0_2 a0_3 a0_4 l1 = some (r1,r2)) :
  Calls Try.prog 28 #[.agg #[.string a0_0,.slice A0_1 l0_1.length c0_1,.slice A0_2 l0_2.length c0_2,.string a0_3,.string a0_4],.slice A1 l1.length c1] w fun e w' => e = .returned (.tuple #[.string r1,.bool r2]) ∧ Below w.heap.size w w' := by
 have hu31 := Try.underlying31;have HR0_1 := aM hr0_1;have HC0_1 := aM hc0_1;clear hr0_1 hc0_1;have HR0_2 := aM hr0_2;have HC0_2 := aM hc0_2;clear hr0_2 hc0_2;have HR1 := aM hr1;have HC1 := aM hc1;clear hr1 hc1;have HB := aM (Below.refl w.heap.size w);have H : ((spec_l23Good.f k a0_0 l0_1 l0_2 a0_3 a0_4).bind fun t505 => (if t505 = true then (spec_ListText.j0 k l1 (decide ((l1.length : Int) > 10)) a0_0 l0_1 l0_2 a0_3 a0_4) else (spec_ListText.j0 k l1 true a0_0 l0_1 l0_2 a0_3 a0_4))) = some (r1,r2) := h;clear h;have HC3 := aM H;clear H;go_enter Try.func28,Try.ntmps28;go_upto_region 1 with (first|((with_reducible refine gate_dst (N := 2) rfl ?_);(try (refine gate_guard (by rfl) ?_;dsimp only));refine box_event ?hg (N := 2) ?hd (cs := #[.string a0_0,.slice A0_1 l0_1.length c0_1,.slice A0_2 l0_2.length c0_2,.string a0_3,.string a0_4]) (t := 31) ?hr ?_;(case hd => rfl);(case hg => rfl);(case hr => first|(go_simp;done)|(go_simp;rfl));intro gb504 hg w4 hbox hb;have BK504 := aM (hbox);have GW504 := aM ((by rw [hg];exact (lZ (by repeat (first|(with_reducible first|exact HB.out|apply lA|apply lN|apply lD)|exact HB.out))) : w.heap.size ≤ gb504));have GE504 := GW504;replace HB := aM (lT (by repeat (first|(with_reducible first|exact HB.out|apply lA|apply lN|apply lD)|exact HB.out)) hb);clear hb hbox hg));(try simp only [Act.put,lI,sZ,sS]);go_cut [15] (fun v15 wc => ∃ (kq : Nat) (x15_2 : Bool),v15 = .bool x15_2 ∧ Aside0 (spec_ListText.j0 kq l1 x15_2 a0_0 l0_1 l0_2 a0_3 a0_4 = some (r1,r2)) ∧ Aside0 (kq ≤ k) ∧ Aside0 (wc.heap[gb504]? = some (.cells #[.string a0_0,(.slice A0_1 l0_1.length c0_1),(.slice A0_2 l0_2.length c0_2),.string a0_3,.string a0_4] 31 (0,0))) ∧ Aside0 (Below w.heap.size w wc))
 case first =>
  have H := HC3.out;clear HC3;obtain ⟨t505,A5,H⟩ := bE_ H
  by_cases c6 : t505 = true
  focus
   subst c6;rw [if_pos rfl] at H;have H' := aM H;clear H
  rotate_left
  focus
   replace c6 := Bool.eq_false_iff.mpr c6;subst c6;rw [if_neg Bool.false_ne_true] at H;have H' := aM H;clear H
  all_goals
   obtain ⟨hczx504_0,hczx504_1,hczx504_2,hczx504_3,hczx504_4,hfzx504_0,hfzx504_1,hfzx504_2,hfzx504_3,hfzx504_4⟩ := z5_ BK504.out;go_wp2_with (first|((with_reducible refine gate_callee (f := 38) rfl ?_);refine goesL_ (some 9) rfl rfl Try.func38 (by kernel_rfl) rfl #[.agg #[.string a0_0,.slice A0_1 l0_1.length c0_1,.slice A0_2 l0_2.length c0_2,.string a0_3,.string a0_4]] rfl (by (try simp only [mT,mC,mN]);first|done|rfl|(simp only [xD,xT];rfl)) ?_;(with_reducible refine (spec_l23Good.calls _ _ _ _ _ _ _ _ _ _ _ _ ?side1 ?side2 ?side3 ?side4 A5.out).mono ?_);(case side1 => repeat (first|exact (cB HR0_1.out HB.out)|(with_reducible first|refine cA ?_ _|refine cN ?_ _|refine cD ?_)));(case side2 => exact HC0_1.out);(case side3 => repeat (first|exact (cB HR0_2.out HB.out)|(with_reducible first|refine cA ?_ _|refine cN ?_ _|refine cD ?_)));(case side4 => exact HC0_2.out);rintro e WA5 ⟨rfl,hb⟩;refine ⟨_,rfl,?_⟩;replace BK504 := aM (bW (g := gb504) (o := .cells #[.string a0_0,.slice A0_1 l0_1.length c0_1,.slice A0_2 l0_2.length c0_2,.string a0_3,.string a0_4] 31 (0,0)) (by (with_reducible repeat (first|refine bN ?_ _|refine bD ?_|refine bA ?_ _));exact BK504.out) hb);replace HB := aM (lT (by repeat (first|(with_reducible first|exact HB.out|apply lA|apply lN|apply lD|refine lS ?_ GE504.out)|exact HB.out)) hb);(try clear hb)));go_meet
   case rel => first|(exact ⟨_,(decide ((l1.length : Int) > 10)),(by first|rfl|(simp [*];done)),H',⟨by first|omega|exact Nat.le_refl _⟩,⟨by (with_reducible repeat (first|refine bN ?_ _|refine bD ?_|refine bA ?_ _));exact BK504.out⟩,⟨by repeat (first|(with_reducible first|exact HB.out|apply lA|apply lN|apply lD|refine lS ?_ GE504.out)|exact HB.out)⟩⟩)|(exact ⟨_,(true),(by first|rfl|(simp [*];done)),H',⟨by first|omega|exact Nat.le_refl _⟩,⟨by (with_reducible repeat (first|refine bN ?_ _|refine bD ?_|refine bA ?_ _));exact BK504.out⟩,⟨by repeat (first|(with_reducible first|exact HB.out|apply lA|apply lN|apply lD|refine lS ?_ GE504.out)|exact HB.out)⟩⟩)
 case rest =>
  clear HC3;(try clear c1);(try clear c2);(try clear p2);(try clear c3);(try clear c6);(try clear hcz7_0);(try clear hcz7_1);(try clear hcz7_2);(try clear hcz7_3);(try clear hcz7_4);(try clear hcz9_0);(try clear hcz9_1);(try clear hcz9_2);(try clear hcz9_3);(try clear hcz9_4);(try clear hfz7_0);(try clear hfz7_1);(try clear hfz7_2);(try clear hfz7_3);(try clear hfz7_4);(try clear hfz9_0);(try clear hfz9_1);(try clear hfz9_2);(try clear hfz9_3);(try clear hfz9_4);obtain ⟨kq,x15_2,rfl,HA,HJ2,BK504,HB⟩ := hcut
  cases kq with
  | zero => exact absurd HA.out (by simp [spec_ListText.j0])
  | succ kj2 =>
   have H := HA.out;clear HA;simp only [spec_ListText.j0] at H
   by_cases c11 : x15_2 = true
   ·subst c11;rw [if_pos rfl] at H;simp only [eS,eP] at H;obtain ⟨rfl,rfl⟩ := H;go_wp2;go_ret2;exact ⟨by first|rfl|(simp [*];done),by repeat (first|(with_reducible first|exact HB.out|apply lA|apply lN|apply lD|refine lS ?_ GE504.out)|exact HB.out)⟩
   ·replace c11 := Bool.eq_false_iff.mpr c11;subst c11;rw [if_neg Bool.false_ne_true] at H;have H' := aM H;clear H;go_wp2;go_loopg [6,7] kj2 (fun kq v6 v7 w' => ∃ (x6_2 : ByteArray) (x7_2 : Int),v6 = .string x6_2 ∧ v7 = .int .i64 x7_2 ∧ Aside0 (spec_ListText.l0 kq l1 x6_2 x7_2 a0_0 l0_1 l0_2 a0_3 a0_4 = some (r1,r2)) ∧ Aside0 (kq ≤ kj2) ∧ Aside0 (w'.heap[gb504]? = some (.cells #[.string a0_0,(.slice A0_1 l0_1.length c0_1),(.slice A0_2 l0_2.length c0_2),.string a0_3,.string a0_4] 31 (0,0))) ∧ Aside0 (Below w.heap.size w w'))
    case atStart => exact ⟨((⟨#[]⟩ : ByteArray)),(0),(by first|rfl|(simp [*];done)),(by first|rfl|(simp [*];done)),H',⟨Nat.le_refl _⟩,⟨by (with_reducible repeat (first|refine bN ?_ _|refine bD ?_|refine bA ?_ _));exact BK504.out⟩,⟨by repeat (first|(with_reducible first|exact HB.out|apply lA|apply lN|apply lD|refine lS ?_ GE504.out)|exact HB.out)⟩⟩
    case round =>
     clear H';(try clear c1);(try clear c2);(try clear p2);(try clear c3);(try clear c6);(try clear c11);(try clear hcz7_0);(try clear hcz7_1);(try clear hcz7_2);(try clear hcz7_3);(try clear hcz7_4);(try clear hcz9_0);(try clear hcz9_1);(try clear hcz9_2);(try clear hcz9_3);(try clear hcz9_4);(try clear hfz7_0);(try clear hfz7_1);(try clear hfz7_2);(try clear hfz7_3);(try clear hfz7_4);(try clear hfz9_0);(try clear hfz9_1);(try clear hfz9_2);(try clear hfz9_3);(try clear hfz9_4);(try clear p2);obtain ⟨x6_2,x7_2,rfl,rfl,HA,HK2,BK504,HB⟩ := hrel
     cases gk with
     | zero => exact absurd HA.out (by simp [spec_ListText.l0])
     | succ k2 =>
      have H := HA.out;clear HA;simp only [spec_ListText.l0] at H
      by_cases c12 : x7_2 < (l1.length : Int)
      focus
       rw [if_pos c12] at H;have c12b0 : decide (x7_2 < (l1.length : Int)) = true := dT c12;clear c12
       by_cases c13 : 0 ≤ x7_2
       rotate_left;rw [if_neg c13] at H;exact absurd H (by simp);rw [if_pos c13] at H;have c13b0 : decide (0 ≤ x7_2) = true := dT c13;clear c13;obtain ⟨t507,A14,H⟩ := bE_ H
       by_cases c15 : t507 = true
       focus
        subst c15;rw [if_pos rfl] at H
        by_cases c16 : x7_2 = 0
        focus
         rw [if_pos c16] at H;have c16b0 : (x7_2 == 0) = true := beq_iff_eq.mpr c16;have c16b1 : (x7_2 != 0) = false := bne_eq_false_iff_eq.mpr c16;clear c16
         by_cases c17 : x6_2.size + (rdOf ByteArray.empty l1 x7_2).size ≤ 9223372036854775807
         rotate_left;rw [if_neg c17] at H;exact absurd H (by simp);rw [if_pos c17] at H;have c17b0 := eq_true c17;have c17b1 : decide (x6_2.size + (rdOf ByteArray.empty l1 x7_2).size ≤ 9223372036854775807) = true := dT c17;(try have c17b2 : (9223372036854775807 < x6_2.size + (rdOf ByteArray.empty l1 x7_2).size) = False := eq_false (Nat.not_lt.2 c17));have H' := aM H;clear H
        rotate_left
        focus
         rw [if_neg c16] at H;have c16b0 : (x7_2 == 0) = false := beq_eq_false_iff_ne.mpr c16;have c16b1 : (x7_2 != 0) = true := bne_iff_ne.mpr c16
         by_cases c18 : (l1.length : Int) = 2
         focus
          rw [if_pos c18] at H;have c18b0 : ((l1.length : Int) == 2) = true := beq_iff_eq.mpr c18;have c18b1 : ((l1.length : Int) != 2) = false := bne_eq_false_iff_eq.mpr c18;clear c18
          by_cases c19 : x6_2.size + a0_4.size ≤ 9223372036854775807
          rotate_left;rw [if_neg c19] at H;exact absurd H (by simp);rw [if_pos c19] at H;have c19b0 := eq_true c19;have c19b1 : decide (x6_2.size + a0_4.size ≤ 9223372036854775807) = true := dT c19;(try have c19b2 : (9223372036854775807 < x6_2.size + a0_4.size) = False := eq_false (Nat.not_lt.2 c19))
          by_cases c20 : (x6_2 ++ a0_4).size + (rdOf ByteArray.empty l1 x7_2).size ≤ 9223372036854775807
          rotate_left;rw [if_neg c20] at H;exact absurd H (by simp);rw [if_pos c20] at H;have c20b0 := eq_true c20;have c20b1 : decide ((x6_2 ++ a0_4).size + (rdOf ByteArray.empty l1 x7_2).size ≤ 9223372036854775807) = true := dT c20;(try have c20b3 : (9223372036854775807 < x6_2.size + a0_4.size + (rdOf ByteArray.empty l1 x7_2).size) = False := eq_false (by have h_ := c20;simp only [ByteArray.size_append,ByteArray.size_extract] at h_;omega));(try have c20b2 : (9223372036854775807 < (x6_2 ++ a0_4).size + (rdOf ByteArray.empty l1 x7_2).size) = False := eq_false (Nat.not_lt.2 c20));have H' := aM H;clear H
         rotate_left
         focus
          rw [if_neg c18] at H;have c18b0 : ((l1.length : Int) == 2) = false := beq_eq_false_iff_ne.mpr c18;have c18b1 : ((l1.length : Int) != 2) = true := bne_iff_ne.mpr c18
          by_cases c22 : x7_2 = (wrap64 ((l1.length : Int) - 1))
          focus
           rw [if_pos c22] at H;have c22b0 : (x7_2 == (wrap64 ((l1.length : Int) - 1))) = true := beq_iff_eq.mpr c22;have c22b1 : (x7_2 != (wrap64 ((l1.length : Int) - 1))) = false := bne_eq_false_iff_eq.mpr c22;clear c22
           by_cases c23 : x6_2.size + a0_3.size ≤ 9223372036854775807
           rotate_left;rw [if_neg c23] at H;exact absurd H (by simp);rw [if_pos c23] at H;have c23b0 := eq_true c23;have c23b1 : decide (x6_2.size + a0_3.size ≤ 9223372036854775807) = true := dT c23;(try have c23b2 : (9223372036854775807 < x6_2.size + a0_3.size) = False := eq_false (Nat.not_lt.2 c23))
           by_cases c24 : (x6_2 ++ a0_3).size + (rdOf ByteArray.empty l1 x7_2).size ≤ 9223372036854775807
           rotate_left;rw [if_neg c24] at H;exact absurd H (by simp);rw [if_pos c24] at H;have c24b0 := eq_true c24;have c24b1 : decide ((x6_2 ++ a0_3).size + (rdOf ByteArray.empty l1 x7_2).size ≤ 9223372036854775807) = true := dT c24;(try have c24b3 : (9223372036854775807 < x6_2.size + a0_3.size + (rdOf ByteArray.empty l1 x7_2).size) = False := eq_false (by have h_ := c24;simp only [ByteArray.size_append,ByteArray.size_extract] at h_;omega));(try have c24b2 : (9223372036854775807 < (x6_2 ++ a0_3).size + (rdOf ByteArray.empty l1 x7_2).size) = False := eq_false (Nat.not_lt.2 c24));have H' := aM H;clear H
          rotate_left
          focus
           rw [if_neg c22] at H;have c22b0 : (x7_2 == (wrap64 ((l1.length : Int) - 1))) = false := beq_eq_false_iff_ne.mpr c22;have c22b1 : (x7_2 != (wrap64 ((l1.length : Int) - 1))) = true := bne_iff_ne.mpr c22
           by_cases c26 : x6_2.size + 2 ≤ 9223372036854775807
           rotate_left;rw [if_neg c26] at H;exact absurd H (by simp);rw [if_pos c26] at H;have c26b0 := eq_true c26;have c26b1 : decide (x6_2.size + 2 ≤ 9223372036854775807) = true := dT c26;(try have c26b2 : (9223372036854775807 < x6_2.size + 2) = False := eq_false (Nat.not_lt.2 c26))
           by_cases c27 : (x6_2 ++ (⟨#[44,32]⟩ : ByteArray)).size + (rdOf ByteArray.empty l1 x7_2).size ≤ 9223372036854775807
           rotate_left;rw [if_neg c27] at H;exact absurd H (by simp);rw [if_pos c27] at H;have c27b0 := eq_true c27;have c27b1 : decide ((x6_2 ++ (⟨#[44,32]⟩ : ByteArray)).size + (rdOf ByteArray.empty l1 x7_2).size ≤ 9223372036854775807) = true := dT c27;(try have c27b3 : (9223372036854775807 < x6_2.size + 2 + (rdOf ByteArray.empty l1 x7_2).size) = False := eq_false (by have h_ := c27;simp only [ByteArray.size_append,ByteArray.size_extract] at h_;have hs0_ : (⟨#[44,32]⟩ : ByteArray).size = 2 := rfl;omega));(try have c27b2 : (9223372036854775807 < (x6_2 ++ (⟨#[44,32]⟩ : ByteArray)).size + (rdOf ByteArray.empty l1 x7_2).size) = False := eq_false (Nat.not_lt.2 c27));have H' := aM H;clear H
       rotate_left 4
       focus
        replace c15 := Bool.eq_false_iff.mpr c15;subst c15;rw [if_neg Bool.false_ne_true] at H;simp only [eS,eP] at H;obtain ⟨rfl,rfl⟩ := H
      rotate_left 5
      focus
       rw [if_neg c12] at H;have c12b0 : decide (x7_2 < (l1.length : Int)) = false := dF c12;clear c12;simp only [eS,eP] at H;obtain ⟨rfl,rfl⟩ := H
      all_goals
       (try (have p01 : 0 ≤ (x7_2 : Int) := oD (by assumption);have q01 : x7_2 < (l1.length : Int) := oD (by assumption);obtain ⟨ad01,e01,hx01_0⟩ := Kd.at_string HR1.out x7_2 p01 q01;cases e01;replace hx01_0 := (HB.out.cell (wB w _ hx01_0)).trans hx01_0;replace p01 := eq_true p01;replace q01 := eq_true q01));go_wp2_with (first|((with_reducible refine gate_callee (f := 59) rfl ?_);refine goesL_ (some 26) rfl rfl Try.func59 (by kernel_rfl) rfl #[.string (rdOf ByteArray.empty l1 x7_2),.int .i64 0,.int .i64 20,.int .u8 32] rfl (by (try simp only [mT,mC,mN]);first|done|rfl|(simp only [xD,xT];rfl)) ?_;(with_reducible refine (spec_l23Bytes.calls _ _ _ _ _ _ _ A14.out).mono ?_);rintro e w' ⟨rfl,⟨nd,rfl⟩⟩;refine ⟨_,rfl,?_⟩;(try (have p02 : 0 ≤ (x7_2 : Int) := oD (by assumption);have q02 : x7_2 < (l1.length : Int) := oD (by assumption);obtain ⟨ad02,e02,hx02_0⟩ := Kd.at_string HR1.out x7_2 p02 q02;obtain rfl : ad01 = ad02 := (by injection e02);replace hx02_0 := (HB.out.cell (wB w _ hx02_0)).trans hx02_0;replace p02 := eq_true p02;replace q02 := eq_true q02));obtain ⟨hcz14x504_0,hcz14x504_1,hcz14x504_2,hcz14x504_3,hcz14x504_4,hfz14x504_0,hfz14x504_1,hfz14x504_2,hfz14x504_3,hfz14x504_4⟩ := z5_ BK504.out))
       first
        |
         go_ret2;exact ⟨by first|rfl|(simp [*];done),by repeat (first|(with_reducible first|exact HB.out|apply lA|apply lN|apply lD|refine lS ?_ GE504.out)|exact HB.out)⟩
        |
         go_roundg k2
         case measure => have := HJ2.out;have := HK2.out;omega
         case rel => first|(exact ⟨(x6_2 ++ (rdOf ByteArray.empty l1 x7_2)),(wrap64 (x7_2 + 1)),(by first|rfl|(simp [*];done)),(by first|rfl|(simp [*];done)),H',⟨by have := HJ2.out;have := HK2.out;omega⟩,⟨by (with_reducible repeat (first|refine bN ?_ _|refine bD ?_|refine bA ?_ _));exact BK504.out⟩,⟨by repeat (first|(with_reducible first|exact HB.out|apply lA|apply lN|apply lD|refine lS ?_ GE504.out)|exact HB.out)⟩⟩)|(exact ⟨((x6_2 ++ a0_4) ++ (rdOf ByteArray.empty l1 x7_2)),(wrap64 (x7_2 + 1)),(by first|rfl|(simp [*];done)),(by first|rfl|(simp [*];done)),H',⟨by have := HJ2.out;have := HK2.out;omega⟩,⟨by (with_reducible repeat (first|refine bN ?_ _|refine bD ?_|refine bA ?_ _));exact BK504.out⟩,⟨by repeat (first|(with_reducible first|exact HB.out|apply lA|apply lN|apply lD|refine lS ?_ GE504.out)|exact HB.out)⟩⟩)|(exact ⟨((x6_2 ++ a0_3) ++ (rdOf ByteArray.empty l1 x7_2)),(wrap64 (x7_2 + 1)),(by first|rfl|(simp [*];done)),(by first|rfl|(simp [*];done)),H',⟨by have := HJ2.out;have := HK2.out;omega⟩,⟨by (with_reducible repeat (first|refine bN ?_ _|refine bD ?_|refine bA ?_ _));exact BK504.out⟩,⟨by repeat (first|(with_reducible first|exact HB.out|apply lA|apply lN|apply lD|refine lS ?_ GE504.out)|exact HB.out)⟩⟩)|(exact ⟨((x6_2 ++ (⟨#[44,32]⟩ : ByteArray)) ++ (rdOf ByteArray.empty l1 x7_2)),(wrap64 (x7_2 + 1)),(by first|rfl|(simp [*];done)),(by first|rfl|(simp [*];done)),H',⟨by have := HJ2.out;have := HK2.out;omega⟩,⟨by (with_reducible repeat (first|refine bN ?_ _|refine bD ?_|refine bA ?_ _));exact BK504.out⟩,⟨by repeat (first|(with_reducible first|exact HB.out|apply lA|apply lN|apply lD|refine lS ?_ GE504.out)|exact HB.out)⟩⟩)
def laws_toStringS.l0 : Nat → List ByteArray → List ByteArray → Int → Option (List ByteArray)
 | 0,_,_,_ => none
 | k + 1,x0,x3,x4 => if x4 < (x0.length : Int) then (if 0 ≤ x4 then (if x4 < (x3.length : Int) then (laws_toStringS.l0 k x0 (x3.set (x4 : Int).toNat (rdOf ByteArray.empty x0 x4)) (wrap64 (x4 + 1))) else (none)) else (none)) else (some x3)
def laws_toStringS.f (k : Nat) (l0 : List ByteArray) : Option (List ByteArray) := if 0 ≤ (l0.length : Int) then (if ((l0.length : Int) : Int).toNat ≤ 17592186044416 then (laws_toStringS.l0 k l0 (List.replicate ((l0.length : Int) : Int).toNat (⟨#[]⟩ : ByteArray)) 0) else (none)) else (none)
theorem laws_toStringS.mono_l : ∀ k,(∀ y0 y1 y2,LeO (laws_toStringS.l0 k y0 y1 y2) (laws_toStringS.l0 (k + 1) y0 y1 y2))
 | 0 => fun _ _ _ r h => by simp [laws_toStringS.l0] at h
 | k + 1 => by
  have ih0 := laws_toStringS.mono_l k
  ·intro y0 y1 y2
   unfold laws_toStringS.l0
   repeat' first
   | (with_reducible exact ih0 _ _ _)
   | (with_reducible exact LeO.refl _)
   | (with_reducible exact LeO.none _)
   | (with_reducible refine LeO.ite ?_ ?_)
   | (with_reducible refine LeO.bind ?_ (fun _ => ?_))
   | exact ih0 _ _ _
   | exact LeO.none _
   | refine LeO.ite ?_ ?_
   | refine LeO.bind ?_ (fun _ => ?_)
theorem laws_toStringS.mono : ∀ a0 k,LeO (laws_toStringS.f k a0) (laws_toStringS.f (k + 1) a0) := by
 intro a0 k
 have ih0 := laws_toStringS.mono_l k
 unfold laws_toStringS.f
 repeat' first
   | (with_reducible exact ih0 _ _ _)
   | (with_reducible exact LeO.refl _)
   | (with_reducible exact LeO.none _)
   | (with_reducible refine LeO.ite ?_ ?_)
   | (with_reducible refine LeO.bind ?_ (fun _ => ?_))
   | exact ih0 _ _ _
   | exact LeO.none _
   | refine LeO.ite ?_ ?_
   | refine LeO.bind ?_ (fun _ => ?_)
set_option maxHeartbeats 8000000 in
set_option maxRecDepth 100000 in
theorem laws_toStringS.calls (k : Nat) (A0 : Option Addr) (c0 : Nat) (l0 : List ByteArray) (r : List ByteArray) (w : World) (hr0 : Kd.C Kd.string w A0 l0.length l0) (hc0 : l0.length ≤ c0) (h : laws_toStringS.f k l0 = some r) :
  Calls Try.prog 29 #[.slice A0 l0.length c0] w fun e w' => ∃ v0_ : Value,e = .returned (v0_) ∧ Kd.R Kd.string 9 w' w.heap.size (fun _ => True) v0_ r ∧ Below w.heap.size w w' := by
 have HR0 := aM hr0;have HC0 := aM hc0;clear hr0 hc0;have HB := aM (Below.refl w.heap.size w);have H : (if 0 ≤ (l0.length : Int) then (if ((l0.length : Int) : Int).toNat ≤ 17592186044416 then (laws_toStringS.l0 k l0 (List.replicate ((l0.length : Int) : Int).toNat (⟨#[]⟩ : ByteArray)) 0) else (none)) else (none)) = some r := h;clear h
 by_cases c2 : 0 ≤ (l0.length : Int)
 ·rw [if_pos c2] at H;have c2b0 := eq_true c2;have c2b1 : decide (0 ≤ (l0.length : Int)) = true := dT c2;clear c2
  by_cases c3 : ((l0.length : Int) : Int).toNat ≤ 17592186044416
  ·rw [if_pos c3] at H;have c3b0 := eq_true c3;have c3b1 : decide (((l0.length : Int) : Int).toNat ≤ 17592186044416) = true := dT c3;clear c3;obtain ⟨y512,hy512⟩ : ∃ y_ : List ByteArray,y_ = (List.replicate ((l0.length : Int) : Int).toNat (⟨#[]⟩ : ByteArray)) := ⟨_,rfl⟩;replace H : (laws_toStringS.l0 k l0 y512 0) = some r := (by first|(rw [hy512];with_reducible exact H)|(have H2_ := (Option.bind_some _ _).symm.trans H;rw [hy512];with_reducible exact H2_)|(have H2_ := (Option.bind_some _ _).symm.trans H;with_reducible exact H2_)|with_reducible exact H|(rw [hy512];exact H)|exact H);have Ny512 := aM hy512;clear hy512;have H' := aM H;clear H;go_enter Try.func29,Try.ntmps29;go_wp2_with (first|((with_reducible refine gate_dst (N := 7) rfl ?_);refine Kd.R_make Kd.string _ 9 rfl (N := 7) rfl 46 _ _ rfl (l0.length : Int) rfl rfl Try.underlying46 (.string ⟨#[]⟩) 16 info9 rfl (by decide) (by omega) (⟨#[]⟩ : ByteArray) (ok := fun _ => True) (okp := fun _ => True) rfl (fun _ hk => hk) trivial (oD (by assumption)) (Nat.le_trans (Nat.mul_le_mul_right _ (oD (by assumption) : (l0.length : Int).toNat ≤ 17592186044416)) (by omega)) (Below.refl _ _) (Nat.le_refl _) ?_;intro v513 w4 ho5 hb hg_ hnew_;clear hg_ hnew_;(first|rw [← Ny512.out] at ho5|(simp only [Int.reduceToNat] at ho5;rw [← Ny512.out] at ho5));have HO514 := aM (Kd.R_lower ho5 (lZ (by repeat (first|(with_reducible first|exact HB.out|apply lA|apply lN|apply lD)|exact HB.out))));replace HB := aM (lT (by repeat (first|(with_reducible first|exact HB.out|apply lA|apply lN|apply lD)|exact HB.out)) hb);clear hb ho5));go_loopg [4] k (fun kq v4 w' => ∃ (x3_1 : List ByteArray) (x4_1 : Int),v4 = .int .i64 x4_1 ∧ Aside0 (laws_toStringS.l0 kq l0 x3_1 x4_1 = some r) ∧ Aside0 (kq ≤ k) ∧ Aside0 (Kd.R Kd.string 9 w' w.heap.size (fun _ => True) v513 x3_1) ∧ Aside0 (Below w.heap.size w w'))
   case atStart => exact ⟨(y512),(0),(by first|rfl|(simp [*];done)),H',⟨Nat.le_refl _⟩,⟨by (with_reducible repeat (first|apply rA|apply rN|apply rD));exact HO514.out⟩,⟨by repeat (first|(with_reducible first|exact HB.out|apply lA|apply lN|apply lD)|exact HB.out)⟩⟩
   case round =>
    clear H';(try clear c2);(try clear c2b0);(try clear c2b1);(try clear p2);(try clear c3);(try clear c3b0);(try clear c3b1);obtain ⟨x3_1,x4_1,rfl,HA,HK1,HO_3,HB⟩ := hrel
    cases gk with
    | zero => exact absurd HA.out (by simp [laws_toStringS.l0])
    | succ k1 =>
     have H := HA.out;clear HA;simp only [laws_toStringS.l0] at H
     by_cases c6 : x4_1 < (l0.length : Int)
     ·rw [if_pos c6] at H;have c6b0 : decide (x4_1 < (l0.length : Int)) = true := dT c6;clear c6
      by_cases c7 : 0 ≤ x4_1
      ·rw [if_pos c7] at H;have c7b0 : decide (0 ≤ x4_1) = true := dT c7;clear c7
       by_cases c8 : x4_1 < (x3_1.length : Int)
       ·rw [if_pos c8] at H;have c8b0 : decide (x4_1 < (x3_1.length : Int)) = true := dT c8;clear c8;obtain ⟨y516,hy516⟩ : ∃ y_ : List ByteArray,y_ = (x3_1.set (x4_1 : Int).toNat (rdOf ByteArray.empty l0 x4_1)) := ⟨_,rfl⟩;replace H : (laws_toStringS.l0 k1 l0 y516 (wrap64 (x4_1 + 1))) = some r := (by first|(rw [hy516];with_reducible exact H)|(have H2_ := (Option.bind_some _ _).symm.trans H;rw [hy516];with_reducible exact H2_)|(have H2_ := (Option.bind_some _ _).symm.trans H;with_reducible exact H2_)|with_reducible exact H|(rw [hy516];exact H)|exact H);have Ny516 := aM hy516;clear hy516;have H' := aM H;clear H;have p515 : 0 ≤ (x4_1 : Int) := oD (by assumption);have q515 : x4_1 < (l0.length : Int) := oD (by assumption);obtain ⟨ad515,e515,hx515_0⟩ := Kd.at_string HR0.out x4_1 p515 q515;cases e515;replace hx515_0 := (HB.out.cell (wB w _ hx515_0)).trans hx515_0;replace p515 := eq_true p515;replace q515 := eq_true q515;have p9 : 0 ≤ (x4_1 : Int) := oD (by assumption);have q9 : (x4_1 : Int) < ((x3_1.length : Int) : Int) := oD (by assumption);obtain ⟨go9,co9,eo9,gb9,gl9,cl9,HG9⟩ := Kd.R_form HO_3.out (by omega);(first|cases eo9|(injection eo9 with ea_ en_ ec_;(first|subst ea_|(injection ea_ with ea_;subst ea_));subst ec_;clear en_));have GB9 := aM gb9;have GG9 := aM HG9;clear gb9 gl9 HG9;obtain ⟨hx9_0,hf9_0⟩ := Kd.R_celln (⟨#[]⟩ : ByteArray) HO_3.out (x4_1 : Int) p9 q9;replace p9 := eq_true p9;replace q9 := eq_true q9;have HP10 := Kd.R_putg HO_3.out (x4_1 : Int) (rdOf ByteArray.empty l0 x4_1);go_wp2_with (first|((with_reducible refine gate_store (t := 9) (p := 20) rfl ?_);refine store_event (t := 9) (p := 20) (v := ?vo_w11) (w1 := (wr.setCell ⟨go9,(x4_1 : Int).toNat,none⟩ (.string (rdOf ByteArray.empty l0 x4_1)))) ?hg ?ho ?hn ?hr ?_;(case ho => rfl);(case hg => rfl);(case hn => rfl);(case hr => first|(go_simp;done)|(go_simp;rfl));intro w11 hw;have hg : wr.grownBy w11 (some go9) := (by rw [hw];exact HP10.2);have hp_ : Kd.R Kd.string 9 w11 w.heap.size (fun _ => True) (.slice (some ⟨go9,0,none⟩) x3_1.length co9) y516 := (by rw [hw,Ny516.out];exact HP10.1);clear HP10;replace HO_3 := aM (hp_);replace HB := aM ((by rw [hw];exact lS (HB.out) GB9.out : Below w.heap.size w w11));clear hg hw hp_));go_roundg k1
        case measure => have := HK1.out;omega
        case rel => exact ⟨(y516),(wrap64 (x4_1 + 1)),(by first|rfl|(simp [*];done)),H',⟨by have := HK1.out;omega⟩,⟨by (with_reducible repeat (first|apply rA|apply rN|apply rD));exact HO_3.out⟩,⟨by repeat (first|(with_reducible first|exact HB.out|apply lA|apply lN|apply lD)|exact HB.out)⟩⟩
       ·rw [if_neg c8] at H;exact absurd H (by simp)
      ·rw [if_neg c7] at H;exact absurd H (by simp)
     ·rw [if_neg c6] at H;have c6b0 : decide (x4_1 < (l0.length : Int)) = false := dF c6;clear c6;obtain rfl := Option.some.inj H;simp only [eS,eP] at H;obtain ⟨rfl⟩ := H;go_wp2;go_ret;exact ⟨_,by first|rfl|(simp [*];done),by (with_reducible repeat (first|apply rA|apply rN|apply rD));exact HO_3.out,by repeat (first|(with_reducible first|exact HB.out|apply lA|apply lN|apply lD)|exact HB.out)⟩
  ·rw [if_neg c3] at H;exact absurd H (by simp)
 ·rw [if_neg c2] at H;exact absurd H (by simp)
def impl_ListText_1.f (k : Nat) (a0 : ByteArray) : Option (Bool) := if (a0.size : Int) > 20 then (some true) else ((impl_arePrintable.f k a0).bind fun t517 => (some (!t517)))
theorem impl_ListText_1.mono : ∀ a0 k,LeO (impl_ListText_1.f k a0) (impl_ListText_1.f (k + 1) a0) := by
 intro a0 k
 unfold impl_ListText_1.f
 repeat' first
   | (with_reducible exact impl_arePrintable.mono _ _)
   | (with_reducible exact LeO.refl _)
   | (with_reducible exact LeO.none _)
   | (with_reducible refine LeO.ite ?_ ?_)
   | (with_reducible refine LeO.bind ?_ (fun _ => ?_))
   | exact impl_arePrintable.mono _ _
   | exact LeO.none _
   | refine LeO.ite ?_ ?_
   | refine LeO.bind ?_ (fun _ => ?_)
set_option maxHeartbeats 8000000 in
set_option maxRecDepth 100000 in
theorem impl_ListText_1.calls (k : Nat) (a0 : ByteArray) (r : Bool) (w : World) (h : impl_ListText_1.f k a0 = some r) :
  Calls Try.prog 61 #[.string a0] w fun e w' => e = .returned (.bool r) ∧ Drawn0 w w' := by
 have H : (if (a0.size : Int) > 20 then (some true) else ((impl_arePrintable.f k a0).bind fun t517 => (some (!t517)))) = some r := h;clear h
 by_cases c2 : (a0.size : Int) > 20
 focus
  rw [if_pos c2] at H;have c2b0 : decide (20 < (a0.size : Int)) = true := dT c2;have c2b1 : decide (20 < a0.size) = true := dT (by omega);clear c2;obtain rfl := Option.some.inj H;simp only [eS,eP] at H;obtain ⟨rfl⟩ := H
 rotate_left
 focus
  rw [if_neg c2] at H;have c2b0 : decide (20 < (a0.size : Int)) = false := dF c2;have c2b1 : decide (20 < a0.size) = false := dF (by omega);clear c2;obtain ⟨t517,A3,H⟩ := bE_ H;obtain rfl := Option.some.inj H;simp only [eS,eP] at H;obtain ⟨rfl⟩ := H
 all_goals
  go_enter Try.func61,Try.ntmps61;go_wp2_with (first|(go_at_call 62;(with_reducible refine (impl_arePrintable.calls _ _ _ _ A3.out).mono ?_);rintro e w' ⟨rfl,⟨nd,rfl⟩⟩));go_ret;exact ⟨by first|rfl|(simp [*];done),by repeat (first|exact Drawn0.refl _|apply Drawn0.step)⟩
def slices_IndexFunc_string_string.l0 : Nat → List ByteArray → Int → Int → Option (Int)
 | 0,_,_,_ => none
 | k + 1,x0,x7,x8 => if x8 < x7 then (if 0 ≤ x8 then (if x8 < (x0.length : Int) then ((impl_ListText_1.f k (rdOf ByteArray.empty x0 x8)).bind fun t519 => (if t519 = true then (some x8) else (slices_IndexFunc_string_string.l0 k x0 x7 (wrap64 (x8 + 1))))) else (none)) else (none)) else (some (-1))
def slices_IndexFunc_string_string.f (k : Nat) (l0 : List ByteArray) (a1 : Int) : Option (Int) := slices_IndexFunc_string_string.l0 k l0 (l0.length : Int) 0
theorem slices_IndexFunc_string_string.mono_l : ∀ k,(∀ y0 y1 y2,LeO (slices_IndexFunc_string_string.l0 k y0 y1 y2) (slices_IndexFunc_string_string.l0 (k + 1) y0 y1 y2))
 | 0 => fun _ _ _ r h => by simp [slices_IndexFunc_string_string.l0] at h
 | k + 1 => by
  have ih0 := slices_IndexFunc_string_string.mono_l k
  ·intro y0 y1 y2
   unfold slices_IndexFunc_string_string.l0
   repeat' first
   | (with_reducible exact ih0 _ _ _)
   | (with_reducible exact impl_ListText_1.mono _ _)
   | (with_reducible exact LeO.refl _)
   | (with_reducible exact LeO.none _)
   | (with_reducible refine LeO.ite ?_ ?_)
   | (with_reducible refine LeO.bind ?_ (fun _ => ?_))
   | exact ih0 _ _ _
   | exact impl_ListText_1.mono _ _
   | exact LeO.none _
   | refine LeO.ite ?_ ?_
   | refine LeO.bind ?_ (fun _ => ?_)
theorem slices_IndexFunc_string_string.mono : ∀ a0 a1 k,LeO (slices_IndexFunc_string_string.f k a0 a1) (slices_IndexFunc_string_string.f (k + 1) a0 a1) := by
 intro a0 a1 k
 have ih0 := slices_IndexFunc_string_string.mono_l k
 unfold slices_IndexFunc_string_string.f
 repeat' first
   | (with_reducible exact ih0 _ _ _)
   | (with_reducible exact impl_ListText_1.mono _ _)
   | (with_reducible exact LeO.refl _)
   | (with_reducible exact LeO.none _)
   | (with_reducible refine LeO.ite ?_ ?_)
   | (with_reducible refine LeO.bind ?_ (fun _ => ?_))
   | exact ih0 _ _ _
   | exact impl_ListText_1.mono _ _
   | exact LeO.none _
   | refine LeO.ite ?_ ?_
   | refine LeO.bind ?_ (fun _ => ?_)
set_option maxHeartbeats 8000000 in
set_option maxRecDepth 100000 in
theorem slices_IndexFunc_string_string.calls (k : Nat) (A0 : Option Addr) (c0 : Nat) (l0 : List ByteArray) (a1 : Int) (r : Int) (w : World) (hr0 : Kd.C Kd.string w A0 l0.length l0) (hc0 : l0.length ≤ c0) (h : slices_IndexFunc_string_string.f k l0 a1 = some r) :
  Calls Try.prog 82 #[.slice A0 l0.length c0,.func (.func 61) #[] #[]] w fun e w' => e = .returned (.int .i64 r) ∧ Drawn0 w w' := by
 have HR0 := aM hr0;have HC0 := aM hc0;clear hr0 hc0;have H : (slices_IndexFunc_string_string.l0 k l0 (l0.length : Int) 0) = some r := h;clear h;have H' := aM H;clear H;go_enter Try.func82,Try.ntmps82;go_wp2;go_loopg [8] k (fun kq v8 w' => ∃ (x8_1 : Int),v8 = .int .i64 x8_1 ∧ Aside0 (slices_IndexFunc_string_string.l0 kq l0 (l0.length : Int) x8_1 = some r) ∧ Aside0 (kq ≤ k) ∧ Drawn0 w w')
 case atStart => exact ⟨(0),(by first|rfl|(simp [*];done)),H',⟨Nat.le_refl _⟩,by repeat (first|exact Drawn0.refl _|apply Drawn0.step)⟩
 case round =>
  clear H';(try clear p2);obtain ⟨x8_1,rfl,HA,HK1,⟨m1,rfl⟩⟩ := hrel
  cases gk with
  | zero => exact absurd HA.out (by simp [slices_IndexFunc_string_string.l0])
  | succ k1 =>
   have H := HA.out;clear HA;simp only [slices_IndexFunc_string_string.l0] at H
   by_cases c3 : x8_1 < (l0.length : Int)
   focus
    rw [if_pos c3] at H;have c3b0 : decide (x8_1 < (l0.length : Int)) = true := dT c3;clear c3
    by_cases c4 : 0 ≤ x8_1
    rotate_left;rw [if_neg c4] at H;exact absurd H (by simp);rw [if_pos c4] at H;have c4b0 : decide (0 ≤ x8_1) = true := dT c4;clear c4
    by_cases c5 : x8_1 < (l0.length : Int)
    rotate_left;rw [if_neg c5] at H;exact absurd H (by simp);rw [if_pos c5] at H;have c5b0 : decide (x8_1 < (l0.length : Int)) = true := dT c5;clear c5;obtain ⟨t519,A6,H⟩ := bE_ H
    by_cases c7 : t519 = true
    focus
     subst c7;rw [if_pos rfl] at H;obtain rfl := Option.some.inj H;simp only [eS,eP] at H;obtain ⟨rfl⟩ := H
    rotate_left
    focus
     replace c7 := Bool.eq_false_iff.mpr c7;subst c7;rw [if_neg Bool.false_ne_true] at H;have H' := aM H;clear H
   rotate_left 2
   focus
    rw [if_neg c3] at H;have c3b0 : decide (x8_1 < (l0.length : Int)) = false := dF c3;clear c3;obtain rfl := Option.some.inj H;simp only [eS,eP] at H;obtain ⟨rfl⟩ := H
   all_goals
    (try (have p01 : 0 ≤ (x8_1 : Int) := oD (by assumption);have q01 : x8_1 < (l0.length : Int) := oD (by assumption);obtain ⟨ad01,e01,hx01_0⟩ := Kd.at_string HR0.out x8_1 p01 q01;cases e01;replace p01 := eq_true p01;replace q01 := eq_true q01));go_wp2_with (first|(go_at_call 61;(with_reducible refine (impl_ListText_1.calls _ _ _ _ A6.out).mono ?_);rintro e w' ⟨rfl,⟨nd,rfl⟩⟩))
    first
     |
      go_ret;exact ⟨by first|rfl|(simp [*];done),by repeat (first|exact Drawn0.refl _|apply Drawn0.step)⟩
     |
      go_roundg k1
      case measure => have := HK1.out;omega
      case rel => exact ⟨(wrap64 (x8_1 + 1)),(by first|rfl|(simp [*];done)),H',⟨by have := HK1.out;omega⟩,by repeat (first|exact Drawn0.refl _|apply Drawn0.step)⟩
def slices_ContainsFunc_string_string.f (k : Nat) (l0 : List ByteArray) (a1 : Int) : Option (Bool) := (slices_IndexFunc_string_string.f k l0 a1).bind fun t520 => (some (decide (t520 ≥ 0)))
theorem slices_ContainsFunc_string_string.mono : ∀ a0 a1 k,LeO (slices_ContainsFunc_string_string.f k a0 a1) (slices_ContainsFunc_string_string.f (k + 1) a0 a1) := by
 intro a0 a1 k
 unfold slices_ContainsFunc_string_string.f
 repeat' first
   | (with_reducible exact slices_IndexFunc_string_string.mono _ _ _)
   | (with_reducible exact LeO.refl _)
   | (with_reducible exact LeO.none _)
   | (with_reducible refine LeO.ite ?_ ?_)
   | (with_reducible refine LeO.bind ?_ (fun _ => ?_))
   | exact slices_IndexFunc_string_string.mono _ _ _
   | exact LeO.none _
   | refine LeO.ite ?_ ?_
   | refine LeO.bind ?_ (fun _ => ?_)
set_option maxHeartbeats 8000000 in
set_option maxRecDepth 100000 in
theorem slices_ContainsFunc_string_string.calls (k : Nat) (A0 : Option Addr) (c0 : Nat) (l0 : List ByteArray) (a1 : Int) (r : Bool) (w : World) (hr0 : Kd.C Kd.string w A0 l0.length l0) (hc0 : l0.length ≤ c0) (h : slices_ContainsFunc_string_string.f k l0 a1 = some r) :
  Calls Try.prog 60 #[.slice A0 l0.length c0,.func (.func 61) #[] #[]] w fun e w' => e = .returned (.bool r) ∧ Drawn0 w w' := by
 have HR0 := aM hr0;have HC0 := aM hc0;clear hr0 hc0;have H : ((slices_IndexFunc_string_string.f k l0 a1).bind fun t520 => (some (decide (t520 ≥ 0)))) = some r := h;clear h;obtain ⟨t520,A3,H⟩ := bE_ H;obtain rfl := Option.some.inj H;simp only [eS,eP] at H;obtain ⟨rfl⟩ := H;go_enter Try.func60,Try.ntmps60;go_wp2_with (first|((with_reducible refine gate_callee (f := 82) rfl ?_);refine goesL_ (some 7) rfl rfl Try.func82 (by kernel_rfl) rfl #[.slice A0 l0.length c0,.func (.func 61) #[] #[]] rfl (by (try simp only [mT,mC,mN]);first|done|rfl|(simp only [xD,xT];rfl)) ?_;(with_reducible refine (slices_IndexFunc_string_string.calls k _ _ l0 a1 t520 _ ?side1 ?side2 A3.out).mono ?_);(case side1 => repeat (first|exact HR0.out|(with_reducible first|refine cA ?_ _|refine cN ?_ _|refine cD ?_)));(case side2 => exact HC0.out);rintro e w' ⟨rfl,⟨nd,rfl⟩⟩;refine ⟨_,rfl,?_⟩));go_ret;exact ⟨by first|rfl|(simp [*];done),by repeat (first|exact Drawn0.refl _|apply Drawn0.step)⟩
def strings_Join.f (a0 : List ByteArray) (a1 : ByteArray) : Option ByteArray := if a0.length ≤ 140737488355328 ∧ (Lib.join (a0.map (·.data.toList)) a1.data.toList).length ≤ 140737488355328 then some ⟨(Lib.join (a0.map (·.data.toList)) a1.data.toList).toArray⟩ else none
theorem strings_Join.calls (A0 : Option Addr) (c0 : Nat) (l0 : List ByteArray) (a1 : ByteArray) (r : ByteArray) (w : World) (hr0 : Kd.C Kd.string w A0 l0.length l0) (hc0 : l0.length ≤ c0) (h : strings_Join.f l0 a1 = some r) :
  Calls Try.prog 63 #[.slice A0 l0.length c0,.string a1] w fun e w' => e = .returned (.string r) ∧ Below w.heap.size w w' := by
 unfold strings_Join.f at h
 by_cases hs : l0.length ≤ 140737488355328 ∧ (Lib.join (l0.map (·.data.toList)) a1.data.toList).length ≤ 140737488355328
 ·rw [if_pos hs] at h;obtain rfl := Option.some.inj h
  cases l0 with
  | nil =>
   refine (Try.strings_Join_none A0 c0 a1 w).mono ?_;rintro e w' ⟨rfl,rfl⟩;exact ⟨rfl,Below.refl _ _⟩
  | cons x xs =>
   obtain ⟨_,_,hc1⟩ := hr0;obtain ⟨⟨b,o,s⟩,rfl,hc⟩ := hc1 (by rw [List.length_cons];omega);clear hc1
   have hcell : ∀ (j : Nat) y,(x :: xs)[j]? = some y → w.cell? (Addr.add ⟨b,o,s⟩ j) = some (.string y) := by
    intro j y hj;obtain ⟨c,_,hk,hcc⟩ := hc j y hj;have := hcc 0 (.string y) (by rw [show c = [.string y] from hk];rfl);simpa [show Kd.string.sz = 1 from rfl] using this
   have h0 := hcell 0 x rfl
   have hsp : s = none := by
    cases s with
    | none => rfl
    | some v =>
     simp only [Addr.add] at h0;unfold World.cell? at h0;split at h0
     ·simp at h0
     ·cases h0
   subst hsp;have hb : b < w.heap.size := wB w ⟨b,o,none⟩ (by simpa [Addr.add] using h0);refine Try.strings_Join b o c0 (x :: xs) a1 w (fun j y hj => ?_) hb hs.1 hc0 hs.2;have := hcell j y hj;unfold Addr.add at this
   by_cases e : j = 0
   ·subst e;simpa using this
   ·rw [if_neg e] at this;exact this
 ·rw [if_neg hs] at h;cases h
end Go.Proofs.Ytmkkcpdpfelalaa.P
