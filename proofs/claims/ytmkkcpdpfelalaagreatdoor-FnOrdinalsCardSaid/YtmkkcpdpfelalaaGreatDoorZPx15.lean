/- Written by a program in this session: each theorem here says that a Go function computes the Lean function beside it, or that a law's row holds, under the conditions that the theorem itself states. -/
import Derived.Test.YtmkkcpdpfelalaaGreatDoorZPx0
import Derived.Test.YtmkkcpdpfelalaaGreatDoorZPx1
import Derived.Test.YtmkkcpdpfelalaaGreatDoorZPx4
import Derived.Test.YtmkkcpdpfelalaaGreatDoorZPx7
import Derived.Test.YtmkkcpdpfelalaaGreatDoorZPx9
namespace Go.Proofs.YtmkkcpdpfelalaaGreatDoor.P
open Go.RowKit Go.Proofs.YtmkkcpdpfelalaaGreatDoorW.PrintWords Go.Proofs.YtmkkcpdpfelalaaGreatDoorW.PrintLast Go.Proofs.YtmkkcpdpfelalaaGreatDoorW.PrintMore
attribute [local go_sem] max2_int min2_int max_two min_two max_three min_three max_four min_four   -- for this text's walks alone
set_option linter.unusedVariables false
set_option linter.unusedSimpArgs false
mutual
def spec_ListText.j0 : Nat → List ByteArray → Bool → ByteArray → List (S65) → List (S67) → ByteArray → ByteArray → Option (ByteArray × Bool)
 | 0,_,_,_,_,_,_,_ => none
 | k + 1,x1,x15,x471000,x471001,x471002,x471003,x471004 => if x15 = true then (some ((⟨#[]⟩ : ByteArray),false)) else (spec_ListText.l0 k x1 (⟨#[]⟩ : ByteArray) 0 x471000 x471001 x471002 x471003 x471004)
def spec_ListText.l0 : Nat → List ByteArray → ByteArray → Int → ByteArray → List (S65) → List (S67) → ByteArray → ByteArray → Option (ByteArray × Bool)
 | 0,_,_,_,_,_,_,_,_ => none
 | k + 1,x1,x6,x7,x471000,x471001,x471002,x471003,x471004 => if x7 < (x1.length : Int) then (if 0 ≤ x7 then ((spec_l23Bytes.f k (rdOf ByteArray.empty x1 x7) 0 20 32).bind fun t473 => (if t473 = true then (if x7 = 0 then (if x6.size + (rdOf ByteArray.empty x1 x7).size ≤ 9223372036854775807 then (spec_ListText.l0 k x1 (x6 ++ (rdOf ByteArray.empty x1 x7)) (wrap64 (x7 + 1)) x471000 x471001 x471002 x471003 x471004) else (none)) else (if (x1.length : Int) = 2 then (if x6.size + x471004.size ≤ 9223372036854775807 then (if (x6 ++ x471004).size + (rdOf ByteArray.empty x1 x7).size ≤ 9223372036854775807 then (spec_ListText.l0 k x1 ((x6 ++ x471004) ++ (rdOf ByteArray.empty x1 x7)) (wrap64 (x7 + 1)) x471000 x471001 x471002 x471003 x471004) else (none)) else (none)) else (if x7 = (wrap64 ((x1.length : Int) - 1)) then (if x6.size + x471003.size ≤ 9223372036854775807 then (if (x6 ++ x471003).size + (rdOf ByteArray.empty x1 x7).size ≤ 9223372036854775807 then (spec_ListText.l0 k x1 ((x6 ++ x471003) ++ (rdOf ByteArray.empty x1 x7)) (wrap64 (x7 + 1)) x471000 x471001 x471002 x471003 x471004) else (none)) else (none)) else (if x6.size + 2 ≤ 9223372036854775807 then (if (x6 ++ (⟨#[44,32]⟩ : ByteArray)).size + (rdOf ByteArray.empty x1 x7).size ≤ 9223372036854775807 then (spec_ListText.l0 k x1 ((x6 ++ (⟨#[44,32]⟩ : ByteArray)) ++ (rdOf ByteArray.empty x1 x7)) (wrap64 (x7 + 1)) x471000 x471001 x471002 x471003 x471004) else (none)) else (none))))) else (some ((⟨#[]⟩ : ByteArray),false)))) else (none)) else (some (x6,true))
end
def spec_ListText.f (k : Nat) (a0_0 : ByteArray) (l0_1 : List (S65)) (l0_2 : List (S67)) (a0_3 : ByteArray) (a0_4 : ByteArray) (l1 : List ByteArray) : Option (ByteArray × Bool) := (spec_l23Good.f k a0_0 l0_1 l0_2 a0_3 a0_4).bind fun t471 => (if t471 = true then (spec_ListText.j0 k l1 (decide ((l1.length : Int) > 10)) a0_0 l0_1 l0_2 a0_3 a0_4) else (spec_ListText.j0 k l1 true a0_0 l0_1 l0_2 a0_3 a0_4))
theorem spec_ListText.mono_l : ∀ k,(∀ y0 y1 y2 y3 y4 y5 y6,LeO (spec_ListText.j0 k y0 y1 y2 y3 y4 y5 y6) (spec_ListText.j0 (k + 1) y0 y1 y2 y3 y4 y5 y6)) ∧ (∀ y0 y1 y2 y3 y4 y5 y6 y7,LeO (spec_ListText.l0 k y0 y1 y2 y3 y4 y5 y6 y7) (spec_ListText.l0 (k + 1) y0 y1 y2 y3 y4 y5 y6 y7))
 | 0 => ⟨fun _ _ _ _ _ _ _ r h => by simp [spec_ListText.j0] at h,fun _ _ _ _ _ _ _ _ r h => by simp [spec_ListText.l0] at h⟩
 | k + 1 => by
  obtain ⟨ih0,ih1⟩ := spec_ListText.mono_l k
  refine ⟨?_,?_⟩
  ·intro y0 y1 y2 y3 y4 y5 y6
   unfold spec_ListText.j0
   repeat' first
   | (with_reducible exact ih0 _ _ _ _ _ _ _)
   | (with_reducible exact ih1 _ _ _ _ _ _ _ _)
   | (with_reducible exact spec_l23Bytes.mono _ _ _ _ _)
   | (with_reducible exact spec_l23Good.mono _ _ _ _ _ _)
   | (with_reducible exact LeO.refl _)
   | (with_reducible exact LeO.none _)
   | (with_reducible refine LeO.ite ?_ ?_)
   | (with_reducible refine LeO.bind ?_ (fun _ => ?_))
   | exact ih0 _ _ _ _ _ _ _
   | exact ih1 _ _ _ _ _ _ _ _
   | exact spec_l23Bytes.mono _ _ _ _ _
   | exact spec_l23Good.mono _ _ _ _ _ _
   | exact LeO.none _
   | refine LeO.ite ?_ ?_
   | refine LeO.bind ?_ (fun _ => ?_)
  ·intro y0 y1 y2 y3 y4 y5 y6 y7
   unfold spec_ListText.l0
   repeat' first
   | (with_reducible exact ih0 _ _ _ _ _ _ _)
   | (with_reducible exact ih1 _ _ _ _ _ _ _ _)
   | (with_reducible exact spec_l23Bytes.mono _ _ _ _ _)
   | (with_reducible exact spec_l23Good.mono _ _ _ _ _ _)
   | (with_reducible exact LeO.refl _)
   | (with_reducible exact LeO.none _)
   | (with_reducible refine LeO.ite ?_ ?_)
   | (with_reducible refine LeO.bind ?_ (fun _ => ?_))
   | exact ih0 _ _ _ _ _ _ _
   | exact ih1 _ _ _ _ _ _ _ _
   | exact spec_l23Bytes.mono _ _ _ _ _
   | exact spec_l23Good.mono _ _ _ _ _ _
   | exact LeO.none _
   | refine LeO.ite ?_ ?_
   | refine LeO.bind ?_ (fun _ => ?_)
theorem spec_ListText.mono : ∀ a0 a1 a2 a3 a4 a5 k,LeO (spec_ListText.f k a0 a1 a2 a3 a4 a5) (spec_ListText.f (k + 1) a0 a1 a2 a3 a4 a5) := by
 intro a0 a1 a2 a3 a4 a5 k
 obtain ⟨ih0,ih1⟩ := spec_ListText.mono_l k
 unfold spec_ListText.f
 repeat' first
   | (with_reducible exact ih0 _ _ _ _ _ _ _)
   | (with_reducible exact ih1 _ _ _ _ _ _ _ _)
   | (with_reducible exact spec_l23Bytes.mono _ _ _ _ _)
   | (with_reducible exact spec_l23Good.mono _ _ _ _ _ _)
   | (with_reducible exact LeO.refl _)
   | (with_reducible exact LeO.none _)
   | (with_reducible refine LeO.ite ?_ ?_)
   | (with_reducible refine LeO.bind ?_ (fun _ => ?_))
   | exact ih0 _ _ _ _ _ _ _
   | exact ih1 _ _ _ _ _ _ _ _
   | exact spec_l23Bytes.mono _ _ _ _ _
   | exact spec_l23Good.mono _ _ _ _ _ _
   | exact LeO.none _
   | refine LeO.ite ?_ ?_
   | refine LeO.bind ?_ (fun _ => ?_)
set_option maxHeartbeats 8000000 in
set_option maxRecDepth 100000 in
theorem spec_ListText.calls (k : Nat) (a0_0 : ByteArray) (A0_1 : Option Addr) (c0_1 : Nat) (l0_1 : List (S65)) (A0_2 : Option Addr) (c0_2 : Nat) (l0_2 : List (S67)) (a0_3 : ByteArray) (a0_4 : ByteArray) (A1 : Option Addr) (c1 : Nat) (l1 : List ByteArray) (r1 : ByteArray) (r2 : Bool) (w : World) (hr0_1 : Kd.C k65 w A0_1 l0_1.length l0_1) (hc0_1 : l0_1.length ≤ c0_1) (hr0_2 : Kd.C k67 w A0_2 l0_2.length l0_2) (hc0_2 : l0_2.length ≤ c0_2) (hr1 : Kd.C Kd.string w A1 l1.length l1) (hc1 : l1.length ≤ c1) (h : spec_ListText.f k a0_0 l0_1 l0_2 a0_3 a0_4 l1 = some (r1,r2)) :
  Calls Tryz.prog 13 #[.agg #[.string a0_0,.slice A0_1 l0_1.length c0_1,.slice A0_2 l0_2.length c0_2,.string a0_3,.string a0_4],.slice A1 l1.length c1] w fun e w' => e = .returned (.tuple #[.string r1,.bool r2]) ∧ Below w.heap.size w w' := by
 have hu27 := Tryz.underlying27;have HR0_1 := aM hr0_1;have HC0_1 := aM hc0_1;clear hr0_1 hc0_1;have HR0_2 := aM hr0_2;have HC0_2 := aM hc0_2;clear hr0_2 hc0_2;have HR1 := aM hr1;have HC1 := aM hc1;clear hr1 hc1;have HB := aM (Below.refl w.heap.size w);have H : ((spec_l23Good.f k a0_0 l0_1 l0_2 a0_3 a0_4).bind fun t471 => (if t471 = true then (spec_ListText.j0 k l1 (decide ((l1.length : Int) > 10)) a0_0 l0_1 l0_2 a0_3 a0_4) else (spec_ListText.j0 k l1 true a0_0 l0_1 l0_2 a0_3 a0_4))) = some (r1,r2) := h;clear h;have HC3 := aM H;clear H;go_enter Tryz.func13,Tryz.ntmps13;go_upto_region 1 with (first|((with_reducible refine gate_dst (N := 2) rfl ?_);(try (refine gate_guard (by rfl) ?_;dsimp only));refine box_event ?hg (N := 2) ?hd (cs := #[.string a0_0,.slice A0_1 l0_1.length c0_1,.slice A0_2 l0_2.length c0_2,.string a0_3,.string a0_4]) (t := 27) ?hr ?_;(case hd => rfl);(case hg => rfl);(case hr => first|(go_simp;done)|(go_simp;rfl));intro gb470 hg w4 hbox hb;have BK470 := aM (hbox);have GW470 := aM ((by rw [hg];exact (lZ hb_) : w.heap.size ≤ gb470));have GE470 := GW470;replace HB := aM (lT hb_ hb);clear hb hbox hg));(try simp only [Act.put,lI,sZ,sS]);go_cut [15] (fun v15 wc => ∃ (kq : Nat) (x15_2 : Bool),v15 = .bool x15_2 ∧ Aside0 (spec_ListText.j0 kq l1 x15_2 a0_0 l0_1 l0_2 a0_3 a0_4 = some (r1,r2)) ∧ Aside0 (kq ≤ k) ∧ Aside0 (wc.heap[gb470]? = some (.cells #[.string a0_0,(.slice A0_1 l0_1.length c0_1),(.slice A0_2 l0_2.length c0_2),.string a0_3,.string a0_4] 27 (0,0))) ∧ Aside0 (Below w.heap.size w wc))
 case first =>
  have H := HC3.out;clear HC3;obtain ⟨t471,A5,H⟩ := bE_ H
  by_cases c6 : t471 = true
  focus
   subst c6;rw [if_pos rfl] at H;have H' := aM H;clear H
  rotate_left
  focus
   replace c6 := Bool.eq_false_iff.mpr c6;subst c6;rw [if_neg Bool.false_ne_true] at H;have H' := aM H;clear H
  all_goals
   obtain ⟨hczx470_0,hczx470_1,hczx470_2,hczx470_3,hczx470_4,hfzx470_0,hfzx470_1,hfzx470_2,hfzx470_3,hfzx470_4⟩ := z5_ BK470.out;go_wp2_with (first|((with_reducible refine gate_callee (f := 22) rfl ?_);refine goesL_ (some 9) rfl rfl Tryz.func22 (by kernel_rfl) rfl #[.agg #[.string a0_0,.slice A0_1 l0_1.length c0_1,.slice A0_2 l0_2.length c0_2,.string a0_3,.string a0_4]] rfl (by (try simp only [mT,mC,mN]);first|done|rfl|(simp only [xD,xT];rfl)) ?_;(with_reducible refine (spec_l23Good.calls _ _ _ _ _ _ _ _ _ _ _ _ ?side1 ?side2 ?side3 ?side4 A5.out).mono ?_);(case side1 => repeat (first|exact (cB HR0_1.out HB.out)|(with_reducible first|refine cA ?_ _|refine cN ?_ _|refine cD ?_)));(case side2 => exact HC0_1.out);(case side3 => repeat (first|exact (cB HR0_2.out HB.out)|(with_reducible first|refine cA ?_ _|refine cN ?_ _|refine cD ?_)));(case side4 => exact HC0_2.out);rintro e WA5 ⟨rfl,hb⟩;refine ⟨_,rfl,?_⟩;replace BK470 := aM (bW (g := gb470) (o := .cells #[.string a0_0,.slice A0_1 l0_1.length c0_1,.slice A0_2 l0_2.length c0_2,.string a0_3,.string a0_4] 27 (0,0)) (bk_ BK470.out) hb);replace HB := aM (lT hb_ hb);(try clear hb)));go_meet
   case rel => first|(exact ⟨_,(decide ((l1.length : Int) > 10)),(by first|rfl|(simp [*];done)),H',⟨by first|omega|exact Nat.le_refl _⟩,⟨by (with_reducible repeat (first|refine bN ?_ _|refine bD ?_|refine bA ?_ _));exact BK470.out⟩,⟨hb_⟩⟩)|(exact ⟨_,(true),(by first|rfl|(simp [*];done)),H',⟨by first|omega|exact Nat.le_refl _⟩,⟨by (with_reducible repeat (first|refine bN ?_ _|refine bD ?_|refine bA ?_ _));exact BK470.out⟩,⟨hb_⟩⟩)
 case rest =>
  clear HC3;(try clear c1);(try clear c2);(try clear p2);(try clear c6);(try clear hcz7_0);(try clear hcz7_1);(try clear hcz7_2);(try clear hcz7_3);(try clear hcz7_4);(try clear hcz9_0);(try clear hcz9_1);(try clear hcz9_2);(try clear hcz9_3);(try clear hcz9_4);(try clear hfz7_0);(try clear hfz7_1);(try clear hfz7_2);(try clear hfz7_3);(try clear hfz7_4);(try clear hfz9_0);(try clear hfz9_1);(try clear hfz9_2);(try clear hfz9_3);(try clear hfz9_4);obtain ⟨kq,x15_2,rfl,HA,HJ2,BK470,HB⟩ := hcut
  cases kq with
  | zero => exact absurd HA.out (by simp [spec_ListText.j0])
  | succ kj2 =>
   have H := HA.out;clear HA;simp only [spec_ListText.j0] at H
   by_cases c11 : x15_2 = true
   ·subst c11;rw [if_pos rfl] at H;simp only [eS,eP] at H;obtain ⟨rfl,rfl⟩ := H;go_wp2;go_ret2;exact ⟨by first|rfl|(simp [*];done),hb_⟩
   ·replace c11 := Bool.eq_false_iff.mpr c11;subst c11;rw [if_neg Bool.false_ne_true] at H;have H' := aM H;clear H;go_wp2;go_loopg [6,7] kj2 (fun kq v6 v7 w' => ∃ (x6_2 : ByteArray) (x7_2 : Int),v6 = .string x6_2 ∧ v7 = .int .i64 x7_2 ∧ Aside0 (spec_ListText.l0 kq l1 x6_2 x7_2 a0_0 l0_1 l0_2 a0_3 a0_4 = some (r1,r2)) ∧ Aside0 (kq ≤ kj2) ∧ Aside0 (w'.heap[gb470]? = some (.cells #[.string a0_0,(.slice A0_1 l0_1.length c0_1),(.slice A0_2 l0_2.length c0_2),.string a0_3,.string a0_4] 27 (0,0))) ∧ Aside0 (Below w.heap.size w w'))
    case atStart => exact ⟨((⟨#[]⟩ : ByteArray)),(0),(by first|rfl|(simp [*];done)),(by first|rfl|(simp [*];done)),H',⟨Nat.le_refl _⟩,⟨by (with_reducible repeat (first|refine bN ?_ _|refine bD ?_|refine bA ?_ _));exact BK470.out⟩,⟨hb_⟩⟩
    case round =>
     clear H';(try clear c1);(try clear c2);(try clear p2);(try clear c6);(try clear c11);(try clear hcz7_0);(try clear hcz7_1);(try clear hcz7_2);(try clear hcz7_3);(try clear hcz7_4);(try clear hcz9_0);(try clear hcz9_1);(try clear hcz9_2);(try clear hcz9_3);(try clear hcz9_4);(try clear hfz7_0);(try clear hfz7_1);(try clear hfz7_2);(try clear hfz7_3);(try clear hfz7_4);(try clear hfz9_0);(try clear hfz9_1);(try clear hfz9_2);(try clear hfz9_3);(try clear hfz9_4);(try clear p2);obtain ⟨x6_2,x7_2,rfl,rfl,HA,HK2,BK470,HB⟩ := hrel
     cases gk with
     | zero => exact absurd HA.out (by simp [spec_ListText.l0])
     | succ k2 =>
      have H := HA.out;clear HA;simp only [spec_ListText.l0] at H
      by_cases c12 : x7_2 < (l1.length : Int)
      focus
       rw [if_pos c12] at H;have c12b0 : decide (x7_2 < (l1.length : Int)) = true := dT c12;clear c12
       by_cases c13 : 0 ≤ x7_2
       rotate_left;rw [if_neg c13] at H;exact absurd H (by simp);rw [if_pos c13] at H;have c13b0 : decide (0 ≤ x7_2) = true := dT c13;clear c13;obtain ⟨t473,A14,H⟩ := bE_ H
       by_cases c15 : t473 = true
       focus
        subst c15;rw [if_pos rfl] at H
        by_cases c16 : x7_2 = 0
        focus
         rw [if_pos c16] at H;have c16b0 : (x7_2 == 0) = true := beq_iff_eq.mpr c16;have c16b1 : (x7_2 != 0) = false := bne_eq_false_iff_eq.mpr c16;clear c16
         by_cases c17 : x6_2.size + (rdOf ByteArray.empty l1 x7_2).size ≤ 9223372036854775807
         rotate_left;rw [if_neg c17] at H;exact absurd H (by simp);rw [if_pos c17] at H;have c17b0 := eq_true c17;have c17b1 : decide (x6_2.size + (rdOf ByteArray.empty l1 x7_2).size ≤ 9223372036854775807) = true := dT c17;(try have c17b2 : (9223372036854775807 < x6_2.size + (rdOf ByteArray.empty l1 x7_2).size) = False := eq_false (Nat.not_lt.2 c17));have H' := aM H;clear H
        rotate_left
        focus
         rw [if_neg c16] at H;have c16b0 : (x7_2 == 0) = false := beq_eq_false_iff_ne.mpr c16;have c16b1 : (x7_2 != 0) = true := bne_iff_ne.mpr c16
         by_cases c18 : (l1.length : Int) = 2
         focus
          rw [if_pos c18] at H;have c18b0 : ((l1.length : Int) == 2) = true := beq_iff_eq.mpr c18;have c18b1 : ((l1.length : Int) != 2) = false := bne_eq_false_iff_eq.mpr c18;clear c18
          by_cases c19 : x6_2.size + a0_4.size ≤ 9223372036854775807
          rotate_left;rw [if_neg c19] at H;exact absurd H (by simp);rw [if_pos c19] at H;have c19b0 := eq_true c19;have c19b1 : decide (x6_2.size + a0_4.size ≤ 9223372036854775807) = true := dT c19;(try have c19b2 : (9223372036854775807 < x6_2.size + a0_4.size) = False := eq_false (Nat.not_lt.2 c19))
          by_cases c20 : (x6_2 ++ a0_4).size + (rdOf ByteArray.empty l1 x7_2).size ≤ 9223372036854775807
          rotate_left;rw [if_neg c20] at H;exact absurd H (by simp);rw [if_pos c20] at H;have c20b0 := eq_true c20;have c20b1 : decide ((x6_2 ++ a0_4).size + (rdOf ByteArray.empty l1 x7_2).size ≤ 9223372036854775807) = true := dT c20;(try have c20b3 : (9223372036854775807 < x6_2.size + a0_4.size + (rdOf ByteArray.empty l1 x7_2).size) = False := eq_false (by have h_ := c20;simp only [ByteArray.size_append,ByteArray.size_extract] at h_;omega));(try have c20b2 : (9223372036854775807 < (x6_2 ++ a0_4).size + (rdOf ByteArray.empty l1 x7_2).size) = False := eq_false (Nat.not_lt.2 c20));have H' := aM H;clear H
         rotate_left
         focus
          rw [if_neg c18] at H;have c18b0 : ((l1.length : Int) == 2) = false := beq_eq_false_iff_ne.mpr c18;have c18b1 : ((l1.length : Int) != 2) = true := bne_iff_ne.mpr c18
          by_cases c22 : x7_2 = (wrap64 ((l1.length : Int) - 1))
          focus
           rw [if_pos c22] at H;have c22b0 : (x7_2 == (wrap64 ((l1.length : Int) - 1))) = true := beq_iff_eq.mpr c22;have c22b1 : (x7_2 != (wrap64 ((l1.length : Int) - 1))) = false := bne_eq_false_iff_eq.mpr c22;clear c22
           by_cases c23 : x6_2.size + a0_3.size ≤ 9223372036854775807
           rotate_left;rw [if_neg c23] at H;exact absurd H (by simp);rw [if_pos c23] at H;have c23b0 := eq_true c23;have c23b1 : decide (x6_2.size + a0_3.size ≤ 9223372036854775807) = true := dT c23;(try have c23b2 : (9223372036854775807 < x6_2.size + a0_3.size) = False := eq_false (Nat.not_lt.2 c23))
           by_cases c24 : (x6_2 ++ a0_3).size + (rdOf ByteArray.empty l1 x7_2).size ≤ 9223372036854775807
           rotate_left;rw [if_neg c24] at H;exact absurd H (by simp);rw [if_pos c24] at H;have c24b0 := eq_true c24;have c24b1 : decide ((x6_2 ++ a0_3).size + (rdOf ByteArray.empty l1 x7_2).size ≤ 9223372036854775807) = true := dT c24;(try have c24b3 : (9223372036854775807 < x6_2.size + a0_3.size + (rdOf ByteArray.empty l1 x7_2).size) = False := eq_false (by have h_ := c24;simp only [ByteArray.size_append,ByteArray.size_extract] at h_;omega));(try have c24b2 : (9223372036854775807 < (x6_2 ++ a0_3).size + (rdOf ByteArray.empty l1 x7_2).size) = False := eq_false (Nat.not_lt.2 c24));have H' := aM H;clear H
          rotate_left
          focus
           rw [if_neg c22] at H;have c22b0 : (x7_2 == (wrap64 ((l1.length : Int) - 1))) = false := beq_eq_false_iff_ne.mpr c22;have c22b1 : (x7_2 != (wrap64 ((l1.length : Int) - 1))) = true := bne_iff_ne.mpr c22
           by_cases c26 : x6_2.size + 2 ≤ 9223372036854775807
           rotate_left;rw [if_neg c26] at H;exact absurd H (by simp);rw [if_pos c26] at H;have c26b0 := eq_true c26;have c26b1 : decide (x6_2.size + 2 ≤ 9223372036854775807) = true := dT c26;(try have c26b2 : (9223372036854775807 < x6_2.size + 2) = False := eq_false (Nat.not_lt.2 c26))
           by_cases c27 : (x6_2 ++ (⟨#[44,32]⟩ : ByteArray)).size + (rdOf ByteArray.empty l1 x7_2).size ≤ 9223372036854775807
           rotate_left;rw [if_neg c27] at H;exact absurd H (by simp);rw [if_pos c27] at H;have c27b0 := eq_true c27;have c27b1 : decide ((x6_2 ++ (⟨#[44,32]⟩ : ByteArray)).size + (rdOf ByteArray.empty l1 x7_2).size ≤ 9223372036854775807) = true := dT c27;(try have c27b3 : (9223372036854775807 < x6_2.size + 2 + (rdOf ByteArray.empty l1 x7_2).size) = False := eq_false (by have h_ := c27;simp only [ByteArray.size_append,ByteArray.size_extract] at h_;have hs0_ : (⟨#[44,32]⟩ : ByteArray).size = 2 := rfl;omega));(try have c27b2 : (9223372036854775807 < (x6_2 ++ (⟨#[44,32]⟩ : ByteArray)).size + (rdOf ByteArray.empty l1 x7_2).size) = False := eq_false (Nat.not_lt.2 c27));have H' := aM H;clear H
       rotate_left 4
       focus
        replace c15 := Bool.eq_false_iff.mpr c15;subst c15;rw [if_neg Bool.false_ne_true] at H;simp only [eS,eP] at H;obtain ⟨rfl,rfl⟩ := H
      rotate_left 5
      focus
       rw [if_neg c12] at H;have c12b0 : decide (x7_2 < (l1.length : Int)) = false := dF c12;clear c12;simp only [eS,eP] at H;obtain ⟨rfl,rfl⟩ := H
      all_goals
       (try (have p01 : 0 ≤ (x7_2 : Int) := oD (by assumption);have q01 : x7_2 < (l1.length : Int) := oD (by assumption);obtain ⟨ad01,e01,hx01_0⟩ := Kd.at_string HR1.out x7_2 p01 q01;cases e01;replace hx01_0 := (HB.out.cell (wB w _ hx01_0)).trans hx01_0;replace p01 := eq_true p01;replace q01 := eq_true q01));go_wp2_with (first|((with_reducible refine gate_callee (f := 35) rfl ?_);refine goesL_ (some 26) rfl rfl Tryz.func35 (by kernel_rfl) rfl #[.string (rdOf ByteArray.empty l1 x7_2),.int .i64 0,.int .i64 20,.int .u8 32] rfl (by (try simp only [mT,mC,mN]);first|done|rfl|(simp only [xD,xT];rfl)) ?_;(with_reducible refine (spec_l23Bytes.calls _ _ _ _ _ _ _ A14.out).mono ?_);rintro e w' ⟨rfl,⟨nd,rfl⟩⟩;refine ⟨_,rfl,?_⟩;(try (have p02 : 0 ≤ (x7_2 : Int) := oD (by assumption);have q02 : x7_2 < (l1.length : Int) := oD (by assumption);obtain ⟨ad02,e02,hx02_0⟩ := Kd.at_string HR1.out x7_2 p02 q02;obtain rfl : ad01 = ad02 := (by injection e02);replace hx02_0 := (HB.out.cell (wB w _ hx02_0)).trans hx02_0;replace p02 := eq_true p02;replace q02 := eq_true q02));obtain ⟨hcz14x470_0,hcz14x470_1,hcz14x470_2,hcz14x470_3,hcz14x470_4,hfz14x470_0,hfz14x470_1,hfz14x470_2,hfz14x470_3,hfz14x470_4⟩ := z5_ BK470.out))
       first
        |
         go_ret2;exact ⟨by first|rfl|(simp [*];done),hb_⟩
        |
         go_roundg k2
         case measure => have := HJ2.out;have := HK2.out;omega
         case rel => first|(exact ⟨(x6_2 ++ (rdOf ByteArray.empty l1 x7_2)),(wrap64 (x7_2 + 1)),(by first|rfl|(simp [*];done)),(by first|rfl|(simp [*];done)),H',⟨by have := HJ2.out;have := HK2.out;omega⟩,⟨by (with_reducible repeat (first|refine bN ?_ _|refine bD ?_|refine bA ?_ _));exact BK470.out⟩,⟨hb_⟩⟩)|(exact ⟨((x6_2 ++ a0_4) ++ (rdOf ByteArray.empty l1 x7_2)),(wrap64 (x7_2 + 1)),(by first|rfl|(simp [*];done)),(by first|rfl|(simp [*];done)),H',⟨by have := HJ2.out;have := HK2.out;omega⟩,⟨by (with_reducible repeat (first|refine bN ?_ _|refine bD ?_|refine bA ?_ _));exact BK470.out⟩,⟨hb_⟩⟩)|(exact ⟨((x6_2 ++ a0_3) ++ (rdOf ByteArray.empty l1 x7_2)),(wrap64 (x7_2 + 1)),(by first|rfl|(simp [*];done)),(by first|rfl|(simp [*];done)),H',⟨by have := HJ2.out;have := HK2.out;omega⟩,⟨by (with_reducible repeat (first|refine bN ?_ _|refine bD ?_|refine bA ?_ _));exact BK470.out⟩,⟨hb_⟩⟩)|(exact ⟨((x6_2 ++ (⟨#[44,32]⟩ : ByteArray)) ++ (rdOf ByteArray.empty l1 x7_2)),(wrap64 (x7_2 + 1)),(by first|rfl|(simp [*];done)),(by first|rfl|(simp [*];done)),H',⟨by have := HJ2.out;have := HK2.out;omega⟩,⟨by (with_reducible repeat (first|refine bN ?_ _|refine bD ?_|refine bA ?_ _));exact BK470.out⟩,⟨hb_⟩⟩)
def spec_DrawRomanText.f (l0 : List Int) : Option (Int × Bool) := (spec_l1Cur_pick.f l0 0 0 4000).bind fun bt479 => ((spec_l1Cur_among.f l0 bt479.2.1 bt479.2.2 (([1,4,9,14,49,90,400,944,1999,3999,bt479.1,0,4000] : List Int))).bind fun bt485 => ((spec_l1Cur_one.f l0 bt485.2.1 bt485.2.2 2).bind fun bt488 => (some (bt485.1,bt488.1))))
set_option maxHeartbeats 8000000 in
set_option maxRecDepth 100000 in
theorem spec_DrawRomanText.calls (A0 : Option Addr) (c0 : Nat) (l0 : List Int) (r1 : Int) (r2 : Bool) (w : World) (hr0 : Kd.C (Kd.int .u8) w A0 l0.length l0) (hc0 : l0.length ≤ c0) (h : spec_DrawRomanText.f l0 = some (r1,r2)) :
  Calls Tryz.prog 14 #[.slice A0 l0.length c0] w fun e w' => e = .returned (.tuple #[.int .i64 r1,.bool r2]) ∧ Below w.heap.size w w' := by
 have hu45 := Tryz.underlying45;have HR0 := aM hr0;have HC0 := aM hc0;clear hr0 hc0;have HB := aM (Below.refl w.heap.size w);have H : ((spec_l1Cur_pick.f l0 0 0 4000).bind fun bt479 => ((spec_l1Cur_among.f l0 bt479.2.1 bt479.2.2 (([1,4,9,14,49,90,400,944,1999,3999,bt479.1,0,4000] : List Int))).bind fun bt485 => ((spec_l1Cur_one.f l0 bt485.2.1 bt485.2.2 2).bind fun bt488 => (some (bt485.1,bt488.1))))) = some (r1,r2) := h;clear h;replace H := Option.bind_eq_some_iff.mp H;obtain ⟨⟨t479,t480,t481⟩,A20,H⟩ := H;replace H : ((spec_l1Cur_among.f l0 t480 t481 (([1,4,9,14,49,90,400,944,1999,3999,t479,0,4000] : List Int))).bind fun bt485 => ((spec_l1Cur_one.f l0 bt485.2.1 bt485.2.2 2).bind fun bt488 => (some (bt485.1,bt488.1)))) = some (r1,r2) := H;have A2 := aM A20;clear A20;obtain ⟨y482,hy482⟩ : ∃ y_ : List Int,y_ = (([1,4,9,14,49,90,400,944,1999,3999,t479,0,4000] : List Int)) := ⟨_,rfl⟩;replace H : ((spec_l1Cur_among.f l0 t480 t481 y482).bind fun bt485 => ((spec_l1Cur_one.f l0 bt485.2.1 bt485.2.2 2).bind fun bt488 => (some (bt485.1,bt488.1)))) = some (r1,r2) := (by first|(rw [hy482];with_reducible exact H)|(have H2_ := (Option.bind_some _ _).symm.trans H;rw [hy482];with_reducible exact H2_)|(have H2_ := (Option.bind_some _ _).symm.trans H;with_reducible exact H2_)|with_reducible exact H|(rw [hy482];exact H)|exact H);have Ny482 := aM hy482;clear hy482;replace H := Option.bind_eq_some_iff.mp H;obtain ⟨⟨t485,t486,t487⟩,A30,H⟩ := H;replace H : ((spec_l1Cur_one.f l0 t486 t487 2).bind fun bt488 => (some (t485,bt488.1))) = some (r1,r2) := H;have A3 := aM A30;clear A30;replace H := Option.bind_eq_some_iff.mp H;obtain ⟨⟨t488,t489,t490⟩,A40,H⟩ := H;replace H : (some (t485,t488)) = some (r1,r2) := H;have A4 := aM A40;clear A40;simp only [eS,eP] at H;obtain ⟨rfl,rfl⟩ := H;go_enter Tryz.func14,Tryz.ntmps14;go_wp2_with (first|((with_reducible refine gate_dst (N := 7) rfl ?_);refine box_event ?hg (N := 7) ?hd (cs := #[.slice A0 l0.length c0,.int .i64 0,.int .u64 0]) (t := 45) ?hr ?_;(case hd => rfl);(case hg => rfl);(case hr => first|(go_simp;done)|(go_simp;rfl));intro gb478 hg w5 hbox hb;have HI478 := aM ((show IsS45 w w5 gb478 l0 0 0 from ⟨_,_,hbox,(by rw [hg];exact (lZ hb_) : w.heap.size ≤ gb478),HR0.out⟩));replace HB := aM (lT hb_ hb);clear hb hbox hg)|((with_reducible refine gate_callee (f := 29) rfl ?_);refine goesL_ (some 10) rfl rfl Tryz.func29 (by kernel_rfl) rfl #[.pointer (some ⟨gb478,0,none⟩),.int .i64 4000] rfl (by (try simp only [mT,mC,mN]);first|done|rfl|(simp only [xD,xT];rfl)) ?_;(with_reducible refine (spec_l1Cur_pick.calls gb478 l0 0 0 4000 t479 t480 t481 w _ ?side1 ?side2 A2.out).mono ?_);(case side1 => repeat (first|(with_reducible first|exact HI478.out|apply IsS45.alloc|apply IsS45.drewN|apply IsS45.drew|apply IsS45.set_1|apply IsS45.set_2)|exact HI478.out));(case side2 => repeat (first|(with_reducible first|exact HB.out|apply lA|apply lN|apply lD|refine lS ?_ (IsS45.ge HI478.out))|exact HB.out));rintro e w6 ⟨rfl,hi,hb,hk⟩;refine ⟨_,rfl,?_⟩;replace HB := aM (hb);replace HI478 := aM (hi);(try clear hb))|((with_reducible refine gate_dst (N := 11) rfl ?_);refine Kd.R_lit (Kd.int .i64) _ 3 ?hg (N := 11) ?hd (xs := ([1,4,9,14,49,90,400,944,1999,3999,t479,0,4000] : List Int)) (inner := [.int .i64 1,.int .i64 4,.int .i64 9,.int .i64 14,.int .i64 49,.int .i64 90,.int .i64 400,.int .i64 944,.int .i64 1999,.int .i64 3999,.int .i64 t479,.int .i64 0,.int .i64 4000]) (ok := fun _ => True) (okp := fun _ => True) ?hr ?hp (fun _ hk => hk) trivial (Below.refl _ _) (Nat.le_refl _) (by simp) ?_;(case hd => rfl);(case hg => rfl);(case hr => first|(go_simp;done)|(go_simp;rfl));(case hp => exact (Reps.one (show Kd.M (Kd.int .i64) _ _ _ 1 [.int .i64 1] from rfl) (Reps.one (show Kd.M (Kd.int .i64) _ _ _ 4 [.int .i64 4] from rfl) (Reps.one (show Kd.M (Kd.int .i64) _ _ _ 9 [.int .i64 9] from rfl) (Reps.one (show Kd.M (Kd.int .i64) _ _ _ 14 [.int .i64 14] from rfl) (Reps.one (show Kd.M (Kd.int .i64) _ _ _ 49 [.int .i64 49] from rfl) (Reps.one (show Kd.M (Kd.int .i64) _ _ _ 90 [.int .i64 90] from rfl) (Reps.one (show Kd.M (Kd.int .i64) _ _ _ 400 [.int .i64 400] from rfl) (Reps.one (show Kd.M (Kd.int .i64) _ _ _ 944 [.int .i64 944] from rfl) (Reps.one (show Kd.M (Kd.int .i64) _ _ _ 1999 [.int .i64 1999] from rfl) (Reps.one (show Kd.M (Kd.int .i64) _ _ _ 3999 [.int .i64 3999] from rfl) (Reps.one (show Kd.M (Kd.int .i64) _ _ _ t479 [.int .i64 t479] from rfl) (Reps.one (show Kd.M (Kd.int .i64) _ _ _ 0 [.int .i64 0] from rfl) (Reps.one (show Kd.M (Kd.int .i64) _ _ _ 4000 [.int .i64 4000] from rfl) (Reps.none _ _)))))))))))))));intro v483 w7 ho8 hb hg_ hnew_;clear hg_ hnew_;(first|rw [← Ny482.out] at ho8|(simp only [Int.reduceToNat] at ho8;rw [← Ny482.out] at ho8));have HO484 := aM (Kd.R_lower ho8 (lZ (by repeat (first|(with_reducible first|exact HB.out|apply lA|apply lN|apply lD|refine lS ?_ (IsS45.ge HI478.out))|exact HB.out))));replace HB := aM (lT (by repeat (first|(with_reducible first|exact HB.out|apply lA|apply lN|apply lD|refine lS ?_ (IsS45.ge HI478.out))|exact HB.out)) hb);replace HI478 := aM (IsS45.below (by repeat (first|(with_reducible first|exact HI478.out|apply IsS45.alloc|apply IsS45.drewN|apply IsS45.drew|apply IsS45.set_1|apply IsS45.set_2)|exact HI478.out)) hb);clear hb ho8;obtain ⟨Ao9,co9,eo9⟩ := Kd.R_slice HO484.out;subst eo9)|((with_reducible refine gate_callee (f := 36) rfl ?_);refine goesL_ (some 12) rfl rfl Tryz.func36 (by kernel_rfl) rfl #[.pointer (some ⟨gb478,0,none⟩),.slice Ao9 y482.length co9] rfl (by (try simp only [mT,mC,mN]);first|done|rfl|(simp only [xD,xT];rfl)) ?_;(with_reducible refine (spec_l1Cur_among.calls gb478 l0 t480 t481 _ _ y482 t485 t486 t487 w _ ?side1 ?side2 ?side3 ?side4 ?side5 A3.out).mono ?_);(case side1 => repeat (first|(with_reducible first|exact HI478.out|apply IsS45.alloc|apply IsS45.drewN|apply IsS45.drew|apply IsS45.set_1|apply IsS45.set_2)|exact HI478.out));(case side2 => repeat (first|(with_reducible first|exact HB.out|apply lA|apply lN|apply lD|refine lS ?_ (IsS45.ge HI478.out))|exact HB.out));(case side3 => repeat (first|exact (rR HO484.out).2.2|(with_reducible first|refine cA ?_ _|refine cN ?_ _|refine cD ?_)));(case side4 => exact (rR HO484.out).2.1);(case side5 => exact far_slice (IsS45.own_ne HI478.out HO484.out (by decide)));rintro e w10 ⟨rfl,hi,hb,hk⟩;refine ⟨_,rfl,?_⟩;replace HO484 := aM (Kd.R_mono (Kd.R_keep (IsS45.apart (show IsS45 w _ gb478 l0 t480 t481 from by repeat (first|(with_reducible first|exact HI478.out|apply IsS45.alloc|apply IsS45.drewN|apply IsS45.drew|apply IsS45.set_1|apply IsS45.set_2)|exact HI478.out)) (ho_ HO484.out) (by decide)) hk (fun _ h => h.2)) (fun _ h => h.1));replace HB := aM (hb);replace HI478 := aM (hi);(try clear hb))|((with_reducible refine gate_callee (f := 28) rfl ?_);refine goesL_ (some 14) rfl rfl Tryz.func28 (by kernel_rfl) rfl #[.pointer (some ⟨gb478,0,none⟩),.int .i64 2] rfl (by (try simp only [mT,mC,mN]);first|done|rfl|(simp only [xD,xT];rfl)) ?_;(with_reducible refine (spec_l1Cur_one.calls gb478 l0 t486 t487 2 t488 t489 t490 w _ ?side1 ?side2 A4.out).mono ?_);(case side1 => repeat (first|(with_reducible first|exact HI478.out|apply IsS45.alloc|apply IsS45.drewN|apply IsS45.drew|apply IsS45.set_1|apply IsS45.set_2)|exact HI478.out));(case side2 => repeat (first|(with_reducible first|exact HB.out|apply lA|apply lN|apply lD|refine lS ?_ (IsS45.ge HI478.out))|exact HB.out));rintro e w11 ⟨rfl,hi,hb,hk⟩;refine ⟨_,rfl,?_⟩;replace HO484 := aM (Kd.R_mono (Kd.R_keep (IsS45.apart (show IsS45 w _ gb478 l0 t486 t487 from by repeat (first|(with_reducible first|exact HI478.out|apply IsS45.alloc|apply IsS45.drewN|apply IsS45.drew|apply IsS45.set_1|apply IsS45.set_2)|exact HI478.out)) (ho_ HO484.out) (by decide)) hk (fun _ h => h.2)) (fun _ h => h.1));replace HB := aM (hb);replace HI478 := aM (hi);(try clear hb)));go_ret2;exact ⟨by first|rfl|(simp [*];done),by repeat (first|(with_reducible first|exact HB.out|apply lA|apply lN|apply lD|refine lS ?_ (IsS45.ge HI478.out))|exact HB.out)⟩
def impl_isUpper.f (a0 : Int) : Option (Bool) := if a0 ≥ 65 then (some (decide (a0 ≤ 90))) else (some false)
set_option maxHeartbeats 8000000 in
set_option maxRecDepth 100000 in
theorem impl_isUpper.calls (a0 : Int) (r : Bool) (w : World) (h : impl_isUpper.f a0 = some r) :
  Calls Tryz.prog 56 #[.int .u8 a0] w fun e w' => e = .returned (.bool r) ∧ Drawn0 w w' := by
 have H : (if a0 ≥ 65 then (some (decide (a0 ≤ 90))) else (some false)) = some r := h;clear h
 by_cases c2 : a0 ≥ 65
 focus
  rw [if_pos c2] at H;have c2b0 : decide (65 ≤ a0) = true := dT c2;clear c2;obtain rfl := Option.some.inj H;simp only [eS,eP] at H;obtain ⟨rfl⟩ := H
 rotate_left
 focus
  rw [if_neg c2] at H;have c2b0 : decide (65 ≤ a0) = false := dF c2;clear c2;obtain rfl := Option.some.inj H;simp only [eS,eP] at H;obtain ⟨rfl⟩ := H
 all_goals
  go_enter Tryz.func56,Tryz.ntmps56;go_wp2;go_ret;exact ⟨by first|rfl|(simp [*];done),by repeat (first|exact Drawn0.refl _|apply Drawn0.step)⟩
def lowI (c : Int) : Int := if 65 ≤ c ∧ c ≤ 90 then c + 32 else c
def impl_lower.f (a0 : ByteArray) : Option (ByteArray) := if a0.size ≤ 9223372036854775807 then some (strOfNums ((bytesOf a0).map lowI)) else none
def lowTo (xs : List Int) (k : Nat) : List Int := (xs.take k).map lowI ++ xs.drop k
theorem lowTo_length (xs : List Int) (k : Nat) (h : k ≤ xs.length) : (lowTo xs k).length = xs.length := by
 unfold lowTo;simp;omega
theorem lowTo_at (xs : List Int) (k : Nat) (h : k < xs.length) : (lowTo xs k).getD k 0 = xs.getD k 0 := by
 unfold lowTo;rw [List.getD_eq_getElem?_getD,List.getElem?_append_right (by simp;omega)];simp [List.getD_eq_getElem?_getD];rw [Nat.min_eq_left (by omega)];simp
theorem my_set_same (xs : List Int) (k : Nat) (h : k < xs.length) (c : Int) (hc : xs.getD k 0 = c) : xs.set k c = xs := by
 subst hc;simp [List.getD_eq_getElem?_getD,List.getElem?_eq_getElem h]
theorem lowTo_succ (xs : List Int) (k : Nat) (h : k < xs.length) : lowTo xs (k + 1) = (lowTo xs k).set k (lowI (xs.getD k 0)) := by
 unfold lowTo;have hl : ((xs.take k).map lowI).length = k := (by simp;omega);rw [List.set_append_right _ _ (by omega),hl,Nat.sub_self,List.drop_eq_getElem_cons h,sZ,List.take_succ_eq_append_getElem h,List.map_append];simp [List.getD_eq_getElem?_getD,List.getElem?_eq_getElem h]
set_option maxHeartbeats 8000000 in
set_option maxRecDepth 100000 in
theorem impl_lower.calls (a0 : ByteArray) (r : ByteArray) (w : World) (h : impl_lower.f a0 = some r) :
  Calls Tryz.prog 38 #[.string a0] w fun e w' => e = .returned (.string r) ∧ Below w.heap.size w w' := by
 unfold impl_lower.f at h
 by_cases hs : a0.size ≤ 9223372036854775807
 ·rw [if_pos hs] at h;obtain rfl := Option.some.inj h;have hcv := Lib.run_convert_string_bytes (P := Tryz.prog) w 9 22 5 a0 Tryz.underlying9 Tryz.underlying22 Tryz.underlying5
  have HB0 : BRow w (Lib.bytesWorld w 5 a0) w.heap.size (lowTo (bytesOf a0) 0) := by
   have := BRow.made w 5 a0;simpa [lowTo] using this
  generalize Lib.bytesWorld w 5 a0 = W1 at *;generalize grownCap w a0.size 0 5 = cap at *;have HB1 := aM HB0;clear HB0 h;go_enter Tryz.func38,Tryz.ntmps38;go_wp2;go_loopw [4,5,10] (fun _ _ i wr => ∃ k : Nat,k ≤ a0.size ∧ i = .int .i64 k ∧ BRow w wr w.heap.size (lowTo (bytesOf a0) k)) (fun _ _ i _ => a0.size - (intOf i).toNat)
  case atStart => exact ⟨0,Nat.zero_le _,rfl,HB1.out⟩
  case round =>
   obtain ⟨k,hk,rfl,HB⟩ := hrel;have hl := lowTo_length (bytesOf a0) k (by rw [bytesOf_length];exact hk);rw [bytesOf_length] at hl
   by_cases hlt : k < a0.size
   ·have hc := HB.cell k (by omega);have hf := HB.free k (by omega);have hg := lowTo_at (bytesOf a0) k (by rw [bytesOf_length];exact hlt);rw [hg] at hc;have hS := lowTo_succ (bytesOf a0) k (by rw [bytesOf_length];exact hlt)
    have hr : 0 ≤ (bytesOf a0).getD k 0 ∧ (bytesOf a0).getD k 0 ≤ 255 := by
     have := rd_bytesOf a0 k;simp only [rd,Int.toNat_natCast] at this;rw [this];exact bt_range _ _
    generalize (bytesOf a0).getD k 0 = c at *;obtain ⟨r0,r1⟩ := hr
    by_cases hu : 65 ≤ c ∧ c ≤ 90
    ·obtain ⟨u0,u1⟩ := hu;have hi : impl_isUpper.f c = some true := (by unfold impl_isUpper.f;simp [u0,u1]);have HS := aM hS;have HB2 := aM HB;have HG := aM hg;clear hS HB hg;go_wp2_with (go_at_call 56;(with_reducible refine (impl_isUpper.calls c true _ hi).mono ?_);rintro e w' ⟨rfl,⟨nd,rfl⟩⟩);go_roundw
     case measure => simp [intOf];omega
     case rel =>
      refine ⟨k + 1,by omega,by go_num,?_⟩;rw [HS.out];have hv : lowI c = c + 97 - 65 := (by unfold lowI;rw [if_pos ⟨u0,u1⟩];omega);rw [hv];exact (HB2.out.drewN nd).set k _
    ·have hi : impl_isUpper.f c = some false := by
      unfold impl_isUpper.f
      by_cases h65 : c ≥ 65
      ·rw [if_pos h65];simp;omega
      ·rw [if_neg h65]
     have HS := aM hS;have HB2 := aM HB;have HG := aM hg;clear hS HB hg;go_wp2_with (go_at_call 56;(with_reducible refine (impl_isUpper.calls c false _ hi).mono ?_);rintro e w' ⟨rfl,⟨nd,rfl⟩⟩);go_roundw
     case measure => simp [intOf];omega
     case rel =>
      refine ⟨k + 1,by omega,by go_num,?_⟩;rw [HS.out];have hv : lowI c = c := (by unfold lowI;rw [if_neg hu]);rw [hv];rw [my_set_same _ _ (by omega) _ HG.out];exact (HB2.out.drewN nd)
   ·have hk' : k = a0.size := (by omega);subst hk';have ht := HB.text 22 5 9 Tryz.underlying22 Tryz.underlying5 Tryz.underlying9 a0.size cap hl;have hb := HB.below;clear HB
    have hx : lowTo (bytesOf a0) a0.size = (bytesOf a0).map lowI := by
     unfold lowTo;rw [List.take_of_length_le (by rw [bytesOf_length];omega),List.drop_of_length_le (by rw [bytesOf_length];omega),List.append_nil]
    rw [hx] at ht;clear hx;go_wp2;go_ret;exact ⟨rfl,hb⟩
 ·rw [if_neg hs] at h;cases h
mutual
def impl_RomanText.l0 : Nat → Int → Bool → List ByteArray → ByteArray → List Int → Int → Int → Option (ByteArray × Bool)
 | 0,_,_,_,_,_,_,_ => none
 | k + 1,x0,x1,x7,x8,x16,x17,x18 => if x18 < x17 then (if 0 ≤ x18 then (if x18 < (x16.length : Int) then (impl_RomanText.l1 k x0 x1 x7 x8 x18 (rd x16 x18) x16 x17 x18) else (none)) else (none)) else (if x1 = true then (some (x8,true)) else ((impl_lower.f x8).bind fun t498 => (some (t498,true))))
def impl_RomanText.l1 : Nat → Int → Bool → List ByteArray → ByteArray → Int → Int → List Int → Int → Int → Option (ByteArray × Bool)
 | 0,_,_,_,_,_,_,_,_,_ => none
 | k + 1,x0,x1,x7,x8,x9,x10,x16,x17,x18 => if x0 ≥ x10 then (if 0 ≤ x9 then (if x9 < (x7.length : Int) then (if x8.size + (rdOf ByteArray.empty x7 x9).size ≤ 9223372036854775807 then (impl_RomanText.l1 k (wrap64 (x0 - x10)) x1 x7 (x8 ++ (rdOf ByteArray.empty x7 x9)) x9 x10 x16 x17 x18) else (none)) else (none)) else (none)) else (impl_RomanText.l0 k x0 x1 x7 x8 x16 x17 (wrap64 (x18 + 1)))
end
def impl_RomanText.f (k : Nat) (a0 : Int) (a1 : Bool) : Option (ByteArray × Bool) := (impl_inside.f a0 1 3999).bind fun t491 => (if t491 = true then ((some (([1000,900,500,400,100,90,50,40,10,9,5,4,1] : List Int) : List Int)).bind fun y492 => (impl_RomanText.l0 k a0 a1 (([(⟨#[77]⟩ : ByteArray),(⟨#[67,77]⟩ : ByteArray),(⟨#[68]⟩ : ByteArray),(⟨#[67,68]⟩ : ByteArray),(⟨#[67]⟩ : ByteArray),(⟨#[88,67]⟩ : ByteArray),(⟨#[76]⟩ : ByteArray),(⟨#[88,76]⟩ : ByteArray),(⟨#[88]⟩ : ByteArray),(⟨#[73,88]⟩ : ByteArray),(⟨#[86]⟩ : ByteArray),(⟨#[73,86]⟩ : ByteArray),(⟨#[73]⟩ : ByteArray)] : List ByteArray)) (⟨#[]⟩ : ByteArray) y492 (y492.length : Int) 0)) else (some ((⟨#[]⟩ : ByteArray),false)))
theorem impl_RomanText.mono_l : ∀ k,(∀ y0 y1 y2 y3 y4 y5 y6,LeO (impl_RomanText.l0 k y0 y1 y2 y3 y4 y5 y6) (impl_RomanText.l0 (k + 1) y0 y1 y2 y3 y4 y5 y6)) ∧ (∀ y0 y1 y2 y3 y4 y5 y6 y7 y8,LeO (impl_RomanText.l1 k y0 y1 y2 y3 y4 y5 y6 y7 y8) (impl_RomanText.l1 (k + 1) y0 y1 y2 y3 y4 y5 y6 y7 y8))
 | 0 => ⟨fun _ _ _ _ _ _ _ r h => by simp [impl_RomanText.l0] at h,fun _ _ _ _ _ _ _ _ _ r h => by simp [impl_RomanText.l1] at h⟩
 | k + 1 => by
  obtain ⟨ih0,ih1⟩ := impl_RomanText.mono_l k
  refine ⟨?_,?_⟩
  ·intro y0 y1 y2 y3 y4 y5 y6
   unfold impl_RomanText.l0
   repeat' first
   | (with_reducible exact ih0 _ _ _ _ _ _ _)
   | (with_reducible exact ih1 _ _ _ _ _ _ _ _ _)
   | (with_reducible exact LeO.refl _)
   | (with_reducible exact LeO.none _)
   | (with_reducible refine LeO.ite ?_ ?_)
   | (with_reducible refine LeO.bind ?_ (fun _ => ?_))
   | exact ih0 _ _ _ _ _ _ _
   | exact ih1 _ _ _ _ _ _ _ _ _
   | exact LeO.none _
   | refine LeO.ite ?_ ?_
   | refine LeO.bind ?_ (fun _ => ?_)
  ·intro y0 y1 y2 y3 y4 y5 y6 y7 y8
   unfold impl_RomanText.l1
   repeat' first
   | (with_reducible exact ih0 _ _ _ _ _ _ _)
   | (with_reducible exact ih1 _ _ _ _ _ _ _ _ _)
   | (with_reducible exact LeO.refl _)
   | (with_reducible exact LeO.none _)
   | (with_reducible refine LeO.ite ?_ ?_)
   | (with_reducible refine LeO.bind ?_ (fun _ => ?_))
   | exact ih0 _ _ _ _ _ _ _
   | exact ih1 _ _ _ _ _ _ _ _ _
   | exact LeO.none _
   | refine LeO.ite ?_ ?_
   | refine LeO.bind ?_ (fun _ => ?_)
theorem impl_RomanText.mono : ∀ a0 a1 k,LeO (impl_RomanText.f k a0 a1) (impl_RomanText.f (k + 1) a0 a1) := by
 intro a0 a1 k
 obtain ⟨ih0,ih1⟩ := impl_RomanText.mono_l k
 unfold impl_RomanText.f
 repeat' first
   | (with_reducible exact ih0 _ _ _ _ _ _ _)
   | (with_reducible exact ih1 _ _ _ _ _ _ _ _ _)
   | (with_reducible exact LeO.refl _)
   | (with_reducible exact LeO.none _)
   | (with_reducible refine LeO.ite ?_ ?_)
   | (with_reducible refine LeO.bind ?_ (fun _ => ?_))
   | exact ih0 _ _ _ _ _ _ _
   | exact ih1 _ _ _ _ _ _ _ _ _
   | exact LeO.none _
   | refine LeO.ite ?_ ?_
   | refine LeO.bind ?_ (fun _ => ?_)
set_option maxHeartbeats 8000000 in
set_option maxRecDepth 100000 in
theorem impl_RomanText.calls (k : Nat) (a0 : Int) (a1 : Bool) (r1 : ByteArray) (r2 : Bool) (w : World) (h : impl_RomanText.f k a0 a1 = some (r1,r2)) :
  Calls Tryz.prog 15 #[.int .i64 a0,.bool a1] w fun e w' => e = .returned (.tuple #[.string r1,.bool r2]) ∧ Below w.heap.size w w' := by
 have HB := aM (Below.refl w.heap.size w);have H : ((impl_inside.f a0 1 3999).bind fun t491 => (if t491 = true then ((some (([1000,900,500,400,100,90,50,40,10,9,5,4,1] : List Int) : List Int)).bind fun y492 => (impl_RomanText.l0 k a0 a1 (([(⟨#[77]⟩ : ByteArray),(⟨#[67,77]⟩ : ByteArray),(⟨#[68]⟩ : ByteArray),(⟨#[67,68]⟩ : ByteArray),(⟨#[67]⟩ : ByteArray),(⟨#[88,67]⟩ : ByteArray),(⟨#[76]⟩ : ByteArray),(⟨#[88,76]⟩ : ByteArray),(⟨#[88]⟩ : ByteArray),(⟨#[73,88]⟩ : ByteArray),(⟨#[86]⟩ : ByteArray),(⟨#[73,86]⟩ : ByteArray),(⟨#[73]⟩ : ByteArray)] : List ByteArray)) (⟨#[]⟩ : ByteArray) y492 (y492.length : Int) 0)) else (some ((⟨#[]⟩ : ByteArray),false)))) = some (r1,r2) := h;clear h;obtain ⟨t491,A3,H⟩ := bE_ H
 by_cases c4 : t491 = true
 focus
  subst c4;rw [if_pos rfl] at H;obtain ⟨y492,hy492⟩ : ∃ y_ : List Int,y_ = (([1000,900,500,400,100,90,50,40,10,9,5,4,1] : List Int)) := ⟨_,rfl⟩;replace H : (impl_RomanText.l0 k a0 a1 (([(⟨#[77]⟩ : ByteArray),(⟨#[67,77]⟩ : ByteArray),(⟨#[68]⟩ : ByteArray),(⟨#[67,68]⟩ : ByteArray),(⟨#[67]⟩ : ByteArray),(⟨#[88,67]⟩ : ByteArray),(⟨#[76]⟩ : ByteArray),(⟨#[88,76]⟩ : ByteArray),(⟨#[88]⟩ : ByteArray),(⟨#[73,88]⟩ : ByteArray),(⟨#[86]⟩ : ByteArray),(⟨#[73,86]⟩ : ByteArray),(⟨#[73]⟩ : ByteArray)] : List ByteArray)) (⟨#[]⟩ : ByteArray) y492 (y492.length : Int) 0) = some (r1,r2) := (by first|(rw [hy492];with_reducible exact H)|(have H2_ := (Option.bind_some _ _).symm.trans H;rw [hy492];with_reducible exact H2_)|(have H2_ := (Option.bind_some _ _).symm.trans H;with_reducible exact H2_)|with_reducible exact H|(rw [hy492];exact H)|exact H);have Ny492 := aM hy492;clear hy492;obtain ⟨y495,hy495⟩ : ∃ y_ : List ByteArray,y_ = (([(⟨#[77]⟩ : ByteArray),(⟨#[67,77]⟩ : ByteArray),(⟨#[68]⟩ : ByteArray),(⟨#[67,68]⟩ : ByteArray),(⟨#[67]⟩ : ByteArray),(⟨#[88,67]⟩ : ByteArray),(⟨#[76]⟩ : ByteArray),(⟨#[88,76]⟩ : ByteArray),(⟨#[88]⟩ : ByteArray),(⟨#[73,88]⟩ : ByteArray),(⟨#[86]⟩ : ByteArray),(⟨#[73,86]⟩ : ByteArray),(⟨#[73]⟩ : ByteArray)] : List ByteArray)) := ⟨_,rfl⟩;replace H : (impl_RomanText.l0 k a0 a1 y495 (⟨#[]⟩ : ByteArray) y492 (y492.length : Int) 0) = some (r1,r2) := (by first|(rw [hy495];with_reducible exact H)|(have H2_ := (Option.bind_some _ _).symm.trans H;rw [hy495];with_reducible exact H2_)|(have H2_ := (Option.bind_some _ _).symm.trans H;with_reducible exact H2_)|with_reducible exact H|(rw [hy495];exact H)|exact H);have Ny495 := aM hy495;clear hy495;have H' := aM H;clear H
 rotate_left
 focus
  replace c4 := Bool.eq_false_iff.mpr c4;subst c4;rw [if_neg Bool.false_ne_true] at H;simp only [eS,eP] at H;obtain ⟨rfl,rfl⟩ := H
 all_goals
  go_enter Tryz.func15,Tryz.ntmps15;go_wp2_with (first|((with_reducible refine gate_callee (f := 37) rfl ?_);refine goesL_ (some 12) rfl rfl Tryz.func37 (by kernel_rfl) rfl #[.int .i64 a0,.int .i64 1,.int .i64 3999] rfl (by (try simp only [mT,mC,mN]);first|done|rfl|(simp only [xD,xT];rfl)) ?_;(with_reducible refine (impl_inside.calls _ _ _ _ _ A3.out).mono ?_);rintro e w' ⟨rfl,⟨nd,rfl⟩⟩;refine ⟨_,rfl,?_⟩)|((with_reducible refine gate_dst (N := 14) rfl ?_);refine Kd.R_lit (Kd.int .i64) _ 3 ?hg (N := 14) ?hd (xs := ([1000,900,500,400,100,90,50,40,10,9,5,4,1] : List Int)) (inner := [.int .i64 1000,.int .i64 900,.int .i64 500,.int .i64 400,.int .i64 100,.int .i64 90,.int .i64 50,.int .i64 40,.int .i64 10,.int .i64 9,.int .i64 5,.int .i64 4,.int .i64 1]) (ok := fun _ => True) (okp := fun _ => True) ?hr ?hp (fun _ hk => hk) trivial (Below.refl _ _) (Nat.le_refl _) (by simp) ?_;(case hd => rfl);(case hg => rfl);(case hr => first|(go_simp;done)|(go_simp;rfl));(case hp => exact (Reps.one (show Kd.M (Kd.int .i64) _ _ _ 1000 [.int .i64 1000] from rfl) (Reps.one (show Kd.M (Kd.int .i64) _ _ _ 900 [.int .i64 900] from rfl) (Reps.one (show Kd.M (Kd.int .i64) _ _ _ 500 [.int .i64 500] from rfl) (Reps.one (show Kd.M (Kd.int .i64) _ _ _ 400 [.int .i64 400] from rfl) (Reps.one (show Kd.M (Kd.int .i64) _ _ _ 100 [.int .i64 100] from rfl) (Reps.one (show Kd.M (Kd.int .i64) _ _ _ 90 [.int .i64 90] from rfl) (Reps.one (show Kd.M (Kd.int .i64) _ _ _ 50 [.int .i64 50] from rfl) (Reps.one (show Kd.M (Kd.int .i64) _ _ _ 40 [.int .i64 40] from rfl) (Reps.one (show Kd.M (Kd.int .i64) _ _ _ 10 [.int .i64 10] from rfl) (Reps.one (show Kd.M (Kd.int .i64) _ _ _ 9 [.int .i64 9] from rfl) (Reps.one (show Kd.M (Kd.int .i64) _ _ _ 5 [.int .i64 5] from rfl) (Reps.one (show Kd.M (Kd.int .i64) _ _ _ 4 [.int .i64 4] from rfl) (Reps.one (show Kd.M (Kd.int .i64) _ _ _ 1 [.int .i64 1] from rfl) (Reps.none _ _)))))))))))))));intro v493 w5 ho6 hb hg_ hnew_;clear hg_ hnew_;(first|rw [← Ny492.out] at ho6|(simp only [Int.reduceToNat] at ho6;rw [← Ny492.out] at ho6));have HO494 := aM (Kd.R_lower ho6 (lZ hb_));replace HB := aM (lT hb_ hb);clear hb ho6)|((with_reducible refine gate_dst (N := 15) rfl ?_);refine Kd.R_lit Kd.string _ 9 ?hg (N := 15) ?hd (xs := ([(⟨#[77]⟩ : ByteArray),(⟨#[67,77]⟩ : ByteArray),(⟨#[68]⟩ : ByteArray),(⟨#[67,68]⟩ : ByteArray),(⟨#[67]⟩ : ByteArray),(⟨#[88,67]⟩ : ByteArray),(⟨#[76]⟩ : ByteArray),(⟨#[88,76]⟩ : ByteArray),(⟨#[88]⟩ : ByteArray),(⟨#[73,88]⟩ : ByteArray),(⟨#[86]⟩ : ByteArray),(⟨#[73,86]⟩ : ByteArray),(⟨#[73]⟩ : ByteArray)] : List ByteArray)) (inner := [.string (⟨#[77]⟩ : ByteArray),.string (⟨#[67,77]⟩ : ByteArray),.string (⟨#[68]⟩ : ByteArray),.string (⟨#[67,68]⟩ : ByteArray),.string (⟨#[67]⟩ : ByteArray),.string (⟨#[88,67]⟩ : ByteArray),.string (⟨#[76]⟩ : ByteArray),.string (⟨#[88,76]⟩ : ByteArray),.string (⟨#[88]⟩ : ByteArray),.string (⟨#[73,88]⟩ : ByteArray),.string (⟨#[86]⟩ : ByteArray),.string (⟨#[73,86]⟩ : ByteArray),.string (⟨#[73]⟩ : ByteArray)]) (ok := fun _ => True) (okp := fun _ => True) ?hr ?hp (fun _ hk => hk) trivial (Below.refl _ _) (Nat.le_refl _) (by simp) ?_;(case hd => rfl);(case hg => rfl);(case hr => first|(go_simp;done)|(go_simp;rfl));(case hp => exact (Reps.one (show Kd.M Kd.string _ _ _ (⟨#[77]⟩ : ByteArray) [.string (⟨#[77]⟩ : ByteArray)] from rfl) (Reps.one (show Kd.M Kd.string _ _ _ (⟨#[67,77]⟩ : ByteArray) [.string (⟨#[67,77]⟩ : ByteArray)] from rfl) (Reps.one (show Kd.M Kd.string _ _ _ (⟨#[68]⟩ : ByteArray) [.string (⟨#[68]⟩ : ByteArray)] from rfl) (Reps.one (show Kd.M Kd.string _ _ _ (⟨#[67,68]⟩ : ByteArray) [.string (⟨#[67,68]⟩ : ByteArray)] from rfl) (Reps.one (show Kd.M Kd.string _ _ _ (⟨#[67]⟩ : ByteArray) [.string (⟨#[67]⟩ : ByteArray)] from rfl) (Reps.one (show Kd.M Kd.string _ _ _ (⟨#[88,67]⟩ : ByteArray) [.string (⟨#[88,67]⟩ : ByteArray)] from rfl) (Reps.one (show Kd.M Kd.string _ _ _ (⟨#[76]⟩ : ByteArray) [.string (⟨#[76]⟩ : ByteArray)] from rfl) (Reps.one (show Kd.M Kd.string _ _ _ (⟨#[88,76]⟩ : ByteArray) [.string (⟨#[88,76]⟩ : ByteArray)] from rfl) (Reps.one (show Kd.M Kd.string _ _ _ (⟨#[88]⟩ : ByteArray) [.string (⟨#[88]⟩ : ByteArray)] from rfl) (Reps.one (show Kd.M Kd.string _ _ _ (⟨#[73,88]⟩ : ByteArray) [.string (⟨#[73,88]⟩ : ByteArray)] from rfl) (Reps.one (show Kd.M Kd.string _ _ _ (⟨#[86]⟩ : ByteArray) [.string (⟨#[86]⟩ : ByteArray)] from rfl) (Reps.one (show Kd.M Kd.string _ _ _ (⟨#[73,86]⟩ : ByteArray) [.string (⟨#[73,86]⟩ : ByteArray)] from rfl) (Reps.one (show Kd.M Kd.string _ _ _ (⟨#[73]⟩ : ByteArray) [.string (⟨#[73]⟩ : ByteArray)] from rfl) (Reps.none _ _)))))))))))))));intro v496 w7 ho8 hb hg_ hnew_;clear hg_ hnew_;(first|rw [← Ny495.out] at ho8|(simp only [Int.reduceToNat] at ho8;rw [← Ny495.out] at ho8));have HO497 := aM (Kd.R_lower ho8 (lZ hb_));replace HO494 := aM (rB (ho_ HO494.out) hb);replace HB := aM (lT hb_ hb);clear hb ho8;obtain ⟨Ao02,co02,eo02⟩ := Kd.R_slice HO494.out;subst eo02))
  first
   |
    go_ret2;exact ⟨by first|rfl|(simp [*];done),hb_⟩
   |
    go_loopg [0,8,18] k (fun kq v0 v8 v18 w' => ∃ (x0_1 : Int) (x8_1 : ByteArray) (x18_1 : Int),v0 = .int .i64 x0_1 ∧ v8 = .string x8_1 ∧ v18 = .int .i64 x18_1 ∧ Aside0 (impl_RomanText.l0 kq x0_1 a1 y495 x8_1 y492 (y492.length : Int) x18_1 = some (r1,r2)) ∧ Aside0 (kq ≤ k) ∧ Aside0 (Kd.R Kd.string 9 w' w.heap.size (fun _ => True) v496 y495) ∧ Aside0 (Kd.R (Kd.int .i64) 3 w' w.heap.size (fun _ => True) (.slice Ao02 y492.length co02) y492) ∧ Aside0 (Below w.heap.size w w'))
    case atStart => exact ⟨(a0),((⟨#[]⟩ : ByteArray)),(0),(by first|rfl|(simp [*];done)),(by first|rfl|(simp [*];done)),(by first|rfl|(simp [*];done)),H',⟨Nat.le_refl _⟩,⟨by (with_reducible repeat (first|apply rA|apply rN|apply rD));exact HO497.out⟩,⟨by (with_reducible repeat (first|apply rA|apply rN|apply rD));exact HO494.out⟩,⟨hb_⟩⟩
    case round =>
     clear H';(try clear c1);(try clear p2);(try clear c3);(try clear c4);obtain ⟨x0_1,x8_1,x18_1,rfl,rfl,rfl,HA,HK1,HO_7,HO_16,HB⟩ := hrel
     cases gk with
     | zero => exact absurd HA.out (by simp [impl_RomanText.l0])
     | succ k1 =>
      have H := HA.out;clear HA;simp only [impl_RomanText.l0] at H
      by_cases c10 : x18_1 < (y492.length : Int)
      ·rw [if_pos c10] at H;have c10b0 : decide (x18_1 < (y492.length : Int)) = true := dT c10;clear c10
       by_cases c11 : 0 ≤ x18_1
       ·rw [if_pos c11] at H;have c11b0 : decide (0 ≤ x18_1) = true := dT c11;clear c11
        by_cases c12 : x18_1 < (y492.length : Int)
        ·rw [if_pos c12] at H;have c12b0 : decide (x18_1 < (y492.length : Int)) = true := dT c12;clear c12;have H' := aM H;clear H;have p02 : 0 ≤ (x18_1 : Int) := oD (by assumption);have q02 : x18_1 < (y492.length : Int) := oD (by assumption);obtain ⟨ad02,e02,hx02_0⟩ := Kd.at_int (rR HO_16.out).2.2 x18_1 p02 q02;cases e02;replace p02 := eq_true p02;replace q02 := eq_true q02;go_wp2;go_loopg [0,8] k1 (fun kq v0 v8 w' => ∃ (x0_2 : Int) (x8_2 : ByteArray),v0 = .int .i64 x0_2 ∧ v8 = .string x8_2 ∧ Aside0 (impl_RomanText.l1 kq x0_2 a1 y495 x8_2 x18_1 (rd y492 x18_1) y492 (y492.length : Int) x18_1 = some (r1,r2)) ∧ Aside0 (kq ≤ k1) ∧ Aside0 (Kd.R Kd.string 9 w' w.heap.size (fun _ => True) v496 y495) ∧ Aside0 (Kd.R (Kd.int .i64) 3 w' w.heap.size (fun _ => True) (.slice (some ad02) y492.length co02) y492) ∧ Aside0 (Below w.heap.size w w'))
         case atStart => exact ⟨(x0_1),(x8_1),(by first|rfl|(simp [*];done)),(by first|rfl|(simp [*];done)),H',⟨Nat.le_refl _⟩,⟨by (with_reducible repeat (first|apply rA|apply rN|apply rD));exact HO_7.out⟩,⟨by (with_reducible repeat (first|apply rA|apply rN|apply rD));exact HO_16.out⟩,⟨hb_⟩⟩
         case round =>
          clear H';(try clear c1);(try clear p2);(try clear c3);(try clear c4);(try clear p4);(try clear q4);(try clear hx4);(try clear c10);(try clear c10b0);(try clear c11);(try clear c11b0);(try clear c12);(try clear c12b0);(try clear hx02_0);(try clear p2);(try clear p02);(try clear q02);obtain ⟨x0_2,x8_2,rfl,rfl,HA,HK2,HO_7,HO_16,HB⟩ := hrel
          cases gk with
          | zero => exact absurd HA.out (by simp [impl_RomanText.l1])
          | succ k2 =>
           have H := HA.out;clear HA;simp only [impl_RomanText.l1] at H
           by_cases c13 : x0_2 ≥ (rd y492 x18_1)
           focus
            rw [if_pos c13] at H;have c13b0 : decide ((rd y492 x18_1) ≤ x0_2) = true := dT c13;clear c13
            by_cases c14 : 0 ≤ x18_1
            rotate_left;rw [if_neg c14] at H;exact absurd H (by simp);rw [if_pos c14] at H;have c14b0 : decide (0 ≤ x18_1) = true := dT c14;clear c14
            by_cases c15 : x18_1 < (y495.length : Int)
            rotate_left;rw [if_neg c15] at H;exact absurd H (by simp);rw [if_pos c15] at H;have c15b0 : decide (x18_1 < (y495.length : Int)) = true := dT c15;clear c15
            by_cases c16 : x8_2.size + (rdOf ByteArray.empty y495 x18_1).size ≤ 9223372036854775807
            rotate_left;rw [if_neg c16] at H;exact absurd H (by simp);rw [if_pos c16] at H;have c16b0 := eq_true c16;have c16b1 : decide (x8_2.size + (rdOf ByteArray.empty y495 x18_1).size ≤ 9223372036854775807) = true := dT c16;(try have c16b2 : (9223372036854775807 < x8_2.size + (rdOf ByteArray.empty y495 x18_1).size) = False := eq_false (Nat.not_lt.2 c16));have H' := aM H;clear H;obtain ⟨Ao01,co01,eo01⟩ := Kd.R_slice HO_7.out;subst eo01
           rotate_left
           focus
            rw [if_neg c13] at H;have c13b0 : decide ((rd y492 x18_1) ≤ x0_2) = false := dF c13;clear c13;have H' := aM H;clear H
           all_goals
            (try (have p01 : 0 ≤ (x18_1 : Int) := oD (by assumption);have q01 : x18_1 < (y495.length : Int) := oD (by assumption);obtain ⟨ad01,e01,hx01_0⟩ := Kd.at_string (rR HO_7.out).2.2 x18_1 p01 q01;cases e01;replace p01 := eq_true p01;replace q01 := eq_true q01));go_wp2;go_roundg k2
            case measure => have := HK1.out;have := HK2.out;omega
            case rel => first|(exact ⟨(wrap64 (x0_2 - (rd y492 x18_1))),(x8_2 ++ (rdOf ByteArray.empty y495 x18_1)),(by first|rfl|(simp [*];done)),(by first|rfl|(simp [*];done)),H',⟨by have := HK1.out;have := HK2.out;omega⟩,⟨by (with_reducible repeat (first|apply rA|apply rN|apply rD));exact HO_7.out⟩,⟨by (with_reducible repeat (first|apply rA|apply rN|apply rD));exact HO_16.out⟩,⟨hb_⟩⟩)|(exact ⟨(x0_2),(x8_2),(wrap64 (x18_1 + 1)),(by first|rfl|(simp [*];done)),(by first|rfl|(simp [*];done)),(by first|rfl|(simp [*];done)),H',⟨by have := HK1.out;have := HK2.out;omega⟩,⟨by (with_reducible repeat (first|apply rA|apply rN|apply rD));exact HO_7.out⟩,⟨by (with_reducible repeat (first|apply rA|apply rN|apply rD));exact HO_16.out⟩,⟨hb_⟩⟩)
        ·rw [if_neg c12] at H;exact absurd H (by simp)
       ·rw [if_neg c11] at H;exact absurd H (by simp)
      ·rw [if_neg c10] at H;have c10b0 : decide (x18_1 < (y492.length : Int)) = false := dF c10;clear c10
       by_cases c18 : a1 = true
       ·subst c18;rw [if_pos rfl] at H;simp only [eS,eP] at H;obtain ⟨rfl,rfl⟩ := H;go_wp2;go_ret2;exact ⟨by first|rfl|(simp [*];done),hb_⟩
       ·replace c18 := Bool.eq_false_iff.mpr c18;subst c18;rw [if_neg Bool.false_ne_true] at H;obtain ⟨t498,A19,H⟩ := bE_ H;simp only [eS,eP] at H;obtain ⟨rfl,rfl⟩ := H;go_wp2_with (first|((with_reducible refine gate_callee (f := 38) rfl ?_);refine goesL_ (some 39) rfl rfl Tryz.func38 (by kernel_rfl) rfl #[.string x8_1] rfl (by (try simp only [mT,mC,mN]);first|done|rfl|(simp only [xD,xT];rfl)) ?_;(with_reducible refine (impl_lower.calls _ _ _ A19.out).mono ?_);rintro e WA19 ⟨rfl,hb⟩;refine ⟨_,rfl,?_⟩;replace HO_7 := aM (rB (ho_ HO_7.out) hb);replace HO_16 := aM (rB (ho_ HO_16.out) hb);replace HB := aM (lT hb_ hb);(try clear hb)));go_ret2;exact ⟨by first|rfl|(simp [*];done),hb_⟩
def spec_l6UpperByte.f (a0 : Int) : Option (Int) := if a0 ≥ 97 then (if a0 ≤ 122 then (some ((a0 - 32) % 256)) else (some a0)) else (some a0)
set_option maxHeartbeats 8000000 in
set_option maxRecDepth 100000 in
theorem spec_l6UpperByte.calls (a0 : Int) (r : Int) (w : World) (h : spec_l6UpperByte.f a0 = some r) :
  Calls Tryz.prog 39 #[.int .u8 a0] w fun e w' => e = .returned (.int .u8 r) ∧ Drawn0 w w' := by
 have H : (if a0 ≥ 97 then (if a0 ≤ 122 then (some ((a0 - 32) % 256)) else (some a0)) else (some a0)) = some r := h;clear h
 by_cases c2 : a0 ≥ 97
 focus
  rw [if_pos c2] at H;have c2b0 : decide (97 ≤ a0) = true := dT c2;clear c2
  by_cases c3 : a0 ≤ 122
  focus
   rw [if_pos c3] at H;have c3b0 : decide (a0 ≤ 122) = true := dT c3;clear c3;obtain rfl := Option.some.inj H;simp only [eS,eP] at H;obtain ⟨rfl⟩ := H
  rotate_left
  focus
   rw [if_neg c3] at H;have c3b0 : decide (a0 ≤ 122) = false := dF c3;clear c3;obtain rfl := Option.some.inj H;simp only [eS,eP] at H;obtain ⟨rfl⟩ := H
 rotate_left 2
 focus
  rw [if_neg c2] at H;have c2b0 : decide (97 ≤ a0) = false := dF c2;clear c2;obtain rfl := Option.some.inj H;simp only [eS,eP] at H;obtain ⟨rfl⟩ := H
 all_goals
  go_enter Tryz.func39,Tryz.ntmps39;go_wp2;go_ret;exact ⟨by first|rfl|(simp [*];done),by repeat (first|exact Drawn0.refl _|apply Drawn0.step)⟩
end Go.Proofs.YtmkkcpdpfelalaaGreatDoor.P
