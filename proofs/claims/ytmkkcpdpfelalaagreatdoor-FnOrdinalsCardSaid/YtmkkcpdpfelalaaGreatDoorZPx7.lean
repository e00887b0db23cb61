/- Written by a program in this session: each theorem here says that a Go function computes the Lean function beside it, or that a law's row holds, under the conditions that the theorem itself states. -/
import Derived.Test.YtmkkcpdpfelalaaGreatDoorZPx0
import Derived.Test.YtmkkcpdpfelalaaGreatDoorZPx4
import Derived.Test.YtmkkcpdpfelalaaGreatDoorZPx6
import Derived.Lib.AppendIntMem
import Derived.Test.YtmkkcpdpfelalaaGreatDoorZShelf
namespace Go.Proofs.YtmkkcpdpfelalaaGreatDoor.P
open Go.RowKit Go.Proofs.YtmkkcpdpfelalaaGreatDoorW.PrintWords Go.Proofs.YtmkkcpdpfelalaaGreatDoorW.PrintLast Go.Proofs.YtmkkcpdpfelalaaGreatDoorW.PrintMore
attribute [local go_sem] max2_int min2_int max_two min_two max_three min_three max_four min_four   -- for this text's walks alone
set_option linter.unusedVariables false
set_option linter.unusedSimpArgs false
def impl_isNumber.f (a0 : Int) : Option (Bool) := (impl_inside.f a0 0 999999).bind fun t297 => (some t297)
set_option maxHeartbeats 8000000 in
set_option maxRecDepth 100000 in
theorem impl_isNumber.calls (a0 : Int) (r : Bool) (w : World) (h : impl_isNumber.f a0 = some r) :
  Calls Tryz.prog 20 #[.int .i64 a0] w fun e w' => e = .returned (.bool r) ∧ Drawn0 w w' := by
 have H : ((impl_inside.f a0 0 999999).bind fun t297 => (some t297)) = some r := h;clear h;obtain ⟨t297,A2,H⟩ := bE_ H;obtain rfl := Option.some.inj H;simp only [eS,eP] at H;obtain ⟨rfl⟩ := H;go_enter Tryz.func20,Tryz.ntmps20;go_wp2_with (first|((with_reducible refine gate_callee (f := 37) rfl ?_);refine goesL_ (some 4) rfl rfl Tryz.func37 (by kernel_rfl) rfl #[.int .i64 a0,.int .i64 0,.int .i64 999999] rfl (by (try simp only [mT,mC,mN]);first|done|rfl|(simp only [xD,xT];rfl)) ?_;(with_reducible refine (impl_inside.calls a0 0 999999 t297 _ A2.out).mono ?_);rintro e w' ⟨rfl,⟨nd,rfl⟩⟩;refine ⟨_,rfl,?_⟩));go_ret;exact ⟨by first|rfl|(simp [*];done),by repeat (first|exact Drawn0.refl _|apply Drawn0.step)⟩
def strconv_Itoa.f (a0 : Int) : Option (ByteArray) := if -9223372036854775808 ≤ a0 ∧ a0 ≤ 9223372036854775807 then some ⟨(Lib.itoa a0).toArray⟩ else none
theorem strconv_Itoa.calls (a0 : Int) (r : ByteArray) (w : World) (hG : Gw w) (h : strconv_Itoa.f a0 = some r) :
  Calls Tryz.prog 46 #[.int .i64 a0] w fun e w' => e = .returned (.string r) ∧ Below w.heap.size w w' := by
 unfold strconv_Itoa.f at h;split at h
 ·rename_i hs;obtain rfl := Option.some.inj h;refine (Tryz.strconv_Itoa a0 hs.1 hs.2 w hG.tab).mono ?_;rintro e w' ⟨rfl,k,os,rfl⟩;exact ⟨rfl,Lib.below_grow _ _ (Nat.le_refl _) _ _⟩
 ·cases h
def impl_ordinalText.l0 : Nat → Int → List (S67) → Int → Int → Option (ByteArray)
 | 0,_,_,_,_ => none
 | k + 1,x1,x8,x9,x10 => if x10 < x9 then (if 0 ≤ x10 then (if x10 < (x8.length : Int) then (if ((rd_T67 x8 x10).f0) = 0 then (none) else (if (Int.tmod x1 ((rd_T67 x8 x10).f0)) = ((rd_T67 x8 x10).f1) then ((strconv_Itoa.f x1).bind fun t301 => (if t301.size + ((rd_T67 x8 x10).f2).size ≤ 9223372036854775807 then (some (t301 ++ ((rd_T67 x8 x10).f2))) else (none))) else (impl_ordinalText.l0 k x1 x8 x9 (wrap64 (x10 + 1))))) else (none)) else (none)) else ((strconv_Itoa.f x1).bind fun t302 => (some t302))
def impl_ordinalText.f (k : Nat) (a0_0 : ByteArray) (l0_1 : List (S65)) (l0_2 : List (S67)) (a0_3 : ByteArray) (a0_4 : ByteArray) (a1 : Int) : Option (ByteArray) := impl_ordinalText.l0 k a1 l0_2 (l0_2.length : Int) 0
theorem impl_ordinalText.mono_l : ∀ k,(∀ y0 y1 y2 y3,LeO (impl_ordinalText.l0 k y0 y1 y2 y3) (impl_ordinalText.l0 (k + 1) y0 y1 y2 y3))
 | 0 => fun _ _ _ _ r h => by simp [impl_ordinalText.l0] at h
 | k + 1 => by
  have ih0 := impl_ordinalText.mono_l k
  ·intro y0 y1 y2 y3
   unfold impl_ordinalText.l0
   repeat' first
   | (with_reducible exact ih0 _ _ _ _)
   | (with_reducible exact LeO.refl _)
   | (with_reducible exact LeO.none _)
   | (with_reducible refine LeO.ite ?_ ?_)
   | (with_reducible refine LeO.bind ?_ (fun _ => ?_))
   | exact ih0 _ _ _ _
   | exact LeO.none _
   | refine LeO.ite ?_ ?_
   | refine LeO.bind ?_ (fun _ => ?_)
theorem impl_ordinalText.mono : ∀ a0 a1 a2 a3 a4 a5 k,LeO (impl_ordinalText.f k a0 a1 a2 a3 a4 a5) (impl_ordinalText.f (k + 1) a0 a1 a2 a3 a4 a5) := by
 intro a0 a1 a2 a3 a4 a5 k
 have ih0 := impl_ordinalText.mono_l k
 unfold impl_ordinalText.f
 repeat' first
   | (with_reducible exact ih0 _ _ _ _)
   | (with_reducible exact LeO.refl _)
   | (with_reducible exact LeO.none _)
   | (with_reducible refine LeO.ite ?_ ?_)
   | (with_reducible refine LeO.bind ?_ (fun _ => ?_))
   | exact ih0 _ _ _ _
   | exact LeO.none _
   | refine LeO.ite ?_ ?_
   | refine LeO.bind ?_ (fun _ => ?_)
set_option maxHeartbeats 8000000 in
set_option maxRecDepth 100000 in
theorem impl_ordinalText.calls (k : Nat) (a0_0 : ByteArray) (A0_1 : Option Addr) (c0_1 : Nat) (l0_1 : List (S65)) (A0_2 : Option Addr) (c0_2 : Nat) (l0_2 : List (S67)) (a0_3 : ByteArray) (a0_4 : ByteArray) (a1 : Int) (r : ByteArray) (w : World) (hr0_1 : Kd.C k65 w A0_1 l0_1.length l0_1) (hc0_1 : l0_1.length ≤ c0_1) (hr0_2 : Kd.C k67 w A0_2 l0_2.length l0_2) (hc0_2 : l0_2.length ≤ c0_2) (hG : Gw w) (h : impl_ordinalText.f k a0_0 l0_1 l0_2 a0_3 a0_4 a1 = some r) :
  Calls Tryz.prog 21 #[.agg #[.string a0_0,.slice A0_1 l0_1.length c0_1,.slice A0_2 l0_2.length c0_2,.string a0_3,.string a0_4],.int .i64 a1] w fun e w' => e = .returned (.string r) ∧ Below w.heap.size w w' := by
 have hu27 := Tryz.underlying27;have hu67 := Tryz.underlying67;have HR0_1 := aM hr0_1;have HC0_1 := aM hc0_1;clear hr0_1 hc0_1;have HR0_2 := aM hr0_2;have HC0_2 := aM hc0_2;clear hr0_2 hc0_2;have HB := aM (Below.refl w.heap.size w);have HG := aM hG;clear hG;have H : (impl_ordinalText.l0 k a1 l0_2 (l0_2.length : Int) 0) = some r := h;clear h;have H' := aM H;clear H;go_enter Tryz.func21,Tryz.ntmps21;go_wp2_with (first|((with_reducible refine gate_dst (N := 2) rfl ?_);refine box_event ?hg (N := 2) ?hd (cs := #[.string a0_0,.slice A0_1 l0_1.length c0_1,.slice A0_2 l0_2.length c0_2,.string a0_3,.string a0_4]) (t := 27) ?hr ?_;(case hd => rfl);(case hg => rfl);(case hr => first|(go_simp;done)|(go_simp;rfl));intro gb298 hg w3 hbox hb;have BK298 := aM (hbox);have GW298 := aM ((by rw [hg];exact (lZ hb_) : w.heap.size ≤ gb298));have GE298 := GW298;replace HB := aM (lT hb_ hb);clear hb hbox hg;obtain ⟨hcz4_0,hcz4_1,hcz4_2,hcz4_3,hcz4_4,hfz4_0,hfz4_1,hfz4_2,hfz4_3,hfz4_4⟩ := z5_ BK298.out));go_loopg [10] k (fun kq v10 w' => ∃ (x10_1 : Int),v10 = .int .i64 x10_1 ∧ Aside0 (impl_ordinalText.l0 kq a1 l0_2 (l0_2.length : Int) x10_1 = some r) ∧ Aside0 (kq ≤ k) ∧ Aside0 (w'.heap[gb298]? = some (.cells #[.string a0_0,(.slice A0_1 l0_1.length c0_1),(.slice A0_2 l0_2.length c0_2),.string a0_3,.string a0_4] 27 (0,0))) ∧ Aside0 (Below w.heap.size w w'))
 case atStart => exact ⟨(0),(by first|rfl|(simp [*];done)),H',⟨Nat.le_refl _⟩,⟨by (with_reducible repeat (first|refine bN ?_ _|refine bD ?_|refine bA ?_ _));exact BK298.out⟩,⟨hb_⟩⟩
 case round =>
  clear H';(try clear c2);(try clear p2);(try clear hcz4_0);(try clear hcz4_1);(try clear hcz4_2);(try clear hcz4_3);(try clear hcz4_4);(try clear hfz4_0);(try clear hfz4_1);(try clear hfz4_2);(try clear hfz4_3);(try clear hfz4_4);obtain ⟨x10_1,rfl,HA,HK1,BK298,HB⟩ := hrel
  cases gk with
  | zero => exact absurd HA.out (by simp [impl_ordinalText.l0])
  | succ k1 =>
   have H := HA.out;clear HA;simp only [impl_ordinalText.l0] at H
   by_cases c5 : x10_1 < (l0_2.length : Int)
   focus
    rw [if_pos c5] at H;have c5b0 : decide (x10_1 < (l0_2.length : Int)) = true := dT c5;clear c5
    by_cases c6 : 0 ≤ x10_1
    rotate_left;rw [if_neg c6] at H;exact absurd H (by simp);rw [if_pos c6] at H;have c6b0 : decide (0 ≤ x10_1) = true := dT c6;clear c6
    by_cases c7 : x10_1 < (l0_2.length : Int)
    rotate_left;rw [if_neg c7] at H;exact absurd H (by simp);rw [if_pos c7] at H;have c7b0 : decide (x10_1 < (l0_2.length : Int)) = true := dT c7;clear c7
    by_cases c8 : ((rd_T67 l0_2 x10_1).f0) = 0
    ·rw [if_pos c8] at H;exact absurd H (by simp)
    rw [if_neg c8] at H;have c8b0 : (((rd_T67 l0_2 x10_1).f0) == 0) = false := beq_eq_false_iff_ne.mpr c8;have c8b1 : (((rd_T67 l0_2 x10_1).f0) != 0) = true := bne_iff_ne.mpr c8
    by_cases c9 : (Int.tmod a1 ((rd_T67 l0_2 x10_1).f0)) = ((rd_T67 l0_2 x10_1).f1)
    focus
     rw [if_pos c9] at H;have c9b0 : ((Int.tmod a1 ((rd_T67 l0_2 x10_1).f0)) == ((rd_T67 l0_2 x10_1).f1)) = true := beq_iff_eq.mpr c9;have c9b1 : ((Int.tmod a1 ((rd_T67 l0_2 x10_1).f0)) != ((rd_T67 l0_2 x10_1).f1)) = false := bne_eq_false_iff_eq.mpr c9;clear c9;obtain ⟨t301,A10,H⟩ := bE_ H
     by_cases c11 : t301.size + ((rd_T67 l0_2 x10_1).f2).size ≤ 9223372036854775807
     rotate_left;rw [if_neg c11] at H;exact absurd H (by simp);rw [if_pos c11] at H;have c11b0 := eq_true c11;have c11b1 : decide (t301.size + ((rd_T67 l0_2 x10_1).f2).size ≤ 9223372036854775807) = true := dT c11;(try have c11b2 : (9223372036854775807 < t301.size + ((rd_T67 l0_2 x10_1).f2).size) = False := eq_false (Nat.not_lt.2 c11));obtain rfl := Option.some.inj H;simp only [eS,eP] at H;obtain ⟨rfl⟩ := H
    rotate_left
    focus
     rw [if_neg c9] at H;have c9b0 : ((Int.tmod a1 ((rd_T67 l0_2 x10_1).f0)) == ((rd_T67 l0_2 x10_1).f1)) = false := beq_eq_false_iff_ne.mpr c9;have c9b1 : ((Int.tmod a1 ((rd_T67 l0_2 x10_1).f0)) != ((rd_T67 l0_2 x10_1).f1)) = true := bne_iff_ne.mpr c9;have H' := aM H;clear H
   rotate_left 2
   focus
    rw [if_neg c5] at H;have c5b0 : decide (x10_1 < (l0_2.length : Int)) = false := dF c5;clear c5;obtain ⟨t302,A24,H⟩ := bE_ H;obtain rfl := Option.some.inj H;simp only [eS,eP] at H;obtain ⟨rfl⟩ := H
   all_goals
    (try (have p01 : 0 ≤ (x10_1 : Int) := oD (by assumption);have q01 : x10_1 < (l0_2.length : Int) := oD (by assumption);obtain ⟨ad01,e01,hx01_0,hx01_1,hx01_2⟩ := at_T67 HR0_2.out x10_1 p01 q01;cases e01;replace hx01_0 := (HB.out.cell (wB w _ hx01_0)).trans hx01_0;replace hx01_1 := (HB.out.cell (wB w _ hx01_1)).trans hx01_1;replace hx01_2 := (HB.out.cell (wB w _ hx01_2)).trans hx01_2;replace p01 := eq_true p01;replace q01 := eq_true q01));(try go_wp2_with (first|((with_reducible refine gate_callee (f := 46) rfl ?_);refine goesL_ (some 28) rfl rfl Tryz.func46 (by kernel_rfl) rfl #[.int .i64 a1] rfl (by (try simp only [mT,mC,mN]);first|done|rfl|(simp only [xD,xT];rfl)) ?_;(with_reducible refine (strconv_Itoa.calls _ _ _ ?side1 A24.out).mono ?_);(case side1 => exact Gw.below HG.out hb_);rintro e WA24 ⟨rfl,hb⟩;refine ⟨_,rfl,?_⟩;replace BK298 := aM (bW (g := gb298) (o := .cells #[.string a0_0,.slice A0_1 l0_1.length c0_1,.slice A0_2 l0_2.length c0_2,.string a0_3,.string a0_4] 27 (0,0)) (bk_ BK298.out) hb);replace HB := aM (lT hb_ hb);(try clear hb))|((with_reducible refine gate_dst (N := 6) rfl ?_);refine box_event ?hg (N := 6) ?hd (cs := #[.int .i64 0,.int .i64 0,.string (⟨#[]⟩ : ByteArray)]) (t := 67) ?hr ?_;(case hd => rfl);(case hg => rfl);(case hr => first|(go_simp;done)|(go_simp;rfl));intro gb300 hg Wgb300 hbox hb;have BK300 := aM (hbox);have GW300 := aM ((by rw [hg];exact (lZ hb_) : w.heap.size ≤ gb300));have GE300 := GW300;have NB298_300 := aM ((by rw [hg];exact Nat.ne_of_lt (blk_lt (g := gb298) (o := .cells #[.string a0_0,.slice A0_1 l0_1.length c0_1,.slice (some ad01) l0_2.length c0_2,.string a0_3,.string a0_4] 27 (0,0)) (bk_ BK298.out)) : gb298 ≠ gb300));have NB300_298 := aM ((by rw [hg];exact Nat.ne_of_gt (blk_lt (g := gb298) (o := .cells #[.string a0_0,.slice A0_1 l0_1.length c0_1,.slice (some ad01) l0_2.length c0_2,.string a0_3,.string a0_4] 27 (0,0)) (bk_ BK298.out)) : gb300 ≠ gb298));replace BK298 := aM (bW (g := gb298) (o := .cells #[.string a0_0,.slice A0_1 l0_1.length c0_1,.slice (some ad01) l0_2.length c0_2,.string a0_3,.string a0_4] 27 (0,0)) (bk_ BK298.out) hb);replace HB := aM (lT hb_ hb);clear hb hbox hg;have hnby300_298 := NB300_298.out;have hncy298_300 := NB298_300.out;obtain ⟨hcz300x300_0,hcz300x300_1,hcz300x300_2,hfz300x300_0,hfz300x300_1,hfz300x300_2⟩ := z3_ BK300.out)))
    first
     |
      go_ret;exact ⟨by first|rfl|(simp [*];done),hb_⟩
     |
      have n0_ : Aside0 ((((Wgb300.setCell ⟨gb300,0,none⟩ (.int .i64 ((rd_T67 l0_2 x10_1).f0))).setCell ⟨gb300,1,none⟩ (.int .i64 ((rd_T67 l0_2 x10_1).f1))).setCell ⟨gb300,2,none⟩ (.string ((rd_T67 l0_2 x10_1).f2))).heap[gb298]? = some (.cells #[.string a0_0,.slice A0_1 l0_1.length c0_1,.slice (some ad01) l0_2.length c0_2,.string a0_3,.string a0_4] 27 (0,0))) := ⟨by (with_reducible repeat (first|refine bN ?_ _|refine bD ?_|refine bA ?_ _));refine blk_far ?_ NB298_300.out _;(with_reducible repeat (first|refine bN ?_ _|refine bD ?_|refine bA ?_ _));refine blk_far ?_ NB298_300.out _;(with_reducible repeat (first|refine bN ?_ _|refine bD ?_|refine bA ?_ _));refine blk_far ?_ NB298_300.out _;(with_reducible repeat (first|refine bN ?_ _|refine bD ?_|refine bA ?_ _));exact BK298.out⟩;have n1_ : Aside0 ((((Wgb300.setCell ⟨gb300,0,none⟩ (.int .i64 ((rd_T67 l0_2 x10_1).f0))).setCell ⟨gb300,1,none⟩ (.int .i64 ((rd_T67 l0_2 x10_1).f1))).setCell ⟨gb300,2,none⟩ (.string ((rd_T67 l0_2 x10_1).f2))).heap[gb300]? = some (.cells #[.int .i64 ((rd_T67 l0_2 x10_1).f0),.int .i64 ((rd_T67 l0_2 x10_1).f1),.string ((rd_T67 l0_2 x10_1).f2)] 67 (0,0))) := ⟨by (with_reducible repeat (first|refine bN ?_ _|refine bD ?_|refine bA ?_ _));refine blk_put (cs := #[.int .i64 ((rd_T67 l0_2 x10_1).f0),.int .i64 ((rd_T67 l0_2 x10_1).f1),.string (⟨#[]⟩ : ByteArray)]) ?_ 2 _ rfl;(with_reducible repeat (first|refine bN ?_ _|refine bD ?_|refine bA ?_ _));refine blk_put (cs := #[.int .i64 ((rd_T67 l0_2 x10_1).f0),.int .i64 0,.string (⟨#[]⟩ : ByteArray)]) ?_ 1 _ rfl;(with_reducible repeat (first|refine bN ?_ _|refine bD ?_|refine bA ?_ _));refine blk_put (cs := #[.int .i64 0,.int .i64 0,.string (⟨#[]⟩ : ByteArray)]) ?_ 0 _ rfl;(with_reducible repeat (first|refine bN ?_ _|refine bD ?_|refine bA ?_ _));exact BK300.out⟩;have n2_ : Aside0 (Below w.heap.size w (((Wgb300.setCell ⟨gb300,0,none⟩ (.int .i64 ((rd_T67 l0_2 x10_1).f0))).setCell ⟨gb300,1,none⟩ (.int .i64 ((rd_T67 l0_2 x10_1).f1))).setCell ⟨gb300,2,none⟩ (.string ((rd_T67 l0_2 x10_1).f2)))) := ⟨hb_⟩;(try clear BK298);(try clear BK300);(try clear HB);generalize (((Wgb300.setCell ⟨gb300,0,none⟩ (.int .i64 ((rd_T67 l0_2 x10_1).f0))).setCell ⟨gb300,1,none⟩ (.int .i64 ((rd_T67 l0_2 x10_1).f1))).setCell ⟨gb300,2,none⟩ (.string ((rd_T67 l0_2 x10_1).f2))) = wk1 at n0_ n1_ n2_ ⊢;have BK298 := n0_;have BK300 := n1_;have HB := n2_;clear n0_ n1_ n2_;replace BK298 := aM (bD BK298.out);replace BK300 := aM (bD BK300.out);replace HB := aM (lD HB.out);refine start_ (n := 7) (S := fun w' => w'.cell? ⟨gb300,0,none⟩ = some (.int .i64 ((rd_T67 l0_2 x10_1).f0)) ∧ w'.cell? ⟨gb300,1,none⟩ = some (.int .i64 ((rd_T67 l0_2 x10_1).f1)) ∧ w'.cell? ⟨gb300,2,none⟩ = some (.string ((rd_T67 l0_2 x10_1).f2))) (ds := []) (mk_ 7 0) (by kernel_rfl) rfl (by kernel_rfl) ⟨(bC BK300.out 0).trans rfl,(bC BK300.out 1).trans rfl,(bC BK300.out 2).trans rfl⟩ (fun hHeld => ?_);generalize wk1.drew = wk2 at BK298 BK300 HB hHeld ⊢;refine pure_ (i := 0) (N := some 14) (v := ?_) (a' := ?_) (mk_ 7 1) rfl rfl (by kernel_rfl) (fun _ _ _ h => h) (Or.inl ⟨by rfl,?_⟩) ?_ ?_;rotate_left;intro w';go_simp;(with_reducible rfl);rotate_left;simp only [Act.put,lI,sZ,sS,i64_w,i32_w];rfl;refine pure_ (i := 1) (N := some 15) (v := ?_) (a' := ?_) (mk_ 7 3) rfl rfl (by kernel_rfl) (fun _ _ _ h => h) (Or.inl ⟨by rfl,?_⟩) ?_ ?_;rotate_left;intro w';go_simp;(with_reducible rfl);rotate_left;simp only [Act.put,lI,sZ,sS,i64_w,i32_w];rfl;refine pure_ (i := 4) (N := some 18) (v := ?_) (a' := ?_) (mk_ 7 19) rfl rfl (by kernel_rfl) (fun _ _ _ h => h) (Or.inl ⟨by rfl,?_⟩) ?_ ?_;rotate_left;intro w';go_simp;(with_reducible rfl);rotate_left;simp only [Act.put,lI,sZ,sS,i64_w,i32_w];rfl;refine take_ (i := 2) (N := some 16) (v := ?_) (a' := ?_) (mk_ 7 23) rfl rfl (by kernel_rfl) (fun _ _ _ h => h) (Or.inl ⟨by rfl,?_⟩) hHeld ?_ ?_;rotate_left;rintro w' ⟨s0,s1,s2⟩;go_simp;(with_reducible rfl);rotate_left;simp only [Act.put,lI,sZ,sS,i64_w,i32_w];rfl;refine pure_ (i := 3) (N := some 17) (v := ?_) (a' := ?_) (mk_ 7 31) rfl rfl (by kernel_rfl) (fun _ _ _ h => h) (Or.inl ⟨by rfl,?_⟩) ?_ ?_;rotate_left;intro w';go_simp;(with_reducible rfl);rotate_left;simp only [Act.put,lI,sZ,sS,i64_w,i32_w];rfl;refine take_ (i := 5) (N := some 19) (v := ?_) (a' := ?_) (mk_ 7 63) rfl rfl (by kernel_rfl) (fun _ _ _ h => h) (Or.inl ⟨by rfl,?_⟩) hHeld ?_ ?_;rotate_left;rintro w' ⟨s0,s1,s2⟩;go_simp;(with_reducible rfl);rotate_left;simp only [Act.put,lI,sZ,sS,i64_w,i32_w];rfl;refine pure_ (i := 6) (N := some 20) (v := ?_) (a' := ?_) (mk_ 7 127) rfl rfl (by kernel_rfl) (fun _ _ _ h => h) (Or.inl ⟨by rfl,?_⟩) ?_ ?_;rotate_left;intro w';go_simp;(with_reducible rfl);rotate_left;simp only [Act.put,lI,sZ,sS,i64_w,i32_w];rfl;refine done_ (by kernel_rfl) ?_;(try go_wp2)
      first
       |
        go_roundg k1
        case measure => have := HK1.out;omega
        case rel => exact ⟨(wrap64 (x10_1 + 1)),(by first|rfl|(simp [*];done)),H',⟨by have := HK1.out;omega⟩,⟨by (with_reducible repeat (first|refine bN ?_ _|refine bD ?_|refine bA ?_ _));exact BK298.out⟩,⟨hb_⟩⟩
       |
        replace BK298 := aM (bD BK298.out);replace BK300 := aM (bD BK300.out);replace HB := aM (lD HB.out);refine start_ (n := 6) (S := fun w' => w'.cell? ⟨gb300,0,none⟩ = some (.int .i64 ((rd_T67 l0_2 x10_1).f0)) ∧ w'.cell? ⟨gb300,1,none⟩ = some (.int .i64 ((rd_T67 l0_2 x10_1).f1)) ∧ w'.cell? ⟨gb300,2,none⟩ = some (.string ((rd_T67 l0_2 x10_1).f2))) (ds := []) (mk_ 6 0) (by kernel_rfl) rfl (by kernel_rfl) ⟨(bC BK300.out 0).trans rfl,(bC BK300.out 1).trans rfl,(bC BK300.out 2).trans rfl⟩ (fun hHeld => ?_);generalize wk2.drew = wk3 at BK298 BK300 HB hHeld ⊢;refine pure_ (i := 0) (N := some 21) (v := ?_) (a' := ?_) (mk_ 6 1) rfl rfl (by kernel_rfl) (fun _ _ _ h => h) (Or.inl ⟨by rfl,?_⟩) ?_ ?_;rotate_left;intro w';go_simp;(with_reducible rfl);rotate_left;simp only [Act.put,lI,sZ,sS,i64_w,i32_w];rfl;refine pure_ (i := 2) (N := some 23) (v := ?_) (a' := ?_) (mk_ 6 5) rfl rfl (by kernel_rfl) (fun _ _ _ h => h) (Or.inl ⟨by rfl,?_⟩) ?_ ?_;rotate_left;intro w';go_simp;(with_reducible rfl);rotate_left;simp only [Act.put,lI,sZ,sS,i64_w,i32_w];rfl;refine take_ (i := 3) (N := some 24) (v := ?_) (a' := ?_) (mk_ 6 13) rfl rfl (by kernel_rfl) (fun _ _ _ h => h) (Or.inl ⟨by rfl,?_⟩) hHeld ?_ ?_;rotate_left;rintro w' ⟨s0,s1,s2⟩;go_simp;(with_reducible rfl);rotate_left;simp only [Act.put,lI,sZ,sS,i64_w,i32_w];rfl;refine one_ (i := 1) (N := some 22) (mk_ 6 15) rfl rfl (by kernel_rfl) (by decide) (fun K hK => ?_);refine goes_ Tryz.func46 (by kernel_rfl) rfl #[.int .i64 a1] (by rfl) rfl rfl (by (try simp only [mT,mC,mN]);first|done|rfl|(simp only [xD,xT];rfl)) ?_;(with_reducible refine (strconv_Itoa.calls _ _ _ ?side1 A10.out).mono ?_);(case side1 => exact Gw.below HG.out hb_);rintro e wk4 ⟨rfl,hb⟩;refine ⟨_,rfl,?_⟩;replace BK298 := aM (bW (g := gb298) (o := .cells #[.string a0_0,.slice A0_1 l0_1.length c0_1,.slice (some ad01) l0_2.length c0_2,.string a0_3,.string a0_4] 27 (0,0)) (bk_ BK298.out) hb);replace BK300 := aM (bW (g := gb300) (o := .cells #[.int .i64 ((rd_T67 l0_2 x10_1).f0),.int .i64 ((rd_T67 l0_2 x10_1).f1),.string ((rd_T67 l0_2 x10_1).f2)] 67 (0,0)) (bk_ BK300.out) hb);replace HB := aM (lT hb_ hb);(try clear hb);(try clear hb2);(try clear hk);(try clear hi);refine hK.out _ _ ⟨(bC BK300.out 0).trans rfl,(bC BK300.out 1).trans rfl,(bC BK300.out 2).trans rfl⟩ (fun hHeld => ?_);clear hK K;refine norm_ (a' := ?_) ?_ ?_;rotate_left;show Act.put _ (some 22) _ = _;simp only [Act.put,lI,sZ,sS,i64_w,i32_w];rfl;refine pure_ (i := 4) (N := some 25) (v := ?_) (a' := ?_) (mk_ 6 31) rfl rfl (by kernel_rfl) (fun _ _ _ h => h) (Or.inl ⟨by rfl,?_⟩) ?_ ?_;rotate_left;intro w';go_simp;(with_reducible rfl);rotate_left;simp only [Act.put,lI,sZ,sS,i64_w,i32_w];rfl;refine pure_ (i := 5) (N := some 4) (v := ?_) (a' := ?_) (mk_ 6 63) rfl rfl (by kernel_rfl) (fun _ _ _ h => h) (Or.inl ⟨by rfl,?_⟩) ?_ ?_;rotate_left;intro w';go_simp;(with_reducible rfl);rotate_left;simp only [Act.put,lI,sZ,sS,i64_w,i32_w];rfl;refine done_ (by kernel_rfl) ?_;(try go_wp2);go_ret;exact ⟨by first|rfl|(simp [*];done),hb_⟩
def impl_OrdinalText.f (k : Nat) (a0_0 : ByteArray) (l0_1 : List (S65)) (l0_2 : List (S67)) (a0_3 : ByteArray) (a0_4 : ByteArray) (a1 : Int) : Option (ByteArray × Bool) := (impl_IsValidLocale.f k a0_0 l0_1 l0_2 a0_3 a0_4).bind fun t304 => (if t304 = true then ((impl_isNumber.f a1).bind fun t305 => (if t305 = true then ((impl_ordinalText.f k a0_0 l0_1 l0_2 a0_3 a0_4 a1).bind fun t306 => (some (t306,true))) else (some ((⟨#[]⟩ : ByteArray),false)))) else (some ((⟨#[]⟩ : ByteArray),false)))
theorem impl_OrdinalText.mono : ∀ a0 a1 a2 a3 a4 a5 k,LeO (impl_OrdinalText.f k a0 a1 a2 a3 a4 a5) (impl_OrdinalText.f (k + 1) a0 a1 a2 a3 a4 a5) := by
 intro a0 a1 a2 a3 a4 a5 k
 unfold impl_OrdinalText.f
 repeat' first
   | (with_reducible exact impl_IsValidLocale.mono _ _ _ _ _ _)
   | (with_reducible exact impl_ordinalText.mono _ _ _ _ _ _ _)
   | (with_reducible exact LeO.refl _)
   | (with_reducible exact LeO.none _)
   | (with_reducible refine LeO.ite ?_ ?_)
   | (with_reducible refine LeO.bind ?_ (fun _ => ?_))
   | exact impl_IsValidLocale.mono _ _ _ _ _ _
   | exact impl_ordinalText.mono _ _ _ _ _ _ _
   | exact LeO.none _
   | refine LeO.ite ?_ ?_
   | refine LeO.bind ?_ (fun _ => ?_)
set_option maxHeartbeats 8000000 in
set_option maxRecDepth 100000 in
theorem impl_OrdinalText.calls (k : Nat) (a0_0 : ByteArray) (A0_1 : Option Addr) (c0_1 : Nat) (l0_1 : List (S65)) (A0_2 : Option Addr) (c0_2 : Nat) (l0_2 : List (S67)) (a0_3 : ByteArray) (a0_4 : ByteArray) (a1 : Int) (r1 : ByteArray) (r2 : Bool) (w : World) (hr0_1 : Kd.C k65 w A0_1 l0_1.length l0_1) (hc0_1 : l0_1.length ≤ c0_1) (hr0_2 : Kd.C k67 w A0_2 l0_2.length l0_2) (hc0_2 : l0_2.length ≤ c0_2) (hG : Gw w) (h : impl_OrdinalText.f k a0_0 l0_1 l0_2 a0_3 a0_4 a1 = some (r1,r2)) :
  Calls Tryz.prog 6 #[.agg #[.string a0_0,.slice A0_1 l0_1.length c0_1,.slice A0_2 l0_2.length c0_2,.string a0_3,.string a0_4],.int .i64 a1] w fun e w' => e = .returned (.tuple #[.string r1,.bool r2]) ∧ Below w.heap.size w w' := by
 have hu27 := Tryz.underlying27;have HR0_1 := aM hr0_1;have HC0_1 := aM hc0_1;clear hr0_1 hc0_1;have HR0_2 := aM hr0_2;have HC0_2 := aM hc0_2;clear hr0_2 hc0_2;have HB := aM (Below.refl w.heap.size w);have HG := aM hG;clear hG;have H : ((impl_IsValidLocale.f k a0_0 l0_1 l0_2 a0_3 a0_4).bind fun t304 => (if t304 = true then ((impl_isNumber.f a1).bind fun t305 => (if t305 = true then ((impl_ordinalText.f k a0_0 l0_1 l0_2 a0_3 a0_4 a1).bind fun t306 => (some (t306,true))) else (some ((⟨#[]⟩ : ByteArray),false)))) else (some ((⟨#[]⟩ : ByteArray),false)))) = some (r1,r2) := h;clear h;obtain ⟨t304,A3,H⟩ := bE_ H
 by_cases c4 : t304 = true
 focus
  subst c4;rw [if_pos rfl] at H;obtain ⟨t305,A5,H⟩ := bE_ H
  by_cases c6 : t305 = true
  focus
   subst c6;rw [if_pos rfl] at H;obtain ⟨t306,A7,H⟩ := bE_ H;simp only [eS,eP] at H;obtain ⟨rfl,rfl⟩ := H
  rotate_left
  focus
   replace c6 := Bool.eq_false_iff.mpr c6;subst c6;rw [if_neg Bool.false_ne_true] at H;simp only [eS,eP] at H;obtain ⟨rfl,rfl⟩ := H
 rotate_left 2
 focus
  replace c4 := Bool.eq_false_iff.mpr c4;subst c4;rw [if_neg Bool.false_ne_true] at H;simp only [eS,eP] at H;obtain ⟨rfl,rfl⟩ := H
 all_goals
  go_enter Tryz.func6,Tryz.ntmps6;go_wp2_with (first|((with_reducible refine gate_dst (N := 2) rfl ?_);refine box_event ?hg (N := 2) ?hd (cs := #[.string a0_0,.slice A0_1 l0_1.length c0_1,.slice A0_2 l0_2.length c0_2,.string a0_3,.string a0_4]) (t := 27) ?hr ?_;(case hd => rfl);(case hg => rfl);(case hr => first|(go_simp;done)|(go_simp;rfl));intro gb303 hg Wgb303 hbox hb;have BK303 := aM (hbox);have GW303 := aM ((by rw [hg];exact (lZ hb_) : w.heap.size ≤ gb303));have GE303 := GW303;replace HB := aM (lT hb_ hb);clear hb hbox hg;obtain ⟨hcz303x303_0,hcz303x303_1,hcz303x303_2,hcz303x303_3,hcz303x303_4,hfz303x303_0,hfz303x303_1,hfz303x303_2,hfz303x303_3,hfz303x303_4⟩ := z5_ BK303.out)|((with_reducible refine gate_callee (f := 19) rfl ?_);refine goesL_ (some 7) rfl rfl Tryz.func19 (by kernel_rfl) rfl #[.agg #[.string a0_0,.slice A0_1 l0_1.length c0_1,.slice A0_2 l0_2.length c0_2,.string a0_3,.string a0_4]] rfl (by (try simp only [mT,mC,mN]);first|done|rfl|(simp only [xD,xT];rfl)) ?_;(with_reducible refine (impl_IsValidLocale.calls _ _ _ _ _ _ _ _ _ _ _ _ ?side1 ?side2 ?side3 ?side4 A3.out).mono ?_);(case side1 => repeat (first|exact (cB HR0_1.out HB.out)|(with_reducible first|refine cA ?_ _|refine cN ?_ _|refine cD ?_)));(case side2 => exact HC0_1.out);(case side3 => repeat (first|exact (cB HR0_2.out HB.out)|(with_reducible first|refine cA ?_ _|refine cN ?_ _|refine cD ?_)));(case side4 => exact HC0_2.out);rintro e WA3 ⟨rfl,hb⟩;refine ⟨_,rfl,?_⟩;replace BK303 := aM (bW (g := gb303) (o := .cells #[.string a0_0,.slice A0_1 l0_1.length c0_1,.slice A0_2 l0_2.length c0_2,.string a0_3,.string a0_4] 27 (0,0)) (bk_ BK303.out) hb);replace HB := aM (lT hb_ hb);(try clear hb))|(go_at_call 20;(with_reducible refine (impl_isNumber.calls _ _ _ A5.out).mono ?_);rintro e w' ⟨rfl,⟨nd,rfl⟩⟩;obtain ⟨hcz5x303_0,hcz5x303_1,hcz5x303_2,hcz5x303_3,hcz5x303_4,hfz5x303_0,hfz5x303_1,hfz5x303_2,hfz5x303_3,hfz5x303_4⟩ := z5_ BK303.out)|((with_reducible refine gate_callee (f := 21) rfl ?_);refine goesL_ (some 16) rfl rfl Tryz.func21 (by kernel_rfl) rfl #[.agg #[.string a0_0,.slice A0_1 l0_1.length c0_1,.slice A0_2 l0_2.length c0_2,.string a0_3,.string a0_4],.int .i64 a1] rfl (by (try simp only [mT,mC,mN]);first|done|rfl|(simp only [xD,xT];rfl)) ?_;(with_reducible refine (impl_ordinalText.calls _ _ _ _ _ _ _ _ _ _ _ _ _ ?side1 ?side2 ?side3 ?side4 ?side5 A7.out).mono ?_);(case side1 => repeat (first|exact (cB HR0_1.out hb_)|(with_reducible first|refine cA ?_ _|refine cN ?_ _|refine cD ?_)));(case side2 => exact HC0_1.out);(case side3 => repeat (first|exact (cB HR0_2.out hb_)|(with_reducible first|refine cA ?_ _|refine cN ?_ _|refine cD ?_)));(case side4 => exact HC0_2.out);(case side5 => exact Gw.below HG.out hb_);rintro e WA7 ⟨rfl,hb⟩;refine ⟨_,rfl,?_⟩;replace BK303 := aM (bW (g := gb303) (o := .cells #[.string a0_0,.slice A0_1 l0_1.length c0_1,.slice A0_2 l0_2.length c0_2,.string a0_3,.string a0_4] 27 (0,0)) (bk_ BK303.out) hb);replace HB := aM (lT hb_ hb);(try clear hb)));go_ret2;exact ⟨by first|rfl|(simp [*];done),hb_⟩
def spec_l1In.f (a0 : Int) (a1 : Int) (a2 : Int) : Option (Bool) := if a0 ≥ a1 then (some (decide (a0 ≤ a2))) else (some false)
set_option maxHeartbeats 8000000 in
set_option maxRecDepth 100000 in
theorem spec_l1In.calls (a0 : Int) (a1 : Int) (a2 : Int) (r : Bool) (w : World) (h : spec_l1In.f a0 a1 a2 = some r) :
  Calls Tryz.prog 23 #[.int .i64 a0,.int .i64 a1,.int .i64 a2] w fun e w' => e = .returned (.bool r) ∧ Drawn0 w w' := by
 have H : (if a0 ≥ a1 then (some (decide (a0 ≤ a2))) else (some false)) = some r := h;clear h
 by_cases c4 : a0 ≥ a1
 focus
  rw [if_pos c4] at H;have c4b0 : decide (a1 ≤ a0) = true := dT c4;clear c4;obtain rfl := Option.some.inj H;simp only [eS,eP] at H;obtain ⟨rfl⟩ := H
 rotate_left
 focus
  rw [if_neg c4] at H;have c4b0 : decide (a1 ≤ a0) = false := dF c4;clear c4;obtain rfl := Option.some.inj H;simp only [eS,eP] at H;obtain ⟨rfl⟩ := H
 all_goals
  go_enter Tryz.func23,Tryz.ntmps23;go_wp2;go_ret;exact ⟨by first|rfl|(simp [*];done),by repeat (first|exact Drawn0.refl _|apply Drawn0.step)⟩
def spec_l23Bytes.l0 : Nat → ByteArray → Int → Int → Int → Int → Option (Bool)
 | 0,_,_,_,_,_ => none
 | k + 1,x0,x1,x2,x3,x9 => if x9 < (x0.size : Int) then (if 0 ≤ x9 then (if (bt x0 x9) < x3 then (some false) else (if (bt x0 x9) > 126 then (some false) else (spec_l23Bytes.l0 k x0 x1 x2 x3 (wrap64 (x9 + 1))))) else (none)) else ((spec_l1In.f (x0.size : Int) x1 x2).bind fun t307 => (some t307))
def spec_l23Bytes.f (k : Nat) (a0 : ByteArray) (a1 : Int) (a2 : Int) (a3 : Int) : Option (Bool) := spec_l23Bytes.l0 k a0 a1 a2 a3 0
theorem spec_l23Bytes.mono_l : ∀ k,(∀ y0 y1 y2 y3 y4,LeO (spec_l23Bytes.l0 k y0 y1 y2 y3 y4) (spec_l23Bytes.l0 (k + 1) y0 y1 y2 y3 y4))
 | 0 => fun _ _ _ _ _ r h => by simp [spec_l23Bytes.l0] at h
 | k + 1 => by
  have ih0 := spec_l23Bytes.mono_l k
  ·intro y0 y1 y2 y3 y4
   unfold spec_l23Bytes.l0
   repeat' first
   | (with_reducible exact ih0 _ _ _ _ _)
   | (with_reducible exact LeO.refl _)
   | (with_reducible exact LeO.none _)
   | (with_reducible refine LeO.ite ?_ ?_)
   | (with_reducible refine LeO.bind ?_ (fun _ => ?_))
   | exact ih0 _ _ _ _ _
   | exact LeO.none _
   | refine LeO.ite ?_ ?_
   | refine LeO.bind ?_ (fun _ => ?_)
theorem spec_l23Bytes.mono : ∀ a0 a1 a2 a3 k,LeO (spec_l23Bytes.f k a0 a1 a2 a3) (spec_l23Bytes.f (k + 1) a0 a1 a2 a3) := by
 intro a0 a1 a2 a3 k
 have ih0 := spec_l23Bytes.mono_l k
 unfold spec_l23Bytes.f
 repeat' first
   | (with_reducible exact ih0 _ _ _ _ _)
   | (with_reducible exact LeO.refl _)
   | (with_reducible exact LeO.none _)
   | (with_reducible refine LeO.ite ?_ ?_)
   | (with_reducible refine LeO.bind ?_ (fun _ => ?_))
   | exact ih0 _ _ _ _ _
   | exact LeO.none _
   | refine LeO.ite ?_ ?_
   | refine LeO.bind ?_ (fun _ => ?_)
set_option maxHeartbeats 8000000 in
set_option maxRecDepth 100000 in
theorem spec_l23Bytes.calls (k : Nat) (a0 : ByteArray) (a1 : Int) (a2 : Int) (a3 : Int) (r : Bool) (w : World) (h : spec_l23Bytes.f k a0 a1 a2 a3 = some r) :
  Calls Tryz.prog 35 #[.string a0,.int .i64 a1,.int .i64 a2,.int .u8 a3] w fun e w' => e = .returned (.bool r) ∧ Drawn0 w w' := by
 have H : (spec_l23Bytes.l0 k a0 a1 a2 a3 0) = some r := h;clear h;have H' := aM H;clear H;go_enter Tryz.func35,Tryz.ntmps35;go_wp2;go_loopg [9] k (fun kq v9 w' => ∃ (x9_1 : Int),v9 = .int .i64 x9_1 ∧ Aside0 (spec_l23Bytes.l0 kq a0 a1 a2 a3 x9_1 = some r) ∧ Aside0 (kq ≤ k) ∧ Drawn0 w w')
 case atStart => exact ⟨(0),(by first|rfl|(simp [*];done)),H',⟨Nat.le_refl _⟩,by repeat (first|exact Drawn0.refl _|apply Drawn0.step)⟩
 case round =>
  clear H';(try clear p2);(try clear c3);obtain ⟨x9_1,rfl,HA,HK1,⟨m1,rfl⟩⟩ := hrel
  cases gk with
  | zero => exact absurd HA.out (by simp [spec_l23Bytes.l0])
  | succ k1 =>
   have H := HA.out;clear HA;simp only [spec_l23Bytes.l0] at H
   by_cases c5 : x9_1 < (a0.size : Int)
   focus
    rw [if_pos c5] at H;have c5b0 : decide (x9_1 < (a0.size : Int)) = true := dT c5;clear c5
    by_cases c6 : 0 ≤ x9_1
    rotate_left;rw [if_neg c6] at H;exact absurd H (by simp);rw [if_pos c6] at H;have c6b0 : decide (0 ≤ x9_1) = true := dT c6;clear c6
    by_cases c8 : (bt a0 x9_1) < a3
    focus
     rw [if_pos c8] at H;have c8b0 : decide ((bt a0 x9_1) < a3) = true := dT c8;clear c8;obtain rfl := Option.some.inj H;simp only [eS,eP] at H;obtain ⟨rfl⟩ := H
    rotate_left
    focus
     rw [if_neg c8] at H;have c8b0 : decide ((bt a0 x9_1) < a3) = false := dF c8;clear c8
     by_cases c10 : (bt a0 x9_1) > 126
     focus
      rw [if_pos c10] at H;have c10b0 : decide (126 < (bt a0 x9_1)) = true := dT c10;clear c10;obtain rfl := Option.some.inj H;simp only [eS,eP] at H;obtain ⟨rfl⟩ := H
     rotate_left
     focus
      rw [if_neg c10] at H;have c10b0 : decide (126 < (bt a0 x9_1)) = false := dF c10;clear c10;have H' := aM H;clear H
   rotate_left 3
   focus
    rw [if_neg c5] at H;have c5b0 : decide (x9_1 < (a0.size : Int)) = false := dF c5;clear c5;obtain ⟨t307,A11,H⟩ := bE_ H;obtain rfl := Option.some.inj H;simp only [eS,eP] at H;obtain ⟨rfl⟩ := H
   all_goals
    (try (have p01 : 0 ≤ (x9_1 : Int) := oD (by assumption);have q01 : x9_1 < (a0.size : Int) := oD (by assumption);have hx01 := bt_at a0 x9_1;replace p01 := eq_true p01;replace q01 := eq_true q01));go_wp2_with (first|((with_reducible refine gate_callee (f := 23) rfl ?_);refine goesL_ (some 31) rfl rfl Tryz.func23 (by kernel_rfl) rfl #[.int .i64 (a0.size : Int),.int .i64 a1,.int .i64 a2] rfl (by (try simp only [mT,mC,mN]);first|done|rfl|(simp only [xD,xT];rfl)) ?_;(with_reducible refine (spec_l1In.calls _ _ _ _ _ A11.out).mono ?_);rintro e w' ⟨rfl,⟨nd,rfl⟩⟩;refine ⟨_,rfl,?_⟩))
    first
     |
      go_ret;exact ⟨by first|rfl|(simp [*];done),by repeat (first|exact Drawn0.refl _|apply Drawn0.step)⟩
     |
      go_roundg k1
      case measure => have := HK1.out;omega
      case rel => exact ⟨(wrap64 (x9_1 + 1)),(by first|rfl|(simp [*];done)),H',⟨by have := HK1.out;omega⟩,by repeat (first|exact Drawn0.refl _|apply Drawn0.step)⟩
def spec_l23Key.l0 : Nat → ByteArray → Int → Option (Bool)
 | 0,_,_ => none
 | k + 1,x0,x3 => if x3 < (x0.size : Int) then (if 0 ≤ x3 then (if (bt x0 x3) < 97 then (some false) else (if (bt x0 x3) > 122 then (some false) else (spec_l23Key.l0 k x0 (wrap64 (x3 + 1))))) else (none)) else ((spec_l1In.f (x0.size : Int) 1 10).bind fun t308 => (some t308))
def spec_l23Key.f (k : Nat) (a0 : ByteArray) : Option (Bool) := spec_l23Key.l0 k a0 0
theorem spec_l23Key.mono_l : ∀ k,(∀ y0 y1,LeO (spec_l23Key.l0 k y0 y1) (spec_l23Key.l0 (k + 1) y0 y1))
 | 0 => fun _ _ r h => by simp [spec_l23Key.l0] at h
 | k + 1 => by
  have ih0 := spec_l23Key.mono_l k
  ·intro y0 y1
   unfold spec_l23Key.l0
   repeat' first
   | (with_reducible exact ih0 _ _)
   | (with_reducible exact LeO.refl _)
   | (with_reducible exact LeO.none _)
   | (with_reducible refine LeO.ite ?_ ?_)
   | (with_reducible refine LeO.bind ?_ (fun _ => ?_))
   | exact ih0 _ _
   | exact LeO.none _
   | refine LeO.ite ?_ ?_
   | refine LeO.bind ?_ (fun _ => ?_)
theorem spec_l23Key.mono : ∀ a0 k,LeO (spec_l23Key.f k a0) (spec_l23Key.f (k + 1) a0) := by
 intro a0 k
 have ih0 := spec_l23Key.mono_l k
 unfold spec_l23Key.f
 repeat' first
   | (with_reducible exact ih0 _ _)
   | (with_reducible exact LeO.refl _)
   | (with_reducible exact LeO.none _)
   | (with_reducible refine LeO.ite ?_ ?_)
   | (with_reducible refine LeO.bind ?_ (fun _ => ?_))
   | exact ih0 _ _
   | exact LeO.none _
   | refine LeO.ite ?_ ?_
   | refine LeO.bind ?_ (fun _ => ?_)
set_option maxHeartbeats 8000000 in
set_option maxRecDepth 100000 in
theorem spec_l23Key.calls (k : Nat) (a0 : ByteArray) (r : Bool) (w : World) (h : spec_l23Key.f k a0 = some r) :
  Calls Tryz.prog 47 #[.string a0] w fun e w' => e = .returned (.bool r) ∧ Drawn0 w w' := by
 have H : (spec_l23Key.l0 k a0 0) = some r := h;clear h;have H' := aM H;clear H;go_enter Tryz.func47,Tryz.ntmps47;go_wp2;go_loopg [3] k (fun kq v3 w' => ∃ (x3_1 : Int),v3 = .int .i64 x3_1 ∧ Aside0 (spec_l23Key.l0 kq a0 x3_1 = some r) ∧ Aside0 (kq ≤ k) ∧ Drawn0 w w')
 case atStart => exact ⟨(0),(by first|rfl|(simp [*];done)),H',⟨Nat.le_refl _⟩,by repeat (first|exact Drawn0.refl _|apply Drawn0.step)⟩
 case round =>
  clear H';obtain ⟨x3_1,rfl,HA,HK1,⟨m1,rfl⟩⟩ := hrel
  cases gk with
  | zero => exact absurd HA.out (by simp [spec_l23Key.l0])
  | succ k1 =>
   have H := HA.out;clear HA;simp only [spec_l23Key.l0] at H
   by_cases c2 : x3_1 < (a0.size : Int)
   focus
    rw [if_pos c2] at H;have c2b0 : decide (x3_1 < (a0.size : Int)) = true := dT c2;clear c2
    by_cases c3 : 0 ≤ x3_1
    rotate_left;rw [if_neg c3] at H;exact absurd H (by simp);rw [if_pos c3] at H;have c3b0 : decide (0 ≤ x3_1) = true := dT c3;clear c3
    by_cases c5 : (bt a0 x3_1) < 97
    focus
     rw [if_pos c5] at H;have c5b0 : decide ((bt a0 x3_1) < 97) = true := dT c5;clear c5;obtain rfl := Option.some.inj H;simp only [eS,eP] at H;obtain ⟨rfl⟩ := H
    rotate_left
    focus
     rw [if_neg c5] at H;have c5b0 : decide ((bt a0 x3_1) < 97) = false := dF c5;clear c5
     by_cases c7 : (bt a0 x3_1) > 122
     focus
      rw [if_pos c7] at H;have c7b0 : decide (122 < (bt a0 x3_1)) = true := dT c7;clear c7;obtain rfl := Option.some.inj H;simp only [eS,eP] at H;obtain ⟨rfl⟩ := H
     rotate_left
     focus
      rw [if_neg c7] at H;have c7b0 : decide (122 < (bt a0 x3_1)) = false := dF c7;clear c7;have H' := aM H;clear H
   rotate_left 3
   focus
    rw [if_neg c2] at H;have c2b0 : decide (x3_1 < (a0.size : Int)) = false := dF c2;clear c2;obtain ⟨t308,A8,H⟩ := bE_ H;obtain rfl := Option.some.inj H;simp only [eS,eP] at H;obtain ⟨rfl⟩ := H
   all_goals
    (try (have p01 : 0 ≤ (x3_1 : Int) := oD (by assumption);have q01 : x3_1 < (a0.size : Int) := oD (by assumption);have hx01 := bt_at a0 x3_1;replace p01 := eq_true p01;replace q01 := eq_true q01));go_wp2_with (first|((with_reducible refine gate_callee (f := 23) rfl ?_);refine goesL_ (some 22) rfl rfl Tryz.func23 (by kernel_rfl) rfl #[.int .i64 (a0.size : Int),.int .i64 1,.int .i64 10] rfl (by (try simp only [mT,mC,mN]);first|done|rfl|(simp only [xD,xT];rfl)) ?_;(with_reducible refine (spec_l1In.calls _ _ _ _ _ A8.out).mono ?_);rintro e w' ⟨rfl,⟨nd,rfl⟩⟩;refine ⟨_,rfl,?_⟩))
    first
     |
      go_ret;exact ⟨by first|rfl|(simp [*];done),by repeat (first|exact Drawn0.refl _|apply Drawn0.step)⟩
     |
      go_roundg k1
      case measure => have := HK1.out;omega
      case rel => exact ⟨(wrap64 (x3_1 + 1)),(by first|rfl|(simp [*];done)),H',⟨by have := HK1.out;omega⟩,by repeat (first|exact Drawn0.refl _|apply Drawn0.step)⟩
end Go.Proofs.YtmkkcpdpfelalaaGreatDoor.P
