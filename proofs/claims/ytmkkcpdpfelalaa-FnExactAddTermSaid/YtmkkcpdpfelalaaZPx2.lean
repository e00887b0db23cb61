/- Written by a program in this session: each theorem here says that a Go function computes the Lean function beside it, or that a law's row holds, under the conditions that the theorem itself states. -/
import Derived.Test.YtmkkcpdpfelalaaZPx0
namespace Go.Proofs.Ytmkkcpdpfelalaa.P
open Go.RowKit Go.Proofs.YtmkkcpdpfelalaaW.PrintWords Go.Proofs.YtmkkcpdpfelalaaW.PrintLast Go.Proofs.YtmkkcpdpfelalaaW.PrintMore
attribute [local go_sem] max2_int min2_int max_two min_two max_three min_three max_four min_four   -- for this text's walks alone
set_option linter.unusedVariables false
set_option linter.unusedSimpArgs false
def laws_eqTerm.f (a0_0 : ByteArray) (a0_1 : ByteArray) (a0_2 : ByteArray) (a1_0 : ByteArray) (a1_1 : ByteArray) (a1_2 : ByteArray) : Option (Bool) := if a0_0.toList = a1_0.toList then (if a0_1.toList = a1_1.toList then (if a0_2.toList = a1_2.toList then (some true) else (some false)) else (some false)) else (some false)
set_option maxHeartbeats 8000000 in
set_option maxRecDepth 100000 in
theorem laws_eqTerm.calls (a0_0 : ByteArray) (a0_1 : ByteArray) (a0_2 : ByteArray) (a1_0 : ByteArray) (a1_1 : ByteArray) (a1_2 : ByteArray) (r : Bool) (w : World) (h : laws_eqTerm.f a0_0 a0_1 a0_2 a1_0 a1_1 a1_2 = some r) :
  Calls Try.prog 77 #[.agg #[.string a0_0,.string a0_1,.string a0_2],.agg #[.string a1_0,.string a1_1,.string a1_2]] w fun e w' => e = .returned (.bool r) ∧ Below w.heap.size w w' := by
 have hu61 := Try.underlying61;have HB := aM (Below.refl w.heap.size w);have H : (if a0_0.toList = a1_0.toList then (if a0_1.toList = a1_1.toList then (if a0_2.toList = a1_2.toList then (some true) else (some false)) else (some false)) else (some false)) = some r := h;clear h
 by_cases c3 : a0_0.toList = a1_0.toList
 focus
  rw [if_pos c3] at H;have c3b0 : (a0_0.toList == a1_0.toList) = true := beq_iff_eq.mpr c3;have c3b1 : (a0_0.toList != a1_0.toList) = false := bne_eq_false_iff_eq.mpr c3;clear c3
  by_cases c4 : a0_1.toList = a1_1.toList
  focus
   rw [if_pos c4] at H;have c4b0 : (a0_1.toList == a1_1.toList) = true := beq_iff_eq.mpr c4;have c4b1 : (a0_1.toList != a1_1.toList) = false := bne_eq_false_iff_eq.mpr c4;clear c4
   by_cases c5 : a0_2.toList = a1_2.toList
   focus
    rw [if_pos c5] at H;have c5b0 : (a0_2.toList == a1_2.toList) = true := beq_iff_eq.mpr c5;have c5b1 : (a0_2.toList != a1_2.toList) = false := bne_eq_false_iff_eq.mpr c5;clear c5;obtain rfl := Option.some.inj H;simp only [eS,eP] at H;obtain ⟨rfl⟩ := H
   rotate_left
   focus
    rw [if_neg c5] at H;have c5b0 : (a0_2.toList == a1_2.toList) = false := beq_eq_false_iff_ne.mpr c5;have c5b1 : (a0_2.toList != a1_2.toList) = true := bne_iff_ne.mpr c5;obtain rfl := Option.some.inj H;simp only [eS,eP] at H;obtain ⟨rfl⟩ := H
  rotate_left 2
  focus
   rw [if_neg c4] at H;have c4b0 : (a0_1.toList == a1_1.toList) = false := beq_eq_false_iff_ne.mpr c4;have c4b1 : (a0_1.toList != a1_1.toList) = true := bne_iff_ne.mpr c4;obtain rfl := Option.some.inj H;simp only [eS,eP] at H;obtain ⟨rfl⟩ := H
 rotate_left 3
 focus
  rw [if_neg c3] at H;have c3b0 : (a0_0.toList == a1_0.toList) = false := beq_eq_false_iff_ne.mpr c3;have c3b1 : (a0_0.toList != a1_0.toList) = true := bne_iff_ne.mpr c3;obtain rfl := Option.some.inj H;simp only [eS,eP] at H;obtain ⟨rfl⟩ := H
 all_goals
  go_enter Try.func77,Try.ntmps77;go_wp2_with (first|((with_reducible refine gate_dst (N := 2) rfl ?_);refine box_event ?hg (N := 2) ?hd (cs := #[.string a0_0,.string a0_1,.string a0_2]) (t := 61) ?hr ?_;(case hd => rfl);(case hg => rfl);(case hr => first|(go_simp;done)|(go_simp;rfl));intro gb141 hg Wgb141 hbox hb;have BK141 := aM (hbox);have GW141 := aM ((by rw [hg];exact (lZ hb_) : w.heap.size ≤ gb141));have GE141 := GW141;replace HB := aM (lT hb_ hb);clear hb hbox hg)|((with_reducible refine gate_dst (N := 3) rfl ?_);refine box_event ?hg (N := 3) ?hd (cs := #[.string a1_0,.string a1_1,.string a1_2]) (t := 61) ?hr ?_;(case hd => rfl);(case hg => rfl);(case hr => first|(go_simp;done)|(go_simp;rfl));intro gb142 hg Wgb142 hbox hb;have BK142 := aM (hbox);have GW142 := aM ((by rw [hg];exact (lZ hb_) : w.heap.size ≤ gb142));have GE142 := GW142;have NB141_142 := aM ((by rw [hg];exact Nat.ne_of_lt (blk_lt (g := gb141) (o := .cells #[.string a0_0,.string a0_1,.string a0_2] 61 (0,0)) (bk_ BK141.out)) : gb141 ≠ gb142));have NB142_141 := aM ((by rw [hg];exact Nat.ne_of_gt (blk_lt (g := gb141) (o := .cells #[.string a0_0,.string a0_1,.string a0_2] 61 (0,0)) (bk_ BK141.out)) : gb142 ≠ gb141));replace BK141 := aM (bW (g := gb141) (o := .cells #[.string a0_0,.string a0_1,.string a0_2] 61 (0,0)) (bk_ BK141.out) hb);replace HB := aM (lT hb_ hb);clear hb hbox hg;have hnby141_142 := NB141_142.out;have hncy142_141 := NB142_141.out;obtain ⟨hcz142x141_0,hcz142x141_1,hcz142x141_2,hfz142x141_0,hfz142x141_1,hfz142x141_2⟩ := z3_ BK141.out;obtain ⟨hcz142x142_0,hcz142x142_1,hcz142x142_2,hfz142x142_0,hfz142x142_1,hfz142x142_2⟩ := z3_ BK142.out));go_ret;exact ⟨by first|rfl|(simp [*];done),hb_⟩
def laws_eqTermS.l0 : Nat → List (S61) → List (S61) → Int → Option (Bool)
 | 0,_,_,_ => none
 | k + 1,x0,x1,x5 => if x5 < (x0.length : Int) then (if 0 ≤ x5 then (if x5 < (x1.length : Int) then ((laws_eqTerm.f ((rd_T61 x0 x5).f0) ((rd_T61 x0 x5).f1) ((rd_T61 x0 x5).f2) ((rd_T61 x1 x5).f0) ((rd_T61 x1 x5).f1) ((rd_T61 x1 x5).f2)).bind fun t145 => (if t145 = true then (laws_eqTermS.l0 k x0 x1 (wrap64 (x5 + 1))) else (some false))) else (none)) else (none)) else (some true)
def laws_eqTermS.f (k : Nat) (l0 : List (S61)) (l1 : List (S61)) : Option (Bool) := if (l0.length : Int) = (l1.length : Int) then (laws_eqTermS.l0 k l0 l1 0) else (some false)
theorem laws_eqTermS.mono_l : ∀ k,(∀ y0 y1 y2,LeO (laws_eqTermS.l0 k y0 y1 y2) (laws_eqTermS.l0 (k + 1) y0 y1 y2))
 | 0 => fun _ _ _ r h => by simp [laws_eqTermS.l0] at h
 | k + 1 => by
  have ih0 := laws_eqTermS.mono_l k
  ·intro y0 y1 y2
   unfold laws_eqTermS.l0
   repeat' first
   | (with_reducible exact ih0 _ _ _)
   | (with_reducible exact LeO.refl _)
   | (with_reducible exact LeO.none _)
   | (with_reducible refine LeO.ite ?_ ?_)
   | (with_reducible refine LeO.bind ?_ (fun _ => ?_))
   | exact ih0 _ _ _
   | exact LeO.none _
   | refine LeO.ite ?_ ?_
   | refine LeO.bind ?_ (fun _ => ?_)
theorem laws_eqTermS.mono : ∀ a0 a1 k,LeO (laws_eqTermS.f k a0 a1) (laws_eqTermS.f (k + 1) a0 a1) := by
 intro a0 a1 k
 have ih0 := laws_eqTermS.mono_l k
 unfold laws_eqTermS.f
 repeat' first
   | (with_reducible exact ih0 _ _ _)
   | (with_reducible exact LeO.refl _)
   | (with_reducible exact LeO.none _)
   | (with_reducible refine LeO.ite ?_ ?_)
   | (with_reducible refine LeO.bind ?_ (fun _ => ?_))
   | exact ih0 _ _ _
   | exact LeO.none _
   | refine LeO.ite ?_ ?_
   | refine LeO.bind ?_ (fun _ => ?_)
def laws_eqTermS.T6 : Bool × List (List Nat × List Nat) := (true,[([],[]),([],[]),([0,1],[0,1]),([2],[2]),([],[]),([],[]),([4,5],[4,5]),([6],[6]),([3,7],[3,7]),([8],[8])])
def laws_eqTermS.B6 : List Nat := [0,0,3,7,0,0,48,112,255,511]
theorem laws_eqTermS.tab6 : rtab .any (opsOf Try.f46 6) = laws_eqTermS.T6 := by kernel_rfl
theorem laws_eqTermS.bits6 : waitsOk laws_eqTermS.T6.2 laws_eqTermS.B6 = true := by kernel_rfl
set_option maxHeartbeats 8000000 in
set_option maxRecDepth 100000 in
theorem laws_eqTermS.calls (k : Nat) (A0 : Option Addr) (c0 : Nat) (l0 : List (S61)) (A1 : Option Addr) (c1 : Nat) (l1 : List (S61)) (r : Bool) (w : World) (hr0 : Kd.C k61 w A0 l0.length l0) (hc0 : l0.length ≤ c0) (hr1 : Kd.C k61 w A1 l1.length l1) (hc1 : l1.length ≤ c1) (h : laws_eqTermS.f k l0 l1 = some r) :
  Calls Try.prog 46 #[.slice A0 l0.length c0,.slice A1 l1.length c1] w fun e w' => e = .returned (.bool r) ∧ Below w.heap.size w w' := by
 have hu61 := Try.underlying61;have HR0 := aM hr0;have HC0 := aM hc0;clear hr0 hc0;have HR1 := aM hr1;have HC1 := aM hc1;clear hr1 hc1;have HB := aM (Below.refl w.heap.size w);have H : (if (l0.length : Int) = (l1.length : Int) then (laws_eqTermS.l0 k l0 l1 0) else (some false)) = some r := h;clear h
 by_cases c3 : (l0.length : Int) = (l1.length : Int)
 ·rw [if_pos c3] at H;have c3b0 : ((l0.length : Int) == (l1.length : Int)) = true := beq_iff_eq.mpr c3;have c3b1 : ((l0.length : Int) != (l1.length : Int)) = false := bne_eq_false_iff_eq.mpr c3;have c3b2 : (l0.length == l1.length) = true := (by first|simpa using c3|(simp at c3 ⊢;omega));clear c3;have H' := aM H;clear H;go_enter Try.func46,Try.ntmps46;go_wp2;go_loopg [5] k (fun kq v5 w' => ∃ (x5_1 : Int),v5 = .int .i64 x5_1 ∧ Aside0 (laws_eqTermS.l0 kq l0 l1 x5_1 = some r) ∧ Aside0 (kq ≤ k) ∧ Aside0 (Below w.heap.size w w'))
  case atStart => exact ⟨(0),(by first|rfl|(simp [*];done)),H',⟨Nat.le_refl _⟩,⟨hb_⟩⟩
  case round =>
   clear H';(try clear c1);(try clear p2);(try clear c3);(try clear c3b0);(try clear c3b1);(try clear c3b2);obtain ⟨x5_1,rfl,HA,HK1,HB⟩ := hrel
   cases gk with
   | zero => exact absurd HA.out (by simp [laws_eqTermS.l0])
   | succ k1 =>
    have H := HA.out;clear HA;simp only [laws_eqTermS.l0] at H
    by_cases c4 : x5_1 < (l0.length : Int)
    focus
     rw [if_pos c4] at H;have c4b0 : decide (x5_1 < (l0.length : Int)) = true := dT c4;clear c4
     by_cases c5 : 0 ≤ x5_1
     rotate_left;rw [if_neg c5] at H;exact absurd H (by simp);rw [if_pos c5] at H;have c5b0 : decide (0 ≤ x5_1) = true := dT c5;clear c5
     by_cases c6 : x5_1 < (l1.length : Int)
     rotate_left;rw [if_neg c6] at H;exact absurd H (by simp);rw [if_pos c6] at H;have c6b0 : decide (x5_1 < (l1.length : Int)) = true := dT c6;clear c6;obtain ⟨t145,A7,H⟩ := bE_ H
     by_cases c8 : t145 = true
     focus
      subst c8;rw [if_pos rfl] at H;have H' := aM H;clear H
     rotate_left
     focus
      replace c8 := Bool.eq_false_iff.mpr c8;subst c8;rw [if_neg Bool.false_ne_true] at H;obtain rfl := Option.some.inj H;simp only [eS,eP] at H;obtain ⟨rfl⟩ := H
    rotate_left 2
    focus
     rw [if_neg c4] at H;have c4b0 : decide (x5_1 < (l0.length : Int)) = false := dF c4;clear c4;obtain rfl := Option.some.inj H;simp only [eS,eP] at H;obtain ⟨rfl⟩ := H
    all_goals
     (try go_wp2)
     first
      |
       go_ret;exact ⟨by first|rfl|(simp [*];done),hb_⟩
      |
       replace HB := aM (lD HB.out);have p01 : 0 ≤ (x5_1 : Int) := oD (by assumption);have q01 : x5_1 < (l0.length : Int) := oD (by assumption);obtain ⟨ad01,e01,hx01_0,hx01_1,hx01_2⟩ := at_T61 HR0.out x5_1 p01 q01;have hw01_2 := hx01_2;have hw01_1 := hx01_1;have hw01_0 := hx01_0;cases e01;replace hx01_0 := (HB.out.cell (wB w _ hx01_0)).trans hx01_0;replace hx01_1 := (HB.out.cell (wB w _ hx01_1)).trans hx01_1;replace hx01_2 := (HB.out.cell (wB w _ hx01_2)).trans hx01_2;replace p01 := eq_true p01;replace q01 := eq_true q01;have p02 : 0 ≤ (x5_1 : Int) := oD (by assumption);have q02 : x5_1 < (l1.length : Int) := oD (by assumption);obtain ⟨ad02,e02,hx02_0,hx02_1,hx02_2⟩ := at_T61 HR1.out x5_1 p02 q02;have hw02_2 := hx02_2;have hw02_1 := hx02_1;have hw02_0 := hx02_0;cases e02;replace hx02_0 := (HB.out.cell (wB w _ hx02_0)).trans hx02_0;replace hx02_1 := (HB.out.cell (wB w _ hx02_1)).trans hx02_1;replace hx02_2 := (HB.out.cell (wB w _ hx02_2)).trans hx02_2;replace p02 := eq_true p02;replace q02 := eq_true q02;refine start_ (n := 10) (S := fun w' => w'.cell? (ad01.add ((x5_1).toNat * 3)) = some (.string ((rd_T61 l0 x5_1).f0)) ∧ w'.cell? ⟨(ad01.add ((x5_1).toNat * 3)).block,(ad01.add ((x5_1).toNat * 3)).off + 1,none⟩ = some (.string ((rd_T61 l0 x5_1).f1)) ∧ w'.cell? ⟨(ad01.add ((x5_1).toNat * 3)).block,(ad01.add ((x5_1).toNat * 3)).off + 2,none⟩ = some (.string ((rd_T61 l0 x5_1).f2)) ∧ w'.cell? (ad02.add ((x5_1).toNat * 3)) = some (.string ((rd_T61 l1 x5_1).f0)) ∧ w'.cell? ⟨(ad02.add ((x5_1).toNat * 3)).block,(ad02.add ((x5_1).toNat * 3)).off + 1,none⟩ = some (.string ((rd_T61 l1 x5_1).f1)) ∧ w'.cell? ⟨(ad02.add ((x5_1).toNat * 3)).block,(ad02.add ((x5_1).toNat * 3)).off + 2,none⟩ = some (.string ((rd_T61 l1 x5_1).f2))) (ds := []) (mk_ 10 0) (by kernel_rfl) rfl (by kernel_rfl) ⟨((HB.out.cell (wB w _ hw01_0)).trans hw01_0),((HB.out.cell (wB w _ hw01_1)).trans hw01_1),((HB.out.cell (wB w _ hw01_2)).trans hw01_2),((HB.out.cell (wB w _ hw02_0)).trans hw02_0),((HB.out.cell (wB w _ hw02_1)).trans hw02_1),((HB.out.cell (wB w _ hw02_2)).trans hw02_2)⟩ (fun hHeld => ?_);refine with_tabW laws_eqTermS.tab6 laws_eqTermS.bits6 (fun HT_ HW_ => ?_);generalize wr.drew = wk0 at HB hx01_0 hx01_1 hx01_2 hx02_0 hx02_1 hx02_2 hHeld ⊢;refine pure_ (i := 0) (N := some 17) (v := ?_) (a' := ?_) (mk_ 10 1) rfl rfl (any_of HT_.out (by kernel_rfl)) (fun _ _ _ h => h) (Or.inl ⟨by rfl,?_⟩) ?_ ?_;rotate_left;intro w';go_simp;(with_reducible rfl);rotate_left;simp only [Act.put,lI,sZ,sS,i64_w,i32_w];rfl;refine pure_ (i := 1) (N := some 18) (v := ?_) (a' := ?_) (mk_ 10 3) rfl rfl (any_of HT_.out (by kernel_rfl)) (fun _ _ _ h => h) (Or.inl ⟨by rfl,?_⟩) ?_ ?_;rotate_left;intro w';go_simp;(with_reducible rfl);rotate_left;simp only [Act.put,lI,sZ,sS,i64_w,i32_w];rfl;refine pure_ (i := 2) (N := some 19) (v := ?_) (a' := ?_) (mk_ 10 7) rfl rfl (any_of HT_.out (by kernel_rfl)) (fun _ _ _ h => h) (Or.inl ⟨by rfl,?_⟩) ?_ ?_;rotate_left;intro w';go_simp;(with_reducible rfl);rotate_left;simp only [Act.put,lI,sZ,sS,i64_w,i32_w];rfl;refine pure_ (i := 4) (N := some 21) (v := ?_) (a' := ?_) (mk_ 10 23) rfl rfl (any_of HT_.out (by kernel_rfl)) (fun _ _ _ h => h) (Or.inl ⟨by rfl,?_⟩) ?_ ?_;rotate_left;intro w';go_simp;(with_reducible rfl);rotate_left;simp only [Act.put,lI,sZ,sS,i64_w,i32_w];rfl;refine pure_ (i := 5) (N := some 22) (v := ?_) (a' := ?_) (mk_ 10 55) rfl rfl (any_of HT_.out (by kernel_rfl)) (fun _ _ _ h => h) (Or.inl ⟨by rfl,?_⟩) ?_ ?_;rotate_left;intro w';go_simp;(with_reducible rfl);rotate_left;simp only [Act.put,lI,sZ,sS,i64_w,i32_w];rfl;refine pure_ (i := 6) (N := some 23) (v := ?_) (a' := ?_) (mk_ 10 119) rfl rfl (any_of HT_.out (by kernel_rfl)) (fun _ _ _ h => h) (Or.inl ⟨by rfl,?_⟩) ?_ ?_;rotate_left;intro w';go_simp;(with_reducible rfl);rotate_left;simp only [Act.put,lI,sZ,sS,i64_w,i32_w];rfl;refine take_ (i := 3) (N := some 20) (v := ?_) (a' := ?_) (mk_ 10 127) rfl rfl (take_ofW HT_.out HW_.out (by kernel_rfl)) (fun _ _ _ h => h) (Or.inl ⟨by rfl,?_⟩) hHeld ?_ ?_;rotate_left;rintro w' ⟨s0,s1,s2,s3,s4,s5⟩;go_simp;(with_reducible rfl);rotate_left;simp only [Act.put,lI,sZ,sS,i64_w,i32_w];rfl;refine take_ (i := 7) (N := some 24) (v := ?_) (a' := ?_) (mk_ 10 255) rfl rfl (take_ofW HT_.out HW_.out (by kernel_rfl)) (fun _ _ _ h => h) (Or.inl ⟨by rfl,?_⟩) hHeld ?_ ?_;rotate_left;rintro w' ⟨s0,s1,s2,s3,s4,s5⟩;go_simp;(with_reducible rfl);rotate_left;simp only [Act.put,lI,sZ,sS,i64_w,i32_w];rfl;refine one_ (i := 8) (N := some 25) (mk_ 10 511) rfl rfl (one_of HT_.out (by kernel_rfl)) (by decide) (fun K hK => ?_);refine goes_ Try.func77 (by kernel_rfl) rfl #[.agg #[.string ((rd_T61 l0 x5_1).f0),.string ((rd_T61 l0 x5_1).f1),.string ((rd_T61 l0 x5_1).f2)],.agg #[.string ((rd_T61 l1 x5_1).f0),.string ((rd_T61 l1 x5_1).f1),.string ((rd_T61 l1 x5_1).f2)]] (by rfl) rfl rfl (by (try simp only [mT,mC,mN]);first|done|rfl|(simp only [xD,xT];rfl)) ?_;(with_reducible refine (laws_eqTerm.calls _ _ _ _ _ _ _ _ A7.out).mono ?_);rintro e wk1 ⟨rfl,hb⟩;refine ⟨_,rfl,?_⟩;replace HB := aM (lT hb_ hb);(try clear hb);(try clear hb2);(try clear hk);(try clear hi);refine hK.out _ _ ⟨((HB.out.cell (wB w _ hw01_0)).trans hw01_0),((HB.out.cell (wB w _ hw01_1)).trans hw01_1),((HB.out.cell (wB w _ hw01_2)).trans hw01_2),((HB.out.cell (wB w _ hw02_0)).trans hw02_0),((HB.out.cell (wB w _ hw02_1)).trans hw02_1),((HB.out.cell (wB w _ hw02_2)).trans hw02_2)⟩ (fun hHeld => ?_);clear hK K;refine norm_ (a' := ?_) ?_ ?_;rotate_left;show Act.put _ (some 25) _ = _;simp only [Act.put,lI,sZ,sS,i64_w,i32_w];rfl;refine pure_ (i := 9) (N := some 26) (v := ?_) (a' := ?_) (mk_ 10 1023) rfl rfl (any_of HT_.out (by kernel_rfl)) (fun _ _ _ h => h) (Or.inl ⟨by rfl,?_⟩) ?_ ?_;rotate_left;intro w';go_simp;(with_reducible rfl);rotate_left;simp only [Act.put,lI,sZ,sS,i64_w,i32_w];rfl;refine done_ (done_of HT_.out (by kernel_rfl)) ?_;(try go_wp2)
       first
        |
         go_ret;exact ⟨by first|rfl|(simp [*];done),hb_⟩
        |
         go_roundg k1
         case measure => have := HK1.out;omega
         case rel => exact ⟨(wrap64 (x5_1 + 1)),(by first|rfl|(simp [*];done)),H',⟨by have := HK1.out;omega⟩,⟨hb_⟩⟩
 ·rw [if_neg c3] at H;have c3b0 : ((l0.length : Int) == (l1.length : Int)) = false := beq_eq_false_iff_ne.mpr c3;have c3b1 : ((l0.length : Int) != (l1.length : Int)) = true := bne_iff_ne.mpr c3;have c3b2 : (l0.length == l1.length) = false := (by first|simpa using c3|(simp at c3 ⊢;omega));obtain rfl := Option.some.inj H;simp only [eS,eP] at H;obtain ⟨rfl⟩ := H;go_enter Try.func46,Try.ntmps46;go_wp2;go_ret;exact ⟨by first|rfl|(simp [*];done),hb_⟩
def laws_eqOrdinalRule.f (a0_0 : Int) (a0_1 : Int) (a0_2 : ByteArray) (a1_0 : Int) (a1_1 : Int) (a1_2 : ByteArray) : Option (Bool) := if a0_0 = a1_0 then (if a0_1 = a1_1 then (if a0_2.toList = a1_2.toList then (some true) else (some false)) else (some false)) else (some false)
set_option maxHeartbeats 8000000 in
set_option maxRecDepth 100000 in
theorem laws_eqOrdinalRule.calls (a0_0 : Int) (a0_1 : Int) (a0_2 : ByteArray) (a1_0 : Int) (a1_1 : Int) (a1_2 : ByteArray) (r : Bool) (w : World) (h : laws_eqOrdinalRule.f a0_0 a0_1 a0_2 a1_0 a1_1 a1_2 = some r) :
  Calls Try.prog 78 #[.agg #[.int .i64 a0_0,.int .i64 a0_1,.string a0_2],.agg #[.int .i64 a1_0,.int .i64 a1_1,.string a1_2]] w fun e w' => e = .returned (.bool r) ∧ Below w.heap.size w w' := by
 have hu72 := Try.underlying72;have HB := aM (Below.refl w.heap.size w);have H : (if a0_0 = a1_0 then (if a0_1 = a1_1 then (if a0_2.toList = a1_2.toList then (some true) else (some false)) else (some false)) else (some false)) = some r := h;clear h
 by_cases c3 : a0_0 = a1_0
 focus
  rw [if_pos c3] at H;have c3b0 : (a0_0 == a1_0) = true := beq_iff_eq.mpr c3;have c3b1 : (a0_0 != a1_0) = false := bne_eq_false_iff_eq.mpr c3;clear c3
  by_cases c4 : a0_1 = a1_1
  focus
   rw [if_pos c4] at H;have c4b0 : (a0_1 == a1_1) = true := beq_iff_eq.mpr c4;have c4b1 : (a0_1 != a1_1) = false := bne_eq_false_iff_eq.mpr c4;clear c4
   by_cases c5 : a0_2.toList = a1_2.toList
   focus
    rw [if_pos c5] at H;have c5b0 : (a0_2.toList == a1_2.toList) = true := beq_iff_eq.mpr c5;have c5b1 : (a0_2.toList != a1_2.toList) = false := bne_eq_false_iff_eq.mpr c5;clear c5;obtain rfl := Option.some.inj H;simp only [eS,eP] at H;obtain ⟨rfl⟩ := H
   rotate_left
   focus
    rw [if_neg c5] at H;have c5b0 : (a0_2.toList == a1_2.toList) = false := beq_eq_false_iff_ne.mpr c5;have c5b1 : (a0_2.toList != a1_2.toList) = true := bne_iff_ne.mpr c5;obtain rfl := Option.some.inj H;simp only [eS,eP] at H;obtain ⟨rfl⟩ := H
  rotate_left 2
  focus
   rw [if_neg c4] at H;have c4b0 : (a0_1 == a1_1) = false := beq_eq_false_iff_ne.mpr c4;have c4b1 : (a0_1 != a1_1) = true := bne_iff_ne.mpr c4;obtain rfl := Option.some.inj H;simp only [eS,eP] at H;obtain ⟨rfl⟩ := H
 rotate_left 3
 focus
  rw [if_neg c3] at H;have c3b0 : (a0_0 == a1_0) = false := beq_eq_false_iff_ne.mpr c3;have c3b1 : (a0_0 != a1_0) = true := bne_iff_ne.mpr c3;obtain rfl := Option.some.inj H;simp only [eS,eP] at H;obtain ⟨rfl⟩ := H
 all_goals
  go_enter Try.func78,Try.ntmps78;go_wp2_with (first|((with_reducible refine gate_dst (N := 2) rfl ?_);refine box_event ?hg (N := 2) ?hd (cs := #[.int .i64 a0_0,.int .i64 a0_1,.string a0_2]) (t := 72) ?hr ?_;(case hd => rfl);(case hg => rfl);(case hr => first|(go_simp;done)|(go_simp;rfl));intro gb146 hg Wgb146 hbox hb;have BK146 := aM (hbox);have GW146 := aM ((by rw [hg];exact (lZ hb_) : w.heap.size ≤ gb146));have GE146 := GW146;replace HB := aM (lT hb_ hb);clear hb hbox hg)|((with_reducible refine gate_dst (N := 3) rfl ?_);refine box_event ?hg (N := 3) ?hd (cs := #[.int .i64 a1_0,.int .i64 a1_1,.string a1_2]) (t := 72) ?hr ?_;(case hd => rfl);(case hg => rfl);(case hr => first|(go_simp;done)|(go_simp;rfl));intro gb147 hg Wgb147 hbox hb;have BK147 := aM (hbox);have GW147 := aM ((by rw [hg];exact (lZ hb_) : w.heap.size ≤ gb147));have GE147 := GW147;have NB146_147 := aM ((by rw [hg];exact Nat.ne_of_lt (blk_lt (g := gb146) (o := .cells #[.int .i64 a0_0,.int .i64 a0_1,.string a0_2] 72 (0,0)) (bk_ BK146.out)) : gb146 ≠ gb147));have NB147_146 := aM ((by rw [hg];exact Nat.ne_of_gt (blk_lt (g := gb146) (o := .cells #[.int .i64 a0_0,.int .i64 a0_1,.string a0_2] 72 (0,0)) (bk_ BK146.out)) : gb147 ≠ gb146));replace BK146 := aM (bW (g := gb146) (o := .cells #[.int .i64 a0_0,.int .i64 a0_1,.string a0_2] 72 (0,0)) (bk_ BK146.out) hb);replace HB := aM (lT hb_ hb);clear hb hbox hg;have hnby146_147 := NB146_147.out;have hncy147_146 := NB147_146.out;obtain ⟨hcz147x146_0,hcz147x146_1,hcz147x146_2,hfz147x146_0,hfz147x146_1,hfz147x146_2⟩ := z3_ BK146.out;obtain ⟨hcz147x147_0,hcz147x147_1,hcz147x147_2,hfz147x147_0,hfz147x147_1,hfz147x147_2⟩ := z3_ BK147.out));go_ret;exact ⟨by first|rfl|(simp [*];done),hb_⟩
end Go.Proofs.Ytmkkcpdpfelalaa.P
