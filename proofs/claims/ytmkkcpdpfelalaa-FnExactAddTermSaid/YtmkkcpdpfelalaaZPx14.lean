/- Written by a program in this session: each theorem here says that a Go function computes the Lean function beside it, or that a law's row holds, under the conditions that the theorem itself states. -/
import Derived.Test.YtmkkcpdpfelalaaZPx0
import Derived.Test.YtmkkcpdpfelalaaZPx3
import Derived.Test.YtmkkcpdpfelalaaZPx13
namespace Go.Proofs.Ytmkkcpdpfelalaa.P
open Go.RowKit Go.Proofs.YtmkkcpdpfelalaaW.PrintWords Go.Proofs.YtmkkcpdpfelalaaW.PrintLast Go.Proofs.YtmkkcpdpfelalaaW.PrintMore
attribute [local go_sem] max2_int min2_int max_two min_two max_three min_three max_four min_four   -- for this text's walks alone
set_option linter.unusedVariables false
set_option linter.unusedSimpArgs false
def laws_heldOrdinalRuleS.l0 : Nat → List (S72) → Int → Int → Option (Int)
 | 0,_,_,_ => none
 | k + 1,x0,x1,x5 => if x5 < (x0.length : Int) then (if 0 ≤ x5 then (if ((rd_T72 x0 x5).f0) = x1 then (if ((rd_T72 x0 x5).f1) = (wrap64 (x1 + 1)) then ((laws_markText.f k (wrap64 ((wrap64 (x1 + 1)) + 1))).bind fun t349 => (if ((rd_T72 x0 x5).f2).toList = t349.toList then (laws_heldOrdinalRuleS.l0 k x0 (wrap64 ((wrap64 ((wrap64 (x1 + 1)) + 1)) + 1)) (wrap64 (x5 + 1))) else (some (-1)))) else (some (-1))) else (some (-1))) else (none)) else (some x1)
def laws_heldOrdinalRuleS.f (k : Nat) (l0 : List (S72)) (a1 : Int) : Option (Int) := laws_heldOrdinalRuleS.l0 k l0 a1 0
theorem laws_heldOrdinalRuleS.mono_l : ∀ k,(∀ y0 y1 y2,LeO (laws_heldOrdinalRuleS.l0 k y0 y1 y2) (laws_heldOrdinalRuleS.l0 (k + 1) y0 y1 y2))
 | 0 => fun _ _ _ r h => by simp [laws_heldOrdinalRuleS.l0] at h
 | k + 1 => by
  have ih0 := laws_heldOrdinalRuleS.mono_l k
  ·intro y0 y1 y2
   unfold laws_heldOrdinalRuleS.l0
   repeat' first
   | (with_reducible exact ih0 _ _ _)
   | (with_reducible exact laws_markText.mono _ _)
   | (with_reducible exact LeO.refl _)
   | (with_reducible exact LeO.none _)
   | (with_reducible refine LeO.ite ?_ ?_)
   | (with_reducible refine LeO.bind ?_ (fun _ => ?_))
   | exact ih0 _ _ _
   | exact laws_markText.mono _ _
   | exact LeO.none _
   | refine LeO.ite ?_ ?_
   | refine LeO.bind ?_ (fun _ => ?_)
theorem laws_heldOrdinalRuleS.mono : ∀ a0 a1 k,LeO (laws_heldOrdinalRuleS.f k a0 a1) (laws_heldOrdinalRuleS.f (k + 1) a0 a1) := by
 intro a0 a1 k
 have ih0 := laws_heldOrdinalRuleS.mono_l k
 unfold laws_heldOrdinalRuleS.f
 repeat' first
   | (with_reducible exact ih0 _ _ _)
   | (with_reducible exact laws_markText.mono _ _)
   | (with_reducible exact LeO.refl _)
   | (with_reducible exact LeO.none _)
   | (with_reducible refine LeO.ite ?_ ?_)
   | (with_reducible refine LeO.bind ?_ (fun _ => ?_))
   | exact ih0 _ _ _
   | exact laws_markText.mono _ _
   | exact LeO.none _
   | refine LeO.ite ?_ ?_
   | refine LeO.bind ?_ (fun _ => ?_)
def laws_heldOrdinalRuleS.T10 : Bool × List (List Nat × List Nat) := (true,[([],[]),([],[]),([0,1],[0,1]),([2],[2]),([3],[3]),([],[]),([5],[5]),([4,6],[4,6])])
def laws_heldOrdinalRuleS.B10 : List Nat := [0,0,3,7,15,0,32,127]
theorem laws_heldOrdinalRuleS.tab10 : rtab .any (opsOf Try.f68 10) = laws_heldOrdinalRuleS.T10 := by kernel_rfl
theorem laws_heldOrdinalRuleS.bits10 : waitsOk laws_heldOrdinalRuleS.T10.2 laws_heldOrdinalRuleS.B10 = true := by kernel_rfl
set_option maxHeartbeats 8000000 in
set_option maxRecDepth 100000 in
theorem laws_heldOrdinalRuleS.calls (k : Nat) (A0 : Option Addr) (c0 : Nat) (l0 : List (S72)) (a1 : Int) (r : Int) (w : World) (hr0 : Kd.C k72 w A0 l0.length l0) (hc0 : l0.length ≤ c0) (h : laws_heldOrdinalRuleS.f k l0 a1 = some r) :
  Calls Try.prog 68 #[.slice A0 l0.length c0,.int .i64 a1] w fun e w' => e = .returned (.int .i64 r) ∧ Below w.heap.size w w' := by
 have HR0 := aM hr0;have HC0 := aM hc0;clear hr0 hc0;have HB := aM (Below.refl w.heap.size w);have H : (laws_heldOrdinalRuleS.l0 k l0 a1 0) = some r := h;clear h;have H' := aM H;clear H;go_enter Try.func68,Try.ntmps68;go_wp2;go_loopg [1,5] k (fun kq v1 v5 w' => ∃ (x1_1 : Int) (x5_1 : Int),v1 = .int .i64 x1_1 ∧ v5 = .int .i64 x5_1 ∧ Aside0 (laws_heldOrdinalRuleS.l0 kq l0 x1_1 x5_1 = some r) ∧ Aside0 (kq ≤ k) ∧ Aside0 (Below w.heap.size w w'))
 case atStart => exact ⟨(a1),(0),(by first|rfl|(simp [*];done)),(by first|rfl|(simp [*];done)),H',⟨Nat.le_refl _⟩,⟨hb_⟩⟩
 case round =>
  clear H';(try clear p2);obtain ⟨x1_1,x5_1,rfl,rfl,HA,HK1,HB⟩ := hrel
  cases gk with
  | zero => exact absurd HA.out (by simp [laws_heldOrdinalRuleS.l0])
  | succ k1 =>
   have H := HA.out;clear HA;simp only [laws_heldOrdinalRuleS.l0] at H
   by_cases c3 : x5_1 < (l0.length : Int)
   focus
    rw [if_pos c3] at H;have c3b0 : decide (x5_1 < (l0.length : Int)) = true := dT c3;clear c3
    by_cases c4 : 0 ≤ x5_1
    rotate_left;rw [if_neg c4] at H;exact absurd H (by simp);rw [if_pos c4] at H;have c4b0 : decide (0 ≤ x5_1) = true := dT c4;clear c4
    by_cases c5 : ((rd_T72 l0 x5_1).f0) = x1_1
    focus
     rw [if_pos c5] at H;have c5b0 : (((rd_T72 l0 x5_1).f0) == x1_1) = true := beq_iff_eq.mpr c5;have c5b1 : (((rd_T72 l0 x5_1).f0) != x1_1) = false := bne_eq_false_iff_eq.mpr c5;clear c5
     by_cases c6 : ((rd_T72 l0 x5_1).f1) = (wrap64 (x1_1 + 1))
     focus
      rw [if_pos c6] at H;have c6b0 : (((rd_T72 l0 x5_1).f1) == (wrap64 (x1_1 + 1))) = true := beq_iff_eq.mpr c6;have c6b1 : (((rd_T72 l0 x5_1).f1) != (wrap64 (x1_1 + 1))) = false := bne_eq_false_iff_eq.mpr c6;clear c6;obtain ⟨t349,A7,H⟩ := bE_ H
      by_cases c8 : ((rd_T72 l0 x5_1).f2).toList = t349.toList
      focus
       rw [if_pos c8] at H;have c8b0 : (((rd_T72 l0 x5_1).f2).toList == t349.toList) = true := beq_iff_eq.mpr c8;have c8b1 : (((rd_T72 l0 x5_1).f2).toList != t349.toList) = false := bne_eq_false_iff_eq.mpr c8;clear c8;have H' := aM H;clear H
      rotate_left
      focus
       rw [if_neg c8] at H;have c8b0 : (((rd_T72 l0 x5_1).f2).toList == t349.toList) = false := beq_eq_false_iff_ne.mpr c8;have c8b1 : (((rd_T72 l0 x5_1).f2).toList != t349.toList) = true := bne_iff_ne.mpr c8;obtain rfl := Option.some.inj H;simp only [eS,eP] at H;obtain ⟨rfl⟩ := H
     rotate_left 2
     focus
      rw [if_neg c6] at H;have c6b0 : (((rd_T72 l0 x5_1).f1) == (wrap64 (x1_1 + 1))) = false := beq_eq_false_iff_ne.mpr c6;have c6b1 : (((rd_T72 l0 x5_1).f1) != (wrap64 (x1_1 + 1))) = true := bne_iff_ne.mpr c6;obtain rfl := Option.some.inj H;simp only [eS,eP] at H;obtain ⟨rfl⟩ := H
    rotate_left 3
    focus
     rw [if_neg c5] at H;have c5b0 : (((rd_T72 l0 x5_1).f0) == x1_1) = false := beq_eq_false_iff_ne.mpr c5;have c5b1 : (((rd_T72 l0 x5_1).f0) != x1_1) = true := bne_iff_ne.mpr c5;obtain rfl := Option.some.inj H;simp only [eS,eP] at H;obtain ⟨rfl⟩ := H
   rotate_left 4
   focus
    rw [if_neg c3] at H;have c3b0 : decide (x5_1 < (l0.length : Int)) = false := dF c3;clear c3;obtain rfl := Option.some.inj H;simp only [eS,eP] at H;obtain ⟨rfl⟩ := H
   all_goals
    (try (have p01 : 0 ≤ (x5_1 : Int) := oD (by assumption);have q01 : x5_1 < (l0.length : Int) := oD (by assumption);obtain ⟨ad01,e01,hx01_0,hx01_1,hx01_2⟩ := at_T72 HR0.out x5_1 p01 q01;cases e01;replace hx01_0 := (HB.out.cell (wB w _ hx01_0)).trans hx01_0;replace hx01_1 := (HB.out.cell (wB w _ hx01_1)).trans hx01_1;replace hx01_2 := (HB.out.cell (wB w _ hx01_2)).trans hx01_2;replace p01 := eq_true p01;replace q01 := eq_true q01));(try (have p02 : 0 ≤ (x5_1 : Int) := oD (by assumption);have q02 : x5_1 < (l0.length : Int) := oD (by assumption);obtain ⟨ad02,e02,hx02_0,hx02_1,hx02_2⟩ := at_T72 HR0.out x5_1 p02 q02;obtain rfl : ad01 = ad02 := (by injection e02);replace hx02_0 := (HB.out.cell (wB w _ hx02_0)).trans hx02_0;replace hx02_1 := (HB.out.cell (wB w _ hx02_1)).trans hx02_1;replace hx02_2 := (HB.out.cell (wB w _ hx02_2)).trans hx02_2;replace p02 := eq_true p02;replace q02 := eq_true q02));(try go_wp2)
    first
     |
      go_ret;exact ⟨by first|rfl|(simp [*];done),hb_⟩
     |
      replace HB := aM (lD HB.out);have p03 : 0 ≤ (x5_1 : Int) := oD (by assumption);have q03 : x5_1 < (l0.length : Int) := oD (by assumption);obtain ⟨ad03,e03,hx03_0,hx03_1,hx03_2⟩ := at_T72 HR0.out x5_1 p03 q03;have hw03_2 := hx03_2;have hw03_1 := hx03_1;have hw03_0 := hx03_0;obtain rfl : ad01 = ad03 := (by injection e03);replace hx03_0 := (HB.out.cell (wB w _ hx03_0)).trans hx03_0;replace hx03_1 := (HB.out.cell (wB w _ hx03_1)).trans hx03_1;replace hx03_2 := (HB.out.cell (wB w _ hx03_2)).trans hx03_2;replace p03 := eq_true p03;replace q03 := eq_true q03;refine start_ (n := 8) (S := fun w' => w'.cell? (ad01.add ((x5_1).toNat * 3)) = some (.int .i64 ((rd_T72 l0 x5_1).f0)) ∧ w'.cell? ⟨(ad01.add ((x5_1).toNat * 3)).block,(ad01.add ((x5_1).toNat * 3)).off + 1,none⟩ = some (.int .i64 ((rd_T72 l0 x5_1).f1)) ∧ w'.cell? ⟨(ad01.add ((x5_1).toNat * 3)).block,(ad01.add ((x5_1).toNat * 3)).off + 2,none⟩ = some (.string ((rd_T72 l0 x5_1).f2))) (ds := []) (mk_ 8 0) (by kernel_rfl) rfl (by kernel_rfl) ⟨((HB.out.cell (wB w _ hw03_0)).trans hw03_0),((HB.out.cell (wB w _ hw03_1)).trans hw03_1),((HB.out.cell (wB w _ hw03_2)).trans hw03_2)⟩ (fun hHeld => ?_);refine with_tabW laws_heldOrdinalRuleS.tab10 laws_heldOrdinalRuleS.bits10 (fun HT_ HW_ => ?_);generalize wr.drew = wk0 at HB hx03_0 hx03_1 hx03_2 hHeld ⊢;refine pure_ (i := 0) (N := some 30) (v := ?_) (a' := ?_) (mk_ 8 1) rfl rfl (any_of HT_.out (by kernel_rfl)) (fun _ _ _ h => h) (Or.inl ⟨by rfl,?_⟩) ?_ ?_;rotate_left;intro w';go_simp;(with_reducible rfl);rotate_left;simp only [Act.put,lI,sZ,sS,i64_w,i32_w];rfl;refine pure_ (i := 1) (N := some 31) (v := ?_) (a' := ?_) (mk_ 8 3) rfl rfl (any_of HT_.out (by kernel_rfl)) (fun _ _ _ h => h) (Or.inl ⟨by rfl,?_⟩) ?_ ?_;rotate_left;intro w';go_simp;(with_reducible rfl);rotate_left;simp only [Act.put,lI,sZ,sS,i64_w,i32_w];rfl;refine pure_ (i := 2) (N := some 32) (v := ?_) (a' := ?_) (mk_ 8 7) rfl rfl (any_of HT_.out (by kernel_rfl)) (fun _ _ _ h => h) (Or.inl ⟨by rfl,?_⟩) ?_ ?_;rotate_left;intro w';go_simp;(with_reducible rfl);rotate_left;simp only [Act.put,lI,sZ,sS,i64_w,i32_w];rfl;refine pure_ (i := 3) (N := some 33) (v := ?_) (a' := ?_) (mk_ 8 15) rfl rfl (any_of HT_.out (by kernel_rfl)) (fun _ _ _ h => h) (Or.inl ⟨by rfl,?_⟩) ?_ ?_;rotate_left;intro w';go_simp;(with_reducible rfl);rotate_left;simp only [Act.put,lI,sZ,sS,i64_w,i32_w];rfl;refine pure_ (i := 5) (N := some 35) (v := ?_) (a' := ?_) (mk_ 8 47) rfl rfl (any_of HT_.out (by kernel_rfl)) (fun _ _ _ h => h) (Or.inl ⟨by rfl,?_⟩) ?_ ?_;rotate_left;intro w';go_simp;(with_reducible rfl);rotate_left;simp only [Act.put,lI,sZ,sS,i64_w,i32_w];rfl;refine take_ (i := 4) (N := some 34) (v := ?_) (a' := ?_) (mk_ 8 63) rfl rfl (take_ofW HT_.out HW_.out (by kernel_rfl)) (fun _ _ _ h => h) (Or.inl ⟨by rfl,?_⟩) hHeld ?_ ?_;rotate_left;rintro w' ⟨s0,s1,s2⟩;go_simp;(with_reducible rfl);rotate_left;simp only [Act.put,lI,sZ,sS,i64_w,i32_w];rfl;refine one_ (i := 6) (N := some 36) (mk_ 8 127) rfl rfl (one_of HT_.out (by kernel_rfl)) (by decide) (fun K hK => ?_);refine goes_ Try.func58 (by kernel_rfl) rfl #[.int .i64 (wrap64 ((wrap64 (x1_1 + 1)) + 1))] (by rfl) rfl rfl (by (try simp only [mT,mC,mN]);first|done|rfl|(simp only [xD,xT];rfl)) ?_;(with_reducible refine (laws_markText.calls _ _ _ _ A7.out).mono ?_);rintro e wk1 ⟨rfl,hb⟩;refine ⟨_,rfl,?_⟩;replace HB := aM (lT hb_ hb);(try clear hb);(try clear hb2);(try clear hk);(try clear hi);refine hK.out _ _ ⟨((HB.out.cell (wB w _ hw03_0)).trans hw03_0),((HB.out.cell (wB w _ hw03_1)).trans hw03_1),((HB.out.cell (wB w _ hw03_2)).trans hw03_2)⟩ (fun hHeld => ?_);clear hK K;refine norm_ (a' := ?_) ?_ ?_;rotate_left;show Act.put _ (some 36) _ = _;simp only [Act.put,lI,sZ,sS,i64_w,i32_w];rfl;refine pure_ (i := 7) (N := some 37) (v := ?_) (a' := ?_) (mk_ 8 255) rfl rfl (any_of HT_.out (by kernel_rfl)) (fun _ _ _ h => h) (Or.inl ⟨by rfl,?_⟩) ?_ ?_;rotate_left;intro w';go_simp;(with_reducible rfl);rotate_left;simp only [Act.put,lI,sZ,sS,i64_w,i32_w];rfl;refine done_ (done_of HT_.out (by kernel_rfl)) ?_;(try go_wp2)
      first
       |
        go_ret;exact ⟨by first|rfl|(simp [*];done),hb_⟩
       |
        go_roundg k1
        case measure => have := HK1.out;omega
        case rel => exact ⟨(wrap64 ((wrap64 ((wrap64 (x1_1 + 1)) + 1)) + 1)),(wrap64 (x5_1 + 1)),(by first|rfl|(simp [*];done)),(by first|rfl|(simp [*];done)),H',⟨by have := HK1.out;omega⟩,⟨hb_⟩⟩
def laws_heldLocale.f (k : Nat) (a0_0 : ByteArray) (l0_1 : List (S61)) (l0_2 : List (S72)) (a0_3 : ByteArray) (a0_4 : ByteArray) (a1 : Int) : Option (Int) := (laws_heldTermS.f k l0_1 a1).bind fun t351 => (if t351 < 0 then (some (-1)) else ((laws_heldOrdinalRuleS.f k l0_2 t351).bind fun t352 => (if t352 < 0 then (some (-1)) else (some t352))))
theorem laws_heldLocale.mono : ∀ a0 a1 a2 a3 a4 a5 k,LeO (laws_heldLocale.f k a0 a1 a2 a3 a4 a5) (laws_heldLocale.f (k + 1) a0 a1 a2 a3 a4 a5) := by
 intro a0 a1 a2 a3 a4 a5 k
 unfold laws_heldLocale.f
 repeat' first
   | (with_reducible exact laws_heldOrdinalRuleS.mono _ _ _)
   | (with_reducible exact laws_heldTermS.mono _ _ _)
   | (with_reducible exact LeO.refl _)
   | (with_reducible exact LeO.none _)
   | (with_reducible refine LeO.ite ?_ ?_)
   | (with_reducible refine LeO.bind ?_ (fun _ => ?_))
   | exact laws_heldOrdinalRuleS.mono _ _ _
   | exact laws_heldTermS.mono _ _ _
   | exact LeO.none _
   | refine LeO.ite ?_ ?_
   | refine LeO.bind ?_ (fun _ => ?_)
set_option maxHeartbeats 8000000 in
set_option maxRecDepth 100000 in
theorem laws_heldLocale.calls (k : Nat) (a0_0 : ByteArray) (A0_1 : Option Addr) (c0_1 : Nat) (l0_1 : List (S61)) (A0_2 : Option Addr) (c0_2 : Nat) (l0_2 : List (S72)) (a0_3 : ByteArray) (a0_4 : ByteArray) (a1 : Int) (r : Int) (w : World) (hr0_1 : Kd.C k61 w A0_1 l0_1.length l0_1) (hc0_1 : l0_1.length ≤ c0_1) (hr0_2 : Kd.C k72 w A0_2 l0_2.length l0_2) (hc0_2 : l0_2.length ≤ c0_2) (h : laws_heldLocale.f k a0_0 l0_1 l0_2 a0_3 a0_4 a1 = some r) :
  Calls Try.prog 35 #[.agg #[.string a0_0,.slice A0_1 l0_1.length c0_1,.slice A0_2 l0_2.length c0_2,.string a0_3,.string a0_4],.int .i64 a1] w fun e w' => e = .returned (.int .i64 r) ∧ Below w.heap.size w w' := by
 have hu31 := Try.underlying31;have HR0_1 := aM hr0_1;have HC0_1 := aM hc0_1;clear hr0_1 hc0_1;have HR0_2 := aM hr0_2;have HC0_2 := aM hc0_2;clear hr0_2 hc0_2;have HB := aM (Below.refl w.heap.size w);have H : ((laws_heldTermS.f k l0_1 a1).bind fun t351 => (if t351 < 0 then (some (-1)) else ((laws_heldOrdinalRuleS.f k l0_2 t351).bind fun t352 => (if t352 < 0 then (some (-1)) else (some t352))))) = some r := h;clear h;obtain ⟨t351,A3,H⟩ := bE_ H
 by_cases c4 : t351 < 0
 focus
  rw [if_pos c4] at H;have c4b0 : decide (t351 < 0) = true := dT c4;clear c4;obtain rfl := Option.some.inj H;simp only [eS,eP] at H;obtain ⟨rfl⟩ := H
 rotate_left
 focus
  rw [if_neg c4] at H;have c4b0 : decide (t351 < 0) = false := dF c4;clear c4;obtain ⟨t352,A8,H⟩ := bE_ H
  by_cases c9 : t352 < 0
  focus
   rw [if_pos c9] at H;have c9b0 : decide (t352 < 0) = true := dT c9;clear c9;obtain rfl := Option.some.inj H;simp only [eS,eP] at H;obtain ⟨rfl⟩ := H
  rotate_left
  focus
   rw [if_neg c9] at H;have c9b0 : decide (t352 < 0) = false := dF c9;clear c9;obtain rfl := Option.some.inj H;simp only [eS,eP] at H;obtain ⟨rfl⟩ := H
 all_goals
  go_enter Try.func35,Try.ntmps35;go_wp2_with (first|((with_reducible refine gate_dst (N := 2) rfl ?_);refine box_event ?hg (N := 2) ?hd (cs := #[.string a0_0,.slice A0_1 l0_1.length c0_1,.slice A0_2 l0_2.length c0_2,.string a0_3,.string a0_4]) (t := 31) ?hr ?_;(case hd => rfl);(case hg => rfl);(case hr => first|(go_simp;done)|(go_simp;rfl));intro gb350 hg Wgb350 hbox hb;have BK350 := aM (hbox);have GW350 := aM ((by rw [hg];exact (lZ hb_) : w.heap.size ≤ gb350));have GE350 := GW350;replace HB := aM (lT hb_ hb);clear hb hbox hg;obtain ⟨hcz350x350_0,hcz350x350_1,hcz350x350_2,hcz350x350_3,hcz350x350_4,hfz350x350_0,hfz350x350_1,hfz350x350_2,hfz350x350_3,hfz350x350_4⟩ := z5_ BK350.out)|((with_reducible refine gate_callee (f := 67) rfl ?_);refine goesL_ (some 8) rfl rfl Try.func67 (by kernel_rfl) rfl #[.slice A0_1 l0_1.length c0_1,.int .i64 a1] rfl (by (try simp only [mT,mC,mN]);first|done|rfl|(simp only [xD,xT];rfl)) ?_;(with_reducible refine (laws_heldTermS.calls _ _ _ _ _ _ _ ?side1 ?side2 A3.out).mono ?_);(case side1 => repeat (first|exact (cB HR0_1.out HB.out)|(with_reducible first|refine cA ?_ _|refine cN ?_ _|refine cD ?_)));(case side2 => exact HC0_1.out);rintro e WA3 ⟨rfl,hb⟩;refine ⟨_,rfl,?_⟩;replace BK350 := aM (bW (g := gb350) (o := .cells #[.string a0_0,.slice A0_1 l0_1.length c0_1,.slice A0_2 l0_2.length c0_2,.string a0_3,.string a0_4] 31 (0,0)) (bk_ BK350.out) hb);replace HB := aM (lT hb_ hb);(try clear hb);obtain ⟨hcz3x350_0,hcz3x350_1,hcz3x350_2,hcz3x350_3,hcz3x350_4,hfz3x350_0,hfz3x350_1,hfz3x350_2,hfz3x350_3,hfz3x350_4⟩ := z5_ BK350.out)|((with_reducible refine gate_callee (f := 68) rfl ?_);refine goesL_ (some 14) rfl rfl Try.func68 (by kernel_rfl) rfl #[.slice A0_2 l0_2.length c0_2,.int .i64 t351] rfl (by (try simp only [mT,mC,mN]);first|done|rfl|(simp only [xD,xT];rfl)) ?_;(with_reducible refine (laws_heldOrdinalRuleS.calls _ _ _ _ _ _ _ ?side1 ?side2 A8.out).mono ?_);(case side1 => repeat (first|exact (cB HR0_2.out HB.out)|(with_reducible first|refine cA ?_ _|refine cN ?_ _|refine cD ?_)));(case side2 => exact HC0_2.out);rintro e WA8 ⟨rfl,hb⟩;refine ⟨_,rfl,?_⟩;replace BK350 := aM (bW (g := gb350) (o := .cells #[.string a0_0,.slice A0_1 l0_1.length c0_1,.slice A0_2 l0_2.length c0_2,.string a0_3,.string a0_4] 31 (0,0)) (bk_ BK350.out) hb);replace HB := aM (lT hb_ hb);(try clear hb)));go_ret;exact ⟨by first|rfl|(simp [*];done),hb_⟩
end Go.Proofs.Ytmkkcpdpfelalaa.P
