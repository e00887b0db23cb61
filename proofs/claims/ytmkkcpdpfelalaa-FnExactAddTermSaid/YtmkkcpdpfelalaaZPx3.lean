/- Written by a program in this session: each theorem here says that a Go function computes the Lean function beside it, or that a law's row holds, under the conditions that the theorem itself states. -/
import Derived.Test.YtmkkcpdpfelalaaZPx0
import Derived.Test.YtmkkcpdpfelalaaZPx2
namespace Go.Proofs.Ytmkkcpdpfelalaa.P
open Go.RowKit Go.Proofs.YtmkkcpdpfelalaaW.PrintWords Go.Proofs.YtmkkcpdpfelalaaW.PrintLast Go.Proofs.YtmkkcpdpfelalaaW.PrintMore
attribute [local go_sem] max2_int min2_int max_two min_two max_three min_three max_four min_four   -- for this text's walks alone
set_option linter.unusedVariables false
set_option linter.unusedSimpArgs false
def laws_eqOrdinalRuleS.l0 : Nat → List (S72) → List (S72) → Int → Option (Bool)
 | 0,_,_,_ => none
 | k + 1,x0,x1,x5 => if x5 < (x0.length : Int) then (if 0 ≤ x5 then (if x5 < (x1.length : Int) then ((laws_eqOrdinalRule.f ((rd_T72 x0 x5).f0) ((rd_T72 x0 x5).f1) ((rd_T72 x0 x5).f2) ((rd_T72 x1 x5).f0) ((rd_T72 x1 x5).f1) ((rd_T72 x1 x5).f2)).bind fun t150 => (if t150 = true then (laws_eqOrdinalRuleS.l0 k x0 x1 (wrap64 (x5 + 1))) else (some false))) else (none)) else (none)) else (some true)
def laws_eqOrdinalRuleS.f (k : Nat) (l0 : List (S72)) (l1 : List (S72)) : Option (Bool) := if (l0.length : Int) = (l1.length : Int) then (laws_eqOrdinalRuleS.l0 k l0 l1 0) else (some false)
theorem laws_eqOrdinalRuleS.mono_l : ∀ k,(∀ y0 y1 y2,LeO (laws_eqOrdinalRuleS.l0 k y0 y1 y2) (laws_eqOrdinalRuleS.l0 (k + 1) y0 y1 y2))
 | 0 => fun _ _ _ r h => by simp [laws_eqOrdinalRuleS.l0] at h
 | k + 1 => by
  have ih0 := laws_eqOrdinalRuleS.mono_l k
  ·intro y0 y1 y2
   unfold laws_eqOrdinalRuleS.l0
   repeat' first
   | (with_reducible exact ih0 _ _ _)
   | (with_reducible exact LeO.refl _)
   | (with_reducible exact LeO.none _)
   | (with_reducible refine LeO.ite ?_ ?_)
   | (with_reducible refine LeO.bind ?_ (fun _ => ?_))
   | exact ih0 _ _ _
   | exact LeO.none _
   | refine LeO.ite ?_ ?_
   | refine LeO.bind ?_ (fun _ => ?_)
theorem laws_eqOrdinalRuleS.mono : ∀ a0 a1 k,LeO (laws_eqOrdinalRuleS.f k a0 a1) (laws_eqOrdinalRuleS.f (k + 1) a0 a1) := by
 intro a0 a1 k
 have ih0 := laws_eqOrdinalRuleS.mono_l k
 unfold laws_eqOrdinalRuleS.f
 repeat' first
   | (with_reducible exact ih0 _ _ _)
   | (with_reducible exact LeO.refl _)
   | (with_reducible exact LeO.none _)
   | (with_reducible refine LeO.ite ?_ ?_)
   | (with_reducible refine LeO.bind ?_ (fun _ => ?_))
   | exact ih0 _ _ _
   | exact LeO.none _
   | refine LeO.ite ?_ ?_
   | refine LeO.bind ?_ (fun _ => ?_)
def laws_eqOrdinalRuleS.T6 : Bool × List (List Nat × List Nat) := (true,[([],[]),([],[]),([0,1],[0,1]),([2],[2]),([],[]),([],[]),([4,5],[4,5]),([6],[6]),([3,7],[3,7]),([8],[8])])
def laws_eqOrdinalRuleS.B6 : List Nat := [0,0,3,7,0,0,48,112,255,511]
theorem laws_eqOrdinalRuleS.tab6 : rtab .any (opsOf Try.f47 6) = laws_eqOrdinalRuleS.T6 := by kernel_rfl
theorem laws_eqOrdinalRuleS.bits6 : waitsOk laws_eqOrdinalRuleS.T6.2 laws_eqOrdinalRuleS.B6 = true := by kernel_rfl
set_option maxHeartbeats 8000000 in
set_option maxRecDepth 100000 in
theorem laws_eqOrdinalRuleS.calls (k : Nat) (A0 : Option Addr) (c0 : Nat) (l0 : List (S72)) (A1 : Option Addr) (c1 : Nat) (l1 : List (S72)) (r : Bool) (w : World) (hr0 : Kd.C k72 w A0 l0.length l0) (hc0 : l0.length ≤ c0) (hr1 : Kd.C k72 w A1 l1.length l1) (hc1 : l1.length ≤ c1) (h : laws_eqOrdinalRuleS.f k l0 l1 = some r) :
  Calls Try.prog 47 #[.slice A0 l0.length c0,.slice A1 l1.length c1] w fun e w' => e = .returned (.bool r) ∧ Below w.heap.size w w' := by
 have hu72 := Try.underlying72;have HR0 := aM hr0;have HC0 := aM hc0;clear hr0 hc0;have HR1 := aM hr1;have HC1 := aM hc1;clear hr1 hc1;have HB := aM (Below.refl w.heap.size w);have H : (if (l0.length : Int) = (l1.length : Int) then (laws_eqOrdinalRuleS.l0 k l0 l1 0) else (some false)) = some r := h;clear h
 by_cases c3 : (l0.length : Int) = (l1.length : Int)
 ·rw [if_pos c3] at H;have c3b0 : ((l0.length : Int) == (l1.length : Int)) = true := beq_iff_eq.mpr c3;have c3b1 : ((l0.length : Int) != (l1.length : Int)) = false := bne_eq_false_iff_eq.mpr c3;have c3b2 : (l0.length == l1.length) = true := (by first|simpa using c3|(simp at c3 ⊢;omega));clear c3;have H' := aM H;clear H;go_enter Try.func47,Try.ntmps47;go_wp2;go_loopg [5] k (fun kq v5 w' => ∃ (x5_1 : Int),v5 = .int .i64 x5_1 ∧ Aside0 (laws_eqOrdinalRuleS.l0 kq l0 l1 x5_1 = some r) ∧ Aside0 (kq ≤ k) ∧ Aside0 (Below w.heap.size w w'))
  case atStart => exact ⟨(0),(by first|rfl|(simp [*];done)),H',⟨Nat.le_refl _⟩,⟨hb_⟩⟩
  case round =>
   clear H';(try clear c1);(try clear p2);(try clear c3);(try clear c3b0);(try clear c3b1);(try clear c3b2);obtain ⟨x5_1,rfl,HA,HK1,HB⟩ := hrel
   cases gk with
   | zero => exact absurd HA.out (by simp [laws_eqOrdinalRuleS.l0])
   | succ k1 =>
    have H := HA.out;clear HA;simp only [laws_eqOrdinalRuleS.l0] at H
    by_cases c4 : x5_1 < (l0.length : Int)
    focus
     rw [if_pos c4] at H;have c4b0 : decide (x5_1 < (l0.length : Int)) = true := dT c4;clear c4
     by_cases c5 : 0 ≤ x5_1
     rotate_left;rw [if_neg c5] at H;exact absurd H (by simp);rw [if_pos c5] at H;have c5b0 : decide (0 ≤ x5_1) = true := dT c5;clear c5
     by_cases c6 : x5_1 < (l1.length : Int)
     rotate_left;rw [if_neg c6] at H;exact absurd H (by simp);rw [if_pos c6] at H;have c6b0 : decide (x5_1 < (l1.length : Int)) = true := dT c6;clear c6;obtain ⟨t150,A7,H⟩ := bE_ H
     by_cases c8 : t150 = true
     focus
      subst c8;rw [if_pos rfl] at H;have H' := aM H;clear H
     rotate_left
     focus
      replace c8 := Bool.eq_false_iff.mpr c8;subst c8;rw [if_neg Bool.false_ne_true] at H;obtain rfl := Option.some.inj H;simp only [eS,eP] at H;obtain ⟨rfl⟩ := H
    rotate_left 2
    focus
     rw [if_neg c4] at H;have c4b0 : decide (x5_1 < (l0.length : Int)) = false := dF c4;clear c4;obtain rfl := Option.some.inj H;simp only [eS,eP] at H;obtain ⟨rfl⟩ := H
    all_goals
     (try go_wp2)
     first
      |
       go_ret;exact ⟨by first|rfl|(simp [*];done),hb_⟩
      |
       replace HB := aM (lD HB.out);have p01 : 0 ≤ (x5_1 : Int) := oD (by assumption);have q01 : x5_1 < (l0.length : Int) := oD (by assumption);obtain ⟨ad01,e01,hx01_0,hx01_1,hx01_2⟩ := at_T72 HR0.out x5_1 p01 q01;have hw01_2 := hx01_2;have hw01_1 := hx01_1;have hw01_0 := hx01_0;cases e01;replace hx01_0 := (HB.out.cell (wB w _ hx01_0)).trans hx01_0;replace hx01_1 := (HB.out.cell (wB w _ hx01_1)).trans hx01_1;replace hx01_2 := (HB.out.cell (wB w _ hx01_2)).trans hx01_2;replace p01 := eq_true p01;replace q01 := eq_true q01;have p02 : 0 ≤ (x5_1 : Int) := oD (by assumption);have q02 : x5_1 < (l1.length : Int) := oD (by assumption);obtain ⟨ad02,e02,hx02_0,hx02_1,hx02_2⟩ := at_T72 HR1.out x5_1 p02 q02;have hw02_2 := hx02_2;have hw02_1 := hx02_1;have hw02_0 := hx02_0;cases e02;replace hx02_0 := (HB.out.cell (wB w _ hx02_0)).trans hx02_0;replace hx02_1 := (HB.out.cell (wB w _ hx02_1)).trans hx02_1;replace hx02_2 := (HB.out.cell (wB w _ hx02_2)).trans hx02_2;replace p02 := eq_true p02;replace q02 := eq_true q02;refine start_ (n := 10) (S := fun w' => w'.cell? (ad01.add ((x5_1).toNat * 3)) = some (.int .i64 ((rd_T72 l0 x5_1).f0)) ∧ w'.cell? ⟨(ad01.add ((x5_1).toNat * 3)).block,(ad01.add ((x5_1).toNat * 3)).off + 1,none⟩ = some (.int .i64 ((rd_T72 l0 x5_1).f1)) ∧ w'.cell? ⟨(ad01.add ((x5_1).toNat * 3)).block,(ad01.add ((x5_1).toNat * 3)).off + 2,none⟩ = some (.string ((rd_T72 l0 x5_1).f2)) ∧ w'.cell? (ad02.add ((x5_1).toNat * 3)) = some (.int .i64 ((rd_T72 l1 x5_1).f0)) ∧ w'.cell? ⟨(ad02.add ((x5_1).toNat * 3)).block,(ad02.add ((x5_1).toNat * 3)).off + 1,none⟩ = some (.int .i64 ((rd_T72 l1 x5_1).f1)) ∧ w'.cell? ⟨(ad02.add ((x5_1).toNat * 3)).block,(ad02.add ((x5_1).toNat * 3)).off + 2,none⟩ = some (.string ((rd_T72 l1 x5_1).f2))) (ds := []) (mk_ 10 0) (by kernel_rfl) rfl (by kernel_rfl) ⟨((HB.out.cell (wB w _ hw01_0)).trans hw01_0),((HB.out.cell (wB w _ hw01_1)).trans hw01_1),((HB.out.cell (wB w _ hw01_2)).trans hw01_2),((HB.out.cell (wB w _ hw02_0)).trans hw02_0),((HB.out.cell (wB w _ hw02_1)).trans hw02_1),((HB.out.cell (wB w _ hw02_2)).trans hw02_2)⟩ (fun hHeld => ?_);refine with_tabW laws_eqOrdinalRuleS.tab6 laws_eqOrdinalRuleS.bits6 (fun HT_ HW_ => ?_);generalize wr.drew = wk0 at HB hx01_0 hx01_1 hx01_2 hx02_0 hx02_1 hx02_2 hHeld ⊢;refine pure_ (i := 0) (N := some 17) (v := ?_) (a' := ?_) (mk_ 10 1) rfl rfl (any_of HT_.out (by kernel_rfl)) (fun _ _ _ h => h) (Or.inl ⟨by rfl,?_⟩) ?_ ?_;rotate_left;intro w';go_simp;(with_reducible rfl);rotate_left;simp only [Act.put,lI,sZ,sS,i64_w,i32_w];rfl;refine pure_ (i := 1) (N := some 18) (v := ?_) (a' := ?_) (mk_ 10 3) rfl rfl (any_of HT_.out (by kernel_rfl)) (fun _ _ _ h => h) (Or.inl ⟨by rfl,?_⟩) ?_ ?_;rotate_left;intro w';go_simp;(with_reducible rfl);rotate_left;simp only [Act.put,lI,sZ,sS,i64_w,i32_w];rfl;refine pure_ (i := 2) (N := some 19) (v := ?_) (a' := ?_) (mk_ 10 7) rfl rfl (any_of HT_.out (by kernel_rfl)) (fun _ _ _ h => h) (Or.inl ⟨by rfl,?_⟩) ?_ ?_;rotate_left;intro w';go_simp;(with_reducible rfl);rotate_left;simp only [Act.put,lI,sZ,sS,i64_w,i32_w];rfl;refine pure_ (i := 4) (N := some 21) (v := ?_) (a' := ?_) (mk_ 10 23) rfl rfl (any_of HT_.out (by kernel_rfl)) (fun _ _ _ h => h) (Or.inl ⟨by rfl,?_⟩) ?_ ?_;rotate_left;intro w';go_simp;(with_reducible rfl);rotate_left;simp only [Act.put,lI,sZ,sS,i64_w,i32_w];rfl;refine pure_ (i := 5) (N := some 22) (v := ?_) (a' := ?_) (mk_ 10 55) rfl rfl (any_of HT_.out (by kernel_rfl)) (fun _ _ _ h => h) (Or.inl ⟨by rfl,?_⟩) ?_ ?_;rotate_left;intro w';go_simp;(with_reducible rfl);rotate_left;simp only [Act.put,lI,sZ,sS,i64_w,i32_w];rfl;refine pure_ (i := 6) (N := some 23) (v := ?_) (a' := ?_) (mk_ 10 119) rfl rfl (any_of HT_.out (by kernel_rfl)) (fun _ _ _ h => h) (Or.inl ⟨by rfl,?_⟩) ?_ ?_;rotate_left;intro w';go_simp;(with_reducible rfl);rotate_left;simp only [Act.put,lI,sZ,sS,i64_w,i32_w];rfl;refine take_ (i := 3) (N := some 20) (v := ?_) (a' := ?_) (mk_ 10 127) rfl rfl (take_ofW HT_.out HW_.out (by kernel_rfl)) (fun _ _ _ h => h) (Or.inl ⟨by rfl,?_⟩) hHeld ?_ ?_;rotate_left;rintro w' ⟨s0,s1,s2,s3,s4,s5⟩;go_simp;(with_reducible rfl);rotate_left;simp only [Act.put,lI,sZ,sS,i64_w,i32_w];rfl;refine take_ (i := 7) (N := some 24) (v := ?_) (a' := ?_) (mk_ 10 255) rfl rfl (take_ofW HT_.out HW_.out (by kernel_rfl)) (fun _ _ _ h => h) (Or.inl ⟨by rfl,?_⟩) hHeld ?_ ?_;rotate_left;rintro w' ⟨s0,s1,s2,s3,s4,s5⟩;go_simp;(with_reducible rfl);rotate_left;simp only [Act.put,lI,sZ,sS,i64_w,i32_w];rfl;refine one_ (i := 8) (N := some 25) (mk_ 10 511) rfl rfl (one_of HT_.out (by kernel_rfl)) (by decide) (fun K hK => ?_);refine goes_ Try.func78 (by kernel_rfl) rfl #[.agg #[.int .i64 ((rd_T72 l0 x5_1).f0),.int .i64 ((rd_T72 l0 x5_1).f1),.string ((rd_T72 l0 x5_1).f2)],.agg #[.int .i64 ((rd_T72 l1 x5_1).f0),.int .i64 ((rd_T72 l1 x5_1).f1),.string ((rd_T72 l1 x5_1).f2)]] (by rfl) rfl rfl (by (try simp only [mT,mC,mN]);first|done|rfl|(simp only [xD,xT];rfl)) ?_;(with_reducible refine (laws_eqOrdinalRule.calls _ _ _ _ _ _ _ _ A7.out).mono ?_);rintro e wk1 ⟨rfl,hb⟩;refine ⟨_,rfl,?_⟩;replace HB := aM (lT hb_ hb);(try clear hb);(try clear hb2);(try clear hk);(try clear hi);refine hK.out _ _ ⟨((HB.out.cell (wB w _ hw01_0)).trans hw01_0),((HB.out.cell (wB w _ hw01_1)).trans hw01_1),((HB.out.cell (wB w _ hw01_2)).trans hw01_2),((HB.out.cell (wB w _ hw02_0)).trans hw02_0),((HB.out.cell (wB w _ hw02_1)).trans hw02_1),((HB.out.cell (wB w _ hw02_2)).trans hw02_2)⟩ (fun hHeld => ?_);clear hK K;refine norm_ (a' := ?_) ?_ ?_;rotate_left;show Act.put _ (some 25) _ = _;simp only [Act.put,lI,sZ,sS,i64_w,i32_w];rfl;refine pure_ (i := 9) (N := some 26) (v := ?_) (a' := ?_) (mk_ 10 1023) rfl rfl (any_of HT_.out (by kernel_rfl)) (fun _ _ _ h => h) (Or.inl ⟨by rfl,?_⟩) ?_ ?_;rotate_left;intro w';go_simp;(with_reducible rfl);rotate_left;simp only [Act.put,lI,sZ,sS,i64_w,i32_w];rfl;refine done_ (done_of HT_.out (by kernel_rfl)) ?_;(try go_wp2)
       first
        |
         go_ret;exact ⟨by first|rfl|(simp [*];done),hb_⟩
        |
         go_roundg k1
         case measure => have := HK1.out;omega
         case rel => exact ⟨(wrap64 (x5_1 + 1)),(by first|rfl|(simp [*];done)),H',⟨by have := HK1.out;omega⟩,⟨hb_⟩⟩
 ·rw [if_neg c3] at H;have c3b0 : ((l0.length : Int) == (l1.length : Int)) = false := beq_eq_false_iff_ne.mpr c3;have c3b1 : ((l0.length : Int) != (l1.length : Int)) = true := bne_iff_ne.mpr c3;have c3b2 : (l0.length == l1.length) = false := (by first|simpa using c3|(simp at c3 ⊢;omega));obtain rfl := Option.some.inj H;simp only [eS,eP] at H;obtain ⟨rfl⟩ := H;go_enter Try.func47,Try.ntmps47;go_wp2;go_ret;exact ⟨by first|rfl|(simp [*];done),hb_⟩
def laws_eqLocale.f (k : Nat) (a0_0 : ByteArray) (l0_1 : List (S61)) (l0_2 : List (S72)) (a0_3 : ByteArray) (a0_4 : ByteArray) (a1_0 : ByteArray) (l1_1 : List (S61)) (l1_2 : List (S72)) (a1_3 : ByteArray) (a1_4 : ByteArray) : Option (Bool) := if a0_0.toList = a1_0.toList then ((laws_eqTermS.f k l0_1 l1_1).bind fun t153 => (if t153 = true then ((laws_eqOrdinalRuleS.f k l0_2 l1_2).bind fun t154 => (if t154 = true then (if a0_3.toList = a1_3.toList then (if a0_4.toList = a1_4.toList then (some true) else (some false)) else (some false)) else (some false))) else (some false))) else (some false)
theorem laws_eqLocale.mono : ∀ a0 a1 a2 a3 a4 a5 a6 a7 a8 a9 k,LeO (laws_eqLocale.f k a0 a1 a2 a3 a4 a5 a6 a7 a8 a9) (laws_eqLocale.f (k + 1) a0 a1 a2 a3 a4 a5 a6 a7 a8 a9) := by
 intro a0 a1 a2 a3 a4 a5 a6 a7 a8 a9 k
 unfold laws_eqLocale.f
 repeat' first
   | (with_reducible exact laws_eqOrdinalRuleS.mono _ _ _)
   | (with_reducible exact laws_eqTermS.mono _ _ _)
   | (with_reducible exact LeO.refl _)
   | (with_reducible exact LeO.none _)
   | (with_reducible refine LeO.ite ?_ ?_)
   | (with_reducible refine LeO.bind ?_ (fun _ => ?_))
   | exact laws_eqOrdinalRuleS.mono _ _ _
   | exact laws_eqTermS.mono _ _ _
   | exact LeO.none _
   | refine LeO.ite ?_ ?_
   | refine LeO.bind ?_ (fun _ => ?_)
set_option maxHeartbeats 8000000 in
set_option maxRecDepth 100000 in
theorem laws_eqLocale.calls (k : Nat) (a0_0 : ByteArray) (A0_1 : Option Addr) (c0_1 : Nat) (l0_1 : List (S61)) (A0_2 : Option Addr) (c0_2 : Nat) (l0_2 : List (S72)) (a0_3 : ByteArray) (a0_4 : ByteArray) (a1_0 : ByteArray) (A1_1 : Option Addr) (c1_1 : Nat) (l1_1 : List (S61)) (A1_2 : Option Addr) (c1_2 : Nat) (l1_2 : List (S72)) (a1_3 : ByteArray) (a1_4 : ByteArray) (r : Bool) (w : World) (hr0_1 : Kd.C k61 w A0_1 l0_1.length l0_1) (hc0_1 : l0_1.length ≤ c0_1) (hr0_2 : Kd.C k72 w A0_2 l0_2.length l0_2) (hc0_2 : l0_2.length ≤ c0_2) (hr1_1 : Kd.C k61 w A1_1 l1_1.length l1_1) (hc1_1 : l1_1.length ≤ c1_1) (hr1_2 : Kd.C k72 w A1_2 l1_2.length l1_2) (hc1_2 : l1_2.length ≤ c1_2) (h : laws_eqLocale.f k a0_0 l0_1 l0_2 a0_3 a0_4 a1_0 l1_1 l1_2 a1_3 a1_4 = some r) :
  Calls Try.prog 13 #[.agg #[.string a0_0,.slice A0_1 l0_1.length c0_1,.slice A0_2 l0_2.length c0_2,.string a0_3,.string a0_4],.agg #[.string a1_0,.slice A1_1 l1_1.length c1_1,.slice A1_2 l1_2.length c1_2,.string a1_3,.string a1_4]] w fun e w' => e = .returned (.bool r) ∧ Below w.heap.size w w' := by
 have hu31 := Try.underlying31;have HR0_1 := aM hr0_1;have HC0_1 := aM hc0_1;clear hr0_1 hc0_1;have HR0_2 := aM hr0_2;have HC0_2 := aM hc0_2;clear hr0_2 hc0_2;have HR1_1 := aM hr1_1;have HC1_1 := aM hc1_1;clear hr1_1 hc1_1;have HR1_2 := aM hr1_2;have HC1_2 := aM hc1_2;clear hr1_2 hc1_2;have HB := aM (Below.refl w.heap.size w);have H : (if a0_0.toList = a1_0.toList then ((laws_eqTermS.f k l0_1 l1_1).bind fun t153 => (if t153 = true then ((laws_eqOrdinalRuleS.f k l0_2 l1_2).bind fun t154 => (if t154 = true then (if a0_3.toList = a1_3.toList then (if a0_4.toList = a1_4.toList then (some true) else (some false)) else (some false)) else (some false))) else (some false))) else (some false)) = some r := h;clear h
 by_cases c3 : a0_0.toList = a1_0.toList
 focus
  rw [if_pos c3] at H;have c3b0 : (a0_0.toList == a1_0.toList) = true := beq_iff_eq.mpr c3;have c3b1 : (a0_0.toList != a1_0.toList) = false := bne_eq_false_iff_eq.mpr c3;clear c3;obtain ⟨t153,A4,H⟩ := bE_ H
  by_cases c5 : t153 = true
  focus
   subst c5;rw [if_pos rfl] at H;obtain ⟨t154,A6,H⟩ := bE_ H
   by_cases c7 : t154 = true
   focus
    subst c7;rw [if_pos rfl] at H
    by_cases c8 : a0_3.toList = a1_3.toList
    focus
     rw [if_pos c8] at H;have c8b0 : (a0_3.toList == a1_3.toList) = true := beq_iff_eq.mpr c8;have c8b1 : (a0_3.toList != a1_3.toList) = false := bne_eq_false_iff_eq.mpr c8;clear c8
     by_cases c9 : a0_4.toList = a1_4.toList
     focus
      rw [if_pos c9] at H;have c9b0 : (a0_4.toList == a1_4.toList) = true := beq_iff_eq.mpr c9;have c9b1 : (a0_4.toList != a1_4.toList) = false := bne_eq_false_iff_eq.mpr c9;clear c9;obtain rfl := Option.some.inj H;simp only [eS,eP] at H;obtain ⟨rfl⟩ := H
     rotate_left
     focus
      rw [if_neg c9] at H;have c9b0 : (a0_4.toList == a1_4.toList) = false := beq_eq_false_iff_ne.mpr c9;have c9b1 : (a0_4.toList != a1_4.toList) = true := bne_iff_ne.mpr c9;obtain rfl := Option.some.inj H;simp only [eS,eP] at H;obtain ⟨rfl⟩ := H
    rotate_left 2
    focus
     rw [if_neg c8] at H;have c8b0 : (a0_3.toList == a1_3.toList) = false := beq_eq_false_iff_ne.mpr c8;have c8b1 : (a0_3.toList != a1_3.toList) = true := bne_iff_ne.mpr c8;obtain rfl := Option.some.inj H;simp only [eS,eP] at H;obtain ⟨rfl⟩ := H
   rotate_left 3
   focus
    replace c7 := Bool.eq_false_iff.mpr c7;subst c7;rw [if_neg Bool.false_ne_true] at H;obtain rfl := Option.some.inj H;simp only [eS,eP] at H;obtain ⟨rfl⟩ := H
  rotate_left 4
  focus
   replace c5 := Bool.eq_false_iff.mpr c5;subst c5;rw [if_neg Bool.false_ne_true] at H;obtain rfl := Option.some.inj H;simp only [eS,eP] at H;obtain ⟨rfl⟩ := H
 rotate_left 5
 focus
  rw [if_neg c3] at H;have c3b0 : (a0_0.toList == a1_0.toList) = false := beq_eq_false_iff_ne.mpr c3;have c3b1 : (a0_0.toList != a1_0.toList) = true := bne_iff_ne.mpr c3;obtain rfl := Option.some.inj H;simp only [eS,eP] at H;obtain ⟨rfl⟩ := H
 all_goals
  go_enter Try.func13,Try.ntmps13;go_wp2_with (first|((with_reducible refine gate_dst (N := 2) rfl ?_);refine box_event ?hg (N := 2) ?hd (cs := #[.string a0_0,.slice A0_1 l0_1.length c0_1,.slice A0_2 l0_2.length c0_2,.string a0_3,.string a0_4]) (t := 31) ?hr ?_;(case hd => rfl);(case hg => rfl);(case hr => first|(go_simp;done)|(go_simp;rfl));intro gb151 hg Wgb151 hbox hb;have BK151 := aM (hbox);have GW151 := aM ((by rw [hg];exact (lZ hb_) : w.heap.size ≤ gb151));have GE151 := GW151;replace HB := aM (lT hb_ hb);clear hb hbox hg)|((with_reducible refine gate_dst (N := 3) rfl ?_);refine box_event ?hg (N := 3) ?hd (cs := #[.string a1_0,.slice A1_1 l1_1.length c1_1,.slice A1_2 l1_2.length c1_2,.string a1_3,.string a1_4]) (t := 31) ?hr ?_;(case hd => rfl);(case hg => rfl);(case hr => first|(go_simp;done)|(go_simp;rfl));intro gb152 hg Wgb152 hbox hb;have BK152 := aM (hbox);have GW152 := aM ((by rw [hg];exact (lZ hb_) : w.heap.size ≤ gb152));have GE152 := GW152;have NB151_152 := aM ((by rw [hg];exact Nat.ne_of_lt (blk_lt (g := gb151) (o := .cells #[.string a0_0,.slice A0_1 l0_1.length c0_1,.slice A0_2 l0_2.length c0_2,.string a0_3,.string a0_4] 31 (0,0)) (bk_ BK151.out)) : gb151 ≠ gb152));have NB152_151 := aM ((by rw [hg];exact Nat.ne_of_gt (blk_lt (g := gb151) (o := .cells #[.string a0_0,.slice A0_1 l0_1.length c0_1,.slice A0_2 l0_2.length c0_2,.string a0_3,.string a0_4] 31 (0,0)) (bk_ BK151.out)) : gb152 ≠ gb151));replace BK151 := aM (bW (g := gb151) (o := .cells #[.string a0_0,.slice A0_1 l0_1.length c0_1,.slice A0_2 l0_2.length c0_2,.string a0_3,.string a0_4] 31 (0,0)) (bk_ BK151.out) hb);replace HB := aM (lT hb_ hb);clear hb hbox hg;have hnby151_152 := NB151_152.out;have hncy152_151 := NB152_151.out;obtain ⟨hcz152x151_0,hcz152x151_1,hcz152x151_2,hcz152x151_3,hcz152x151_4,hfz152x151_0,hfz152x151_1,hfz152x151_2,hfz152x151_3,hfz152x151_4⟩ := z5_ BK151.out;obtain ⟨hcz152x152_0,hcz152x152_1,hcz152x152_2,hcz152x152_3,hcz152x152_4,hfz152x152_0,hfz152x152_1,hfz152x152_2,hfz152x152_3,hfz152x152_4⟩ := z5_ BK152.out)|((with_reducible refine gate_callee (f := 46) rfl ?_);refine goesL_ (some 14) rfl rfl Try.func46 (by kernel_rfl) rfl #[.slice A0_1 l0_1.length c0_1,.slice A1_1 l1_1.length c1_1] rfl (by (try simp only [mT,mC,mN]);first|done|rfl|(simp only [xD,xT];rfl)) ?_;(with_reducible refine (laws_eqTermS.calls _ _ _ _ _ _ _ _ _ ?side1 ?side2 ?side3 ?side4 A4.out).mono ?_);(case side1 => repeat (first|exact (cB HR0_1.out HB.out)|(with_reducible first|refine cA ?_ _|refine cN ?_ _|refine cD ?_)));(case side2 => exact HC0_1.out);(case side3 => repeat (first|exact (cB HR1_1.out HB.out)|(with_reducible first|refine cA ?_ _|refine cN ?_ _|refine cD ?_)));(case side4 => exact HC1_1.out);rintro e WA4 ⟨rfl,hb⟩;refine ⟨_,rfl,?_⟩;replace BK151 := aM (bW (g := gb151) (o := .cells #[.string a0_0,.slice A0_1 l0_1.length c0_1,.slice A0_2 l0_2.length c0_2,.string a0_3,.string a0_4] 31 (0,0)) (bk_ BK151.out) hb);replace BK152 := aM (bW (g := gb152) (o := .cells #[.string a1_0,.slice A1_1 l1_1.length c1_1,.slice A1_2 l1_2.length c1_2,.string a1_3,.string a1_4] 31 (0,0)) (bk_ BK152.out) hb);replace HB := aM (lT hb_ hb);(try clear hb);obtain ⟨hcz4x151_0,hcz4x151_1,hcz4x151_2,hcz4x151_3,hcz4x151_4,hfz4x151_0,hfz4x151_1,hfz4x151_2,hfz4x151_3,hfz4x151_4⟩ := z5_ BK151.out;obtain ⟨hcz4x152_0,hcz4x152_1,hcz4x152_2,hcz4x152_3,hcz4x152_4,hfz4x152_0,hfz4x152_1,hfz4x152_2,hfz4x152_3,hfz4x152_4⟩ := z5_ BK152.out)|((with_reducible refine gate_callee (f := 47) rfl ?_);refine goesL_ (some 20) rfl rfl Try.func47 (by kernel_rfl) rfl #[.slice A0_2 l0_2.length c0_2,.slice A1_2 l1_2.length c1_2] rfl (by (try simp only [mT,mC,mN]);first|done|rfl|(simp only [xD,xT];rfl)) ?_;(with_reducible refine (laws_eqOrdinalRuleS.calls _ _ _ _ _ _ _ _ _ ?side1 ?side2 ?side3 ?side4 A6.out).mono ?_);(case side1 => repeat (first|exact (cB HR0_2.out HB.out)|(with_reducible first|refine cA ?_ _|refine cN ?_ _|refine cD ?_)));(case side2 => exact HC0_2.out);(case side3 => repeat (first|exact (cB HR1_2.out HB.out)|(with_reducible first|refine cA ?_ _|refine cN ?_ _|refine cD ?_)));(case side4 => exact HC1_2.out);rintro e WA6 ⟨rfl,hb⟩;refine ⟨_,rfl,?_⟩;replace BK151 := aM (bW (g := gb151) (o := .cells #[.string a0_0,.slice A0_1 l0_1.length c0_1,.slice A0_2 l0_2.length c0_2,.string a0_3,.string a0_4] 31 (0,0)) (bk_ BK151.out) hb);replace BK152 := aM (bW (g := gb152) (o := .cells #[.string a1_0,.slice A1_1 l1_1.length c1_1,.slice A1_2 l1_2.length c1_2,.string a1_3,.string a1_4] 31 (0,0)) (bk_ BK152.out) hb);replace HB := aM (lT hb_ hb);(try clear hb);obtain ⟨hcz6x151_0,hcz6x151_1,hcz6x151_2,hcz6x151_3,hcz6x151_4,hfz6x151_0,hfz6x151_1,hfz6x151_2,hfz6x151_3,hfz6x151_4⟩ := z5_ BK151.out;obtain ⟨hcz6x152_0,hcz6x152_1,hcz6x152_2,hcz6x152_3,hcz6x152_4,hfz6x152_0,hfz6x152_1,hfz6x152_2,hfz6x152_3,hfz6x152_4⟩ := z5_ BK152.out));go_ret;exact ⟨by first|rfl|(simp [*];done),hb_⟩
def laws_markText.l0 : Nat → Int → ByteArray → Option (ByteArray)
 | 0,_,_ => none
 | k + 1,x0,x3 => if x0 > 0 then ((some (([(wrap64 (48 + (Int.tmod x0 10))) % 256] : List Int) : List Int)).bind fun y155 => (if (strOfNums y155).size + x3.size ≤ 9223372036854775807 then (laws_markText.l0 k (wrap64 (Int.tdiv x0 10)) ((strOfNums y155) ++ x3)) else (none))) else (if 1 + x3.size ≤ 9223372036854775807 then (some ((⟨#[109]⟩ : ByteArray) ++ x3)) else (none))
def laws_markText.f (k : Nat) (a0 : Int) : Option (ByteArray) := if a0 ≤ 0 then (some (⟨#[109,48]⟩ : ByteArray)) else (laws_markText.l0 k a0 (⟨#[]⟩ : ByteArray))
theorem laws_markText.mono_l : ∀ k,(∀ y0 y1,LeO (laws_markText.l0 k y0 y1) (laws_markText.l0 (k + 1) y0 y1))
 | 0 => fun _ _ r h => by simp [laws_markText.l0] at h
 | k + 1 => by
  have ih0 := laws_markText.mono_l k
  ·intro y0 y1
   unfold laws_markText.l0
   repeat' first
   | (with_reducible exact ih0 _ _)
   | (with_reducible exact LeO.refl _)
   | (with_reducible exact LeO.none _)
   | (with_reducible refine LeO.ite ?_ ?_)
   | (with_reducible refine LeO.bind ?_ (fun _ => ?_))
   | exact ih0 _ _
   | exact LeO.none _
   | refine LeO.ite ?_ ?_
   | refine LeO.bind ?_ (fun _ => ?_)
theorem laws_markText.mono : ∀ a0 k,LeO (laws_markText.f k a0) (laws_markText.f (k + 1) a0) := by
 intro a0 k
 have ih0 := laws_markText.mono_l k
 unfold laws_markText.f
 repeat' first
   | (with_reducible exact ih0 _ _)
   | (with_reducible exact LeO.refl _)
   | (with_reducible exact LeO.none _)
   | (with_reducible refine LeO.ite ?_ ?_)
   | (with_reducible refine LeO.bind ?_ (fun _ => ?_))
   | exact ih0 _ _
   | exact LeO.none _
   | refine LeO.ite ?_ ?_
   | refine LeO.bind ?_ (fun _ => ?_)
set_option maxHeartbeats 8000000 in
set_option maxRecDepth 100000 in
theorem laws_markText.calls (k : Nat) (a0 : Int) (r : ByteArray) (w : World) (h : laws_markText.f k a0 = some r) :
  Calls Try.prog 58 #[.int .i64 a0] w fun e w' => e = .returned (.string r) ∧ Below w.heap.size w w' := by
 have HB := aM (Below.refl w.heap.size w);have H : (if a0 ≤ 0 then (some (⟨#[109,48]⟩ : ByteArray)) else (laws_markText.l0 k a0 (⟨#[]⟩ : ByteArray))) = some r := h;clear h
 by_cases c2 : a0 ≤ 0
 ·rw [if_pos c2] at H;have c2b0 : decide (a0 ≤ 0) = true := dT c2;clear c2;obtain rfl := Option.some.inj H;simp only [eS,eP] at H;obtain ⟨rfl⟩ := H;go_enter Try.func58,Try.ntmps58;go_wp2;go_ret;exact ⟨by first|rfl|(simp [*];done),hb_⟩
 ·rw [if_neg c2] at H;have c2b0 : decide (a0 ≤ 0) = false := dF c2;clear c2;have H' := aM H;clear H;go_enter Try.func58,Try.ntmps58;go_wp2;go_loopg [0,3] k (fun kq v0 v3 w' => ∃ (x0_1 : Int) (x3_1 : ByteArray),v0 = .int .i64 x0_1 ∧ v3 = .string x3_1 ∧ Aside0 (laws_markText.l0 kq x0_1 x3_1 = some r) ∧ Aside0 (kq ≤ k) ∧ Aside0 (Below w.heap.size w w'))
  case atStart => exact ⟨(a0),((⟨#[]⟩ : ByteArray)),(by first|rfl|(simp [*];done)),(by first|rfl|(simp [*];done)),H',⟨Nat.le_refl _⟩,⟨hb_⟩⟩
  case round =>
   clear H';(try clear c2);(try clear c2b0);(try clear p2);obtain ⟨x0_1,x3_1,rfl,rfl,HA,HK1,HB⟩ := hrel
   cases gk with
   | zero => exact absurd HA.out (by simp [laws_markText.l0])
   | succ k1 =>
    have H := HA.out;clear HA;simp only [laws_markText.l0] at H
    by_cases c3 : x0_1 > 0
    ·rw [if_pos c3] at H;have c3b0 : decide (0 < x0_1) = true := dT c3;clear c3;obtain ⟨y155,hy155⟩ : ∃ y_ : List Int,y_ = (([(wrap64 (48 + (Int.tmod x0_1 10))) % 256] : List Int)) := ⟨_,rfl⟩;replace H : (if (strOfNums y155).size + x3_1.size ≤ 9223372036854775807 then (laws_markText.l0 k1 (wrap64 (Int.tdiv x0_1 10)) ((strOfNums y155) ++ x3_1)) else (none)) = some r := (by first|(rw [hy155];with_reducible exact H)|(have H2_ := (Option.bind_some _ _).symm.trans H;rw [hy155];with_reducible exact H2_)|(have H2_ := (Option.bind_some _ _).symm.trans H;with_reducible exact H2_)|with_reducible exact H|(rw [hy155];exact H)|exact H);have Ny155 := aM hy155;clear hy155
     by_cases c4 : (strOfNums y155).size + x3_1.size ≤ 9223372036854775807
     ·rw [if_pos c4] at H;have c4b0 := eq_true c4;have c4b1 : decide ((strOfNums y155).size + x3_1.size ≤ 9223372036854775807) = true := dT c4;(try have c4b2 : (9223372036854775807 < (strOfNums y155).size + x3_1.size) = False := eq_false (Nat.not_lt.2 c4));have H' := aM H;clear H;go_wp2_with (first|((with_reducible refine gate_dst (N := 12) rfl ?_);refine Kd.R_lit (Kd.int .u8) _ 5 ?hg (N := 12) ?hd (xs := ([(wrap64 (48 + (Int.tmod x0_1 10))) % 256] : List Int)) (inner := [.int .u8 ((wrap64 (48 + (Int.tmod x0_1 10))) % 256)]) (ok := fun _ => True) (okp := fun _ => True) ?hr ?hp (fun _ hk => hk) trivial (Below.refl _ _) (Nat.le_refl _) (by simp) ?_;(case hd => rfl);(case hg => rfl);(case hr => first|(go_simp;done)|(go_simp;rfl));(case hp => exact (Reps.one (show Kd.M (Kd.int .u8) _ _ _ ((wrap64 (48 + (Int.tmod x0_1 10))) % 256) [.int .u8 ((wrap64 (48 + (Int.tmod x0_1 10))) % 256)] from rfl) (Reps.none _ _)));intro v156 w5 ho6 hb hg_ hnew_;clear hg_ hnew_;(first|rw [← Ny155.out] at ho6|(simp only [Int.reduceToNat] at ho6;rw [← Ny155.out] at ho6));have HO157 := aM (Kd.R_lower ho6 (lZ hb_));replace HB := aM (lT hb_ hb);clear hb ho6;have hcv7 := own_string (P := Try.prog) Try.underlying101 Try.underlying5 Try.underlying9 (Kd.own_of_R HO157.out)));go_roundg k1
      case measure => have := HK1.out;omega
      case rel => exact ⟨(wrap64 (Int.tdiv x0_1 10)),((strOfNums y155) ++ x3_1),(by first|rfl|(simp [*];done)),(by first|rfl|(simp [*];done)),H',⟨by have := HK1.out;omega⟩,⟨hb_⟩⟩
     ·rw [if_neg c4] at H;exact absurd H (by simp)
    ·rw [if_neg c3] at H;have c3b0 : decide (0 < x0_1) = false := dF c3;clear c3
     by_cases c8 : 1 + x3_1.size ≤ 9223372036854775807
     ·rw [if_pos c8] at H;have c8b0 := eq_true c8;have c8b1 : decide (1 + x3_1.size ≤ 9223372036854775807) = true := dT c8;(try have c8b2 : (9223372036854775807 < 1 + x3_1.size) = False := eq_false (Nat.not_lt.2 c8));obtain rfl := Option.some.inj H;simp only [eS,eP] at H;obtain ⟨rfl⟩ := H;go_wp2;go_ret;exact ⟨by first|rfl|(simp [*];done),hb_⟩
     ·rw [if_neg c8] at H;exact absurd H (by simp)
def laws_markTermS.l0 : Nat → List (S61) → Int → Int → Option (Int × (List (S61)))
 | 0,_,_,_ => none
 | k + 1,x0,x1,x5 => if x5 < (x0.length : Int) then ((laws_markText.f k x1).bind fun t158 => (if 0 ≤ x5 then ((some (x0.set (x5 : Int).toNat (⟨t158,(rd_T61 x0 x5).f1,(rd_T61 x0 x5).f2⟩ : S61) : List (S61))).bind fun y159 => ((laws_markText.f k (wrap64 (x1 + 1))).bind fun t160 => ((some (y159.set (x5 : Int).toNat (⟨(rd_T61 y159 x5).f0,t160,(rd_T61 y159 x5).f2⟩ : S61) : List (S61))).bind fun y161 => ((laws_markText.f k (wrap64 ((wrap64 (x1 + 1)) + 1))).bind fun t162 => (laws_markTermS.l0 k (y161.set (x5 : Int).toNat (⟨(rd_T61 y161 x5).f0,(rd_T61 y161 x5).f1,t162⟩ : S61)) (wrap64 ((wrap64 ((wrap64 (x1 + 1)) + 1)) + 1)) (wrap64 (x5 + 1))))))) else (none))) else (some (x1,x0))
def laws_markTermS.f (k : Nat) (l0 : List (S61)) (a1 : Int) : Option (Int × (List (S61))) := laws_markTermS.l0 k l0 a1 0
theorem laws_markTermS.mono_l : ∀ k,(∀ y0 y1 y2,LeO (laws_markTermS.l0 k y0 y1 y2) (laws_markTermS.l0 (k + 1) y0 y1 y2))
 | 0 => fun _ _ _ r h => by simp [laws_markTermS.l0] at h
 | k + 1 => by
  have ih0 := laws_markTermS.mono_l k
  ·intro y0 y1 y2
   unfold laws_markTermS.l0
   repeat' first
   | (with_reducible exact ih0 _ _ _)
   | (with_reducible exact laws_markText.mono _ _)
   | (with_reducible exact LeO.refl _)
   | (with_reducible exact LeO.none _)
   | (with_reducible refine LeO.ite ?_ ?_)
   | (with_reducible refine LeO.bind ?_ (fun _ => ?_))
   | exact ih0 _ _ _
   | exact laws_markText.mono _ _
   | exact LeO.none _
   | refine LeO.ite ?_ ?_
   | refine LeO.bind ?_ (fun _ => ?_)
theorem laws_markTermS.mono : ∀ a0 a1 k,LeO (laws_markTermS.f k a0 a1) (laws_markTermS.f (k + 1) a0 a1) := by
 intro a0 a1 k
 have ih0 := laws_markTermS.mono_l k
 unfold laws_markTermS.f
 repeat' first
   | (with_reducible exact ih0 _ _ _)
   | (with_reducible exact laws_markText.mono _ _)
   | (with_reducible exact LeO.refl _)
   | (with_reducible exact LeO.none _)
   | (with_reducible refine LeO.ite ?_ ?_)
   | (with_reducible refine LeO.bind ?_ (fun _ => ?_))
   | exact ih0 _ _ _
   | exact laws_markText.mono _ _
   | exact LeO.none _
   | refine LeO.ite ?_ ?_
   | refine LeO.bind ?_ (fun _ => ?_)
set_option maxHeartbeats 8000000 in
set_option maxRecDepth 100000 in
theorem laws_markTermS.calls (k : Nat) (P0_ : Nat → Prop) (u9000_ : Value) (l0 : List (S61)) (a1 : Int) (r1 : Int) (r2 : List (S61)) (w0 w : World) (hB : Below w0.heap.size w0 w) (ho0 : Kd.R k61 61 w w0.heap.size P0_ u9000_ l0) (h : laws_markTermS.f k l0 a1 = some (r1,r2)) :
  Calls Try.prog 56 #[u9000_,.int .i64 a1] w fun e w' => e = .returned (.int .i64 r1) ∧ Kd.R k61 61 w' w0.heap.size (fun k_ => (P0_ k_ ∨ w.heap.size ≤ k_)) u9000_ r2 ∧ Below w0.heap.size w0 w' ∧ Kept w w' (fun k_ => P0_ k_) := by
 have HO0 := aM (show Kd.R k61 61 w w0.heap.size (fun k_ => (P0_ k_ ∨ w.heap.size ≤ k_)) u9000_ l0 from Kd.R_mono ho0 (fun k_ hk => (.inl hk)));have HK := aM (Kept.refl w (fun k_ => P0_ k_));have HW0 := aM hB.size;have HB := aM hB;clear hB;have H : (laws_markTermS.l0 k l0 a1 0) = some (r1,r2) := h;clear h;have H' := aM H;clear H;go_enter Try.func56,Try.ntmps56;go_wp2;go_loopg [1,5] k (fun kq v1 v5 w' => ∃ (x0_1 : List (S61)) (ab : Int) (x5_1 : Int),v1 = .int .i64 ab ∧ v5 = .int .i64 x5_1 ∧ Aside0 (laws_markTermS.l0 kq x0_1 ab x5_1 = some (r1,r2)) ∧ Aside0 (kq ≤ k) ∧ Aside0 (Kd.R k61 61 w' w0.heap.size (fun k_ => (P0_ k_ ∨ w.heap.size ≤ k_)) u9000_ x0_1) ∧ Aside0 (Kept w w' (fun k_ => P0_ k_)) ∧ Aside0 (Below w0.heap.size w0 w'))
 case atStart => exact ⟨(l0),(a1),(0),(by first|rfl|(simp [*];done)),(by first|rfl|(simp [*];done)),H',⟨Nat.le_refl _⟩,⟨by (with_reducible repeat (first|apply rA|apply rN|apply rD));exact HO0.out⟩,⟨by repeat (first|(with_reducible first|exact HK.out|apply Kept.alloc|apply Kept.drewN|apply Kept.drew)|exact HK.out)⟩,⟨hb_⟩⟩
 case round =>
  clear H';(try clear p2);obtain ⟨x0_1,ab,x5_1,rfl,rfl,HA,HK1,aa,HK,HB⟩ := hrel
  cases gk with
  | zero => exact absurd HA.out (by simp [laws_markTermS.l0])
  | succ k1 =>
   have H := HA.out;clear HA;simp only [laws_markTermS.l0] at H
   by_cases c3 : x5_1 < (x0_1.length : Int)
   ·rw [if_pos c3] at H;have c3b0 : decide (x5_1 < (x0_1.length : Int)) = true := dT c3;clear c3;obtain ⟨t158,A4,H⟩ := bE_ H
    by_cases c5 : 0 ≤ x5_1
    ·rw [if_pos c5] at H;have c5b0 : decide (0 ≤ x5_1) = true := dT c5;clear c5;obtain ⟨y159,ac⟩ : ∃ y_ : List (S61),y_ = (x0_1.set (x5_1 : Int).toNat (⟨t158,(rd_T61 x0_1 x5_1).f1,(rd_T61 x0_1 x5_1).f2⟩ : S61)) := ⟨_,rfl⟩;replace H : ((laws_markText.f k1 (wrap64 (ab + 1))).bind fun t160 => ((some (y159.set (x5_1 : Int).toNat (⟨(rd_T61 y159 x5_1).f0,t160,(rd_T61 y159 x5_1).f2⟩ : S61) : List (S61))).bind fun y161 => ((laws_markText.f k1 (wrap64 ((wrap64 (ab + 1)) + 1))).bind fun t162 => (laws_markTermS.l0 k1 (y161.set (x5_1 : Int).toNat (⟨(rd_T61 y161 x5_1).f0,(rd_T61 y161 x5_1).f1,t162⟩ : S61)) (wrap64 ((wrap64 ((wrap64 (ab + 1)) + 1)) + 1)) (wrap64 (x5_1 + 1)))))) = some (r1,r2) := (by first|(rw [ac];with_reducible exact H)|(have H2_ := (Option.bind_some _ _).symm.trans H;rw [ac];with_reducible exact H2_)|(have H2_ := (Option.bind_some _ _).symm.trans H;with_reducible exact H2_)|with_reducible exact H|(rw [ac];exact H)|exact H);have aK := aM ac;clear ac;obtain ⟨t160,A7,H⟩ := bE_ H;obtain ⟨y161,ae⟩ : ∃ y_ : List (S61),y_ = (y159.set (x5_1 : Int).toNat (⟨(rd_T61 y159 x5_1).f0,t160,(rd_T61 y159 x5_1).f2⟩ : S61)) := ⟨_,rfl⟩;replace H : ((laws_markText.f k1 (wrap64 ((wrap64 (ab + 1)) + 1))).bind fun t162 => (laws_markTermS.l0 k1 (y161.set (x5_1 : Int).toNat (⟨(rd_T61 y161 x5_1).f0,(rd_T61 y161 x5_1).f1,t162⟩ : S61)) (wrap64 ((wrap64 ((wrap64 (ab + 1)) + 1)) + 1)) (wrap64 (x5_1 + 1)))) = some (r1,r2) := (by first|(rw [ae];with_reducible exact H)|(have H2_ := (Option.bind_some _ _).symm.trans H;rw [ae];with_reducible exact H2_)|(have H2_ := (Option.bind_some _ _).symm.trans H;with_reducible exact H2_)|with_reducible exact H|(rw [ae];exact H)|exact H);have aL := aM ae;clear ae;obtain ⟨t162,A9,H⟩ := bE_ H;obtain ⟨az,af⟩ : ∃ y_ : List (S61),y_ = (y161.set (x5_1 : Int).toNat (⟨(rd_T61 y161 x5_1).f0,(rd_T61 y161 x5_1).f1,t162⟩ : S61)) := ⟨_,rfl⟩;replace H : (laws_markTermS.l0 k1 az (wrap64 ((wrap64 ((wrap64 (ab + 1)) + 1)) + 1)) (wrap64 (x5_1 + 1))) = some (r1,r2) := (by first|(rw [af];with_reducible exact H)|(have H2_ := (Option.bind_some _ _).symm.trans H;rw [af];with_reducible exact H2_)|(have H2_ := (Option.bind_some _ _).symm.trans H;with_reducible exact H2_)|with_reducible exact H|(rw [af];exact H)|exact H);have aN := aM af;clear af;have H' := aM H;clear H;obtain ⟨aW,ag,aA⟩ := Kd.R_slice aa.out;subst aA;go_wp2_with (first|((with_reducible refine gate_callee (f := 58) rfl ?_);refine goesL_ (some 15) rfl rfl Try.func58 (by kernel_rfl) rfl #[.int .i64 ab] rfl (by (try simp only [mT,mC,mN]);first|done|rfl|(simp only [xD,xT];rfl)) ?_;(with_reducible refine (laws_markText.calls k1 ab t158 _ A4.out).mono ?_);rintro e w12 ⟨rfl,hb⟩;refine ⟨_,rfl,?_⟩;replace aa := aM (rB (ho_ aa.out) hb);replace HK := aM (Kept.below (S := (fun k_ => P0_ k_)) (by repeat (first|(with_reducible first|exact HK.out|apply Kept.alloc|apply Kept.drewN|apply Kept.drew)|exact HK.out)) hb);replace HB := aM (lT hb_ hb);(try clear hb);have p6 : 0 ≤ (x5_1 : Int) := oD (by assumption);have q6 : (x5_1 : Int) < ((x0_1.length : Int) : Int) := oD (by assumption);obtain ⟨go6,co6,eo6,gb6,gl6,cl6,HG6⟩ := Kd.R_form aa.out (by omega);(first|cases eo6|(injection eo6 with ea_ en_ ec_;(first|subst ea_|(injection ea_ with ea_;subst ea_));subst ec_;clear en_));have GB6 := aM gb6;have GG6 := aM HG6;clear gb6 gl6 HG6;have HMgo6 := aM (show (P0_ go6 ∨ w.heap.size ≤ go6) from (aa.out.1 _ rfl));obtain ⟨ce6,aX,hM6,am,an⟩ := Kd.R_elem aa.out z61 (x5_1 : Int) p6 q6;obtain rfl := k61_openM hM6;have hx6_0 : w12.cell? ⟨go6,(x5_1 : Int).toNat * 3,none⟩ = some (.string ((rd_T61 x0_1 x5_1).f0)) := am 0 _ rfl;have hx6_1 : w12.cell? ⟨go6,(x5_1 : Int).toNat * 3 + 1,none⟩ = some (.string ((rd_T61 x0_1 x5_1).f1)) := am 1 _ rfl;have hx6_2 : w12.cell? ⟨go6,(x5_1 : Int).toNat * 3 + 2,none⟩ = some (.string ((rd_T61 x0_1 x5_1).f2)) := am 2 _ rfl;have hf6_0 : w12.frozen? ⟨go6,(x5_1 : Int).toNat * 3,none⟩ = false := an 0;have hf6_1 : w12.frozen? ⟨go6,(x5_1 : Int).toNat * 3 + 1,none⟩ = false := an 1;have hf6_2 : w12.frozen? ⟨go6,(x5_1 : Int).toNat * 3 + 2,none⟩ = false := an 2;clear aX am an hM6;replace p6 := eq_true p6;replace q6 := eq_true q6;have aO := aM (show Kd.R k61 61 w12 w0.heap.size (fun k_ => (P0_ k_ ∨ w.heap.size ≤ k_)) (.slice (some ⟨go6,0,none⟩) x0_1.length ag) x0_1 from (ho_ aa.out));obtain ⟨ce13,ar,aP,aj,au⟩ := Kd.R_elem aO.out z61 (x5_1 : Int) (oD (by assumption)) (by have h_ : (x5_1 : Int) < ((x0_1.length : Int) : Int) := oD (by assumption);first|exact h_|(have e_ := (rR aa.out).1;omega)|simpa using h_);obtain rfl := k61_openM aP;have aB := Kd.R_seg aO.out (x5_1 : Int) (oD (by assumption)) (by have h_ : (x5_1 : Int) < ((x0_1.length : Int) : Int) := oD (by assumption);first|exact h_|(have e_ := (rR aa.out).1;omega)|simpa using h_) (seg := [.string t158]) (j := 0) ar aj (show 1 ≤ 3 from by decide) (x' := (⟨t158,(rd_T61 x0_1 x5_1).f1,(rd_T61 x0_1 x5_1).f2⟩ : S61)) (k61_mkM _ _ _ (⟨t158,(rd_T61 x0_1 x5_1).f1,(rd_T61 x0_1 x5_1).f2⟩ : S61) ) (fun _ hk => hk);have aC := aj 0 _ rfl;(try simp only [show (k61).sz = 3 from rfl,Nat.mul_one,Nat.add_zero] at aC);have aD := au 0;(try simp only [show (k61).sz = 3 from rfl,Nat.mul_one,Nat.add_zero] at aD);clear ar aj au aP)|((with_reducible refine gate_store (t := 9) (p := 17) rfl ?_);refine store_event (t := 9) (p := 17) (v := ?vo_w14) (w1 := (w12.setCell ⟨go6,(x5_1 : Int).toNat * 3,none⟩ (.string t158))) ?hg ?ho ?hn ?hr ?_;(case ho => rfl);(case hg => rfl);(case hn => rfl);(case hr => first|(go_simp;done)|(go_simp;rfl));intro w14 hw;have hg : w12.grownBy w14 (some go6) := (by rw [hw];exact aB.2);have hp_ : Kd.R k61 61 w14 w0.heap.size (fun k_ => (P0_ k_ ∨ w.heap.size ≤ k_)) (.slice (some ⟨go6,0,none⟩) x0_1.length ag) y159 := (by rw [hw,aK.out];exact aB.1);clear aB;replace HB := aM ((by rw [hw];exact lS (HB.out) GB6.out : Below w0.heap.size w0 w14));replace HK := aM (Kept.of_grown (S := (fun k_ => P0_ k_)) hg (by repeat (first|(with_reducible first|exact HK.out|apply Kept.alloc|apply Kept.drewN|apply Kept.drew)|exact HK.out)) (fun k_ e_ => (aa.out.1 k_ e_)));replace aa := aM (hp_);clear hg hw hp_)|((with_reducible refine gate_callee (f := 58) rfl ?_);refine goesL_ (some 23) rfl rfl Try.func58 (by kernel_rfl) rfl #[.int .i64 (wrap64 (ab + 1))] rfl (by (try simp only [mT,mC,mN]);first|done|rfl|(simp only [xD,xT];rfl)) ?_;(with_reducible refine (laws_markText.calls k1 (wrap64 (ab + 1)) t160 _ A7.out).mono ?_);rintro e w15 ⟨rfl,hb⟩;refine ⟨_,rfl,?_⟩;replace aa := aM (rB (ho_ aa.out) hb);replace HK := aM (Kept.below (S := (fun k_ => P0_ k_)) (by repeat (first|(with_reducible first|exact HK.out|apply Kept.alloc|apply Kept.drewN|apply Kept.drew)|exact HK.out)) hb);replace HB := aM (lT hb_ hb);(try clear hb);have p8 : 0 ≤ (x5_1 : Int) := oD (by assumption);have q8 : (x5_1 : Int) < ((x0_1.length : Int) : Int) := oD (by assumption);obtain ⟨ce8,aY,hM8,ao,ap⟩ := Kd.R_elem aa.out z61 (x5_1 : Int) p8 q8;obtain rfl := k61_openM hM8;have hx8_0 : w15.cell? ⟨go6,(x5_1 : Int).toNat * 3,none⟩ = some (.string ((rd_T61 y159 x5_1).f0)) := ao 0 _ rfl;have hx8_1 : w15.cell? ⟨go6,(x5_1 : Int).toNat * 3 + 1,none⟩ = some (.string ((rd_T61 y159 x5_1).f1)) := ao 1 _ rfl;have hx8_2 : w15.cell? ⟨go6,(x5_1 : Int).toNat * 3 + 2,none⟩ = some (.string ((rd_T61 y159 x5_1).f2)) := ao 2 _ rfl;have hf8_0 : w15.frozen? ⟨go6,(x5_1 : Int).toNat * 3,none⟩ = false := ap 0;have hf8_1 : w15.frozen? ⟨go6,(x5_1 : Int).toNat * 3 + 1,none⟩ = false := ap 1;have hf8_2 : w15.frozen? ⟨go6,(x5_1 : Int).toNat * 3 + 2,none⟩ = false := ap 2;clear aY ao ap hM8;replace p8 := eq_true p8;replace q8 := eq_true q8;have aQ := aM (show Kd.R k61 61 w15 w0.heap.size (fun k_ => (P0_ k_ ∨ w.heap.size ≤ k_)) (.slice (some ⟨go6,0,none⟩) x0_1.length ag) y159 from (ho_ aa.out));obtain ⟨ce16,av,aR,ak,aw⟩ := Kd.R_elem aQ.out z61 (x5_1 : Int) (oD (by assumption)) (by have h_ : (x5_1 : Int) < ((x0_1.length : Int) : Int) := oD (by assumption);first|exact h_|(have e_ := (rR aa.out).1;omega)|simpa using h_);obtain rfl := k61_openM aR;have aE := Kd.R_seg aQ.out (x5_1 : Int) (oD (by assumption)) (by have h_ : (x5_1 : Int) < ((x0_1.length : Int) : Int) := oD (by assumption);first|exact h_|(have e_ := (rR aa.out).1;omega)|simpa using h_) (seg := [.string t160]) (j := 1) av ak (show 2 ≤ 3 from by decide) (x' := (⟨(rd_T61 y159 x5_1).f0,t160,(rd_T61 y159 x5_1).f2⟩ : S61)) (k61_mkM _ _ _ (⟨(rd_T61 y159 x5_1).f0,t160,(rd_T61 y159 x5_1).f2⟩ : S61) ) (fun _ hk => hk);have aF := ak 1 _ rfl;(try simp only [show (k61).sz = 3 from rfl,Nat.mul_one,Nat.add_zero] at aF);have aG := aw 1;(try simp only [show (k61).sz = 3 from rfl,Nat.mul_one,Nat.add_zero] at aG);clear av ak aw aR)|((with_reducible refine gate_store (t := 9) (p := 25) rfl ?_);refine store_event (t := 9) (p := 25) (v := ?vo_w17) (w1 := (w15.setCell ⟨go6,(x5_1 : Int).toNat * 3 + 1,none⟩ (.string t160))) ?hg ?ho ?hn ?hr ?_;(case ho => rfl);(case hg => rfl);(case hn => rfl);(case hr => first|(go_simp;done)|(go_simp;rfl));intro w17 hw;have hg : w15.grownBy w17 (some go6) := (by rw [hw];exact aE.2);have hp_ : Kd.R k61 61 w17 w0.heap.size (fun k_ => (P0_ k_ ∨ w.heap.size ≤ k_)) (.slice (some ⟨go6,0,none⟩) x0_1.length ag) y161 := (by rw [hw,aL.out];exact aE.1);clear aE;replace HB := aM ((by rw [hw];exact lS (HB.out) GB6.out : Below w0.heap.size w0 w17));replace HK := aM (Kept.of_grown (S := (fun k_ => P0_ k_)) hg (by repeat (first|(with_reducible first|exact HK.out|apply Kept.alloc|apply Kept.drewN|apply Kept.drew)|exact HK.out)) (fun k_ e_ => (aa.out.1 k_ e_)));replace aa := aM (hp_);clear hg hw hp_)|((with_reducible refine gate_callee (f := 58) rfl ?_);refine goesL_ (some 31) rfl rfl Try.func58 (by kernel_rfl) rfl #[.int .i64 (wrap64 ((wrap64 (ab + 1)) + 1))] rfl (by (try simp only [mT,mC,mN]);first|done|rfl|(simp only [xD,xT];rfl)) ?_;(with_reducible refine (laws_markText.calls k1 (wrap64 ((wrap64 (ab + 1)) + 1)) t162 _ A9.out).mono ?_);rintro e w18 ⟨rfl,hb⟩;refine ⟨_,rfl,?_⟩;replace aa := aM (rB (ho_ aa.out) hb);replace HK := aM (Kept.below (S := (fun k_ => P0_ k_)) (by repeat (first|(with_reducible first|exact HK.out|apply Kept.alloc|apply Kept.drewN|apply Kept.drew)|exact HK.out)) hb);replace HB := aM (lT hb_ hb);(try clear hb);have p10 : 0 ≤ (x5_1 : Int) := oD (by assumption);have q10 : (x5_1 : Int) < ((x0_1.length : Int) : Int) := oD (by assumption);obtain ⟨ce10,aS,aT,ah,ai⟩ := Kd.R_elem aa.out z61 (x5_1 : Int) p10 q10;obtain rfl := k61_openM aT;have hx10_0 : w18.cell? ⟨go6,(x5_1 : Int).toNat * 3,none⟩ = some (.string ((rd_T61 y161 x5_1).f0)) := ah 0 _ rfl;have hx10_1 : w18.cell? ⟨go6,(x5_1 : Int).toNat * 3 + 1,none⟩ = some (.string ((rd_T61 y161 x5_1).f1)) := ah 1 _ rfl;have hx10_2 : w18.cell? ⟨go6,(x5_1 : Int).toNat * 3 + 2,none⟩ = some (.string ((rd_T61 y161 x5_1).f2)) := ah 2 _ rfl;have hf10_0 : w18.frozen? ⟨go6,(x5_1 : Int).toNat * 3,none⟩ = false := ai 0;have hf10_1 : w18.frozen? ⟨go6,(x5_1 : Int).toNat * 3 + 1,none⟩ = false := ai 1;have hf10_2 : w18.frozen? ⟨go6,(x5_1 : Int).toNat * 3 + 2,none⟩ = false := ai 2;clear aS ah ai aT;replace p10 := eq_true p10;replace q10 := eq_true q10;have aU := aM (show Kd.R k61 61 w18 w0.heap.size (fun k_ => (P0_ k_ ∨ w.heap.size ≤ k_)) (.slice (some ⟨go6,0,none⟩) x0_1.length ag) y161 from (ho_ aa.out));obtain ⟨ce19,ax,aV,al,ay⟩ := Kd.R_elem aU.out z61 (x5_1 : Int) (oD (by assumption)) (by have h_ : (x5_1 : Int) < ((x0_1.length : Int) : Int) := oD (by assumption);first|exact h_|(have e_ := (rR aa.out).1;omega)|simpa using h_);obtain rfl := k61_openM aV;have aH := Kd.R_seg aU.out (x5_1 : Int) (oD (by assumption)) (by have h_ : (x5_1 : Int) < ((x0_1.length : Int) : Int) := oD (by assumption);first|exact h_|(have e_ := (rR aa.out).1;omega)|simpa using h_) (seg := [.string t162]) (j := 2) ax al (show 3 ≤ 3 from by decide) (x' := (⟨(rd_T61 y161 x5_1).f0,(rd_T61 y161 x5_1).f1,t162⟩ : S61)) (k61_mkM _ _ _ (⟨(rd_T61 y161 x5_1).f0,(rd_T61 y161 x5_1).f1,t162⟩ : S61) ) (fun _ hk => hk);have aI := al 2 _ rfl;(try simp only [show (k61).sz = 3 from rfl,Nat.mul_one,Nat.add_zero] at aI);have aJ := ay 2;(try simp only [show (k61).sz = 3 from rfl,Nat.mul_one,Nat.add_zero] at aJ);clear ax al ay aV)|((with_reducible refine gate_store (t := 9) (p := 33) rfl ?_);refine store_event (t := 9) (p := 33) (v := ?vo_w20) (w1 := (w18.setCell ⟨go6,(x5_1 : Int).toNat * 3 + 2,none⟩ (.string t162))) ?hg ?ho ?hn ?hr ?_;(case ho => rfl);(case hg => rfl);(case hn => rfl);(case hr => first|(go_simp;done)|(go_simp;rfl));intro w20 hw;have hg : w18.grownBy w20 (some go6) := (by rw [hw];exact aH.2);have hp_ : Kd.R k61 61 w20 w0.heap.size (fun k_ => (P0_ k_ ∨ w.heap.size ≤ k_)) (.slice (some ⟨go6,0,none⟩) x0_1.length ag) az := (by rw [hw,aN.out];exact aH.1);clear aH;replace HB := aM ((by rw [hw];exact lS (HB.out) GB6.out : Below w0.heap.size w0 w20));replace HK := aM (Kept.of_grown (S := (fun k_ => P0_ k_)) hg (by repeat (first|(with_reducible first|exact HK.out|apply Kept.alloc|apply Kept.drewN|apply Kept.drew)|exact HK.out)) (fun k_ e_ => (aa.out.1 k_ e_)));replace aa := aM (hp_);clear hg hw hp_));go_roundg k1
     case measure => have := HK1.out;omega
     case rel => exact ⟨(az),(wrap64 ((wrap64 ((wrap64 (ab + 1)) + 1)) + 1)),(wrap64 (x5_1 + 1)),(by first|rfl|(simp [*];done)),(by first|rfl|(simp [*];done)),H',⟨by have := HK1.out;omega⟩,⟨by (with_reducible repeat (first|apply rA|apply rN|apply rD));exact aa.out⟩,⟨by repeat (first|(with_reducible first|exact HK.out|apply Kept.alloc|apply Kept.drewN|apply Kept.drew)|exact HK.out)⟩,⟨hb_⟩⟩
    ·rw [if_neg c5] at H;exact absurd H (by simp)
   ·rw [if_neg c3] at H;have c3b0 : decide (x5_1 < (x0_1.length : Int)) = false := dF c3;clear c3;simp only [eS,eP] at H;obtain ⟨rfl,rfl⟩ := H;obtain ⟨aW,ag,aA⟩ := Kd.R_slice aa.out;subst aA;go_wp2;go_ret;exact ⟨by first|rfl|(simp [*];done),by (with_reducible repeat (first|apply rA|apply rN|apply rD));exact aa.out,hb_,by repeat (first|(with_reducible first|exact HK.out|apply Kept.alloc|apply Kept.drewN|apply Kept.drew)|exact HK.out)⟩
end Go.Proofs.Ytmkkcpdpfelalaa.P
