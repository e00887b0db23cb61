/- Written by a program in this session: each theorem here says that a Go function computes the Lean function beside it, or that a law's row holds, under the conditions that the theorem itself states. -/
import Derived.Test.YtmkkcpdpfelalaaZPx0
import Derived.Test.YtmkkcpdpfelalaaZPx7
import Derived.Test.YtmkkcpdpfelalaaZPx14
import Derived.Test.YtmkkcpdpfelalaaZPx15
namespace Go.Proofs.Ytmkkcpdpfelalaa.P
open Go.RowKit Go.Proofs.YtmkkcpdpfelalaaW.PrintWords Go.Proofs.YtmkkcpdpfelalaaW.PrintLast Go.Proofs.YtmkkcpdpfelalaaW.PrintMore
attribute [local go_sem] max2_int min2_int max_two min_two max_three min_three max_four min_four   -- for this text's walks alone
set_option linter.unusedVariables false
set_option linter.unusedSimpArgs false
def laws_eqLocaleS.l0 : Nat → List (S31) → List (S31) → Int → Option (Bool)
 | 0,_,_,_ => none
 | k + 1,x0,x1,x5 => if x5 < (x0.length : Int) then (if 0 ≤ x5 then (if x5 < (x1.length : Int) then ((laws_eqLocale.f k ((rd_T31 x0 x5).f0) ((rd_T31 x0 x5).f1) ((rd_T31 x0 x5).f2) ((rd_T31 x0 x5).f3) ((rd_T31 x0 x5).f4) ((rd_T31 x1 x5).f0) ((rd_T31 x1 x5).f1) ((rd_T31 x1 x5).f2) ((rd_T31 x1 x5).f3) ((rd_T31 x1 x5).f4)).bind fun t485 => (if t485 = true then (laws_eqLocaleS.l0 k x0 x1 (wrap64 (x5 + 1))) else (some false))) else (none)) else (none)) else (some true)
def laws_eqLocaleS.f (k : Nat) (l0 : List (S31)) (l1 : List (S31)) : Option (Bool) := if (l0.length : Int) = (l1.length : Int) then (laws_eqLocaleS.l0 k l0 l1 0) else (some false)
theorem laws_eqLocaleS.mono_l : ∀ k,(∀ y0 y1 y2,LeO (laws_eqLocaleS.l0 k y0 y1 y2) (laws_eqLocaleS.l0 (k + 1) y0 y1 y2))
 | 0 => fun _ _ _ r h => by simp [laws_eqLocaleS.l0] at h
 | k + 1 => by
  have ih0 := laws_eqLocaleS.mono_l k
  ·intro y0 y1 y2
   unfold laws_eqLocaleS.l0
   repeat' first
   | (with_reducible exact ih0 _ _ _)
   | (with_reducible exact laws_eqLocale.mono _ _ _ _ _ _ _ _ _ _ _)
   | (with_reducible exact LeO.refl _)
   | (with_reducible exact LeO.none _)
   | (with_reducible refine LeO.ite ?_ ?_)
   | (with_reducible refine LeO.bind ?_ (fun _ => ?_))
   | exact ih0 _ _ _
   | exact laws_eqLocale.mono _ _ _ _ _ _ _ _ _ _ _
   | exact LeO.none _
   | refine LeO.ite ?_ ?_
   | refine LeO.bind ?_ (fun _ => ?_)
theorem laws_eqLocaleS.mono : ∀ a0 a1 k,LeO (laws_eqLocaleS.f k a0 a1) (laws_eqLocaleS.f (k + 1) a0 a1) := by
 intro a0 a1 k
 have ih0 := laws_eqLocaleS.mono_l k
 unfold laws_eqLocaleS.f
 repeat' first
   | (with_reducible exact ih0 _ _ _)
   | (with_reducible exact laws_eqLocale.mono _ _ _ _ _ _ _ _ _ _ _)
   | (with_reducible exact LeO.refl _)
   | (with_reducible exact LeO.none _)
   | (with_reducible refine LeO.ite ?_ ?_)
   | (with_reducible refine LeO.bind ?_ (fun _ => ?_))
   | exact ih0 _ _ _
   | exact laws_eqLocale.mono _ _ _ _ _ _ _ _ _ _ _
   | exact LeO.none _
   | refine LeO.ite ?_ ?_
   | refine LeO.bind ?_ (fun _ => ?_)
def laws_eqLocaleS.T6 : Bool × List (List Nat × List Nat) := (true,[([],[]),([],[]),([0,1],[0,1]),([2],[2]),([],[]),([],[]),([4,5],[4,5]),([6],[6]),([3,7],[3,7]),([8],[8])])
def laws_eqLocaleS.B6 : List Nat := [0,0,3,7,0,0,48,112,255,511]
theorem laws_eqLocaleS.tab6 : rtab .any (opsOf Try.f20 6) = laws_eqLocaleS.T6 := by kernel_rfl
theorem laws_eqLocaleS.bits6 : waitsOk laws_eqLocaleS.T6.2 laws_eqLocaleS.B6 = true := by kernel_rfl
set_option maxHeartbeats 8000000 in
set_option maxRecDepth 100000 in
theorem laws_eqLocaleS.calls (k : Nat) (A0 : Option Addr) (c0 : Nat) (l0 : List (S31)) (A1 : Option Addr) (c1 : Nat) (l1 : List (S31)) (r : Bool) (w : World) (hr0 : Kd.C k31 w A0 l0.length l0) (hc0 : l0.length ≤ c0) (hr1 : Kd.C k31 w A1 l1.length l1) (hc1 : l1.length ≤ c1) (h : laws_eqLocaleS.f k l0 l1 = some r) :
  Calls Try.prog 20 #[.slice A0 l0.length c0,.slice A1 l1.length c1] w fun e w' => e = .returned (.bool r) ∧ Below w.heap.size w w' := by
 have hu31 := Try.underlying31;have HR0 := aM hr0;have HC0 := aM hc0;clear hr0 hc0;have HR1 := aM hr1;have HC1 := aM hc1;clear hr1 hc1;have HB := aM (Below.refl w.heap.size w);have H : (if (l0.length : Int) = (l1.length : Int) then (laws_eqLocaleS.l0 k l0 l1 0) else (some false)) = some r := h;clear h
 by_cases c3 : (l0.length : Int) = (l1.length : Int)
 ·rw [if_pos c3] at H;have c3b0 : ((l0.length : Int) == (l1.length : Int)) = true := beq_iff_eq.mpr c3;have c3b1 : ((l0.length : Int) != (l1.length : Int)) = false := bne_eq_false_iff_eq.mpr c3;have c3b2 : (l0.length == l1.length) = true := (by first|simpa using c3|(simp at c3 ⊢;omega));clear c3;have H' := aM H;clear H;go_enter Try.func20,Try.ntmps20;go_wp2;go_loopg [5] k (fun kq v5 w' => ∃ (x5_1 : Int),v5 = .int .i64 x5_1 ∧ Aside0 (laws_eqLocaleS.l0 kq l0 l1 x5_1 = some r) ∧ Aside0 (kq ≤ k) ∧ Aside0 (Below w.heap.size w w'))
  case atStart => exact ⟨(0),(by first|rfl|(simp [*];done)),H',⟨Nat.le_refl _⟩,⟨by repeat (first|(with_reducible first|exact HB.out|apply lA|apply lN|apply lD)|exact HB.out)⟩⟩
  case round =>
   clear H';(try clear c1);(try clear c2);(try clear p2);(try clear c3);(try clear c3b0);(try clear c3b1);(try clear c3b2);obtain ⟨x5_1,rfl,HA,HK1,HB⟩ := hrel
   cases gk with
   | zero => exact absurd HA.out (by simp [laws_eqLocaleS.l0])
   | succ k1 =>
    have H := HA.out;clear HA;simp only [laws_eqLocaleS.l0] at H
    by_cases c4 : x5_1 < (l0.length : Int)
    focus
     rw [if_pos c4] at H;have c4b0 : decide (x5_1 < (l0.length : Int)) = true := dT c4;clear c4
     by_cases c5 : 0 ≤ x5_1
     rotate_left;rw [if_neg c5] at H;exact absurd H (by simp);rw [if_pos c5] at H;have c5b0 : decide (0 ≤ x5_1) = true := dT c5;clear c5
     by_cases c6 : x5_1 < (l1.length : Int)
     rotate_left;rw [if_neg c6] at H;exact absurd H (by simp);rw [if_pos c6] at H;have c6b0 : decide (x5_1 < (l1.length : Int)) = true := dT c6;clear c6;obtain ⟨t485,A7,H⟩ := bE_ H
     by_cases c8 : t485 = true
     focus
      subst c8;rw [if_pos rfl] at H;have H' := aM H;clear H
     rotate_left
     focus
      replace c8 := Bool.eq_false_iff.mpr c8;subst c8;rw [if_neg Bool.false_ne_true] at H;obtain rfl := Option.some.inj H;simp only [eS,eP] at H;obtain ⟨rfl⟩ := H
    rotate_left 2
    focus
     rw [if_neg c4] at H;have c4b0 : decide (x5_1 < (l0.length : Int)) = false := dF c4;clear c4;obtain rfl := Option.some.inj H;simp only [eS,eP] at H;obtain ⟨rfl⟩ := H
    all_goals
     (try go_wp2)
     first
      |
       go_ret;exact ⟨by first|rfl|(simp [*];done),by repeat (first|(with_reducible first|exact HB.out|apply lA|apply lN|apply lD)|exact HB.out)⟩
      |
       replace HB := aM (lD HB.out);have p01 : 0 ≤ (x5_1 : Int) := oD (by assumption);have q01 : x5_1 < (l0.length : Int) := oD (by assumption);obtain ⟨ad01,A01_1,c01_1,A01_2,c01_2,e01,hx01_0,hx01_1,hx01_2,hx01_3,hx01_4,hl01_1,hi01_1,hl01_2,hi01_2⟩ := at_T31 HR0.out x5_1 p01 q01;have hw01_4 := hx01_4;have hw01_3 := hx01_3;have hw01_2 := hx01_2;have hw01_1 := hx01_1;have hw01_0 := hx01_0;cases e01;replace hx01_0 := (HB.out.cell (wB w _ hx01_0)).trans hx01_0;replace hx01_1 := (HB.out.cell (wB w _ hx01_1)).trans hx01_1;replace hx01_2 := (HB.out.cell (wB w _ hx01_2)).trans hx01_2;replace hx01_3 := (HB.out.cell (wB w _ hx01_3)).trans hx01_3;replace hx01_4 := (HB.out.cell (wB w _ hx01_4)).trans hx01_4;have HR01_1 := aM hi01_1;have HC01_1 := aM hl01_1;clear hi01_1 hl01_1;have HR01_2 := aM hi01_2;have HC01_2 := aM hl01_2;clear hi01_2 hl01_2;replace p01 := eq_true p01;replace q01 := eq_true q01;have p02 : 0 ≤ (x5_1 : Int) := oD (by assumption);have q02 : x5_1 < (l1.length : Int) := oD (by assumption);obtain ⟨ad02,A02_1,c02_1,A02_2,c02_2,e02,hx02_0,hx02_1,hx02_2,hx02_3,hx02_4,hl02_1,hi02_1,hl02_2,hi02_2⟩ := at_T31 HR1.out x5_1 p02 q02;have hw02_4 := hx02_4;have hw02_3 := hx02_3;have hw02_2 := hx02_2;have hw02_1 := hx02_1;have hw02_0 := hx02_0;cases e02;replace hx02_0 := (HB.out.cell (wB w _ hx02_0)).trans hx02_0;replace hx02_1 := (HB.out.cell (wB w _ hx02_1)).trans hx02_1;replace hx02_2 := (HB.out.cell (wB w _ hx02_2)).trans hx02_2;replace hx02_3 := (HB.out.cell (wB w _ hx02_3)).trans hx02_3;replace hx02_4 := (HB.out.cell (wB w _ hx02_4)).trans hx02_4;have HR02_1 := aM hi02_1;have HC02_1 := aM hl02_1;clear hi02_1 hl02_1;have HR02_2 := aM hi02_2;have HC02_2 := aM hl02_2;clear hi02_2 hl02_2;replace p02 := eq_true p02;replace q02 := eq_true q02;refine start_ (n := 10) (S := fun w' => w'.cell? (ad01.add ((x5_1).toNat * 5)) = some (.string ((rd_T31 l0 x5_1).f0)) ∧ w'.cell? ⟨(ad01.add ((x5_1).toNat * 5)).block,(ad01.add ((x5_1).toNat * 5)).off + 1,none⟩ = some (.slice A01_1 ((rd_T31 l0 x5_1).f1).length c01_1) ∧ w'.cell? ⟨(ad01.add ((x5_1).toNat * 5)).block,(ad01.add ((x5_1).toNat * 5)).off + 2,none⟩ = some (.slice A01_2 ((rd_T31 l0 x5_1).f2).length c01_2) ∧ w'.cell? ⟨(ad01.add ((x5_1).toNat * 5)).block,(ad01.add ((x5_1).toNat * 5)).off + 3,none⟩ = some (.string ((rd_T31 l0 x5_1).f3)) ∧ w'.cell? ⟨(ad01.add ((x5_1).toNat * 5)).block,(ad01.add ((x5_1).toNat * 5)).off + 4,none⟩ = some (.string ((rd_T31 l0 x5_1).f4)) ∧ w'.cell? (ad02.add ((x5_1).toNat * 5)) = some (.string ((rd_T31 l1 x5_1).f0)) ∧ w'.cell? ⟨(ad02.add ((x5_1).toNat * 5)).block,(ad02.add ((x5_1).toNat * 5)).off + 1,none⟩ = some (.slice A02_1 ((rd_T31 l1 x5_1).f1).length c02_1) ∧ w'.cell? ⟨(ad02.add ((x5_1).toNat * 5)).block,(ad02.add ((x5_1).toNat * 5)).off + 2,none⟩ = some (.slice A02_2 ((rd_T31 l1 x5_1).f2).length c02_2) ∧ w'.cell? ⟨(ad02.add ((x5_1).toNat * 5)).block,(ad02.add ((x5_1).toNat * 5)).off + 3,none⟩ = some (.string ((rd_T31 l1 x5_1).f3)) ∧ w'.cell? ⟨(ad02.add ((x5_1).toNat * 5)).block,(ad02.add ((x5_1).toNat * 5)).off + 4,none⟩ = some (.string ((rd_T31 l1 x5_1).f4))) (ds := []) (mk_ 10 0) (by kernel_rfl) rfl (by kernel_rfl) ⟨((HB.out.cell (wB w _ hw01_0)).trans hw01_0),((HB.out.cell (wB w _ hw01_1)).trans hw01_1),((HB.out.cell (wB w _ hw01_2)).trans hw01_2),((HB.out.cell (wB w _ hw01_3)).trans hw01_3),((HB.out.cell (wB w _ hw01_4)).trans hw01_4),((HB.out.cell (wB w _ hw02_0)).trans hw02_0),((HB.out.cell (wB w _ hw02_1)).trans hw02_1),((HB.out.cell (wB w _ hw02_2)).trans hw02_2),((HB.out.cell (wB w _ hw02_3)).trans hw02_3),((HB.out.cell (wB w _ hw02_4)).trans hw02_4)⟩ (fun hHeld => ?_);refine with_tabW laws_eqLocaleS.tab6 laws_eqLocaleS.bits6 (fun HT_ HW_ => ?_);generalize wr.drew = wk0 at HB HR01_1 HR01_2 HR02_1 HR02_2 hx01_0 hx01_1 hx01_2 hx01_3 hx01_4 hx02_0 hx02_1 hx02_2 hx02_3 hx02_4 hHeld ⊢;refine pure_ (i := 0) (N := some 17) (v := ?_) (a' := ?_) (mk_ 10 1) rfl rfl (any_of HT_.out (by kernel_rfl)) (fun _ _ _ h => h) (Or.inl ⟨by rfl,?_⟩) ?_ ?_;rotate_left;intro w';go_simp;(with_reducible rfl);rotate_left;simp only [Act.put,lI,sZ,sS,i64_w,i32_w];rfl;refine pure_ (i := 1) (N := some 18) (v := ?_) (a' := ?_) (mk_ 10 3) rfl rfl (any_of HT_.out (by kernel_rfl)) (fun _ _ _ h => h) (Or.inl ⟨by rfl,?_⟩) ?_ ?_;rotate_left;intro w';go_simp;(with_reducible rfl);rotate_left;simp only [Act.put,lI,sZ,sS,i64_w,i32_w];rfl;refine pure_ (i := 2) (N := some 19) (v := ?_) (a' := ?_) (mk_ 10 7) rfl rfl (any_of HT_.out (by kernel_rfl)) (fun _ _ _ h => h) (Or.inl ⟨by rfl,?_⟩) ?_ ?_;rotate_left;intro w';go_simp;(with_reducible rfl);rotate_left;simp only [Act.put,lI,sZ,sS,i64_w,i32_w];rfl;refine pure_ (i := 4) (N := some 21) (v := ?_) (a' := ?_) (mk_ 10 23) rfl rfl (any_of HT_.out (by kernel_rfl)) (fun _ _ _ h => h) (Or.inl ⟨by rfl,?_⟩) ?_ ?_;rotate_left;intro w';go_simp;(with_reducible rfl);rotate_left;simp only [Act.put,lI,sZ,sS,i64_w,i32_w];rfl;refine pure_ (i := 5) (N := some 22) (v := ?_) (a' := ?_) (mk_ 10 55) rfl rfl (any_of HT_.out (by kernel_rfl)) (fun _ _ _ h => h) (Or.inl ⟨by rfl,?_⟩) ?_ ?_;rotate_left;intro w';go_simp;(with_reducible rfl);rotate_left;simp only [Act.put,lI,sZ,sS,i64_w,i32_w];rfl;refine pure_ (i := 6) (N := some 23) (v := ?_) (a' := ?_) (mk_ 10 119) rfl rfl (any_of HT_.out (by kernel_rfl)) (fun _ _ _ h => h) (Or.inl ⟨by rfl,?_⟩) ?_ ?_;rotate_left;intro w';go_simp;(with_reducible rfl);rotate_left;simp only [Act.put,lI,sZ,sS,i64_w,i32_w];rfl;refine take_ (i := 3) (N := some 20) (v := ?_) (a' := ?_) (mk_ 10 127) rfl rfl (take_ofW HT_.out HW_.out (by kernel_rfl)) (fun _ _ _ h => h) (Or.inl ⟨by rfl,?_⟩) hHeld ?_ ?_;rotate_left;rintro w' ⟨s0,s1,s2,s3,s4,s5,s6,s7,s8,s9⟩;go_simp;(with_reducible rfl);rotate_left;simp only [Act.put,lI,sZ,sS,i64_w,i32_w];rfl;refine take_ (i := 7) (N := some 24) (v := ?_) (a' := ?_) (mk_ 10 255) rfl rfl (take_ofW HT_.out HW_.out (by kernel_rfl)) (fun _ _ _ h => h) (Or.inl ⟨by rfl,?_⟩) hHeld ?_ ?_;rotate_left;rintro w' ⟨s0,s1,s2,s3,s4,s5,s6,s7,s8,s9⟩;go_simp;(with_reducible rfl);rotate_left;simp only [Act.put,lI,sZ,sS,i64_w,i32_w];rfl;refine one_ (i := 8) (N := some 25) (mk_ 10 511) rfl rfl (one_of HT_.out (by kernel_rfl)) (by decide) (fun K hK => ?_);refine goes_ Try.func13 (by kernel_rfl) rfl #[.agg #[.string ((rd_T31 l0 x5_1).f0),.slice A01_1 ((rd_T31 l0 x5_1).f1).length c01_1,.slice A01_2 ((rd_T31 l0 x5_1).f2).length c01_2,.string ((rd_T31 l0 x5_1).f3),.string ((rd_T31 l0 x5_1).f4)],.agg #[.string ((rd_T31 l1 x5_1).f0),.slice A02_1 ((rd_T31 l1 x5_1).f1).length c02_1,.slice A02_2 ((rd_T31 l1 x5_1).f2).length c02_2,.string ((rd_T31 l1 x5_1).f3),.string ((rd_T31 l1 x5_1).f4)]] (by rfl) rfl rfl (by (try simp only [mT,mC,mN]);first|done|rfl|(simp only [xD,xT];rfl)) ?_;(with_reducible refine (laws_eqLocale.calls _ _ _ _ _ _ _ _ _ _ _ _ _ _ _ _ _ _ _ _ _ ?side1 ?side2 ?side3 ?side4 ?side5 ?side6 ?side7 ?side8 A7.out).mono ?_);(case side1 => repeat (first|exact (cB HR01_1.out HB.out)|(with_reducible first|refine cA ?_ _|refine cN ?_ _|refine cD ?_)));(case side2 => exact HC01_1.out);(case side3 => repeat (first|exact (cB HR01_2.out HB.out)|(with_reducible first|refine cA ?_ _|refine cN ?_ _|refine cD ?_)));(case side4 => exact HC01_2.out);(case side5 => repeat (first|exact (cB HR02_1.out HB.out)|(with_reducible first|refine cA ?_ _|refine cN ?_ _|refine cD ?_)));(case side6 => exact HC02_1.out);(case side7 => repeat (first|exact (cB HR02_2.out HB.out)|(with_reducible first|refine cA ?_ _|refine cN ?_ _|refine cD ?_)));(case side8 => exact HC02_2.out);rintro e wk1 ⟨rfl,hb⟩;refine ⟨_,rfl,?_⟩;replace HB := aM (lT (by repeat (first|(with_reducible first|exact HB.out|apply lA|apply lN|apply lD)|exact HB.out)) hb);(try clear hb);(try clear hb2);(try clear hk);(try clear hi);refine hK.out _ _ ⟨((HB.out.cell (wB w _ hw01_0)).trans hw01_0),((HB.out.cell (wB w _ hw01_1)).trans hw01_1),((HB.out.cell (wB w _ hw01_2)).trans hw01_2),((HB.out.cell (wB w _ hw01_3)).trans hw01_3),((HB.out.cell (wB w _ hw01_4)).trans hw01_4),((HB.out.cell (wB w _ hw02_0)).trans hw02_0),((HB.out.cell (wB w _ hw02_1)).trans hw02_1),((HB.out.cell (wB w _ hw02_2)).trans hw02_2),((HB.out.cell (wB w _ hw02_3)).trans hw02_3),((HB.out.cell (wB w _ hw02_4)).trans hw02_4)⟩ (fun hHeld => ?_);clear hK K;refine norm_ (a' := ?_) ?_ ?_;rotate_left;show Act.put _ (some 25) _ = _;simp only [Act.put,lI,sZ,sS,i64_w,i32_w];rfl;refine pure_ (i := 9) (N := some 26) (v := ?_) (a' := ?_) (mk_ 10 1023) rfl rfl (any_of HT_.out (by kernel_rfl)) (fun _ _ _ h => h) (Or.inl ⟨by rfl,?_⟩) ?_ ?_;rotate_left;intro w';go_simp;(with_reducible rfl);rotate_left;simp only [Act.put,lI,sZ,sS,i64_w,i32_w];rfl;refine done_ (done_of HT_.out (by kernel_rfl)) ?_;(try go_wp2)
       first
        |
         go_ret;exact ⟨by first|rfl|(simp [*];done),by repeat (first|(with_reducible first|exact HB.out|apply lA|apply lN|apply lD)|exact HB.out)⟩
        |
         go_roundg k1
         case measure => have := HK1.out;omega
         case rel => exact ⟨(wrap64 (x5_1 + 1)),(by first|rfl|(simp [*];done)),H',⟨by have := HK1.out;omega⟩,⟨by repeat (first|(with_reducible first|exact HB.out|apply lA|apply lN|apply lD)|exact HB.out)⟩⟩
 ·rw [if_neg c3] at H;have c3b0 : ((l0.length : Int) == (l1.length : Int)) = false := beq_eq_false_iff_ne.mpr c3;have c3b1 : ((l0.length : Int) != (l1.length : Int)) = true := bne_iff_ne.mpr c3;have c3b2 : (l0.length == l1.length) = false := (by first|simpa using c3|(simp at c3 ⊢;omega));obtain rfl := Option.some.inj H;simp only [eS,eP] at H;obtain ⟨rfl⟩ := H;go_enter Try.func20,Try.ntmps20;go_wp2;go_ret;exact ⟨by first|rfl|(simp [*];done),by repeat (first|(with_reducible first|exact HB.out|apply lA|apply lN|apply lD)|exact HB.out)⟩
def laws_FnExactFallbackTerm.j0 : Nat → List (S25) → List (S31) → Bool → Option (Bool)
 | 0,_,_,_ => none
 | k + 1,x0,x11,x54 => if x54 = true then (some false) else ((laws_toLocaleS.f k x0).bind fun t499 => ((laws_eqLocaleS.f k x11 t499).bind fun t502 => (if t502 = true then (some true) else (some false))))
def laws_FnExactFallbackTerm.f (k : Nat) (l0 : List (S25)) (a1 : ByteArray) (a2 : Int) : Option (Bool) := if (a1.size : Int) > 1048576 then (some true) else ((laws_szLocaleS.f k l0 1048576).bind fun t486 => (if t486 < 0 then (some true) else ((laws_toLocaleS.f k l0).bind fun t487 => ((spec_FallbackTerm.f k t487 a1 a2).bind fun bt490 => ((laws_toLocaleS.f k l0).bind fun t493 => ((impl_FallbackTerm.f k t493 a1 a2).bind fun bt496 => (if bt496.1.toList = bt490.1.toList then (if bt496.2.1 = bt490.2.1 then (laws_FnExactFallbackTerm.j0 k l0 t493 (bt496.2.2 != bt490.2.2)) else (laws_FnExactFallbackTerm.j0 k l0 t493 true)) else (laws_FnExactFallbackTerm.j0 k l0 t493 true))))))))
theorem laws_FnExactFallbackTerm.mono_l : ∀ k,(∀ y0 y1 y2,LeO (laws_FnExactFallbackTerm.j0 k y0 y1 y2) (laws_FnExactFallbackTerm.j0 (k + 1) y0 y1 y2))
 | 0 => fun _ _ _ r h => by simp [laws_FnExactFallbackTerm.j0] at h
 | k + 1 => by
  have ih0 := laws_FnExactFallbackTerm.mono_l k
  ·intro y0 y1 y2
   unfold laws_FnExactFallbackTerm.j0
   repeat' first
   | (with_reducible exact ih0 _ _ _)
   | (with_reducible exact impl_FallbackTerm.mono _ _ _ _)
   | (with_reducible exact laws_eqLocaleS.mono _ _ _)
   | (with_reducible exact laws_szLocaleS.mono _ _ _)
   | (with_reducible exact laws_toLocaleS.mono _ _)
   | (with_reducible exact spec_FallbackTerm.mono _ _ _ _)
   | (with_reducible exact LeO.refl _)
   | (with_reducible exact LeO.none _)
   | (with_reducible refine LeO.ite ?_ ?_)
   | (with_reducible refine LeO.bind ?_ (fun _ => ?_))
   | exact ih0 _ _ _
   | exact impl_FallbackTerm.mono _ _ _ _
   | exact laws_eqLocaleS.mono _ _ _
   | exact laws_szLocaleS.mono _ _ _
   | exact laws_toLocaleS.mono _ _
   | exact spec_FallbackTerm.mono _ _ _ _
   | exact LeO.none _
   | refine LeO.ite ?_ ?_
   | refine LeO.bind ?_ (fun _ => ?_)
theorem laws_FnExactFallbackTerm.mono : ∀ a0 a1 a2 k,LeO (laws_FnExactFallbackTerm.f k a0 a1 a2) (laws_FnExactFallbackTerm.f (k + 1) a0 a1 a2) := by
 intro a0 a1 a2 k
 have ih0 := laws_FnExactFallbackTerm.mono_l k
 unfold laws_FnExactFallbackTerm.f
 repeat' first
   | (with_reducible exact ih0 _ _ _)
   | (with_reducible exact impl_FallbackTerm.mono _ _ _ _)
   | (with_reducible exact laws_eqLocaleS.mono _ _ _)
   | (with_reducible exact laws_szLocaleS.mono _ _ _)
   | (with_reducible exact laws_toLocaleS.mono _ _)
   | (with_reducible exact spec_FallbackTerm.mono _ _ _ _)
   | (with_reducible exact LeO.refl _)
   | (with_reducible exact LeO.none _)
   | (with_reducible refine LeO.ite ?_ ?_)
   | (with_reducible refine LeO.bind ?_ (fun _ => ?_))
   | exact ih0 _ _ _
   | exact impl_FallbackTerm.mono _ _ _ _
   | exact laws_eqLocaleS.mono _ _ _
   | exact laws_szLocaleS.mono _ _ _
   | exact laws_toLocaleS.mono _ _
   | exact spec_FallbackTerm.mono _ _ _ _
   | exact LeO.none _
   | refine LeO.ite ?_ ?_
   | refine LeO.bind ?_ (fun _ => ?_)
set_option maxHeartbeats 8000000 in
set_option maxRecDepth 100000 in
theorem laws_FnExactFallbackTerm.calls (k : Nat) (A0 : Option Addr) (c0 : Nat) (l0 : List (S25)) (a1 : ByteArray) (a2 : Int) (r : Bool) (w : World) (hr0 : Kd.C k25 w A0 l0.length l0) (hc0 : l0.length ≤ c0) (hr_ : r = true) (h : laws_FnExactFallbackTerm.f k l0 a1 a2 = some r) :
  Calls Try.prog 5 #[.slice A0 l0.length c0,.string a1,.int .i64 a2] w fun e w' => e = .returned (.bool r) ∧ Below w.heap.size w w' := by
 have HR0 := aM hr0;have HC0 := aM hc0;clear hr0 hc0;have HB := aM (Below.refl w.heap.size w);have H : (if (a1.size : Int) > 1048576 then (some true) else ((laws_szLocaleS.f k l0 1048576).bind fun t486 => (if t486 < 0 then (some true) else ((laws_toLocaleS.f k l0).bind fun t487 => ((spec_FallbackTerm.f k t487 a1 a2).bind fun bt490 => ((laws_toLocaleS.f k l0).bind fun t493 => ((impl_FallbackTerm.f k t493 a1 a2).bind fun bt496 => (if bt496.1.toList = bt490.1.toList then (if bt496.2.1 = bt490.2.1 then (laws_FnExactFallbackTerm.j0 k l0 t493 (bt496.2.2 != bt490.2.2)) else (laws_FnExactFallbackTerm.j0 k l0 t493 true)) else (laws_FnExactFallbackTerm.j0 k l0 t493 true))))))))) = some r := h;clear h
 by_cases c4 : (a1.size : Int) > 1048576
 ·rw [if_pos c4] at H;have c4b0 : decide (1048576 < (a1.size : Int)) = true := dT c4;have c4b1 : decide (1048576 < a1.size) = true := dT (by omega);clear c4;obtain rfl := Option.some.inj H;(try clear hr_);go_enter Try.func5,Try.ntmps5;go_wp2;go_ret;exact ⟨by first|rfl|(simp [*];done),by repeat (first|(with_reducible first|exact HB.out|apply lA|apply lN|apply lD)|exact HB.out)⟩
 ·rw [if_neg c4] at H;have c4b0 : decide (1048576 < (a1.size : Int)) = false := dF c4;have c4b1 : decide (1048576 < a1.size) = false := dF (by omega);clear c4;obtain ⟨t486,A5,H⟩ := bE_ H
  by_cases c6 : t486 < 0
  ·rw [if_pos c6] at H;have c6b0 : decide (t486 < 0) = true := dT c6;clear c6;obtain rfl := Option.some.inj H;(try clear hr_);go_enter Try.func5,Try.ntmps5;go_wp2_with (first|((with_reducible refine gate_callee (f := 16) rfl ?_);refine goesL_ (some 20) rfl rfl Try.func16 (by kernel_rfl) rfl #[.slice A0 l0.length c0,.int .i64 1048576] rfl (by (try simp only [mT,mC,mN]);first|done|rfl|(simp only [xD,xT];rfl)) ?_;(with_reducible refine (laws_szLocaleS.calls k _ _ l0 1048576 t486 _ ?side1 ?side2 A5.out).mono ?_);(case side1 => repeat (first|exact HR0.out|(with_reducible first|refine cA ?_ _|refine cN ?_ _|refine cD ?_)));(case side2 => exact HC0.out);rintro e w7 ⟨rfl,hb⟩;refine ⟨_,rfl,?_⟩;replace HB := aM (lT (by repeat (first|(with_reducible first|exact HB.out|apply lA|apply lN|apply lD)|exact HB.out)) hb);(try clear hb)));go_ret;exact ⟨by first|rfl|(simp [*];done),by repeat (first|(with_reducible first|exact HB.out|apply lA|apply lN|apply lD)|exact HB.out)⟩
  ·rw [if_neg c6] at H;have c6b0 : decide (t486 < 0) = false := dF c6;clear c6;obtain ⟨t487,A8,H⟩ := bE_ H;replace H := Option.bind_eq_some_iff.mp H;obtain ⟨⟨t490,t491,t492⟩,A90,H⟩ := H;replace H : ((laws_toLocaleS.f k l0).bind fun t493 => ((impl_FallbackTerm.f k t493 a1 a2).bind fun bt496 => (if bt496.1.toList = t490.toList then (if bt496.2.1 = t491 then (laws_FnExactFallbackTerm.j0 k l0 t493 (bt496.2.2 != t492)) else (laws_FnExactFallbackTerm.j0 k l0 t493 true)) else (laws_FnExactFallbackTerm.j0 k l0 t493 true)))) = some r := H;have A9 := aM A90;clear A90;obtain ⟨t493,A10,H⟩ := bE_ H;replace H := Option.bind_eq_some_iff.mp H;obtain ⟨⟨t496,t497,t498⟩,A110,H⟩ := H;replace H : (if t496.toList = t490.toList then (if t497 = t491 then (laws_FnExactFallbackTerm.j0 k l0 t493 (t498 != t492)) else (laws_FnExactFallbackTerm.j0 k l0 t493 true)) else (laws_FnExactFallbackTerm.j0 k l0 t493 true)) = some r := H;have A11 := aM A110;clear A110;have HC12 := aM H;clear H;go_enter Try.func5,Try.ntmps5;go_upto_region 10 with (first|((with_reducible refine gate_callee (f := 16) rfl ?_);refine goesL_ (some 20) rfl rfl Try.func16 (by kernel_rfl) rfl #[.slice A0 l0.length c0,.int .i64 1048576] rfl (by (try simp only [mT,mC,mN]);first|done|rfl|(simp only [xD,xT];rfl)) ?_;(with_reducible refine (laws_szLocaleS.calls k _ _ l0 1048576 t486 _ ?side1 ?side2 A5.out).mono ?_);(case side1 => repeat (first|exact HR0.out|(with_reducible first|refine cA ?_ _|refine cN ?_ _|refine cD ?_)));(case side2 => exact HC0.out);rintro e w13 ⟨rfl,hb⟩;refine ⟨_,rfl,?_⟩;replace HB := aM (lT (by repeat (first|(with_reducible first|exact HB.out|apply lA|apply lN|apply lD)|exact HB.out)) hb);(try clear hb))|((with_reducible refine gate_callee (f := 18) rfl ?_);refine goesL_ (some 25) rfl rfl Try.func18 (by kernel_rfl) rfl #[.slice A0 l0.length c0] rfl (by (try simp only [mT,mC,mN]);first|done|rfl|(simp only [xD,xT];rfl)) ?_;(with_reducible refine (laws_toLocaleS.calls k _ _ l0 t487 _ ?side1 ?side2 A8.out).mono ?_);(case side1 => repeat (first|exact (cB HR0.out HB.out)|(with_reducible first|refine cA ?_ _|refine cN ?_ _|refine cD ?_)));(case side2 => exact HC0.out);rintro e w14 ⟨v488,rfl,ho0,hb⟩;refine ⟨_,rfl,?_⟩;have HO489 := aM (Kd.S_lower ho0 (lZ (by repeat (first|(with_reducible first|exact HB.out|apply lA|apply lN|apply lD)|exact HB.out))));replace HB := aM (lT (by repeat (first|(with_reducible first|exact HB.out|apply lA|apply lN|apply lD)|exact HB.out)) hb);(try clear hb);(try clear ho0);obtain ⟨Ao15,co15,eo15⟩ := Kd.S_slice HO489.out;subst eo15)|((with_reducible refine gate_callee (f := 17) rfl ?_);refine goesL_ (some 28) rfl rfl Try.func17 (by kernel_rfl) rfl #[.slice Ao15 t487.length co15,.string a1,.int .i64 a2] rfl (by (try simp only [mT,mC,mN]);first|done|rfl|(simp only [xD,xT];rfl)) ?_;(with_reducible refine (spec_FallbackTerm.calls k _ _ t487 a1 a2 t490 t491 t492 _ ?side1 ?side2 A9.out).mono ?_);(case side1 => repeat (first|exact (Kd.S_reads' HO489.out).2.2|(with_reducible first|refine cA ?_ _|refine cN ?_ _|refine cD ?_)));(case side2 => exact (Kd.S_reads' HO489.out).2.1);rintro e w16 ⟨rfl,hb⟩;refine ⟨_,rfl,?_⟩;replace HO489 := aM (Kd.S_below (by (with_reducible repeat first|apply Kd.S_alloc|apply Kd.S_drewN|apply Kd.S_drew);exact HO489.out) hb);replace HB := aM (lT (by repeat (first|(with_reducible first|exact HB.out|apply lA|apply lN|apply lD)|exact HB.out)) hb);(try clear hb))|((with_reducible refine gate_callee (f := 18) rfl ?_);refine goesL_ (some 33) rfl rfl Try.func18 (by kernel_rfl) rfl #[.slice A0 l0.length c0] rfl (by (try simp only [mT,mC,mN]);first|done|rfl|(simp only [xD,xT];rfl)) ?_;(with_reducible refine (laws_toLocaleS.calls k _ _ l0 t493 _ ?side1 ?side2 A10.out).mono ?_);(case side1 => repeat (first|exact (cB HR0.out HB.out)|(with_reducible first|refine cA ?_ _|refine cN ?_ _|refine cD ?_)));(case side2 => exact HC0.out);rintro e w17 ⟨v494,rfl,ho0,hb⟩;refine ⟨_,rfl,?_⟩;have HO495 := aM (Kd.S_lower (Kd.S_new' ho0 (Kd.S_lt (by (with_reducible repeat first|apply Kd.S_alloc|apply Kd.S_drewN|apply Kd.S_drew);exact HO489.out))) (lZ (by repeat (first|(with_reducible first|exact HB.out|apply lA|apply lN|apply lD)|exact HB.out))));replace HO489 := aM (Kd.S_elder' (by (with_reducible repeat first|apply Kd.S_alloc|apply Kd.S_drewN|apply Kd.S_drew);exact HO489.out) (Kd.S_base ho0) hb);replace HB := aM (lT (by repeat (first|(with_reducible first|exact HB.out|apply lA|apply lN|apply lD)|exact HB.out)) hb);(try clear hb);(try clear ho0);obtain ⟨Ao18,co18,eo18⟩ := Kd.S_slice HO495.out;subst eo18)|((with_reducible refine gate_callee (f := 19) rfl ?_);refine goesL_ (some 38) rfl rfl Try.func19 (by kernel_rfl) rfl #[.slice Ao18 t493.length co18,.string a1,.int .i64 a2] rfl (by (try simp only [mT,mC,mN]);first|done|rfl|(simp only [xD,xT];rfl)) ?_;(with_reducible refine (impl_FallbackTerm.calls k _ _ t493 a1 a2 t496 t497 t498 _ ?side1 ?side2 A11.out).mono ?_);(case side1 => repeat (first|exact (Kd.S_reads' HO495.out).2.2|(with_reducible first|refine cA ?_ _|refine cN ?_ _|refine cD ?_)));(case side2 => exact (Kd.S_reads' HO495.out).2.1);rintro e w19 ⟨rfl,hb⟩;refine ⟨_,rfl,?_⟩;replace HO489 := aM (Kd.S_below (by (with_reducible repeat first|apply Kd.S_alloc|apply Kd.S_drewN|apply Kd.S_drew);exact HO489.out) hb);replace HO495 := aM (Kd.S_below (by (with_reducible repeat first|apply Kd.S_alloc|apply Kd.S_drewN|apply Kd.S_drew);exact HO495.out) hb);replace HB := aM (lT (by repeat (first|(with_reducible first|exact HB.out|apply lA|apply lN|apply lD)|exact HB.out)) hb);(try clear hb)));(try simp only [Act.put,lI,sZ,sS]);go_cut [54] (fun v54 wc => ∃ (kq : Nat) (x54_11 : Bool),v54 = .bool x54_11 ∧ Aside0 (laws_FnExactFallbackTerm.j0 kq l0 t493 x54_11 = some r) ∧ Aside0 (kq ≤ k) ∧ Aside0 (Kd.S k31 31 wc w.heap.size (fun _ => True) (.slice Ao18 t493.length co18) t493) ∧ Aside0 (Below w.heap.size w wc))
   case first =>
    have H := HC12.out;clear HC12
    by_cases c20 : t496.toList = t490.toList
    focus
     rw [if_pos c20] at H;have c20b0 : (t496.toList == t490.toList) = true := beq_iff_eq.mpr c20;have c20b1 : (t496.toList != t490.toList) = false := bne_eq_false_iff_eq.mpr c20;clear c20;(first|rw [c20b0]|(simp only [i64_w,i32_w];rw [c20b0])|skip)
     by_cases c21 : t497 = t491
     focus
      rw [if_pos c21] at H;have c21b0 : (t497 == t491) = true := beq_iff_eq.mpr c21;have c21b1 : (t497 != t491) = false := bne_eq_false_iff_eq.mpr c21;clear c21;have H' := aM H;clear H
     rotate_left
     focus
      rw [if_neg c21] at H;have c21b0 : (t497 == t491) = false := beq_eq_false_iff_ne.mpr c21;have c21b1 : (t497 != t491) = true := bne_iff_ne.mpr c21;have H' := aM H;clear H
    rotate_left 2
    focus
     rw [if_neg c20] at H;have c20b0 : (t496.toList == t490.toList) = false := beq_eq_false_iff_ne.mpr c20;have c20b1 : (t496.toList != t490.toList) = true := bne_iff_ne.mpr c20;(first|rw [c20b0]|(simp only [i64_w,i32_w];rw [c20b0])|skip);have H' := aM H;clear H
    all_goals
     go_wp2;go_meet
     case rel => first|(exact ⟨_,((t498 != t492)),(by first|rfl|(simp [*];done)),H',⟨by first|omega|exact Nat.le_refl _⟩,⟨by (with_reducible repeat (first|apply Kd.S_alloc|apply Kd.S_drewN|apply Kd.S_drew));exact Kd.S_mono HO495.out (fun _ hk => trivial)⟩,⟨by repeat (first|(with_reducible first|exact HB.out|apply lA|apply lN|apply lD)|exact HB.out)⟩⟩)|(exact ⟨_,(true),(by first|rfl|(simp [*];done)),H',⟨by first|omega|exact Nat.le_refl _⟩,⟨by (with_reducible repeat (first|apply Kd.S_alloc|apply Kd.S_drewN|apply Kd.S_drew));exact Kd.S_mono HO495.out (fun _ hk => trivial)⟩,⟨by repeat (first|(with_reducible first|exact HB.out|apply lA|apply lN|apply lD)|exact HB.out)⟩⟩)
   case rest =>
    clear HC12;(try clear c1);(try clear c2);(try clear p2);(try clear c4);(try clear c4b0);(try clear c4b1);(try clear c5);(try clear c6);(try clear c6b0);(try clear c16);(try clear c17);(try clear c18);(try clear c19);(try clear c20);(try clear c20b0);(try clear c20b1);(try clear c21);(try clear c21b0);(try clear c21b1);obtain ⟨kq,x54_11,rfl,HA,HJ11,HO_11,HB⟩ := hcut
    cases kq with
    | zero => exact absurd HA.out (by simp [laws_FnExactFallbackTerm.j0])
    | succ kj11 =>
     have H := HA.out;clear HA;simp only [laws_FnExactFallbackTerm.j0] at H
     by_cases c22 : x54_11 = true
     ·subst c22;rw [if_pos rfl] at H;exact absurd ((Option.some.inj H).trans hr_) (by decide)
     ·replace c22 := Bool.eq_false_iff.mpr c22;subst c22;rw [if_neg Bool.false_ne_true] at H;obtain ⟨t499,A23,H⟩ := bE_ H;obtain ⟨t502,A24,H⟩ := bE_ H
      by_cases c25 : t502 = true
      ·subst c25;rw [if_pos rfl] at H;obtain rfl := Option.some.inj H;(try clear hr_);go_wp2_with (first|((with_reducible refine gate_callee (f := 18) rfl ?_);refine goesL_ (some 57) rfl rfl Try.func18 (by kernel_rfl) rfl #[.slice A0 l0.length c0] rfl (by (try simp only [mT,mC,mN]);first|done|rfl|(simp only [xD,xT];rfl)) ?_;(with_reducible refine (laws_toLocaleS.calls kj11 _ _ l0 t499 _ ?side1 ?side2 A23.out).mono ?_);(case side1 => repeat (first|exact (cB HR0.out HB.out)|(with_reducible first|refine cA ?_ _|refine cN ?_ _|refine cD ?_)));(case side2 => exact HC0.out);rintro e w26 ⟨v500,rfl,ho0,hb⟩;refine ⟨_,rfl,?_⟩;have HO501 := aM (Kd.S_lower (Kd.S_new' ho0 (Kd.S_lt (by (with_reducible repeat first|apply Kd.S_alloc|apply Kd.S_drewN|apply Kd.S_drew);exact HO_11.out))) (lZ (by repeat (first|(with_reducible first|exact HB.out|apply lA|apply lN|apply lD)|exact HB.out))));replace HO_11 := aM (Kd.S_elder' (by (with_reducible repeat first|apply Kd.S_alloc|apply Kd.S_drewN|apply Kd.S_drew);exact HO_11.out) (Kd.S_base ho0) hb);replace HB := aM (lT (by repeat (first|(with_reducible first|exact HB.out|apply lA|apply lN|apply lD)|exact HB.out)) hb);(try clear hb);(try clear ho0);obtain ⟨Ao27,co27,eo27⟩ := Kd.S_slice HO501.out;subst eo27)|((with_reducible refine gate_callee (f := 20) rfl ?_);refine goesL_ (some 58) rfl rfl Try.func20 (by kernel_rfl) rfl #[.slice Ao18 t493.length co18,.slice Ao27 t499.length co27] rfl (by (try simp only [mT,mC,mN]);first|done|rfl|(simp only [xD,xT];rfl)) ?_;(with_reducible refine (laws_eqLocaleS.calls kj11 _ _ t493 _ _ t499 true _ ?side1 ?side2 ?side3 ?side4 A24.out).mono ?_);(case side1 => repeat (first|exact (Kd.S_reads' HO_11.out).2.2|(with_reducible first|refine cA ?_ _|refine cN ?_ _|refine cD ?_)));(case side2 => exact (Kd.S_reads' HO_11.out).2.1);(case side3 => repeat (first|exact (Kd.S_reads' HO501.out).2.2|(with_reducible first|refine cA ?_ _|refine cN ?_ _|refine cD ?_)));(case side4 => exact (Kd.S_reads' HO501.out).2.1);rintro e w28 ⟨rfl,hb⟩;refine ⟨_,rfl,?_⟩;replace HO_11 := aM (Kd.S_below (by (with_reducible repeat first|apply Kd.S_alloc|apply Kd.S_drewN|apply Kd.S_drew);exact HO_11.out) hb);replace HO501 := aM (Kd.S_below (by (with_reducible repeat first|apply Kd.S_alloc|apply Kd.S_drewN|apply Kd.S_drew);exact HO501.out) hb);replace HB := aM (lT (by repeat (first|(with_reducible first|exact HB.out|apply lA|apply lN|apply lD)|exact HB.out)) hb);(try clear hb)));go_ret;exact ⟨by first|rfl|(simp [*];done),by repeat (first|(with_reducible first|exact HB.out|apply lA|apply lN|apply lD)|exact HB.out)⟩
      ·replace c25 := Bool.eq_false_iff.mpr c25;subst c25;rw [if_neg Bool.false_ne_true] at H;exact absurd ((Option.some.inj H).trans hr_) (by decide)
def laws_FnExactFallbackTerm.Pure : Prop := ∀ (l0 : List (S25)) (a1 : ByteArray) (a2 : Int),(l0.length * 96 ≤ 140737488351232 ∧ l0.length ≤ maxLen ∧ ∀ a_ ∈ l0,B25 a_) → (a1.size ≤ 140737488351232) → ((Lit.int .i64 a2).wf = true) → ∃ k,laws_FnExactFallbackTerm.f k l0 a1 a2 = some true
def laws_szStringS.l0 : Nat → List ByteArray → Int → Int → Option (Int)
 | 0,_,_,_ => none
 | k + 1,x0,x1,x5 => if x5 < (x0.length : Int) then (if 0 ≤ x5 then (if (wrap64 (x1 - ((rdOf ByteArray.empty x0 x5).size : Int))) < 0 then (some (-1)) else (laws_szStringS.l0 k x0 (wrap64 (x1 - ((rdOf ByteArray.empty x0 x5).size : Int))) (wrap64 (x5 + 1)))) else (none)) else (some x1)
def laws_szStringS.f (k : Nat) (l0 : List ByteArray) (a1 : Int) : Option (Int) := if (wrap64 (a1 - (l0.length : Int))) < 0 then (some (-1)) else (laws_szStringS.l0 k l0 (wrap64 (a1 - (l0.length : Int))) 0)
theorem laws_szStringS.mono_l : ∀ k,(∀ y0 y1 y2,LeO (laws_szStringS.l0 k y0 y1 y2) (laws_szStringS.l0 (k + 1) y0 y1 y2))
 | 0 => fun _ _ _ r h => by simp [laws_szStringS.l0] at h
 | k + 1 => by
  have ih0 := laws_szStringS.mono_l k
  ·intro y0 y1 y2
   unfold laws_szStringS.l0
   repeat' first
   | (with_reducible exact ih0 _ _ _)
   | (with_reducible exact LeO.refl _)
   | (with_reducible exact LeO.none _)
   | (with_reducible refine LeO.ite ?_ ?_)
   | (with_reducible refine LeO.bind ?_ (fun _ => ?_))
   | exact ih0 _ _ _
   | exact LeO.none _
   | refine LeO.ite ?_ ?_
   | refine LeO.bind ?_ (fun _ => ?_)
theorem laws_szStringS.mono : ∀ a0 a1 k,LeO (laws_szStringS.f k a0 a1) (laws_szStringS.f (k + 1) a0 a1) := by
 intro a0 a1 k
 have ih0 := laws_szStringS.mono_l k
 unfold laws_szStringS.f
 repeat' first
   | (with_reducible exact ih0 _ _ _)
   | (with_reducible exact LeO.refl _)
   | (with_reducible exact LeO.none _)
   | (with_reducible refine LeO.ite ?_ ?_)
   | (with_reducible refine LeO.bind ?_ (fun _ => ?_))
   | exact ih0 _ _ _
   | exact LeO.none _
   | refine LeO.ite ?_ ?_
   | refine LeO.bind ?_ (fun _ => ?_)
set_option maxHeartbeats 8000000 in
set_option maxRecDepth 100000 in
theorem laws_szStringS.calls (k : Nat) (A0 : Option Addr) (c0 : Nat) (l0 : List ByteArray) (a1 : Int) (r : Int) (w : World) (hr0 : Kd.C Kd.string w A0 l0.length l0) (hc0 : l0.length ≤ c0) (h : laws_szStringS.f k l0 a1 = some r) :
  Calls Try.prog 27 #[.slice A0 l0.length c0,.int .i64 a1] w fun e w' => e = .returned (.int .i64 r) ∧ Drawn0 w w' := by
 have HR0 := aM hr0;have HC0 := aM hc0;clear hr0 hc0;have H : (if (wrap64 (a1 - (l0.length : Int))) < 0 then (some (-1)) else (laws_szStringS.l0 k l0 (wrap64 (a1 - (l0.length : Int))) 0)) = some r := h;clear h
 by_cases c3 : (wrap64 (a1 - (l0.length : Int))) < 0
 ·rw [if_pos c3] at H;have c3b0 : decide ((wrap64 (a1 - (l0.length : Int))) < 0) = true := dT c3;clear c3;obtain rfl := Option.some.inj H;simp only [eS,eP] at H;obtain ⟨rfl⟩ := H;go_enter Try.func27,Try.ntmps27;go_wp2;go_ret;exact ⟨by first|rfl|(simp [*];done),by repeat (first|exact Drawn0.refl _|apply Drawn0.step)⟩
 ·rw [if_neg c3] at H;have c3b0 : decide ((wrap64 (a1 - (l0.length : Int))) < 0) = false := dF c3;clear c3;have H' := aM H;clear H;go_enter Try.func27,Try.ntmps27;go_wp2;go_loopg [1,5] k (fun kq v1 v5 w' => ∃ (x1_1 : Int) (x5_1 : Int),v1 = .int .i64 x1_1 ∧ v5 = .int .i64 x5_1 ∧ Aside0 (laws_szStringS.l0 kq l0 x1_1 x5_1 = some r) ∧ Aside0 (kq ≤ k) ∧ Drawn0 w w')
  case atStart => exact ⟨(wrap64 (a1 - (l0.length : Int))),(0),(by first|rfl|(simp [*];done)),(by first|rfl|(simp [*];done)),H',⟨Nat.le_refl _⟩,by repeat (first|exact Drawn0.refl _|apply Drawn0.step)⟩
  case round =>
   clear H';(try clear c2);(try clear p2);(try clear c3);(try clear c3b0);obtain ⟨x1_1,x5_1,rfl,rfl,HA,HK1,⟨m1,rfl⟩⟩ := hrel
   cases gk with
   | zero => exact absurd HA.out (by simp [laws_szStringS.l0])
   | succ k1 =>
    have H := HA.out;clear HA;simp only [laws_szStringS.l0] at H
    by_cases c4 : x5_1 < (l0.length : Int)
    focus
     rw [if_pos c4] at H;have c4b0 : decide (x5_1 < (l0.length : Int)) = true := dT c4;clear c4
     by_cases c5 : 0 ≤ x5_1
     rotate_left;rw [if_neg c5] at H;exact absurd H (by simp);rw [if_pos c5] at H;have c5b0 : decide (0 ≤ x5_1) = true := dT c5;clear c5
     by_cases c6 : (wrap64 (x1_1 - ((rdOf ByteArray.empty l0 x5_1).size : Int))) < 0
     focus
      rw [if_pos c6] at H;have c6b0 : decide ((wrap64 (x1_1 - ((rdOf ByteArray.empty l0 x5_1).size : Int))) < 0) = true := dT c6;clear c6;obtain rfl := Option.some.inj H;simp only [eS,eP] at H;obtain ⟨rfl⟩ := H
     rotate_left
     focus
      rw [if_neg c6] at H;have c6b0 : decide ((wrap64 (x1_1 - ((rdOf ByteArray.empty l0 x5_1).size : Int))) < 0) = false := dF c6;clear c6;have H' := aM H;clear H
    rotate_left 2
    focus
     rw [if_neg c4] at H;have c4b0 : decide (x5_1 < (l0.length : Int)) = false := dF c4;clear c4;obtain rfl := Option.some.inj H;simp only [eS,eP] at H;obtain ⟨rfl⟩ := H
    all_goals
     (try (have p01 : 0 ≤ (x5_1 : Int) := oD (by assumption);have q01 : x5_1 < (l0.length : Int) := oD (by assumption);obtain ⟨ad01,e01,hx01_0⟩ := Kd.at_string HR0.out x5_1 p01 q01;cases e01;replace p01 := eq_true p01;replace q01 := eq_true q01));go_wp2
     first
      |
       go_ret;exact ⟨by first|rfl|(simp [*];done),by repeat (first|exact Drawn0.refl _|apply Drawn0.step)⟩
      |
       go_roundg k1
       case measure => have := HK1.out;omega
       case rel => exact ⟨(wrap64 (x1_1 - ((rdOf ByteArray.empty l0 x5_1).size : Int))),(wrap64 (x5_1 + 1)),(by first|rfl|(simp [*];done)),(by first|rfl|(simp [*];done)),H',⟨by have := HK1.out;omega⟩,by repeat (first|exact Drawn0.refl _|apply Drawn0.step)⟩
end Go.Proofs.Ytmkkcpdpfelalaa.P
