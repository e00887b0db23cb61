/- Written by a program in this session: each theorem here says that a Go function computes the Lean function beside it, or that a law's row holds, under the conditions that the theorem itself states. -/
import Derived.Test.YtmafmhgmdegplaaGreatDoorZPx0
import Derived.Test.YtmafmhgmdegplaaGreatDoorZPx24
namespace Go.Proofs.YtmafmhgmdegplaaGreatDoor.P
open Go.RowKit Go.Proofs.YtmafmhgmdegplaaGreatDoorW.PrintWords Go.Proofs.YtmafmhgmdegplaaGreatDoorW.PrintLast Go.Proofs.YtmafmhgmdegplaaGreatDoorW.PrintMore
attribute [local go_sem] max2_int min2_int max_two min_two max_three min_three max_four min_four   -- for this text's walks alone
set_option linter.unusedVariables false
set_option linter.unusedSimpArgs false
def laws_eqName.f (k : Nat) (l0_0 : List ByteArray) (a0_1 : ByteArray) (a0_2 : ByteArray) (a0_3 : ByteArray) (l1_0 : List ByteArray) (a1_1 : ByteArray) (a1_2 : ByteArray) (a1_3 : ByteArray) : Option (Bool) := (laws_eqStringS.f k l0_0 l1_0).bind fun t496 => (if t496 = true then (if a0_1.toList = a1_1.toList then (if a0_2.toList = a1_2.toList then (if a0_3.toList = a1_3.toList then (some true) else (some false)) else (some false)) else (some false)) else (some false))
theorem laws_eqName.mono : ∀ a0 a1 a2 a3 a4 a5 a6 a7 k,LeO (laws_eqName.f k a0 a1 a2 a3 a4 a5 a6 a7) (laws_eqName.f (k + 1) a0 a1 a2 a3 a4 a5 a6 a7) := by
 intro a0 a1 a2 a3 a4 a5 a6 a7 k
 unfold laws_eqName.f
 repeat' (first|with_reducible (first|exact laws_eqStringS.mono _ _ _|exact LeO.refl _|exact LeO.none _|refine LeO.ite ?_ ?_|refine LeO.bind ?_ (fun _ => ?_))|exact LeO.none _|refine LeO.ite ?_ ?_|refine LeO.bind ?_ (fun _ => ?_))
set_option maxHeartbeats 8000000 in
set_option maxRecDepth 100000 in
theorem laws_eqName.calls (k : Nat) (A0_0 : Option Addr) (c0_0 : Nat) (l0_0 : List ByteArray) (a0_1 : ByteArray) (a0_2 : ByteArray) (a0_3 : ByteArray) (A1_0 : Option Addr) (c1_0 : Nat) (l1_0 : List ByteArray) (a1_1 : ByteArray) (a1_2 : ByteArray) (a1_3 : ByteArray) (r : Bool) (w : World) (hr0_0 : Kd.C Kd.string w A0_0 l0_0.length l0_0) (hc0_0 : l0_0.length ≤ c0_0) (hr1_0 : Kd.C Kd.string w A1_0 l1_0.length l1_0) (hc1_0 : l1_0.length ≤ c1_0) (h : laws_eqName.f k l0_0 a0_1 a0_2 a0_3 l1_0 a1_1 a1_2 a1_3 = some r) :
  Calls Tryz.prog 132 #[.agg #[.slice A0_0 l0_0.length c0_0,.string a0_1,.string a0_2,.string a0_3],.agg #[.slice A1_0 l1_0.length c1_0,.string a1_1,.string a1_2,.string a1_3]] w fun e w' => e = .returned (.bool r) ∧ Below w.heap.size w w' := by
 have hu157 := Tryz.underlying157;have HR0_0 := aM hr0_0;have HC0_0 := aM hc0_0;clear hr0_0 hc0_0;have HR1_0 := aM hr1_0;have HC1_0 := aM hc1_0;clear hr1_0 hc1_0;have HB := aM (Below.refl w.heap.size w);have H : ((laws_eqStringS.f k l0_0 l1_0).bind fun t496 => (if t496 = true then (if a0_1.toList = a1_1.toList then (if a0_2.toList = a1_2.toList then (if a0_3.toList = a1_3.toList then (some true) else (some false)) else (some false)) else (some false)) else (some false))) = some r := h;clear h;obtain ⟨t496,A3,H⟩ := bE_ H
 by_cases c4 : t496 = true
 focus
  subst c4;rw [if_pos rfl] at H
  by_cases c5 : a0_1.toList = a1_1.toList
  focus
   rw [if_pos c5] at H;have c5b0 : (a0_1.toList == a1_1.toList) = true := beq_iff_eq.mpr c5;have c5b1 : (a0_1.toList != a1_1.toList) = false := bne_eq_false_iff_eq.mpr c5;clear c5
   by_cases c6 : a0_2.toList = a1_2.toList
   focus
    rw [if_pos c6] at H;have c6b0 : (a0_2.toList == a1_2.toList) = true := beq_iff_eq.mpr c6;have c6b1 : (a0_2.toList != a1_2.toList) = false := bne_eq_false_iff_eq.mpr c6;clear c6
    by_cases c7 : a0_3.toList = a1_3.toList
    focus
     rw [if_pos c7] at H;have c7b0 : (a0_3.toList == a1_3.toList) = true := beq_iff_eq.mpr c7;have c7b1 : (a0_3.toList != a1_3.toList) = false := bne_eq_false_iff_eq.mpr c7;clear c7;obtain rfl := Option.some.inj H;simp only [eS,eP] at H;obtain ⟨rfl⟩ := H
    rotate_left
    focus
     rw [if_neg c7] at H;have c7b0 : (a0_3.toList == a1_3.toList) = false := beq_eq_false_iff_ne.mpr c7;have c7b1 : (a0_3.toList != a1_3.toList) = true := bne_iff_ne.mpr c7;obtain rfl := Option.some.inj H;simp only [eS,eP] at H;obtain ⟨rfl⟩ := H
   rotate_left 2
   focus
    rw [if_neg c6] at H;have c6b0 : (a0_2.toList == a1_2.toList) = false := beq_eq_false_iff_ne.mpr c6;have c6b1 : (a0_2.toList != a1_2.toList) = true := bne_iff_ne.mpr c6;obtain rfl := Option.some.inj H;simp only [eS,eP] at H;obtain ⟨rfl⟩ := H
  rotate_left 3
  focus
   rw [if_neg c5] at H;have c5b0 : (a0_1.toList == a1_1.toList) = false := beq_eq_false_iff_ne.mpr c5;have c5b1 : (a0_1.toList != a1_1.toList) = true := bne_iff_ne.mpr c5;obtain rfl := Option.some.inj H;simp only [eS,eP] at H;obtain ⟨rfl⟩ := H
 rotate_left 4
 focus
  replace c4 := Bool.eq_false_iff.mpr c4;subst c4;rw [if_neg Bool.false_ne_true] at H;obtain rfl := Option.some.inj H;simp only [eS,eP] at H;obtain ⟨rfl⟩ := H
 all_goals
  go_enter Tryz.func132,Tryz.ntmps132;go_wp2_with (first|((with_reducible refine gate_dst (N := 2) rfl ?_);refine bx_ (N := 2) (cs := #[.slice A0_0 l0_0.length c0_0,.string a0_1,.string a0_2,.string a0_3]) (t := 157) ?_;intro gb494 hg Wgb494 hbox hb;have BK494 := aM (hbox);have GW494 := aM ((by rw [hg];exact (lZ wB_) : w.heap.size ≤ gb494));have GE494 := GW494;replace HB := aM (lT wB_ hb);clear hb hbox hg)|((with_reducible refine gate_dst (N := 3) rfl ?_);refine bx_ (N := 3) (cs := #[.slice A1_0 l1_0.length c1_0,.string a1_1,.string a1_2,.string a1_3]) (t := 157) ?_;intro gb495 hg Wgb495 hbox hb;have BK495 := aM (hbox);have GW495 := aM ((by rw [hg];exact (lZ wB_) : w.heap.size ≤ gb495));have GE495 := GW495;have NB494_495 := aM (nl_ hg BK494.out);have NB495_494 := aM (ng_ hg BK494.out);replace BK494 := aM (bw_ BK494.out hb);replace HB := aM (lT wB_ hb);clear hb hbox hg;have hnby494_495 := NB494_495.out;have hncy495_494 := NB495_494.out;obtain ⟨hcz495x494_0,hcz495x494_1,hcz495x494_2,hcz495x494_3,hfz495x494_0,hfz495x494_1,hfz495x494_2,hfz495x494_3⟩ := z4_ BK494.out;obtain ⟨hcz495x495_0,hcz495x495_1,hcz495x495_2,hcz495x495_3,hfz495x495_0,hfz495x495_1,hfz495x495_2,hfz495x495_3⟩ := z4_ BK495.out)|((with_reducible refine gate_callee (f := 21) rfl ?_);refine gl_ (some 9) Tryz.func21 #[.slice A0_0 l0_0.length c0_0,.slice A1_0 l1_0.length c1_0] ?_;(with_reducible refine (laws_eqStringS.calls _ _ _ _ _ _ _ _ _ ?side1 ?side2 ?side3 ?side4 A3.out).mono ?_);(case side1 => exact wX_ HR0_0.out);(case side2 => exact HC0_0.out);(case side3 => exact wX_ HR1_0.out);(case side4 => exact HC1_0.out);rintro e w' ⟨rfl,⟨nd,rfl⟩⟩;refine ⟨_,rfl,?_⟩));go_ret;exact ⟨vR_,wB_⟩
def laws_eqNameS.l0 : Nat → List (S157) → List (S157) → Int → Option (Bool)
 | 0,_,_,_ => none
 | k + 1,x0,x1,x5 => if x5 < (x0.length : Int) then (if 0 ≤ x5 then (if x5 < (x1.length : Int) then ((laws_eqName.f k ((rd_T157 x0 x5).f0) ((rd_T157 x0 x5).f1) ((rd_T157 x0 x5).f2) ((rd_T157 x0 x5).f3) ((rd_T157 x1 x5).f0) ((rd_T157 x1 x5).f1) ((rd_T157 x1 x5).f2) ((rd_T157 x1 x5).f3)).bind fun t499 => (if t499 = true then (laws_eqNameS.l0 k x0 x1 (wrap64 (x5 + 1))) else (some false))) else (none)) else (none)) else (some true)
def laws_eqNameS.f (k : Nat) (l0 : List (S157)) (l1 : List (S157)) : Option (Bool) := if (l0.length : Int) = (l1.length : Int) then (laws_eqNameS.l0 k l0 l1 0) else (some false)
theorem laws_eqNameS.mono_l : ∀ k,(∀ y0 y1 y2,LeO (laws_eqNameS.l0 k y0 y1 y2) (laws_eqNameS.l0 (k + 1) y0 y1 y2))
 | 0 => fun _ _ _ r h => by simp [laws_eqNameS.l0] at h
 | k + 1 => by
  have ih0 := laws_eqNameS.mono_l k
  ·intro y0 y1 y2
   unfold laws_eqNameS.l0
   repeat' (first|with_reducible (first|exact ih0 _ _ _|exact laws_eqName.mono _ _ _ _ _ _ _ _ _|exact LeO.refl _|exact LeO.none _|refine LeO.ite ?_ ?_|refine LeO.bind ?_ (fun _ => ?_))|exact LeO.none _|refine LeO.ite ?_ ?_|refine LeO.bind ?_ (fun _ => ?_))
theorem laws_eqNameS.mono : ∀ a0 a1 k,LeO (laws_eqNameS.f k a0 a1) (laws_eqNameS.f (k + 1) a0 a1) := by
 intro a0 a1 k
 have ih0 := laws_eqNameS.mono_l k
 unfold laws_eqNameS.f
 repeat' (first|with_reducible (first|exact ih0 _ _ _|exact laws_eqName.mono _ _ _ _ _ _ _ _ _|exact LeO.refl _|exact LeO.none _|refine LeO.ite ?_ ?_|refine LeO.bind ?_ (fun _ => ?_))|exact LeO.none _|refine LeO.ite ?_ ?_|refine LeO.bind ?_ (fun _ => ?_))
def laws_eqNameS.T6 : Bool × List (List Nat × List Nat) := (true,[([],[]),([],[]),([0,1],[0,1]),([2],[2]),([],[]),([],[]),([4,5],[4,5]),([6],[6]),([3,7],[3,7]),([8],[8])])
def laws_eqNameS.B6 : List Nat := [0,0,3,7,0,0,48,112,255,511]
theorem laws_eqNameS.tab6 : rtab .any (opsOf Tryz.f68 6) = laws_eqNameS.T6 := by kernel_rfl
theorem laws_eqNameS.bits6 : waitsOk laws_eqNameS.T6.2 laws_eqNameS.B6 = true := by kernel_rfl
set_option maxHeartbeats 8000000 in
set_option maxRecDepth 100000 in
theorem laws_eqNameS.calls (k : Nat) (A0 : Option Addr) (c0 : Nat) (l0 : List (S157)) (A1 : Option Addr) (c1 : Nat) (l1 : List (S157)) (r : Bool) (w : World) (hr0 : Kd.C k157 w A0 l0.length l0) (hc0 : l0.length ≤ c0) (hr1 : Kd.C k157 w A1 l1.length l1) (hc1 : l1.length ≤ c1) (h : laws_eqNameS.f k l0 l1 = some r) :
  Calls Tryz.prog 68 #[.slice A0 l0.length c0,.slice A1 l1.length c1] w fun e w' => e = .returned (.bool r) ∧ Below w.heap.size w w' := by
 have hu157 := Tryz.underlying157;have HR0 := aM hr0;have HC0 := aM hc0;clear hr0 hc0;have HR1 := aM hr1;have HC1 := aM hc1;clear hr1 hc1;have HB := aM (Below.refl w.heap.size w);have H : (if (l0.length : Int) = (l1.length : Int) then (laws_eqNameS.l0 k l0 l1 0) else (some false)) = some r := h;clear h
 by_cases c3 : (l0.length : Int) = (l1.length : Int)
 ·rw [if_pos c3] at H;have c3b0 : ((l0.length : Int) == (l1.length : Int)) = true := beq_iff_eq.mpr c3;have c3b1 : ((l0.length : Int) != (l1.length : Int)) = false := bne_eq_false_iff_eq.mpr c3;have c3b2 : (l0.length == l1.length) = true := (by first|simpa using c3|(simp at c3 ⊢;omega));clear c3;have H' := aM H;clear H;go_enter Tryz.func68,Tryz.ntmps68;go_wp2;go_loopg [5] k (fun kq v5 w' => ∃ (x5_1 : Int),v5 = .int .i64 x5_1 ∧ Aside0 (laws_eqNameS.l0 kq l0 l1 x5_1 = some r) ∧ Aside0 (kq ≤ k) ∧ Aside0 (Below w.heap.size w w'))
  case atStart => exact ⟨(0),vR_,H',⟨Nat.le_refl _⟩,⟨wB_⟩⟩
  case round =>
   clear H';obtain ⟨x5_1,rfl,HA,HK1,HB⟩ := hrel
   cases gk with
   | zero => exact absurd HA.out (by simp [laws_eqNameS.l0])
   | succ k1 =>
    have H := HA.out;clear HA;simp only [laws_eqNameS.l0] at H
    by_cases c4 : x5_1 < (l0.length : Int)
    focus
     rw [if_pos c4] at H;have c4b0 : decide (x5_1 < (l0.length : Int)) = true := dT c4;clear c4
     by_cases c5 : 0 ≤ x5_1
     rotate_left;rw [if_neg c5] at H;exact absurd H (by simp);rw [if_pos c5] at H;have c5b0 : decide (0 ≤ x5_1) = true := dT c5;clear c5
     by_cases c6 : x5_1 < (l1.length : Int)
     rotate_left;rw [if_neg c6] at H;exact absurd H (by simp);rw [if_pos c6] at H;have c6b0 : decide (x5_1 < (l1.length : Int)) = true := dT c6;clear c6;obtain ⟨t499,A7,H⟩ := bE_ H
     by_cases c8 : t499 = true
     focus
      subst c8;rw [if_pos rfl] at H;have H' := aM H;clear H
     rotate_left
     focus
      replace c8 := Bool.eq_false_iff.mpr c8;subst c8;rw [if_neg Bool.false_ne_true] at H;obtain rfl := Option.some.inj H;simp only [eS,eP] at H;obtain ⟨rfl⟩ := H
    rotate_left 2
    focus
     rw [if_neg c4] at H;have c4b0 : decide (x5_1 < (l0.length : Int)) = false := dF c4;clear c4;obtain rfl := Option.some.inj H;simp only [eS,eP] at H;obtain ⟨rfl⟩ := H
    all_goals
     (try go_wp2)
     first
      |
       go_ret;exact ⟨vR_,wB_⟩
      |
       replace HB := aM (lD HB.out);have p01 : 0 ≤ (x5_1 : Int) := oD (by assumption);have q01 : x5_1 < (l0.length : Int) := oD (by assumption);obtain ⟨ad01,A01_0,c01_0,e01,hx01_0,hx01_1,hx01_2,hx01_3,hl01_0,hi01_0⟩ := at_T157 HR0.out x5_1 p01 q01;have hw01_3 := hx01_3;have hw01_2 := hx01_2;have hw01_1 := hx01_1;have hw01_0 := hx01_0;cases e01;replace hx01_0 := (HB.out.cell (wB w _ hx01_0)).trans hx01_0;replace hx01_1 := (HB.out.cell (wB w _ hx01_1)).trans hx01_1;replace hx01_2 := (HB.out.cell (wB w _ hx01_2)).trans hx01_2;replace hx01_3 := (HB.out.cell (wB w _ hx01_3)).trans hx01_3;have HR01_0 := aM hi01_0;have HC01_0 := aM hl01_0;clear hi01_0 hl01_0;replace p01 := eq_true p01;replace q01 := eq_true q01;have p02 : 0 ≤ (x5_1 : Int) := oD (by assumption);have q02 : x5_1 < (l1.length : Int) := oD (by assumption);obtain ⟨ad02,A02_0,c02_0,e02,hx02_0,hx02_1,hx02_2,hx02_3,hl02_0,hi02_0⟩ := at_T157 HR1.out x5_1 p02 q02;have hw02_3 := hx02_3;have hw02_2 := hx02_2;have hw02_1 := hx02_1;have hw02_0 := hx02_0;cases e02;replace hx02_0 := (HB.out.cell (wB w _ hx02_0)).trans hx02_0;replace hx02_1 := (HB.out.cell (wB w _ hx02_1)).trans hx02_1;replace hx02_2 := (HB.out.cell (wB w _ hx02_2)).trans hx02_2;replace hx02_3 := (HB.out.cell (wB w _ hx02_3)).trans hx02_3;have HR02_0 := aM hi02_0;have HC02_0 := aM hl02_0;clear hi02_0 hl02_0;replace p02 := eq_true p02;replace q02 := eq_true q02;refine start_ (n := 10) (S := fun w' => w'.cell? (ad01.add ((x5_1).toNat * 4)) = some (.slice A01_0 ((rd_T157 l0 x5_1).f0).length c01_0) ∧ w'.cell? ⟨(ad01.add ((x5_1).toNat * 4)).block,(ad01.add ((x5_1).toNat * 4)).off + 1,none⟩ = some (.string ((rd_T157 l0 x5_1).f1)) ∧ w'.cell? ⟨(ad01.add ((x5_1).toNat * 4)).block,(ad01.add ((x5_1).toNat * 4)).off + 2,none⟩ = some (.string ((rd_T157 l0 x5_1).f2)) ∧ w'.cell? ⟨(ad01.add ((x5_1).toNat * 4)).block,(ad01.add ((x5_1).toNat * 4)).off + 3,none⟩ = some (.string ((rd_T157 l0 x5_1).f3)) ∧ w'.cell? (ad02.add ((x5_1).toNat * 4)) = some (.slice A02_0 ((rd_T157 l1 x5_1).f0).length c02_0) ∧ w'.cell? ⟨(ad02.add ((x5_1).toNat * 4)).block,(ad02.add ((x5_1).toNat * 4)).off + 1,none⟩ = some (.string ((rd_T157 l1 x5_1).f1)) ∧ w'.cell? ⟨(ad02.add ((x5_1).toNat * 4)).block,(ad02.add ((x5_1).toNat * 4)).off + 2,none⟩ = some (.string ((rd_T157 l1 x5_1).f2)) ∧ w'.cell? ⟨(ad02.add ((x5_1).toNat * 4)).block,(ad02.add ((x5_1).toNat * 4)).off + 3,none⟩ = some (.string ((rd_T157 l1 x5_1).f3))) (ds := []) (mk_ 10 0) (by kernel_rfl) rfl (by kernel_rfl) ⟨((HB.out.cell (wB w _ hw01_0)).trans hw01_0),((HB.out.cell (wB w _ hw01_1)).trans hw01_1),((HB.out.cell (wB w _ hw01_2)).trans hw01_2),((HB.out.cell (wB w _ hw01_3)).trans hw01_3),((HB.out.cell (wB w _ hw02_0)).trans hw02_0),((HB.out.cell (wB w _ hw02_1)).trans hw02_1),((HB.out.cell (wB w _ hw02_2)).trans hw02_2),((HB.out.cell (wB w _ hw02_3)).trans hw02_3)⟩ (fun hHeld => ?_);refine with_tabW laws_eqNameS.tab6 laws_eqNameS.bits6 (fun HT_ HW_ => ?_);generalize wr.drew = wk0 at HB HR01_0 HR02_0 hx01_0 hx01_1 hx01_2 hx01_3 hx02_0 hx02_1 hx02_2 hx02_3 hHeld ⊢;refine pure_ (i := 0) (N := some 17) (v := ?_) (a' := ?_) (mk_ 10 1) rfl rfl (any_of HT_.out (by kernel_rfl)) (fun _ _ _ h => h) (Or.inl ⟨by rfl,?_⟩) ?_ ?_;rotate_left;intro w';go_simp;(with_reducible rfl);rotate_left;simp only [Act.put,lI,sZ,sS,i64_w,i32_w];rfl;refine pure_ (i := 1) (N := some 18) (v := ?_) (a' := ?_) (mk_ 10 3) rfl rfl (any_of HT_.out (by kernel_rfl)) (fun _ _ _ h => h) (Or.inl ⟨by rfl,?_⟩) ?_ ?_;rotate_left;intro w';go_simp;(with_reducible rfl);rotate_left;simp only [Act.put,lI,sZ,sS,i64_w,i32_w];rfl;refine pure_ (i := 2) (N := some 19) (v := ?_) (a' := ?_) (mk_ 10 7) rfl rfl (any_of HT_.out (by kernel_rfl)) (fun _ _ _ h => h) (Or.inl ⟨by rfl,?_⟩) ?_ ?_;rotate_left;intro w';go_simp;(with_reducible rfl);rotate_left;simp only [Act.put,lI,sZ,sS,i64_w,i32_w];rfl;refine pure_ (i := 4) (N := some 21) (v := ?_) (a' := ?_) (mk_ 10 23) rfl rfl (any_of HT_.out (by kernel_rfl)) (fun _ _ _ h => h) (Or.inl ⟨by rfl,?_⟩) ?_ ?_;rotate_left;intro w';go_simp;(with_reducible rfl);rotate_left;simp only [Act.put,lI,sZ,sS,i64_w,i32_w];rfl;refine pure_ (i := 5) (N := some 22) (v := ?_) (a' := ?_) (mk_ 10 55) rfl rfl (any_of HT_.out (by kernel_rfl)) (fun _ _ _ h => h) (Or.inl ⟨by rfl,?_⟩) ?_ ?_;rotate_left;intro w';go_simp;(with_reducible rfl);rotate_left;simp only [Act.put,lI,sZ,sS,i64_w,i32_w];rfl;refine pure_ (i := 6) (N := some 23) (v := ?_) (a' := ?_) (mk_ 10 119) rfl rfl (any_of HT_.out (by kernel_rfl)) (fun _ _ _ h => h) (Or.inl ⟨by rfl,?_⟩) ?_ ?_;rotate_left;intro w';go_simp;(with_reducible rfl);rotate_left;simp only [Act.put,lI,sZ,sS,i64_w,i32_w];rfl;refine take_ (i := 3) (N := some 20) (v := ?_) (a' := ?_) (mk_ 10 127) rfl rfl (take_ofW HT_.out HW_.out (by kernel_rfl)) (fun _ _ _ h => h) (Or.inl ⟨by rfl,?_⟩) hHeld ?_ ?_;rotate_left;rintro w' ⟨s0,s1,s2,s3,s4,s5,s6,s7⟩;go_simp;(with_reducible rfl);rotate_left;simp only [Act.put,lI,sZ,sS,i64_w,i32_w];rfl;refine take_ (i := 7) (N := some 24) (v := ?_) (a' := ?_) (mk_ 10 255) rfl rfl (take_ofW HT_.out HW_.out (by kernel_rfl)) (fun _ _ _ h => h) (Or.inl ⟨by rfl,?_⟩) hHeld ?_ ?_;rotate_left;rintro w' ⟨s0,s1,s2,s3,s4,s5,s6,s7⟩;go_simp;(with_reducible rfl);rotate_left;simp only [Act.put,lI,sZ,sS,i64_w,i32_w];rfl;refine one_ (i := 8) (N := some 25) (mk_ 10 511) rfl rfl (one_of HT_.out (by kernel_rfl)) (by decide) (fun K hK => ?_);refine gs_ Tryz.func132 #[.agg #[.slice A01_0 ((rd_T157 l0 x5_1).f0).length c01_0,.string ((rd_T157 l0 x5_1).f1),.string ((rd_T157 l0 x5_1).f2),.string ((rd_T157 l0 x5_1).f3)],.agg #[.slice A02_0 ((rd_T157 l1 x5_1).f0).length c02_0,.string ((rd_T157 l1 x5_1).f1),.string ((rd_T157 l1 x5_1).f2),.string ((rd_T157 l1 x5_1).f3)]] ?_;(with_reducible refine (laws_eqName.calls _ _ _ _ _ _ _ _ _ _ _ _ _ _ _ ?side1 ?side2 ?side3 ?side4 A7.out).mono ?_);(case side1 => exact wX_ HR01_0.out);(case side2 => exact HC01_0.out);(case side3 => exact wX_ HR02_0.out);(case side4 => exact HC02_0.out);rintro e wk1 ⟨rfl,hb⟩;refine ⟨_,rfl,?_⟩;replace HB := aM (lT wB_ hb);refine hK.out _ _ ⟨((HB.out.cell (wB w _ hw01_0)).trans hw01_0),((HB.out.cell (wB w _ hw01_1)).trans hw01_1),((HB.out.cell (wB w _ hw01_2)).trans hw01_2),((HB.out.cell (wB w _ hw01_3)).trans hw01_3),((HB.out.cell (wB w _ hw02_0)).trans hw02_0),((HB.out.cell (wB w _ hw02_1)).trans hw02_1),((HB.out.cell (wB w _ hw02_2)).trans hw02_2),((HB.out.cell (wB w _ hw02_3)).trans hw02_3)⟩ (fun hHeld => ?_);clear hK K;refine norm_ (a' := ?_) ?_ ?_;rotate_left;show Act.put _ (some 25) _ = _;simp only [Act.put,lI,sZ,sS,i64_w,i32_w];rfl;refine pure_ (i := 9) (N := some 26) (v := ?_) (a' := ?_) (mk_ 10 1023) rfl rfl (any_of HT_.out (by kernel_rfl)) (fun _ _ _ h => h) (Or.inl ⟨by rfl,?_⟩) ?_ ?_;rotate_left;intro w';go_simp;(with_reducible rfl);rotate_left;simp only [Act.put,lI,sZ,sS,i64_w,i32_w];rfl;refine done_ (done_of HT_.out (by kernel_rfl)) ?_;(try go_wp2)
       first
        |
         go_ret;exact ⟨vR_,wB_⟩
        |
         go_roundg k1
         case measure => have := HK1.out;omega
         case rel => exact ⟨(wrap64 (x5_1 + 1)),vR_,H',⟨by have := HK1.out;omega⟩,⟨wB_⟩⟩
 ·rw [if_neg c3] at H;have c3b0 : ((l0.length : Int) == (l1.length : Int)) = false := beq_eq_false_iff_ne.mpr c3;have c3b1 : ((l0.length : Int) != (l1.length : Int)) = true := bne_iff_ne.mpr c3;have c3b2 : (l0.length == l1.length) = false := (by first|simpa using c3|(simp at c3 ⊢;omega));obtain rfl := Option.some.inj H;simp only [eS,eP] at H;obtain ⟨rfl⟩ := H;go_enter Tryz.func68,Tryz.ntmps68;go_wp2;go_ret;exact ⟨vR_,wB_⟩
def laws_eqDate.f (a0_0 : Int) (a0_1 : Int) (a0_2 : Int) (a0_3 : Bool) (a1_0 : Int) (a1_1 : Int) (a1_2 : Int) (a1_3 : Bool) : Option (Bool) := if a0_0 = a1_0 then (if a0_1 = a1_1 then (if a0_2 = a1_2 then (if (a0_3 != a1_3) = true then (some false) else (some true)) else (some false)) else (some false)) else (some false)
set_option maxHeartbeats 8000000 in
set_option maxRecDepth 100000 in
theorem laws_eqDate.calls (a0_0 : Int) (a0_1 : Int) (a0_2 : Int) (a0_3 : Bool) (a1_0 : Int) (a1_1 : Int) (a1_2 : Int) (a1_3 : Bool) (r : Bool) (w : World) (h : laws_eqDate.f a0_0 a0_1 a0_2 a0_3 a1_0 a1_1 a1_2 a1_3 = some r) :
  Calls Tryz.prog 69 #[.agg #[.int .i64 a0_0,.int .i64 a0_1,.int .i64 a0_2,.bool a0_3],.agg #[.int .i64 a1_0,.int .i64 a1_1,.int .i64 a1_2,.bool a1_3]] w fun e w' => e = .returned (.bool r) ∧ Below w.heap.size w w' := by
 have hu39 := Tryz.underlying39;have HB := aM (Below.refl w.heap.size w);have H : (if a0_0 = a1_0 then (if a0_1 = a1_1 then (if a0_2 = a1_2 then (if (a0_3 != a1_3) = true then (some false) else (some true)) else (some false)) else (some false)) else (some false)) = some r := h;clear h
 by_cases c3 : a0_0 = a1_0
 focus
  rw [if_pos c3] at H;have c3b0 : (a0_0 == a1_0) = true := beq_iff_eq.mpr c3;have c3b1 : (a0_0 != a1_0) = false := bne_eq_false_iff_eq.mpr c3;clear c3
  by_cases c4 : a0_1 = a1_1
  focus
   rw [if_pos c4] at H;have c4b0 : (a0_1 == a1_1) = true := beq_iff_eq.mpr c4;have c4b1 : (a0_1 != a1_1) = false := bne_eq_false_iff_eq.mpr c4;clear c4
   by_cases c5 : a0_2 = a1_2
   focus
    rw [if_pos c5] at H;have c5b0 : (a0_2 == a1_2) = true := beq_iff_eq.mpr c5;have c5b1 : (a0_2 != a1_2) = false := bne_eq_false_iff_eq.mpr c5;clear c5
    by_cases c6 : (a0_3 != a1_3) = true
    focus
     rw [if_pos c6] at H;have c6b0 : (a0_3 != a1_3) = true := c6;(try (have c6b1 : decide (a0_3 = a1_3) = false := by simpa using c6));(try (have c6b2 : (a0_3 == a1_3) = false := by simpa using c6));(try (have c6b3 : ¬ (a0_3 = a1_3) := by simpa using c6));clear c6;obtain rfl := Option.some.inj H;simp only [eS,eP] at H;obtain ⟨rfl⟩ := H
    rotate_left
    focus
     rw [if_neg c6] at H;have c6b0 : (a0_3 != a1_3) = false := (by simpa using c6);(try (have c6b1 : decide (a0_3 = a1_3) = true := by simpa using c6));(try (have c6b2 : (a0_3 == a1_3) = true := by simpa using c6));clear c6;obtain rfl := Option.some.inj H;simp only [eS,eP] at H;obtain ⟨rfl⟩ := H
   rotate_left 2
   focus
    rw [if_neg c5] at H;have c5b0 : (a0_2 == a1_2) = false := beq_eq_false_iff_ne.mpr c5;have c5b1 : (a0_2 != a1_2) = true := bne_iff_ne.mpr c5;obtain rfl := Option.some.inj H;simp only [eS,eP] at H;obtain ⟨rfl⟩ := H
  rotate_left 3
  focus
   rw [if_neg c4] at H;have c4b0 : (a0_1 == a1_1) = false := beq_eq_false_iff_ne.mpr c4;have c4b1 : (a0_1 != a1_1) = true := bne_iff_ne.mpr c4;obtain rfl := Option.some.inj H;simp only [eS,eP] at H;obtain ⟨rfl⟩ := H
 rotate_left 4
 focus
  rw [if_neg c3] at H;have c3b0 : (a0_0 == a1_0) = false := beq_eq_false_iff_ne.mpr c3;have c3b1 : (a0_0 != a1_0) = true := bne_iff_ne.mpr c3;obtain rfl := Option.some.inj H;simp only [eS,eP] at H;obtain ⟨rfl⟩ := H
 all_goals
  go_enter Tryz.func69,Tryz.ntmps69;go_wp2_with (first|((with_reducible refine gate_dst (N := 2) rfl ?_);refine bx_ (N := 2) (cs := #[.int .i64 a0_0,.int .i64 a0_1,.int .i64 a0_2,.bool a0_3]) (t := 39) ?_;intro gb500 hg Wgb500 hbox hb;have BK500 := aM (hbox);have GW500 := aM ((by rw [hg];exact (lZ wB_) : w.heap.size ≤ gb500));have GE500 := GW500;replace HB := aM (lT wB_ hb);clear hb hbox hg)|((with_reducible refine gate_dst (N := 3) rfl ?_);refine bx_ (N := 3) (cs := #[.int .i64 a1_0,.int .i64 a1_1,.int .i64 a1_2,.bool a1_3]) (t := 39) ?_;intro gb501 hg Wgb501 hbox hb;have BK501 := aM (hbox);have GW501 := aM ((by rw [hg];exact (lZ wB_) : w.heap.size ≤ gb501));have GE501 := GW501;have NB500_501 := aM (nl_ hg BK500.out);have NB501_500 := aM (ng_ hg BK500.out);replace BK500 := aM (bw_ BK500.out hb);replace HB := aM (lT wB_ hb);clear hb hbox hg;have hnby500_501 := NB500_501.out;have hncy501_500 := NB501_500.out;obtain ⟨hcz501x500_0,hcz501x500_1,hcz501x500_2,hcz501x500_3,hfz501x500_0,hfz501x500_1,hfz501x500_2,hfz501x500_3⟩ := z4_ BK500.out;obtain ⟨hcz501x501_0,hcz501x501_1,hcz501x501_2,hcz501x501_3,hfz501x501_0,hfz501x501_1,hfz501x501_2,hfz501x501_3⟩ := z4_ BK501.out));go_ret;exact ⟨vR_,wB_⟩
def laws_eqEntry.f (k : Nat) (a0_0 : ByteArray) (a0_1 : Int) (l0_2 : List (S157)) (l0_3 : List (S157)) (a0_4 : ByteArray) (a0_5 : ByteArray) (a0_6 : ByteArray) (a0_7 : Int) (a0_8 : Int) (a0_9 : Int) (a0_10 : Bool) (a0_11 : Int) (a0_12 : ByteArray) (a0_13 : ByteArray) (a1_0 : ByteArray) (a1_1 : Int) (l1_2 : List (S157)) (l1_3 : List (S157)) (a1_4 : ByteArray) (a1_5 : ByteArray) (a1_6 : ByteArray) (a1_7 : Int) (a1_8 : Int) (a1_9 : Int) (a1_10 : Bool) (a1_11 : Int) (a1_12 : ByteArray) (a1_13 : ByteArray) : Option (Bool) := if a0_0.toList = a1_0.toList then (if a0_1 = a1_1 then ((laws_eqNameS.f k l0_2 l1_2).bind fun t504 => (if t504 = true then ((laws_eqNameS.f k l0_3 l1_3).bind fun t505 => (if t505 = true then (if a0_4.toList = a1_4.toList then (if a0_5.toList = a1_5.toList then (if a0_6.toList = a1_6.toList then ((laws_eqDate.f a0_7 a0_8 a0_9 a0_10 a1_7 a1_8 a1_9 a1_10).bind fun t506 => (if t506 = true then (if a0_11 = a1_11 then (if a0_12.toList = a1_12.toList then (if a0_13.toList = a1_13.toList then (some true) else (some false)) else (some false)) else (some false)) else (some false))) else (some false)) else (some false)) else (some false)) else (some false))) else (some false))) else (some false)) else (some false)
theorem laws_eqEntry.mono : ∀ a0 a1 a2 a3 a4 a5 a6 a7 a8 a9 a10 a11 a12 a13 a14 a15 a16 a17 a18 a19 a20 a21 a22 a23 a24 a25 a26 a27 k,LeO (laws_eqEntry.f k a0 a1 a2 a3 a4 a5 a6 a7 a8 a9 a10 a11 a12 a13 a14 a15 a16 a17 a18 a19 a20 a21 a22 a23 a24 a25 a26 a27) (laws_eqEntry.f (k + 1) a0 a1 a2 a3 a4 a5 a6 a7 a8 a9 a10 a11 a12 a13 a14 a15 a16 a17 a18 a19 a20 a21 a22 a23 a24 a25 a26 a27) := by
 intro a0 a1 a2 a3 a4 a5 a6 a7 a8 a9 a10 a11 a12 a13 a14 a15 a16 a17 a18 a19 a20 a21 a22 a23 a24 a25 a26 a27 k
 unfold laws_eqEntry.f
 repeat' (first|with_reducible (first|exact laws_eqNameS.mono _ _ _|exact LeO.refl _|exact LeO.none _|refine LeO.ite ?_ ?_|refine LeO.bind ?_ (fun _ => ?_))|exact LeO.none _|refine LeO.ite ?_ ?_|refine LeO.bind ?_ (fun _ => ?_))
set_option maxHeartbeats 8000000 in
set_option maxRecDepth 100000 in
theorem laws_eqEntry.calls (k : Nat) (a0_0 : ByteArray) (a0_1 : Int) (A0_2 : Option Addr) (c0_2 : Nat) (l0_2 : List (S157)) (A0_3 : Option Addr) (c0_3 : Nat) (l0_3 : List (S157)) (a0_4 : ByteArray) (a0_5 : ByteArray) (a0_6 : ByteArray) (a0_7 : Int) (a0_8 : Int) (a0_9 : Int) (a0_10 : Bool) (a0_11 : Int) (a0_12 : ByteArray) (a0_13 : ByteArray) (a1_0 : ByteArray) (a1_1 : Int) (A1_2 : Option Addr) (c1_2 : Nat) (l1_2 : List (S157)) (A1_3 : Option Addr) (c1_3 : Nat) (l1_3 : List (S157)) (a1_4 : ByteArray) (a1_5 : ByteArray) (a1_6 : ByteArray) (a1_7 : Int) (a1_8 : Int) (a1_9 : Int) (a1_10 : Bool) (a1_11 : Int) (a1_12 : ByteArray) (a1_13 : ByteArray) (r : Bool) (w : World) (hr0_2 : Kd.C k157 w A0_2 l0_2.length l0_2) (hc0_2 : l0_2.length ≤ c0_2) (hr0_3 : Kd.C k157 w A0_3 l0_3.length l0_3) (hc0_3 : l0_3.length ≤ c0_3) (hr1_2 : Kd.C k157 w A1_2 l1_2.length l1_2) (hc1_2 : l1_2.length ≤ c1_2) (hr1_3 : Kd.C k157 w A1_3 l1_3.length l1_3) (hc1_3 : l1_3.length ≤ c1_3) (h : laws_eqEntry.f k a0_0 a0_1 l0_2 l0_3 a0_4 a0_5 a0_6 a0_7 a0_8 a0_9 a0_10 a0_11 a0_12 a0_13 a1_0 a1_1 l1_2 l1_3 a1_4 a1_5 a1_6 a1_7 a1_8 a1_9 a1_10 a1_11 a1_12 a1_13 = some r) :
  Calls Tryz.prog 16 #[.agg #[.string a0_0,.int .i64 a0_1,.slice A0_2 l0_2.length c0_2,.slice A0_3 l0_3.length c0_3,.string a0_4,.string a0_5,.string a0_6,.int .i64 a0_7,.int .i64 a0_8,.int .i64 a0_9,.bool a0_10,.int .i64 a0_11,.string a0_12,.string a0_13],.agg #[.string a1_0,.int .i64 a1_1,.slice A1_2 l1_2.length c1_2,.slice A1_3 l1_3.length c1_3,.string a1_4,.string a1_5,.string a1_6,.int .i64 a1_7,.int .i64 a1_8,.int .i64 a1_9,.bool a1_10,.int .i64 a1_11,.string a1_12,.string a1_13]] w fun e w' => e = .returned (.bool r) ∧ Below w.heap.size w w' := by
 have hu41 := Tryz.underlying41;have hu39 := Tryz.underlying39;have af := aM hr0_2;have ag := aM hc0_2;clear hr0_2 hc0_2;have ah := aM hr0_3;have ai := aM hc0_3;clear hr0_3 hc0_3;have aj := aM hr1_2;have ak := aM hc1_2;clear hr1_2 hc1_2;have al := aM hr1_3;have am := aM hc1_3;clear hr1_3 hc1_3;have HB := aM (Below.refl w.heap.size w);have H : (if a0_0.toList = a1_0.toList then (if a0_1 = a1_1 then ((laws_eqNameS.f k l0_2 l1_2).bind fun t504 => (if t504 = true then ((laws_eqNameS.f k l0_3 l1_3).bind fun t505 => (if t505 = true then (if a0_4.toList = a1_4.toList then (if a0_5.toList = a1_5.toList then (if a0_6.toList = a1_6.toList then ((laws_eqDate.f a0_7 a0_8 a0_9 a0_10 a1_7 a1_8 a1_9 a1_10).bind fun t506 => (if t506 = true then (if a0_11 = a1_11 then (if a0_12.toList = a1_12.toList then (if a0_13.toList = a1_13.toList then (some true) else (some false)) else (some false)) else (some false)) else (some false))) else (some false)) else (some false)) else (some false)) else (some false))) else (some false))) else (some false)) else (some false)) = some r := h;clear h
 by_cases c3 : a0_0.toList = a1_0.toList
 focus
  rw [if_pos c3] at H;have c3b0 : (a0_0.toList == a1_0.toList) = true := beq_iff_eq.mpr c3;have c3b1 : (a0_0.toList != a1_0.toList) = false := bne_eq_false_iff_eq.mpr c3;clear c3
  by_cases c4 : a0_1 = a1_1
  focus
   rw [if_pos c4] at H;have c4b0 : (a0_1 == a1_1) = true := beq_iff_eq.mpr c4;have c4b1 : (a0_1 != a1_1) = false := bne_eq_false_iff_eq.mpr c4;clear c4;obtain ⟨t504,A5,H⟩ := bE_ H
   by_cases c6 : t504 = true
   focus
    subst c6;rw [if_pos rfl] at H;obtain ⟨t505,A7,H⟩ := bE_ H
    by_cases c8 : t505 = true
    focus
     subst c8;rw [if_pos rfl] at H
     by_cases c9 : a0_4.toList = a1_4.toList
     focus
      rw [if_pos c9] at H;have aF : (a0_4.toList == a1_4.toList) = true := beq_iff_eq.mpr c9;have aG : (a0_4.toList != a1_4.toList) = false := bne_eq_false_iff_eq.mpr c9;clear c9
      by_cases c10 : a0_5.toList = a1_5.toList
      focus
       rw [if_pos c10] at H;have an : (a0_5.toList == a1_5.toList) = true := beq_iff_eq.mpr c10;have ap : (a0_5.toList != a1_5.toList) = false := bne_eq_false_iff_eq.mpr c10;clear c10
       by_cases c11 : a0_6.toList = a1_6.toList
       focus
        rw [if_pos c11] at H;have ar : (a0_6.toList == a1_6.toList) = true := beq_iff_eq.mpr c11;have au : (a0_6.toList != a1_6.toList) = false := bne_eq_false_iff_eq.mpr c11;clear c11;obtain ⟨t506,A12,H⟩ := bE_ H
        by_cases c13 : t506 = true
        focus
         subst c13;rw [if_pos rfl] at H
         by_cases c14 : a0_11 = a1_11
         focus
          rw [if_pos c14] at H;have av : (a0_11 == a1_11) = true := beq_iff_eq.mpr c14;have aw : (a0_11 != a1_11) = false := bne_eq_false_iff_eq.mpr c14;clear c14
          by_cases c15 : a0_12.toList = a1_12.toList
          focus
           rw [if_pos c15] at H;have ax : (a0_12.toList == a1_12.toList) = true := beq_iff_eq.mpr c15;have ay : (a0_12.toList != a1_12.toList) = false := bne_eq_false_iff_eq.mpr c15;clear c15
           by_cases c16 : a0_13.toList = a1_13.toList
           focus
            rw [if_pos c16] at H;have az : (a0_13.toList == a1_13.toList) = true := beq_iff_eq.mpr c16;have aA : (a0_13.toList != a1_13.toList) = false := bne_eq_false_iff_eq.mpr c16;clear c16;obtain rfl := Option.some.inj H;simp only [eS,eP] at H;obtain ⟨rfl⟩ := H
           rotate_left
           focus
            rw [if_neg c16] at H;have az : (a0_13.toList == a1_13.toList) = false := beq_eq_false_iff_ne.mpr c16;have aA : (a0_13.toList != a1_13.toList) = true := bne_iff_ne.mpr c16;obtain rfl := Option.some.inj H;simp only [eS,eP] at H;obtain ⟨rfl⟩ := H
          rotate_left 2
          focus
           rw [if_neg c15] at H;have ax : (a0_12.toList == a1_12.toList) = false := beq_eq_false_iff_ne.mpr c15;have ay : (a0_12.toList != a1_12.toList) = true := bne_iff_ne.mpr c15;obtain rfl := Option.some.inj H;simp only [eS,eP] at H;obtain ⟨rfl⟩ := H
         rotate_left 3
         focus
          rw [if_neg c14] at H;have av : (a0_11 == a1_11) = false := beq_eq_false_iff_ne.mpr c14;have aw : (a0_11 != a1_11) = true := bne_iff_ne.mpr c14;obtain rfl := Option.some.inj H;simp only [eS,eP] at H;obtain ⟨rfl⟩ := H
        rotate_left 4
        focus
         replace c13 := Bool.eq_false_iff.mpr c13;subst c13;rw [if_neg Bool.false_ne_true] at H;obtain rfl := Option.some.inj H;simp only [eS,eP] at H;obtain ⟨rfl⟩ := H
       rotate_left 5
       focus
        rw [if_neg c11] at H;have ar : (a0_6.toList == a1_6.toList) = false := beq_eq_false_iff_ne.mpr c11;have au : (a0_6.toList != a1_6.toList) = true := bne_iff_ne.mpr c11;obtain rfl := Option.some.inj H;simp only [eS,eP] at H;obtain ⟨rfl⟩ := H
      rotate_left 6
      focus
       rw [if_neg c10] at H;have an : (a0_5.toList == a1_5.toList) = false := beq_eq_false_iff_ne.mpr c10;have ap : (a0_5.toList != a1_5.toList) = true := bne_iff_ne.mpr c10;obtain rfl := Option.some.inj H;simp only [eS,eP] at H;obtain ⟨rfl⟩ := H
     rotate_left 7
     focus
      rw [if_neg c9] at H;have aF : (a0_4.toList == a1_4.toList) = false := beq_eq_false_iff_ne.mpr c9;have aG : (a0_4.toList != a1_4.toList) = true := bne_iff_ne.mpr c9;obtain rfl := Option.some.inj H;simp only [eS,eP] at H;obtain ⟨rfl⟩ := H
    rotate_left 8
    focus
     replace c8 := Bool.eq_false_iff.mpr c8;subst c8;rw [if_neg Bool.false_ne_true] at H;obtain rfl := Option.some.inj H;simp only [eS,eP] at H;obtain ⟨rfl⟩ := H
   rotate_left 9
   focus
    replace c6 := Bool.eq_false_iff.mpr c6;subst c6;rw [if_neg Bool.false_ne_true] at H;obtain rfl := Option.some.inj H;simp only [eS,eP] at H;obtain ⟨rfl⟩ := H
  rotate_left 10
  focus
   rw [if_neg c4] at H;have c4b0 : (a0_1 == a1_1) = false := beq_eq_false_iff_ne.mpr c4;have c4b1 : (a0_1 != a1_1) = true := bne_iff_ne.mpr c4;obtain rfl := Option.some.inj H;simp only [eS,eP] at H;obtain ⟨rfl⟩ := H
 rotate_left 11
 focus
  rw [if_neg c3] at H;have c3b0 : (a0_0.toList == a1_0.toList) = false := beq_eq_false_iff_ne.mpr c3;have c3b1 : (a0_0.toList != a1_0.toList) = true := bne_iff_ne.mpr c3;obtain rfl := Option.some.inj H;simp only [eS,eP] at H;obtain ⟨rfl⟩ := H
 all_goals
  go_enter Tryz.func16,Tryz.ntmps16;go_wp2_with (first|((with_reducible refine gate_dst (N := 2) rfl ?_);refine bx_ (N := 2) (cs := #[.string a0_0,.int .i64 a0_1,.slice A0_2 l0_2.length c0_2,.slice A0_3 l0_3.length c0_3,.string a0_4,.string a0_5,.string a0_6,.int .i64 a0_7,.int .i64 a0_8,.int .i64 a0_9,.bool a0_10,.int .i64 a0_11,.string a0_12,.string a0_13]) (t := 41) ?_;intro aB hg Wgb502 hbox hb;have aa := aM (hbox);have aC := aM ((by rw [hg];exact (lZ wB_) : w.heap.size ≤ aB));have GE502 := aC;replace HB := aM (lT wB_ hb);clear hb hbox hg)|((with_reducible refine gate_dst (N := 3) rfl ?_);refine bx_ (N := 3) (cs := #[.string a1_0,.int .i64 a1_1,.slice A1_2 l1_2.length c1_2,.slice A1_3 l1_3.length c1_3,.string a1_4,.string a1_5,.string a1_6,.int .i64 a1_7,.int .i64 a1_8,.int .i64 a1_9,.bool a1_10,.int .i64 a1_11,.string a1_12,.string a1_13]) (t := 41) ?_;intro aD hg Wgb503 hbox hb;have ab := aM (hbox);have aE := aM ((by rw [hg];exact (lZ wB_) : w.heap.size ≤ aD));have GE503 := aE;have ac := aM (nl_ hg aa.out);have ae := aM (ng_ hg aa.out);replace aa := aM (bw_ aa.out hb);replace HB := aM (lT wB_ hb);clear hb hbox hg;have hnby502_503 := ac.out;have hncy503_502 := ae.out;obtain ⟨hcz503x502_0,hcz503x502_1,hcz503x502_2,hcz503x502_3,hcz503x502_4,hcz503x502_5,hcz503x502_6,hcz503x502_7,hcz503x502_8,hcz503x502_9,hcz503x502_10,hcz503x502_11,hcz503x502_12,hcz503x502_13,hfz503x502_0,hfz503x502_1,hfz503x502_2,hfz503x502_3,hfz503x502_4,hfz503x502_5,hfz503x502_6,hfz503x502_7,hfz503x502_8,hfz503x502_9,hfz503x502_10,hfz503x502_11,hfz503x502_12,hfz503x502_13⟩ := z14_ aa.out;obtain ⟨hcz503x503_0,hcz503x503_1,hcz503x503_2,hcz503x503_3,hcz503x503_4,hcz503x503_5,hcz503x503_6,hcz503x503_7,hcz503x503_8,hcz503x503_9,hcz503x503_10,hcz503x503_11,hcz503x503_12,hcz503x503_13,hfz503x503_0,hfz503x503_1,hfz503x503_2,hfz503x503_3,hfz503x503_4,hfz503x503_5,hfz503x503_6,hfz503x503_7,hfz503x503_8,hfz503x503_9,hfz503x503_10,hfz503x503_11,hfz503x503_12,hfz503x503_13⟩ := z14_ ab.out)|((with_reducible refine gate_callee (f := 68) rfl ?_);refine gl_ (some 19) Tryz.func68 #[.slice A0_2 l0_2.length c0_2,.slice A1_2 l1_2.length c1_2] ?_;(with_reducible refine (laws_eqNameS.calls _ _ _ _ _ _ _ _ _ ?side1 ?side2 ?side3 ?side4 A5.out).mono ?_);(case side1 => exact wX_ af.out);(case side2 => exact ag.out);(case side3 => exact wX_ aj.out);(case side4 => exact ak.out);rintro e WA5 ⟨rfl,hb⟩;refine ⟨_,rfl,?_⟩;replace aa := aM (bw_ aa.out hb);replace ab := aM (bw_ ab.out hb);replace HB := aM (lT wB_ hb);obtain ⟨hcz5x502_0,hcz5x502_1,hcz5x502_2,hcz5x502_3,hcz5x502_4,hcz5x502_5,hcz5x502_6,hcz5x502_7,hcz5x502_8,hcz5x502_9,hcz5x502_10,hcz5x502_11,hcz5x502_12,hcz5x502_13,hfz5x502_0,hfz5x502_1,hfz5x502_2,hfz5x502_3,hfz5x502_4,hfz5x502_5,hfz5x502_6,hfz5x502_7,hfz5x502_8,hfz5x502_9,hfz5x502_10,hfz5x502_11,hfz5x502_12,hfz5x502_13⟩ := z14_ aa.out;obtain ⟨hcz5x503_0,hcz5x503_1,hcz5x503_2,hcz5x503_3,hcz5x503_4,hcz5x503_5,hcz5x503_6,hcz5x503_7,hcz5x503_8,hcz5x503_9,hcz5x503_10,hcz5x503_11,hcz5x503_12,hcz5x503_13,hfz5x503_0,hfz5x503_1,hfz5x503_2,hfz5x503_3,hfz5x503_4,hfz5x503_5,hfz5x503_6,hfz5x503_7,hfz5x503_8,hfz5x503_9,hfz5x503_10,hfz5x503_11,hfz5x503_12,hfz5x503_13⟩ := z14_ ab.out)|((with_reducible refine gate_callee (f := 68) rfl ?_);refine gl_ (some 25) Tryz.func68 #[.slice A0_3 l0_3.length c0_3,.slice A1_3 l1_3.length c1_3] ?_;(with_reducible refine (laws_eqNameS.calls _ _ _ _ _ _ _ _ _ ?side1 ?side2 ?side3 ?side4 A7.out).mono ?_);(case side1 => exact wX_ ah.out);(case side2 => exact ai.out);(case side3 => exact wX_ al.out);(case side4 => exact am.out);rintro e WA7 ⟨rfl,hb⟩;refine ⟨_,rfl,?_⟩;replace aa := aM (bw_ aa.out hb);replace ab := aM (bw_ ab.out hb);replace HB := aM (lT wB_ hb);obtain ⟨hcz7x502_0,hcz7x502_1,hcz7x502_2,hcz7x502_3,hcz7x502_4,hcz7x502_5,hcz7x502_6,hcz7x502_7,hcz7x502_8,hcz7x502_9,hcz7x502_10,hcz7x502_11,hcz7x502_12,hcz7x502_13,hfz7x502_0,hfz7x502_1,hfz7x502_2,hfz7x502_3,hfz7x502_4,hfz7x502_5,hfz7x502_6,hfz7x502_7,hfz7x502_8,hfz7x502_9,hfz7x502_10,hfz7x502_11,hfz7x502_12,hfz7x502_13⟩ := z14_ aa.out;obtain ⟨hcz7x503_0,hcz7x503_1,hcz7x503_2,hcz7x503_3,hcz7x503_4,hcz7x503_5,hcz7x503_6,hcz7x503_7,hcz7x503_8,hcz7x503_9,hcz7x503_10,hcz7x503_11,hcz7x503_12,hcz7x503_13,hfz7x503_0,hfz7x503_1,hfz7x503_2,hfz7x503_3,hfz7x503_4,hfz7x503_5,hfz7x503_6,hfz7x503_7,hfz7x503_8,hfz7x503_9,hfz7x503_10,hfz7x503_11,hfz7x503_12,hfz7x503_13⟩ := z14_ ab.out)|((with_reducible refine gate_callee (f := 69) rfl ?_);refine gl_ (some 46) Tryz.func69 #[.agg #[.int .i64 a0_7,.int .i64 a0_8,.int .i64 a0_9,.bool a0_10],.agg #[.int .i64 a1_7,.int .i64 a1_8,.int .i64 a1_9,.bool a1_10]] ?_;(with_reducible refine (laws_eqDate.calls _ _ _ _ _ _ _ _ _ _ A12.out).mono ?_);rintro e WA12 ⟨rfl,hb⟩;refine ⟨_,rfl,?_⟩;replace aa := aM (bw_ aa.out hb);replace ab := aM (bw_ ab.out hb);replace HB := aM (lT wB_ hb);obtain ⟨hcz12x502_0,hcz12x502_1,hcz12x502_2,hcz12x502_3,hcz12x502_4,hcz12x502_5,hcz12x502_6,hcz12x502_7,hcz12x502_8,hcz12x502_9,hcz12x502_10,hcz12x502_11,hcz12x502_12,hcz12x502_13,hfz12x502_0,hfz12x502_1,hfz12x502_2,hfz12x502_3,hfz12x502_4,hfz12x502_5,hfz12x502_6,hfz12x502_7,hfz12x502_8,hfz12x502_9,hfz12x502_10,hfz12x502_11,hfz12x502_12,hfz12x502_13⟩ := z14_ aa.out;obtain ⟨hcz12x503_0,hcz12x503_1,hcz12x503_2,hcz12x503_3,hcz12x503_4,hcz12x503_5,hcz12x503_6,hcz12x503_7,hcz12x503_8,hcz12x503_9,hcz12x503_10,hcz12x503_11,hcz12x503_12,hcz12x503_13,hfz12x503_0,hfz12x503_1,hfz12x503_2,hfz12x503_3,hfz12x503_4,hfz12x503_5,hfz12x503_6,hfz12x503_7,hfz12x503_8,hfz12x503_9,hfz12x503_10,hfz12x503_11,hfz12x503_12,hfz12x503_13⟩ := z14_ ab.out));go_ret;exact ⟨vR_,wB_⟩
end Go.Proofs.YtmafmhgmdegplaaGreatDoor.P
