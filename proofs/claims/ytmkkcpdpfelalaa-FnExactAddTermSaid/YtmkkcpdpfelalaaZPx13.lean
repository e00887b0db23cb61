/- Written by a program in this session: each theorem here says that a Go function computes the Lean function beside it, or that a law's row holds, under the conditions that the theorem itself states. -/
import Derived.Test.YtmkkcpdpfelalaaZPx0
import Derived.Test.YtmkkcpdpfelalaaZPx3
namespace Go.Proofs.Ytmkkcpdpfelalaa.P
open Go.RowKit Go.Proofs.YtmkkcpdpfelalaaW.PrintWords Go.Proofs.YtmkkcpdpfelalaaW.PrintLast Go.Proofs.YtmkkcpdpfelalaaW.PrintMore
attribute [local go_sem] max2_int min2_int max_two min_two max_three min_three max_four min_four   -- for this text's walks alone
set_option linter.unusedVariables false
set_option linter.unusedSimpArgs false
def laws_heldTermS.l0 : Nat → List (S61) → Int → Int → Option (Int)
 | 0,_,_,_ => none
 | k + 1,x0,x1,x5 => if x5 < (x0.length : Int) then (if 0 ≤ x5 then ((laws_markText.f k x1).bind fun t341 => (if ((rd_T61 x0 x5).f0).toList = t341.toList then ((laws_markText.f k (wrap64 (x1 + 1))).bind fun t343 => (if ((rd_T61 x0 x5).f1).toList = t343.toList then ((laws_markText.f k (wrap64 ((wrap64 (x1 + 1)) + 1))).bind fun t345 => (if ((rd_T61 x0 x5).f2).toList = t345.toList then (laws_heldTermS.l0 k x0 (wrap64 ((wrap64 ((wrap64 (x1 + 1)) + 1)) + 1)) (wrap64 (x5 + 1))) else (some (-1)))) else (some (-1)))) else (some (-1)))) else (none)) else (some x1)
def laws_heldTermS.f (k : Nat) (l0 : List (S61)) (a1 : Int) : Option (Int) := laws_heldTermS.l0 k l0 a1 0
theorem laws_heldTermS.mono_l : ∀ k,(∀ y0 y1 y2,LeO (laws_heldTermS.l0 k y0 y1 y2) (laws_heldTermS.l0 (k + 1) y0 y1 y2))
 | 0 => fun _ _ _ r h => by simp [laws_heldTermS.l0] at h
 | k + 1 => by
  have ih0 := laws_heldTermS.mono_l k
  ·intro y0 y1 y2
   unfold laws_heldTermS.l0
   repeat' first
   | (with_reducible exact ih0 _ _ _)
   | (with_reducible exact laws_markText.mono _ _)
   | (with_reducible exact LeO.refl _)
   | (with_reducible exact LeO.none _)
   | (with_reducible refine LeO.ite ?_ ?_)
   | (with_reducible refine LeO.bind ?_ (fun _ => ?_))
   | exact ih0 _ _ _
   | exact laws_markText.mono _ _
   | exact LeO.none _
   | refine LeO.ite ?_ ?_
   | refine LeO.bind ?_ (fun _ => ?_)
theorem laws_heldTermS.mono : ∀ a0 a1 k,LeO (laws_heldTermS.f k a0 a1) (laws_heldTermS.f (k + 1) a0 a1) := by
 intro a0 a1 k
 have ih0 := laws_heldTermS.mono_l k
 unfold laws_heldTermS.f
 repeat' first
   | (with_reducible exact ih0 _ _ _)
   | (with_reducible exact laws_markText.mono _ _)
   | (with_reducible exact LeO.refl _)
   | (with_reducible exact LeO.none _)
   | (with_reducible refine LeO.ite ?_ ?_)
   | (with_reducible refine LeO.bind ?_ (fun _ => ?_))
   | exact ih0 _ _ _
   | exact laws_markText.mono _ _
   | exact LeO.none _
   | refine LeO.ite ?_ ?_
   | refine LeO.bind ?_ (fun _ => ?_)
def laws_heldTermS.T4 : Bool × List (List Nat × List Nat) := (true,[([],[]),([],[]),([0,1],[0,1]),([2],[2]),([3],[3]),([],[]),([5],[5]),([4,6],[4,6])])
def laws_heldTermS.B4 : List Nat := [0,0,3,7,15,0,32,127]
theorem laws_heldTermS.tab4 : rtab .any (opsOf Try.f67 4) = laws_heldTermS.T4 := by kernel_rfl
theorem laws_heldTermS.bits4 : waitsOk laws_heldTermS.T4.2 laws_heldTermS.B4 = true := by kernel_rfl
def laws_heldTermS.T7 : Bool × List (List Nat × List Nat) := (true,[([],[]),([],[]),([0,1],[0,1]),([2],[2]),([3],[3]),([],[]),([5],[5]),([4,6],[4,6])])
def laws_heldTermS.B7 : List Nat := [0,0,3,7,15,0,32,127]
theorem laws_heldTermS.tab7 : rtab .any (opsOf Try.f67 7) = laws_heldTermS.T7 := by kernel_rfl
theorem laws_heldTermS.bits7 : waitsOk laws_heldTermS.T7.2 laws_heldTermS.B7 = true := by kernel_rfl
def laws_heldTermS.T10 : Bool × List (List Nat × List Nat) := (true,[([],[]),([],[]),([0,1],[0,1]),([2],[2]),([3],[3]),([],[]),([5],[5]),([4,6],[4,6])])
def laws_heldTermS.B10 : List Nat := [0,0,3,7,15,0,32,127]
theorem laws_heldTermS.tab10 : rtab .any (opsOf Try.f67 10) = laws_heldTermS.T10 := by kernel_rfl
theorem laws_heldTermS.bits10 : waitsOk laws_heldTermS.T10.2 laws_heldTermS.B10 = true := by kernel_rfl
set_option maxHeartbeats 8000000 in
set_option maxRecDepth 100000 in
theorem laws_heldTermS.calls (k : Nat) (A0 : Option Addr) (c0 : Nat) (l0 : List (S61)) (a1 : Int) (r : Int) (w : World) (hr0 : Kd.C k61 w A0 l0.length l0) (hc0 : l0.length ≤ c0) (h : laws_heldTermS.f k l0 a1 = some r) :
  Calls Try.prog 67 #[.slice A0 l0.length c0,.int .i64 a1] w fun e w' => e = .returned (.int .i64 r) ∧ Below w.heap.size w w' := by
 have HR0 := aM hr0;have HC0 := aM hc0;clear hr0 hc0;have HB := aM (Below.refl w.heap.size w);have H : (laws_heldTermS.l0 k l0 a1 0) = some r := h;clear h;have H' := aM H;clear H;go_enter Try.func67,Try.ntmps67;go_wp2;go_loopg [1,5] k (fun kq v1 v5 w' => ∃ (ay : Int) (aa : Int),v1 = .int .i64 ay ∧ v5 = .int .i64 aa ∧ Aside0 (laws_heldTermS.l0 kq l0 ay aa = some r) ∧ Aside0 (kq ≤ k) ∧ Aside0 (Below w.heap.size w w'))
 case atStart => exact ⟨(a1),(0),(by first|rfl|(simp [*];done)),(by first|rfl|(simp [*];done)),H',⟨Nat.le_refl _⟩,⟨hb_⟩⟩
 case round =>
  clear H';(try clear p2);obtain ⟨ay,aa,rfl,rfl,HA,HK1,HB⟩ := hrel
  cases gk with
  | zero => exact absurd HA.out (by simp [laws_heldTermS.l0])
  | succ k1 =>
   have H := HA.out;clear HA;simp only [laws_heldTermS.l0] at H
   by_cases c3 : aa < (l0.length : Int)
   focus
    rw [if_pos c3] at H;have aB : decide (aa < (l0.length : Int)) = true := dT c3;clear c3
    by_cases c4 : 0 ≤ aa
    rotate_left;rw [if_neg c4] at H;exact absurd H (by simp);rw [if_pos c4] at H;have c4b0 : decide (0 ≤ aa) = true := dT c4;clear c4;obtain ⟨t341,A5,H⟩ := bE_ H
    by_cases c6 : ((rd_T61 l0 aa).f0).toList = t341.toList
    focus
     rw [if_pos c6] at H;have aC : (((rd_T61 l0 aa).f0).toList == t341.toList) = true := beq_iff_eq.mpr c6;have aD : (((rd_T61 l0 aa).f0).toList != t341.toList) = false := bne_eq_false_iff_eq.mpr c6;clear c6;obtain ⟨t343,A7,H⟩ := bE_ H
     by_cases c8 : ((rd_T61 l0 aa).f1).toList = t343.toList
     focus
      rw [if_pos c8] at H;have aE : (((rd_T61 l0 aa).f1).toList == t343.toList) = true := beq_iff_eq.mpr c8;have aF : (((rd_T61 l0 aa).f1).toList != t343.toList) = false := bne_eq_false_iff_eq.mpr c8;clear c8;obtain ⟨t345,A9,H⟩ := bE_ H
      by_cases c10 : ((rd_T61 l0 aa).f2).toList = t345.toList
      focus
       rw [if_pos c10] at H;have az : (((rd_T61 l0 aa).f2).toList == t345.toList) = true := beq_iff_eq.mpr c10;have aA : (((rd_T61 l0 aa).f2).toList != t345.toList) = false := bne_eq_false_iff_eq.mpr c10;clear c10;have H' := aM H;clear H
      rotate_left
      focus
       rw [if_neg c10] at H;have az : (((rd_T61 l0 aa).f2).toList == t345.toList) = false := beq_eq_false_iff_ne.mpr c10;have aA : (((rd_T61 l0 aa).f2).toList != t345.toList) = true := bne_iff_ne.mpr c10;obtain rfl := Option.some.inj H;simp only [eS,eP] at H;obtain ⟨rfl⟩ := H
     rotate_left 2
     focus
      rw [if_neg c8] at H;have aE : (((rd_T61 l0 aa).f1).toList == t343.toList) = false := beq_eq_false_iff_ne.mpr c8;have aF : (((rd_T61 l0 aa).f1).toList != t343.toList) = true := bne_iff_ne.mpr c8;obtain rfl := Option.some.inj H;simp only [eS,eP] at H;obtain ⟨rfl⟩ := H
    rotate_left 3
    focus
     rw [if_neg c6] at H;have aC : (((rd_T61 l0 aa).f0).toList == t341.toList) = false := beq_eq_false_iff_ne.mpr c6;have aD : (((rd_T61 l0 aa).f0).toList != t341.toList) = true := bne_iff_ne.mpr c6;obtain rfl := Option.some.inj H;simp only [eS,eP] at H;obtain ⟨rfl⟩ := H
   rotate_left 4
   focus
    rw [if_neg c3] at H;have aB : decide (aa < (l0.length : Int)) = false := dF c3;clear c3;obtain rfl := Option.some.inj H;simp only [eS,eP] at H;obtain ⟨rfl⟩ := H
   all_goals
    (try go_wp2)
    first
     |
      go_ret;exact ⟨by first|rfl|(simp [*];done),hb_⟩
     |
      replace HB := aM (lD HB.out);have p01 : 0 ≤ (aa : Int) := oD (by assumption);have q01 : aa < (l0.length : Int) := oD (by assumption);obtain ⟨ab,e01,ac,ae,af⟩ := at_T61 HR0.out aa p01 q01;have am := af;have an := ae;have ao := ac;cases e01;replace ac := (HB.out.cell (wB w _ ac)).trans ac;replace ae := (HB.out.cell (wB w _ ae)).trans ae;replace af := (HB.out.cell (wB w _ af)).trans af;replace p01 := eq_true p01;replace q01 := eq_true q01;refine start_ (n := 8) (S := fun w' => w'.cell? (ab.add ((aa).toNat * 3)) = some (.string ((rd_T61 l0 aa).f0)) ∧ w'.cell? ⟨(ab.add ((aa).toNat * 3)).block,(ab.add ((aa).toNat * 3)).off + 1,none⟩ = some (.string ((rd_T61 l0 aa).f1)) ∧ w'.cell? ⟨(ab.add ((aa).toNat * 3)).block,(ab.add ((aa).toNat * 3)).off + 2,none⟩ = some (.string ((rd_T61 l0 aa).f2))) (ds := []) (mk_ 8 0) (by kernel_rfl) rfl (by kernel_rfl) ⟨((HB.out.cell (wB w _ ao)).trans ao),((HB.out.cell (wB w _ an)).trans an),((HB.out.cell (wB w _ am)).trans am)⟩ (fun hHeld => ?_);refine with_tabW laws_heldTermS.tab4 laws_heldTermS.bits4 (fun HT_ HW_ => ?_);generalize wr.drew = wk0 at HB ac ae af hHeld ⊢;refine pure_ (i := 0) (N := some 12) (v := ?_) (a' := ?_) (mk_ 8 1) rfl rfl (any_of HT_.out (by kernel_rfl)) (fun _ _ _ h => h) (Or.inl ⟨by rfl,?_⟩) ?_ ?_;rotate_left;intro w';go_simp;(with_reducible rfl);rotate_left;simp only [Act.put,lI,sZ,sS,i64_w,i32_w];rfl;refine pure_ (i := 1) (N := some 13) (v := ?_) (a' := ?_) (mk_ 8 3) rfl rfl (any_of HT_.out (by kernel_rfl)) (fun _ _ _ h => h) (Or.inl ⟨by rfl,?_⟩) ?_ ?_;rotate_left;intro w';go_simp;(with_reducible rfl);rotate_left;simp only [Act.put,lI,sZ,sS,i64_w,i32_w];rfl;refine pure_ (i := 2) (N := some 14) (v := ?_) (a' := ?_) (mk_ 8 7) rfl rfl (any_of HT_.out (by kernel_rfl)) (fun _ _ _ h => h) (Or.inl ⟨by rfl,?_⟩) ?_ ?_;rotate_left;intro w';go_simp;(with_reducible rfl);rotate_left;simp only [Act.put,lI,sZ,sS,i64_w,i32_w];rfl;refine pure_ (i := 3) (N := some 15) (v := ?_) (a' := ?_) (mk_ 8 15) rfl rfl (any_of HT_.out (by kernel_rfl)) (fun _ _ _ h => h) (Or.inl ⟨by rfl,?_⟩) ?_ ?_;rotate_left;intro w';go_simp;(with_reducible rfl);rotate_left;simp only [Act.put,lI,sZ,sS,i64_w,i32_w];rfl;refine pure_ (i := 5) (N := some 17) (v := ?_) (a' := ?_) (mk_ 8 47) rfl rfl (any_of HT_.out (by kernel_rfl)) (fun _ _ _ h => h) (Or.inl ⟨by rfl,?_⟩) ?_ ?_;rotate_left;intro w';go_simp;(with_reducible rfl);rotate_left;simp only [Act.put,lI,sZ,sS,i64_w,i32_w];rfl;refine take_ (i := 4) (N := some 16) (v := ?_) (a' := ?_) (mk_ 8 63) rfl rfl (take_ofW HT_.out HW_.out (by kernel_rfl)) (fun _ _ _ h => h) (Or.inl ⟨by rfl,?_⟩) hHeld ?_ ?_;rotate_left;rintro w' ⟨s0,s1,s2⟩;go_simp;(with_reducible rfl);rotate_left;simp only [Act.put,lI,sZ,sS,i64_w,i32_w];rfl;refine one_ (i := 6) (N := some 18) (mk_ 8 127) rfl rfl (one_of HT_.out (by kernel_rfl)) (by decide) (fun K hK => ?_);refine goes_ Try.func58 (by kernel_rfl) rfl #[.int .i64 ay] (by rfl) rfl rfl (by (try simp only [mT,mC,mN]);first|done|rfl|(simp only [xD,xT];rfl)) ?_;(with_reducible refine (laws_markText.calls _ _ _ _ A5.out).mono ?_);rintro e wk1 ⟨rfl,hb⟩;refine ⟨_,rfl,?_⟩;replace HB := aM (lT hb_ hb);(try clear hb);(try clear hb2);(try clear hk);(try clear hi);refine hK.out _ _ ⟨((HB.out.cell (wB w _ ao)).trans ao),((HB.out.cell (wB w _ an)).trans an),((HB.out.cell (wB w _ am)).trans am)⟩ (fun hHeld => ?_);clear hK K;refine norm_ (a' := ?_) ?_ ?_;rotate_left;show Act.put _ (some 18) _ = _;simp only [Act.put,lI,sZ,sS,i64_w,i32_w];rfl;refine pure_ (i := 7) (N := some 19) (v := ?_) (a' := ?_) (mk_ 8 255) rfl rfl (any_of HT_.out (by kernel_rfl)) (fun _ _ _ h => h) (Or.inl ⟨by rfl,?_⟩) ?_ ?_;rotate_left;intro w';go_simp;(with_reducible rfl);rotate_left;simp only [Act.put,lI,sZ,sS,i64_w,i32_w];rfl;refine done_ (done_of HT_.out (by kernel_rfl)) ?_;(try go_wp2)
      first
       |
        go_ret;exact ⟨by first|rfl|(simp [*];done),hb_⟩
       |
        replace HB := aM (lD HB.out);have p02 : 0 ≤ (aa : Int) := oD (by assumption);have q02 : aa < (l0.length : Int) := oD (by assumption);obtain ⟨aG,e02,ag,ah,ai⟩ := at_T61 HR0.out aa p02 q02;have ap := ai;have ar := ah;have au := ag;obtain rfl : ab = aG := (by injection e02);replace ag := (HB.out.cell (wB w _ ag)).trans ag;replace ah := (HB.out.cell (wB w _ ah)).trans ah;replace ai := (HB.out.cell (wB w _ ai)).trans ai;replace p02 := eq_true p02;replace q02 := eq_true q02;refine start_ (n := 8) (S := fun w' => w'.cell? (ab.add ((aa).toNat * 3)) = some (.string ((rd_T61 l0 aa).f0)) ∧ w'.cell? ⟨(ab.add ((aa).toNat * 3)).block,(ab.add ((aa).toNat * 3)).off + 1,none⟩ = some (.string ((rd_T61 l0 aa).f1)) ∧ w'.cell? ⟨(ab.add ((aa).toNat * 3)).block,(ab.add ((aa).toNat * 3)).off + 2,none⟩ = some (.string ((rd_T61 l0 aa).f2))) (ds := []) (mk_ 8 0) (by kernel_rfl) rfl (by kernel_rfl) ⟨((HB.out.cell (wB w _ au)).trans au),((HB.out.cell (wB w _ ar)).trans ar),((HB.out.cell (wB w _ ap)).trans ap)⟩ (fun hHeld => ?_);refine with_tabW laws_heldTermS.tab7 laws_heldTermS.bits7 (fun HT_ HW_ => ?_);generalize wk1.drew = wk2 at HB ag ah ai hHeld ⊢;refine pure_ (i := 0) (N := some 22) (v := ?_) (a' := ?_) (mk_ 8 1) rfl rfl (any_of HT_.out (by kernel_rfl)) (fun _ _ _ h => h) (Or.inl ⟨by rfl,?_⟩) ?_ ?_;rotate_left;intro w';go_simp;(with_reducible rfl);rotate_left;simp only [Act.put,lI,sZ,sS,i64_w,i32_w];rfl;refine pure_ (i := 1) (N := some 23) (v := ?_) (a' := ?_) (mk_ 8 3) rfl rfl (any_of HT_.out (by kernel_rfl)) (fun _ _ _ h => h) (Or.inl ⟨by rfl,?_⟩) ?_ ?_;rotate_left;intro w';go_simp;(with_reducible rfl);rotate_left;simp only [Act.put,lI,sZ,sS,i64_w,i32_w];rfl;refine pure_ (i := 2) (N := some 24) (v := ?_) (a' := ?_) (mk_ 8 7) rfl rfl (any_of HT_.out (by kernel_rfl)) (fun _ _ _ h => h) (Or.inl ⟨by rfl,?_⟩) ?_ ?_;rotate_left;intro w';go_simp;(with_reducible rfl);rotate_left;simp only [Act.put,lI,sZ,sS,i64_w,i32_w];rfl;refine pure_ (i := 3) (N := some 25) (v := ?_) (a' := ?_) (mk_ 8 15) rfl rfl (any_of HT_.out (by kernel_rfl)) (fun _ _ _ h => h) (Or.inl ⟨by rfl,?_⟩) ?_ ?_;rotate_left;intro w';go_simp;(with_reducible rfl);rotate_left;simp only [Act.put,lI,sZ,sS,i64_w,i32_w];rfl;refine pure_ (i := 5) (N := some 27) (v := ?_) (a' := ?_) (mk_ 8 47) rfl rfl (any_of HT_.out (by kernel_rfl)) (fun _ _ _ h => h) (Or.inl ⟨by rfl,?_⟩) ?_ ?_;rotate_left;intro w';go_simp;(with_reducible rfl);rotate_left;simp only [Act.put,lI,sZ,sS,i64_w,i32_w];rfl;refine take_ (i := 4) (N := some 26) (v := ?_) (a' := ?_) (mk_ 8 63) rfl rfl (take_ofW HT_.out HW_.out (by kernel_rfl)) (fun _ _ _ h => h) (Or.inl ⟨by rfl,?_⟩) hHeld ?_ ?_;rotate_left;rintro w' ⟨s0,s1,s2⟩;go_simp;(with_reducible rfl);rotate_left;simp only [Act.put,lI,sZ,sS,i64_w,i32_w];rfl;refine one_ (i := 6) (N := some 28) (mk_ 8 127) rfl rfl (one_of HT_.out (by kernel_rfl)) (by decide) (fun K hK => ?_);refine goes_ Try.func58 (by kernel_rfl) rfl #[.int .i64 (wrap64 (ay + 1))] (by rfl) rfl rfl (by (try simp only [mT,mC,mN]);first|done|rfl|(simp only [xD,xT];rfl)) ?_;(with_reducible refine (laws_markText.calls _ _ _ _ A7.out).mono ?_);rintro e wk3 ⟨rfl,hb⟩;refine ⟨_,rfl,?_⟩;replace HB := aM (lT hb_ hb);(try clear hb);(try clear hb2);(try clear hk);(try clear hi);refine hK.out _ _ ⟨((HB.out.cell (wB w _ au)).trans au),((HB.out.cell (wB w _ ar)).trans ar),((HB.out.cell (wB w _ ap)).trans ap)⟩ (fun hHeld => ?_);clear hK K;refine norm_ (a' := ?_) ?_ ?_;rotate_left;show Act.put _ (some 28) _ = _;simp only [Act.put,lI,sZ,sS,i64_w,i32_w];rfl;refine pure_ (i := 7) (N := some 29) (v := ?_) (a' := ?_) (mk_ 8 255) rfl rfl (any_of HT_.out (by kernel_rfl)) (fun _ _ _ h => h) (Or.inl ⟨by rfl,?_⟩) ?_ ?_;rotate_left;intro w';go_simp;(with_reducible rfl);rotate_left;simp only [Act.put,lI,sZ,sS,i64_w,i32_w];rfl;refine done_ (done_of HT_.out (by kernel_rfl)) ?_;(try go_wp2)
        first
         |
          go_ret;exact ⟨by first|rfl|(simp [*];done),hb_⟩
         |
          replace HB := aM (lD HB.out);have p03 : 0 ≤ (aa : Int) := oD (by assumption);have q03 : aa < (l0.length : Int) := oD (by assumption);obtain ⟨aH,e03,aj,ak,al⟩ := at_T61 HR0.out aa p03 q03;have av := al;have aw := ak;have ax := aj;obtain rfl : ab = aH := (by injection e03);replace aj := (HB.out.cell (wB w _ aj)).trans aj;replace ak := (HB.out.cell (wB w _ ak)).trans ak;replace al := (HB.out.cell (wB w _ al)).trans al;replace p03 := eq_true p03;replace q03 := eq_true q03;refine start_ (n := 8) (S := fun w' => w'.cell? (ab.add ((aa).toNat * 3)) = some (.string ((rd_T61 l0 aa).f0)) ∧ w'.cell? ⟨(ab.add ((aa).toNat * 3)).block,(ab.add ((aa).toNat * 3)).off + 1,none⟩ = some (.string ((rd_T61 l0 aa).f1)) ∧ w'.cell? ⟨(ab.add ((aa).toNat * 3)).block,(ab.add ((aa).toNat * 3)).off + 2,none⟩ = some (.string ((rd_T61 l0 aa).f2))) (ds := []) (mk_ 8 0) (by kernel_rfl) rfl (by kernel_rfl) ⟨((HB.out.cell (wB w _ ax)).trans ax),((HB.out.cell (wB w _ aw)).trans aw),((HB.out.cell (wB w _ av)).trans av)⟩ (fun hHeld => ?_);refine with_tabW laws_heldTermS.tab10 laws_heldTermS.bits10 (fun HT_ HW_ => ?_);generalize wk3.drew = wk4 at HB aj ak al hHeld ⊢;refine pure_ (i := 0) (N := some 32) (v := ?_) (a' := ?_) (mk_ 8 1) rfl rfl (any_of HT_.out (by kernel_rfl)) (fun _ _ _ h => h) (Or.inl ⟨by rfl,?_⟩) ?_ ?_;rotate_left;intro w';go_simp;(with_reducible rfl);rotate_left;simp only [Act.put,lI,sZ,sS,i64_w,i32_w];rfl;refine pure_ (i := 1) (N := some 33) (v := ?_) (a' := ?_) (mk_ 8 3) rfl rfl (any_of HT_.out (by kernel_rfl)) (fun _ _ _ h => h) (Or.inl ⟨by rfl,?_⟩) ?_ ?_;rotate_left;intro w';go_simp;(with_reducible rfl);rotate_left;simp only [Act.put,lI,sZ,sS,i64_w,i32_w];rfl;refine pure_ (i := 2) (N := some 34) (v := ?_) (a' := ?_) (mk_ 8 7) rfl rfl (any_of HT_.out (by kernel_rfl)) (fun _ _ _ h => h) (Or.inl ⟨by rfl,?_⟩) ?_ ?_;rotate_left;intro w';go_simp;(with_reducible rfl);rotate_left;simp only [Act.put,lI,sZ,sS,i64_w,i32_w];rfl;refine pure_ (i := 3) (N := some 35) (v := ?_) (a' := ?_) (mk_ 8 15) rfl rfl (any_of HT_.out (by kernel_rfl)) (fun _ _ _ h => h) (Or.inl ⟨by rfl,?_⟩) ?_ ?_;rotate_left;intro w';go_simp;(with_reducible rfl);rotate_left;simp only [Act.put,lI,sZ,sS,i64_w,i32_w];rfl;refine pure_ (i := 5) (N := some 37) (v := ?_) (a' := ?_) (mk_ 8 47) rfl rfl (any_of HT_.out (by kernel_rfl)) (fun _ _ _ h => h) (Or.inl ⟨by rfl,?_⟩) ?_ ?_;rotate_left;intro w';go_simp;(with_reducible rfl);rotate_left;simp only [Act.put,lI,sZ,sS,i64_w,i32_w];rfl;refine take_ (i := 4) (N := some 36) (v := ?_) (a' := ?_) (mk_ 8 63) rfl rfl (take_ofW HT_.out HW_.out (by kernel_rfl)) (fun _ _ _ h => h) (Or.inl ⟨by rfl,?_⟩) hHeld ?_ ?_;rotate_left;rintro w' ⟨s0,s1,s2⟩;go_simp;(with_reducible rfl);rotate_left;simp only [Act.put,lI,sZ,sS,i64_w,i32_w];rfl;refine one_ (i := 6) (N := some 38) (mk_ 8 127) rfl rfl (one_of HT_.out (by kernel_rfl)) (by decide) (fun K hK => ?_);refine goes_ Try.func58 (by kernel_rfl) rfl #[.int .i64 (wrap64 ((wrap64 (ay + 1)) + 1))] (by rfl) rfl rfl (by (try simp only [mT,mC,mN]);first|done|rfl|(simp only [xD,xT];rfl)) ?_;(with_reducible refine (laws_markText.calls _ _ _ _ A9.out).mono ?_);rintro e wk5 ⟨rfl,hb⟩;refine ⟨_,rfl,?_⟩;replace HB := aM (lT hb_ hb);(try clear hb);(try clear hb2);(try clear hk);(try clear hi);refine hK.out _ _ ⟨((HB.out.cell (wB w _ ax)).trans ax),((HB.out.cell (wB w _ aw)).trans aw),((HB.out.cell (wB w _ av)).trans av)⟩ (fun hHeld => ?_);clear hK K;refine norm_ (a' := ?_) ?_ ?_;rotate_left;show Act.put _ (some 38) _ = _;simp only [Act.put,lI,sZ,sS,i64_w,i32_w];rfl;refine pure_ (i := 7) (N := some 39) (v := ?_) (a' := ?_) (mk_ 8 255) rfl rfl (any_of HT_.out (by kernel_rfl)) (fun _ _ _ h => h) (Or.inl ⟨by rfl,?_⟩) ?_ ?_;rotate_left;intro w';go_simp;(with_reducible rfl);rotate_left;simp only [Act.put,lI,sZ,sS,i64_w,i32_w];rfl;refine done_ (done_of HT_.out (by kernel_rfl)) ?_;(try go_wp2)
          first
           |
            go_ret;exact ⟨by first|rfl|(simp [*];done),hb_⟩
           |
            go_roundg k1
            case measure => have := HK1.out;omega
            case rel => exact ⟨(wrap64 ((wrap64 ((wrap64 (ay + 1)) + 1)) + 1)),(wrap64 (aa + 1)),(by first|rfl|(simp [*];done)),(by first|rfl|(simp [*];done)),H',⟨by have := HK1.out;omega⟩,⟨hb_⟩⟩
end Go.Proofs.Ytmkkcpdpfelalaa.P
