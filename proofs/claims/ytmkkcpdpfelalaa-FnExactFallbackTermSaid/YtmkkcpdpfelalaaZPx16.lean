/- Written by a program in this session: each theorem here says that a Go function computes the Lean function beside it, or that a law's row holds, under the conditions that the theorem itself states. -/
import Derived.Test.YtmkkcpdpfelalaaZPx0
import Derived.Test.YtmkkcpdpfelalaaZPx7
import Derived.Test.YtmkkcpdpfelalaaZPx14
import Derived.Test.YtmkkcpdpfelalaaZPx15
namespace Go.Proofs.Ytmkkcpdpfelalaa.P
open Go.RowKit Go.Proofs.YtmkkcpdpfelalaaW.PrintWords Go.Proofs.YtmkkcpdpfelalaaW.PrintLast Go.Proofs.YtmkkcpdpfelalaaW.PrintMore
attribute [local go_sem] max2_int min2_int max_two min_two max_three min_three max_four min_four   -- for this text's walks alone
set_option linter.unusedVariables false
set_option linter.unusedSimpArgs false
def laws_eqLocaleS.l0 : Nat → List (S31) → List (S31) → Int → Option (Bool)
 | 0,_,_,_ => none
 | k + 1,x0,x1,x5 => if x5 < (x0.length : Int) then (if 0 ≤ x5 then (if x5 < (x1.length : Int) then ((laws_eqLocale.f k ((rd_T31 x0 x5).f0) ((rd_T31 x0 x5).f1) ((rd_T31 x0 x5).f2) ((rd_T31 x0 x5).f3) ((rd_T31 x0 x5).f4) ((rd_T31 x1 x5).f0) ((rd_T31 x1 x5).f1) ((rd_T31 x1 x5).f2) ((rd_T31 x1 x5).f3) ((rd_T31 x1 x5).f4)).bind fun t485 => (if t485 = true then (laws_eqLocaleS.l0 k x0 x1 (wrap64 (x5 + 1))) else (some false))) else (none)) else (none)) else (some true)
def laws_eqLocaleS.f (k : Nat) (l0 : List (S31)) (l1 : List (S31)) : Option (Bool) := if (l0.length : Int) = (l1.length : Int) then (laws_eqLocaleS.l0 k l0 l1 0) else (some false)
theorem laws_eqLocaleS.mono_l : ∀ k,(∀ y0 y1 y2,LeO (laws_eqLocaleS.l0 k y0 y1 y2) (laws_eqLocaleS.l0 (k + 1) y0 y1 y2))
 | 0 => fun _ _ _ r h => by simp [laws_eqLocaleS.l0] at h
 | k + 1 => by
  have ih0 := laws_eqLocaleS.mono_l k
  ·intro y0 y1 y2
   unfold laws_eqLocaleS.l0
   repeat' first
   | (with_reducible exact ih0 _ _ _)
   | (with_reducible exact laws_eqLocale.mono _ _ _ _ _ _ _ _ _ _ _)
   | (with_reducible exact LeO.refl _)
   | (with_reducible exact LeO.none _)
   | (with_reducible refine LeO.ite ?_ ?_)
   | (with_reducible refine LeO.bind ?_ (fun _ => ?_))
   | exact ih0 _ _ _
   | exact laws_eqLocale.mono _ _ _ _ _ _ _ _ _ _ _
   | exact LeO.none _
   | refine LeO.ite ?_ ?_
   | refine LeO.bind ?_ (fun _ => ?_)
theorem laws_eqLocaleS.mono : ∀ a0 a1 k,LeO (laws_eqLocaleS.f k a0 a1) (laws_eqLocaleS.f (k + 1) a0 a1) := by
 intro a0 a1 k
 have ih0 := laws_eqLocaleS.mono_l k
 unfold laws_eqLocaleS.f
 repeat' first
   | (with_reducible exact ih0 _ _ _)
   | (with_reducible exact laws_eqLocale.mono _ _ _ _ _ _ _ _ _ _ _)
   | (with_reducible exact LeO.refl _)
   | (with_reducible exact LeO.none _)
   | (with_reducible refine LeO.ite ?_ ?_)
   | (with_reducible refine LeO.bind ?_ (fun _ => ?_))
   | exact ih0 _ _ _
   | exact laws_eqLocale.mono _ _ _ _ _ _ _ _ _ _ _
   | exact LeO.none _
   | refine LeO.ite ?_ ?_
   | refine LeO.bind ?_ (fun _ => ?_)
def laws_eqLocaleS.T6 : Bool × List (List Nat × List Nat) := (true,[([],[]),([],[]),([0,1],[0,1]),([2],[2]),([],[]),([],[]),([4,5],[4,5]),([6],[6]),([3,7],[3,7]),([8],[8])])
def laws_eqLocaleS.B6 : List Nat := [0,0,3,7,0,0,48,112,255,511]
theorem laws_eqLocaleS.tab6 : rtab .any (opsOf Try.f20 6) = laws_eqLocaleS.T6 := by kernel_rfl
theorem laws_eqLocaleS.bits6 : waitsOk laws_eqLocaleS.T6.2 laws_eqLocaleS.B6 = true := by kernel_rfl
set_option maxHeartbeats 8000000 in
set_option maxRecDepth 100000 in
theorem laws_eqLocaleS.calls (k : Nat) (A0 : Option Addr) (c0 : Nat) (l0 : List (S31)) (A1 : Option Addr) (c1 : Nat) (l1 : List (S31)) (r : Bool) (w : World) (hr0 : Kd.C k31 w A0 l0.length l0) (hc0 : l0.length ≤ c0) (hr1 : Kd.C k31 w A1 l1.length l1) (hc1 : l1.length ≤ c1) (h : laws_eqLocaleS.f k l0 l1 = some r) :
  Calls Try.prog 20 #[.slice A0 l0.length c0,.slice A1 l1.length c1] w fun e w' => e = .returned (.bool r) ∧ Below w.heap.size w w' := by
 have hu31 := Try.underlying31
 have HR0 := Aside0.mk hr0
 have HC0 := Aside0.mk hc0
 clear hr0 hc0
 have HR1 := Aside0.mk hr1
 have HC1 := Aside0.mk hc1
 clear hr1 hc1
 have HB := Aside0.mk (Below.refl w.heap.size w)
 have H : (if (l0.length : Int) = (l1.length : Int) then (laws_eqLocaleS.l0 k l0 l1 0) else (some false)) = some r := h
 clear h
 by_cases c3 : (l0.length : Int) = (l1.length : Int)
 ·rw [if_pos c3] at H
  have c3b0 : ((l0.length : Int) == (l1.length : Int)) = true := beq_iff_eq.mpr c3
  have c3b1 : ((l0.length : Int) != (l1.length : Int)) = false := bne_eq_false_iff_eq.mpr c3
  have c3b2 : (l0.length == l1.length) = true := by first|simpa using c3|(simp at c3 ⊢;omega)
  clear c3
  have H' := Aside0.mk H
  clear H
  go_enter Try.func20,Try.ntmps20
  go_wp2
  go_loopg [5] k (fun kq v5 w' => ∃ (x5_1 : Int),v5 = .int .i64 x5_1 ∧ Aside0 (laws_eqLocaleS.l0 kq l0 l1 x5_1 = some r) ∧ Aside0 (kq ≤ k) ∧ Aside0 (Below w.heap.size w w'))
  case atStart => exact ⟨(0),(by first|rfl|(simp;done)|(simp [my_isEmpty];done)|(simp [*];done)),H',⟨Nat.le_refl _⟩,⟨by repeat (first|(with_reducible first|exact HB.out|apply lA|apply lN|apply lD)|exact HB.out)⟩⟩
  case round =>
   clear H'
   try clear c1
   try clear c2
   try clear p2
   try clear c3
   try clear c3b0
   try clear c3b1
   try clear c3b2
   obtain ⟨x5_1,rfl,HA,HK1,HB⟩ := hrel
   cases gk with
   | zero => exact absurd HA.out (by simp [laws_eqLocaleS.l0])
   | succ k1 =>
    have H := HA.out
    clear HA
    simp only [laws_eqLocaleS.l0] at H
    by_cases c4 : x5_1 < (l0.length : Int)
    ·rw [if_pos c4] at H
     have c4b0 : decide (x5_1 < (l0.length : Int)) = true := decide_eq_true c4
     clear c4
     by_cases c5 : 0 ≤ x5_1
     ·rw [if_pos c5] at H
      have c5b0 : decide (0 ≤ x5_1) = true := decide_eq_true c5
      clear c5
      by_cases c6 : x5_1 < (l1.length : Int)
      ·rw [if_pos c6] at H
       have c6b0 : decide (x5_1 < (l1.length : Int)) = true := decide_eq_true c6
       clear c6
       replace H := Option.bind_eq_some_iff.mp H
       obtain ⟨t485,A70,H⟩ := H
       replace H : (if t485 = true then (laws_eqLocaleS.l0 k1 l0 l1 (wrap64 (x5_1 + 1))) else (some false)) = some r := H
       have A7 := Aside0.mk A70
       clear A70
       by_cases c8 : t485 = true
       ·subst c8
        have H1 : (laws_eqLocaleS.l0 k1 l0 l1 (wrap64 (x5_1 + 1))) = some r := by rw [if_pos rfl] at H;exact H
        clear H
        have H := H1
        clear H1
        have H' := Aside0.mk H
        clear H
        try go_wp2
        have n0_ := Aside0.mk (lD HB.out)
        clear HB
        have HB := n0_
        clear n0_
        have p483 : 0 ≤ (x5_1 : Int) := of_decide_eq_true (by first|(with_reducible assumption)|assumption)
        have q483 : x5_1 < (l0.length : Int) := of_decide_eq_true (by first|(with_reducible assumption)|assumption)
        obtain ⟨ad483,A483_1,c483_1,A483_2,c483_2,e483,hx483_0,hx483_1,hx483_2,hx483_3,hx483_4,hl483_1,hi483_1,hl483_2,hi483_2⟩ := at_T31 HR0.out x5_1 p483 q483
        have hw483_4 := hx483_4
        have hw483_3 := hx483_3
        have hw483_2 := hx483_2
        have hw483_1 := hx483_1
        have hw483_0 := hx483_0
        cases e483
        replace hx483_0 := (HB.out.cell (World.block_lt_of_cell? w _ hx483_0)).trans hx483_0
        replace hx483_1 := (HB.out.cell (World.block_lt_of_cell? w _ hx483_1)).trans hx483_1
        replace hx483_2 := (HB.out.cell (World.block_lt_of_cell? w _ hx483_2)).trans hx483_2
        replace hx483_3 := (HB.out.cell (World.block_lt_of_cell? w _ hx483_3)).trans hx483_3
        replace hx483_4 := (HB.out.cell (World.block_lt_of_cell? w _ hx483_4)).trans hx483_4
        have HR483_1 := Aside0.mk hi483_1
        have HC483_1 := Aside0.mk hl483_1
        clear hi483_1 hl483_1
        have HR483_2 := Aside0.mk hi483_2
        have HC483_2 := Aside0.mk hl483_2
        clear hi483_2 hl483_2
        replace p483 := eq_true p483
        replace q483 := eq_true q483
        have p484 : 0 ≤ (x5_1 : Int) := of_decide_eq_true (by first|(with_reducible assumption)|assumption)
        have q484 : x5_1 < (l1.length : Int) := of_decide_eq_true (by first|(with_reducible assumption)|assumption)
        obtain ⟨ad484,A484_1,c484_1,A484_2,c484_2,e484,hx484_0,hx484_1,hx484_2,hx484_3,hx484_4,hl484_1,hi484_1,hl484_2,hi484_2⟩ := at_T31 HR1.out x5_1 p484 q484
        have hw484_4 := hx484_4
        have hw484_3 := hx484_3
        have hw484_2 := hx484_2
        have hw484_1 := hx484_1
        have hw484_0 := hx484_0
        cases e484
        replace hx484_0 := (HB.out.cell (World.block_lt_of_cell? w _ hx484_0)).trans hx484_0
        replace hx484_1 := (HB.out.cell (World.block_lt_of_cell? w _ hx484_1)).trans hx484_1
        replace hx484_2 := (HB.out.cell (World.block_lt_of_cell? w _ hx484_2)).trans hx484_2
        replace hx484_3 := (HB.out.cell (World.block_lt_of_cell? w _ hx484_3)).trans hx484_3
        replace hx484_4 := (HB.out.cell (World.block_lt_of_cell? w _ hx484_4)).trans hx484_4
        have HR484_1 := Aside0.mk hi484_1
        have HC484_1 := Aside0.mk hl484_1
        clear hi484_1 hl484_1
        have HR484_2 := Aside0.mk hi484_2
        have HC484_2 := Aside0.mk hl484_2
        clear hi484_2 hl484_2
        replace p484 := eq_true p484
        replace q484 := eq_true q484
        refine start_ (n := 10) (S := fun w' => w'.cell? (ad483.add ((x5_1).toNat * 5)) = some (.string ((rd_T31 l0 x5_1).f0)) ∧ w'.cell? ⟨(ad483.add ((x5_1).toNat * 5)).block,(ad483.add ((x5_1).toNat * 5)).off + 1,none⟩ = some (.slice A483_1 ((rd_T31 l0 x5_1).f1).length c483_1) ∧ w'.cell? ⟨(ad483.add ((x5_1).toNat * 5)).block,(ad483.add ((x5_1).toNat * 5)).off + 2,none⟩ = some (.slice A483_2 ((rd_T31 l0 x5_1).f2).length c483_2) ∧ w'.cell? ⟨(ad483.add ((x5_1).toNat * 5)).block,(ad483.add ((x5_1).toNat * 5)).off + 3,none⟩ = some (.string ((rd_T31 l0 x5_1).f3)) ∧ w'.cell? ⟨(ad483.add ((x5_1).toNat * 5)).block,(ad483.add ((x5_1).toNat * 5)).off + 4,none⟩ = some (.string ((rd_T31 l0 x5_1).f4)) ∧ w'.cell? (ad484.add ((x5_1).toNat * 5)) = some (.string ((rd_T31 l1 x5_1).f0)) ∧ w'.cell? ⟨(ad484.add ((x5_1).toNat * 5)).block,(ad484.add ((x5_1).toNat * 5)).off + 1,none⟩ = some (.slice A484_1 ((rd_T31 l1 x5_1).f1).length c484_1) ∧ w'.cell? ⟨(ad484.add ((x5_1).toNat * 5)).block,(ad484.add ((x5_1).toNat * 5)).off + 2,none⟩ = some (.slice A484_2 ((rd_T31 l1 x5_1).f2).length c484_2) ∧ w'.cell? ⟨(ad484.add ((x5_1).toNat * 5)).block,(ad484.add ((x5_1).toNat * 5)).off + 3,none⟩ = some (.string ((rd_T31 l1 x5_1).f3)) ∧ w'.cell? ⟨(ad484.add ((x5_1).toNat * 5)).block,(ad484.add ((x5_1).toNat * 5)).off + 4,none⟩ = some (.string ((rd_T31 l1 x5_1).f4))) (ds := []) #[false,false,false,false,false,false,false,false,false,false] (by kernel_rfl) rfl rfl ⟨((HB.out.cell (World.block_lt_of_cell? w _ hw483_0)).trans hw483_0),((HB.out.cell (World.block_lt_of_cell? w _ hw483_1)).trans hw483_1),((HB.out.cell (World.block_lt_of_cell? w _ hw483_2)).trans hw483_2),((HB.out.cell (World.block_lt_of_cell? w _ hw483_3)).trans hw483_3),((HB.out.cell (World.block_lt_of_cell? w _ hw483_4)).trans hw483_4),((HB.out.cell (World.block_lt_of_cell? w _ hw484_0)).trans hw484_0),((HB.out.cell (World.block_lt_of_cell? w _ hw484_1)).trans hw484_1),((HB.out.cell (World.block_lt_of_cell? w _ hw484_2)).trans hw484_2),((HB.out.cell (World.block_lt_of_cell? w _ hw484_3)).trans hw484_3),((HB.out.cell (World.block_lt_of_cell? w _ hw484_4)).trans hw484_4)⟩ (fun hHeld => ?_);refine with_tabW laws_eqLocaleS.tab6 laws_eqLocaleS.bits6 (fun HT_ HW_ => ?_)
        generalize wr.drew = w9 at HB HR483_1 HR483_2 HR484_1 HR484_2 hx483_0 hx483_1 hx483_2 hx483_3 hx483_4 hx484_0 hx484_1 hx484_2 hx484_3 hx484_4 hHeld ⊢
        refine pure_ (i := 0) (N := some 17) (v := ?_) (a' := ?_) #[true,false,false,false,false,false,false,false,false,false] rfl rfl (any_of HT_.out (by kernel_rfl)) (fun _ _ _ h => h) (Or.inl ⟨by rfl,?_⟩) ?_ ?_
        rotate_left
        ·intro w'
         go_simp
         with_reducible rfl
        rotate_left
        ·simp only [Act.put,List.setIfInBounds_toArray,List.set_cons_zero,List.set_cons_succ,i64_w,i32_w]
         rfl
        refine pure_ (i := 1) (N := some 18) (v := ?_) (a' := ?_) #[true,true,false,false,false,false,false,false,false,false] rfl rfl (any_of HT_.out (by kernel_rfl)) (fun _ _ _ h => h) (Or.inl ⟨by rfl,?_⟩) ?_ ?_
        rotate_left
        ·intro w'
         go_simp
         with_reducible rfl
        rotate_left
        ·simp only [Act.put,List.setIfInBounds_toArray,List.set_cons_zero,List.set_cons_succ,i64_w,i32_w]
         rfl
        refine pure_ (i := 2) (N := some 19) (v := ?_) (a' := ?_) #[true,true,true,false,false,false,false,false,false,false] rfl rfl (any_of HT_.out (by kernel_rfl)) (fun _ _ _ h => h) (Or.inl ⟨by rfl,?_⟩) ?_ ?_
        rotate_left
        ·intro w'
         go_simp
         with_reducible rfl
        rotate_left
        ·simp only [Act.put,List.setIfInBounds_toArray,List.set_cons_zero,List.set_cons_succ,i64_w,i32_w]
         rfl
        refine pure_ (i := 4) (N := some 21) (v := ?_) (a' := ?_) #[true,true,true,false,true,false,false,false,false,false] rfl rfl (any_of HT_.out (by kernel_rfl)) (fun _ _ _ h => h) (Or.inl ⟨by rfl,?_⟩) ?_ ?_
        rotate_left
        ·intro w'
         go_simp
         with_reducible rfl
        rotate_left
        ·simp only [Act.put,List.setIfInBounds_toArray,List.set_cons_zero,List.set_cons_succ,i64_w,i32_w]
         rfl
        refine pure_ (i := 5) (N := some 22) (v := ?_) (a' := ?_) #[true,true,true,false,true,true,false,false,false,false] rfl rfl (any_of HT_.out (by kernel_rfl)) (fun _ _ _ h => h) (Or.inl ⟨by rfl,?_⟩) ?_ ?_
        rotate_left
        ·intro w'
         go_simp
         with_reducible rfl
        rotate_left
        ·simp only [Act.put,List.setIfInBounds_toArray,List.set_cons_zero,List.set_cons_succ,i64_w,i32_w]
         rfl
        refine pure_ (i := 6) (N := some 23) (v := ?_) (a' := ?_) #[true,true,true,false,true,true,true,false,false,false] rfl rfl (any_of HT_.out (by kernel_rfl)) (fun _ _ _ h => h) (Or.inl ⟨by rfl,?_⟩) ?_ ?_
        rotate_left
        ·intro w'
         go_simp
         with_reducible rfl
        rotate_left
        ·simp only [Act.put,List.setIfInBounds_toArray,List.set_cons_zero,List.set_cons_succ,i64_w,i32_w]
         rfl
        refine take_ (i := 3) (N := some 20) (v := ?_) (a' := ?_) #[true,true,true,true,true,true,true,false,false,false] rfl rfl (take_ofW HT_.out HW_.out (by kernel_rfl)) (fun _ _ _ h => h) (Or.inl ⟨by rfl,?_⟩) hHeld ?_ ?_
        rotate_left
        ·rintro w' ⟨s0,s1,s2,s3,s4,s5,s6,s7,s8,s9⟩
         go_simp
         with_reducible rfl
        rotate_left
        ·simp only [Act.put,List.setIfInBounds_toArray,List.set_cons_zero,List.set_cons_succ,i64_w,i32_w]
         rfl
        refine take_ (i := 7) (N := some 24) (v := ?_) (a' := ?_) #[true,true,true,true,true,true,true,true,false,false] rfl rfl (take_ofW HT_.out HW_.out (by kernel_rfl)) (fun _ _ _ h => h) (Or.inl ⟨by rfl,?_⟩) hHeld ?_ ?_
        rotate_left
        ·rintro w' ⟨s0,s1,s2,s3,s4,s5,s6,s7,s8,s9⟩
         go_simp
         with_reducible rfl
        rotate_left
        ·simp only [Act.put,List.setIfInBounds_toArray,List.set_cons_zero,List.set_cons_succ,i64_w,i32_w]
         rfl
        refine one_ (i := 8) (N := some 25) #[true,true,true,true,true,true,true,true,true,false] rfl rfl (one_of HT_.out (by kernel_rfl)) (by decide) (fun K hK => ?_)
        refine goes_ Try.func13 (by kernel_rfl) rfl #[.agg #[.string ((rd_T31 l0 x5_1).f0),.slice A483_1 ((rd_T31 l0 x5_1).f1).length c483_1,.slice A483_2 ((rd_T31 l0 x5_1).f2).length c483_2,.string ((rd_T31 l0 x5_1).f3),.string ((rd_T31 l0 x5_1).f4)],.agg #[.string ((rd_T31 l1 x5_1).f0),.slice A484_1 ((rd_T31 l1 x5_1).f1).length c484_1,.slice A484_2 ((rd_T31 l1 x5_1).f2).length c484_2,.string ((rd_T31 l1 x5_1).f3),.string ((rd_T31 l1 x5_1).f4)]] (by rfl) rfl rfl (by (try simp only [List.map_toArray,List.map_cons,List.map_nil]);first|done|rfl|(simp only [List.length_drop,List.length_take];rfl)) ?_
        with_reducible refine (laws_eqLocale.calls k1 ((rd_T31 l0 x5_1).f0) _ _ ((rd_T31 l0 x5_1).f1) _ _ ((rd_T31 l0 x5_1).f2) ((rd_T31 l0 x5_1).f3) ((rd_T31 l0 x5_1).f4) ((rd_T31 l1 x5_1).f0) _ _ ((rd_T31 l1 x5_1).f1) _ _ ((rd_T31 l1 x5_1).f2) ((rd_T31 l1 x5_1).f3) ((rd_T31 l1 x5_1).f4) true _ ?side1 ?side2 ?side3 ?side4 ?side5 ?side6 ?side7 ?side8 A7.out).mono ?_
        (case side1 => repeat (first|exact (Kd.C_below HR483_1.out HB.out)|(with_reducible refine Kd.C_alloc ?_ _)|(with_reducible refine Kd.C_drewN ?_ _)|(with_reducible refine Kd.C_drew ?_)))
        (case side2 => exact HC483_1.out)
        (case side3 => repeat (first|exact (Kd.C_below HR483_2.out HB.out)|(with_reducible refine Kd.C_alloc ?_ _)|(with_reducible refine Kd.C_drewN ?_ _)|(with_reducible refine Kd.C_drew ?_)))
        (case side4 => exact HC483_2.out)
        (case side5 => repeat (first|exact (Kd.C_below HR484_1.out HB.out)|(with_reducible refine Kd.C_alloc ?_ _)|(with_reducible refine Kd.C_drewN ?_ _)|(with_reducible refine Kd.C_drew ?_)))
        (case side6 => exact HC484_1.out)
        (case side7 => repeat (first|exact (Kd.C_below HR484_2.out HB.out)|(with_reducible refine Kd.C_alloc ?_ _)|(with_reducible refine Kd.C_drewN ?_ _)|(with_reducible refine Kd.C_drew ?_)))
        (case side8 => exact HC484_2.out)
        rintro e w10 ⟨rfl,hb⟩
        refine ⟨_,rfl,?_⟩
        have n0_ := Aside0.mk (below_step (by repeat (first|(with_reducible first|exact HB.out|apply lA|apply lN|apply lD)|exact HB.out)) hb)
        clear HB
        have HB := n0_
        clear n0_
        (try clear hb)
        (try clear hb2)
        (try clear hk)
        (try clear hi)
        refine hK.out _ _ ⟨((HB.out.cell (World.block_lt_of_cell? w _ hw483_0)).trans hw483_0),((HB.out.cell (World.block_lt_of_cell? w _ hw483_1)).trans hw483_1),((HB.out.cell (World.block_lt_of_cell? w _ hw483_2)).trans hw483_2),((HB.out.cell (World.block_lt_of_cell? w _ hw483_3)).trans hw483_3),((HB.out.cell (World.block_lt_of_cell? w _ hw483_4)).trans hw483_4),((HB.out.cell (World.block_lt_of_cell? w _ hw484_0)).trans hw484_0),((HB.out.cell (World.block_lt_of_cell? w _ hw484_1)).trans hw484_1),((HB.out.cell (World.block_lt_of_cell? w _ hw484_2)).trans hw484_2),((HB.out.cell (World.block_lt_of_cell? w _ hw484_3)).trans hw484_3),((HB.out.cell (World.block_lt_of_cell? w _ hw484_4)).trans hw484_4)⟩ (fun hHeld => ?_)
        clear hK K
        refine norm_ (a' := ?_) ?_ ?_
        rotate_left
        ·show Act.put _ (some 25) _ = _
         simp only [Act.put,List.setIfInBounds_toArray,List.set_cons_zero,List.set_cons_succ,i64_w,i32_w]
         rfl
        refine pure_ (i := 9) (N := some 26) (v := ?_) (a' := ?_) #[true,true,true,true,true,true,true,true,true,true] rfl rfl (any_of HT_.out (by kernel_rfl)) (fun _ _ _ h => h) (Or.inl ⟨by rfl,?_⟩) ?_ ?_
        rotate_left
        ·intro w'
         go_simp
         with_reducible rfl
        rotate_left
        ·simp only [Act.put,List.setIfInBounds_toArray,List.set_cons_zero,List.set_cons_succ,i64_w,i32_w]
         rfl
        refine done_ (done_of HT_.out (by kernel_rfl)) ?_
        try go_wp2
        go_roundg k1
        case measure => have := HK1.out;omega
        case rel => exact ⟨(wrap64 (x5_1 + 1)),(by first|rfl|(simp;done)|(simp [my_isEmpty];done)|(simp [*];done)),H',⟨by have := HK1.out;omega⟩,⟨by repeat (first|(with_reducible first|exact HB.out|apply lA|apply lN|apply lD)|exact HB.out)⟩⟩
       ·replace c8 := Bool.eq_false_iff.mpr c8
        subst c8
        have H1 : (some false) = some r := by rw [if_neg (show ¬ (false = true) by decide)] at H;exact H
        clear H
        have H := H1
        clear H1
        obtain rfl := Option.some.inj H
        simp only [Option.some.injEq,Prod.mk.injEq] at H
        obtain ⟨rfl⟩ := H
        try go_wp2
        have n0_ := Aside0.mk (lD HB.out)
        clear HB
        have HB := n0_
        clear n0_
        have p483 : 0 ≤ (x5_1 : Int) := of_decide_eq_true (by first|(with_reducible assumption)|assumption)
        have q483 : x5_1 < (l0.length : Int) := of_decide_eq_true (by first|(with_reducible assumption)|assumption)
        obtain ⟨ad483,A483_1,c483_1,A483_2,c483_2,e483,hx483_0,hx483_1,hx483_2,hx483_3,hx483_4,hl483_1,hi483_1,hl483_2,hi483_2⟩ := at_T31 HR0.out x5_1 p483 q483
        have hw483_4 := hx483_4
        have hw483_3 := hx483_3
        have hw483_2 := hx483_2
        have hw483_1 := hx483_1
        have hw483_0 := hx483_0
        cases e483
        replace hx483_0 := (HB.out.cell (World.block_lt_of_cell? w _ hx483_0)).trans hx483_0
        replace hx483_1 := (HB.out.cell (World.block_lt_of_cell? w _ hx483_1)).trans hx483_1
        replace hx483_2 := (HB.out.cell (World.block_lt_of_cell? w _ hx483_2)).trans hx483_2
        replace hx483_3 := (HB.out.cell (World.block_lt_of_cell? w _ hx483_3)).trans hx483_3
        replace hx483_4 := (HB.out.cell (World.block_lt_of_cell? w _ hx483_4)).trans hx483_4
        have HR483_1 := Aside0.mk hi483_1
        have HC483_1 := Aside0.mk hl483_1
        clear hi483_1 hl483_1
        have HR483_2 := Aside0.mk hi483_2
        have HC483_2 := Aside0.mk hl483_2
        clear hi483_2 hl483_2
        replace p483 := eq_true p483
        replace q483 := eq_true q483
        have p484 : 0 ≤ (x5_1 : Int) := of_decide_eq_true (by first|(with_reducible assumption)|assumption)
        have q484 : x5_1 < (l1.length : Int) := of_decide_eq_true (by first|(with_reducible assumption)|assumption)
        obtain ⟨ad484,A484_1,c484_1,A484_2,c484_2,e484,hx484_0,hx484_1,hx484_2,hx484_3,hx484_4,hl484_1,hi484_1,hl484_2,hi484_2⟩ := at_T31 HR1.out x5_1 p484 q484
        have hw484_4 := hx484_4
        have hw484_3 := hx484_3
        have hw484_2 := hx484_2
        have hw484_1 := hx484_1
        have hw484_0 := hx484_0
        cases e484
        replace hx484_0 := (HB.out.cell (World.block_lt_of_cell? w _ hx484_0)).trans hx484_0
        replace hx484_1 := (HB.out.cell (World.block_lt_of_cell? w _ hx484_1)).trans hx484_1
        replace hx484_2 := (HB.out.cell (World.block_lt_of_cell? w _ hx484_2)).trans hx484_2
        replace hx484_3 := (HB.out.cell (World.block_lt_of_cell? w _ hx484_3)).trans hx484_3
        replace hx484_4 := (HB.out.cell (World.block_lt_of_cell? w _ hx484_4)).trans hx484_4
        have HR484_1 := Aside0.mk hi484_1
        have HC484_1 := Aside0.mk hl484_1
        clear hi484_1 hl484_1
        have HR484_2 := Aside0.mk hi484_2
        have HC484_2 := Aside0.mk hl484_2
        clear hi484_2 hl484_2
        replace p484 := eq_true p484
        replace q484 := eq_true q484
        refine start_ (n := 10) (S := fun w' => w'.cell? (ad483.add ((x5_1).toNat * 5)) = some (.string ((rd_T31 l0 x5_1).f0)) ∧ w'.cell? ⟨(ad483.add ((x5_1).toNat * 5)).block,(ad483.add ((x5_1).toNat * 5)).off + 1,none⟩ = some (.slice A483_1 ((rd_T31 l0 x5_1).f1).length c483_1) ∧ w'.cell? ⟨(ad483.add ((x5_1).toNat * 5)).block,(ad483.add ((x5_1).toNat * 5)).off + 2,none⟩ = some (.slice A483_2 ((rd_T31 l0 x5_1).f2).length c483_2) ∧ w'.cell? ⟨(ad483.add ((x5_1).toNat * 5)).block,(ad483.add ((x5_1).toNat * 5)).off + 3,none⟩ = some (.string ((rd_T31 l0 x5_1).f3)) ∧ w'.cell? ⟨(ad483.add ((x5_1).toNat * 5)).block,(ad483.add ((x5_1).toNat * 5)).off + 4,none⟩ = some (.string ((rd_T31 l0 x5_1).f4)) ∧ w'.cell? (ad484.add ((x5_1).toNat * 5)) = some (.string ((rd_T31 l1 x5_1).f0)) ∧ w'.cell? ⟨(ad484.add ((x5_1).toNat * 5)).block,(ad484.add ((x5_1).toNat * 5)).off + 1,none⟩ = some (.slice A484_1 ((rd_T31 l1 x5_1).f1).length c484_1) ∧ w'.cell? ⟨(ad484.add ((x5_1).toNat * 5)).block,(ad484.add ((x5_1).toNat * 5)).off + 2,none⟩ = some (.slice A484_2 ((rd_T31 l1 x5_1).f2).length c484_2) ∧ w'.cell? ⟨(ad484.add ((x5_1).toNat * 5)).block,(ad484.add ((x5_1).toNat * 5)).off + 3,none⟩ = some (.string ((rd_T31 l1 x5_1).f3)) ∧ w'.cell? ⟨(ad484.add ((x5_1).toNat * 5)).block,(ad484.add ((x5_1).toNat * 5)).off + 4,none⟩ = some (.string ((rd_T31 l1 x5_1).f4))) (ds := []) #[false,false,false,false,false,false,false,false,false,false] (by kernel_rfl) rfl rfl ⟨((HB.out.cell (World.block_lt_of_cell? w _ hw483_0)).trans hw483_0),((HB.out.cell (World.block_lt_of_cell? w _ hw483_1)).trans hw483_1),((HB.out.cell (World.block_lt_of_cell? w _ hw483_2)).trans hw483_2),((HB.out.cell (World.block_lt_of_cell? w _ hw483_3)).trans hw483_3),((HB.out.cell (World.block_lt_of_cell? w _ hw483_4)).trans hw483_4),((HB.out.cell (World.block_lt_of_cell? w _ hw484_0)).trans hw484_0),((HB.out.cell (World.block_lt_of_cell? w _ hw484_1)).trans hw484_1),((HB.out.cell (World.block_lt_of_cell? w _ hw484_2)).trans hw484_2),((HB.out.cell (World.block_lt_of_cell? w _ hw484_3)).trans hw484_3),((HB.out.cell (World.block_lt_of_cell? w _ hw484_4)).trans hw484_4)⟩ (fun hHeld => ?_);refine with_tabW laws_eqLocaleS.tab6 laws_eqLocaleS.bits6 (fun HT_ HW_ => ?_)
        generalize wr.drew = w11 at HB HR483_1 HR483_2 HR484_1 HR484_2 hx483_0 hx483_1 hx483_2 hx483_3 hx483_4 hx484_0 hx484_1 hx484_2 hx484_3 hx484_4 hHeld ⊢
        refine pure_ (i := 0) (N := some 17) (v := ?_) (a' := ?_) #[true,false,false,false,false,false,false,false,false,false] rfl rfl (any_of HT_.out (by kernel_rfl)) (fun _ _ _ h => h) (Or.inl ⟨by rfl,?_⟩) ?_ ?_
        rotate_left
        ·intro w'
         go_simp
         with_reducible rfl
        rotate_left
        ·simp only [Act.put,List.setIfInBounds_toArray,List.set_cons_zero,List.set_cons_succ,i64_w,i32_w]
         rfl
        refine pure_ (i := 1) (N := some 18) (v := ?_) (a' := ?_) #[true,true,false,false,false,false,false,false,false,false] rfl rfl (any_of HT_.out (by kernel_rfl)) (fun _ _ _ h => h) (Or.inl ⟨by rfl,?_⟩) ?_ ?_
        rotate_left
        ·intro w'
         go_simp
         with_reducible rfl
        rotate_left
        ·simp only [Act.put,List.setIfInBounds_toArray,List.set_cons_zero,List.set_cons_succ,i64_w,i32_w]
         rfl
        refine pure_ (i := 2) (N := some 19) (v := ?_) (a' := ?_) #[true,true,true,false,false,false,false,false,false,false] rfl rfl (any_of HT_.out (by kernel_rfl)) (fun _ _ _ h => h) (Or.inl ⟨by rfl,?_⟩) ?_ ?_
        rotate_left
        ·intro w'
         go_simp
         with_reducible rfl
        rotate_left
        ·simp only [Act.put,List.setIfInBounds_toArray,List.set_cons_zero,List.set_cons_succ,i64_w,i32_w]
         rfl
        refine pure_ (i := 4) (N := some 21) (v := ?_) (a' := ?_) #[true,true,true,false,true,false,false,false,false,false] rfl rfl (any_of HT_.out (by kernel_rfl)) (fun _ _ _ h => h) (Or.inl ⟨by rfl,?_⟩) ?_ ?_
        rotate_left
        ·intro w'
         go_simp
         with_reducible rfl
        rotate_left
        ·simp only [Act.put,List.setIfInBounds_toArray,List.set_cons_zero,List.set_cons_succ,i64_w,i32_w]
         rfl
        refine pure_ (i := 5) (N := some 22) (v := ?_) (a' := ?_) #[true,true,true,false,true,true,false,false,false,false] rfl rfl (any_of HT_.out (by kernel_rfl)) (fun _ _ _ h => h) (Or.inl ⟨by rfl,?_⟩) ?_ ?_
        rotate_left
        ·intro w'
         go_simp
         with_reducible rfl
        rotate_left
        ·simp only [Act.put,List.setIfInBounds_toArray,List.set_cons_zero,List.set_cons_succ,i64_w,i32_w]
         rfl
        refine pure_ (i := 6) (N := some 23) (v := ?_) (a' := ?_) #[true,true,true,false,true,true,true,false,false,false] rfl rfl (any_of HT_.out (by kernel_rfl)) (fun _ _ _ h => h) (Or.inl ⟨by rfl,?_⟩) ?_ ?_
        rotate_left
        ·intro w'
         go_simp
         with_reducible rfl
        rotate_left
        ·simp only [Act.put,List.setIfInBounds_toArray,List.set_cons_zero,List.set_cons_succ,i64_w,i32_w]
         rfl
        refine take_ (i := 3) (N := some 20) (v := ?_) (a' := ?_) #[true,true,true,true,true,true,true,false,false,false] rfl rfl (take_ofW HT_.out HW_.out (by kernel_rfl)) (fun _ _ _ h => h) (Or.inl ⟨by rfl,?_⟩) hHeld ?_ ?_
        rotate_left
        ·rintro w' ⟨s0,s1,s2,s3,s4,s5,s6,s7,s8,s9⟩
         go_simp
         with_reducible rfl
        rotate_left
        ·simp only [Act.put,List.setIfInBounds_toArray,List.set_cons_zero,List.set_cons_succ,i64_w,i32_w]
         rfl
        refine take_ (i := 7) (N := some 24) (v := ?_) (a' := ?_) #[true,true,true,true,true,true,true,true,false,false] rfl rfl (take_ofW HT_.out HW_.out (by kernel_rfl)) (fun _ _ _ h => h) (Or.inl ⟨by rfl,?_⟩) hHeld ?_ ?_
        rotate_left
        ·rintro w' ⟨s0,s1,s2,s3,s4,s5,s6,s7,s8,s9⟩
         go_simp
         with_reducible rfl
        rotate_left
        ·simp only [Act.put,List.setIfInBounds_toArray,List.set_cons_zero,List.set_cons_succ,i64_w,i32_w]
         rfl
        refine one_ (i := 8) (N := some 25) #[true,true,true,true,true,true,true,true,true,false] rfl rfl (one_of HT_.out (by kernel_rfl)) (by decide) (fun K hK => ?_)
        refine goes_ Try.func13 (by kernel_rfl) rfl #[.agg #[.string ((rd_T31 l0 x5_1).f0),.slice A483_1 ((rd_T31 l0 x5_1).f1).length c483_1,.slice A483_2 ((rd_T31 l0 x5_1).f2).length c483_2,.string ((rd_T31 l0 x5_1).f3),.string ((rd_T31 l0 x5_1).f4)],.agg #[.string ((rd_T31 l1 x5_1).f0),.slice A484_1 ((rd_T31 l1 x5_1).f1).length c484_1,.slice A484_2 ((rd_T31 l1 x5_1).f2).length c484_2,.string ((rd_T31 l1 x5_1).f3),.string ((rd_T31 l1 x5_1).f4)]] (by rfl) rfl rfl (by (try simp only [List.map_toArray,List.map_cons,List.map_nil]);first|done|rfl|(simp only [List.length_drop,List.length_take];rfl)) ?_
        with_reducible refine (laws_eqLocale.calls k1 ((rd_T31 l0 x5_1).f0) _ _ ((rd_T31 l0 x5_1).f1) _ _ ((rd_T31 l0 x5_1).f2) ((rd_T31 l0 x5_1).f3) ((rd_T31 l0 x5_1).f4) ((rd_T31 l1 x5_1).f0) _ _ ((rd_T31 l1 x5_1).f1) _ _ ((rd_T31 l1 x5_1).f2) ((rd_T31 l1 x5_1).f3) ((rd_T31 l1 x5_1).f4) false _ ?side1 ?side2 ?side3 ?side4 ?side5 ?side6 ?side7 ?side8 A7.out).mono ?_
        (case side1 => repeat (first|exact (Kd.C_below HR483_1.out HB.out)|(with_reducible refine Kd.C_alloc ?_ _)|(with_reducible refine Kd.C_drewN ?_ _)|(with_reducible refine Kd.C_drew ?_)))
        (case side2 => exact HC483_1.out)
        (case side3 => repeat (first|exact (Kd.C_below HR483_2.out HB.out)|(with_reducible refine Kd.C_alloc ?_ _)|(with_reducible refine Kd.C_drewN ?_ _)|(with_reducible refine Kd.C_drew ?_)))
        (case side4 => exact HC483_2.out)
        (case side5 => repeat (first|exact (Kd.C_below HR484_1.out HB.out)|(with_reducible refine Kd.C_alloc ?_ _)|(with_reducible refine Kd.C_drewN ?_ _)|(with_reducible refine Kd.C_drew ?_)))
        (case side6 => exact HC484_1.out)
        (case side7 => repeat (first|exact (Kd.C_below HR484_2.out HB.out)|(with_reducible refine Kd.C_alloc ?_ _)|(with_reducible refine Kd.C_drewN ?_ _)|(with_reducible refine Kd.C_drew ?_)))
        (case side8 => exact HC484_2.out)
        rintro e w12 ⟨rfl,hb⟩
        refine ⟨_,rfl,?_⟩
        have n0_ := Aside0.mk (below_step (by repeat (first|(with_reducible first|exact HB.out|apply lA|apply lN|apply lD)|exact HB.out)) hb)
        clear HB
        have HB := n0_
        clear n0_
        (try clear hb)
        (try clear hb2)
        (try clear hk)
        (try clear hi)
        refine hK.out _ _ ⟨((HB.out.cell (World.block_lt_of_cell? w _ hw483_0)).trans hw483_0),((HB.out.cell (World.block_lt_of_cell? w _ hw483_1)).trans hw483_1),((HB.out.cell (World.block_lt_of_cell? w _ hw483_2)).trans hw483_2),((HB.out.cell (World.block_lt_of_cell? w _ hw483_3)).trans hw483_3),((HB.out.cell (World.block_lt_of_cell? w _ hw483_4)).trans hw483_4),((HB.out.cell (World.block_lt_of_cell? w _ hw484_0)).trans hw484_0),((HB.out.cell (World.block_lt_of_cell? w _ hw484_1)).trans hw484_1),((HB.out.cell (World.block_lt_of_cell? w _ hw484_2)).trans hw484_2),((HB.out.cell (World.block_lt_of_cell? w _ hw484_3)).trans hw484_3),((HB.out.cell (World.block_lt_of_cell? w _ hw484_4)).trans hw484_4)⟩ (fun hHeld => ?_)
        clear hK K
        refine norm_ (a' := ?_) ?_ ?_
        rotate_left
        ·show Act.put _ (some 25) _ = _
         simp only [Act.put,List.setIfInBounds_toArray,List.set_cons_zero,List.set_cons_succ,i64_w,i32_w]
         rfl
        refine pure_ (i := 9) (N := some 26) (v := ?_) (a' := ?_) #[true,true,true,true,true,true,true,true,true,true] rfl rfl (any_of HT_.out (by kernel_rfl)) (fun _ _ _ h => h) (Or.inl ⟨by rfl,?_⟩) ?_ ?_
        rotate_left
        ·intro w'
         go_simp
         with_reducible rfl
        rotate_left
        ·simp only [Act.put,List.setIfInBounds_toArray,List.set_cons_zero,List.set_cons_succ,i64_w,i32_w]
         rfl
        refine done_ (done_of HT_.out (by kernel_rfl)) ?_
        try go_wp2
        go_ret
        exact ⟨by first|rfl|(simp [errW_none,errW_some] <;> rfl)|(simp [*,errW_none,errW_some] <;> rfl),by repeat (first|(with_reducible first|exact HB.out|apply lA|apply lN|apply lD)|exact HB.out)⟩
      ·rw [if_neg c6] at H
       exact absurd H (by simp)
     ·rw [if_neg c5] at H
      exact absurd H (by simp)
    ·rw [if_neg c4] at H
     have c4b0 : decide (x5_1 < (l0.length : Int)) = false := decide_eq_false c4
     clear c4
     obtain rfl := Option.some.inj H
     simp only [Option.some.injEq,Prod.mk.injEq] at H
     obtain ⟨rfl⟩ := H
     go_wp2
     go_ret
     exact ⟨by first|rfl|(simp [errW_none,errW_some] <;> rfl)|(simp [*,errW_none,errW_some] <;> rfl),by repeat (first|(with_reducible first|exact HB.out|apply lA|apply lN|apply lD)|exact HB.out)⟩
 ·rw [if_neg c3] at H
  have c3b0 : ((l0.length : Int) == (l1.length : Int)) = false := beq_eq_false_iff_ne.mpr c3
  have c3b1 : ((l0.length : Int) != (l1.length : Int)) = true := bne_iff_ne.mpr c3
  have c3b2 : (l0.length == l1.length) = false := by first|simpa using c3|(simp at c3 ⊢;omega)
  obtain rfl := Option.some.inj H
  simp only [Option.some.injEq,Prod.mk.injEq] at H
  obtain ⟨rfl⟩ := H
  go_enter Try.func20,Try.ntmps20
  go_wp2
  go_ret
  exact ⟨by first|rfl|(simp [errW_none,errW_some] <;> rfl)|(simp [*,errW_none,errW_some] <;> rfl),by repeat (first|(with_reducible first|exact HB.out|apply lA|apply lN|apply lD)|exact HB.out)⟩
def laws_FnExactFallbackTerm.j0 : Nat → List (S25) → List (S31) → Bool → Option (Bool)
 | 0,_,_,_ => none
 | k + 1,x0,x11,x54 => if x54 = true then (some false) else ((laws_toLocaleS.f k x0).bind fun t499 => ((laws_eqLocaleS.f k x11 t499).bind fun t502 => (if t502 = true then (some true) else (some false))))
def laws_FnExactFallbackTerm.f (k : Nat) (l0 : List (S25)) (a1 : ByteArray) (a2 : Int) : Option (Bool) := if (a1.size : Int) > 1048576 then (some true) else ((laws_szLocaleS.f k l0 1048576).bind fun t486 => (if t486 < 0 then (some true) else ((laws_toLocaleS.f k l0).bind fun t487 => ((spec_FallbackTerm.f k t487 a1 a2).bind fun bt490 => ((laws_toLocaleS.f k l0).bind fun t493 => ((impl_FallbackTerm.f k t493 a1 a2).bind fun bt496 => (if bt496.1.toList = bt490.1.toList then (if bt496.2.1 = bt490.2.1 then (laws_FnExactFallbackTerm.j0 k l0 t493 (bt496.2.2 != bt490.2.2)) else (laws_FnExactFallbackTerm.j0 k l0 t493 true)) else (laws_FnExactFallbackTerm.j0 k l0 t493 true))))))))
theorem laws_FnExactFallbackTerm.mono_l : ∀ k,(∀ y0 y1 y2,LeO (laws_FnExactFallbackTerm.j0 k y0 y1 y2) (laws_FnExactFallbackTerm.j0 (k + 1) y0 y1 y2))
 | 0 => fun _ _ _ r h => by simp [laws_FnExactFallbackTerm.j0] at h
 | k + 1 => by
  have ih0 := laws_FnExactFallbackTerm.mono_l k
  ·intro y0 y1 y2
   unfold laws_FnExactFallbackTerm.j0
   repeat' first
   | (with_reducible exact ih0 _ _ _)
   | (with_reducible exact impl_FallbackTerm.mono _ _ _ _)
   | (with_reducible exact laws_eqLocaleS.mono _ _ _)
   | (with_reducible exact laws_szLocaleS.mono _ _ _)
   | (with_reducible exact laws_toLocaleS.mono _ _)
   | (with_reducible exact spec_FallbackTerm.mono _ _ _ _)
   | (with_reducible exact LeO.refl _)
   | (with_reducible exact LeO.none _)
   | (with_reducible refine LeO.ite ?_ ?_)
   | (with_reducible refine LeO.bind ?_ (fun _ => ?_))
   | exact ih0 _ _ _
   | exact impl_FallbackTerm.mono _ _ _ _
   | exact laws_eqLocaleS.mono _ _ _
   | exact laws_szLocaleS.mono _ _ _
   | exact laws_toLocaleS.mono _ _
   | exact spec_FallbackTerm.mono _ _ _ _
   | exact LeO.none _
   | refine LeO.ite ?_ ?_
   | refine LeO.bind ?_ (fun _ => ?_)
theorem laws_FnExactFallbackTerm.mono : ∀ a0 a1 a2 k,LeO (laws_FnExactFallbackTerm.f k a0 a1 a2) (laws_FnExactFallbackTerm.f (k + 1) a0 a1 a2) := by
 intro a0 a1 a2 k
 have ih0 := laws_FnExactFallbackTerm.mono_l k
 unfold laws_FnExactFallbackTerm.f
 repeat' first
   | (with_reducible exact ih0 _ _ _)
   | (with_reducible exact impl_FallbackTerm.mono _ _ _ _)
   | (with_reducible exact laws_eqLocaleS.mono _ _ _)
   | (with_reducible exact laws_szLocaleS.mono _ _ _)
   | (with_reducible exact laws_toLocaleS.mono _ _)
   | (with_reducible exact spec_FallbackTerm.mono _ _ _ _)
   | (with_reducible exact LeO.refl _)
   | (with_reducible exact LeO.none _)
   | (with_reducible refine LeO.ite ?_ ?_)
   | (with_reducible refine LeO.bind ?_ (fun _ => ?_))
   | exact ih0 _ _ _
   | exact impl_FallbackTerm.mono _ _ _ _
   | exact laws_eqLocaleS.mono _ _ _
   | exact laws_szLocaleS.mono _ _ _
   | exact laws_toLocaleS.mono _ _
   | exact spec_FallbackTerm.mono _ _ _ _
   | exact LeO.none _
   | refine LeO.ite ?_ ?_
   | refine LeO.bind ?_ (fun _ => ?_)
set_option maxHeartbeats 8000000 in
set_option maxRecDepth 100000 in
theorem laws_FnExactFallbackTerm.calls (k : Nat) (A0 : Option Addr) (c0 : Nat) (l0 : List (S25)) (a1 : ByteArray) (a2 : Int) (r : Bool) (w : World) (hr0 : Kd.C k25 w A0 l0.length l0) (hc0 : l0.length ≤ c0) (hr_ : r = true) (h : laws_FnExactFallbackTerm.f k l0 a1 a2 = some r) :
  Calls Try.prog 5 #[.slice A0 l0.length c0,.string a1,.int .i64 a2] w fun e w' => e = .returned (.bool r) ∧ Below w.heap.size w w' := by
 have HR0 := Aside0.mk hr0
 have HC0 := Aside0.mk hc0
 clear hr0 hc0
 have HB := Aside0.mk (Below.refl w.heap.size w)
 have H : (if (a1.size : Int) > 1048576 then (some true) else ((laws_szLocaleS.f k l0 1048576).bind fun t486 => (if t486 < 0 then (some true) else ((laws_toLocaleS.f k l0).bind fun t487 => ((spec_FallbackTerm.f k t487 a1 a2).bind fun bt490 => ((laws_toLocaleS.f k l0).bind fun t493 => ((impl_FallbackTerm.f k t493 a1 a2).bind fun bt496 => (if bt496.1.toList = bt490.1.toList then (if bt496.2.1 = bt490.2.1 then (laws_FnExactFallbackTerm.j0 k l0 t493 (bt496.2.2 != bt490.2.2)) else (laws_FnExactFallbackTerm.j0 k l0 t493 true)) else (laws_FnExactFallbackTerm.j0 k l0 t493 true))))))))) = some r := h
 clear h
 by_cases c4 : (a1.size : Int) > 1048576
 ·rw [if_pos c4] at H
  have c4b0 : decide (1048576 < (a1.size : Int)) = true := decide_eq_true c4
  have c4b1 : decide (1048576 < a1.size) = true := decide_eq_true (by omega)
  clear c4
  obtain rfl := Option.some.inj H
  try clear hr_
  go_enter Try.func5,Try.ntmps5
  go_wp2
  go_ret
  exact ⟨by first|rfl|(simp [errW_none,errW_some] <;> rfl)|(simp [*,errW_none,errW_some] <;> rfl),by repeat (first|(with_reducible first|exact HB.out|apply lA|apply lN|apply lD)|exact HB.out)⟩
 ·rw [if_neg c4] at H
  have c4b0 : decide (1048576 < (a1.size : Int)) = false := decide_eq_false c4
  have c4b1 : decide (1048576 < a1.size) = false := decide_eq_false (by omega)
  clear c4
  replace H := Option.bind_eq_some_iff.mp H
  obtain ⟨t486,A50,H⟩ := H
  replace H : (if t486 < 0 then (some true) else ((laws_toLocaleS.f k l0).bind fun t487 => ((spec_FallbackTerm.f k t487 a1 a2).bind fun bt490 => ((laws_toLocaleS.f k l0).bind fun t493 => ((impl_FallbackTerm.f k t493 a1 a2).bind fun bt496 => (if bt496.1.toList = bt490.1.toList then (if bt496.2.1 = bt490.2.1 then (laws_FnExactFallbackTerm.j0 k l0 t493 (bt496.2.2 != bt490.2.2)) else (laws_FnExactFallbackTerm.j0 k l0 t493 true)) else (laws_FnExactFallbackTerm.j0 k l0 t493 true))))))) = some r := H
  have A5 := Aside0.mk A50
  clear A50
  by_cases c6 : t486 < 0
  ·rw [if_pos c6] at H
   have c6b0 : decide (t486 < 0) = true := decide_eq_true c6
   clear c6
   obtain rfl := Option.some.inj H
   try clear hr_
   go_enter Try.func5,Try.ntmps5
   go_wp2_with (first|((with_reducible refine gate_callee (f := 16) rfl ?_);refine goesL_ (some 20) rfl rfl Try.func16 (by kernel_rfl) rfl #[.slice A0 l0.length c0,.int .i64 1048576] rfl (by (try simp only [List.map_toArray,List.map_cons,List.map_nil]);first|done|rfl|(simp only [List.length_drop,List.length_take];rfl)) ?_;(with_reducible refine (laws_szLocaleS.calls k _ _ l0 1048576 t486 _ ?side1 ?side2 A5.out).mono ?_);(case side1 => repeat (first|exact HR0.out|(with_reducible refine Kd.C_alloc ?_ _)|(with_reducible refine Kd.C_drewN ?_ _)|(with_reducible refine Kd.C_drew ?_)));(case side2 => exact HC0.out);rintro e w7 ⟨rfl,hb⟩;refine ⟨_,rfl,?_⟩;have n0_ := Aside0.mk (below_step (by repeat (first|(with_reducible first|exact HB.out|apply lA|apply lN|apply lD)|exact HB.out)) hb);clear HB;have HB := n0_;clear n0_;(try clear hb);(try clear hb2);(try clear hk);(try clear hi)))
   go_ret
   exact ⟨by first|rfl|(simp [errW_none,errW_some] <;> rfl)|(simp [*,errW_none,errW_some] <;> rfl),by repeat (first|(with_reducible first|exact HB.out|apply lA|apply lN|apply lD)|exact HB.out)⟩
  ·rw [if_neg c6] at H
   have c6b0 : decide (t486 < 0) = false := decide_eq_false c6
   clear c6
   replace H := Option.bind_eq_some_iff.mp H
   obtain ⟨t487,A80,H⟩ := H
   replace H : ((spec_FallbackTerm.f k t487 a1 a2).bind fun bt490 => ((laws_toLocaleS.f k l0).bind fun t493 => ((impl_FallbackTerm.f k t493 a1 a2).bind fun bt496 => (if bt496.1.toList = bt490.1.toList then (if bt496.2.1 = bt490.2.1 then (laws_FnExactFallbackTerm.j0 k l0 t493 (bt496.2.2 != bt490.2.2)) else (laws_FnExactFallbackTerm.j0 k l0 t493 true)) else (laws_FnExactFallbackTerm.j0 k l0 t493 true))))) = some r := H
   have A8 := Aside0.mk A80
   clear A80
   replace H := Option.bind_eq_some_iff.mp H
   obtain ⟨⟨t490,t491,t492⟩,A90,H⟩ := H
   replace H : ((laws_toLocaleS.f k l0).bind fun t493 => ((impl_FallbackTerm.f k t493 a1 a2).bind fun bt496 => (if bt496.1.toList = t490.toList then (if bt496.2.1 = t491 then (laws_FnExactFallbackTerm.j0 k l0 t493 (bt496.2.2 != t492)) else (laws_FnExactFallbackTerm.j0 k l0 t493 true)) else (laws_FnExactFallbackTerm.j0 k l0 t493 true)))) = some r := H
   have A9 := Aside0.mk A90
   clear A90
   replace H := Option.bind_eq_some_iff.mp H
   obtain ⟨t493,A100,H⟩ := H
   replace H : ((impl_FallbackTerm.f k t493 a1 a2).bind fun bt496 => (if bt496.1.toList = t490.toList then (if bt496.2.1 = t491 then (laws_FnExactFallbackTerm.j0 k l0 t493 (bt496.2.2 != t492)) else (laws_FnExactFallbackTerm.j0 k l0 t493 true)) else (laws_FnExactFallbackTerm.j0 k l0 t493 true))) = some r := H
   have A10 := Aside0.mk A100
   clear A100
   replace H := Option.bind_eq_some_iff.mp H
   obtain ⟨⟨t496,t497,t498⟩,A110,H⟩ := H
   replace H : (if t496.toList = t490.toList then (if t497 = t491 then (laws_FnExactFallbackTerm.j0 k l0 t493 (t498 != t492)) else (laws_FnExactFallbackTerm.j0 k l0 t493 true)) else (laws_FnExactFallbackTerm.j0 k l0 t493 true)) = some r := H
   have A11 := Aside0.mk A110
   clear A110
   have HC12 := Aside0.mk H
   clear H
   go_enter Try.func5,Try.ntmps5
   go_upto_region 10 with (first|((with_reducible refine gate_callee (f := 16) rfl ?_);refine goesL_ (some 20) rfl rfl Try.func16 (by kernel_rfl) rfl #[.slice A0 l0.length c0,.int .i64 1048576] rfl (by (try simp only [List.map_toArray,List.map_cons,List.map_nil]);first|done|rfl|(simp only [List.length_drop,List.length_take];rfl)) ?_;(with_reducible refine (laws_szLocaleS.calls k _ _ l0 1048576 t486 _ ?side1 ?side2 A5.out).mono ?_);(case side1 => repeat (first|exact HR0.out|(with_reducible refine Kd.C_alloc ?_ _)|(with_reducible refine Kd.C_drewN ?_ _)|(with_reducible refine Kd.C_drew ?_)));(case side2 => exact HC0.out);rintro e w13 ⟨rfl,hb⟩;refine ⟨_,rfl,?_⟩;have n0_ := Aside0.mk (below_step (by repeat (first|(with_reducible first|exact HB.out|apply lA|apply lN|apply lD)|exact HB.out)) hb);clear HB;have HB := n0_;clear n0_;(try clear hb);(try clear hb2);(try clear hk);(try clear hi))|((with_reducible refine gate_callee (f := 18) rfl ?_);refine goesL_ (some 25) rfl rfl Try.func18 (by kernel_rfl) rfl #[.slice A0 l0.length c0] rfl (by (try simp only [List.map_toArray,List.map_cons,List.map_nil]);first|done|rfl|(simp only [List.length_drop,List.length_take];rfl)) ?_;(with_reducible refine (laws_toLocaleS.calls k _ _ l0 t487 _ ?side1 ?side2 A8.out).mono ?_);(case side1 => repeat (first|exact (Kd.C_below HR0.out HB.out)|(with_reducible refine Kd.C_alloc ?_ _)|(with_reducible refine Kd.C_drewN ?_ _)|(with_reducible refine Kd.C_drew ?_)));(case side2 => exact HC0.out);rintro e w14 ⟨v488,rfl,ho0,hb⟩;refine ⟨_,rfl,?_⟩;have n0_ := Aside0.mk (Kd.S_lower ho0 (below_size (by repeat (first|(with_reducible first|exact HB.out|apply lA|apply lN|apply lD)|exact HB.out))));have n1_ := Aside0.mk (below_step (by repeat (first|(with_reducible first|exact HB.out|apply lA|apply lN|apply lD)|exact HB.out)) hb);clear HB;have HO489 := n0_;have HB := n1_;clear n0_ n1_;(try clear hb);(try clear hb2);(try clear hk);(try clear hi);(try clear ho0);obtain ⟨Ao15,co15,eo15⟩ := Kd.S_slice HO489.out;subst eo15)|((with_reducible refine gate_callee (f := 17) rfl ?_);refine goesL_ (some 28) rfl rfl Try.func17 (by kernel_rfl) rfl #[.slice Ao15 t487.length co15,.string a1,.int .i64 a2] rfl (by (try simp only [List.map_toArray,List.map_cons,List.map_nil]);first|done|rfl|(simp only [List.length_drop,List.length_take];rfl)) ?_;(with_reducible refine (spec_FallbackTerm.calls k _ _ t487 a1 a2 t490 t491 t492 _ ?side1 ?side2 A9.out).mono ?_);(case side1 => repeat (first|exact (Kd.S_reads' HO489.out).2.2|(with_reducible refine Kd.C_alloc ?_ _)|(with_reducible refine Kd.C_drewN ?_ _)|(with_reducible refine Kd.C_drew ?_)));(case side2 => exact (Kd.S_reads' HO489.out).2.1);rintro e w16 ⟨rfl,hb⟩;refine ⟨_,rfl,?_⟩;have n0_ := Aside0.mk (Kd.S_below (by (with_reducible repeat (first|apply Kd.S_alloc|apply Kd.S_drewN|apply Kd.S_drew));exact HO489.out) hb);have n1_ := Aside0.mk (below_step (by repeat (first|(with_reducible first|exact HB.out|apply lA|apply lN|apply lD)|exact HB.out)) hb);clear HO489;clear HB;have HO489 := n0_;have HB := n1_;clear n0_ n1_;(try clear hb);(try clear hb2);(try clear hk);(try clear hi))|((with_reducible refine gate_callee (f := 18) rfl ?_);refine goesL_ (some 33) rfl rfl Try.func18 (by kernel_rfl) rfl #[.slice A0 l0.length c0] rfl (by (try simp only [List.map_toArray,List.map_cons,List.map_nil]);first|done|rfl|(simp only [List.length_drop,List.length_take];rfl)) ?_;(with_reducible refine (laws_toLocaleS.calls k _ _ l0 t493 _ ?side1 ?side2 A10.out).mono ?_);(case side1 => repeat (first|exact (Kd.C_below HR0.out HB.out)|(with_reducible refine Kd.C_alloc ?_ _)|(with_reducible refine Kd.C_drewN ?_ _)|(with_reducible refine Kd.C_drew ?_)));(case side2 => exact HC0.out);rintro e w17 ⟨v494,rfl,ho0,hb⟩;refine ⟨_,rfl,?_⟩;have n0_ := Aside0.mk (Kd.S_elder' (by (with_reducible repeat (first|apply Kd.S_alloc|apply Kd.S_drewN|apply Kd.S_drew));exact HO489.out) (Kd.S_base ho0) hb);have n1_ := Aside0.mk (Kd.S_lower (Kd.S_new' ho0 (Kd.S_lt (by (with_reducible repeat (first|apply Kd.S_alloc|apply Kd.S_drewN|apply Kd.S_drew));exact HO489.out))) (below_size (by repeat (first|(with_reducible first|exact HB.out|apply lA|apply lN|apply lD)|exact HB.out))));have n2_ := Aside0.mk (below_step (by repeat (first|(with_reducible first|exact HB.out|apply lA|apply lN|apply lD)|exact HB.out)) hb);clear HO489;clear HB;have HO489 := n0_;have HO495 := n1_;have HB := n2_;clear n0_ n1_ n2_;(try clear hb);(try clear hb2);(try clear hk);(try clear hi);(try clear ho0);obtain ⟨Ao18,co18,eo18⟩ := Kd.S_slice HO495.out;subst eo18)|((with_reducible refine gate_callee (f := 19) rfl ?_);refine goesL_ (some 38) rfl rfl Try.func19 (by kernel_rfl) rfl #[.slice Ao18 t493.length co18,.string a1,.int .i64 a2] rfl (by (try simp only [List.map_toArray,List.map_cons,List.map_nil]);first|done|rfl|(simp only [List.length_drop,List.length_take];rfl)) ?_;(with_reducible refine (impl_FallbackTerm.calls k _ _ t493 a1 a2 t496 t497 t498 _ ?side1 ?side2 A11.out).mono ?_);(case side1 => repeat (first|exact (Kd.S_reads' HO495.out).2.2|(with_reducible refine Kd.C_alloc ?_ _)|(with_reducible refine Kd.C_drewN ?_ _)|(with_reducible refine Kd.C_drew ?_)));(case side2 => exact (Kd.S_reads' HO495.out).2.1);rintro e w19 ⟨rfl,hb⟩;refine ⟨_,rfl,?_⟩;have n0_ := Aside0.mk (Kd.S_below (by (with_reducible repeat (first|apply Kd.S_alloc|apply Kd.S_drewN|apply Kd.S_drew));exact HO489.out) hb);have n1_ := Aside0.mk (Kd.S_below (by (with_reducible repeat (first|apply Kd.S_alloc|apply Kd.S_drewN|apply Kd.S_drew));exact HO495.out) hb);have n2_ := Aside0.mk (below_step (by repeat (first|(with_reducible first|exact HB.out|apply lA|apply lN|apply lD)|exact HB.out)) hb);clear HO489;clear HO495;clear HB;have HO489 := n0_;have HO495 := n1_;have HB := n2_;clear n0_ n1_ n2_;(try clear hb);(try clear hb2);(try clear hk);(try clear hi)))
   (try simp only [Act.put,List.setIfInBounds_toArray,List.set_cons_zero,List.set_cons_succ])
   go_cut [54] (fun v54 wc => ∃ (kq : Nat) (x54_11 : Bool),v54 = .bool x54_11 ∧ Aside0 (laws_FnExactFallbackTerm.j0 kq l0 t493 x54_11 = some r) ∧ Aside0 (kq ≤ k) ∧ Aside0 (Kd.S k31 31 wc w.heap.size (fun _ => True) (.slice Ao18 t493.length co18) t493) ∧ Aside0 (Below w.heap.size w wc))
   case first =>
    have H := HC12.out
    clear HC12
    by_cases c20 : t496.toList = t490.toList
    ·rw [if_pos c20] at H
     have c20b0 : (t496.toList == t490.toList) = true := beq_iff_eq.mpr c20
     have c20b1 : (t496.toList != t490.toList) = false := bne_eq_false_iff_eq.mpr c20
     clear c20
     (first|rw [c20b0]|(simp only [i64_w,i32_w];rw [c20b0])|skip)
     by_cases c21 : t497 = t491
     ·rw [if_pos c21] at H
      have c21b0 : (t497 == t491) = true := beq_iff_eq.mpr c21
      have c21b1 : (t497 != t491) = false := bne_eq_false_iff_eq.mpr c21
      clear c21
      have H' := Aside0.mk H
      clear H
      go_wp2
      go_meet
      case rel => exact ⟨_,((t498 != t492)),(by first|rfl|(simp;done)|(simp [my_isEmpty];done)|(simp [*];done)),H',⟨by first|omega|exact Nat.le_refl _⟩,⟨by (with_reducible repeat (first|apply Kd.S_alloc|apply Kd.S_drewN|apply Kd.S_drew));exact Kd.S_mono HO495.out (fun _ hk => trivial)⟩,⟨by repeat (first|(with_reducible first|exact HB.out|apply lA|apply lN|apply lD)|exact HB.out)⟩⟩
     ·rw [if_neg c21] at H
      have c21b0 : (t497 == t491) = false := beq_eq_false_iff_ne.mpr c21
      have c21b1 : (t497 != t491) = true := bne_iff_ne.mpr c21
      have H' := Aside0.mk H
      clear H
      go_wp2
      go_meet
      case rel => exact ⟨_,(true),(by first|rfl|(simp;done)|(simp [my_isEmpty];done)|(simp [*];done)),H',⟨by first|omega|exact Nat.le_refl _⟩,⟨by (with_reducible repeat (first|apply Kd.S_alloc|apply Kd.S_drewN|apply Kd.S_drew));exact Kd.S_mono HO495.out (fun _ hk => trivial)⟩,⟨by repeat (first|(with_reducible first|exact HB.out|apply lA|apply lN|apply lD)|exact HB.out)⟩⟩
    ·rw [if_neg c20] at H
     have c20b0 : (t496.toList == t490.toList) = false := beq_eq_false_iff_ne.mpr c20
     have c20b1 : (t496.toList != t490.toList) = true := bne_iff_ne.mpr c20
     (first|rw [c20b0]|(simp only [i64_w,i32_w];rw [c20b0])|skip)
     have H' := Aside0.mk H
     clear H
     go_wp2
     go_meet
     case rel => exact ⟨_,(true),(by first|rfl|(simp;done)|(simp [my_isEmpty];done)|(simp [*];done)),H',⟨by first|omega|exact Nat.le_refl _⟩,⟨by (with_reducible repeat (first|apply Kd.S_alloc|apply Kd.S_drewN|apply Kd.S_drew));exact Kd.S_mono HO495.out (fun _ hk => trivial)⟩,⟨by repeat (first|(with_reducible first|exact HB.out|apply lA|apply lN|apply lD)|exact HB.out)⟩⟩
   case rest =>
    clear HC12
    try clear c1
    try clear c2
    try clear p2
    try clear c4
    try clear c4b0
    try clear c4b1
    try clear c5
    try clear c6
    try clear c6b0
    try clear c16
    try clear c17
    try clear c18
    try clear c19
    try clear c20
    try clear c20b0
    try clear c20b1
    try clear c21
    try clear c21b0
    try clear c21b1
    obtain ⟨kq,x54_11,rfl,HA,HJ11,HO_11,HB⟩ := hcut
    cases kq with
    | zero => exact absurd HA.out (by simp [laws_FnExactFallbackTerm.j0])
    | succ kj11 =>
     have H := HA.out
     clear HA
     simp only [laws_FnExactFallbackTerm.j0] at H
     by_cases c22 : x54_11 = true
     ·subst c22
      have H1 : (some false) = some r := by rw [if_pos rfl] at H;exact H
      clear H
      have H := H1
      clear H1
      exact absurd ((Option.some.inj H).trans hr_) (by decide)
     ·replace c22 := Bool.eq_false_iff.mpr c22
      subst c22
      have H1 : ((laws_toLocaleS.f kj11 l0).bind fun t499 => ((laws_eqLocaleS.f kj11 t493 t499).bind fun t502 => (if t502 = true then (some true) else (some false)))) = some r := by rw [if_neg (show ¬ (false = true) by decide)] at H;exact H
      clear H
      have H := H1
      clear H1
      replace H := Option.bind_eq_some_iff.mp H
      obtain ⟨t499,A230,H⟩ := H
      replace H : ((laws_eqLocaleS.f kj11 t493 t499).bind fun t502 => (if t502 = true then (some true) else (some false))) = some r := H
      have A23 := Aside0.mk A230
      clear A230
      replace H := Option.bind_eq_some_iff.mp H
      obtain ⟨t502,A240,H⟩ := H
      replace H : (if t502 = true then (some true) else (some false)) = some r := H
      have A24 := Aside0.mk A240
      clear A240
      by_cases c25 : t502 = true
      ·subst c25
       have H1 : (some true) = some r := by rw [if_pos rfl] at H;exact H
       clear H
       have H := H1
       clear H1
       obtain rfl := Option.some.inj H
       try clear hr_
       go_wp2_with (first|((with_reducible refine gate_callee (f := 18) rfl ?_);refine goesL_ (some 57) rfl rfl Try.func18 (by kernel_rfl) rfl #[.slice A0 l0.length c0] rfl (by (try simp only [List.map_toArray,List.map_cons,List.map_nil]);first|done|rfl|(simp only [List.length_drop,List.length_take];rfl)) ?_;(with_reducible refine (laws_toLocaleS.calls kj11 _ _ l0 t499 _ ?side1 ?side2 A23.out).mono ?_);(case side1 => repeat (first|exact (Kd.C_below HR0.out HB.out)|(with_reducible refine Kd.C_alloc ?_ _)|(with_reducible refine Kd.C_drewN ?_ _)|(with_reducible refine Kd.C_drew ?_)));(case side2 => exact HC0.out);rintro e w26 ⟨v500,rfl,ho0,hb⟩;refine ⟨_,rfl,?_⟩;have n0_ := Aside0.mk (Kd.S_elder' (by (with_reducible repeat (first|apply Kd.S_alloc|apply Kd.S_drewN|apply Kd.S_drew));exact HO_11.out) (Kd.S_base ho0) hb);have n1_ := Aside0.mk (Kd.S_lower (Kd.S_new' ho0 (Kd.S_lt (by (with_reducible repeat (first|apply Kd.S_alloc|apply Kd.S_drewN|apply Kd.S_drew));exact HO_11.out))) (below_size (by repeat (first|(with_reducible first|exact HB.out|apply lA|apply lN|apply lD)|exact HB.out))));have n2_ := Aside0.mk (below_step (by repeat (first|(with_reducible first|exact HB.out|apply lA|apply lN|apply lD)|exact HB.out)) hb);clear HO_11;clear HB;have HO_11 := n0_;have HO501 := n1_;have HB := n2_;clear n0_ n1_ n2_;(try clear hb);(try clear hb2);(try clear hk);(try clear hi);(try clear ho0);obtain ⟨Ao27,co27,eo27⟩ := Kd.S_slice HO501.out;subst eo27)|((with_reducible refine gate_callee (f := 20) rfl ?_);refine goesL_ (some 58) rfl rfl Try.func20 (by kernel_rfl) rfl #[.slice Ao18 t493.length co18,.slice Ao27 t499.length co27] rfl (by (try simp only [List.map_toArray,List.map_cons,List.map_nil]);first|done|rfl|(simp only [List.length_drop,List.length_take];rfl)) ?_;(with_reducible refine (laws_eqLocaleS.calls kj11 _ _ t493 _ _ t499 true _ ?side1 ?side2 ?side3 ?side4 A24.out).mono ?_);(case side1 => repeat (first|exact (Kd.S_reads' HO_11.out).2.2|(with_reducible refine Kd.C_alloc ?_ _)|(with_reducible refine Kd.C_drewN ?_ _)|(with_reducible refine Kd.C_drew ?_)));(case side2 => exact (Kd.S_reads' HO_11.out).2.1);(case side3 => repeat (first|exact (Kd.S_reads' HO501.out).2.2|(with_reducible refine Kd.C_alloc ?_ _)|(with_reducible refine Kd.C_drewN ?_ _)|(with_reducible refine Kd.C_drew ?_)));(case side4 => exact (Kd.S_reads' HO501.out).2.1);rintro e w28 ⟨rfl,hb⟩;refine ⟨_,rfl,?_⟩;have n0_ := Aside0.mk (Kd.S_below (by (with_reducible repeat (first|apply Kd.S_alloc|apply Kd.S_drewN|apply Kd.S_drew));exact HO_11.out) hb);have n1_ := Aside0.mk (Kd.S_below (by (with_reducible repeat (first|apply Kd.S_alloc|apply Kd.S_drewN|apply Kd.S_drew));exact HO501.out) hb);have n2_ := Aside0.mk (below_step (by repeat (first|(with_reducible first|exact HB.out|apply lA|apply lN|apply lD)|exact HB.out)) hb);clear HO_11;clear HO501;clear HB;have HO_11 := n0_;have HO501 := n1_;have HB := n2_;clear n0_ n1_ n2_;(try clear hb);(try clear hb2);(try clear hk);(try clear hi)))
       go_ret
       exact ⟨by first|rfl|(simp [errW_none,errW_some] <;> rfl)|(simp [*,errW_none,errW_some] <;> rfl),by repeat (first|(with_reducible first|exact HB.out|apply lA|apply lN|apply lD)|exact HB.out)⟩
      ·replace c25 := Bool.eq_false_iff.mpr c25
       subst c25
       have H1 : (some false) = some r := by rw [if_neg (show ¬ (false = true) by decide)] at H;exact H
       clear H
       have H := H1
       clear H1
       exact absurd ((Option.some.inj H).trans hr_) (by decide)
def laws_FnExactFallbackTerm.Pure : Prop := ∀ (l0 : List (S25)) (a1 : ByteArray) (a2 : Int),(l0.length * 96 ≤ 140737488351232 ∧ l0.length ≤ maxLen ∧ ∀ a_ ∈ l0,B25 a_) → (a1.size ≤ 140737488351232) → ((Lit.int .i64 a2).wf = true) → ∃ k,laws_FnExactFallbackTerm.f k l0 a1 a2 = some true
def laws_szStringS.l0 : Nat → List ByteArray → Int → Int → Option (Int)
 | 0,_,_,_ => none
 | k + 1,x0,x1,x5 => if x5 < (x0.length : Int) then (if 0 ≤ x5 then (if (wrap64 (x1 - ((rdOf ByteArray.empty x0 x5).size : Int))) < 0 then (some (-1)) else (laws_szStringS.l0 k x0 (wrap64 (x1 - ((rdOf ByteArray.empty x0 x5).size : Int))) (wrap64 (x5 + 1)))) else (none)) else (some x1)
def laws_szStringS.f (k : Nat) (l0 : List ByteArray) (a1 : Int) : Option (Int) := if (wrap64 (a1 - (l0.length : Int))) < 0 then (some (-1)) else (laws_szStringS.l0 k l0 (wrap64 (a1 - (l0.length : Int))) 0)
theorem laws_szStringS.mono_l : ∀ k,(∀ y0 y1 y2,LeO (laws_szStringS.l0 k y0 y1 y2) (laws_szStringS.l0 (k + 1) y0 y1 y2))
 | 0 => fun _ _ _ r h => by simp [laws_szStringS.l0] at h
 | k + 1 => by
  have ih0 := laws_szStringS.mono_l k
  ·intro y0 y1 y2
   unfold laws_szStringS.l0
   repeat' first
   | (with_reducible exact ih0 _ _ _)
   | (with_reducible exact LeO.refl _)
   | (with_reducible exact LeO.none _)
   | (with_reducible refine LeO.ite ?_ ?_)
   | (with_reducible refine LeO.bind ?_ (fun _ => ?_))
   | exact ih0 _ _ _
   | exact LeO.none _
   | refine LeO.ite ?_ ?_
   | refine LeO.bind ?_ (fun _ => ?_)
theorem laws_szStringS.mono : ∀ a0 a1 k,LeO (laws_szStringS.f k a0 a1) (laws_szStringS.f (k + 1) a0 a1) := by
 intro a0 a1 k
 have ih0 := laws_szStringS.mono_l k
 unfold laws_szStringS.f
 repeat' first
   | (with_reducible exact ih0 _ _ _)
   | (with_reducible exact LeO.refl _)
   | (with_reducible exact LeO.none _)
   | (with_reducible refine LeO.ite ?_ ?_)
   | (with_reducible refine LeO.bind ?_ (fun _ => ?_))
   | exact ih0 _ _ _
   | exact LeO.none _
   | refine LeO.ite ?_ ?_
   | refine LeO.bind ?_ (fun _ => ?_)
set_option maxHeartbeats 8000000 in
set_option maxRecDepth 100000 in
theorem laws_szStringS.calls (k : Nat) (A0 : Option Addr) (c0 : Nat) (l0 : List ByteArray) (a1 : Int) (r : Int) (w : World) (hr0 : Kd.C Kd.string w A0 l0.length l0) (hc0 : l0.length ≤ c0) (h : laws_szStringS.f k l0 a1 = some r) :
  Calls Try.prog 27 #[.slice A0 l0.length c0,.int .i64 a1] w fun e w' => e = .returned (.int .i64 r) ∧ Drawn0 w w' := by
 have HR0 := Aside0.mk hr0
 have HC0 := Aside0.mk hc0
 clear hr0 hc0
 have H : (if (wrap64 (a1 - (l0.length : Int))) < 0 then (some (-1)) else (laws_szStringS.l0 k l0 (wrap64 (a1 - (l0.length : Int))) 0)) = some r := h
 clear h
 by_cases c3 : (wrap64 (a1 - (l0.length : Int))) < 0
 ·rw [if_pos c3] at H
  have c3b0 : decide ((wrap64 (a1 - (l0.length : Int))) < 0) = true := decide_eq_true c3
  clear c3
  obtain rfl := Option.some.inj H
  simp only [Option.some.injEq,Prod.mk.injEq] at H
  obtain ⟨rfl⟩ := H
  go_enter Try.func27,Try.ntmps27
  go_wp2
  go_ret
  exact ⟨by first|rfl|(simp;done)|(simp [my_isEmpty];done)|(simp [*];done),by repeat (first|exact Drawn0.refl _|apply Drawn0.step)⟩
 ·rw [if_neg c3] at H
  have c3b0 : decide ((wrap64 (a1 - (l0.length : Int))) < 0) = false := decide_eq_false c3
  clear c3
  have H' := Aside0.mk H
  clear H
  go_enter Try.func27,Try.ntmps27
  go_wp2
  go_loopg [1,5] k (fun kq v1 v5 w' => ∃ (x1_1 : Int) (x5_1 : Int),v1 = .int .i64 x1_1 ∧ v5 = .int .i64 x5_1 ∧ Aside0 (laws_szStringS.l0 kq l0 x1_1 x5_1 = some r) ∧ Aside0 (kq ≤ k) ∧ Drawn0 w w')
  case atStart => exact ⟨(wrap64 (a1 - (l0.length : Int))),(0),(by first|rfl|(simp;done)|(simp [my_isEmpty];done)|(simp [*];done)),(by first|rfl|(simp;done)|(simp [my_isEmpty];done)|(simp [*];done)),H',⟨Nat.le_refl _⟩,by repeat (first|exact Drawn0.refl _|apply Drawn0.step)⟩
  case round =>
   clear H'
   try clear c2
   try clear p2
   try clear c3
   try clear c3b0
   obtain ⟨x1_1,x5_1,rfl,rfl,HA,HK1,⟨m1,rfl⟩⟩ := hrel
   cases gk with
   | zero => exact absurd HA.out (by simp [laws_szStringS.l0])
   | succ k1 =>
    have H := HA.out
    clear HA
    simp only [laws_szStringS.l0] at H
    by_cases c4 : x5_1 < (l0.length : Int)
    ·rw [if_pos c4] at H
     have c4b0 : decide (x5_1 < (l0.length : Int)) = true := decide_eq_true c4
     clear c4
     by_cases c5 : 0 ≤ x5_1
     ·rw [if_pos c5] at H
      have c5b0 : decide (0 ≤ x5_1) = true := decide_eq_true c5
      clear c5
      by_cases c6 : (wrap64 (x1_1 - ((rdOf ByteArray.empty l0 x5_1).size : Int))) < 0
      ·rw [if_pos c6] at H
       have c6b0 : decide ((wrap64 (x1_1 - ((rdOf ByteArray.empty l0 x5_1).size : Int))) < 0) = true := decide_eq_true c6
       clear c6
       obtain rfl := Option.some.inj H
       simp only [Option.some.injEq,Prod.mk.injEq] at H
       obtain ⟨rfl⟩ := H
       have p503 : 0 ≤ (x5_1 : Int) := of_decide_eq_true (by first|(with_reducible assumption)|assumption)
       have q503 : x5_1 < (l0.length : Int) := of_decide_eq_true (by first|(with_reducible assumption)|assumption)
       obtain ⟨ad503,e503,hx503_0⟩ := Kd.at_string HR0.out x5_1 p503 q503
       cases e503
       replace p503 := eq_true p503
       replace q503 := eq_true q503
       go_wp2
       go_ret
       exact ⟨by first|rfl|(simp;done)|(simp [my_isEmpty];done)|(simp [*];done),by repeat (first|exact Drawn0.refl _|apply Drawn0.step)⟩
      ·rw [if_neg c6] at H
       have c6b0 : decide ((wrap64 (x1_1 - ((rdOf ByteArray.empty l0 x5_1).size : Int))) < 0) = false := decide_eq_false c6
       clear c6
       have H' := Aside0.mk H
       clear H
       have p503 : 0 ≤ (x5_1 : Int) := of_decide_eq_true (by first|(with_reducible assumption)|assumption)
       have q503 : x5_1 < (l0.length : Int) := of_decide_eq_true (by first|(with_reducible assumption)|assumption)
       obtain ⟨ad503,e503,hx503_0⟩ := Kd.at_string HR0.out x5_1 p503 q503
       cases e503
       replace p503 := eq_true p503
       replace q503 := eq_true q503
       go_wp2
       go_roundg k1
       case measure => have := HK1.out;omega
       case rel => exact ⟨(wrap64 (x1_1 - ((rdOf ByteArray.empty l0 x5_1).size : Int))),(wrap64 (x5_1 + 1)),(by first|rfl|(simp;done)|(simp [my_isEmpty];done)|(simp [*];done)),(by first|rfl|(simp;done)|(simp [my_isEmpty];done)|(simp [*];done)),H',⟨by have := HK1.out;omega⟩,by repeat (first|exact Drawn0.refl _|apply Drawn0.step)⟩
     ·rw [if_neg c5] at H
      exact absurd H (by simp)
    ·rw [if_neg c4] at H
     have c4b0 : decide (x5_1 < (l0.length : Int)) = false := decide_eq_false c4
     clear c4
     obtain rfl := Option.some.inj H
     simp only [Option.some.injEq,Prod.mk.injEq] at H
     obtain ⟨rfl⟩ := H
     go_wp2
     go_ret
     exact ⟨by first|rfl|(simp;done)|(simp [my_isEmpty];done)|(simp [*];done),by repeat (first|exact Drawn0.refl _|apply Drawn0.step)⟩
end Go.Proofs.Ytmkkcpdpfelalaa.P
