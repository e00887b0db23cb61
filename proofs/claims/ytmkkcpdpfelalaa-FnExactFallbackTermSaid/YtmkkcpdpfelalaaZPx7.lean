/- Written by a program in this session: each theorem here says that a Go function computes the Lean function beside it, or that a law's row holds, under the conditions that the theorem itself states. -/
import Derived.Test.YtmkkcpdpfelalaaZPx0
import Derived.Test.YtmkkcpdpfelalaaZPx1
import Derived.Test.YtmkkcpdpfelalaaZPx3
import Derived.Test.YtmkkcpdpfelalaaZPx5
import Derived.Test.YtmkkcpdpfelalaaZPx6
namespace Go.Proofs.Ytmkkcpdpfelalaa.P
open Go.RowKit Go.Proofs.YtmkkcpdpfelalaaW.PrintWords Go.Proofs.YtmkkcpdpfelalaaW.PrintLast Go.Proofs.YtmkkcpdpfelalaaW.PrintMore
attribute [local go_sem] max2_int min2_int max_two min_two max_three min_three max_four min_four   -- for this text's walks alone
set_option linter.unusedVariables false
set_option linter.unusedSimpArgs false
def laws_eqOrdinalRuleS.l0 : Nat → List (S72) → List (S72) → Int → Option (Bool)
 | 0,_,_,_ => none
 | k + 1,x0,x1,x5 => if x5 < (x0.length : Int) then (if 0 ≤ x5 then (if x5 < (x1.length : Int) then ((laws_eqOrdinalRule.f ((rd_T72 x0 x5).f0) ((rd_T72 x0 x5).f1) ((rd_T72 x0 x5).f2) ((rd_T72 x1 x5).f0) ((rd_T72 x1 x5).f1) ((rd_T72 x1 x5).f2)).bind fun t202 => (if t202 = true then (laws_eqOrdinalRuleS.l0 k x0 x1 (wrap64 (x5 + 1))) else (some false))) else (none)) else (none)) else (some true)
def laws_eqOrdinalRuleS.f (k : Nat) (l0 : List (S72)) (l1 : List (S72)) : Option (Bool) := if (l0.length : Int) = (l1.length : Int) then (laws_eqOrdinalRuleS.l0 k l0 l1 0) else (some false)
theorem laws_eqOrdinalRuleS.mono_l : ∀ k,(∀ y0 y1 y2,LeO (laws_eqOrdinalRuleS.l0 k y0 y1 y2) (laws_eqOrdinalRuleS.l0 (k + 1) y0 y1 y2))
 | 0 => fun _ _ _ r h => by simp [laws_eqOrdinalRuleS.l0] at h
 | k + 1 => by
  have ih0 := laws_eqOrdinalRuleS.mono_l k
  ·intro y0 y1 y2
   unfold laws_eqOrdinalRuleS.l0
   repeat' first
   | (with_reducible exact ih0 _ _ _)
   | (with_reducible exact LeO.refl _)
   | (with_reducible exact LeO.none _)
   | (with_reducible refine LeO.ite ?_ ?_)
   | (with_reducible refine LeO.bind ?_ (fun _ => ?_))
   | exact ih0 _ _ _
   | exact LeO.none _
   | refine LeO.ite ?_ ?_
   | refine LeO.bind ?_ (fun _ => ?_)
theorem laws_eqOrdinalRuleS.mono : ∀ a0 a1 k,LeO (laws_eqOrdinalRuleS.f k a0 a1) (laws_eqOrdinalRuleS.f (k + 1) a0 a1) := by
 intro a0 a1 k
 have ih0 := laws_eqOrdinalRuleS.mono_l k
 unfold laws_eqOrdinalRuleS.f
 repeat' first
   | (with_reducible exact ih0 _ _ _)
   | (with_reducible exact LeO.refl _)
   | (with_reducible exact LeO.none _)
   | (with_reducible refine LeO.ite ?_ ?_)
   | (with_reducible refine LeO.bind ?_ (fun _ => ?_))
   | exact ih0 _ _ _
   | exact LeO.none _
   | refine LeO.ite ?_ ?_
   | refine LeO.bind ?_ (fun _ => ?_)
def laws_eqOrdinalRuleS.T6 : Bool × List (List Nat × List Nat) := (true,[([],[]),([],[]),([0,1],[0,1]),([2],[2]),([],[]),([],[]),([4,5],[4,5]),([6],[6]),([3,7],[3,7]),([8],[8])])
def laws_eqOrdinalRuleS.B6 : List Nat := [0,0,3,7,0,0,48,112,255,511]
theorem laws_eqOrdinalRuleS.tab6 : rtab .any (opsOf Try.f47 6) = laws_eqOrdinalRuleS.T6 := by kernel_rfl
theorem laws_eqOrdinalRuleS.bits6 : waitsOk laws_eqOrdinalRuleS.T6.2 laws_eqOrdinalRuleS.B6 = true := by kernel_rfl
set_option maxHeartbeats 8000000 in
set_option maxRecDepth 100000 in
theorem laws_eqOrdinalRuleS.calls (k : Nat) (A0 : Option Addr) (c0 : Nat) (l0 : List (S72)) (A1 : Option Addr) (c1 : Nat) (l1 : List (S72)) (r : Bool) (w : World) (hr0 : Kd.C k72 w A0 l0.length l0) (hc0 : l0.length ≤ c0) (hr1 : Kd.C k72 w A1 l1.length l1) (hc1 : l1.length ≤ c1) (h : laws_eqOrdinalRuleS.f k l0 l1 = some r) :
  Calls Try.prog 47 #[.slice A0 l0.length c0,.slice A1 l1.length c1] w fun e w' => e = .returned (.bool r) ∧ Below w.heap.size w w' := by
 have hu72 := Try.underlying72
 have HR0 := Aside0.mk hr0
 have HC0 := Aside0.mk hc0
 clear hr0 hc0
 have HR1 := Aside0.mk hr1
 have HC1 := Aside0.mk hc1
 clear hr1 hc1
 have HB := Aside0.mk (Below.refl w.heap.size w)
 have H : (if (l0.length : Int) = (l1.length : Int) then (laws_eqOrdinalRuleS.l0 k l0 l1 0) else (some false)) = some r := h
 clear h
 by_cases c3 : (l0.length : Int) = (l1.length : Int)
 ·rw [if_pos c3] at H
  have c3b0 : ((l0.length : Int) == (l1.length : Int)) = true := beq_iff_eq.mpr c3
  have c3b1 : ((l0.length : Int) != (l1.length : Int)) = false := bne_eq_false_iff_eq.mpr c3
  have c3b2 : (l0.length == l1.length) = true := by first|simpa using c3|(simp at c3 ⊢;omega)
  clear c3
  have H' := Aside0.mk H
  clear H
  go_enter Try.func47,Try.ntmps47
  go_wp2
  go_loopg [5] k (fun kq v5 w' => ∃ (x5_1 : Int),v5 = .int .i64 x5_1 ∧ Aside0 (laws_eqOrdinalRuleS.l0 kq l0 l1 x5_1 = some r) ∧ Aside0 (kq ≤ k) ∧ Aside0 (Below w.heap.size w w'))
  case atStart => exact ⟨(0),(by first|rfl|(simp;done)|(simp [my_isEmpty];done)|(simp [*];done)),H',⟨Nat.le_refl _⟩,⟨by repeat (first|(with_reducible first|exact HB.out|apply lA|apply lN|apply lD)|exact HB.out)⟩⟩
  case round =>
   clear H'
   try clear c1
   try clear p2
   try clear c3
   try clear c3b0
   try clear c3b1
   try clear c3b2
   obtain ⟨x5_1,rfl,HA,HK1,HB⟩ := hrel
   cases gk with
   | zero => exact absurd HA.out (by simp [laws_eqOrdinalRuleS.l0])
   | succ k1 =>
    have H := HA.out
    clear HA
    simp only [laws_eqOrdinalRuleS.l0] at H
    by_cases c4 : x5_1 < (l0.length : Int)
    ·rw [if_pos c4] at H
     have c4b0 : decide (x5_1 < (l0.length : Int)) = true := decide_eq_true c4
     clear c4
     by_cases c5 : 0 ≤ x5_1
     ·rw [if_pos c5] at H
      have c5b0 : decide (0 ≤ x5_1) = true := decide_eq_true c5
      clear c5
      by_cases c6 : x5_1 < (l1.length : Int)
      ·rw [if_pos c6] at H
       have c6b0 : decide (x5_1 < (l1.length : Int)) = true := decide_eq_true c6
       clear c6
       replace H := Option.bind_eq_some_iff.mp H
       obtain ⟨t202,A70,H⟩ := H
       replace H : (if t202 = true then (laws_eqOrdinalRuleS.l0 k1 l0 l1 (wrap64 (x5_1 + 1))) else (some false)) = some r := H
       have A7 := Aside0.mk A70
       clear A70
       by_cases c8 : t202 = true
       ·subst c8
        have H1 : (laws_eqOrdinalRuleS.l0 k1 l0 l1 (wrap64 (x5_1 + 1))) = some r := by rw [if_pos rfl] at H;exact H
        clear H
        have H := H1
        clear H1
        have H' := Aside0.mk H
        clear H
        try go_wp2
        have n0_ := Aside0.mk (lD HB.out)
        clear HB
        have HB := n0_
        clear n0_
        have p200 : 0 ≤ (x5_1 : Int) := of_decide_eq_true (by first|(with_reducible assumption)|assumption)
        have q200 : x5_1 < (l0.length : Int) := of_decide_eq_true (by first|(with_reducible assumption)|assumption)
        obtain ⟨ad200,e200,hx200_0,hx200_1,hx200_2⟩ := at_T72 HR0.out x5_1 p200 q200
        have hw200_2 := hx200_2
        have hw200_1 := hx200_1
        have hw200_0 := hx200_0
        cases e200
        replace hx200_0 := (HB.out.cell (World.block_lt_of_cell? w _ hx200_0)).trans hx200_0
        replace hx200_1 := (HB.out.cell (World.block_lt_of_cell? w _ hx200_1)).trans hx200_1
        replace hx200_2 := (HB.out.cell (World.block_lt_of_cell? w _ hx200_2)).trans hx200_2
        replace p200 := eq_true p200
        replace q200 := eq_true q200
        have p201 : 0 ≤ (x5_1 : Int) := of_decide_eq_true (by first|(with_reducible assumption)|assumption)
        have q201 : x5_1 < (l1.length : Int) := of_decide_eq_true (by first|(with_reducible assumption)|assumption)
        obtain ⟨ad201,e201,hx201_0,hx201_1,hx201_2⟩ := at_T72 HR1.out x5_1 p201 q201
        have hw201_2 := hx201_2
        have hw201_1 := hx201_1
        have hw201_0 := hx201_0
        cases e201
        replace hx201_0 := (HB.out.cell (World.block_lt_of_cell? w _ hx201_0)).trans hx201_0
        replace hx201_1 := (HB.out.cell (World.block_lt_of_cell? w _ hx201_1)).trans hx201_1
        replace hx201_2 := (HB.out.cell (World.block_lt_of_cell? w _ hx201_2)).trans hx201_2
        replace p201 := eq_true p201
        replace q201 := eq_true q201
        refine start_ (n := 10) (S := fun w' => w'.cell? (ad200.add ((x5_1).toNat * 3)) = some (.int .i64 ((rd_T72 l0 x5_1).f0)) ∧ w'.cell? ⟨(ad200.add ((x5_1).toNat * 3)).block,(ad200.add ((x5_1).toNat * 3)).off + 1,none⟩ = some (.int .i64 ((rd_T72 l0 x5_1).f1)) ∧ w'.cell? ⟨(ad200.add ((x5_1).toNat * 3)).block,(ad200.add ((x5_1).toNat * 3)).off + 2,none⟩ = some (.string ((rd_T72 l0 x5_1).f2)) ∧ w'.cell? (ad201.add ((x5_1).toNat * 3)) = some (.int .i64 ((rd_T72 l1 x5_1).f0)) ∧ w'.cell? ⟨(ad201.add ((x5_1).toNat * 3)).block,(ad201.add ((x5_1).toNat * 3)).off + 1,none⟩ = some (.int .i64 ((rd_T72 l1 x5_1).f1)) ∧ w'.cell? ⟨(ad201.add ((x5_1).toNat * 3)).block,(ad201.add ((x5_1).toNat * 3)).off + 2,none⟩ = some (.string ((rd_T72 l1 x5_1).f2))) (ds := []) #[false,false,false,false,false,false,false,false,false,false] (by kernel_rfl) rfl rfl ⟨((HB.out.cell (World.block_lt_of_cell? w _ hw200_0)).trans hw200_0),((HB.out.cell (World.block_lt_of_cell? w _ hw200_1)).trans hw200_1),((HB.out.cell (World.block_lt_of_cell? w _ hw200_2)).trans hw200_2),((HB.out.cell (World.block_lt_of_cell? w _ hw201_0)).trans hw201_0),((HB.out.cell (World.block_lt_of_cell? w _ hw201_1)).trans hw201_1),((HB.out.cell (World.block_lt_of_cell? w _ hw201_2)).trans hw201_2)⟩ (fun hHeld => ?_);refine with_tabW laws_eqOrdinalRuleS.tab6 laws_eqOrdinalRuleS.bits6 (fun HT_ HW_ => ?_)
        generalize wr.drew = w9 at HB hx200_0 hx200_1 hx200_2 hx201_0 hx201_1 hx201_2 hHeld ⊢
        refine pure_ (i := 0) (N := some 17) (v := ?_) (a' := ?_) #[true,false,false,false,false,false,false,false,false,false] rfl rfl (any_of HT_.out (by kernel_rfl)) (fun _ _ _ h => h) (Or.inl ⟨by rfl,?_⟩) ?_ ?_
        rotate_left
        ·intro w'
         go_simp
         with_reducible rfl
        rotate_left
        ·simp only [Act.put,List.setIfInBounds_toArray,List.set_cons_zero,List.set_cons_succ,i64_w,i32_w]
         rfl
        refine pure_ (i := 1) (N := some 18) (v := ?_) (a' := ?_) #[true,true,false,false,false,false,false,false,false,false] rfl rfl (any_of HT_.out (by kernel_rfl)) (fun _ _ _ h => h) (Or.inl ⟨by rfl,?_⟩) ?_ ?_
        rotate_left
        ·intro w'
         go_simp
         with_reducible rfl
        rotate_left
        ·simp only [Act.put,List.setIfInBounds_toArray,List.set_cons_zero,List.set_cons_succ,i64_w,i32_w]
         rfl
        refine pure_ (i := 2) (N := some 19) (v := ?_) (a' := ?_) #[true,true,true,false,false,false,false,false,false,false] rfl rfl (any_of HT_.out (by kernel_rfl)) (fun _ _ _ h => h) (Or.inl ⟨by rfl,?_⟩) ?_ ?_
        rotate_left
        ·intro w'
         go_simp
         with_reducible rfl
        rotate_left
        ·simp only [Act.put,List.setIfInBounds_toArray,List.set_cons_zero,List.set_cons_succ,i64_w,i32_w]
         rfl
        refine pure_ (i := 4) (N := some 21) (v := ?_) (a' := ?_) #[true,true,true,false,true,false,false,false,false,false] rfl rfl (any_of HT_.out (by kernel_rfl)) (fun _ _ _ h => h) (Or.inl ⟨by rfl,?_⟩) ?_ ?_
        rotate_left
        ·intro w'
         go_simp
         with_reducible rfl
        rotate_left
        ·simp only [Act.put,List.setIfInBounds_toArray,List.set_cons_zero,List.set_cons_succ,i64_w,i32_w]
         rfl
        refine pure_ (i := 5) (N := some 22) (v := ?_) (a' := ?_) #[true,true,true,false,true,true,false,false,false,false] rfl rfl (any_of HT_.out (by kernel_rfl)) (fun _ _ _ h => h) (Or.inl ⟨by rfl,?_⟩) ?_ ?_
        rotate_left
        ·intro w'
         go_simp
         with_reducible rfl
        rotate_left
        ·simp only [Act.put,List.setIfInBounds_toArray,List.set_cons_zero,List.set_cons_succ,i64_w,i32_w]
         rfl
        refine pure_ (i := 6) (N := some 23) (v := ?_) (a' := ?_) #[true,true,true,false,true,true,true,false,false,false] rfl rfl (any_of HT_.out (by kernel_rfl)) (fun _ _ _ h => h) (Or.inl ⟨by rfl,?_⟩) ?_ ?_
        rotate_left
        ·intro w'
         go_simp
         with_reducible rfl
        rotate_left
        ·simp only [Act.put,List.setIfInBounds_toArray,List.set_cons_zero,List.set_cons_succ,i64_w,i32_w]
         rfl
        refine take_ (i := 3) (N := some 20) (v := ?_) (a' := ?_) #[true,true,true,true,true,true,true,false,false,false] rfl rfl (take_ofW HT_.out HW_.out (by kernel_rfl)) (fun _ _ _ h => h) (Or.inl ⟨by rfl,?_⟩) hHeld ?_ ?_
        rotate_left
        ·rintro w' ⟨s0,s1,s2,s3,s4,s5⟩
         go_simp
         with_reducible rfl
        rotate_left
        ·simp only [Act.put,List.setIfInBounds_toArray,List.set_cons_zero,List.set_cons_succ,i64_w,i32_w]
         rfl
        refine take_ (i := 7) (N := some 24) (v := ?_) (a' := ?_) #[true,true,true,true,true,true,true,true,false,false] rfl rfl (take_ofW HT_.out HW_.out (by kernel_rfl)) (fun _ _ _ h => h) (Or.inl ⟨by rfl,?_⟩) hHeld ?_ ?_
        rotate_left
        ·rintro w' ⟨s0,s1,s2,s3,s4,s5⟩
         go_simp
         with_reducible rfl
        rotate_left
        ·simp only [Act.put,List.setIfInBounds_toArray,List.set_cons_zero,List.set_cons_succ,i64_w,i32_w]
         rfl
        refine one_ (i := 8) (N := some 25) #[true,true,true,true,true,true,true,true,true,false] rfl rfl (one_of HT_.out (by kernel_rfl)) (by decide) (fun K hK => ?_)
        refine goes_ Try.func78 (by kernel_rfl) rfl #[.agg #[.int .i64 ((rd_T72 l0 x5_1).f0),.int .i64 ((rd_T72 l0 x5_1).f1),.string ((rd_T72 l0 x5_1).f2)],.agg #[.int .i64 ((rd_T72 l1 x5_1).f0),.int .i64 ((rd_T72 l1 x5_1).f1),.string ((rd_T72 l1 x5_1).f2)]] (by rfl) rfl rfl (by (try simp only [List.map_toArray,List.map_cons,List.map_nil]);first|done|rfl|(simp only [List.length_drop,List.length_take];rfl)) ?_
        with_reducible refine (laws_eqOrdinalRule.calls ((rd_T72 l0 x5_1).f0) ((rd_T72 l0 x5_1).f1) ((rd_T72 l0 x5_1).f2) ((rd_T72 l1 x5_1).f0) ((rd_T72 l1 x5_1).f1) ((rd_T72 l1 x5_1).f2) true _ A7.out).mono ?_
        rintro e w10 ⟨rfl,hb⟩
        refine ⟨_,rfl,?_⟩
        have n0_ := Aside0.mk (below_step (by repeat (first|(with_reducible first|exact HB.out|apply lA|apply lN|apply lD)|exact HB.out)) hb)
        clear HB
        have HB := n0_
        clear n0_
        (try clear hb)
        (try clear hb2)
        (try clear hk)
        (try clear hi)
        refine hK.out _ _ ⟨((HB.out.cell (World.block_lt_of_cell? w _ hw200_0)).trans hw200_0),((HB.out.cell (World.block_lt_of_cell? w _ hw200_1)).trans hw200_1),((HB.out.cell (World.block_lt_of_cell? w _ hw200_2)).trans hw200_2),((HB.out.cell (World.block_lt_of_cell? w _ hw201_0)).trans hw201_0),((HB.out.cell (World.block_lt_of_cell? w _ hw201_1)).trans hw201_1),((HB.out.cell (World.block_lt_of_cell? w _ hw201_2)).trans hw201_2)⟩ (fun hHeld => ?_)
        clear hK K
        refine norm_ (a' := ?_) ?_ ?_
        rotate_left
        ·show Act.put _ (some 25) _ = _
         simp only [Act.put,List.setIfInBounds_toArray,List.set_cons_zero,List.set_cons_succ,i64_w,i32_w]
         rfl
        refine pure_ (i := 9) (N := some 26) (v := ?_) (a' := ?_) #[true,true,true,true,true,true,true,true,true,true] rfl rfl (any_of HT_.out (by kernel_rfl)) (fun _ _ _ h => h) (Or.inl ⟨by rfl,?_⟩) ?_ ?_
        rotate_left
        ·intro w'
         go_simp
         with_reducible rfl
        rotate_left
        ·simp only [Act.put,List.setIfInBounds_toArray,List.set_cons_zero,List.set_cons_succ,i64_w,i32_w]
         rfl
        refine done_ (done_of HT_.out (by kernel_rfl)) ?_
        try go_wp2
        go_roundg k1
        case measure => have := HK1.out;omega
        case rel => exact ⟨(wrap64 (x5_1 + 1)),(by first|rfl|(simp;done)|(simp [my_isEmpty];done)|(simp [*];done)),H',⟨by have := HK1.out;omega⟩,⟨by repeat (first|(with_reducible first|exact HB.out|apply lA|apply lN|apply lD)|exact HB.out)⟩⟩
       ·replace c8 := Bool.eq_false_iff.mpr c8
        subst c8
        have H1 : (some false) = some r := by rw [if_neg (show ¬ (false = true) by decide)] at H;exact H
        clear H
        have H := H1
        clear H1
        obtain rfl := Option.some.inj H
        simp only [Option.some.injEq,Prod.mk.injEq] at H
        obtain ⟨rfl⟩ := H
        try go_wp2
        have n0_ := Aside0.mk (lD HB.out)
        clear HB
        have HB := n0_
        clear n0_
        have p200 : 0 ≤ (x5_1 : Int) := of_decide_eq_true (by first|(with_reducible assumption)|assumption)
        have q200 : x5_1 < (l0.length : Int) := of_decide_eq_true (by first|(with_reducible assumption)|assumption)
        obtain ⟨ad200,e200,hx200_0,hx200_1,hx200_2⟩ := at_T72 HR0.out x5_1 p200 q200
        have hw200_2 := hx200_2
        have hw200_1 := hx200_1
        have hw200_0 := hx200_0
        cases e200
        replace hx200_0 := (HB.out.cell (World.block_lt_of_cell? w _ hx200_0)).trans hx200_0
        replace hx200_1 := (HB.out.cell (World.block_lt_of_cell? w _ hx200_1)).trans hx200_1
        replace hx200_2 := (HB.out.cell (World.block_lt_of_cell? w _ hx200_2)).trans hx200_2
        replace p200 := eq_true p200
        replace q200 := eq_true q200
        have p201 : 0 ≤ (x5_1 : Int) := of_decide_eq_true (by first|(with_reducible assumption)|assumption)
        have q201 : x5_1 < (l1.length : Int) := of_decide_eq_true (by first|(with_reducible assumption)|assumption)
        obtain ⟨ad201,e201,hx201_0,hx201_1,hx201_2⟩ := at_T72 HR1.out x5_1 p201 q201
        have hw201_2 := hx201_2
        have hw201_1 := hx201_1
        have hw201_0 := hx201_0
        cases e201
        replace hx201_0 := (HB.out.cell (World.block_lt_of_cell? w _ hx201_0)).trans hx201_0
        replace hx201_1 := (HB.out.cell (World.block_lt_of_cell? w _ hx201_1)).trans hx201_1
        replace hx201_2 := (HB.out.cell (World.block_lt_of_cell? w _ hx201_2)).trans hx201_2
        replace p201 := eq_true p201
        replace q201 := eq_true q201
        refine start_ (n := 10) (S := fun w' => w'.cell? (ad200.add ((x5_1).toNat * 3)) = some (.int .i64 ((rd_T72 l0 x5_1).f0)) ∧ w'.cell? ⟨(ad200.add ((x5_1).toNat * 3)).block,(ad200.add ((x5_1).toNat * 3)).off + 1,none⟩ = some (.int .i64 ((rd_T72 l0 x5_1).f1)) ∧ w'.cell? ⟨(ad200.add ((x5_1).toNat * 3)).block,(ad200.add ((x5_1).toNat * 3)).off + 2,none⟩ = some (.string ((rd_T72 l0 x5_1).f2)) ∧ w'.cell? (ad201.add ((x5_1).toNat * 3)) = some (.int .i64 ((rd_T72 l1 x5_1).f0)) ∧ w'.cell? ⟨(ad201.add ((x5_1).toNat * 3)).block,(ad201.add ((x5_1).toNat * 3)).off + 1,none⟩ = some (.int .i64 ((rd_T72 l1 x5_1).f1)) ∧ w'.cell? ⟨(ad201.add ((x5_1).toNat * 3)).block,(ad201.add ((x5_1).toNat * 3)).off + 2,none⟩ = some (.string ((rd_T72 l1 x5_1).f2))) (ds := []) #[false,false,false,false,false,false,false,false,false,false] (by kernel_rfl) rfl rfl ⟨((HB.out.cell (World.block_lt_of_cell? w _ hw200_0)).trans hw200_0),((HB.out.cell (World.block_lt_of_cell? w _ hw200_1)).trans hw200_1),((HB.out.cell (World.block_lt_of_cell? w _ hw200_2)).trans hw200_2),((HB.out.cell (World.block_lt_of_cell? w _ hw201_0)).trans hw201_0),((HB.out.cell (World.block_lt_of_cell? w _ hw201_1)).trans hw201_1),((HB.out.cell (World.block_lt_of_cell? w _ hw201_2)).trans hw201_2)⟩ (fun hHeld => ?_);refine with_tabW laws_eqOrdinalRuleS.tab6 laws_eqOrdinalRuleS.bits6 (fun HT_ HW_ => ?_)
        generalize wr.drew = w11 at HB hx200_0 hx200_1 hx200_2 hx201_0 hx201_1 hx201_2 hHeld ⊢
        refine pure_ (i := 0) (N := some 17) (v := ?_) (a' := ?_) #[true,false,false,false,false,false,false,false,false,false] rfl rfl (any_of HT_.out (by kernel_rfl)) (fun _ _ _ h => h) (Or.inl ⟨by rfl,?_⟩) ?_ ?_
        rotate_left
        ·intro w'
         go_simp
         with_reducible rfl
        rotate_left
        ·simp only [Act.put,List.setIfInBounds_toArray,List.set_cons_zero,List.set_cons_succ,i64_w,i32_w]
         rfl
        refine pure_ (i := 1) (N := some 18) (v := ?_) (a' := ?_) #[true,true,false,false,false,false,false,false,false,false] rfl rfl (any_of HT_.out (by kernel_rfl)) (fun _ _ _ h => h) (Or.inl ⟨by rfl,?_⟩) ?_ ?_
        rotate_left
        ·intro w'
         go_simp
         with_reducible rfl
        rotate_left
        ·simp only [Act.put,List.setIfInBounds_toArray,List.set_cons_zero,List.set_cons_succ,i64_w,i32_w]
         rfl
        refine pure_ (i := 2) (N := some 19) (v := ?_) (a' := ?_) #[true,true,true,false,false,false,false,false,false,false] rfl rfl (any_of HT_.out (by kernel_rfl)) (fun _ _ _ h => h) (Or.inl ⟨by rfl,?_⟩) ?_ ?_
        rotate_left
        ·intro w'
         go_simp
         with_reducible rfl
        rotate_left
        ·simp only [Act.put,List.setIfInBounds_toArray,List.set_cons_zero,List.set_cons_succ,i64_w,i32_w]
         rfl
        refine pure_ (i := 4) (N := some 21) (v := ?_) (a' := ?_) #[true,true,true,false,true,false,false,false,false,false] rfl rfl (any_of HT_.out (by kernel_rfl)) (fun _ _ _ h => h) (Or.inl ⟨by rfl,?_⟩) ?_ ?_
        rotate_left
        ·intro w'
         go_simp
         with_reducible rfl
        rotate_left
        ·simp only [Act.put,List.setIfInBounds_toArray,List.set_cons_zero,List.set_cons_succ,i64_w,i32_w]
         rfl
        refine pure_ (i := 5) (N := some 22) (v := ?_) (a' := ?_) #[true,true,true,false,true,true,false,false,false,false] rfl rfl (any_of HT_.out (by kernel_rfl)) (fun _ _ _ h => h) (Or.inl ⟨by rfl,?_⟩) ?_ ?_
        rotate_left
        ·intro w'
         go_simp
         with_reducible rfl
        rotate_left
        ·simp only [Act.put,List.setIfInBounds_toArray,List.set_cons_zero,List.set_cons_succ,i64_w,i32_w]
         rfl
        refine pure_ (i := 6) (N := some 23) (v := ?_) (a' := ?_) #[true,true,true,false,true,true,true,false,false,false] rfl rfl (any_of HT_.out (by kernel_rfl)) (fun _ _ _ h => h) (Or.inl ⟨by rfl,?_⟩) ?_ ?_
        rotate_left
        ·intro w'
         go_simp
         with_reducible rfl
        rotate_left
        ·simp only [Act.put,List.setIfInBounds_toArray,List.set_cons_zero,List.set_cons_succ,i64_w,i32_w]
         rfl
        refine take_ (i := 3) (N := some 20) (v := ?_) (a' := ?_) #[true,true,true,true,true,true,true,false,false,false] rfl rfl (take_ofW HT_.out HW_.out (by kernel_rfl)) (fun _ _ _ h => h) (Or.inl ⟨by rfl,?_⟩) hHeld ?_ ?_
        rotate_left
        ·rintro w' ⟨s0,s1,s2,s3,s4,s5⟩
         go_simp
         with_reducible rfl
        rotate_left
        ·simp only [Act.put,List.setIfInBounds_toArray,List.set_cons_zero,List.set_cons_succ,i64_w,i32_w]
         rfl
        refine take_ (i := 7) (N := some 24) (v := ?_) (a' := ?_) #[true,true,true,true,true,true,true,true,false,false] rfl rfl (take_ofW HT_.out HW_.out (by kernel_rfl)) (fun _ _ _ h => h) (Or.inl ⟨by rfl,?_⟩) hHeld ?_ ?_
        rotate_left
        ·rintro w' ⟨s0,s1,s2,s3,s4,s5⟩
         go_simp
         with_reducible rfl
        rotate_left
        ·simp only [Act.put,List.setIfInBounds_toArray,List.set_cons_zero,List.set_cons_succ,i64_w,i32_w]
         rfl
        refine one_ (i := 8) (N := some 25) #[true,true,true,true,true,true,true,true,true,false] rfl rfl (one_of HT_.out (by kernel_rfl)) (by decide) (fun K hK => ?_)
        refine goes_ Try.func78 (by kernel_rfl) rfl #[.agg #[.int .i64 ((rd_T72 l0 x5_1).f0),.int .i64 ((rd_T72 l0 x5_1).f1),.string ((rd_T72 l0 x5_1).f2)],.agg #[.int .i64 ((rd_T72 l1 x5_1).f0),.int .i64 ((rd_T72 l1 x5_1).f1),.string ((rd_T72 l1 x5_1).f2)]] (by rfl) rfl rfl (by (try simp only [List.map_toArray,List.map_cons,List.map_nil]);first|done|rfl|(simp only [List.length_drop,List.length_take];rfl)) ?_
        with_reducible refine (laws_eqOrdinalRule.calls ((rd_T72 l0 x5_1).f0) ((rd_T72 l0 x5_1).f1) ((rd_T72 l0 x5_1).f2) ((rd_T72 l1 x5_1).f0) ((rd_T72 l1 x5_1).f1) ((rd_T72 l1 x5_1).f2) false _ A7.out).mono ?_
        rintro e w12 ⟨rfl,hb⟩
        refine ⟨_,rfl,?_⟩
        have n0_ := Aside0.mk (below_step (by repeat (first|(with_reducible first|exact HB.out|apply lA|apply lN|apply lD)|exact HB.out)) hb)
        clear HB
        have HB := n0_
        clear n0_
        (try clear hb)
        (try clear hb2)
        (try clear hk)
        (try clear hi)
        refine hK.out _ _ ⟨((HB.out.cell (World.block_lt_of_cell? w _ hw200_0)).trans hw200_0),((HB.out.cell (World.block_lt_of_cell? w _ hw200_1)).trans hw200_1),((HB.out.cell (World.block_lt_of_cell? w _ hw200_2)).trans hw200_2),((HB.out.cell (World.block_lt_of_cell? w _ hw201_0)).trans hw201_0),((HB.out.cell (World.block_lt_of_cell? w _ hw201_1)).trans hw201_1),((HB.out.cell (World.block_lt_of_cell? w _ hw201_2)).trans hw201_2)⟩ (fun hHeld => ?_)
        clear hK K
        refine norm_ (a' := ?_) ?_ ?_
        rotate_left
        ·show Act.put _ (some 25) _ = _
         simp only [Act.put,List.setIfInBounds_toArray,List.set_cons_zero,List.set_cons_succ,i64_w,i32_w]
         rfl
        refine pure_ (i := 9) (N := some 26) (v := ?_) (a' := ?_) #[true,true,true,true,true,true,true,true,true,true] rfl rfl (any_of HT_.out (by kernel_rfl)) (fun _ _ _ h => h) (Or.inl ⟨by rfl,?_⟩) ?_ ?_
        rotate_left
        ·intro w'
         go_simp
         with_reducible rfl
        rotate_left
        ·simp only [Act.put,List.setIfInBounds_toArray,List.set_cons_zero,List.set_cons_succ,i64_w,i32_w]
         rfl
        refine done_ (done_of HT_.out (by kernel_rfl)) ?_
        try go_wp2
        go_ret
        exact ⟨by first|rfl|(simp [errW_none,errW_some] <;> rfl)|(simp [*,errW_none,errW_some] <;> rfl),by repeat (first|(with_reducible first|exact HB.out|apply lA|apply lN|apply lD)|exact HB.out)⟩
      ·rw [if_neg c6] at H
       exact absurd H (by simp)
     ·rw [if_neg c5] at H
      exact absurd H (by simp)
    ·rw [if_neg c4] at H
     have c4b0 : decide (x5_1 < (l0.length : Int)) = false := decide_eq_false c4
     clear c4
     obtain rfl := Option.some.inj H
     simp only [Option.some.injEq,Prod.mk.injEq] at H
     obtain ⟨rfl⟩ := H
     go_wp2
     go_ret
     exact ⟨by first|rfl|(simp [errW_none,errW_some] <;> rfl)|(simp [*,errW_none,errW_some] <;> rfl),by repeat (first|(with_reducible first|exact HB.out|apply lA|apply lN|apply lD)|exact HB.out)⟩
 ·rw [if_neg c3] at H
  have c3b0 : ((l0.length : Int) == (l1.length : Int)) = false := beq_eq_false_iff_ne.mpr c3
  have c3b1 : ((l0.length : Int) != (l1.length : Int)) = true := bne_iff_ne.mpr c3
  have c3b2 : (l0.length == l1.length) = false := by first|simpa using c3|(simp at c3 ⊢;omega)
  obtain rfl := Option.some.inj H
  simp only [Option.some.injEq,Prod.mk.injEq] at H
  obtain ⟨rfl⟩ := H
  go_enter Try.func47,Try.ntmps47
  go_wp2
  go_ret
  exact ⟨by first|rfl|(simp [errW_none,errW_some] <;> rfl)|(simp [*,errW_none,errW_some] <;> rfl),by repeat (first|(with_reducible first|exact HB.out|apply lA|apply lN|apply lD)|exact HB.out)⟩
def laws_eqLocale.f (k : Nat) (a0_0 : ByteArray) (l0_1 : List (S61)) (l0_2 : List (S72)) (a0_3 : ByteArray) (a0_4 : ByteArray) (a1_0 : ByteArray) (l1_1 : List (S61)) (l1_2 : List (S72)) (a1_3 : ByteArray) (a1_4 : ByteArray) : Option (Bool) := if a0_0.toList = a1_0.toList then ((laws_eqTermS.f k l0_1 l1_1).bind fun t205 => (if t205 = true then ((laws_eqOrdinalRuleS.f k l0_2 l1_2).bind fun t206 => (if t206 = true then (if a0_3.toList = a1_3.toList then (if a0_4.toList = a1_4.toList then (some true) else (some false)) else (some false)) else (some false))) else (some false))) else (some false)
theorem laws_eqLocale.mono : ∀ a0 a1 a2 a3 a4 a5 a6 a7 a8 a9 k,LeO (laws_eqLocale.f k a0 a1 a2 a3 a4 a5 a6 a7 a8 a9) (laws_eqLocale.f (k + 1) a0 a1 a2 a3 a4 a5 a6 a7 a8 a9) := by
 intro a0 a1 a2 a3 a4 a5 a6 a7 a8 a9 k
 unfold laws_eqLocale.f
 repeat' first
   | (with_reducible exact laws_eqOrdinalRuleS.mono _ _ _)
   | (with_reducible exact laws_eqTermS.mono _ _ _)
   | (with_reducible exact LeO.refl _)
   | (with_reducible exact LeO.none _)
   | (with_reducible refine LeO.ite ?_ ?_)
   | (with_reducible refine LeO.bind ?_ (fun _ => ?_))
   | exact laws_eqOrdinalRuleS.mono _ _ _
   | exact laws_eqTermS.mono _ _ _
   | exact LeO.none _
   | refine LeO.ite ?_ ?_
   | refine LeO.bind ?_ (fun _ => ?_)
set_option maxHeartbeats 8000000 in
set_option maxRecDepth 100000 in
theorem laws_eqLocale.calls (k : Nat) (a0_0 : ByteArray) (A0_1 : Option Addr) (c0_1 : Nat) (l0_1 : List (S61)) (A0_2 : Option Addr) (c0_2 : Nat) (l0_2 : List (S72)) (a0_3 : ByteArray) (a0_4 : ByteArray) (a1_0 : ByteArray) (A1_1 : Option Addr) (c1_1 : Nat) (l1_1 : List (S61)) (A1_2 : Option Addr) (c1_2 : Nat) (l1_2 : List (S72)) (a1_3 : ByteArray) (a1_4 : ByteArray) (r : Bool) (w : World) (hr0_1 : Kd.C k61 w A0_1 l0_1.length l0_1) (hc0_1 : l0_1.length ≤ c0_1) (hr0_2 : Kd.C k72 w A0_2 l0_2.length l0_2) (hc0_2 : l0_2.length ≤ c0_2) (hr1_1 : Kd.C k61 w A1_1 l1_1.length l1_1) (hc1_1 : l1_1.length ≤ c1_1) (hr1_2 : Kd.C k72 w A1_2 l1_2.length l1_2) (hc1_2 : l1_2.length ≤ c1_2) (h : laws_eqLocale.f k a0_0 l0_1 l0_2 a0_3 a0_4 a1_0 l1_1 l1_2 a1_3 a1_4 = some r) :
  Calls Try.prog 13 #[.agg #[.string a0_0,.slice A0_1 l0_1.length c0_1,.slice A0_2 l0_2.length c0_2,.string a0_3,.string a0_4],.agg #[.string a1_0,.slice A1_1 l1_1.length c1_1,.slice A1_2 l1_2.length c1_2,.string a1_3,.string a1_4]] w fun e w' => e = .returned (.bool r) ∧ Below w.heap.size w w' := by
 have hu31 := Try.underlying31
 have HR0_1 := Aside0.mk hr0_1
 have HC0_1 := Aside0.mk hc0_1
 clear hr0_1 hc0_1
 have HR0_2 := Aside0.mk hr0_2
 have HC0_2 := Aside0.mk hc0_2
 clear hr0_2 hc0_2
 have HR1_1 := Aside0.mk hr1_1
 have HC1_1 := Aside0.mk hc1_1
 clear hr1_1 hc1_1
 have HR1_2 := Aside0.mk hr1_2
 have HC1_2 := Aside0.mk hc1_2
 clear hr1_2 hc1_2
 have HB := Aside0.mk (Below.refl w.heap.size w)
 have H : (if a0_0.toList = a1_0.toList then ((laws_eqTermS.f k l0_1 l1_1).bind fun t205 => (if t205 = true then ((laws_eqOrdinalRuleS.f k l0_2 l1_2).bind fun t206 => (if t206 = true then (if a0_3.toList = a1_3.toList then (if a0_4.toList = a1_4.toList then (some true) else (some false)) else (some false)) else (some false))) else (some false))) else (some false)) = some r := h
 clear h
 by_cases c3 : a0_0.toList = a1_0.toList
 ·rw [if_pos c3] at H
  have c3b0 : (a0_0.toList == a1_0.toList) = true := beq_iff_eq.mpr c3
  have c3b1 : (a0_0.toList != a1_0.toList) = false := bne_eq_false_iff_eq.mpr c3
  clear c3
  replace H := Option.bind_eq_some_iff.mp H
  obtain ⟨t205,A40,H⟩ := H
  replace H : (if t205 = true then ((laws_eqOrdinalRuleS.f k l0_2 l1_2).bind fun t206 => (if t206 = true then (if a0_3.toList = a1_3.toList then (if a0_4.toList = a1_4.toList then (some true) else (some false)) else (some false)) else (some false))) else (some false)) = some r := H
  have A4 := Aside0.mk A40
  clear A40
  by_cases c5 : t205 = true
  ·subst c5
   have H1 : ((laws_eqOrdinalRuleS.f k l0_2 l1_2).bind fun t206 => (if t206 = true then (if a0_3.toList = a1_3.toList then (if a0_4.toList = a1_4.toList then (some true) else (some false)) else (some false)) else (some false))) = some r := by rw [if_pos rfl] at H;exact H
   clear H
   have H := H1
   clear H1
   replace H := Option.bind_eq_some_iff.mp H
   obtain ⟨t206,A60,H⟩ := H
   replace H : (if t206 = true then (if a0_3.toList = a1_3.toList then (if a0_4.toList = a1_4.toList then (some true) else (some false)) else (some false)) else (some false)) = some r := H
   have A6 := Aside0.mk A60
   clear A60
   by_cases c7 : t206 = true
   ·subst c7
    have H1 : (if a0_3.toList = a1_3.toList then (if a0_4.toList = a1_4.toList then (some true) else (some false)) else (some false)) = some r := by rw [if_pos rfl] at H;exact H
    clear H
    have H := H1
    clear H1
    by_cases c8 : a0_3.toList = a1_3.toList
    ·rw [if_pos c8] at H
     have c8b0 : (a0_3.toList == a1_3.toList) = true := beq_iff_eq.mpr c8
     have c8b1 : (a0_3.toList != a1_3.toList) = false := bne_eq_false_iff_eq.mpr c8
     clear c8
     by_cases c9 : a0_4.toList = a1_4.toList
     ·rw [if_pos c9] at H
      have c9b0 : (a0_4.toList == a1_4.toList) = true := beq_iff_eq.mpr c9
      have c9b1 : (a0_4.toList != a1_4.toList) = false := bne_eq_false_iff_eq.mpr c9
      clear c9
      obtain rfl := Option.some.inj H
      simp only [Option.some.injEq,Prod.mk.injEq] at H
      obtain ⟨rfl⟩ := H
      go_enter Try.func13,Try.ntmps13
      go_wp2_with (first|((with_reducible refine gate_dst (N := 2) rfl ?_);refine box_event ?hg (N := 2) ?hd (cs := #[.string a0_0,.slice A0_1 l0_1.length c0_1,.slice A0_2 l0_2.length c0_2,.string a0_3,.string a0_4]) (t := 31) ?hr ?_;(case hd => rfl);(case hg => rfl);(case hr => first|(go_simp;done)|(go_simp;rfl));intro gb203 hg w10 hbox hb;have n0_ := Aside0.mk (below_step (by repeat (first|(with_reducible first|exact HB.out|apply lA|apply lN|apply lD)|exact HB.out)) hb);have n1_ := Aside0.mk (hbox);have n2_ := Aside0.mk ((by rw [hg];exact (below_size (by repeat (first|(with_reducible first|exact HB.out|apply lA|apply lN|apply lD)|exact HB.out))) : w.heap.size ≤ gb203));have n3_ := Aside0.mk ((by rw [hg];exact (below_size (by repeat (first|(with_reducible first|exact HB.out|apply lA|apply lN|apply lD)|exact HB.out))) : w.heap.size ≤ gb203));clear HB;have HB := n0_;have BK203 := n1_;have GW203 := n2_;have GE203 := n3_;clear n0_ n1_ n2_ n3_;clear hb hbox hg)|((with_reducible refine gate_dst (N := 3) rfl ?_);refine box_event ?hg (N := 3) ?hd (cs := #[.string a1_0,.slice A1_1 l1_1.length c1_1,.slice A1_2 l1_2.length c1_2,.string a1_3,.string a1_4]) (t := 31) ?hr ?_;(case hd => rfl);(case hg => rfl);(case hr => first|(go_simp;done)|(go_simp;rfl));intro gb204 hg w11 hbox hb;have n0_ := Aside0.mk (blk_below (g := gb203) (o := .cells #[.string a0_0,.slice A0_1 l0_1.length c0_1,.slice A0_2 l0_2.length c0_2,.string a0_3,.string a0_4] 31 (0,0)) (by (with_reducible repeat (first|refine bN ?_ _|refine bD ?_|refine bA ?_ _));exact BK203.out) hb);have n1_ := Aside0.mk (below_step (by repeat (first|(with_reducible first|exact HB.out|apply lA|apply lN|apply lD|refine below_set ?_ GE203.out)|exact HB.out)) hb);have n2_ := Aside0.mk (hbox);have n3_ := Aside0.mk ((by rw [hg];exact (below_size (by repeat (first|(with_reducible first|exact HB.out|apply lA|apply lN|apply lD|refine below_set ?_ GE203.out)|exact HB.out))) : w.heap.size ≤ gb204));have n4_ := Aside0.mk ((by rw [hg];exact (below_size (by repeat (first|(with_reducible first|exact HB.out|apply lA|apply lN|apply lD|refine below_set ?_ GE203.out)|exact HB.out))) : w.heap.size ≤ gb204));have n5_ := Aside0.mk ((by rw [hg];exact Nat.ne_of_lt (blk_lt (g := gb203) (o := .cells #[.string a0_0,.slice A0_1 l0_1.length c0_1,.slice A0_2 l0_2.length c0_2,.string a0_3,.string a0_4] 31 (0,0)) (by (with_reducible repeat (first|refine bN ?_ _|refine bD ?_|refine bA ?_ _));exact BK203.out)) : gb203 ≠ gb204));have n6_ := Aside0.mk ((by rw [hg];exact Nat.ne_of_gt (blk_lt (g := gb203) (o := .cells #[.string a0_0,.slice A0_1 l0_1.length c0_1,.slice A0_2 l0_2.length c0_2,.string a0_3,.string a0_4] 31 (0,0)) (by (with_reducible repeat (first|refine bN ?_ _|refine bD ?_|refine bA ?_ _));exact BK203.out)) : gb204 ≠ gb203));clear BK203;clear HB;have BK203 := n0_;have HB := n1_;have BK204 := n2_;have GW204 := n3_;have GE204 := n4_;have NB203_204 := n5_;have NB204_203 := n6_;clear n0_ n1_ n2_ n3_ n4_ n5_ n6_;clear hb hbox hg;have hnb12 := NB203_204.out;have hnc12 := NB204_203.out;have hcz13_0 : w11.cell? ⟨gb203,0,none⟩ = some (.string a0_0) := (blk_cell BK203.out 0).trans rfl;have hcz13_1 : w11.cell? ⟨gb203,1,none⟩ = some (.slice A0_1 l0_1.length c0_1) := (blk_cell BK203.out 1).trans rfl;have hcz13_2 : w11.cell? ⟨gb203,2,none⟩ = some (.slice A0_2 l0_2.length c0_2) := (blk_cell BK203.out 2).trans rfl;have hcz13_3 : w11.cell? ⟨gb203,3,none⟩ = some (.string a0_3) := (blk_cell BK203.out 3).trans rfl;have hcz13_4 : w11.cell? ⟨gb203,4,none⟩ = some (.string a0_4) := (blk_cell BK203.out 4).trans rfl;have hfz13_0 := blk_frozen BK203.out 0;have hfz13_1 := blk_frozen BK203.out 1;have hfz13_2 := blk_frozen BK203.out 2;have hfz13_3 := blk_frozen BK203.out 3;have hfz13_4 := blk_frozen BK203.out 4;have hcz14_0 : w11.cell? ⟨gb204,0,none⟩ = some (.string a1_0) := (blk_cell BK204.out 0).trans rfl;have hcz14_1 : w11.cell? ⟨gb204,1,none⟩ = some (.slice A1_1 l1_1.length c1_1) := (blk_cell BK204.out 1).trans rfl;have hcz14_2 : w11.cell? ⟨gb204,2,none⟩ = some (.slice A1_2 l1_2.length c1_2) := (blk_cell BK204.out 2).trans rfl;have hcz14_3 : w11.cell? ⟨gb204,3,none⟩ = some (.string a1_3) := (blk_cell BK204.out 3).trans rfl;have hcz14_4 : w11.cell? ⟨gb204,4,none⟩ = some (.string a1_4) := (blk_cell BK204.out 4).trans rfl;have hfz14_0 := blk_frozen BK204.out 0;have hfz14_1 := blk_frozen BK204.out 1;have hfz14_2 := blk_frozen BK204.out 2;have hfz14_3 := blk_frozen BK204.out 3;have hfz14_4 := blk_frozen BK204.out 4)|((with_reducible refine gate_callee (f := 46) rfl ?_);refine goesL_ (some 14) rfl rfl Try.func46 (by kernel_rfl) rfl #[.slice A0_1 l0_1.length c0_1,.slice A1_1 l1_1.length c1_1] rfl (by (try simp only [List.map_toArray,List.map_cons,List.map_nil]);first|done|rfl|(simp only [List.length_drop,List.length_take];rfl)) ?_;(with_reducible refine (laws_eqTermS.calls k _ _ l0_1 _ _ l1_1 true _ ?side1 ?side2 ?side3 ?side4 A4.out).mono ?_);(case side1 => repeat (first|exact (Kd.C_below HR0_1.out HB.out)|(with_reducible refine Kd.C_alloc ?_ _)|(with_reducible refine Kd.C_drewN ?_ _)|(with_reducible refine Kd.C_drew ?_)));(case side2 => exact HC0_1.out);(case side3 => repeat (first|exact (Kd.C_below HR1_1.out HB.out)|(with_reducible refine Kd.C_alloc ?_ _)|(with_reducible refine Kd.C_drewN ?_ _)|(with_reducible refine Kd.C_drew ?_)));(case side4 => exact HC1_1.out);rintro e w15 ⟨rfl,hb⟩;refine ⟨_,rfl,?_⟩;have n0_ := Aside0.mk (blk_below (g := gb203) (o := .cells #[.string a0_0,.slice A0_1 l0_1.length c0_1,.slice A0_2 l0_2.length c0_2,.string a0_3,.string a0_4] 31 (0,0)) (by (with_reducible repeat (first|refine bN ?_ _|refine bD ?_|refine bA ?_ _));exact BK203.out) hb);have n1_ := Aside0.mk (blk_below (g := gb204) (o := .cells #[.string a1_0,.slice A1_1 l1_1.length c1_1,.slice A1_2 l1_2.length c1_2,.string a1_3,.string a1_4] 31 (0,0)) (by (with_reducible repeat (first|refine bN ?_ _|refine bD ?_|refine bA ?_ _));exact BK204.out) hb);have n2_ := Aside0.mk (below_step (by repeat (first|(with_reducible first|exact HB.out|apply lA|apply lN|apply lD|refine below_set ?_ GE203.out|refine below_set ?_ GE204.out)|exact HB.out)) hb);clear BK203;clear BK204;clear HB;have BK203 := n0_;have BK204 := n1_;have HB := n2_;clear n0_ n1_ n2_;(try clear hb);(try clear hb2);(try clear hk);(try clear hi);have hcz16_0 : w15.cell? ⟨gb203,0,none⟩ = some (.string a0_0) := (blk_cell BK203.out 0).trans rfl;have hcz16_1 : w15.cell? ⟨gb203,1,none⟩ = some (.slice A0_1 l0_1.length c0_1) := (blk_cell BK203.out 1).trans rfl;have hcz16_2 : w15.cell? ⟨gb203,2,none⟩ = some (.slice A0_2 l0_2.length c0_2) := (blk_cell BK203.out 2).trans rfl;have hcz16_3 : w15.cell? ⟨gb203,3,none⟩ = some (.string a0_3) := (blk_cell BK203.out 3).trans rfl;have hcz16_4 : w15.cell? ⟨gb203,4,none⟩ = some (.string a0_4) := (blk_cell BK203.out 4).trans rfl;have hfz16_0 := blk_frozen BK203.out 0;have hfz16_1 := blk_frozen BK203.out 1;have hfz16_2 := blk_frozen BK203.out 2;have hfz16_3 := blk_frozen BK203.out 3;have hfz16_4 := blk_frozen BK203.out 4;have hcz17_0 : w15.cell? ⟨gb204,0,none⟩ = some (.string a1_0) := (blk_cell BK204.out 0).trans rfl;have hcz17_1 : w15.cell? ⟨gb204,1,none⟩ = some (.slice A1_1 l1_1.length c1_1) := (blk_cell BK204.out 1).trans rfl;have hcz17_2 : w15.cell? ⟨gb204,2,none⟩ = some (.slice A1_2 l1_2.length c1_2) := (blk_cell BK204.out 2).trans rfl;have hcz17_3 : w15.cell? ⟨gb204,3,none⟩ = some (.string a1_3) := (blk_cell BK204.out 3).trans rfl;have hcz17_4 : w15.cell? ⟨gb204,4,none⟩ = some (.string a1_4) := (blk_cell BK204.out 4).trans rfl;have hfz17_0 := blk_frozen BK204.out 0;have hfz17_1 := blk_frozen BK204.out 1;have hfz17_2 := blk_frozen BK204.out 2;have hfz17_3 := blk_frozen BK204.out 3;have hfz17_4 := blk_frozen BK204.out 4)|((with_reducible refine gate_callee (f := 47) rfl ?_);refine goesL_ (some 20) rfl rfl Try.func47 (by kernel_rfl) rfl #[.slice A0_2 l0_2.length c0_2,.slice A1_2 l1_2.length c1_2] rfl (by (try simp only [List.map_toArray,List.map_cons,List.map_nil]);first|done|rfl|(simp only [List.length_drop,List.length_take];rfl)) ?_;(with_reducible refine (laws_eqOrdinalRuleS.calls k _ _ l0_2 _ _ l1_2 true _ ?side1 ?side2 ?side3 ?side4 A6.out).mono ?_);(case side1 => repeat (first|exact (Kd.C_below HR0_2.out HB.out)|(with_reducible refine Kd.C_alloc ?_ _)|(with_reducible refine Kd.C_drewN ?_ _)|(with_reducible refine Kd.C_drew ?_)));(case side2 => exact HC0_2.out);(case side3 => repeat (first|exact (Kd.C_below HR1_2.out HB.out)|(with_reducible refine Kd.C_alloc ?_ _)|(with_reducible refine Kd.C_drewN ?_ _)|(with_reducible refine Kd.C_drew ?_)));(case side4 => exact HC1_2.out);rintro e w18 ⟨rfl,hb⟩;refine ⟨_,rfl,?_⟩;have n0_ := Aside0.mk (blk_below (g := gb203) (o := .cells #[.string a0_0,.slice A0_1 l0_1.length c0_1,.slice A0_2 l0_2.length c0_2,.string a0_3,.string a0_4] 31 (0,0)) (by (with_reducible repeat (first|refine bN ?_ _|refine bD ?_|refine bA ?_ _));exact BK203.out) hb);have n1_ := Aside0.mk (blk_below (g := gb204) (o := .cells #[.string a1_0,.slice A1_1 l1_1.length c1_1,.slice A1_2 l1_2.length c1_2,.string a1_3,.string a1_4] 31 (0,0)) (by (with_reducible repeat (first|refine bN ?_ _|refine bD ?_|refine bA ?_ _));exact BK204.out) hb);have n2_ := Aside0.mk (below_step (by repeat (first|(with_reducible first|exact HB.out|apply lA|apply lN|apply lD|refine below_set ?_ GE203.out|refine below_set ?_ GE204.out)|exact HB.out)) hb);clear BK203;clear BK204;clear HB;have BK203 := n0_;have BK204 := n1_;have HB := n2_;clear n0_ n1_ n2_;(try clear hb);(try clear hb2);(try clear hk);(try clear hi);have hcz19_0 : w18.cell? ⟨gb203,0,none⟩ = some (.string a0_0) := (blk_cell BK203.out 0).trans rfl;have hcz19_1 : w18.cell? ⟨gb203,1,none⟩ = some (.slice A0_1 l0_1.length c0_1) := (blk_cell BK203.out 1).trans rfl;have hcz19_2 : w18.cell? ⟨gb203,2,none⟩ = some (.slice A0_2 l0_2.length c0_2) := (blk_cell BK203.out 2).trans rfl;have hcz19_3 : w18.cell? ⟨gb203,3,none⟩ = some (.string a0_3) := (blk_cell BK203.out 3).trans rfl;have hcz19_4 : w18.cell? ⟨gb203,4,none⟩ = some (.string a0_4) := (blk_cell BK203.out 4).trans rfl;have hfz19_0 := blk_frozen BK203.out 0;have hfz19_1 := blk_frozen BK203.out 1;have hfz19_2 := blk_frozen BK203.out 2;have hfz19_3 := blk_frozen BK203.out 3;have hfz19_4 := blk_frozen BK203.out 4;have hcz20_0 : w18.cell? ⟨gb204,0,none⟩ = some (.string a1_0) := (blk_cell BK204.out 0).trans rfl;have hcz20_1 : w18.cell? ⟨gb204,1,none⟩ = some (.slice A1_1 l1_1.length c1_1) := (blk_cell BK204.out 1).trans rfl;have hcz20_2 : w18.cell? ⟨gb204,2,none⟩ = some (.slice A1_2 l1_2.length c1_2) := (blk_cell BK204.out 2).trans rfl;have hcz20_3 : w18.cell? ⟨gb204,3,none⟩ = some (.string a1_3) := (blk_cell BK204.out 3).trans rfl;have hcz20_4 : w18.cell? ⟨gb204,4,none⟩ = some (.string a1_4) := (blk_cell BK204.out 4).trans rfl;have hfz20_0 := blk_frozen BK204.out 0;have hfz20_1 := blk_frozen BK204.out 1;have hfz20_2 := blk_frozen BK204.out 2;have hfz20_3 := blk_frozen BK204.out 3;have hfz20_4 := blk_frozen BK204.out 4))
      go_ret
      exact ⟨by first|rfl|(simp [errW_none,errW_some] <;> rfl)|(simp [*,errW_none,errW_some] <;> rfl),by repeat (first|(with_reducible first|exact HB.out|apply lA|apply lN|apply lD|refine below_set ?_ GE203.out|refine below_set ?_ GE204.out)|exact HB.out)⟩
     ·rw [if_neg c9] at H
      have c9b0 : (a0_4.toList == a1_4.toList) = false := beq_eq_false_iff_ne.mpr c9
      have c9b1 : (a0_4.toList != a1_4.toList) = true := bne_iff_ne.mpr c9
      obtain rfl := Option.some.inj H
      simp only [Option.some.injEq,Prod.mk.injEq] at H
      obtain ⟨rfl⟩ := H
      go_enter Try.func13,Try.ntmps13
      go_wp2_with (first|((with_reducible refine gate_dst (N := 2) rfl ?_);refine box_event ?hg (N := 2) ?hd (cs := #[.string a0_0,.slice A0_1 l0_1.length c0_1,.slice A0_2 l0_2.length c0_2,.string a0_3,.string a0_4]) (t := 31) ?hr ?_;(case hd => rfl);(case hg => rfl);(case hr => first|(go_simp;done)|(go_simp;rfl));intro gb203 hg w21 hbox hb;have n0_ := Aside0.mk (below_step (by repeat (first|(with_reducible first|exact HB.out|apply lA|apply lN|apply lD)|exact HB.out)) hb);have n1_ := Aside0.mk (hbox);have n2_ := Aside0.mk ((by rw [hg];exact (below_size (by repeat (first|(with_reducible first|exact HB.out|apply lA|apply lN|apply lD)|exact HB.out))) : w.heap.size ≤ gb203));have n3_ := Aside0.mk ((by rw [hg];exact (below_size (by repeat (first|(with_reducible first|exact HB.out|apply lA|apply lN|apply lD)|exact HB.out))) : w.heap.size ≤ gb203));clear HB;have HB := n0_;have BK203 := n1_;have GW203 := n2_;have GE203 := n3_;clear n0_ n1_ n2_ n3_;clear hb hbox hg)|((with_reducible refine gate_dst (N := 3) rfl ?_);refine box_event ?hg (N := 3) ?hd (cs := #[.string a1_0,.slice A1_1 l1_1.length c1_1,.slice A1_2 l1_2.length c1_2,.string a1_3,.string a1_4]) (t := 31) ?hr ?_;(case hd => rfl);(case hg => rfl);(case hr => first|(go_simp;done)|(go_simp;rfl));intro gb204 hg w22 hbox hb;have n0_ := Aside0.mk (blk_below (g := gb203) (o := .cells #[.string a0_0,.slice A0_1 l0_1.length c0_1,.slice A0_2 l0_2.length c0_2,.string a0_3,.string a0_4] 31 (0,0)) (by (with_reducible repeat (first|refine bN ?_ _|refine bD ?_|refine bA ?_ _));exact BK203.out) hb);have n1_ := Aside0.mk (below_step (by repeat (first|(with_reducible first|exact HB.out|apply lA|apply lN|apply lD|refine below_set ?_ GE203.out)|exact HB.out)) hb);have n2_ := Aside0.mk (hbox);have n3_ := Aside0.mk ((by rw [hg];exact (below_size (by repeat (first|(with_reducible first|exact HB.out|apply lA|apply lN|apply lD|refine below_set ?_ GE203.out)|exact HB.out))) : w.heap.size ≤ gb204));have n4_ := Aside0.mk ((by rw [hg];exact (below_size (by repeat (first|(with_reducible first|exact HB.out|apply lA|apply lN|apply lD|refine below_set ?_ GE203.out)|exact HB.out))) : w.heap.size ≤ gb204));have n5_ := Aside0.mk ((by rw [hg];exact Nat.ne_of_lt (blk_lt (g := gb203) (o := .cells #[.string a0_0,.slice A0_1 l0_1.length c0_1,.slice A0_2 l0_2.length c0_2,.string a0_3,.string a0_4] 31 (0,0)) (by (with_reducible repeat (first|refine bN ?_ _|refine bD ?_|refine bA ?_ _));exact BK203.out)) : gb203 ≠ gb204));have n6_ := Aside0.mk ((by rw [hg];exact Nat.ne_of_gt (blk_lt (g := gb203) (o := .cells #[.string a0_0,.slice A0_1 l0_1.length c0_1,.slice A0_2 l0_2.length c0_2,.string a0_3,.string a0_4] 31 (0,0)) (by (with_reducible repeat (first|refine bN ?_ _|refine bD ?_|refine bA ?_ _));exact BK203.out)) : gb204 ≠ gb203));clear BK203;clear HB;have BK203 := n0_;have HB := n1_;have BK204 := n2_;have GW204 := n3_;have GE204 := n4_;have NB203_204 := n5_;have NB204_203 := n6_;clear n0_ n1_ n2_ n3_ n4_ n5_ n6_;clear hb hbox hg;have hnb23 := NB203_204.out;have hnc23 := NB204_203.out;have hcz24_0 : w22.cell? ⟨gb203,0,none⟩ = some (.string a0_0) := (blk_cell BK203.out 0).trans rfl;have hcz24_1 : w22.cell? ⟨gb203,1,none⟩ = some (.slice A0_1 l0_1.length c0_1) := (blk_cell BK203.out 1).trans rfl;have hcz24_2 : w22.cell? ⟨gb203,2,none⟩ = some (.slice A0_2 l0_2.length c0_2) := (blk_cell BK203.out 2).trans rfl;have hcz24_3 : w22.cell? ⟨gb203,3,none⟩ = some (.string a0_3) := (blk_cell BK203.out 3).trans rfl;have hcz24_4 : w22.cell? ⟨gb203,4,none⟩ = some (.string a0_4) := (blk_cell BK203.out 4).trans rfl;have hfz24_0 := blk_frozen BK203.out 0;have hfz24_1 := blk_frozen BK203.out 1;have hfz24_2 := blk_frozen BK203.out 2;have hfz24_3 := blk_frozen BK203.out 3;have hfz24_4 := blk_frozen BK203.out 4;have hcz25_0 : w22.cell? ⟨gb204,0,none⟩ = some (.string a1_0) := (blk_cell BK204.out 0).trans rfl;have hcz25_1 : w22.cell? ⟨gb204,1,none⟩ = some (.slice A1_1 l1_1.length c1_1) := (blk_cell BK204.out 1).trans rfl;have hcz25_2 : w22.cell? ⟨gb204,2,none⟩ = some (.slice A1_2 l1_2.length c1_2) := (blk_cell BK204.out 2).trans rfl;have hcz25_3 : w22.cell? ⟨gb204,3,none⟩ = some (.string a1_3) := (blk_cell BK204.out 3).trans rfl;have hcz25_4 : w22.cell? ⟨gb204,4,none⟩ = some (.string a1_4) := (blk_cell BK204.out 4).trans rfl;have hfz25_0 := blk_frozen BK204.out 0;have hfz25_1 := blk_frozen BK204.out 1;have hfz25_2 := blk_frozen BK204.out 2;have hfz25_3 := blk_frozen BK204.out 3;have hfz25_4 := blk_frozen BK204.out 4)|((with_reducible refine gate_callee (f := 46) rfl ?_);refine goesL_ (some 14) rfl rfl Try.func46 (by kernel_rfl) rfl #[.slice A0_1 l0_1.length c0_1,.slice A1_1 l1_1.length c1_1] rfl (by (try simp only [List.map_toArray,List.map_cons,List.map_nil]);first|done|rfl|(simp only [List.length_drop,List.length_take];rfl)) ?_;(with_reducible refine (laws_eqTermS.calls k _ _ l0_1 _ _ l1_1 true _ ?side1 ?side2 ?side3 ?side4 A4.out).mono ?_);(case side1 => repeat (first|exact (Kd.C_below HR0_1.out HB.out)|(with_reducible refine Kd.C_alloc ?_ _)|(with_reducible refine Kd.C_drewN ?_ _)|(with_reducible refine Kd.C_drew ?_)));(case side2 => exact HC0_1.out);(case side3 => repeat (first|exact (Kd.C_below HR1_1.out HB.out)|(with_reducible refine Kd.C_alloc ?_ _)|(with_reducible refine Kd.C_drewN ?_ _)|(with_reducible refine Kd.C_drew ?_)));(case side4 => exact HC1_1.out);rintro e w26 ⟨rfl,hb⟩;refine ⟨_,rfl,?_⟩;have n0_ := Aside0.mk (blk_below (g := gb203) (o := .cells #[.string a0_0,.slice A0_1 l0_1.length c0_1,.slice A0_2 l0_2.length c0_2,.string a0_3,.string a0_4] 31 (0,0)) (by (with_reducible repeat (first|refine bN ?_ _|refine bD ?_|refine bA ?_ _));exact BK203.out) hb);have n1_ := Aside0.mk (blk_below (g := gb204) (o := .cells #[.string a1_0,.slice A1_1 l1_1.length c1_1,.slice A1_2 l1_2.length c1_2,.string a1_3,.string a1_4] 31 (0,0)) (by (with_reducible repeat (first|refine bN ?_ _|refine bD ?_|refine bA ?_ _));exact BK204.out) hb);have n2_ := Aside0.mk (below_step (by repeat (first|(with_reducible first|exact HB.out|apply lA|apply lN|apply lD|refine below_set ?_ GE203.out|refine below_set ?_ GE204.out)|exact HB.out)) hb);clear BK203;clear BK204;clear HB;have BK203 := n0_;have BK204 := n1_;have HB := n2_;clear n0_ n1_ n2_;(try clear hb);(try clear hb2);(try clear hk);(try clear hi);have hcz27_0 : w26.cell? ⟨gb203,0,none⟩ = some (.string a0_0) := (blk_cell BK203.out 0).trans rfl;have hcz27_1 : w26.cell? ⟨gb203,1,none⟩ = some (.slice A0_1 l0_1.length c0_1) := (blk_cell BK203.out 1).trans rfl;have hcz27_2 : w26.cell? ⟨gb203,2,none⟩ = some (.slice A0_2 l0_2.length c0_2) := (blk_cell BK203.out 2).trans rfl;have hcz27_3 : w26.cell? ⟨gb203,3,none⟩ = some (.string a0_3) := (blk_cell BK203.out 3).trans rfl;have hcz27_4 : w26.cell? ⟨gb203,4,none⟩ = some (.string a0_4) := (blk_cell BK203.out 4).trans rfl;have hfz27_0 := blk_frozen BK203.out 0;have hfz27_1 := blk_frozen BK203.out 1;have hfz27_2 := blk_frozen BK203.out 2;have hfz27_3 := blk_frozen BK203.out 3;have hfz27_4 := blk_frozen BK203.out 4;have hcz28_0 : w26.cell? ⟨gb204,0,none⟩ = some (.string a1_0) := (blk_cell BK204.out 0).trans rfl;have hcz28_1 : w26.cell? ⟨gb204,1,none⟩ = some (.slice A1_1 l1_1.length c1_1) := (blk_cell BK204.out 1).trans rfl;have hcz28_2 : w26.cell? ⟨gb204,2,none⟩ = some (.slice A1_2 l1_2.length c1_2) := (blk_cell BK204.out 2).trans rfl;have hcz28_3 : w26.cell? ⟨gb204,3,none⟩ = some (.string a1_3) := (blk_cell BK204.out 3).trans rfl;have hcz28_4 : w26.cell? ⟨gb204,4,none⟩ = some (.string a1_4) := (blk_cell BK204.out 4).trans rfl;have hfz28_0 := blk_frozen BK204.out 0;have hfz28_1 := blk_frozen BK204.out 1;have hfz28_2 := blk_frozen BK204.out 2;have hfz28_3 := blk_frozen BK204.out 3;have hfz28_4 := blk_frozen BK204.out 4)|((with_reducible refine gate_callee (f := 47) rfl ?_);refine goesL_ (some 20) rfl rfl Try.func47 (by kernel_rfl) rfl #[.slice A0_2 l0_2.length c0_2,.slice A1_2 l1_2.length c1_2] rfl (by (try simp only [List.map_toArray,List.map_cons,List.map_nil]);first|done|rfl|(simp only [List.length_drop,List.length_take];rfl)) ?_;(with_reducible refine (laws_eqOrdinalRuleS.calls k _ _ l0_2 _ _ l1_2 true _ ?side1 ?side2 ?side3 ?side4 A6.out).mono ?_);(case side1 => repeat (first|exact (Kd.C_below HR0_2.out HB.out)|(with_reducible refine Kd.C_alloc ?_ _)|(with_reducible refine Kd.C_drewN ?_ _)|(with_reducible refine Kd.C_drew ?_)));(case side2 => exact HC0_2.out);(case side3 => repeat (first|exact (Kd.C_below HR1_2.out HB.out)|(with_reducible refine Kd.C_alloc ?_ _)|(with_reducible refine Kd.C_drewN ?_ _)|(with_reducible refine Kd.C_drew ?_)));(case side4 => exact HC1_2.out);rintro e w29 ⟨rfl,hb⟩;refine ⟨_,rfl,?_⟩;have n0_ := Aside0.mk (blk_below (g := gb203) (o := .cells #[.string a0_0,.slice A0_1 l0_1.length c0_1,.slice A0_2 l0_2.length c0_2,.string a0_3,.string a0_4] 31 (0,0)) (by (with_reducible repeat (first|refine bN ?_ _|refine bD ?_|refine bA ?_ _));exact BK203.out) hb);have n1_ := Aside0.mk (blk_below (g := gb204) (o := .cells #[.string a1_0,.slice A1_1 l1_1.length c1_1,.slice A1_2 l1_2.length c1_2,.string a1_3,.string a1_4] 31 (0,0)) (by (with_reducible repeat (first|refine bN ?_ _|refine bD ?_|refine bA ?_ _));exact BK204.out) hb);have n2_ := Aside0.mk (below_step (by repeat (first|(with_reducible first|exact HB.out|apply lA|apply lN|apply lD|refine below_set ?_ GE203.out|refine below_set ?_ GE204.out)|exact HB.out)) hb);clear BK203;clear BK204;clear HB;have BK203 := n0_;have BK204 := n1_;have HB := n2_;clear n0_ n1_ n2_;(try clear hb);(try clear hb2);(try clear hk);(try clear hi);have hcz30_0 : w29.cell? ⟨gb203,0,none⟩ = some (.string a0_0) := (blk_cell BK203.out 0).trans rfl;have hcz30_1 : w29.cell? ⟨gb203,1,none⟩ = some (.slice A0_1 l0_1.length c0_1) := (blk_cell BK203.out 1).trans rfl;have hcz30_2 : w29.cell? ⟨gb203,2,none⟩ = some (.slice A0_2 l0_2.length c0_2) := (blk_cell BK203.out 2).trans rfl;have hcz30_3 : w29.cell? ⟨gb203,3,none⟩ = some (.string a0_3) := (blk_cell BK203.out 3).trans rfl;have hcz30_4 : w29.cell? ⟨gb203,4,none⟩ = some (.string a0_4) := (blk_cell BK203.out 4).trans rfl;have hfz30_0 := blk_frozen BK203.out 0;have hfz30_1 := blk_frozen BK203.out 1;have hfz30_2 := blk_frozen BK203.out 2;have hfz30_3 := blk_frozen BK203.out 3;have hfz30_4 := blk_frozen BK203.out 4;have hcz31_0 : w29.cell? ⟨gb204,0,none⟩ = some (.string a1_0) := (blk_cell BK204.out 0).trans rfl;have hcz31_1 : w29.cell? ⟨gb204,1,none⟩ = some (.slice A1_1 l1_1.length c1_1) := (blk_cell BK204.out 1).trans rfl;have hcz31_2 : w29.cell? ⟨gb204,2,none⟩ = some (.slice A1_2 l1_2.length c1_2) := (blk_cell BK204.out 2).trans rfl;have hcz31_3 : w29.cell? ⟨gb204,3,none⟩ = some (.string a1_3) := (blk_cell BK204.out 3).trans rfl;have hcz31_4 : w29.cell? ⟨gb204,4,none⟩ = some (.string a1_4) := (blk_cell BK204.out 4).trans rfl;have hfz31_0 := blk_frozen BK204.out 0;have hfz31_1 := blk_frozen BK204.out 1;have hfz31_2 := blk_frozen BK204.out 2;have hfz31_3 := blk_frozen BK204.out 3;have hfz31_4 := blk_frozen BK204.out 4))
      go_ret
      exact ⟨by first|rfl|(simp [errW_none,errW_some] <;> rfl)|(simp [*,errW_none,errW_some] <;> rfl),by repeat (first|(with_reducible first|exact HB.out|apply lA|apply lN|apply lD|refine below_set ?_ GE203.out|refine below_set ?_ GE204.out)|exact HB.out)⟩
    ·rw [if_neg c8] at H
     have c8b0 : (a0_3.toList == a1_3.toList) = false := beq_eq_false_iff_ne.mpr c8
     have c8b1 : (a0_3.toList != a1_3.toList) = true := bne_iff_ne.mpr c8
     obtain rfl := Option.some.inj H
     simp only [Option.some.injEq,Prod.mk.injEq] at H
     obtain ⟨rfl⟩ := H
     go_enter Try.func13,Try.ntmps13
     go_wp2_with (first|((with_reducible refine gate_dst (N := 2) rfl ?_);refine box_event ?hg (N := 2) ?hd (cs := #[.string a0_0,.slice A0_1 l0_1.length c0_1,.slice A0_2 l0_2.length c0_2,.string a0_3,.string a0_4]) (t := 31) ?hr ?_;(case hd => rfl);(case hg => rfl);(case hr => first|(go_simp;done)|(go_simp;rfl));intro gb203 hg w32 hbox hb;have n0_ := Aside0.mk (below_step (by repeat (first|(with_reducible first|exact HB.out|apply lA|apply lN|apply lD)|exact HB.out)) hb);have n1_ := Aside0.mk (hbox);have n2_ := Aside0.mk ((by rw [hg];exact (below_size (by repeat (first|(with_reducible first|exact HB.out|apply lA|apply lN|apply lD)|exact HB.out))) : w.heap.size ≤ gb203));have n3_ := Aside0.mk ((by rw [hg];exact (below_size (by repeat (first|(with_reducible first|exact HB.out|apply lA|apply lN|apply lD)|exact HB.out))) : w.heap.size ≤ gb203));clear HB;have HB := n0_;have BK203 := n1_;have GW203 := n2_;have GE203 := n3_;clear n0_ n1_ n2_ n3_;clear hb hbox hg)|((with_reducible refine gate_dst (N := 3) rfl ?_);refine box_event ?hg (N := 3) ?hd (cs := #[.string a1_0,.slice A1_1 l1_1.length c1_1,.slice A1_2 l1_2.length c1_2,.string a1_3,.string a1_4]) (t := 31) ?hr ?_;(case hd => rfl);(case hg => rfl);(case hr => first|(go_simp;done)|(go_simp;rfl));intro gb204 hg w33 hbox hb;have n0_ := Aside0.mk (blk_below (g := gb203) (o := .cells #[.string a0_0,.slice A0_1 l0_1.length c0_1,.slice A0_2 l0_2.length c0_2,.string a0_3,.string a0_4] 31 (0,0)) (by (with_reducible repeat (first|refine bN ?_ _|refine bD ?_|refine bA ?_ _));exact BK203.out) hb);have n1_ := Aside0.mk (below_step (by repeat (first|(with_reducible first|exact HB.out|apply lA|apply lN|apply lD|refine below_set ?_ GE203.out)|exact HB.out)) hb);have n2_ := Aside0.mk (hbox);have n3_ := Aside0.mk ((by rw [hg];exact (below_size (by repeat (first|(with_reducible first|exact HB.out|apply lA|apply lN|apply lD|refine below_set ?_ GE203.out)|exact HB.out))) : w.heap.size ≤ gb204));have n4_ := Aside0.mk ((by rw [hg];exact (below_size (by repeat (first|(with_reducible first|exact HB.out|apply lA|apply lN|apply lD|refine below_set ?_ GE203.out)|exact HB.out))) : w.heap.size ≤ gb204));have n5_ := Aside0.mk ((by rw [hg];exact Nat.ne_of_lt (blk_lt (g := gb203) (o := .cells #[.string a0_0,.slice A0_1 l0_1.length c0_1,.slice A0_2 l0_2.length c0_2,.string a0_3,.string a0_4] 31 (0,0)) (by (with_reducible repeat (first|refine bN ?_ _|refine bD ?_|refine bA ?_ _));exact BK203.out)) : gb203 ≠ gb204));have n6_ := Aside0.mk ((by rw [hg];exact Nat.ne_of_gt (blk_lt (g := gb203) (o := .cells #[.string a0_0,.slice A0_1 l0_1.length c0_1,.slice A0_2 l0_2.length c0_2,.string a0_3,.string a0_4] 31 (0,0)) (by (with_reducible repeat (first|refine bN ?_ _|refine bD ?_|refine bA ?_ _));exact BK203.out)) : gb204 ≠ gb203));clear BK203;clear HB;have BK203 := n0_;have HB := n1_;have BK204 := n2_;have GW204 := n3_;have GE204 := n4_;have NB203_204 := n5_;have NB204_203 := n6_;clear n0_ n1_ n2_ n3_ n4_ n5_ n6_;clear hb hbox hg;have hnb34 := NB203_204.out;have hnc34 := NB204_203.out;have hcz35_0 : w33.cell? ⟨gb203,0,none⟩ = some (.string a0_0) := (blk_cell BK203.out 0).trans rfl;have hcz35_1 : w33.cell? ⟨gb203,1,none⟩ = some (.slice A0_1 l0_1.length c0_1) := (blk_cell BK203.out 1).trans rfl;have hcz35_2 : w33.cell? ⟨gb203,2,none⟩ = some (.slice A0_2 l0_2.length c0_2) := (blk_cell BK203.out 2).trans rfl;have hcz35_3 : w33.cell? ⟨gb203,3,none⟩ = some (.string a0_3) := (blk_cell BK203.out 3).trans rfl;have hcz35_4 : w33.cell? ⟨gb203,4,none⟩ = some (.string a0_4) := (blk_cell BK203.out 4).trans rfl;have hfz35_0 := blk_frozen BK203.out 0;have hfz35_1 := blk_frozen BK203.out 1;have hfz35_2 := blk_frozen BK203.out 2;have hfz35_3 := blk_frozen BK203.out 3;have hfz35_4 := blk_frozen BK203.out 4;have hcz36_0 : w33.cell? ⟨gb204,0,none⟩ = some (.string a1_0) := (blk_cell BK204.out 0).trans rfl;have hcz36_1 : w33.cell? ⟨gb204,1,none⟩ = some (.slice A1_1 l1_1.length c1_1) := (blk_cell BK204.out 1).trans rfl;have hcz36_2 : w33.cell? ⟨gb204,2,none⟩ = some (.slice A1_2 l1_2.length c1_2) := (blk_cell BK204.out 2).trans rfl;have hcz36_3 : w33.cell? ⟨gb204,3,none⟩ = some (.string a1_3) := (blk_cell BK204.out 3).trans rfl;have hcz36_4 : w33.cell? ⟨gb204,4,none⟩ = some (.string a1_4) := (blk_cell BK204.out 4).trans rfl;have hfz36_0 := blk_frozen BK204.out 0;have hfz36_1 := blk_frozen BK204.out 1;have hfz36_2 := blk_frozen BK204.out 2;have hfz36_3 := blk_frozen BK204.out 3;have hfz36_4 := blk_frozen BK204.out 4)|((with_reducible refine gate_callee (f := 46) rfl ?_);refine goesL_ (some 14) rfl rfl Try.func46 (by kernel_rfl) rfl #[.slice A0_1 l0_1.length c0_1,.slice A1_1 l1_1.length c1_1] rfl (by (try simp only [List.map_toArray,List.map_cons,List.map_nil]);first|done|rfl|(simp only [List.length_drop,List.length_take];rfl)) ?_;(with_reducible refine (laws_eqTermS.calls k _ _ l0_1 _ _ l1_1 true _ ?side1 ?side2 ?side3 ?side4 A4.out).mono ?_);(case side1 => repeat (first|exact (Kd.C_below HR0_1.out HB.out)|(with_reducible refine Kd.C_alloc ?_ _)|(with_reducible refine Kd.C_drewN ?_ _)|(with_reducible refine Kd.C_drew ?_)));(case side2 => exact HC0_1.out);(case side3 => repeat (first|exact (Kd.C_below HR1_1.out HB.out)|(with_reducible refine Kd.C_alloc ?_ _)|(with_reducible refine Kd.C_drewN ?_ _)|(with_reducible refine Kd.C_drew ?_)));(case side4 => exact HC1_1.out);rintro e w37 ⟨rfl,hb⟩;refine ⟨_,rfl,?_⟩;have n0_ := Aside0.mk (blk_below (g := gb203) (o := .cells #[.string a0_0,.slice A0_1 l0_1.length c0_1,.slice A0_2 l0_2.length c0_2,.string a0_3,.string a0_4] 31 (0,0)) (by (with_reducible repeat (first|refine bN ?_ _|refine bD ?_|refine bA ?_ _));exact BK203.out) hb);have n1_ := Aside0.mk (blk_below (g := gb204) (o := .cells #[.string a1_0,.slice A1_1 l1_1.length c1_1,.slice A1_2 l1_2.length c1_2,.string a1_3,.string a1_4] 31 (0,0)) (by (with_reducible repeat (first|refine bN ?_ _|refine bD ?_|refine bA ?_ _));exact BK204.out) hb);have n2_ := Aside0.mk (below_step (by repeat (first|(with_reducible first|exact HB.out|apply lA|apply lN|apply lD|refine below_set ?_ GE203.out|refine below_set ?_ GE204.out)|exact HB.out)) hb);clear BK203;clear BK204;clear HB;have BK203 := n0_;have BK204 := n1_;have HB := n2_;clear n0_ n1_ n2_;(try clear hb);(try clear hb2);(try clear hk);(try clear hi);have hcz38_0 : w37.cell? ⟨gb203,0,none⟩ = some (.string a0_0) := (blk_cell BK203.out 0).trans rfl;have hcz38_1 : w37.cell? ⟨gb203,1,none⟩ = some (.slice A0_1 l0_1.length c0_1) := (blk_cell BK203.out 1).trans rfl;have hcz38_2 : w37.cell? ⟨gb203,2,none⟩ = some (.slice A0_2 l0_2.length c0_2) := (blk_cell BK203.out 2).trans rfl;have hcz38_3 : w37.cell? ⟨gb203,3,none⟩ = some (.string a0_3) := (blk_cell BK203.out 3).trans rfl;have hcz38_4 : w37.cell? ⟨gb203,4,none⟩ = some (.string a0_4) := (blk_cell BK203.out 4).trans rfl;have hfz38_0 := blk_frozen BK203.out 0;have hfz38_1 := blk_frozen BK203.out 1;have hfz38_2 := blk_frozen BK203.out 2;have hfz38_3 := blk_frozen BK203.out 3;have hfz38_4 := blk_frozen BK203.out 4;have hcz39_0 : w37.cell? ⟨gb204,0,none⟩ = some (.string a1_0) := (blk_cell BK204.out 0).trans rfl;have hcz39_1 : w37.cell? ⟨gb204,1,none⟩ = some (.slice A1_1 l1_1.length c1_1) := (blk_cell BK204.out 1).trans rfl;have hcz39_2 : w37.cell? ⟨gb204,2,none⟩ = some (.slice A1_2 l1_2.length c1_2) := (blk_cell BK204.out 2).trans rfl;have hcz39_3 : w37.cell? ⟨gb204,3,none⟩ = some (.string a1_3) := (blk_cell BK204.out 3).trans rfl;have hcz39_4 : w37.cell? ⟨gb204,4,none⟩ = some (.string a1_4) := (blk_cell BK204.out 4).trans rfl;have hfz39_0 := blk_frozen BK204.out 0;have hfz39_1 := blk_frozen BK204.out 1;have hfz39_2 := blk_frozen BK204.out 2;have hfz39_3 := blk_frozen BK204.out 3;have hfz39_4 := blk_frozen BK204.out 4)|((with_reducible refine gate_callee (f := 47) rfl ?_);refine goesL_ (some 20) rfl rfl Try.func47 (by kernel_rfl) rfl #[.slice A0_2 l0_2.length c0_2,.slice A1_2 l1_2.length c1_2] rfl (by (try simp only [List.map_toArray,List.map_cons,List.map_nil]);first|done|rfl|(simp only [List.length_drop,List.length_take];rfl)) ?_;(with_reducible refine (laws_eqOrdinalRuleS.calls k _ _ l0_2 _ _ l1_2 true _ ?side1 ?side2 ?side3 ?side4 A6.out).mono ?_);(case side1 => repeat (first|exact (Kd.C_below HR0_2.out HB.out)|(with_reducible refine Kd.C_alloc ?_ _)|(with_reducible refine Kd.C_drewN ?_ _)|(with_reducible refine Kd.C_drew ?_)));(case side2 => exact HC0_2.out);(case side3 => repeat (first|exact (Kd.C_below HR1_2.out HB.out)|(with_reducible refine Kd.C_alloc ?_ _)|(with_reducible refine Kd.C_drewN ?_ _)|(with_reducible refine Kd.C_drew ?_)));(case side4 => exact HC1_2.out);rintro e w40 ⟨rfl,hb⟩;refine ⟨_,rfl,?_⟩;have n0_ := Aside0.mk (blk_below (g := gb203) (o := .cells #[.string a0_0,.slice A0_1 l0_1.length c0_1,.slice A0_2 l0_2.length c0_2,.string a0_3,.string a0_4] 31 (0,0)) (by (with_reducible repeat (first|refine bN ?_ _|refine bD ?_|refine bA ?_ _));exact BK203.out) hb);have n1_ := Aside0.mk (blk_below (g := gb204) (o := .cells #[.string a1_0,.slice A1_1 l1_1.length c1_1,.slice A1_2 l1_2.length c1_2,.string a1_3,.string a1_4] 31 (0,0)) (by (with_reducible repeat (first|refine bN ?_ _|refine bD ?_|refine bA ?_ _));exact BK204.out) hb);have n2_ := Aside0.mk (below_step (by repeat (first|(with_reducible first|exact HB.out|apply lA|apply lN|apply lD|refine below_set ?_ GE203.out|refine below_set ?_ GE204.out)|exact HB.out)) hb);clear BK203;clear BK204;clear HB;have BK203 := n0_;have BK204 := n1_;have HB := n2_;clear n0_ n1_ n2_;(try clear hb);(try clear hb2);(try clear hk);(try clear hi);have hcz41_0 : w40.cell? ⟨gb203,0,none⟩ = some (.string a0_0) := (blk_cell BK203.out 0).trans rfl;have hcz41_1 : w40.cell? ⟨gb203,1,none⟩ = some (.slice A0_1 l0_1.length c0_1) := (blk_cell BK203.out 1).trans rfl;have hcz41_2 : w40.cell? ⟨gb203,2,none⟩ = some (.slice A0_2 l0_2.length c0_2) := (blk_cell BK203.out 2).trans rfl;have hcz41_3 : w40.cell? ⟨gb203,3,none⟩ = some (.string a0_3) := (blk_cell BK203.out 3).trans rfl;have hcz41_4 : w40.cell? ⟨gb203,4,none⟩ = some (.string a0_4) := (blk_cell BK203.out 4).trans rfl;have hfz41_0 := blk_frozen BK203.out 0;have hfz41_1 := blk_frozen BK203.out 1;have hfz41_2 := blk_frozen BK203.out 2;have hfz41_3 := blk_frozen BK203.out 3;have hfz41_4 := blk_frozen BK203.out 4;have hcz42_0 : w40.cell? ⟨gb204,0,none⟩ = some (.string a1_0) := (blk_cell BK204.out 0).trans rfl;have hcz42_1 : w40.cell? ⟨gb204,1,none⟩ = some (.slice A1_1 l1_1.length c1_1) := (blk_cell BK204.out 1).trans rfl;have hcz42_2 : w40.cell? ⟨gb204,2,none⟩ = some (.slice A1_2 l1_2.length c1_2) := (blk_cell BK204.out 2).trans rfl;have hcz42_3 : w40.cell? ⟨gb204,3,none⟩ = some (.string a1_3) := (blk_cell BK204.out 3).trans rfl;have hcz42_4 : w40.cell? ⟨gb204,4,none⟩ = some (.string a1_4) := (blk_cell BK204.out 4).trans rfl;have hfz42_0 := blk_frozen BK204.out 0;have hfz42_1 := blk_frozen BK204.out 1;have hfz42_2 := blk_frozen BK204.out 2;have hfz42_3 := blk_frozen BK204.out 3;have hfz42_4 := blk_frozen BK204.out 4))
     go_ret
     exact ⟨by first|rfl|(simp [errW_none,errW_some] <;> rfl)|(simp [*,errW_none,errW_some] <;> rfl),by repeat (first|(with_reducible first|exact HB.out|apply lA|apply lN|apply lD|refine below_set ?_ GE203.out|refine below_set ?_ GE204.out)|exact HB.out)⟩
   ·replace c7 := Bool.eq_false_iff.mpr c7
    subst c7
    have H1 : (some false) = some r := by rw [if_neg (show ¬ (false = true) by decide)] at H;exact H
    clear H
    have H := H1
    clear H1
    obtain rfl := Option.some.inj H
    simp only [Option.some.injEq,Prod.mk.injEq] at H
    obtain ⟨rfl⟩ := H
    go_enter Try.func13,Try.ntmps13
    go_wp2_with (first|((with_reducible refine gate_dst (N := 2) rfl ?_);refine box_event ?hg (N := 2) ?hd (cs := #[.string a0_0,.slice A0_1 l0_1.length c0_1,.slice A0_2 l0_2.length c0_2,.string a0_3,.string a0_4]) (t := 31) ?hr ?_;(case hd => rfl);(case hg => rfl);(case hr => first|(go_simp;done)|(go_simp;rfl));intro gb203 hg w43 hbox hb;have n0_ := Aside0.mk (below_step (by repeat (first|(with_reducible first|exact HB.out|apply lA|apply lN|apply lD)|exact HB.out)) hb);have n1_ := Aside0.mk (hbox);have n2_ := Aside0.mk ((by rw [hg];exact (below_size (by repeat (first|(with_reducible first|exact HB.out|apply lA|apply lN|apply lD)|exact HB.out))) : w.heap.size ≤ gb203));have n3_ := Aside0.mk ((by rw [hg];exact (below_size (by repeat (first|(with_reducible first|exact HB.out|apply lA|apply lN|apply lD)|exact HB.out))) : w.heap.size ≤ gb203));clear HB;have HB := n0_;have BK203 := n1_;have GW203 := n2_;have GE203 := n3_;clear n0_ n1_ n2_ n3_;clear hb hbox hg)|((with_reducible refine gate_dst (N := 3) rfl ?_);refine box_event ?hg (N := 3) ?hd (cs := #[.string a1_0,.slice A1_1 l1_1.length c1_1,.slice A1_2 l1_2.length c1_2,.string a1_3,.string a1_4]) (t := 31) ?hr ?_;(case hd => rfl);(case hg => rfl);(case hr => first|(go_simp;done)|(go_simp;rfl));intro gb204 hg w44 hbox hb;have n0_ := Aside0.mk (blk_below (g := gb203) (o := .cells #[.string a0_0,.slice A0_1 l0_1.length c0_1,.slice A0_2 l0_2.length c0_2,.string a0_3,.string a0_4] 31 (0,0)) (by (with_reducible repeat (first|refine bN ?_ _|refine bD ?_|refine bA ?_ _));exact BK203.out) hb);have n1_ := Aside0.mk (below_step (by repeat (first|(with_reducible first|exact HB.out|apply lA|apply lN|apply lD|refine below_set ?_ GE203.out)|exact HB.out)) hb);have n2_ := Aside0.mk (hbox);have n3_ := Aside0.mk ((by rw [hg];exact (below_size (by repeat (first|(with_reducible first|exact HB.out|apply lA|apply lN|apply lD|refine below_set ?_ GE203.out)|exact HB.out))) : w.heap.size ≤ gb204));have n4_ := Aside0.mk ((by rw [hg];exact (below_size (by repeat (first|(with_reducible first|exact HB.out|apply lA|apply lN|apply lD|refine below_set ?_ GE203.out)|exact HB.out))) : w.heap.size ≤ gb204));have n5_ := Aside0.mk ((by rw [hg];exact Nat.ne_of_lt (blk_lt (g := gb203) (o := .cells #[.string a0_0,.slice A0_1 l0_1.length c0_1,.slice A0_2 l0_2.length c0_2,.string a0_3,.string a0_4] 31 (0,0)) (by (with_reducible repeat (first|refine bN ?_ _|refine bD ?_|refine bA ?_ _));exact BK203.out)) : gb203 ≠ gb204));have n6_ := Aside0.mk ((by rw [hg];exact Nat.ne_of_gt (blk_lt (g := gb203) (o := .cells #[.string a0_0,.slice A0_1 l0_1.length c0_1,.slice A0_2 l0_2.length c0_2,.string a0_3,.string a0_4] 31 (0,0)) (by (with_reducible repeat (first|refine bN ?_ _|refine bD ?_|refine bA ?_ _));exact BK203.out)) : gb204 ≠ gb203));clear BK203;clear HB;have BK203 := n0_;have HB := n1_;have BK204 := n2_;have GW204 := n3_;have GE204 := n4_;have NB203_204 := n5_;have NB204_203 := n6_;clear n0_ n1_ n2_ n3_ n4_ n5_ n6_;clear hb hbox hg;have hnb45 := NB203_204.out;have hnc45 := NB204_203.out;have hcz46_0 : w44.cell? ⟨gb203,0,none⟩ = some (.string a0_0) := (blk_cell BK203.out 0).trans rfl;have hcz46_1 : w44.cell? ⟨gb203,1,none⟩ = some (.slice A0_1 l0_1.length c0_1) := (blk_cell BK203.out 1).trans rfl;have hcz46_2 : w44.cell? ⟨gb203,2,none⟩ = some (.slice A0_2 l0_2.length c0_2) := (blk_cell BK203.out 2).trans rfl;have hcz46_3 : w44.cell? ⟨gb203,3,none⟩ = some (.string a0_3) := (blk_cell BK203.out 3).trans rfl;have hcz46_4 : w44.cell? ⟨gb203,4,none⟩ = some (.string a0_4) := (blk_cell BK203.out 4).trans rfl;have hfz46_0 := blk_frozen BK203.out 0;have hfz46_1 := blk_frozen BK203.out 1;have hfz46_2 := blk_frozen BK203.out 2;have hfz46_3 := blk_frozen BK203.out 3;have hfz46_4 := blk_frozen BK203.out 4;have hcz47_0 : w44.cell? ⟨gb204,0,none⟩ = some (.string a1_0) := (blk_cell BK204.out 0).trans rfl;have hcz47_1 : w44.cell? ⟨gb204,1,none⟩ = some (.slice A1_1 l1_1.length c1_1) := (blk_cell BK204.out 1).trans rfl;have hcz47_2 : w44.cell? ⟨gb204,2,none⟩ = some (.slice A1_2 l1_2.length c1_2) := (blk_cell BK204.out 2).trans rfl;have hcz47_3 : w44.cell? ⟨gb204,3,none⟩ = some (.string a1_3) := (blk_cell BK204.out 3).trans rfl;have hcz47_4 : w44.cell? ⟨gb204,4,none⟩ = some (.string a1_4) := (blk_cell BK204.out 4).trans rfl;have hfz47_0 := blk_frozen BK204.out 0;have hfz47_1 := blk_frozen BK204.out 1;have hfz47_2 := blk_frozen BK204.out 2;have hfz47_3 := blk_frozen BK204.out 3;have hfz47_4 := blk_frozen BK204.out 4)|((with_reducible refine gate_callee (f := 46) rfl ?_);refine goesL_ (some 14) rfl rfl Try.func46 (by kernel_rfl) rfl #[.slice A0_1 l0_1.length c0_1,.slice A1_1 l1_1.length c1_1] rfl (by (try simp only [List.map_toArray,List.map_cons,List.map_nil]);first|done|rfl|(simp only [List.length_drop,List.length_take];rfl)) ?_;(with_reducible refine (laws_eqTermS.calls k _ _ l0_1 _ _ l1_1 true _ ?side1 ?side2 ?side3 ?side4 A4.out).mono ?_);(case side1 => repeat (first|exact (Kd.C_below HR0_1.out HB.out)|(with_reducible refine Kd.C_alloc ?_ _)|(with_reducible refine Kd.C_drewN ?_ _)|(with_reducible refine Kd.C_drew ?_)));(case side2 => exact HC0_1.out);(case side3 => repeat (first|exact (Kd.C_below HR1_1.out HB.out)|(with_reducible refine Kd.C_alloc ?_ _)|(with_reducible refine Kd.C_drewN ?_ _)|(with_reducible refine Kd.C_drew ?_)));(case side4 => exact HC1_1.out);rintro e w48 ⟨rfl,hb⟩;refine ⟨_,rfl,?_⟩;have n0_ := Aside0.mk (blk_below (g := gb203) (o := .cells #[.string a0_0,.slice A0_1 l0_1.length c0_1,.slice A0_2 l0_2.length c0_2,.string a0_3,.string a0_4] 31 (0,0)) (by (with_reducible repeat (first|refine bN ?_ _|refine bD ?_|refine bA ?_ _));exact BK203.out) hb);have n1_ := Aside0.mk (blk_below (g := gb204) (o := .cells #[.string a1_0,.slice A1_1 l1_1.length c1_1,.slice A1_2 l1_2.length c1_2,.string a1_3,.string a1_4] 31 (0,0)) (by (with_reducible repeat (first|refine bN ?_ _|refine bD ?_|refine bA ?_ _));exact BK204.out) hb);have n2_ := Aside0.mk (below_step (by repeat (first|(with_reducible first|exact HB.out|apply lA|apply lN|apply lD|refine below_set ?_ GE203.out|refine below_set ?_ GE204.out)|exact HB.out)) hb);clear BK203;clear BK204;clear HB;have BK203 := n0_;have BK204 := n1_;have HB := n2_;clear n0_ n1_ n2_;(try clear hb);(try clear hb2);(try clear hk);(try clear hi);have hcz49_0 : w48.cell? ⟨gb203,0,none⟩ = some (.string a0_0) := (blk_cell BK203.out 0).trans rfl;have hcz49_1 : w48.cell? ⟨gb203,1,none⟩ = some (.slice A0_1 l0_1.length c0_1) := (blk_cell BK203.out 1).trans rfl;have hcz49_2 : w48.cell? ⟨gb203,2,none⟩ = some (.slice A0_2 l0_2.length c0_2) := (blk_cell BK203.out 2).trans rfl;have hcz49_3 : w48.cell? ⟨gb203,3,none⟩ = some (.string a0_3) := (blk_cell BK203.out 3).trans rfl;have hcz49_4 : w48.cell? ⟨gb203,4,none⟩ = some (.string a0_4) := (blk_cell BK203.out 4).trans rfl;have hfz49_0 := blk_frozen BK203.out 0;have hfz49_1 := blk_frozen BK203.out 1;have hfz49_2 := blk_frozen BK203.out 2;have hfz49_3 := blk_frozen BK203.out 3;have hfz49_4 := blk_frozen BK203.out 4;have hcz50_0 : w48.cell? ⟨gb204,0,none⟩ = some (.string a1_0) := (blk_cell BK204.out 0).trans rfl;have hcz50_1 : w48.cell? ⟨gb204,1,none⟩ = some (.slice A1_1 l1_1.length c1_1) := (blk_cell BK204.out 1).trans rfl;have hcz50_2 : w48.cell? ⟨gb204,2,none⟩ = some (.slice A1_2 l1_2.length c1_2) := (blk_cell BK204.out 2).trans rfl;have hcz50_3 : w48.cell? ⟨gb204,3,none⟩ = some (.string a1_3) := (blk_cell BK204.out 3).trans rfl;have hcz50_4 : w48.cell? ⟨gb204,4,none⟩ = some (.string a1_4) := (blk_cell BK204.out 4).trans rfl;have hfz50_0 := blk_frozen BK204.out 0;have hfz50_1 := blk_frozen BK204.out 1;have hfz50_2 := blk_frozen BK204.out 2;have hfz50_3 := blk_frozen BK204.out 3;have hfz50_4 := blk_frozen BK204.out 4)|((with_reducible refine gate_callee (f := 47) rfl ?_);refine goesL_ (some 20) rfl rfl Try.func47 (by kernel_rfl) rfl #[.slice A0_2 l0_2.length c0_2,.slice A1_2 l1_2.length c1_2] rfl (by (try simp only [List.map_toArray,List.map_cons,List.map_nil]);first|done|rfl|(simp only [List.length_drop,List.length_take];rfl)) ?_;(with_reducible refine (laws_eqOrdinalRuleS.calls k _ _ l0_2 _ _ l1_2 false _ ?side1 ?side2 ?side3 ?side4 A6.out).mono ?_);(case side1 => repeat (first|exact (Kd.C_below HR0_2.out HB.out)|(with_reducible refine Kd.C_alloc ?_ _)|(with_reducible refine Kd.C_drewN ?_ _)|(with_reducible refine Kd.C_drew ?_)));(case side2 => exact HC0_2.out);(case side3 => repeat (first|exact (Kd.C_below HR1_2.out HB.out)|(with_reducible refine Kd.C_alloc ?_ _)|(with_reducible refine Kd.C_drewN ?_ _)|(with_reducible refine Kd.C_drew ?_)));(case side4 => exact HC1_2.out);rintro e w51 ⟨rfl,hb⟩;refine ⟨_,rfl,?_⟩;have n0_ := Aside0.mk (blk_below (g := gb203) (o := .cells #[.string a0_0,.slice A0_1 l0_1.length c0_1,.slice A0_2 l0_2.length c0_2,.string a0_3,.string a0_4] 31 (0,0)) (by (with_reducible repeat (first|refine bN ?_ _|refine bD ?_|refine bA ?_ _));exact BK203.out) hb);have n1_ := Aside0.mk (blk_below (g := gb204) (o := .cells #[.string a1_0,.slice A1_1 l1_1.length c1_1,.slice A1_2 l1_2.length c1_2,.string a1_3,.string a1_4] 31 (0,0)) (by (with_reducible repeat (first|refine bN ?_ _|refine bD ?_|refine bA ?_ _));exact BK204.out) hb);have n2_ := Aside0.mk (below_step (by repeat (first|(with_reducible first|exact HB.out|apply lA|apply lN|apply lD|refine below_set ?_ GE203.out|refine below_set ?_ GE204.out)|exact HB.out)) hb);clear BK203;clear BK204;clear HB;have BK203 := n0_;have BK204 := n1_;have HB := n2_;clear n0_ n1_ n2_;(try clear hb);(try clear hb2);(try clear hk);(try clear hi)))
    go_ret
    exact ⟨by first|rfl|(simp [errW_none,errW_some] <;> rfl)|(simp [*,errW_none,errW_some] <;> rfl),by repeat (first|(with_reducible first|exact HB.out|apply lA|apply lN|apply lD|refine below_set ?_ GE203.out|refine below_set ?_ GE204.out)|exact HB.out)⟩
  ·replace c5 := Bool.eq_false_iff.mpr c5
   subst c5
   have H1 : (some false) = some r := by rw [if_neg (show ¬ (false = true) by decide)] at H;exact H
   clear H
   have H := H1
   clear H1
   obtain rfl := Option.some.inj H
   simp only [Option.some.injEq,Prod.mk.injEq] at H
   obtain ⟨rfl⟩ := H
   go_enter Try.func13,Try.ntmps13
   go_wp2_with (first|((with_reducible refine gate_dst (N := 2) rfl ?_);refine box_event ?hg (N := 2) ?hd (cs := #[.string a0_0,.slice A0_1 l0_1.length c0_1,.slice A0_2 l0_2.length c0_2,.string a0_3,.string a0_4]) (t := 31) ?hr ?_;(case hd => rfl);(case hg => rfl);(case hr => first|(go_simp;done)|(go_simp;rfl));intro gb203 hg w52 hbox hb;have n0_ := Aside0.mk (below_step (by repeat (first|(with_reducible first|exact HB.out|apply lA|apply lN|apply lD)|exact HB.out)) hb);have n1_ := Aside0.mk (hbox);have n2_ := Aside0.mk ((by rw [hg];exact (below_size (by repeat (first|(with_reducible first|exact HB.out|apply lA|apply lN|apply lD)|exact HB.out))) : w.heap.size ≤ gb203));have n3_ := Aside0.mk ((by rw [hg];exact (below_size (by repeat (first|(with_reducible first|exact HB.out|apply lA|apply lN|apply lD)|exact HB.out))) : w.heap.size ≤ gb203));clear HB;have HB := n0_;have BK203 := n1_;have GW203 := n2_;have GE203 := n3_;clear n0_ n1_ n2_ n3_;clear hb hbox hg)|((with_reducible refine gate_dst (N := 3) rfl ?_);refine box_event ?hg (N := 3) ?hd (cs := #[.string a1_0,.slice A1_1 l1_1.length c1_1,.slice A1_2 l1_2.length c1_2,.string a1_3,.string a1_4]) (t := 31) ?hr ?_;(case hd => rfl);(case hg => rfl);(case hr => first|(go_simp;done)|(go_simp;rfl));intro gb204 hg w53 hbox hb;have n0_ := Aside0.mk (blk_below (g := gb203) (o := .cells #[.string a0_0,.slice A0_1 l0_1.length c0_1,.slice A0_2 l0_2.length c0_2,.string a0_3,.string a0_4] 31 (0,0)) (by (with_reducible repeat (first|refine bN ?_ _|refine bD ?_|refine bA ?_ _));exact BK203.out) hb);have n1_ := Aside0.mk (below_step (by repeat (first|(with_reducible first|exact HB.out|apply lA|apply lN|apply lD|refine below_set ?_ GE203.out)|exact HB.out)) hb);have n2_ := Aside0.mk (hbox);have n3_ := Aside0.mk ((by rw [hg];exact (below_size (by repeat (first|(with_reducible first|exact HB.out|apply lA|apply lN|apply lD|refine below_set ?_ GE203.out)|exact HB.out))) : w.heap.size ≤ gb204));have n4_ := Aside0.mk ((by rw [hg];exact (below_size (by repeat (first|(with_reducible first|exact HB.out|apply lA|apply lN|apply lD|refine below_set ?_ GE203.out)|exact HB.out))) : w.heap.size ≤ gb204));have n5_ := Aside0.mk ((by rw [hg];exact Nat.ne_of_lt (blk_lt (g := gb203) (o := .cells #[.string a0_0,.slice A0_1 l0_1.length c0_1,.slice A0_2 l0_2.length c0_2,.string a0_3,.string a0_4] 31 (0,0)) (by (with_reducible repeat (first|refine bN ?_ _|refine bD ?_|refine bA ?_ _));exact BK203.out)) : gb203 ≠ gb204));have n6_ := Aside0.mk ((by rw [hg];exact Nat.ne_of_gt (blk_lt (g := gb203) (o := .cells #[.string a0_0,.slice A0_1 l0_1.length c0_1,.slice A0_2 l0_2.length c0_2,.string a0_3,.string a0_4] 31 (0,0)) (by (with_reducible repeat (first|refine bN ?_ _|refine bD ?_|refine bA ?_ _));exact BK203.out)) : gb204 ≠ gb203));clear BK203;clear HB;have BK203 := n0_;have HB := n1_;have BK204 := n2_;have GW204 := n3_;have GE204 := n4_;have NB203_204 := n5_;have NB204_203 := n6_;clear n0_ n1_ n2_ n3_ n4_ n5_ n6_;clear hb hbox hg;have hnb54 := NB203_204.out;have hnc54 := NB204_203.out;have hcz55_0 : w53.cell? ⟨gb203,0,none⟩ = some (.string a0_0) := (blk_cell BK203.out 0).trans rfl;have hcz55_1 : w53.cell? ⟨gb203,1,none⟩ = some (.slice A0_1 l0_1.length c0_1) := (blk_cell BK203.out 1).trans rfl;have hcz55_2 : w53.cell? ⟨gb203,2,none⟩ = some (.slice A0_2 l0_2.length c0_2) := (blk_cell BK203.out 2).trans rfl;have hcz55_3 : w53.cell? ⟨gb203,3,none⟩ = some (.string a0_3) := (blk_cell BK203.out 3).trans rfl;have hcz55_4 : w53.cell? ⟨gb203,4,none⟩ = some (.string a0_4) := (blk_cell BK203.out 4).trans rfl;have hfz55_0 := blk_frozen BK203.out 0;have hfz55_1 := blk_frozen BK203.out 1;have hfz55_2 := blk_frozen BK203.out 2;have hfz55_3 := blk_frozen BK203.out 3;have hfz55_4 := blk_frozen BK203.out 4;have hcz56_0 : w53.cell? ⟨gb204,0,none⟩ = some (.string a1_0) := (blk_cell BK204.out 0).trans rfl;have hcz56_1 : w53.cell? ⟨gb204,1,none⟩ = some (.slice A1_1 l1_1.length c1_1) := (blk_cell BK204.out 1).trans rfl;have hcz56_2 : w53.cell? ⟨gb204,2,none⟩ = some (.slice A1_2 l1_2.length c1_2) := (blk_cell BK204.out 2).trans rfl;have hcz56_3 : w53.cell? ⟨gb204,3,none⟩ = some (.string a1_3) := (blk_cell BK204.out 3).trans rfl;have hcz56_4 : w53.cell? ⟨gb204,4,none⟩ = some (.string a1_4) := (blk_cell BK204.out 4).trans rfl;have hfz56_0 := blk_frozen BK204.out 0;have hfz56_1 := blk_frozen BK204.out 1;have hfz56_2 := blk_frozen BK204.out 2;have hfz56_3 := blk_frozen BK204.out 3;have hfz56_4 := blk_frozen BK204.out 4)|((with_reducible refine gate_callee (f := 46) rfl ?_);refine goesL_ (some 14) rfl rfl Try.func46 (by kernel_rfl) rfl #[.slice A0_1 l0_1.length c0_1,.slice A1_1 l1_1.length c1_1] rfl (by (try simp only [List.map_toArray,List.map_cons,List.map_nil]);first|done|rfl|(simp only [List.length_drop,List.length_take];rfl)) ?_;(with_reducible refine (laws_eqTermS.calls k _ _ l0_1 _ _ l1_1 false _ ?side1 ?side2 ?side3 ?side4 A4.out).mono ?_);(case side1 => repeat (first|exact (Kd.C_below HR0_1.out HB.out)|(with_reducible refine Kd.C_alloc ?_ _)|(with_reducible refine Kd.C_drewN ?_ _)|(with_reducible refine Kd.C_drew ?_)));(case side2 => exact HC0_1.out);(case side3 => repeat (first|exact (Kd.C_below HR1_1.out HB.out)|(with_reducible refine Kd.C_alloc ?_ _)|(with_reducible refine Kd.C_drewN ?_ _)|(with_reducible refine Kd.C_drew ?_)));(case side4 => exact HC1_1.out);rintro e w57 ⟨rfl,hb⟩;refine ⟨_,rfl,?_⟩;have n0_ := Aside0.mk (blk_below (g := gb203) (o := .cells #[.string a0_0,.slice A0_1 l0_1.length c0_1,.slice A0_2 l0_2.length c0_2,.string a0_3,.string a0_4] 31 (0,0)) (by (with_reducible repeat (first|refine bN ?_ _|refine bD ?_|refine bA ?_ _));exact BK203.out) hb);have n1_ := Aside0.mk (blk_below (g := gb204) (o := .cells #[.string a1_0,.slice A1_1 l1_1.length c1_1,.slice A1_2 l1_2.length c1_2,.string a1_3,.string a1_4] 31 (0,0)) (by (with_reducible repeat (first|refine bN ?_ _|refine bD ?_|refine bA ?_ _));exact BK204.out) hb);have n2_ := Aside0.mk (below_step (by repeat (first|(with_reducible first|exact HB.out|apply lA|apply lN|apply lD|refine below_set ?_ GE203.out|refine below_set ?_ GE204.out)|exact HB.out)) hb);clear BK203;clear BK204;clear HB;have BK203 := n0_;have BK204 := n1_;have HB := n2_;clear n0_ n1_ n2_;(try clear hb);(try clear hb2);(try clear hk);(try clear hi)))
   go_ret
   exact ⟨by first|rfl|(simp [errW_none,errW_some] <;> rfl)|(simp [*,errW_none,errW_some] <;> rfl),by repeat (first|(with_reducible first|exact HB.out|apply lA|apply lN|apply lD|refine below_set ?_ GE203.out|refine below_set ?_ GE204.out)|exact HB.out)⟩
 ·rw [if_neg c3] at H
  have c3b0 : (a0_0.toList == a1_0.toList) = false := beq_eq_false_iff_ne.mpr c3
  have c3b1 : (a0_0.toList != a1_0.toList) = true := bne_iff_ne.mpr c3
  obtain rfl := Option.some.inj H
  simp only [Option.some.injEq,Prod.mk.injEq] at H
  obtain ⟨rfl⟩ := H
  go_enter Try.func13,Try.ntmps13
  go_wp2_with (first|((with_reducible refine gate_dst (N := 2) rfl ?_);refine box_event ?hg (N := 2) ?hd (cs := #[.string a0_0,.slice A0_1 l0_1.length c0_1,.slice A0_2 l0_2.length c0_2,.string a0_3,.string a0_4]) (t := 31) ?hr ?_;(case hd => rfl);(case hg => rfl);(case hr => first|(go_simp;done)|(go_simp;rfl));intro gb203 hg w58 hbox hb;have n0_ := Aside0.mk (below_step (by repeat (first|(with_reducible first|exact HB.out|apply lA|apply lN|apply lD)|exact HB.out)) hb);have n1_ := Aside0.mk (hbox);have n2_ := Aside0.mk ((by rw [hg];exact (below_size (by repeat (first|(with_reducible first|exact HB.out|apply lA|apply lN|apply lD)|exact HB.out))) : w.heap.size ≤ gb203));have n3_ := Aside0.mk ((by rw [hg];exact (below_size (by repeat (first|(with_reducible first|exact HB.out|apply lA|apply lN|apply lD)|exact HB.out))) : w.heap.size ≤ gb203));clear HB;have HB := n0_;have BK203 := n1_;have GW203 := n2_;have GE203 := n3_;clear n0_ n1_ n2_ n3_;clear hb hbox hg)|((with_reducible refine gate_dst (N := 3) rfl ?_);refine box_event ?hg (N := 3) ?hd (cs := #[.string a1_0,.slice A1_1 l1_1.length c1_1,.slice A1_2 l1_2.length c1_2,.string a1_3,.string a1_4]) (t := 31) ?hr ?_;(case hd => rfl);(case hg => rfl);(case hr => first|(go_simp;done)|(go_simp;rfl));intro gb204 hg w59 hbox hb;have n0_ := Aside0.mk (blk_below (g := gb203) (o := .cells #[.string a0_0,.slice A0_1 l0_1.length c0_1,.slice A0_2 l0_2.length c0_2,.string a0_3,.string a0_4] 31 (0,0)) (by (with_reducible repeat (first|refine bN ?_ _|refine bD ?_|refine bA ?_ _));exact BK203.out) hb);have n1_ := Aside0.mk (below_step (by repeat (first|(with_reducible first|exact HB.out|apply lA|apply lN|apply lD|refine below_set ?_ GE203.out)|exact HB.out)) hb);have n2_ := Aside0.mk (hbox);have n3_ := Aside0.mk ((by rw [hg];exact (below_size (by repeat (first|(with_reducible first|exact HB.out|apply lA|apply lN|apply lD|refine below_set ?_ GE203.out)|exact HB.out))) : w.heap.size ≤ gb204));have n4_ := Aside0.mk ((by rw [hg];exact (below_size (by repeat (first|(with_reducible first|exact HB.out|apply lA|apply lN|apply lD|refine below_set ?_ GE203.out)|exact HB.out))) : w.heap.size ≤ gb204));have n5_ := Aside0.mk ((by rw [hg];exact Nat.ne_of_lt (blk_lt (g := gb203) (o := .cells #[.string a0_0,.slice A0_1 l0_1.length c0_1,.slice A0_2 l0_2.length c0_2,.string a0_3,.string a0_4] 31 (0,0)) (by (with_reducible repeat (first|refine bN ?_ _|refine bD ?_|refine bA ?_ _));exact BK203.out)) : gb203 ≠ gb204));have n6_ := Aside0.mk ((by rw [hg];exact Nat.ne_of_gt (blk_lt (g := gb203) (o := .cells #[.string a0_0,.slice A0_1 l0_1.length c0_1,.slice A0_2 l0_2.length c0_2,.string a0_3,.string a0_4] 31 (0,0)) (by (with_reducible repeat (first|refine bN ?_ _|refine bD ?_|refine bA ?_ _));exact BK203.out)) : gb204 ≠ gb203));clear BK203;clear HB;have BK203 := n0_;have HB := n1_;have BK204 := n2_;have GW204 := n3_;have GE204 := n4_;have NB203_204 := n5_;have NB204_203 := n6_;clear n0_ n1_ n2_ n3_ n4_ n5_ n6_;clear hb hbox hg;have hnb60 := NB203_204.out;have hnc60 := NB204_203.out;have hcz61_0 : w59.cell? ⟨gb203,0,none⟩ = some (.string a0_0) := (blk_cell BK203.out 0).trans rfl;have hcz61_1 : w59.cell? ⟨gb203,1,none⟩ = some (.slice A0_1 l0_1.length c0_1) := (blk_cell BK203.out 1).trans rfl;have hcz61_2 : w59.cell? ⟨gb203,2,none⟩ = some (.slice A0_2 l0_2.length c0_2) := (blk_cell BK203.out 2).trans rfl;have hcz61_3 : w59.cell? ⟨gb203,3,none⟩ = some (.string a0_3) := (blk_cell BK203.out 3).trans rfl;have hcz61_4 : w59.cell? ⟨gb203,4,none⟩ = some (.string a0_4) := (blk_cell BK203.out 4).trans rfl;have hfz61_0 := blk_frozen BK203.out 0;have hfz61_1 := blk_frozen BK203.out 1;have hfz61_2 := blk_frozen BK203.out 2;have hfz61_3 := blk_frozen BK203.out 3;have hfz61_4 := blk_frozen BK203.out 4;have hcz62_0 : w59.cell? ⟨gb204,0,none⟩ = some (.string a1_0) := (blk_cell BK204.out 0).trans rfl;have hcz62_1 : w59.cell? ⟨gb204,1,none⟩ = some (.slice A1_1 l1_1.length c1_1) := (blk_cell BK204.out 1).trans rfl;have hcz62_2 : w59.cell? ⟨gb204,2,none⟩ = some (.slice A1_2 l1_2.length c1_2) := (blk_cell BK204.out 2).trans rfl;have hcz62_3 : w59.cell? ⟨gb204,3,none⟩ = some (.string a1_3) := (blk_cell BK204.out 3).trans rfl;have hcz62_4 : w59.cell? ⟨gb204,4,none⟩ = some (.string a1_4) := (blk_cell BK204.out 4).trans rfl;have hfz62_0 := blk_frozen BK204.out 0;have hfz62_1 := blk_frozen BK204.out 1;have hfz62_2 := blk_frozen BK204.out 2;have hfz62_3 := blk_frozen BK204.out 3;have hfz62_4 := blk_frozen BK204.out 4))
  go_ret
  exact ⟨by first|rfl|(simp [errW_none,errW_some] <;> rfl)|(simp [*,errW_none,errW_some] <;> rfl),by repeat (first|(with_reducible first|exact HB.out|apply lA|apply lN|apply lD|refine below_set ?_ GE203.out|refine below_set ?_ GE204.out)|exact HB.out)⟩
def laws_FnExactIsValidLocale.f (k : Nat) (a0_0 : ByteArray) (l0_1 : List (S57)) (l0_2 : List (S91)) (a0_3 : ByteArray) (a0_4 : ByteArray) : Option (Bool) := (laws_szLocale.f k a0_0 l0_1 l0_2 a0_3 a0_4 1048576).bind fun t208 => (if t208 < 0 then (some true) else ((laws_toLocale.f k a0_0 l0_1 l0_2 a0_3 a0_4).bind fun bt209 => ((spec_IsValidLocale.f k bt209.1 bt209.2.1 bt209.2.2.1 bt209.2.2.2.1 bt209.2.2.2.2).bind fun t218 => ((laws_toLocale.f k a0_0 l0_1 l0_2 a0_3 a0_4).bind fun bt219 => ((impl_IsValidLocale.f k bt219.1 bt219.2.1 bt219.2.2.1 bt219.2.2.2.1 bt219.2.2.2.2).bind fun t229 => (if (t229 != t218) = true then (some false) else ((laws_toLocale.f k a0_0 l0_1 l0_2 a0_3 a0_4).bind fun bt230 => ((laws_eqLocale.f k bt219.1 bt219.2.1 bt219.2.2.1 bt219.2.2.2.1 bt219.2.2.2.2 bt230.1 bt230.2.1 bt230.2.2.1 bt230.2.2.2.1 bt230.2.2.2.2).bind fun t239 => (if t239 = true then (some true) else (some false))))))))))
theorem laws_FnExactIsValidLocale.mono : ∀ a0 a1 a2 a3 a4 k,LeO (laws_FnExactIsValidLocale.f k a0 a1 a2 a3 a4) (laws_FnExactIsValidLocale.f (k + 1) a0 a1 a2 a3 a4) := by
 intro a0 a1 a2 a3 a4 k
 unfold laws_FnExactIsValidLocale.f
 repeat' first
   | (with_reducible exact impl_IsValidLocale.mono _ _ _ _ _ _)
   | (with_reducible exact laws_eqLocale.mono _ _ _ _ _ _ _ _ _ _ _)
   | (with_reducible exact laws_szLocale.mono _ _ _ _ _ _ _)
   | (with_reducible exact laws_toLocale.mono _ _ _ _ _ _)
   | (with_reducible exact spec_IsValidLocale.mono _ _ _ _ _ _)
   | (with_reducible exact LeO.refl _)
   | (with_reducible exact LeO.none _)
   | (with_reducible refine LeO.ite ?_ ?_)
   | (with_reducible refine LeO.bind ?_ (fun _ => ?_))
   | exact impl_IsValidLocale.mono _ _ _ _ _ _
   | exact laws_eqLocale.mono _ _ _ _ _ _ _ _ _ _ _
   | exact laws_szLocale.mono _ _ _ _ _ _ _
   | exact laws_toLocale.mono _ _ _ _ _ _
   | exact spec_IsValidLocale.mono _ _ _ _ _ _
   | exact LeO.none _
   | refine LeO.ite ?_ ?_
   | refine LeO.bind ?_ (fun _ => ?_)
set_option maxHeartbeats 8000000 in
set_option maxRecDepth 100000 in
theorem laws_FnExactIsValidLocale.calls (k : Nat) (a0_0 : ByteArray) (A0_1 : Option Addr) (c0_1 : Nat) (l0_1 : List (S57)) (A0_2 : Option Addr) (c0_2 : Nat) (l0_2 : List (S91)) (a0_3 : ByteArray) (a0_4 : ByteArray) (r : Bool) (w : World) (hr0_1 : Kd.C k57 w A0_1 l0_1.length l0_1) (hc0_1 : l0_1.length ≤ c0_1) (hr0_2 : Kd.C k91 w A0_2 l0_2.length l0_2) (hc0_2 : l0_2.length ≤ c0_2) (hr_ : r = true) (h : laws_FnExactIsValidLocale.f k a0_0 l0_1 l0_2 a0_3 a0_4 = some r) :
  Calls Try.prog 3 #[.agg #[.string a0_0,.slice A0_1 l0_1.length c0_1,.slice A0_2 l0_2.length c0_2,.string a0_3,.string a0_4]] w fun e w' => e = .returned (.bool r) ∧ Below w.heap.size w w' := by
 have hu25 := Try.underlying25
 have hu31 := Try.underlying31
 have HR0_1 := Aside0.mk hr0_1
 have HC0_1 := Aside0.mk hc0_1
 clear hr0_1 hc0_1
 have HR0_2 := Aside0.mk hr0_2
 have HC0_2 := Aside0.mk hc0_2
 clear hr0_2 hc0_2
 have HB := Aside0.mk (Below.refl w.heap.size w)
 have H : ((laws_szLocale.f k a0_0 l0_1 l0_2 a0_3 a0_4 1048576).bind fun t208 => (if t208 < 0 then (some true) else ((laws_toLocale.f k a0_0 l0_1 l0_2 a0_3 a0_4).bind fun bt209 => ((spec_IsValidLocale.f k bt209.1 bt209.2.1 bt209.2.2.1 bt209.2.2.2.1 bt209.2.2.2.2).bind fun t218 => ((laws_toLocale.f k a0_0 l0_1 l0_2 a0_3 a0_4).bind fun bt219 => ((impl_IsValidLocale.f k bt219.1 bt219.2.1 bt219.2.2.1 bt219.2.2.2.1 bt219.2.2.2.2).bind fun t229 => (if (t229 != t218) = true then (some false) else ((laws_toLocale.f k a0_0 l0_1 l0_2 a0_3 a0_4).bind fun bt230 => ((laws_eqLocale.f k bt219.1 bt219.2.1 bt219.2.2.1 bt219.2.2.2.1 bt219.2.2.2.2 bt230.1 bt230.2.1 bt230.2.2.1 bt230.2.2.2.1 bt230.2.2.2.2).bind fun t239 => (if t239 = true then (some true) else (some false))))))))))) = some r := h
 clear h
 replace H := Option.bind_eq_some_iff.mp H
 obtain ⟨t208,A20,H⟩ := H
 replace H : (if t208 < 0 then (some true) else ((laws_toLocale.f k a0_0 l0_1 l0_2 a0_3 a0_4).bind fun bt209 => ((spec_IsValidLocale.f k bt209.1 bt209.2.1 bt209.2.2.1 bt209.2.2.2.1 bt209.2.2.2.2).bind fun t218 => ((laws_toLocale.f k a0_0 l0_1 l0_2 a0_3 a0_4).bind fun bt219 => ((impl_IsValidLocale.f k bt219.1 bt219.2.1 bt219.2.2.1 bt219.2.2.2.1 bt219.2.2.2.2).bind fun t229 => (if (t229 != t218) = true then (some false) else ((laws_toLocale.f k a0_0 l0_1 l0_2 a0_3 a0_4).bind fun bt230 => ((laws_eqLocale.f k bt219.1 bt219.2.1 bt219.2.2.1 bt219.2.2.2.1 bt219.2.2.2.2 bt230.1 bt230.2.1 bt230.2.2.1 bt230.2.2.2.1 bt230.2.2.2.2).bind fun t239 => (if t239 = true then (some true) else (some false)))))))))) = some r := H
 have A2 := Aside0.mk A20
 clear A20
 by_cases c3 : t208 < 0
 ·rw [if_pos c3] at H
  have c3b0 : decide (t208 < 0) = true := decide_eq_true c3
  clear c3
  obtain rfl := Option.some.inj H
  try clear hr_
  go_enter Try.func3,Try.ntmps3
  go_wp2_with (first|((with_reducible refine gate_dst (N := 1) rfl ?_);refine box_event ?hg (N := 1) ?hd (cs := #[.string a0_0,.slice A0_1 l0_1.length c0_1,.slice A0_2 l0_2.length c0_2,.string a0_3,.string a0_4]) (t := 25) ?hr ?_;(case hd => rfl);(case hg => rfl);(case hr => first|(go_simp;done)|(go_simp;rfl));intro gb207 hg w4 hbox hb;have n0_ := Aside0.mk (below_step (by repeat (first|(with_reducible first|exact HB.out|apply lA|apply lN|apply lD)|exact HB.out)) hb);have n1_ := Aside0.mk (hbox);have n2_ := Aside0.mk ((by rw [hg];exact (below_size (by repeat (first|(with_reducible first|exact HB.out|apply lA|apply lN|apply lD)|exact HB.out))) : w.heap.size ≤ gb207));have n3_ := Aside0.mk ((by rw [hg];exact (below_size (by repeat (first|(with_reducible first|exact HB.out|apply lA|apply lN|apply lD)|exact HB.out))) : w.heap.size ≤ gb207));clear HB;have HB := n0_;have BK207 := n1_;have GW207 := n2_;have GE207 := n3_;clear n0_ n1_ n2_ n3_;clear hb hbox hg;have hcz5_0 : w4.cell? ⟨gb207,0,none⟩ = some (.string a0_0) := (blk_cell BK207.out 0).trans rfl;have hcz5_1 : w4.cell? ⟨gb207,1,none⟩ = some (.slice A0_1 l0_1.length c0_1) := (blk_cell BK207.out 1).trans rfl;have hcz5_2 : w4.cell? ⟨gb207,2,none⟩ = some (.slice A0_2 l0_2.length c0_2) := (blk_cell BK207.out 2).trans rfl;have hcz5_3 : w4.cell? ⟨gb207,3,none⟩ = some (.string a0_3) := (blk_cell BK207.out 3).trans rfl;have hcz5_4 : w4.cell? ⟨gb207,4,none⟩ = some (.string a0_4) := (blk_cell BK207.out 4).trans rfl;have hfz5_0 := blk_frozen BK207.out 0;have hfz5_1 := blk_frozen BK207.out 1;have hfz5_2 := blk_frozen BK207.out 2;have hfz5_3 := blk_frozen BK207.out 3;have hfz5_4 := blk_frozen BK207.out 4)|((with_reducible refine gate_callee (f := 9) rfl ?_);refine goesL_ (some 9) rfl rfl Try.func9 (by kernel_rfl) rfl #[.agg #[.string a0_0,.slice A0_1 l0_1.length c0_1,.slice A0_2 l0_2.length c0_2,.string a0_3,.string a0_4],.int .i64 1048576] rfl (by (try simp only [List.map_toArray,List.map_cons,List.map_nil]);first|done|rfl|(simp only [List.length_drop,List.length_take];rfl)) ?_;(with_reducible refine (laws_szLocale.calls k a0_0 _ _ l0_1 _ _ l0_2 a0_3 a0_4 1048576 t208 _ ?side1 ?side2 ?side3 ?side4 A2.out).mono ?_);(case side1 => repeat (first|exact (Kd.C_below HR0_1.out HB.out)|(with_reducible refine Kd.C_alloc ?_ _)|(with_reducible refine Kd.C_drewN ?_ _)|(with_reducible refine Kd.C_drew ?_)));(case side2 => exact HC0_1.out);(case side3 => repeat (first|exact (Kd.C_below HR0_2.out HB.out)|(with_reducible refine Kd.C_alloc ?_ _)|(with_reducible refine Kd.C_drewN ?_ _)|(with_reducible refine Kd.C_drew ?_)));(case side4 => exact HC0_2.out);rintro e w6 ⟨rfl,hb⟩;refine ⟨_,rfl,?_⟩;have n0_ := Aside0.mk (blk_below (g := gb207) (o := .cells #[.string a0_0,.slice A0_1 l0_1.length c0_1,.slice A0_2 l0_2.length c0_2,.string a0_3,.string a0_4] 25 (0,0)) (by (with_reducible repeat (first|refine bN ?_ _|refine bD ?_|refine bA ?_ _));exact BK207.out) hb);have n1_ := Aside0.mk (below_step (by repeat (first|(with_reducible first|exact HB.out|apply lA|apply lN|apply lD|refine below_set ?_ GE207.out)|exact HB.out)) hb);clear BK207;clear HB;have BK207 := n0_;have HB := n1_;clear n0_ n1_;(try clear hb);(try clear hb2);(try clear hk);(try clear hi)))
  go_ret
  exact ⟨by first|rfl|(simp [errW_none,errW_some] <;> rfl)|(simp [*,errW_none,errW_some] <;> rfl),by repeat (first|(with_reducible first|exact HB.out|apply lA|apply lN|apply lD|refine below_set ?_ GE207.out)|exact HB.out)⟩
 ·rw [if_neg c3] at H
  have c3b0 : decide (t208 < 0) = false := decide_eq_false c3
  clear c3
  replace H := Option.bind_eq_some_iff.mp H
  obtain ⟨⟨t209,t210,t213,t216,t217⟩,A70,H⟩ := H
  replace H : ((spec_IsValidLocale.f k t209 t210 t213 t216 t217).bind fun t218 => ((laws_toLocale.f k a0_0 l0_1 l0_2 a0_3 a0_4).bind fun bt219 => ((impl_IsValidLocale.f k bt219.1 bt219.2.1 bt219.2.2.1 bt219.2.2.2.1 bt219.2.2.2.2).bind fun t229 => (if (t229 != t218) = true then (some false) else ((laws_toLocale.f k a0_0 l0_1 l0_2 a0_3 a0_4).bind fun bt230 => ((laws_eqLocale.f k bt219.1 bt219.2.1 bt219.2.2.1 bt219.2.2.2.1 bt219.2.2.2.2 bt230.1 bt230.2.1 bt230.2.2.1 bt230.2.2.2.1 bt230.2.2.2.2).bind fun t239 => (if t239 = true then (some true) else (some false)))))))) = some r := H
  have A7 := Aside0.mk A70
  clear A70
  replace H := Option.bind_eq_some_iff.mp H
  obtain ⟨t218,A80,H⟩ := H
  replace H : ((laws_toLocale.f k a0_0 l0_1 l0_2 a0_3 a0_4).bind fun bt219 => ((impl_IsValidLocale.f k bt219.1 bt219.2.1 bt219.2.2.1 bt219.2.2.2.1 bt219.2.2.2.2).bind fun t229 => (if (t229 != t218) = true then (some false) else ((laws_toLocale.f k a0_0 l0_1 l0_2 a0_3 a0_4).bind fun bt230 => ((laws_eqLocale.f k bt219.1 bt219.2.1 bt219.2.2.1 bt219.2.2.2.1 bt219.2.2.2.2 bt230.1 bt230.2.1 bt230.2.2.1 bt230.2.2.2.1 bt230.2.2.2.2).bind fun t239 => (if t239 = true then (some true) else (some false))))))) = some r := H
  have A8 := Aside0.mk A80
  clear A80
  replace H := Option.bind_eq_some_iff.mp H
  obtain ⟨⟨t219,t220,t223,t226,t227⟩,A90,H⟩ := H
  replace H : ((impl_IsValidLocale.f k t219 t220 t223 t226 t227).bind fun t229 => (if (t229 != t218) = true then (some false) else ((laws_toLocale.f k a0_0 l0_1 l0_2 a0_3 a0_4).bind fun bt230 => ((laws_eqLocale.f k t219 t220 t223 t226 t227 bt230.1 bt230.2.1 bt230.2.2.1 bt230.2.2.2.1 bt230.2.2.2.2).bind fun t239 => (if t239 = true then (some true) else (some false)))))) = some r := H
  have A9 := Aside0.mk A90
  clear A90
  replace H := Option.bind_eq_some_iff.mp H
  obtain ⟨t229,A100,H⟩ := H
  replace H : (if (t229 != t218) = true then (some false) else ((laws_toLocale.f k a0_0 l0_1 l0_2 a0_3 a0_4).bind fun bt230 => ((laws_eqLocale.f k t219 t220 t223 t226 t227 bt230.1 bt230.2.1 bt230.2.2.1 bt230.2.2.2.1 bt230.2.2.2.2).bind fun t239 => (if t239 = true then (some true) else (some false))))) = some r := H
  have A10 := Aside0.mk A100
  clear A100
  by_cases c11 : (t229 != t218) = true
  ·rw [if_pos c11] at H
   have c11b0 : (t229 != t218) = true := c11
   (try (have c11b1 : decide (t229 = t218) = false := by simpa using c11))
   (try (have c11b2 : (t229 == t218) = false := by simpa using c11))
   (try (have c11b3 : ¬ (t229 = t218) := by simpa using c11))
   clear c11
   exact absurd ((Option.some.inj H).trans hr_) (by decide)
  ·rw [if_neg c11] at H
   have c11b0 : (t229 != t218) = false := by simpa using c11
   (try (have c11b1 : decide (t229 = t218) = true := by simpa using c11))
   (try (have c11b2 : (t229 == t218) = true := by simpa using c11))
   clear c11
   replace H := Option.bind_eq_some_iff.mp H
   obtain ⟨⟨t230,t231,t234,t237,t238⟩,A120,H⟩ := H
   replace H : ((laws_eqLocale.f k t219 t220 t223 t226 t227 t230 t231 t234 t237 t238).bind fun t239 => (if t239 = true then (some true) else (some false))) = some r := H
   have A12 := Aside0.mk A120
   clear A120
   replace H := Option.bind_eq_some_iff.mp H
   obtain ⟨t239,A130,H⟩ := H
   replace H : (if t239 = true then (some true) else (some false)) = some r := H
   have A13 := Aside0.mk A130
   clear A130
   by_cases c14 : t239 = true
   ·subst c14
    have H1 : (some true) = some r := by rw [if_pos rfl] at H;exact H
    clear H
    have H := H1
    clear H1
    obtain rfl := Option.some.inj H
    try clear hr_
    go_enter Try.func3,Try.ntmps3
    try go_wp2_with (first|((with_reducible refine gate_dst (N := 1) rfl ?_);refine box_event ?hg (N := 1) ?hd (cs := #[.string a0_0,.slice A0_1 l0_1.length c0_1,.slice A0_2 l0_2.length c0_2,.string a0_3,.string a0_4]) (t := 25) ?hr ?_;(case hd => rfl);(case hg => rfl);(case hr => first|(go_simp;done)|(go_simp;rfl));intro gb207 hg w15 hbox hb;have n0_ := Aside0.mk (below_step (by repeat (first|(with_reducible first|exact HB.out|apply lA|apply lN|apply lD)|exact HB.out)) hb);have n1_ := Aside0.mk (hbox);have n2_ := Aside0.mk ((by rw [hg];exact (below_size (by repeat (first|(with_reducible first|exact HB.out|apply lA|apply lN|apply lD)|exact HB.out))) : w.heap.size ≤ gb207));have n3_ := Aside0.mk ((by rw [hg];exact (below_size (by repeat (first|(with_reducible first|exact HB.out|apply lA|apply lN|apply lD)|exact HB.out))) : w.heap.size ≤ gb207));clear HB;have HB := n0_;have BK207 := n1_;have GW207 := n2_;have GE207 := n3_;clear n0_ n1_ n2_ n3_;clear hb hbox hg;have hcz16_0 : w15.cell? ⟨gb207,0,none⟩ = some (.string a0_0) := (blk_cell BK207.out 0).trans rfl;have hcz16_1 : w15.cell? ⟨gb207,1,none⟩ = some (.slice A0_1 l0_1.length c0_1) := (blk_cell BK207.out 1).trans rfl;have hcz16_2 : w15.cell? ⟨gb207,2,none⟩ = some (.slice A0_2 l0_2.length c0_2) := (blk_cell BK207.out 2).trans rfl;have hcz16_3 : w15.cell? ⟨gb207,3,none⟩ = some (.string a0_3) := (blk_cell BK207.out 3).trans rfl;have hcz16_4 : w15.cell? ⟨gb207,4,none⟩ = some (.string a0_4) := (blk_cell BK207.out 4).trans rfl;have hfz16_0 := blk_frozen BK207.out 0;have hfz16_1 := blk_frozen BK207.out 1;have hfz16_2 := blk_frozen BK207.out 2;have hfz16_3 := blk_frozen BK207.out 3;have hfz16_4 := blk_frozen BK207.out 4)|((with_reducible refine gate_callee (f := 9) rfl ?_);refine goesL_ (some 9) rfl rfl Try.func9 (by kernel_rfl) rfl #[.agg #[.string a0_0,.slice A0_1 l0_1.length c0_1,.slice A0_2 l0_2.length c0_2,.string a0_3,.string a0_4],.int .i64 1048576] rfl (by (try simp only [List.map_toArray,List.map_cons,List.map_nil]);first|done|rfl|(simp only [List.length_drop,List.length_take];rfl)) ?_;(with_reducible refine (laws_szLocale.calls k a0_0 _ _ l0_1 _ _ l0_2 a0_3 a0_4 1048576 t208 _ ?side1 ?side2 ?side3 ?side4 A2.out).mono ?_);(case side1 => repeat (first|exact (Kd.C_below HR0_1.out HB.out)|(with_reducible refine Kd.C_alloc ?_ _)|(with_reducible refine Kd.C_drewN ?_ _)|(with_reducible refine Kd.C_drew ?_)));(case side2 => exact HC0_1.out);(case side3 => repeat (first|exact (Kd.C_below HR0_2.out HB.out)|(with_reducible refine Kd.C_alloc ?_ _)|(with_reducible refine Kd.C_drewN ?_ _)|(with_reducible refine Kd.C_drew ?_)));(case side4 => exact HC0_2.out);rintro e w17 ⟨rfl,hb⟩;refine ⟨_,rfl,?_⟩;have n0_ := Aside0.mk (blk_below (g := gb207) (o := .cells #[.string a0_0,.slice A0_1 l0_1.length c0_1,.slice A0_2 l0_2.length c0_2,.string a0_3,.string a0_4] 25 (0,0)) (by (with_reducible repeat (first|refine bN ?_ _|refine bD ?_|refine bA ?_ _));exact BK207.out) hb);have n1_ := Aside0.mk (below_step (by repeat (first|(with_reducible first|exact HB.out|apply lA|apply lN|apply lD|refine below_set ?_ GE207.out)|exact HB.out)) hb);clear BK207;clear HB;have BK207 := n0_;have HB := n1_;clear n0_ n1_;(try clear hb);(try clear hb2);(try clear hk);(try clear hi);have hcz18_0 : w17.cell? ⟨gb207,0,none⟩ = some (.string a0_0) := (blk_cell BK207.out 0).trans rfl;have hcz18_1 : w17.cell? ⟨gb207,1,none⟩ = some (.slice A0_1 l0_1.length c0_1) := (blk_cell BK207.out 1).trans rfl;have hcz18_2 : w17.cell? ⟨gb207,2,none⟩ = some (.slice A0_2 l0_2.length c0_2) := (blk_cell BK207.out 2).trans rfl;have hcz18_3 : w17.cell? ⟨gb207,3,none⟩ = some (.string a0_3) := (blk_cell BK207.out 3).trans rfl;have hcz18_4 : w17.cell? ⟨gb207,4,none⟩ = some (.string a0_4) := (blk_cell BK207.out 4).trans rfl;have hfz18_0 := blk_frozen BK207.out 0;have hfz18_1 := blk_frozen BK207.out 1;have hfz18_2 := blk_frozen BK207.out 2;have hfz18_3 := blk_frozen BK207.out 3;have hfz18_4 := blk_frozen BK207.out 4)|((with_reducible refine gate_callee (f := 11) rfl ?_);refine goesL_ (some 13) rfl rfl Try.func11 (by kernel_rfl) rfl #[.agg #[.string a0_0,.slice A0_1 l0_1.length c0_1,.slice A0_2 l0_2.length c0_2,.string a0_3,.string a0_4]] rfl (by (try simp only [List.map_toArray,List.map_cons,List.map_nil]);first|done|rfl|(simp only [List.length_drop,List.length_take];rfl)) ?_;(with_reducible refine (laws_toLocale.calls k a0_0 _ _ l0_1 _ _ l0_2 a0_3 a0_4 t209 t210 t213 t216 t217 _ ?side1 ?side2 ?side3 ?side4 A7.out).mono ?_);(case side1 => repeat (first|exact (Kd.C_below HR0_1.out HB.out)|(with_reducible refine Kd.C_alloc ?_ _)|(with_reducible refine Kd.C_drewN ?_ _)|(with_reducible refine Kd.C_drew ?_)));(case side2 => exact HC0_1.out);(case side3 => repeat (first|exact (Kd.C_below HR0_2.out HB.out)|(with_reducible refine Kd.C_alloc ?_ _)|(with_reducible refine Kd.C_drewN ?_ _)|(with_reducible refine Kd.C_drew ?_)));(case side4 => exact HC0_2.out);rintro e w19 ⟨v211,v214,rfl,ho0,ho1,hb⟩;refine ⟨_,rfl,?_⟩;have n0_ := Aside0.mk (Kd.R_lower ho0 (below_size (by repeat (first|(with_reducible first|exact HB.out|apply lA|apply lN|apply lD|refine below_set ?_ GE207.out)|exact HB.out))));have n1_ := Aside0.mk (Kd.R_lower ho1 (below_size (by repeat (first|(with_reducible first|exact HB.out|apply lA|apply lN|apply lD|refine below_set ?_ GE207.out)|exact HB.out))));have n2_ := Aside0.mk (blk_below (g := gb207) (o := .cells #[.string a0_0,.slice A0_1 l0_1.length c0_1,.slice A0_2 l0_2.length c0_2,.string a0_3,.string a0_4] 25 (0,0)) (by (with_reducible repeat (first|refine bN ?_ _|refine bD ?_|refine bA ?_ _));exact BK207.out) hb);have n3_ := Aside0.mk (below_step (by repeat (first|(with_reducible first|exact HB.out|apply lA|apply lN|apply lD|refine below_set ?_ GE207.out)|exact HB.out)) hb);clear BK207;clear HB;have HO212 := n0_;have HO215 := n1_;have BK207 := n2_;have HB := n3_;clear n0_ n1_ n2_ n3_;(try clear hb);(try clear hb2);(try clear hk);(try clear hi);(try clear ho0);(try clear ho1);obtain ⟨Ao20,co20,eo20⟩ := Kd.R_slice HO212.out;subst eo20;obtain ⟨Ao21,co21,eo21⟩ := Kd.R_slice HO215.out;subst eo21)|((with_reducible refine gate_callee (f := 10) rfl ?_);refine goesL_ (some 14) rfl rfl Try.func10 (by kernel_rfl) rfl #[.agg #[.string t209,.slice Ao20 t210.length co20,.slice Ao21 t213.length co21,.string t216,.string t217]] rfl (by (try simp only [List.map_toArray,List.map_cons,List.map_nil]);first|done|rfl|(simp only [List.length_drop,List.length_take];rfl)) ?_;(with_reducible refine (spec_IsValidLocale.calls k t209 _ _ t210 _ _ t213 t216 t217 t218 _ ?side1 ?side2 ?side3 ?side4 A8.out).mono ?_);(case side1 => repeat (first|exact (Kd.R_reads' HO212.out).2.2|(with_reducible refine Kd.C_alloc ?_ _)|(with_reducible refine Kd.C_drewN ?_ _)|(with_reducible refine Kd.C_drew ?_)));(case side2 => exact (Kd.R_reads' HO212.out).2.1);(case side3 => repeat (first|exact (Kd.R_reads' HO215.out).2.2|(with_reducible refine Kd.C_alloc ?_ _)|(with_reducible refine Kd.C_drewN ?_ _)|(with_reducible refine Kd.C_drew ?_)));(case side4 => exact (Kd.R_reads' HO215.out).2.1);rintro e w22 ⟨rfl,hb⟩;refine ⟨_,rfl,?_⟩;have n0_ := Aside0.mk (Kd.R_below (by (with_reducible repeat (first|apply Kd.R_alloc|apply Kd.R_drewN|apply Kd.R_drew));exact HO212.out) hb);have n1_ := Aside0.mk (Kd.R_below (by (with_reducible repeat (first|apply Kd.R_alloc|apply Kd.R_drewN|apply Kd.R_drew));exact HO215.out) hb);have n2_ := Aside0.mk (blk_below (g := gb207) (o := .cells #[.string a0_0,.slice A0_1 l0_1.length c0_1,.slice A0_2 l0_2.length c0_2,.string a0_3,.string a0_4] 25 (0,0)) (by (with_reducible repeat (first|refine bN ?_ _|refine bD ?_|refine bA ?_ _));exact BK207.out) hb);have n3_ := Aside0.mk (below_step (by repeat (first|(with_reducible first|exact HB.out|apply lA|apply lN|apply lD|refine below_set ?_ GE207.out)|exact HB.out)) hb);clear HO212;clear HO215;clear BK207;clear HB;have HO212 := n0_;have HO215 := n1_;have BK207 := n2_;have HB := n3_;clear n0_ n1_ n2_ n3_;(try clear hb);(try clear hb2);(try clear hk);(try clear hi);have hcz23_0 : w22.cell? ⟨gb207,0,none⟩ = some (.string a0_0) := (blk_cell BK207.out 0).trans rfl;have hcz23_1 : w22.cell? ⟨gb207,1,none⟩ = some (.slice A0_1 l0_1.length c0_1) := (blk_cell BK207.out 1).trans rfl;have hcz23_2 : w22.cell? ⟨gb207,2,none⟩ = some (.slice A0_2 l0_2.length c0_2) := (blk_cell BK207.out 2).trans rfl;have hcz23_3 : w22.cell? ⟨gb207,3,none⟩ = some (.string a0_3) := (blk_cell BK207.out 3).trans rfl;have hcz23_4 : w22.cell? ⟨gb207,4,none⟩ = some (.string a0_4) := (blk_cell BK207.out 4).trans rfl;have hfz23_0 := blk_frozen BK207.out 0;have hfz23_1 := blk_frozen BK207.out 1;have hfz23_2 := blk_frozen BK207.out 2;have hfz23_3 := blk_frozen BK207.out 3;have hfz23_4 := blk_frozen BK207.out 4)|((with_reducible refine gate_callee (f := 11) rfl ?_);refine goesL_ (some 16) rfl rfl Try.func11 (by kernel_rfl) rfl #[.agg #[.string a0_0,.slice A0_1 l0_1.length c0_1,.slice A0_2 l0_2.length c0_2,.string a0_3,.string a0_4]] rfl (by (try simp only [List.map_toArray,List.map_cons,List.map_nil]);first|done|rfl|(simp only [List.length_drop,List.length_take];rfl)) ?_;(with_reducible refine (laws_toLocale.calls k a0_0 _ _ l0_1 _ _ l0_2 a0_3 a0_4 t219 t220 t223 t226 t227 _ ?side1 ?side2 ?side3 ?side4 A9.out).mono ?_);(case side1 => repeat (first|exact (Kd.C_below HR0_1.out HB.out)|(with_reducible refine Kd.C_alloc ?_ _)|(with_reducible refine Kd.C_drewN ?_ _)|(with_reducible refine Kd.C_drew ?_)));(case side2 => exact HC0_1.out);(case side3 => repeat (first|exact (Kd.C_below HR0_2.out HB.out)|(with_reducible refine Kd.C_alloc ?_ _)|(with_reducible refine Kd.C_drewN ?_ _)|(with_reducible refine Kd.C_drew ?_)));(case side4 => exact HC0_2.out);rintro e w24 ⟨v221,v224,rfl,ho0,ho1,hb⟩;refine ⟨_,rfl,?_⟩;have n0_ := Aside0.mk (Kd.R_elder' (by (with_reducible repeat (first|apply Kd.R_alloc|apply Kd.R_drewN|apply Kd.R_drew));exact HO212.out) (Kd.R_base ho0) hb);have n1_ := Aside0.mk (Kd.R_elder' (by (with_reducible repeat (first|apply Kd.R_alloc|apply Kd.R_drewN|apply Kd.R_drew));exact HO215.out) (Kd.R_base ho1) hb);have n2_ := Aside0.mk (Kd.R_lower (Kd.R_new' ho0 (Kd.R_lt (by (with_reducible repeat (first|apply Kd.R_alloc|apply Kd.R_drewN|apply Kd.R_drew));exact HO212.out))) (below_size (by repeat (first|(with_reducible first|exact HB.out|apply lA|apply lN|apply lD|refine below_set ?_ GE207.out)|exact HB.out))));have n3_ := Aside0.mk (Kd.R_lower (Kd.R_new' ho1 (Kd.R_lt (by (with_reducible repeat (first|apply Kd.R_alloc|apply Kd.R_drewN|apply Kd.R_drew));exact HO215.out))) (below_size (by repeat (first|(with_reducible first|exact HB.out|apply lA|apply lN|apply lD|refine below_set ?_ GE207.out)|exact HB.out))));have n4_ := Aside0.mk (blk_below (g := gb207) (o := .cells #[.string a0_0,.slice A0_1 l0_1.length c0_1,.slice A0_2 l0_2.length c0_2,.string a0_3,.string a0_4] 25 (0,0)) (by (with_reducible repeat (first|refine bN ?_ _|refine bD ?_|refine bA ?_ _));exact BK207.out) hb);have n5_ := Aside0.mk (below_step (by repeat (first|(with_reducible first|exact HB.out|apply lA|apply lN|apply lD|refine below_set ?_ GE207.out)|exact HB.out)) hb);clear HO212;clear HO215;clear BK207;clear HB;have HO212 := n0_;have HO215 := n1_;have HO222 := n2_;have HO225 := n3_;have BK207 := n4_;have HB := n5_;clear n0_ n1_ n2_ n3_ n4_ n5_;(try clear hb);(try clear hb2);(try clear hk);(try clear hi);(try clear ho0);(try clear ho1))|((with_reducible refine gate_dst (N := 5) rfl ?_);refine box_event ?hg (N := 5) ?hd (cs := #[.string (⟨#[]⟩ : ByteArray),.slice none 0 0,.slice none 0 0,.string (⟨#[]⟩ : ByteArray),.string (⟨#[]⟩ : ByteArray)]) (t := 31) ?hr ?_;(case hd => rfl);(case hg => rfl);(case hr => first|(go_simp;done)|(go_simp;rfl));intro gb228 hg w25 hbox hb;have n0_ := Aside0.mk (Kd.R_below (by (with_reducible repeat (first|apply Kd.R_alloc|apply Kd.R_drewN|apply Kd.R_drew));exact HO212.out) hb);have n1_ := Aside0.mk (Kd.R_below (by (with_reducible repeat (first|apply Kd.R_alloc|apply Kd.R_drewN|apply Kd.R_drew));exact HO215.out) hb);have n2_ := Aside0.mk (Kd.R_below (by (with_reducible repeat (first|apply Kd.R_alloc|apply Kd.R_drewN|apply Kd.R_drew));exact HO222.out) hb);have n3_ := Aside0.mk (Kd.R_below (by (with_reducible repeat (first|apply Kd.R_alloc|apply Kd.R_drewN|apply Kd.R_drew));exact HO225.out) hb);have n4_ := Aside0.mk (blk_below (g := gb207) (o := .cells #[.string a0_0,.slice A0_1 l0_1.length c0_1,.slice A0_2 l0_2.length c0_2,.string a0_3,.string a0_4] 25 (0,0)) (by (with_reducible repeat (first|refine bN ?_ _|refine bD ?_|refine bA ?_ _));exact BK207.out) hb);have n5_ := Aside0.mk (below_step (by repeat (first|(with_reducible first|exact HB.out|apply lA|apply lN|apply lD|refine below_set ?_ GE207.out)|exact HB.out)) hb);have n6_ := Aside0.mk (hbox);have n7_ := Aside0.mk ((by rw [hg];exact (below_size (by repeat (first|(with_reducible first|exact HB.out|apply lA|apply lN|apply lD|refine below_set ?_ GE207.out)|exact HB.out))) : w.heap.size ≤ gb228));have n8_ := Aside0.mk ((by rw [hg];exact (below_size (by repeat (first|(with_reducible first|exact HB.out|apply lA|apply lN|apply lD|refine below_set ?_ GE207.out)|exact HB.out))) : w.heap.size ≤ gb228));have n9_ := Aside0.mk ((by rw [hg];exact Nat.ne_of_lt (blk_lt (g := gb207) (o := .cells #[.string a0_0,.slice A0_1 l0_1.length c0_1,.slice A0_2 l0_2.length c0_2,.string a0_3,.string a0_4] 25 (0,0)) (by (with_reducible repeat (first|refine bN ?_ _|refine bD ?_|refine bA ?_ _));exact BK207.out)) : gb207 ≠ gb228));have n10_ := Aside0.mk ((by rw [hg];exact Nat.ne_of_gt (blk_lt (g := gb207) (o := .cells #[.string a0_0,.slice A0_1 l0_1.length c0_1,.slice A0_2 l0_2.length c0_2,.string a0_3,.string a0_4] 25 (0,0)) (by (with_reducible repeat (first|refine bN ?_ _|refine bD ?_|refine bA ?_ _));exact BK207.out)) : gb228 ≠ gb207));clear HO212;clear HO215;clear HO222;clear HO225;clear BK207;clear HB;have HO212 := n0_;have HO215 := n1_;have HO222 := n2_;have HO225 := n3_;have BK207 := n4_;have HB := n5_;have BK228 := n6_;have GW228 := n7_;have GE228 := n8_;have NB207_228 := n9_;have NB228_207 := n10_;clear n0_ n1_ n2_ n3_ n4_ n5_ n6_ n7_ n8_ n9_ n10_;clear hb hbox hg;have hnb26 := NB228_207.out;have hnc26 := NB207_228.out;have hcz27_0 : w25.cell? ⟨gb228,0,none⟩ = some (.string (⟨#[]⟩ : ByteArray)) := (blk_cell BK228.out 0).trans rfl;have hcz27_1 : w25.cell? ⟨gb228,1,none⟩ = some (.slice none 0 0) := (blk_cell BK228.out 1).trans rfl;have hcz27_2 : w25.cell? ⟨gb228,2,none⟩ = some (.slice none 0 0) := (blk_cell BK228.out 2).trans rfl;have hcz27_3 : w25.cell? ⟨gb228,3,none⟩ = some (.string (⟨#[]⟩ : ByteArray)) := (blk_cell BK228.out 3).trans rfl;have hcz27_4 : w25.cell? ⟨gb228,4,none⟩ = some (.string (⟨#[]⟩ : ByteArray)) := (blk_cell BK228.out 4).trans rfl;have hfz27_0 := blk_frozen BK228.out 0;have hfz27_1 := blk_frozen BK228.out 1;have hfz27_2 := blk_frozen BK228.out 2;have hfz27_3 := blk_frozen BK228.out 3;have hfz27_4 := blk_frozen BK228.out 4;obtain ⟨Ao28,co28,eo28⟩ := Kd.R_slice HO222.out;subst eo28;obtain ⟨Ao29,co29,eo29⟩ := Kd.R_slice HO225.out;subst eo29)|((with_reducible refine gate_callee (f := 12) rfl ?_);refine goesL_ (some 18) rfl rfl Try.func12 (by kernel_rfl) rfl #[.agg #[.string t219,.slice Ao28 t220.length co28,.slice Ao29 t223.length co29,.string t226,.string t227]] rfl (by (try simp only [List.map_toArray,List.map_cons,List.map_nil]);first|done|rfl|(simp only [List.length_drop,List.length_take];rfl)) ?_;(with_reducible refine (impl_IsValidLocale.calls k t219 _ _ t220 _ _ t223 t226 t227 t229 _ ?side1 ?side2 ?side3 ?side4 A10.out).mono ?_);(case side1 => refine (Kd.R_reads' (e := 61) (base := w.heap.size) (ok := fun k_ => (True ∧ some k_ ≠ (.slice Ao20 t210.length co20 : Value).ownBlock)) (n := t220.length) (c := co28) ?_).2.2;exact (by (with_reducible repeat (first|apply Kd.R_alloc|apply Kd.R_drewN|apply Kd.R_drew));exact (Kd.R_mono (Kd.R_far (p := ⟨gb228,4,none⟩) (Kd.R_far (p := ⟨gb228,3,none⟩) (Kd.R_far (p := ⟨gb228,2,none⟩) (Kd.R_far (p := ⟨gb228,1,none⟩) (Kd.R_far (p := ⟨gb228,0,none⟩) (Kd.R_types HO222.out BK228.out (by decide)) (fun _ hk => hk.2) (.string t219)) (fun _ hk => hk.2) (.slice Ao28 t220.length co28)) (fun _ hk => hk.2) (.slice Ao29 t223.length co29)) (fun _ hk => hk.2) (.string t226)) (fun _ hk => hk.2) (.string t227)) (fun _ h_ => h_.1))));(case side2 => exact (Kd.R_reads' HO222.out).2.1);(case side3 => refine (Kd.R_reads' (e := 72) (base := w.heap.size) (ok := fun k_ => (True ∧ some k_ ≠ (.slice Ao21 t213.length co21 : Value).ownBlock)) (n := t223.length) (c := co29) ?_).2.2;exact (by (with_reducible repeat (first|apply Kd.R_alloc|apply Kd.R_drewN|apply Kd.R_drew));exact (Kd.R_mono (Kd.R_far (p := ⟨gb228,4,none⟩) (Kd.R_far (p := ⟨gb228,3,none⟩) (Kd.R_far (p := ⟨gb228,2,none⟩) (Kd.R_far (p := ⟨gb228,1,none⟩) (Kd.R_far (p := ⟨gb228,0,none⟩) (Kd.R_types HO225.out BK228.out (by decide)) (fun _ hk => hk.2) (.string t219)) (fun _ hk => hk.2) (.slice Ao28 t220.length co28)) (fun _ hk => hk.2) (.slice Ao29 t223.length co29)) (fun _ hk => hk.2) (.string t226)) (fun _ hk => hk.2) (.string t227)) (fun _ h_ => h_.1))));(case side4 => exact (Kd.R_reads' HO225.out).2.1);rintro e w30 ⟨rfl,hb⟩;refine ⟨_,rfl,?_⟩;have n0_ := Aside0.mk (Kd.R_below (by (with_reducible repeat (first|apply Kd.R_alloc|apply Kd.R_drewN|apply Kd.R_drew));exact (Kd.R_mono (Kd.R_far (p := ⟨gb228,4,none⟩) (Kd.R_far (p := ⟨gb228,3,none⟩) (Kd.R_far (p := ⟨gb228,2,none⟩) (Kd.R_far (p := ⟨gb228,1,none⟩) (Kd.R_far (p := ⟨gb228,0,none⟩) (Kd.R_types HO212.out BK228.out (by decide)) (fun _ hk => hk.2) (.string t219)) (fun _ hk => hk.2) (.slice Ao28 t220.length co28)) (fun _ hk => hk.2) (.slice Ao29 t223.length co29)) (fun _ hk => hk.2) (.string t226)) (fun _ hk => hk.2) (.string t227)) (fun _ h_ => h_.1))) hb);have n1_ := Aside0.mk (Kd.R_below (by (with_reducible repeat (first|apply Kd.R_alloc|apply Kd.R_drewN|apply Kd.R_drew));exact (Kd.R_mono (Kd.R_far (p := ⟨gb228,4,none⟩) (Kd.R_far (p := ⟨gb228,3,none⟩) (Kd.R_far (p := ⟨gb228,2,none⟩) (Kd.R_far (p := ⟨gb228,1,none⟩) (Kd.R_far (p := ⟨gb228,0,none⟩) (Kd.R_types HO215.out BK228.out (by decide)) (fun _ hk => hk.2) (.string t219)) (fun _ hk => hk.2) (.slice Ao28 t220.length co28)) (fun _ hk => hk.2) (.slice Ao29 t223.length co29)) (fun _ hk => hk.2) (.string t226)) (fun _ hk => hk.2) (.string t227)) (fun _ h_ => h_.1))) hb);have n2_ := Aside0.mk (Kd.R_below (by (with_reducible repeat (first|apply Kd.R_alloc|apply Kd.R_drewN|apply Kd.R_drew));exact (Kd.R_mono (Kd.R_far (p := ⟨gb228,4,none⟩) (Kd.R_far (p := ⟨gb228,3,none⟩) (Kd.R_far (p := ⟨gb228,2,none⟩) (Kd.R_far (p := ⟨gb228,1,none⟩) (Kd.R_far (p := ⟨gb228,0,none⟩) (Kd.R_types HO222.out BK228.out (by decide)) (fun _ hk => hk.2) (.string t219)) (fun _ hk => hk.2) (.slice Ao28 t220.length co28)) (fun _ hk => hk.2) (.slice Ao29 t223.length co29)) (fun _ hk => hk.2) (.string t226)) (fun _ hk => hk.2) (.string t227)) (fun _ h_ => h_.1))) hb);have n3_ := Aside0.mk (Kd.R_below (by (with_reducible repeat (first|apply Kd.R_alloc|apply Kd.R_drewN|apply Kd.R_drew));exact (Kd.R_mono (Kd.R_far (p := ⟨gb228,4,none⟩) (Kd.R_far (p := ⟨gb228,3,none⟩) (Kd.R_far (p := ⟨gb228,2,none⟩) (Kd.R_far (p := ⟨gb228,1,none⟩) (Kd.R_far (p := ⟨gb228,0,none⟩) (Kd.R_types HO225.out BK228.out (by decide)) (fun _ hk => hk.2) (.string t219)) (fun _ hk => hk.2) (.slice Ao28 t220.length co28)) (fun _ hk => hk.2) (.slice Ao29 t223.length co29)) (fun _ hk => hk.2) (.string t226)) (fun _ hk => hk.2) (.string t227)) (fun _ h_ => h_.1))) hb);have n4_ := Aside0.mk (blk_below (g := gb207) (o := .cells #[.string a0_0,.slice A0_1 l0_1.length c0_1,.slice A0_2 l0_2.length c0_2,.string a0_3,.string a0_4] 25 (0,0)) (by (with_reducible repeat (first|refine bN ?_ _|refine bD ?_|refine bA ?_ _));refine blk_far ?_ NB207_228.out _;(with_reducible repeat (first|refine bN ?_ _|refine bD ?_|refine bA ?_ _));refine blk_far ?_ NB207_228.out _;(with_reducible repeat (first|refine bN ?_ _|refine bD ?_|refine bA ?_ _));refine blk_far ?_ NB207_228.out _;(with_reducible repeat (first|refine bN ?_ _|refine bD ?_|refine bA ?_ _));refine blk_far ?_ NB207_228.out _;(with_reducible repeat (first|refine bN ?_ _|refine bD ?_|refine bA ?_ _));refine blk_far ?_ NB207_228.out _;(with_reducible repeat (first|refine bN ?_ _|refine bD ?_|refine bA ?_ _));exact BK207.out) hb);have n5_ := Aside0.mk (blk_below (g := gb228) (o := .cells #[.string t219,.slice Ao28 t220.length co28,.slice Ao29 t223.length co29,.string t226,.string t227] 31 (0,0)) (by (with_reducible repeat (first|refine bN ?_ _|refine bD ?_|refine bA ?_ _));refine blk_put (cs := #[.string t219,.slice Ao28 t220.length co28,.slice Ao29 t223.length co29,.string t226,.string (⟨#[]⟩ : ByteArray)]) ?_ 4 _ rfl;(with_reducible repeat (first|refine bN ?_ _|refine bD ?_|refine bA ?_ _));refine blk_put (cs := #[.string t219,.slice Ao28 t220.length co28,.slice Ao29 t223.length co29,.string (⟨#[]⟩ : ByteArray),.string (⟨#[]⟩ : ByteArray)]) ?_ 3 _ rfl;(with_reducible repeat (first|refine bN ?_ _|refine bD ?_|refine bA ?_ _));refine blk_put (cs := #[.string t219,.slice Ao28 t220.length co28,.slice none 0 0,.string (⟨#[]⟩ : ByteArray),.string (⟨#[]⟩ : ByteArray)]) ?_ 2 _ rfl;(with_reducible repeat (first|refine bN ?_ _|refine bD ?_|refine bA ?_ _));refine blk_put (cs := #[.string t219,.slice none 0 0,.slice none 0 0,.string (⟨#[]⟩ : ByteArray),.string (⟨#[]⟩ : ByteArray)]) ?_ 1 _ rfl;(with_reducible repeat (first|refine bN ?_ _|refine bD ?_|refine bA ?_ _));refine blk_put (cs := #[.string (⟨#[]⟩ : ByteArray),.slice none 0 0,.slice none 0 0,.string (⟨#[]⟩ : ByteArray),.string (⟨#[]⟩ : ByteArray)]) ?_ 0 _ rfl;(with_reducible repeat (first|refine bN ?_ _|refine bD ?_|refine bA ?_ _));exact BK228.out) hb);have n6_ := Aside0.mk (below_step (by repeat (first|(with_reducible first|exact HB.out|apply lA|apply lN|apply lD|refine below_set ?_ GE207.out|refine below_set ?_ GE228.out)|exact HB.out)) hb);clear HO212;clear HO215;clear HO222;clear HO225;clear BK207;clear BK228;clear HB;have HO212 := n0_;have HO215 := n1_;have HO222 := n2_;have HO225 := n3_;have BK207 := n4_;have BK228 := n5_;have HB := n6_;clear n0_ n1_ n2_ n3_ n4_ n5_ n6_;(try clear hb);(try clear hb2);(try clear hk);(try clear hi)))
    have n0_ := Aside0.mk (Kd.R_drew HO212.out)
    have n1_ := Aside0.mk (Kd.R_drew HO215.out)
    have n2_ := Aside0.mk (Kd.R_drew HO222.out)
    have n3_ := Aside0.mk (Kd.R_drew HO225.out)
    have n4_ := Aside0.mk (bD BK207.out)
    have n5_ := Aside0.mk (bD BK228.out)
    have n6_ := Aside0.mk (lD HB.out)
    clear HO212
    clear HO215
    clear HO222
    clear HO225
    clear BK207
    clear BK228
    clear HB
    have HO212 := n0_
    have HO215 := n1_
    have HO222 := n2_
    have HO225 := n3_
    have BK207 := n4_
    have BK228 := n5_
    have HB := n6_
    clear n0_ n1_ n2_ n3_ n4_ n5_ n6_
    refine start_ (n := 5) (S := fun w' => w'.cell? ⟨gb228,0,none⟩ = some (.string t219) ∧ w'.cell? ⟨gb228,1,none⟩ = some (.slice Ao28 t220.length co28) ∧ w'.cell? ⟨gb228,2,none⟩ = some (.slice Ao29 t223.length co29) ∧ w'.cell? ⟨gb228,3,none⟩ = some (.string t226) ∧ w'.cell? ⟨gb228,4,none⟩ = some (.string t227) ∧ w'.cell? ⟨gb207,0,none⟩ = some (.string a0_0) ∧ w'.cell? ⟨gb207,1,none⟩ = some (.slice A0_1 l0_1.length c0_1) ∧ w'.cell? ⟨gb207,2,none⟩ = some (.slice A0_2 l0_2.length c0_2) ∧ w'.cell? ⟨gb207,3,none⟩ = some (.string a0_3) ∧ w'.cell? ⟨gb207,4,none⟩ = some (.string a0_4)) (ds := []) #[false,false,false,false,false] (by kernel_rfl) rfl rfl ⟨(blk_cell BK228.out 0).trans rfl,(blk_cell BK228.out 1).trans rfl,(blk_cell BK228.out 2).trans rfl,(blk_cell BK228.out 3).trans rfl,(blk_cell BK228.out 4).trans rfl,(blk_cell BK207.out 0).trans rfl,(blk_cell BK207.out 1).trans rfl,(blk_cell BK207.out 2).trans rfl,(blk_cell BK207.out 3).trans rfl,(blk_cell BK207.out 4).trans rfl⟩ (fun hHeld => ?_)
    generalize w30.drew = w31 at HO212 HO215 HO222 HO225 BK207 BK228 HB hHeld ⊢
    refine take_ (i := 0) (N := some 22) (v := ?_) (a' := ?_) #[true,false,false,false,false] rfl rfl (by kernel_rfl) (fun _ _ _ h => h) (Or.inl ⟨by rfl,?_⟩) hHeld ?_ ?_
    rotate_left
    ·rintro w' ⟨s0,s1,s2,s3,s4,s5,s6,s7,s8,s9⟩
     go_simp
     with_reducible rfl
    rotate_left
    ·simp only [Act.put,List.setIfInBounds_toArray,List.set_cons_zero,List.set_cons_succ,i64_w,i32_w]
     rfl
    refine take_ (i := 1) (N := some 23) (v := ?_) (a' := ?_) #[true,true,false,false,false] rfl rfl (by kernel_rfl) (fun _ _ _ h => h) (Or.inl ⟨by rfl,?_⟩) hHeld ?_ ?_
    rotate_left
    ·rintro w' ⟨s0,s1,s2,s3,s4,s5,s6,s7,s8,s9⟩
     go_simp
     with_reducible rfl
    rotate_left
    ·simp only [Act.put,List.setIfInBounds_toArray,List.set_cons_zero,List.set_cons_succ,i64_w,i32_w]
     rfl
    refine one_ (i := 2) (N := some 24) #[true,true,true,false,false] rfl rfl (by kernel_rfl) (by decide) (fun K hK => ?_)
    refine goes_ Try.func11 (by kernel_rfl) rfl #[.agg #[.string a0_0,.slice A0_1 l0_1.length c0_1,.slice A0_2 l0_2.length c0_2,.string a0_3,.string a0_4]] (by rfl) rfl rfl (by (try simp only [List.map_toArray,List.map_cons,List.map_nil]);first|done|rfl|(simp only [List.length_drop,List.length_take];rfl)) ?_
    with_reducible refine (laws_toLocale.calls k a0_0 _ _ l0_1 _ _ l0_2 a0_3 a0_4 t230 t231 t234 t237 t238 _ ?side1 ?side2 ?side3 ?side4 A12.out).mono ?_
    (case side1 => repeat (first|exact (Kd.C_below HR0_1.out HB.out)|(with_reducible refine Kd.C_alloc ?_ _)|(with_reducible refine Kd.C_drewN ?_ _)|(with_reducible refine Kd.C_drew ?_)))
    (case side2 => exact HC0_1.out)
    (case side3 => repeat (first|exact (Kd.C_below HR0_2.out HB.out)|(with_reducible refine Kd.C_alloc ?_ _)|(with_reducible refine Kd.C_drewN ?_ _)|(with_reducible refine Kd.C_drew ?_)))
    (case side4 => exact HC0_2.out)
    rintro e w32 ⟨v232,v235,rfl,ho0,ho1,hb⟩
    refine ⟨_,rfl,?_⟩
    have n0_ := Aside0.mk (Kd.R_elder' (by (with_reducible repeat (first|apply Kd.R_alloc|apply Kd.R_drewN|apply Kd.R_drew));exact HO212.out) (Kd.R_base ho0) hb)
    have n1_ := Aside0.mk (Kd.R_elder' (by (with_reducible repeat (first|apply Kd.R_alloc|apply Kd.R_drewN|apply Kd.R_drew));exact HO215.out) (Kd.R_base ho1) hb)
    have n2_ := Aside0.mk (Kd.R_elder' (by (with_reducible repeat (first|apply Kd.R_alloc|apply Kd.R_drewN|apply Kd.R_drew));exact HO222.out) (Kd.R_base ho0) hb)
    have n3_ := Aside0.mk (Kd.R_elder' (by (with_reducible repeat (first|apply Kd.R_alloc|apply Kd.R_drewN|apply Kd.R_drew));exact HO225.out) (Kd.R_base ho1) hb)
    have n4_ := Aside0.mk (Kd.R_lower (Kd.R_new' (Kd.R_new' ho0 (Kd.R_lt (by (with_reducible repeat (first|apply Kd.R_alloc|apply Kd.R_drewN|apply Kd.R_drew));exact HO212.out))) (Kd.R_lt (by (with_reducible repeat (first|apply Kd.R_alloc|apply Kd.R_drewN|apply Kd.R_drew));exact HO222.out))) (below_size (by repeat (first|(with_reducible first|exact HB.out|apply lA|apply lN|apply lD|refine below_set ?_ GE207.out|refine below_set ?_ GE228.out)|exact HB.out))))
    have n5_ := Aside0.mk (Kd.R_lower (Kd.R_new' (Kd.R_new' ho1 (Kd.R_lt (by (with_reducible repeat (first|apply Kd.R_alloc|apply Kd.R_drewN|apply Kd.R_drew));exact HO215.out))) (Kd.R_lt (by (with_reducible repeat (first|apply Kd.R_alloc|apply Kd.R_drewN|apply Kd.R_drew));exact HO225.out))) (below_size (by repeat (first|(with_reducible first|exact HB.out|apply lA|apply lN|apply lD|refine below_set ?_ GE207.out|refine below_set ?_ GE228.out)|exact HB.out))))
    have n6_ := Aside0.mk (blk_below (g := gb207) (o := .cells #[.string a0_0,.slice A0_1 l0_1.length c0_1,.slice A0_2 l0_2.length c0_2,.string a0_3,.string a0_4] 25 (0,0)) (by (with_reducible repeat (first|refine bN ?_ _|refine bD ?_|refine bA ?_ _));exact BK207.out) hb)
    have n7_ := Aside0.mk (blk_below (g := gb228) (o := .cells #[.string t219,.slice Ao28 t220.length co28,.slice Ao29 t223.length co29,.string t226,.string t227] 31 (0,0)) (by (with_reducible repeat (first|refine bN ?_ _|refine bD ?_|refine bA ?_ _));exact BK228.out) hb)
    have n8_ := Aside0.mk (below_step (by repeat (first|(with_reducible first|exact HB.out|apply lA|apply lN|apply lD|refine below_set ?_ GE207.out|refine below_set ?_ GE228.out)|exact HB.out)) hb)
    clear HO212
    clear HO215
    clear HO222
    clear HO225
    clear BK207
    clear BK228
    clear HB
    have HO212 := n0_
    have HO215 := n1_
    have HO222 := n2_
    have HO225 := n3_
    have HO233 := n4_
    have HO236 := n5_
    have BK207 := n6_
    have BK228 := n7_
    have HB := n8_
    clear n0_ n1_ n2_ n3_ n4_ n5_ n6_ n7_ n8_
    (try clear hb)
    (try clear hb2)
    (try clear hk)
    (try clear hi)
    (try clear ho0)
    (try clear ho1)
    obtain ⟨Ao33,co33,eo33⟩ := Kd.R_slice HO233.out
    (first|subst eo33|(injection eo33 with f1_ f2_ f3_;have f4_ := f1_.symm;have f5_ := f3_.symm;clear f1_ f2_ f3_;subst f4_;subst f5_))
    obtain ⟨Ao34,co34,eo34⟩ := Kd.R_slice HO236.out
    (first|subst eo34|(injection eo34 with f1_ f2_ f3_;have f4_ := f1_.symm;have f5_ := f3_.symm;clear f1_ f2_ f3_;subst f4_;subst f5_))
    refine hK.out _ _ ⟨(blk_cell BK228.out 0).trans rfl,(blk_cell BK228.out 1).trans rfl,(blk_cell BK228.out 2).trans rfl,(blk_cell BK228.out 3).trans rfl,(blk_cell BK228.out 4).trans rfl,(blk_cell BK207.out 0).trans rfl,(blk_cell BK207.out 1).trans rfl,(blk_cell BK207.out 2).trans rfl,(blk_cell BK207.out 3).trans rfl,(blk_cell BK207.out 4).trans rfl⟩ (fun hHeld => ?_)
    clear hK K
    refine norm_ (a' := ?_) ?_ ?_
    rotate_left
    ·show Act.put _ (some 24) _ = _
     simp only [Act.put,List.setIfInBounds_toArray,List.set_cons_zero,List.set_cons_succ,i64_w,i32_w]
     rfl
    refine one_ (i := 3) (N := some 25) #[true,true,true,true,false] rfl rfl (by kernel_rfl) (by decide) (fun K hK => ?_)
    refine goes_ Try.func13 (by kernel_rfl) rfl #[.agg #[.string t219,.slice Ao28 t220.length co28,.slice Ao29 t223.length co29,.string t226,.string t227],.agg #[.string t230,.slice Ao33 t231.length co33,.slice Ao34 t234.length co34,.string t237,.string t238]] (by rfl) rfl rfl (by (try simp only [List.map_toArray,List.map_cons,List.map_nil]);first|done|rfl|(simp only [List.length_drop,List.length_take];rfl)) ?_
    with_reducible refine (laws_eqLocale.calls k t219 _ _ t220 _ _ t223 t226 t227 t230 _ _ t231 _ _ t234 t237 t238 true _ ?side1 ?side2 ?side3 ?side4 ?side5 ?side6 ?side7 ?side8 A13.out).mono ?_
    (case side1 => repeat (first|exact (Kd.R_reads' HO222.out).2.2|(with_reducible refine Kd.C_alloc ?_ _)|(with_reducible refine Kd.C_drewN ?_ _)|(with_reducible refine Kd.C_drew ?_)))
    (case side2 => exact (Kd.R_reads' HO222.out).2.1)
    (case side3 => repeat (first|exact (Kd.R_reads' HO225.out).2.2|(with_reducible refine Kd.C_alloc ?_ _)|(with_reducible refine Kd.C_drewN ?_ _)|(with_reducible refine Kd.C_drew ?_)))
    (case side4 => exact (Kd.R_reads' HO225.out).2.1)
    (case side5 => repeat (first|exact (Kd.R_reads' HO233.out).2.2|(with_reducible refine Kd.C_alloc ?_ _)|(with_reducible refine Kd.C_drewN ?_ _)|(with_reducible refine Kd.C_drew ?_)))
    (case side6 => exact (Kd.R_reads' HO233.out).2.1)
    (case side7 => repeat (first|exact (Kd.R_reads' HO236.out).2.2|(with_reducible refine Kd.C_alloc ?_ _)|(with_reducible refine Kd.C_drewN ?_ _)|(with_reducible refine Kd.C_drew ?_)))
    (case side8 => exact (Kd.R_reads' HO236.out).2.1)
    rintro e w35 ⟨rfl,hb⟩
    refine ⟨_,rfl,?_⟩
    have n0_ := Aside0.mk (Kd.R_below (by (with_reducible repeat (first|apply Kd.R_alloc|apply Kd.R_drewN|apply Kd.R_drew));exact HO212.out) hb)
    have n1_ := Aside0.mk (Kd.R_below (by (with_reducible repeat (first|apply Kd.R_alloc|apply Kd.R_drewN|apply Kd.R_drew));exact HO215.out) hb)
    have n2_ := Aside0.mk (Kd.R_below (by (with_reducible repeat (first|apply Kd.R_alloc|apply Kd.R_drewN|apply Kd.R_drew));exact HO222.out) hb)
    have n3_ := Aside0.mk (Kd.R_below (by (with_reducible repeat (first|apply Kd.R_alloc|apply Kd.R_drewN|apply Kd.R_drew));exact HO225.out) hb)
    have n4_ := Aside0.mk (Kd.R_below (by (with_reducible repeat (first|apply Kd.R_alloc|apply Kd.R_drewN|apply Kd.R_drew));exact HO233.out) hb)
    have n5_ := Aside0.mk (Kd.R_below (by (with_reducible repeat (first|apply Kd.R_alloc|apply Kd.R_drewN|apply Kd.R_drew));exact HO236.out) hb)
    have n6_ := Aside0.mk (blk_below (g := gb207) (o := .cells #[.string a0_0,.slice A0_1 l0_1.length c0_1,.slice A0_2 l0_2.length c0_2,.string a0_3,.string a0_4] 25 (0,0)) (by (with_reducible repeat (first|refine bN ?_ _|refine bD ?_|refine bA ?_ _));exact BK207.out) hb)
    have n7_ := Aside0.mk (blk_below (g := gb228) (o := .cells #[.string t219,.slice Ao28 t220.length co28,.slice Ao29 t223.length co29,.string t226,.string t227] 31 (0,0)) (by (with_reducible repeat (first|refine bN ?_ _|refine bD ?_|refine bA ?_ _));exact BK228.out) hb)
    have n8_ := Aside0.mk (below_step (by repeat (first|(with_reducible first|exact HB.out|apply lA|apply lN|apply lD|refine below_set ?_ GE207.out|refine below_set ?_ GE228.out)|exact HB.out)) hb)
    clear HO212
    clear HO215
    clear HO222
    clear HO225
    clear HO233
    clear HO236
    clear BK207
    clear BK228
    clear HB
    have HO212 := n0_
    have HO215 := n1_
    have HO222 := n2_
    have HO225 := n3_
    have HO233 := n4_
    have HO236 := n5_
    have BK207 := n6_
    have BK228 := n7_
    have HB := n8_
    clear n0_ n1_ n2_ n3_ n4_ n5_ n6_ n7_ n8_
    (try clear hb)
    (try clear hb2)
    (try clear hk)
    (try clear hi)
    refine hK.out _ _ ⟨(blk_cell BK228.out 0).trans rfl,(blk_cell BK228.out 1).trans rfl,(blk_cell BK228.out 2).trans rfl,(blk_cell BK228.out 3).trans rfl,(blk_cell BK228.out 4).trans rfl,(blk_cell BK207.out 0).trans rfl,(blk_cell BK207.out 1).trans rfl,(blk_cell BK207.out 2).trans rfl,(blk_cell BK207.out 3).trans rfl,(blk_cell BK207.out 4).trans rfl⟩ (fun hHeld => ?_)
    clear hK K
    refine norm_ (a' := ?_) ?_ ?_
    rotate_left
    ·show Act.put _ (some 25) _ = _
     simp only [Act.put,List.setIfInBounds_toArray,List.set_cons_zero,List.set_cons_succ,i64_w,i32_w]
     rfl
    refine pure_ (i := 4) (N := some 26) (v := ?_) (a' := ?_) #[true,true,true,true,true] rfl rfl (by kernel_rfl) (fun _ _ _ h => h) (Or.inl ⟨by rfl,?_⟩) ?_ ?_
    rotate_left
    ·intro w'
     go_simp
     with_reducible rfl
    rotate_left
    ·simp only [Act.put,List.setIfInBounds_toArray,List.set_cons_zero,List.set_cons_succ,i64_w,i32_w]
     rfl
    refine done_ (by kernel_rfl) ?_
    try go_wp2
    go_ret
    exact ⟨by first|rfl|(simp [errW_none,errW_some] <;> rfl)|(simp [*,errW_none,errW_some] <;> rfl),by repeat (first|(with_reducible first|exact HB.out|apply lA|apply lN|apply lD|refine below_set ?_ GE207.out|refine below_set ?_ GE228.out)|exact HB.out)⟩
   ·replace c14 := Bool.eq_false_iff.mpr c14
    subst c14
    have H1 : (some false) = some r := by rw [if_neg (show ¬ (false = true) by decide)] at H;exact H
    clear H
    have H := H1
    clear H1
    exact absurd ((Option.some.inj H).trans hr_) (by decide)
def laws_FnExactIsValidLocale.Pure : Prop := ∀ (a0 : S25),(B25 a0) → ∃ k,laws_FnExactIsValidLocale.f k a0.f0 a0.f1 a0.f2 a0.f3 a0.f4 = some true
end Go.Proofs.Ytmkkcpdpfelalaa.P
