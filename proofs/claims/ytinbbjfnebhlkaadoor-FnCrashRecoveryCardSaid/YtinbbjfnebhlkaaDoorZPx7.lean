/- Written by a program in this session: each theorem here says that a Go function computes the Lean function beside it, or that a law's row holds, under the conditions that the theorem itself states. -/
import Derived.Test.YtinbbjfnebhlkaaDoorZPx0
import Derived.Test.YtinbbjfnebhlkaaDoorZPx2
import Derived.Test.YtinbbjfnebhlkaaDoorZPx4
import Derived.Test.YtinbbjfnebhlkaaDoorZPx5
import Derived.Test.YtinbbjfnebhlkaaDoorZPx6
namespace Go.Proofs.YtinbbjfnebhlkaaDoor.P
open Go.RowKit Go.Proofs.YtinbbjfnebhlkaaDoorW.PrintWords Go.Proofs.YtinbbjfnebhlkaaDoorW.PrintLast Go.Proofs.YtinbbjfnebhlkaaDoorW.PrintMore
attribute [local go_sem] max2_int min2_int max_two min_two max_three min_three max_four min_four   -- for this text's walks alone
set_option linter.unusedVariables false
set_option linter.unusedSimpArgs false
mutual
def impl_IsValidLog.j0 : Nat → List Int → Bool → ByteArray → ByteArray → Int → Option (Bool)
 | 0,_,_,_,_,_ => none
 | k + 1,x5,x32,x215000,x215001,x215002 => if x32 = true then (some false) else (impl_IsValidLog.l0 k x5 (x5.length : Int) 0 x215000 x215001 x215002)
def impl_IsValidLog.l0 : Nat → List Int → Int → Int → ByteArray → ByteArray → Int → Option (Bool)
 | 0,_,_,_,_,_,_ => none
 | k + 1,x33,x34,x35,x215000,x215001,x215002 => if x35 < x34 then (if 0 ≤ x35 then (if x35 < (x33.length : Int) then (if (rd x33 x35) = (x215000.size : Int) then (some true) else (impl_IsValidLog.l0 k x33 x34 (wrap64 (x35 + 1)) x215000 x215001 x215002)) else (none)) else (none)) else (some false)
end
def impl_IsValidLog.f (k : Nat) (a0_0 : ByteArray) (a0_1 : ByteArray) (a0_2 : Int) : Option (Bool) := if a0_0.size + a0_1.size ≤ 9223372036854775807 then ((impl_readRecords.f k (a0_0 ++ a0_1)).bind fun bt215 => (if 0 ≤ (bt215.1.length : Int) then (if (bt215.1.length : Int) < (bt215.2.length : Int) then (if (rd bt215.2 (bt215.1.length : Int)) = ((a0_0 ++ a0_1).size : Int) then (impl_IsValidLog.j0 k bt215.2 ((bt215.1.length : Int) != a0_2) a0_0 a0_1 a0_2) else (impl_IsValidLog.j0 k bt215.2 true a0_0 a0_1 a0_2)) else (none)) else (none))) else (none)
theorem impl_IsValidLog.mono_l : ∀ k,(∀ y0 y1 y2 y3 y4,LeO (impl_IsValidLog.j0 k y0 y1 y2 y3 y4) (impl_IsValidLog.j0 (k + 1) y0 y1 y2 y3 y4)) ∧ (∀ y0 y1 y2 y3 y4 y5,LeO (impl_IsValidLog.l0 k y0 y1 y2 y3 y4 y5) (impl_IsValidLog.l0 (k + 1) y0 y1 y2 y3 y4 y5))
 | 0 => ⟨fun _ _ _ _ _ r h => by simp [impl_IsValidLog.j0] at h,fun _ _ _ _ _ _ r h => by simp [impl_IsValidLog.l0] at h⟩
 | k + 1 => by
  obtain ⟨ih0,ih1⟩ := impl_IsValidLog.mono_l k
  refine ⟨?_,?_⟩
  ·intro y0 y1 y2 y3 y4
   unfold impl_IsValidLog.j0
   repeat' first
   | (with_reducible exact ih0 _ _ _ _ _)
   | (with_reducible exact ih1 _ _ _ _ _ _)
   | (with_reducible exact impl_readRecords.mono _ _)
   | (with_reducible exact LeO.refl _)
   | (with_reducible exact LeO.none _)
   | (with_reducible refine LeO.ite ?_ ?_)
   | (with_reducible refine LeO.bind ?_ (fun _ => ?_))
   | exact ih0 _ _ _ _ _
   | exact ih1 _ _ _ _ _ _
   | exact impl_readRecords.mono _ _
   | exact LeO.none _
   | refine LeO.ite ?_ ?_
   | refine LeO.bind ?_ (fun _ => ?_)
  ·intro y0 y1 y2 y3 y4 y5
   unfold impl_IsValidLog.l0
   repeat' first
   | (with_reducible exact ih0 _ _ _ _ _)
   | (with_reducible exact ih1 _ _ _ _ _ _)
   | (with_reducible exact impl_readRecords.mono _ _)
   | (with_reducible exact LeO.refl _)
   | (with_reducible exact LeO.none _)
   | (with_reducible refine LeO.ite ?_ ?_)
   | (with_reducible refine LeO.bind ?_ (fun _ => ?_))
   | exact ih0 _ _ _ _ _
   | exact ih1 _ _ _ _ _ _
   | exact impl_readRecords.mono _ _
   | exact LeO.none _
   | refine LeO.ite ?_ ?_
   | refine LeO.bind ?_ (fun _ => ?_)
theorem impl_IsValidLog.mono : ∀ a0 a1 a2 k,LeO (impl_IsValidLog.f k a0 a1 a2) (impl_IsValidLog.f (k + 1) a0 a1 a2) := by
 intro a0 a1 a2 k
 obtain ⟨ih0,ih1⟩ := impl_IsValidLog.mono_l k
 unfold impl_IsValidLog.f
 repeat' first
   | (with_reducible exact ih0 _ _ _ _ _)
   | (with_reducible exact ih1 _ _ _ _ _ _)
   | (with_reducible exact impl_readRecords.mono _ _)
   | (with_reducible exact LeO.refl _)
   | (with_reducible exact LeO.none _)
   | (with_reducible refine LeO.ite ?_ ?_)
   | (with_reducible refine LeO.bind ?_ (fun _ => ?_))
   | exact ih0 _ _ _ _ _
   | exact ih1 _ _ _ _ _ _
   | exact impl_readRecords.mono _ _
   | exact LeO.none _
   | refine LeO.ite ?_ ?_
   | refine LeO.bind ?_ (fun _ => ?_)
set_option maxHeartbeats 8000000 in
set_option maxRecDepth 100000 in
theorem impl_IsValidLog.calls (k : Nat) (a0_0 : ByteArray) (a0_1 : ByteArray) (a0_2 : Int) (r : Bool) (w : World) (hG : Gw w) (h : impl_IsValidLog.f k a0_0 a0_1 a0_2 = some r) :
  Calls Tryd.prog 23 #[.agg #[.string a0_0,.string a0_1,.int .i64 a0_2]] w fun e w' => e = .returned (.bool r) ∧ Below w.heap.size w w' := by
 have hu31 := Tryd.underlying31
 have HB := Aside0.mk (Below.refl w.heap.size w)
 have HG := Aside0.mk hG
 clear hG
 have H : (if a0_0.size + a0_1.size ≤ 9223372036854775807 then ((impl_readRecords.f k (a0_0 ++ a0_1)).bind fun bt215 => (if 0 ≤ (bt215.1.length : Int) then (if (bt215.1.length : Int) < (bt215.2.length : Int) then (if (rd bt215.2 (bt215.1.length : Int)) = ((a0_0 ++ a0_1).size : Int) then (impl_IsValidLog.j0 k bt215.2 ((bt215.1.length : Int) != a0_2) a0_0 a0_1 a0_2) else (impl_IsValidLog.j0 k bt215.2 true a0_0 a0_1 a0_2)) else (none)) else (none))) else (none)) = some r := h
 clear h
 by_cases c2 : a0_0.size + a0_1.size ≤ 9223372036854775807
 ·rw [if_pos c2] at H
  have c2b0 := eq_true c2
  have c2b1 : decide (a0_0.size + a0_1.size ≤ 9223372036854775807) = true := decide_eq_true c2
  try have c2b2 : (9223372036854775807 < a0_0.size + a0_1.size) = False := eq_false (Nat.not_lt.2 c2)
  obtain ⟨sj3,hsj3⟩ : ∃ s_ : ByteArray,(a0_0 ++ a0_1) = s_ := ⟨_,rfl⟩
  replace H : ((impl_readRecords.f k sj3).bind fun bt215 => (if 0 ≤ (bt215.1.length : Int) then (if (bt215.1.length : Int) < (bt215.2.length : Int) then (if (rd bt215.2 (bt215.1.length : Int)) = (sj3.size : Int) then (impl_IsValidLog.j0 k bt215.2 ((bt215.1.length : Int) != a0_2) a0_0 a0_1 a0_2) else (impl_IsValidLog.j0 k bt215.2 true a0_0 a0_1 a0_2)) else (none)) else (none))) = some r := by first|(rw [hsj3] at H;exact H)|(simp only [hsj3] at H ⊢;exact H)
  replace H := Option.bind_eq_some_iff.mp H
  obtain ⟨⟨t215,t216⟩,A40,H⟩ := H
  replace H : (if 0 ≤ (t215.length : Int) then (if (t215.length : Int) < (t216.length : Int) then (if (rd t216 (t215.length : Int)) = (sj3.size : Int) then (impl_IsValidLog.j0 k t216 ((t215.length : Int) != a0_2) a0_0 a0_1 a0_2) else (impl_IsValidLog.j0 k t216 true a0_0 a0_1 a0_2)) else (none)) else (none)) = some r := H
  have A4 := Aside0.mk A40
  clear A40
  have HC5 := Aside0.mk H
  clear H
  go_enter Tryd.func23,Tryd.ntmps23
  go_upto_region 3 with (first|((with_reducible refine gate_dst (N := 1) rfl ?_);(try (refine gate_guard (by rfl) ?_;dsimp only));refine box_event ?hg (N := 1) ?hd (cs := #[.string a0_0,.string a0_1,.int .i64 a0_2]) (t := 31) ?hr ?_;(case hd => rfl);(case hg => rfl);(case hr => first|(go_simp;done)|(go_simp;rfl));intro gb214 hg w6 hbox hb;have n0_ := Aside0.mk (below_step (by repeat (first|(with_reducible first|exact HB.out|apply lA|apply lN|apply lD)|exact HB.out)) hb);have n1_ := Aside0.mk (hbox);have n2_ := Aside0.mk ((by rw [hg];exact (below_size (by repeat (first|(with_reducible first|exact HB.out|apply lA|apply lN|apply lD)|exact HB.out))) : w.heap.size ≤ gb214));have n3_ := Aside0.mk ((by rw [hg];exact (below_size (by repeat (first|(with_reducible first|exact HB.out|apply lA|apply lN|apply lD)|exact HB.out))) : w.heap.size ≤ gb214));clear HB;have HB := n0_;have BK214 := n1_;have GW214 := n2_;have GE214 := n3_;clear n0_ n1_ n2_ n3_;clear hb hbox hg;have hcz7_0 : w6.cell? ⟨gb214,0,none⟩ = some (.string a0_0) := (blk_cell BK214.out 0).trans rfl;have hcz7_1 : w6.cell? ⟨gb214,1,none⟩ = some (.string a0_1) := (blk_cell BK214.out 1).trans rfl;have hcz7_2 : w6.cell? ⟨gb214,2,none⟩ = some (.int .i64 a0_2) := (blk_cell BK214.out 2).trans rfl;have hfz7_0 := blk_frozen BK214.out 0;have hfz7_1 := blk_frozen BK214.out 1;have hfz7_2 := blk_frozen BK214.out 2)|((with_reducible refine gate_callee (f := 48) rfl ?_);refine goesL_ (some 15) rfl rfl Tryd.func48 (by kernel_rfl) rfl #[.string sj3] rfl (by (try simp only [List.map_toArray,List.map_cons,List.map_nil]);first|done|rfl|(simp only [List.length_drop,List.length_take];rfl)) ?_;(with_reducible refine (impl_readRecords.calls k sj3 t215 t216 _ ?side1 A4.out).mono ?_);(case side1 => exact Gw.below HG.out (by repeat (first|(with_reducible first|exact HB.out|apply lA|apply lN|apply lD|refine below_set ?_ GE214.out)|exact HB.out)));rintro e w8 ⟨v217,v219,rfl,ho0,ho1,hb⟩;refine ⟨_,rfl,?_⟩;have n0_ := Aside0.mk (Kd.R_lower ho0 (below_size (by repeat (first|(with_reducible first|exact HB.out|apply lA|apply lN|apply lD|refine below_set ?_ GE214.out)|exact HB.out))));have n1_ := Aside0.mk (Kd.R_lower ho1 (below_size (by repeat (first|(with_reducible first|exact HB.out|apply lA|apply lN|apply lD|refine below_set ?_ GE214.out)|exact HB.out))));have n2_ := Aside0.mk (blk_below (g := gb214) (o := .cells #[.string a0_0,.string a0_1,.int .i64 a0_2] 31 (0,0)) (by (with_reducible repeat (first|refine bN ?_ _|refine bD ?_|refine bA ?_ _));exact BK214.out) hb);have n3_ := Aside0.mk (below_step (by repeat (first|(with_reducible first|exact HB.out|apply lA|apply lN|apply lD|refine below_set ?_ GE214.out)|exact HB.out)) hb);clear BK214;clear HB;have HO218 := n0_;have HO220 := n1_;have BK214 := n2_;have HB := n3_;clear n0_ n1_ n2_ n3_;(try clear hb);(try clear hb2);(try clear hk);(try clear hi);(try clear ho0);(try clear ho1)))
  (try simp only [Act.put,List.setIfInBounds_toArray,List.set_cons_zero,List.set_cons_succ])
  go_cut [32] (fun v32 wc => ∃ (kq : Nat) (x32_4 : Bool),v32 = .bool x32_4 ∧ Aside0 (impl_IsValidLog.j0 kq t216 x32_4 a0_0 a0_1 a0_2 = some r) ∧ Aside0 (kq ≤ k) ∧ Aside0 (Kd.R (Kd.int .i64) 3 wc w.heap.size (fun _ => True) v219 t216) ∧ Aside0 (wc.heap[gb214]? = some (.cells #[.string a0_0,.string a0_1,.int .i64 a0_2] 31 (0,0))) ∧ Aside0 (Below w.heap.size w wc))
  case first =>
   have H := HC5.out
   clear HC5
   by_cases c9 : 0 ≤ (t215.length : Int)
   ·rw [if_pos c9] at H
    have c9b0 : decide (0 ≤ (t215.length : Int)) = true := decide_eq_true c9
    have c9b1 : decide (0 ≤ t215.length) = true := decide_eq_true (by omega)
    clear c9
    (first|rw [c9b0]|(simp only [i64_w,i32_w];rw [c9b0])|skip)
    by_cases c10 : (t215.length : Int) < (t216.length : Int)
    ·rw [if_pos c10] at H
     have c10b0 : decide ((t215.length : Int) < (t216.length : Int)) = true := decide_eq_true c10
     have c10b1 : decide (t215.length < t216.length) = true := decide_eq_true (Int.ofNat_lt.mp c10)
     clear c10
     by_cases c11 : (rd t216 (t215.length : Int)) = (sj3.size : Int)
     ·rw [if_pos c11] at H
      have c11b0 : ((rd t216 (t215.length : Int)) == (sj3.size : Int)) = true := beq_iff_eq.mpr c11
      have c11b1 : ((rd t216 (t215.length : Int)) != (sj3.size : Int)) = false := bne_eq_false_iff_eq.mpr c11
      clear c11
      have H' := Aside0.mk H
      clear H
      obtain ⟨Ao12,co12,eo12⟩ := Kd.R_slice HO218.out
      subst eo12
      obtain ⟨Ao13,co13,eo13⟩ := Kd.R_slice HO220.out
      subst eo13
      have p221 : 0 ≤ ((t215.length : Int) : Int) := of_decide_eq_true (by first|(with_reducible assumption)|assumption)
      have q221 : (t215.length : Int) < (t216.length : Int) := of_decide_eq_true (by first|(with_reducible assumption)|assumption)
      obtain ⟨ad221,e221,hx221_0⟩ := Kd.at_int (Kd.R_reads' HO220.out).2.2 (t215.length : Int) p221 q221
      cases e221
      (try simp only [Go.IntWalk.toNatUp] at hx221_0)
      replace p221 := eq_true p221
      replace q221 := eq_true q221
      have hcz14_0 : w8.cell? ⟨gb214,0,none⟩ = some (.string a0_0) := (blk_cell BK214.out 0).trans rfl
      have hcz14_1 : w8.cell? ⟨gb214,1,none⟩ = some (.string a0_1) := (blk_cell BK214.out 1).trans rfl
      have hcz14_2 : w8.cell? ⟨gb214,2,none⟩ = some (.int .i64 a0_2) := (blk_cell BK214.out 2).trans rfl
      have hfz14_0 := blk_frozen BK214.out 0
      have hfz14_1 := blk_frozen BK214.out 1
      have hfz14_2 := blk_frozen BK214.out 2
      go_wp2
      go_meet
      case rel => exact ⟨_,(((t215.length : Int) != a0_2)),(by first|rfl|(simp;done)|(simp [my_isEmpty];done)|(simp [*];done)),H',⟨by first|omega|exact Nat.le_refl _⟩,⟨by (with_reducible repeat (first|apply Kd.R_alloc|apply Kd.R_drewN|apply Kd.R_drew));exact HO220.out⟩,⟨by (with_reducible repeat (first|refine bN ?_ _|refine bD ?_|refine bA ?_ _));exact BK214.out⟩,⟨by repeat (first|(with_reducible first|exact HB.out|apply lA|apply lN|apply lD|refine below_set ?_ GE214.out)|exact HB.out)⟩⟩
     ·rw [if_neg c11] at H
      have c11b0 : ((rd t216 (t215.length : Int)) == (sj3.size : Int)) = false := beq_eq_false_iff_ne.mpr c11
      have c11b1 : ((rd t216 (t215.length : Int)) != (sj3.size : Int)) = true := bne_iff_ne.mpr c11
      have H' := Aside0.mk H
      clear H
      obtain ⟨Ao15,co15,eo15⟩ := Kd.R_slice HO218.out
      subst eo15
      obtain ⟨Ao16,co16,eo16⟩ := Kd.R_slice HO220.out
      subst eo16
      have p221 : 0 ≤ ((t215.length : Int) : Int) := of_decide_eq_true (by first|(with_reducible assumption)|assumption)
      have q221 : (t215.length : Int) < (t216.length : Int) := of_decide_eq_true (by first|(with_reducible assumption)|assumption)
      obtain ⟨ad221,e221,hx221_0⟩ := Kd.at_int (Kd.R_reads' HO220.out).2.2 (t215.length : Int) p221 q221
      cases e221
      (try simp only [Go.IntWalk.toNatUp] at hx221_0)
      replace p221 := eq_true p221
      replace q221 := eq_true q221
      go_wp2
      go_meet
      case rel => exact ⟨_,(true),(by first|rfl|(simp;done)|(simp [my_isEmpty];done)|(simp [*];done)),H',⟨by first|omega|exact Nat.le_refl _⟩,⟨by (with_reducible repeat (first|apply Kd.R_alloc|apply Kd.R_drewN|apply Kd.R_drew));exact HO220.out⟩,⟨by (with_reducible repeat (first|refine bN ?_ _|refine bD ?_|refine bA ?_ _));exact BK214.out⟩,⟨by repeat (first|(with_reducible first|exact HB.out|apply lA|apply lN|apply lD|refine below_set ?_ GE214.out)|exact HB.out)⟩⟩
    ·rw [if_neg c10] at H
     exact absurd H (by simp)
   ·rw [if_neg c9] at H
    exact absurd H (by simp)
  case rest =>
   clear HC5
   try clear c1
   try clear c2
   try clear c2b0
   try clear c2b1
   try clear c2b2
   try clear p2
   try clear q2
   try clear hx2
   try clear c4
   try clear c9
   try clear c9b0
   try clear c9b1
   try clear c10
   try clear c10b0
   try clear c10b1
   try clear c11
   try clear c11b0
   try clear c11b1
   try clear hcz14_0
   try clear hcz14_1
   try clear hcz14_2
   try clear hcz7_0
   try clear hcz7_1
   try clear hcz7_2
   try clear hfz14_0
   try clear hfz14_1
   try clear hfz14_2
   try clear hfz7_0
   try clear hfz7_1
   try clear hfz7_2
   try clear hx221_0
   try clear p221
   try clear q221
   obtain ⟨kq,x32_4,rfl,HA,HJ4,HO_5,BK214,HB⟩ := hcut
   cases kq with
   | zero => exact absurd HA.out (by simp [impl_IsValidLog.j0])
   | succ kj4 =>
    have H := HA.out
    clear HA
    simp only [impl_IsValidLog.j0] at H
    by_cases c17 : x32_4 = true
    ·subst c17
     have H1 : (some false) = some r := by rw [if_pos rfl] at H;exact H
     clear H
     have H := H1
     clear H1
     obtain rfl := Option.some.inj H
     simp only [Option.some.injEq,Prod.mk.injEq] at H
     obtain ⟨rfl⟩ := H
     go_wp2
     go_ret
     exact ⟨by first|rfl|(simp [errW_none,errW_some] <;> rfl)|(simp only [← hsj3];first|rfl|(simp [errW_none,errW_some] <;> rfl))|(simp [*,errW_none,errW_some] <;> rfl),by repeat (first|(with_reducible first|exact HB.out|apply lA|apply lN|apply lD|refine below_set ?_ GE214.out)|exact HB.out)⟩
    ·replace c17 := Bool.eq_false_iff.mpr c17
     subst c17
     have H1 : (impl_IsValidLog.l0 kj4 t216 (t216.length : Int) 0 a0_0 a0_1 a0_2) = some r := by rw [if_neg (show ¬ (false = true) by decide)] at H;exact H
     clear H
     have H := H1
     clear H1
     have H' := Aside0.mk H
     clear H
     obtain ⟨Ao18,co18,eo18⟩ := Kd.R_slice HO_5.out
     subst eo18
     go_wp2
     go_loopg [35] kj4 (fun kq v35 w' => ∃ (x35_2 : Int),v35 = .int .i64 x35_2 ∧ Aside0 (impl_IsValidLog.l0 kq t216 (t216.length : Int) x35_2 a0_0 a0_1 a0_2 = some r) ∧ Aside0 (kq ≤ kj4) ∧ Aside0 (Kd.R (Kd.int .i64) 3 w' w.heap.size (fun _ => True) (.slice Ao18 t216.length co18) t216) ∧ Aside0 (w'.heap[gb214]? = some (.cells #[.string a0_0,.string a0_1,.int .i64 a0_2] 31 (0,0))) ∧ Aside0 (Below w.heap.size w w'))
     case atStart => exact ⟨(0),(by first|rfl|(simp;done)|(simp [my_isEmpty];done)|(simp [*];done)),H',⟨Nat.le_refl _⟩,⟨by (with_reducible repeat (first|apply Kd.R_alloc|apply Kd.R_drewN|apply Kd.R_drew));exact HO_5.out⟩,⟨by (with_reducible repeat (first|refine bN ?_ _|refine bD ?_|refine bA ?_ _));exact BK214.out⟩,⟨by repeat (first|(with_reducible first|exact HB.out|apply lA|apply lN|apply lD|refine below_set ?_ GE214.out)|exact HB.out)⟩⟩
     case round =>
      clear H'
      try clear c1
      try clear c2
      try clear c2b0
      try clear c2b1
      try clear c2b2
      try clear p2
      try clear q2
      try clear hx2
      try clear c4
      try clear c9
      try clear c9b0
      try clear c9b1
      try clear c10
      try clear c10b0
      try clear c10b1
      try clear c11
      try clear c11b0
      try clear c11b1
      try clear c17
      try clear hcz14_0
      try clear hcz14_1
      try clear hcz14_2
      try clear hcz7_0
      try clear hcz7_1
      try clear hcz7_2
      try clear hfz14_0
      try clear hfz14_1
      try clear hfz14_2
      try clear hfz7_0
      try clear hfz7_1
      try clear hfz7_2
      try clear hx221_0
      try clear p2
      try clear p221
      try clear q2
      try clear q221
      obtain ⟨x35_2,rfl,HA,HK2,HO_33,BK214,HB⟩ := hrel
      cases gk with
      | zero => exact absurd HA.out (by simp [impl_IsValidLog.l0])
      | succ k2 =>
       have H := HA.out
       clear HA
       simp only [impl_IsValidLog.l0] at H
       by_cases c19 : x35_2 < (t216.length : Int)
       ·rw [if_pos c19] at H
        have c19b0 : decide (x35_2 < (t216.length : Int)) = true := decide_eq_true c19
        clear c19
        by_cases c20 : 0 ≤ x35_2
        ·rw [if_pos c20] at H
         have c20b0 : decide (0 ≤ x35_2) = true := decide_eq_true c20
         clear c20
         by_cases c21 : x35_2 < (t216.length : Int)
         ·rw [if_pos c21] at H
          have c21b0 : decide (x35_2 < (t216.length : Int)) = true := decide_eq_true c21
          clear c21
          by_cases c22 : (rd t216 x35_2) = (a0_0.size : Int)
          ·rw [if_pos c22] at H
           have c22b0 : ((rd t216 x35_2) == (a0_0.size : Int)) = true := beq_iff_eq.mpr c22
           have c22b1 : ((rd t216 x35_2) != (a0_0.size : Int)) = false := bne_eq_false_iff_eq.mpr c22
           clear c22
           obtain rfl := Option.some.inj H
           simp only [Option.some.injEq,Prod.mk.injEq] at H
           obtain ⟨rfl⟩ := H
           have p222 : 0 ≤ (x35_2 : Int) := of_decide_eq_true (by first|(with_reducible assumption)|assumption)
           have q222 : x35_2 < (t216.length : Int) := of_decide_eq_true (by first|(with_reducible assumption)|assumption)
           obtain ⟨ad222,e222,hx222_0⟩ := Kd.at_int (Kd.R_reads' HO_33.out).2.2 x35_2 p222 q222
           cases e222
           replace p222 := eq_true p222
           replace q222 := eq_true q222
           have hcz23_0 : wr.cell? ⟨gb214,0,none⟩ = some (.string a0_0) := (blk_cell BK214.out 0).trans rfl
           have hcz23_1 : wr.cell? ⟨gb214,1,none⟩ = some (.string a0_1) := (blk_cell BK214.out 1).trans rfl
           have hcz23_2 : wr.cell? ⟨gb214,2,none⟩ = some (.int .i64 a0_2) := (blk_cell BK214.out 2).trans rfl
           have hfz23_0 := blk_frozen BK214.out 0
           have hfz23_1 := blk_frozen BK214.out 1
           have hfz23_2 := blk_frozen BK214.out 2
           go_wp2
           go_ret
           exact ⟨by first|rfl|(simp [errW_none,errW_some] <;> rfl)|(simp only [← hsj3];first|rfl|(simp [errW_none,errW_some] <;> rfl))|(simp [*,errW_none,errW_some] <;> rfl),by repeat (first|(with_reducible first|exact HB.out|apply lA|apply lN|apply lD|refine below_set ?_ GE214.out)|exact HB.out)⟩
          ·rw [if_neg c22] at H
           have c22b0 : ((rd t216 x35_2) == (a0_0.size : Int)) = false := beq_eq_false_iff_ne.mpr c22
           have c22b1 : ((rd t216 x35_2) != (a0_0.size : Int)) = true := bne_iff_ne.mpr c22
           have H' := Aside0.mk H
           clear H
           have p222 : 0 ≤ (x35_2 : Int) := of_decide_eq_true (by first|(with_reducible assumption)|assumption)
           have q222 : x35_2 < (t216.length : Int) := of_decide_eq_true (by first|(with_reducible assumption)|assumption)
           obtain ⟨ad222,e222,hx222_0⟩ := Kd.at_int (Kd.R_reads' HO_33.out).2.2 x35_2 p222 q222
           cases e222
           replace p222 := eq_true p222
           replace q222 := eq_true q222
           have hcz24_0 : wr.cell? ⟨gb214,0,none⟩ = some (.string a0_0) := (blk_cell BK214.out 0).trans rfl
           have hcz24_1 : wr.cell? ⟨gb214,1,none⟩ = some (.string a0_1) := (blk_cell BK214.out 1).trans rfl
           have hcz24_2 : wr.cell? ⟨gb214,2,none⟩ = some (.int .i64 a0_2) := (blk_cell BK214.out 2).trans rfl
           have hfz24_0 := blk_frozen BK214.out 0
           have hfz24_1 := blk_frozen BK214.out 1
           have hfz24_2 := blk_frozen BK214.out 2
           go_wp2
           go_roundg k2
           case measure => have := HJ4.out;have := HK2.out;omega
           case rel => exact ⟨(wrap64 (x35_2 + 1)),(by first|rfl|(simp;done)|(simp [my_isEmpty];done)|(simp [*];done)),H',⟨by have := HJ4.out;have := HK2.out;omega⟩,⟨by (with_reducible repeat (first|apply Kd.R_alloc|apply Kd.R_drewN|apply Kd.R_drew));exact HO_33.out⟩,⟨by (with_reducible repeat (first|refine bN ?_ _|refine bD ?_|refine bA ?_ _));exact BK214.out⟩,⟨by repeat (first|(with_reducible first|exact HB.out|apply lA|apply lN|apply lD|refine below_set ?_ GE214.out)|exact HB.out)⟩⟩
         ·rw [if_neg c21] at H
          exact absurd H (by simp)
        ·rw [if_neg c20] at H
         exact absurd H (by simp)
       ·rw [if_neg c19] at H
        have c19b0 : decide (x35_2 < (t216.length : Int)) = false := decide_eq_false c19
        clear c19
        obtain rfl := Option.some.inj H
        simp only [Option.some.injEq,Prod.mk.injEq] at H
        obtain ⟨rfl⟩ := H
        go_wp2
        go_ret
        exact ⟨by first|rfl|(simp [errW_none,errW_some] <;> rfl)|(simp only [← hsj3];first|rfl|(simp [errW_none,errW_some] <;> rfl))|(simp [*,errW_none,errW_some] <;> rfl),by repeat (first|(with_reducible first|exact HB.out|apply lA|apply lN|apply lD|refine below_set ?_ GE214.out)|exact HB.out)⟩
 ·rw [if_neg c2] at H
  exact absurd H (by simp)
def impl_CrashLog.f (k : Nat) (a0_0 a0_1 : ByteArray) (a0_2 a1 : Int) (a2 : Bool) : Option (ByteArray × Bool) :=
 (impl_IsValidLog.f k a0_0 a0_1 a0_2).bind fun t => if t = true then (if 0 ≤ a1 ∧ a1 ≤ (a0_1.size : Int) then (if a0_0.size + a0_1.size ≤ 9223372036854775807 then some (a0_0 ++ tornB (a0_1.extract 0 a1.toNat) a2,true) else none) else some ((⟨#[]⟩ : ByteArray),false)) else some ((⟨#[]⟩ : ByteArray),false)
theorem impl_CrashLog.mono : ∀ a0 a1 a2 a3 a4 k,LeO (impl_CrashLog.f k a0 a1 a2 a3 a4) (impl_CrashLog.f (k + 1) a0 a1 a2 a3 a4) := by
 intro a0 a1 a2 a3 a4 k
 unfold impl_CrashLog.f
 repeat' first
  | (with_reducible exact impl_IsValidLog.mono _ _ _ _)
  | (with_reducible exact LeO.refl _)
  | (with_reducible exact LeO.none _)
  | (with_reducible refine LeO.ite ?_ ?_)
  | (with_reducible refine LeO.bind ?_ (fun _ => ?_))
set_option maxHeartbeats 8000000 in
set_option maxRecDepth 100000 in
theorem impl_CrashLog.calls (k : Nat) (a0_0 a0_1 : ByteArray) (a0_2 a1 : Int) (a2 : Bool) (r1 : ByteArray) (r2 : Bool) (w : World) (hG : Gw w) (h : impl_CrashLog.f k a0_0 a0_1 a0_2 a1 a2 = some (r1,r2)) :
  Calls Tryd.prog 25 #[.agg #[.string a0_0,.string a0_1,.int .i64 a0_2],.int .i64 a1,.bool a2] w fun e w' => e = .returned (.tuple #[.string r1,.bool r2]) ∧ Below w.heap.size w w' := by
 have hu31 := Tryd.underlying31
 have HB := Aside0.mk (Below.refl w.heap.size w)
 have HG := Aside0.mk hG
 clear hG
 unfold impl_CrashLog.f at h
 obtain ⟨t,ht,h⟩ := Option.bind_eq_some_iff.1 h
 have HT := Aside0.mk ht
 clear ht
 cases t with
 | false =>
  rw [if_neg Bool.false_ne_true] at h
  simp only [Option.some.injEq,Prod.mk.injEq] at h
  obtain ⟨rfl,rfl⟩ := h
  go_enter Tryd.func25,Tryd.ntmps25
  go_wp2_with (first
   | ((with_reducible refine gate_dst (N := 3) rfl ?_);refine box_event ?hg (N := 3) ?hd (cs := #[.string a0_0,.string a0_1,.int .i64 a0_2]) (t := 31) ?hr ?_;(case hd => rfl);(case hg => rfl);(case hr => first|(go_simp;done)|(go_simp;rfl));intro gb hg w6 hbox hb;have HB6 := Aside0.mk (below_step HB.out hb);have hc0 : w6.cell? ⟨gb,0,none⟩ = some (.string a0_0) := (blk_cell hbox 0).trans rfl;have hc1 : w6.cell? ⟨gb,1,none⟩ = some (.string a0_1) := (blk_cell hbox 1).trans rfl;have hc2 : w6.cell? ⟨gb,2,none⟩ = some (.int .i64 a0_2) := (blk_cell hbox 2).trans rfl;have HBK := Aside0.mk hbox;clear hb hbox hg)
   | (go_at_call 23;(with_reducible refine (impl_IsValidLog.calls k a0_0 a0_1 a0_2 false _ ?hg HT.out).mono ?_);(case hg => exact Gw.below HG.out HB6.out);rintro e w2 ⟨rfl,hb⟩;have HB2 := Aside0.mk (below_step HB6.out hb);clear hb hc0 hc1 hc2))
  go_ret2
  exact ⟨rfl,HB2.out⟩
 | true =>
  rw [if_pos rfl] at h
  by_cases hk : 0 ≤ a1 ∧ a1 ≤ (a0_1.size : Int)
  ·rw [if_pos hk] at h
   by_cases hs : a0_0.size + a0_1.size ≤ 9223372036854775807
   ·rw [if_pos hs] at h
    simp only [Option.some.injEq,Prod.mk.injEq] at h
    obtain ⟨rfl,rfl⟩ := h
    obtain ⟨k0,k1⟩ := hk
    have hI : impl_inside.f a1 0 (a0_1.size : Int) = some true := by unfold impl_inside.f;rw [if_pos k0];simp [k1]
    have HI := Aside0.mk hI
    clear hI
    obtain ⟨m,rfl⟩ : ∃ m : Nat,a1 = (m : Int) := ⟨a1.toNat,by omega⟩
    have hm : m ≤ a0_1.size := by omega
    rw [Int.toNat_natCast]
    have hz : (a0_1.extract 0 m).size = m := by rw [ByteArray.size_extract];omega
    have HZ := Aside0.mk hz
    have hlen : (bytesOf (a0_1.extract 0 m)).length = m := by rw [bytesOf_length];exact hz
    have HLEN := Aside0.mk hlen
    have hmm : (m : Int) ≤ 9223372036854775807 := by omega
    have k2 : decide ((m : Int) ≤ (a0_1.size : Int)) = true := decide_eq_true k1
    obtain ⟨T,hT⟩ : ∃ T,tornB (a0_1.extract 0 m) a2 = T := ⟨_,rfl⟩
    have HTT := Aside0.mk hT
    have hTz : T.size ≤ a0_1.size := by
     rw [← hT,tornB_size,hz];exact hm
    rw [hT]
    have hle : a0_0.size + T.size ≤ 9223372036854775807 := by omega
    have hle2 : (9223372036854775807 < a0_0.size + T.size) = False := eq_false (Nat.not_lt.2 hle)
    clear hT hTz hle hs hm hz hlen
    cases a2 with
    | false =>
     have hts : strOfNums (bytesOf (a0_1.extract 0 m)) = T := by rw [← HTT.out];rfl
     have HTS := Aside0.mk hts
     clear hts
     go_enter Tryd.func25,Tryd.ntmps25
     go_wp2_with (first
      | ((with_reducible refine gate_dst (N := 3) rfl ?_);refine box_event ?hg (N := 3) ?hd (cs := #[.string a0_0,.string a0_1,.int .i64 a0_2]) (t := 31) ?hr ?_;(case hd => rfl);(case hg => rfl);(case hr => first|(go_simp;done)|(go_simp;rfl));intro gb hg w6 hbox hb;have HB6 := Aside0.mk (below_step HB.out hb);have hc0 : w6.cell? ⟨gb,0,none⟩ = some (.string a0_0) := (blk_cell hbox 0).trans rfl;have hc1 : w6.cell? ⟨gb,1,none⟩ = some (.string a0_1) := (blk_cell hbox 1).trans rfl;have hc2 : w6.cell? ⟨gb,2,none⟩ = some (.int .i64 a0_2) := (blk_cell hbox 2).trans rfl;have HBK := Aside0.mk hbox;clear hb hbox hg)
      | (go_at_call 23;(with_reducible refine (impl_IsValidLog.calls k a0_0 a0_1 a0_2 true _ ?hg HT.out).mono ?_);(case hg => exact Gw.below HG.out HB6.out);rintro e w2 ⟨rfl,hb⟩;have HB2 := Aside0.mk (below_step HB6.out hb);have hbk2 := blk_below HBK.out hb;clear hb hc0 hc1 hc2;have hc1 : w2.cell? ⟨gb,1,none⟩ = some (.string a0_1) := (blk_cell hbk2 1).trans rfl;have hc0 : w2.cell? ⟨gb,0,none⟩ = some (.string a0_0) := (blk_cell hbk2 0).trans rfl;have HBK2 := Aside0.mk hbk2;clear hbk2)
      | (go_at_call 45;(with_reducible refine (impl_inside.calls ((m : Int)) 0 (a0_1.size : Int) true _ HI.out).mono ?_);rintro e w' ⟨rfl,⟨nd,rfl⟩⟩;obtain ⟨g,cap,W1,hcv,HR⟩ := conv_ex (P := Tryd.prog) (w2.drewN nd) 9 53 5 (a0_1.extract 0 m) Tryd.underlying9 Tryd.underlying53 Tryd.underlying5;rw [HZ.out] at hcv;have hd0 : W1.cell? ⟨gb,0,none⟩ = some (.string a0_0) := (blk_cell (blk_below (bN HBK2.out nd) HR.below) 0).trans rfl;have hn1 : gb ≠ g := (by have h1 := blk_lt (bN HBK2.out nd);have h2 := HR.new;intro e_;omega);have hn2 : g ≠ gb := hn1.symm;have ht := HR.text 53 5 9 Tryd.underlying53 Tryd.underlying5 Tryd.underlying9 m cap HLEN.out;rw [HTS.out] at ht;clear hc0;have HR := Aside0.mk HR))
     go_ret2
     exact ⟨rfl,Below.trans (lN HB2.out _) (HR.out.below.mono (by have := HB2.out.size;simp;omega))⟩
    | true =>
     cases m with
     | zero =>
      have he0 : a0_1.extract 0 0 = ByteArray.empty := by ext1;simp
      rw [he0] at HZ HLEN HTT
      have hts : strOfNums (bytesOf ByteArray.empty) = T := by rw [← HTT.out];unfold tornB;rw [if_neg (by rw [HZ.out];simp)]
      have HTS := Aside0.mk hts
      clear hts
      have e0 : ((0 : Nat) : Int) = 0 := rfl
      rw [e0] at HI k0 k1 k2 hmm ⊢
      go_enter Tryd.func25,Tryd.ntmps25
      go_wp2_with (first
       | ((with_reducible refine gate_dst (N := 3) rfl ?_);refine box_event ?hg (N := 3) ?hd (cs := #[.string a0_0,.string a0_1,.int .i64 a0_2]) (t := 31) ?hr ?_;(case hd => rfl);(case hg => rfl);(case hr => first|(go_simp;done)|(go_simp;rfl));intro gb hg w6 hbox hb;have HB6 := Aside0.mk (below_step HB.out hb);have hc0 : w6.cell? ⟨gb,0,none⟩ = some (.string a0_0) := (blk_cell hbox 0).trans rfl;have hc1 : w6.cell? ⟨gb,1,none⟩ = some (.string a0_1) := (blk_cell hbox 1).trans rfl;have hc2 : w6.cell? ⟨gb,2,none⟩ = some (.int .i64 a0_2) := (blk_cell hbox 2).trans rfl;have HBK := Aside0.mk hbox;clear hb hbox hg)
       | (go_at_call 23;(with_reducible refine (impl_IsValidLog.calls k a0_0 a0_1 a0_2 true _ ?hg HT.out).mono ?_);(case hg => exact Gw.below HG.out HB6.out);rintro e w2 ⟨rfl,hb⟩;have HB2 := Aside0.mk (below_step HB6.out hb);have hbk2 := blk_below HBK.out hb;clear hb hc0 hc1 hc2;have hc1 : w2.cell? ⟨gb,1,none⟩ = some (.string a0_1) := (blk_cell hbk2 1).trans rfl;have hc0 : w2.cell? ⟨gb,0,none⟩ = some (.string a0_0) := (blk_cell hbk2 0).trans rfl;have HBK2 := Aside0.mk hbk2;clear hbk2)
       | (go_at_call 45;(with_reducible refine (impl_inside.calls (0) 0 (a0_1.size : Int) true _ HI.out).mono ?_);rintro e w' ⟨rfl,⟨nd,rfl⟩⟩;obtain ⟨g,cap,W1,hcv,HR⟩ := conv_ex (P := Tryd.prog) (w2.drewN nd) 9 53 5 ByteArray.empty Tryd.underlying9 Tryd.underlying53 Tryd.underlying5;rw [HZ.out] at hcv;have hd0 : W1.cell? ⟨gb,0,none⟩ = some (.string a0_0) := (blk_cell (blk_below (bN HBK2.out nd) HR.below) 0).trans rfl;have hn1 : gb ≠ g := (by have h1 := blk_lt (bN HBK2.out nd);have h2 := HR.new;intro e_;omega);have hn2 : g ≠ gb := hn1.symm;have ht := HR.text 53 5 9 Tryd.underlying53 Tryd.underlying5 Tryd.underlying9 0 cap HLEN.out;rw [HTS.out] at ht;clear hc0;have HR := Aside0.mk HR))
      go_ret2
      exact ⟨rfl,Below.trans (lN HB2.out _) (HR.out.below.mono (by have := HB2.out.size;simp;omega))⟩
     | succ q =>
      have e0 : ((q + 1 : Nat) : Int) = (q : Int) + 1 := rfl
      rw [e0] at HI k0 k1 k2 hmm ⊢
      have hts : strOfNums ((bytesOf (a0_1.extract 0 (q + 1))).set q (255 - (bytesOf (a0_1.extract 0 (q + 1))).getD q 0)) = T := by rw [← HTT.out];unfold tornB;rw [if_pos ⟨rfl,by rw [HZ.out];omega⟩,HZ.out];rfl
      have HTS := Aside0.mk hts
      have hq : (q : Int) ≤ 9223372036854775806 := by omega
      have hcr := bytesOf_range (a0_1.extract 0 (q + 1)) q
      obtain ⟨c,hc⟩ : ∃ c,(bytesOf (a0_1.extract 0 (q + 1))).getD q 0 = c := ⟨_,rfl⟩
      rw [hc] at hcr
      obtain ⟨hc_0,hc_1⟩ := hcr
      have HCC := Aside0.mk hc
      clear hts hc
      go_enter Tryd.func25,Tryd.ntmps25
      go_wp2_with (first
       | ((with_reducible refine gate_dst (N := 3) rfl ?_);refine box_event ?hg (N := 3) ?hd (cs := #[.string a0_0,.string a0_1,.int .i64 a0_2]) (t := 31) ?hr ?_;(case hd => rfl);(case hg => rfl);(case hr => first|(go_simp;done)|(go_simp;rfl));intro gb hg w6 hbox hb;have HB6 := Aside0.mk (below_step HB.out hb);have hc0 : w6.cell? ⟨gb,0,none⟩ = some (.string a0_0) := (blk_cell hbox 0).trans rfl;have hc1 : w6.cell? ⟨gb,1,none⟩ = some (.string a0_1) := (blk_cell hbox 1).trans rfl;have hc2 : w6.cell? ⟨gb,2,none⟩ = some (.int .i64 a0_2) := (blk_cell hbox 2).trans rfl;have HBK := Aside0.mk hbox;clear hb hbox hg)
       | (go_at_call 23;(with_reducible refine (impl_IsValidLog.calls k a0_0 a0_1 a0_2 true _ ?hg HT.out).mono ?_);(case hg => exact Gw.below HG.out HB6.out);rintro e w2 ⟨rfl,hb⟩;have HB2 := Aside0.mk (below_step HB6.out hb);have hbk2 := blk_below HBK.out hb;clear hb hc0 hc1 hc2;have hc1 : w2.cell? ⟨gb,1,none⟩ = some (.string a0_1) := (blk_cell hbk2 1).trans rfl;have hc0 : w2.cell? ⟨gb,0,none⟩ = some (.string a0_0) := (blk_cell hbk2 0).trans rfl;have HBK2 := Aside0.mk hbk2;clear hbk2)
       | (go_at_call 45;(with_reducible refine (impl_inside.calls ((q : Int) + 1) 0 (a0_1.size : Int) true _ HI.out).mono ?_);rintro e w' ⟨rfl,⟨nd,rfl⟩⟩;obtain ⟨g,cap,W1,hcv,HR⟩ := conv_ex (P := Tryd.prog) (w2.drewN nd) 9 53 5 (a0_1.extract 0 (q + 1)) Tryd.underlying9 Tryd.underlying53 Tryd.underlying5;rw [HZ.out] at hcv;have hd0 : W1.cell? ⟨gb,0,none⟩ = some (.string a0_0) := (blk_cell (blk_below (bN HBK2.out nd) HR.below) 0).trans rfl;have hn1 : gb ≠ g := (by have h1 := blk_lt (bN HBK2.out nd);have h2 := HR.new;intro e_;omega);have hn2 : g ≠ gb := hn1.symm;have hx := HR.cell q (by rw [HLEN.out];omega);have hfx := HR.free q (by rw [HLEN.out];omega);rw [HCC.out] at hx;have HS1 := HR.set q (255 - c);have ht := HS1.text 53 5 9 Tryd.underlying53 Tryd.underlying5 Tryd.underlying9 (q + 1) cap (by rw [List.length_set];exact HLEN.out);rw [← HCC.out,HTS.out,HCC.out] at ht;clear HS1;clear hc0;have HR := Aside0.mk HR))
      go_ret2
      exact ⟨rfl,Below.trans (lN HB2.out _) ((HR.out.set q (255 - c)).below.mono (by have := HB2.out.size;simp;omega))⟩
   ·rw [if_neg hs] at h
    cases h
  ·rw [if_neg hk] at h
   simp only [Option.some.injEq,Prod.mk.injEq] at h
   obtain ⟨rfl,rfl⟩ := h
   have hI : impl_inside.f a1 0 (a0_1.size : Int) = some false := by
    unfold impl_inside.f
    by_cases k0 : a1 ≥ 0
    ·rw [if_pos k0];simp;omega
    ·rw [if_neg k0]
   have HI := Aside0.mk hI
   have HK := Aside0.mk hk
   clear hI hk
   go_enter Tryd.func25,Tryd.ntmps25
   go_wp2_with (first
    | ((with_reducible refine gate_dst (N := 3) rfl ?_);refine box_event ?hg (N := 3) ?hd (cs := #[.string a0_0,.string a0_1,.int .i64 a0_2]) (t := 31) ?hr ?_;(case hd => rfl);(case hg => rfl);(case hr => first|(go_simp;done)|(go_simp;rfl));intro gb hg w6 hbox hb;have HB6 := Aside0.mk (below_step HB.out hb);have hc0 : w6.cell? ⟨gb,0,none⟩ = some (.string a0_0) := (blk_cell hbox 0).trans rfl;have hc1 : w6.cell? ⟨gb,1,none⟩ = some (.string a0_1) := (blk_cell hbox 1).trans rfl;have hc2 : w6.cell? ⟨gb,2,none⟩ = some (.int .i64 a0_2) := (blk_cell hbox 2).trans rfl;have HBK := Aside0.mk hbox;clear hb hbox hg)
    | (go_at_call 23;(with_reducible refine (impl_IsValidLog.calls k a0_0 a0_1 a0_2 true _ ?hg HT.out).mono ?_);(case hg => exact Gw.below HG.out HB6.out);rintro e w2 ⟨rfl,hb⟩;have HB2 := Aside0.mk (below_step HB6.out hb);have hbk2 := blk_below HBK.out hb;clear hb hc0 hc1 hc2;have hc1 : w2.cell? ⟨gb,1,none⟩ = some (.string a0_1) := (blk_cell hbk2 1).trans rfl;have hc0 : w2.cell? ⟨gb,0,none⟩ = some (.string a0_0) := (blk_cell hbk2 0).trans rfl;have HBK2 := Aside0.mk hbk2;clear hbk2)
    | (go_at_call 45;(with_reducible refine (impl_inside.calls a1 0 (a0_1.size : Int) false _ HI.out).mono ?_);rintro e w' ⟨rfl,⟨nd,rfl⟩⟩))
   go_ret2
   exact ⟨rfl,lN HB2.out _⟩
def laws_FnExactCrashLog.f (k : Nat) (a0_0 : ByteArray) (a0_1 : ByteArray) (a0_2 : Int) (a1 : Int) (a2 : Bool) : Option (Bool) := (laws_szLog.f a0_0 a0_1 a0_2 1048576).bind fun t224 => (if t224 < 0 then (some true) else ((laws_toLog.f a0_0 a0_1 a0_2).bind fun bt225 => ((spec_CrashLog.f k bt225.1 bt225.2.1 bt225.2.2 a1 a2).bind fun bt228 => ((laws_toLog.f a0_0 a0_1 a0_2).bind fun bt230 => ((impl_CrashLog.f k bt230.1 bt230.2.1 bt230.2.2 a1 a2).bind fun bt233 => (if bt233.1.toList = bt228.1.toList then (if (bt233.2 != bt228.2) = true then (some false) else (some true)) else (some false)))))))
theorem laws_FnExactCrashLog.mono : ∀ a0 a1 a2 a3 a4 k,LeO (laws_FnExactCrashLog.f k a0 a1 a2 a3 a4) (laws_FnExactCrashLog.f (k + 1) a0 a1 a2 a3 a4) := by
 intro a0 a1 a2 a3 a4 k
 unfold laws_FnExactCrashLog.f
 repeat' first
   | (with_reducible exact impl_CrashLog.mono _ _ _ _ _ _)
   | (with_reducible exact spec_CrashLog.mono _ _ _ _ _ _)
   | (with_reducible exact LeO.refl _)
   | (with_reducible exact LeO.none _)
   | (with_reducible refine LeO.ite ?_ ?_)
   | (with_reducible refine LeO.bind ?_ (fun _ => ?_))
   | exact impl_CrashLog.mono _ _ _ _ _ _
   | exact spec_CrashLog.mono _ _ _ _ _ _
   | exact LeO.none _
   | refine LeO.ite ?_ ?_
   | refine LeO.bind ?_ (fun _ => ?_)
set_option maxHeartbeats 8000000 in
set_option maxRecDepth 100000 in
theorem laws_FnExactCrashLog.calls (k : Nat) (a0_0 : ByteArray) (a0_1 : ByteArray) (a0_2 : Int) (a1 : Int) (a2 : Bool) (r : Bool) (w : World) (hG : Gw w) (hr_ : r = true) (h : laws_FnExactCrashLog.f k a0_0 a0_1 a0_2 a1 a2 = some r) :
  Calls Tryd.prog 6 #[.agg #[.string a0_0,.string a0_1,.int .i64 a0_2],.int .i64 a1,.bool a2] w fun e w' => e = .returned (.bool r) ∧ Below w.heap.size w w' := by
 have hu36 := Tryd.underlying36
 have HB := Aside0.mk (Below.refl w.heap.size w)
 have HG := Aside0.mk hG
 clear hG
 have H : ((laws_szLog.f a0_0 a0_1 a0_2 1048576).bind fun t224 => (if t224 < 0 then (some true) else ((laws_toLog.f a0_0 a0_1 a0_2).bind fun bt225 => ((spec_CrashLog.f k bt225.1 bt225.2.1 bt225.2.2 a1 a2).bind fun bt228 => ((laws_toLog.f a0_0 a0_1 a0_2).bind fun bt230 => ((impl_CrashLog.f k bt230.1 bt230.2.1 bt230.2.2 a1 a2).bind fun bt233 => (if bt233.1.toList = bt228.1.toList then (if (bt233.2 != bt228.2) = true then (some false) else (some true)) else (some false)))))))) = some r := h
 clear h
 replace H := Option.bind_eq_some_iff.mp H
 obtain ⟨t224,A40,H⟩ := H
 replace H : (if t224 < 0 then (some true) else ((laws_toLog.f a0_0 a0_1 a0_2).bind fun bt225 => ((spec_CrashLog.f k bt225.1 bt225.2.1 bt225.2.2 a1 a2).bind fun bt228 => ((laws_toLog.f a0_0 a0_1 a0_2).bind fun bt230 => ((impl_CrashLog.f k bt230.1 bt230.2.1 bt230.2.2 a1 a2).bind fun bt233 => (if bt233.1.toList = bt228.1.toList then (if (bt233.2 != bt228.2) = true then (some false) else (some true)) else (some false))))))) = some r := H
 have A4 := Aside0.mk A40
 clear A40
 by_cases c5 : t224 < 0
 ·rw [if_pos c5] at H
  have c5b0 : decide (t224 < 0) = true := decide_eq_true c5
  clear c5
  obtain rfl := Option.some.inj H
  try clear hr_
  go_enter Tryd.func6,Tryd.ntmps6
  go_wp2_with (first|((with_reducible refine gate_dst (N := 3) rfl ?_);refine box_event ?hg (N := 3) ?hd (cs := #[.string a0_0,.string a0_1,.int .i64 a0_2]) (t := 36) ?hr ?_;(case hd => rfl);(case hg => rfl);(case hr => first|(go_simp;done)|(go_simp;rfl));intro gb223 hg w6 hbox hb;have n0_ := Aside0.mk (below_step (by repeat (first|(with_reducible first|exact HB.out|apply lA|apply lN|apply lD)|exact HB.out)) hb);have n1_ := Aside0.mk (hbox);have n2_ := Aside0.mk ((by rw [hg];exact (below_size (by repeat (first|(with_reducible first|exact HB.out|apply lA|apply lN|apply lD)|exact HB.out))) : w.heap.size ≤ gb223));have n3_ := Aside0.mk ((by rw [hg];exact (below_size (by repeat (first|(with_reducible first|exact HB.out|apply lA|apply lN|apply lD)|exact HB.out))) : w.heap.size ≤ gb223));clear HB;have HB := n0_;have BK223 := n1_;have GW223 := n2_;have GE223 := n3_;clear n0_ n1_ n2_ n3_;clear hb hbox hg;have hcz7_0 : w6.cell? ⟨gb223,0,none⟩ = some (.string a0_0) := (blk_cell BK223.out 0).trans rfl;have hcz7_1 : w6.cell? ⟨gb223,1,none⟩ = some (.string a0_1) := (blk_cell BK223.out 1).trans rfl;have hcz7_2 : w6.cell? ⟨gb223,2,none⟩ = some (.int .i64 a0_2) := (blk_cell BK223.out 2).trans rfl;have hfz7_0 := blk_frozen BK223.out 0;have hfz7_1 := blk_frozen BK223.out 1;have hfz7_2 := blk_frozen BK223.out 2)|((with_reducible refine gate_callee (f := 20) rfl ?_);refine goesL_ (some 14) rfl rfl Tryd.func20 (by kernel_rfl) rfl #[.agg #[.string a0_0,.string a0_1,.int .i64 a0_2],.int .i64 1048576] rfl (by (try simp only [List.map_toArray,List.map_cons,List.map_nil]);first|done|rfl|(simp only [List.length_drop,List.length_take];rfl)) ?_;(with_reducible refine (laws_szLog.calls a0_0 a0_1 a0_2 1048576 t224 _ A4.out).mono ?_);rintro e w8 ⟨rfl,hb⟩;refine ⟨_,rfl,?_⟩;have n0_ := Aside0.mk (blk_below (g := gb223) (o := .cells #[.string a0_0,.string a0_1,.int .i64 a0_2] 36 (0,0)) (by (with_reducible repeat (first|refine bN ?_ _|refine bD ?_|refine bA ?_ _));exact BK223.out) hb);have n1_ := Aside0.mk (below_step (by repeat (first|(with_reducible first|exact HB.out|apply lA|apply lN|apply lD|refine below_set ?_ GE223.out)|exact HB.out)) hb);clear BK223;clear HB;have BK223 := n0_;have HB := n1_;clear n0_ n1_;(try clear hb);(try clear hb2);(try clear hk);(try clear hi)))
  go_ret
  exact ⟨by first|rfl|(simp [errW_none,errW_some] <;> rfl)|(simp [*,errW_none,errW_some] <;> rfl),by repeat (first|(with_reducible first|exact HB.out|apply lA|apply lN|apply lD|refine below_set ?_ GE223.out)|exact HB.out)⟩
 ·rw [if_neg c5] at H
  have c5b0 : decide (t224 < 0) = false := decide_eq_false c5
  clear c5
  replace H := Option.bind_eq_some_iff.mp H
  obtain ⟨⟨t225,t226,t227⟩,A90,H⟩ := H
  replace H : ((spec_CrashLog.f k t225 t226 t227 a1 a2).bind fun bt228 => ((laws_toLog.f a0_0 a0_1 a0_2).bind fun bt230 => ((impl_CrashLog.f k bt230.1 bt230.2.1 bt230.2.2 a1 a2).bind fun bt233 => (if bt233.1.toList = bt228.1.toList then (if (bt233.2 != bt228.2) = true then (some false) else (some true)) else (some false))))) = some r := H
  have A9 := Aside0.mk A90
  clear A90
  replace H := Option.bind_eq_some_iff.mp H
  obtain ⟨⟨t228,t229⟩,A100,H⟩ := H
  replace H : ((laws_toLog.f a0_0 a0_1 a0_2).bind fun bt230 => ((impl_CrashLog.f k bt230.1 bt230.2.1 bt230.2.2 a1 a2).bind fun bt233 => (if bt233.1.toList = t228.toList then (if (bt233.2 != t229) = true then (some false) else (some true)) else (some false)))) = some r := H
  have A10 := Aside0.mk A100
  clear A100
  replace H := Option.bind_eq_some_iff.mp H
  obtain ⟨⟨t230,t231,t232⟩,A110,H⟩ := H
  replace H : ((impl_CrashLog.f k t230 t231 t232 a1 a2).bind fun bt233 => (if bt233.1.toList = t228.toList then (if (bt233.2 != t229) = true then (some false) else (some true)) else (some false))) = some r := H
  have A11 := Aside0.mk A110
  clear A110
  replace H := Option.bind_eq_some_iff.mp H
  obtain ⟨⟨t233,t234⟩,A120,H⟩ := H
  replace H : (if t233.toList = t228.toList then (if (t234 != t229) = true then (some false) else (some true)) else (some false)) = some r := H
  have A12 := Aside0.mk A120
  clear A120
  by_cases c13 : t233.toList = t228.toList
  ·rw [if_pos c13] at H
   have c13b0 : (t233.toList == t228.toList) = true := beq_iff_eq.mpr c13
   have c13b1 : (t233.toList != t228.toList) = false := bne_eq_false_iff_eq.mpr c13
   clear c13
   by_cases c14 : (t234 != t229) = true
   ·rw [if_pos c14] at H
    have c14b0 : (t234 != t229) = true := c14
    (try (have c14b1 : decide (t234 = t229) = false := by simpa using c14))
    (try (have c14b2 : (t234 == t229) = false := by simpa using c14))
    (try (have c14b3 : ¬ (t234 = t229) := by simpa using c14))
    clear c14
    exact absurd ((Option.some.inj H).trans hr_) (by decide)
   ·rw [if_neg c14] at H
    have c14b0 : (t234 != t229) = false := by simpa using c14
    (try (have c14b1 : decide (t234 = t229) = true := by simpa using c14))
    (try (have c14b2 : (t234 == t229) = true := by simpa using c14))
    clear c14
    obtain rfl := Option.some.inj H
    try clear hr_
    go_enter Tryd.func6,Tryd.ntmps6
    go_wp2_with (first|((with_reducible refine gate_dst (N := 3) rfl ?_);refine box_event ?hg (N := 3) ?hd (cs := #[.string a0_0,.string a0_1,.int .i64 a0_2]) (t := 36) ?hr ?_;(case hd => rfl);(case hg => rfl);(case hr => first|(go_simp;done)|(go_simp;rfl));intro gb223 hg w15 hbox hb;have n0_ := Aside0.mk (below_step (by repeat (first|(with_reducible first|exact HB.out|apply lA|apply lN|apply lD)|exact HB.out)) hb);have n1_ := Aside0.mk (hbox);have n2_ := Aside0.mk ((by rw [hg];exact (below_size (by repeat (first|(with_reducible first|exact HB.out|apply lA|apply lN|apply lD)|exact HB.out))) : w.heap.size ≤ gb223));have n3_ := Aside0.mk ((by rw [hg];exact (below_size (by repeat (first|(with_reducible first|exact HB.out|apply lA|apply lN|apply lD)|exact HB.out))) : w.heap.size ≤ gb223));clear HB;have HB := n0_;have BK223 := n1_;have GW223 := n2_;have GE223 := n3_;clear n0_ n1_ n2_ n3_;clear hb hbox hg;have hcz16_0 : w15.cell? ⟨gb223,0,none⟩ = some (.string a0_0) := (blk_cell BK223.out 0).trans rfl;have hcz16_1 : w15.cell? ⟨gb223,1,none⟩ = some (.string a0_1) := (blk_cell BK223.out 1).trans rfl;have hcz16_2 : w15.cell? ⟨gb223,2,none⟩ = some (.int .i64 a0_2) := (blk_cell BK223.out 2).trans rfl;have hfz16_0 := blk_frozen BK223.out 0;have hfz16_1 := blk_frozen BK223.out 1;have hfz16_2 := blk_frozen BK223.out 2)|((with_reducible refine gate_callee (f := 20) rfl ?_);refine goesL_ (some 14) rfl rfl Tryd.func20 (by kernel_rfl) rfl #[.agg #[.string a0_0,.string a0_1,.int .i64 a0_2],.int .i64 1048576] rfl (by (try simp only [List.map_toArray,List.map_cons,List.map_nil]);first|done|rfl|(simp only [List.length_drop,List.length_take];rfl)) ?_;(with_reducible refine (laws_szLog.calls a0_0 a0_1 a0_2 1048576 t224 _ A4.out).mono ?_);rintro e w17 ⟨rfl,hb⟩;refine ⟨_,rfl,?_⟩;have n0_ := Aside0.mk (blk_below (g := gb223) (o := .cells #[.string a0_0,.string a0_1,.int .i64 a0_2] 36 (0,0)) (by (with_reducible repeat (first|refine bN ?_ _|refine bD ?_|refine bA ?_ _));exact BK223.out) hb);have n1_ := Aside0.mk (below_step (by repeat (first|(with_reducible first|exact HB.out|apply lA|apply lN|apply lD|refine below_set ?_ GE223.out)|exact HB.out)) hb);clear BK223;clear HB;have BK223 := n0_;have HB := n1_;clear n0_ n1_;(try clear hb);(try clear hb2);(try clear hk);(try clear hi);have hcz18_0 : w17.cell? ⟨gb223,0,none⟩ = some (.string a0_0) := (blk_cell BK223.out 0).trans rfl;have hcz18_1 : w17.cell? ⟨gb223,1,none⟩ = some (.string a0_1) := (blk_cell BK223.out 1).trans rfl;have hcz18_2 : w17.cell? ⟨gb223,2,none⟩ = some (.int .i64 a0_2) := (blk_cell BK223.out 2).trans rfl;have hfz18_0 := blk_frozen BK223.out 0;have hfz18_1 := blk_frozen BK223.out 1;have hfz18_2 := blk_frozen BK223.out 2)|((with_reducible refine gate_callee (f := 22) rfl ?_);refine goesL_ (some 19) rfl rfl Tryd.func22 (by kernel_rfl) rfl #[.agg #[.string a0_0,.string a0_1,.int .i64 a0_2]] rfl (by (try simp only [List.map_toArray,List.map_cons,List.map_nil]);first|done|rfl|(simp only [List.length_drop,List.length_take];rfl)) ?_;(with_reducible refine (laws_toLog.calls a0_0 a0_1 a0_2 t225 t226 t227 _ A9.out).mono ?_);rintro e w19 ⟨rfl,hb⟩;refine ⟨_,rfl,?_⟩;have n0_ := Aside0.mk (blk_below (g := gb223) (o := .cells #[.string a0_0,.string a0_1,.int .i64 a0_2] 36 (0,0)) (by (with_reducible repeat (first|refine bN ?_ _|refine bD ?_|refine bA ?_ _));exact BK223.out) hb);have n1_ := Aside0.mk (below_step (by repeat (first|(with_reducible first|exact HB.out|apply lA|apply lN|apply lD|refine below_set ?_ GE223.out)|exact HB.out)) hb);clear BK223;clear HB;have BK223 := n0_;have HB := n1_;clear n0_ n1_;(try clear hb);(try clear hb2);(try clear hk);(try clear hi))|((with_reducible refine gate_callee (f := 24) rfl ?_);refine goesL_ (some 22) rfl rfl Tryd.func24 (by kernel_rfl) rfl #[.agg #[.string t225,.string t226,.int .i64 t227],.int .i64 a1,.bool a2] rfl (by (try simp only [List.map_toArray,List.map_cons,List.map_nil]);first|done|rfl|(simp only [List.length_drop,List.length_take];rfl)) ?_;(with_reducible refine (spec_CrashLog.calls k t225 t226 t227 a1 a2 t228 t229 _ A10.out).mono ?_);rintro e w20 ⟨rfl,hb⟩;refine ⟨_,rfl,?_⟩;have n0_ := Aside0.mk (blk_below (g := gb223) (o := .cells #[.string a0_0,.string a0_1,.int .i64 a0_2] 36 (0,0)) (by (with_reducible repeat (first|refine bN ?_ _|refine bD ?_|refine bA ?_ _));exact BK223.out) hb);have n1_ := Aside0.mk (below_step (by repeat (first|(with_reducible first|exact HB.out|apply lA|apply lN|apply lD|refine below_set ?_ GE223.out)|exact HB.out)) hb);clear BK223;clear HB;have BK223 := n0_;have HB := n1_;clear n0_ n1_;(try clear hb);(try clear hb2);(try clear hk);(try clear hi);have hcz21_0 : w20.cell? ⟨gb223,0,none⟩ = some (.string a0_0) := (blk_cell BK223.out 0).trans rfl;have hcz21_1 : w20.cell? ⟨gb223,1,none⟩ = some (.string a0_1) := (blk_cell BK223.out 1).trans rfl;have hcz21_2 : w20.cell? ⟨gb223,2,none⟩ = some (.int .i64 a0_2) := (blk_cell BK223.out 2).trans rfl;have hfz21_0 := blk_frozen BK223.out 0;have hfz21_1 := blk_frozen BK223.out 1;have hfz21_2 := blk_frozen BK223.out 2)|((with_reducible refine gate_callee (f := 22) rfl ?_);refine goesL_ (some 27) rfl rfl Tryd.func22 (by kernel_rfl) rfl #[.agg #[.string a0_0,.string a0_1,.int .i64 a0_2]] rfl (by (try simp only [List.map_toArray,List.map_cons,List.map_nil]);first|done|rfl|(simp only [List.length_drop,List.length_take];rfl)) ?_;(with_reducible refine (laws_toLog.calls a0_0 a0_1 a0_2 t230 t231 t232 _ A11.out).mono ?_);rintro e w22 ⟨rfl,hb⟩;refine ⟨_,rfl,?_⟩;have n0_ := Aside0.mk (blk_below (g := gb223) (o := .cells #[.string a0_0,.string a0_1,.int .i64 a0_2] 36 (0,0)) (by (with_reducible repeat (first|refine bN ?_ _|refine bD ?_|refine bA ?_ _));exact BK223.out) hb);have n1_ := Aside0.mk (below_step (by repeat (first|(with_reducible first|exact HB.out|apply lA|apply lN|apply lD|refine below_set ?_ GE223.out)|exact HB.out)) hb);clear BK223;clear HB;have BK223 := n0_;have HB := n1_;clear n0_ n1_;(try clear hb);(try clear hb2);(try clear hk);(try clear hi))|((with_reducible refine gate_callee (f := 25) rfl ?_);refine goesL_ (some 30) rfl rfl Tryd.func25 (by kernel_rfl) rfl #[.agg #[.string t230,.string t231,.int .i64 t232],.int .i64 a1,.bool a2] rfl (by (try simp only [List.map_toArray,List.map_cons,List.map_nil]);first|done|rfl|(simp only [List.length_drop,List.length_take];rfl)) ?_;(with_reducible refine (impl_CrashLog.calls k t230 t231 t232 a1 a2 t233 t234 _ ?side1 A12.out).mono ?_);(case side1 => exact Gw.below HG.out (by repeat (first|(with_reducible first|exact HB.out|apply lA|apply lN|apply lD|refine below_set ?_ GE223.out)|exact HB.out)));rintro e w23 ⟨rfl,hb⟩;refine ⟨_,rfl,?_⟩;have n0_ := Aside0.mk (blk_below (g := gb223) (o := .cells #[.string a0_0,.string a0_1,.int .i64 a0_2] 36 (0,0)) (by (with_reducible repeat (first|refine bN ?_ _|refine bD ?_|refine bA ?_ _));exact BK223.out) hb);have n1_ := Aside0.mk (below_step (by repeat (first|(with_reducible first|exact HB.out|apply lA|apply lN|apply lD|refine below_set ?_ GE223.out)|exact HB.out)) hb);clear BK223;clear HB;have BK223 := n0_;have HB := n1_;clear n0_ n1_;(try clear hb);(try clear hb2);(try clear hk);(try clear hi)))
    go_ret
    exact ⟨by first|rfl|(simp [errW_none,errW_some] <;> rfl)|(simp [*,errW_none,errW_some] <;> rfl),by repeat (first|(with_reducible first|exact HB.out|apply lA|apply lN|apply lD|refine below_set ?_ GE223.out)|exact HB.out)⟩
  ·rw [if_neg c13] at H
   have c13b0 : (t233.toList == t228.toList) = false := beq_eq_false_iff_ne.mpr c13
   have c13b1 : (t233.toList != t228.toList) = true := bne_iff_ne.mpr c13
   exact absurd ((Option.some.inj H).trans hr_) (by decide)
def laws_FnExactCrashLog.Pure : Prop := ∀ (a0 : S36) (a1 : Int) (a2 : Bool),(B36 a0) → ((Lit.int .i64 a1).wf = true) → ∃ k,laws_FnExactCrashLog.f k a0.f0 a0.f1 a0.f2 a1 a2 = some true
def impl_RecoverLog.f (k : Nat) (a0 : ByteArray) : Option (ByteArray × ByteArray × Int × Int × Bool) := if (a0.size : Int) > 30000 then (some ((⟨#[]⟩ : ByteArray),(⟨#[]⟩ : ByteArray),0,0,false)) else ((impl_readRecords.f k a0).bind fun bt236 => (if 0 ≤ (bt236.1.length : Int) then (if (bt236.1.length : Int) < (bt236.2.length : Int) then (if 0 ≤ (rd bt236.2 (bt236.1.length : Int)) then (if (rd bt236.2 (bt236.1.length : Int)) ≤ (a0.size : Int) then (some (a0.extract 0 ((rd bt236.2 (bt236.1.length : Int)) : Int).toNat,(⟨#[]⟩ : ByteArray),(bt236.1.length : Int),rd bt236.2 (bt236.1.length : Int),true)) else (none)) else (none)) else (none)) else (none)))
theorem impl_RecoverLog.mono : ∀ a0 k,LeO (impl_RecoverLog.f k a0) (impl_RecoverLog.f (k + 1) a0) := by
 intro a0 k
 unfold impl_RecoverLog.f
 repeat' first
   | (with_reducible exact impl_readRecords.mono _ _)
   | (with_reducible exact LeO.refl _)
   | (with_reducible exact LeO.none _)
   | (with_reducible refine LeO.ite ?_ ?_)
   | (with_reducible refine LeO.bind ?_ (fun _ => ?_))
   | exact impl_readRecords.mono _ _
   | exact LeO.none _
   | refine LeO.ite ?_ ?_
   | refine LeO.bind ?_ (fun _ => ?_)
set_option maxHeartbeats 8000000 in
set_option maxRecDepth 100000 in
theorem impl_RecoverLog.calls (k : Nat) (a0 : ByteArray) (r1 : ByteArray) (r2 : ByteArray) (r3 : Int) (r4 : Int) (r5 : Bool) (w : World) (hG : Gw w) (h : impl_RecoverLog.f k a0 = some (r1,r2,r3,r4,r5)) :
  Calls Tryd.prog 18 #[.string a0] w fun e w' => e = .returned (.tuple #[.agg #[.string r1,.string r2,.int .i64 r3],.int .i64 r4,.bool r5]) ∧ Below w.heap.size w w' := by
 have hu31 := Tryd.underlying31
 have HB := Aside0.mk (Below.refl w.heap.size w)
 have HG := Aside0.mk hG
 clear hG
 have H : (if (a0.size : Int) > 30000 then (some ((⟨#[]⟩ : ByteArray),(⟨#[]⟩ : ByteArray),0,0,false)) else ((impl_readRecords.f k a0).bind fun bt236 => (if 0 ≤ (bt236.1.length : Int) then (if (bt236.1.length : Int) < (bt236.2.length : Int) then (if 0 ≤ (rd bt236.2 (bt236.1.length : Int)) then (if (rd bt236.2 (bt236.1.length : Int)) ≤ (a0.size : Int) then (some (a0.extract 0 ((rd bt236.2 (bt236.1.length : Int)) : Int).toNat,(⟨#[]⟩ : ByteArray),(bt236.1.length : Int),rd bt236.2 (bt236.1.length : Int),true)) else (none)) else (none)) else (none)) else (none)))) = some (r1,r2,r3,r4,r5) := h
 clear h
 by_cases c2 : (a0.size : Int) > 30000
 ·rw [if_pos c2] at H
  have c2b0 : decide (30000 < (a0.size : Int)) = true := decide_eq_true c2
  have c2b1 : decide (30000 < a0.size) = true := decide_eq_true (by omega)
  clear c2
  simp only [Option.some.injEq,Prod.mk.injEq] at H
  obtain ⟨rfl,rfl,rfl,rfl,rfl⟩ := H
  go_enter Tryd.func18,Tryd.ntmps18
  go_wp2_with (first|((with_reducible refine gate_dst (N := 2) rfl ?_);refine box_event ?hg (N := 2) ?hd (cs := #[.string (⟨#[]⟩ : ByteArray),.string (⟨#[]⟩ : ByteArray),.int .i64 0]) (t := 31) ?hr ?_;(case hd => rfl);(case hg => rfl);(case hr => first|(go_simp;done)|(go_simp;rfl));intro gb235 hg w3 hbox hb;have n0_ := Aside0.mk (below_step (by repeat (first|(with_reducible first|exact HB.out|apply lA|apply lN|apply lD)|exact HB.out)) hb);have n1_ := Aside0.mk (hbox);have n2_ := Aside0.mk ((by rw [hg];exact (below_size (by repeat (first|(with_reducible first|exact HB.out|apply lA|apply lN|apply lD)|exact HB.out))) : w.heap.size ≤ gb235));have n3_ := Aside0.mk ((by rw [hg];exact (below_size (by repeat (first|(with_reducible first|exact HB.out|apply lA|apply lN|apply lD)|exact HB.out))) : w.heap.size ≤ gb235));clear HB;have HB := n0_;have BK235 := n1_;have GW235 := n2_;have GE235 := n3_;clear n0_ n1_ n2_ n3_;clear hb hbox hg;have hcz4_0 : w3.cell? ⟨gb235,0,none⟩ = some (.string (⟨#[]⟩ : ByteArray)) := (blk_cell BK235.out 0).trans rfl;have hcz4_1 : w3.cell? ⟨gb235,1,none⟩ = some (.string (⟨#[]⟩ : ByteArray)) := (blk_cell BK235.out 1).trans rfl;have hcz4_2 : w3.cell? ⟨gb235,2,none⟩ = some (.int .i64 0) := (blk_cell BK235.out 2).trans rfl;have hfz4_0 := blk_frozen BK235.out 0;have hfz4_1 := blk_frozen BK235.out 1;have hfz4_2 := blk_frozen BK235.out 2))
  refine bodyPost_ret (results_ctt rfl _ _ gb235 31 #[.string (⟨#[]⟩ : ByteArray),.string (⟨#[]⟩ : ByteArray),.int .i64 0] (0,0) _ rfl (by (with_reducible repeat (first|refine bN ?_ _|refine bD ?_|refine bA ?_ _));refine blk_put (cs := #[.string (⟨#[]⟩ : ByteArray),.string (⟨#[]⟩ : ByteArray),.int .i64 0]) ?_ 2 _ rfl;(with_reducible repeat (first|refine bN ?_ _|refine bD ?_|refine bA ?_ _));refine blk_put (cs := #[.string (⟨#[]⟩ : ByteArray),.string (⟨#[]⟩ : ByteArray),.int .i64 0]) ?_ 1 _ rfl;(with_reducible repeat (first|refine bN ?_ _|refine bD ?_|refine bA ?_ _));refine blk_put (cs := #[.string (⟨#[]⟩ : ByteArray),.string (⟨#[]⟩ : ByteArray),.int .i64 0]) ?_ 0 _ rfl;(with_reducible repeat (first|refine bN ?_ _|refine bD ?_|refine bA ?_ _));exact BK235.out) Tryd.underlying31 rfl (by kernel_rfl)) rfl ?_
  exact ⟨by first|rfl|(simp [errW_none,errW_some] <;> rfl)|(simp [*,errW_none,errW_some] <;> rfl),by repeat (first|(with_reducible first|exact HB.out|apply lA|apply lN|apply lD|refine below_set ?_ GE235.out)|exact HB.out)⟩
 ·rw [if_neg c2] at H
  have c2b0 : decide (30000 < (a0.size : Int)) = false := decide_eq_false c2
  have c2b1 : decide (30000 < a0.size) = false := decide_eq_false (by omega)
  clear c2
  replace H := Option.bind_eq_some_iff.mp H
  obtain ⟨⟨t236,t237⟩,A50,H⟩ := H
  replace H : (if 0 ≤ (t236.length : Int) then (if (t236.length : Int) < (t237.length : Int) then (if 0 ≤ (rd t237 (t236.length : Int)) then (if (rd t237 (t236.length : Int)) ≤ (a0.size : Int) then (some (a0.extract 0 ((rd t237 (t236.length : Int)) : Int).toNat,(⟨#[]⟩ : ByteArray),(t236.length : Int),rd t237 (t236.length : Int),true)) else (none)) else (none)) else (none)) else (none)) = some (r1,r2,r3,r4,r5) := H
  have A5 := Aside0.mk A50
  clear A50
  by_cases c6 : 0 ≤ (t236.length : Int)
  ·rw [if_pos c6] at H
   have c6b0 : decide (0 ≤ (t236.length : Int)) = true := decide_eq_true c6
   have c6b1 : decide (0 ≤ t236.length) = true := decide_eq_true (by omega)
   clear c6
   by_cases c7 : (t236.length : Int) < (t237.length : Int)
   ·rw [if_pos c7] at H
    have c7b0 : decide ((t236.length : Int) < (t237.length : Int)) = true := decide_eq_true c7
    have c7b1 : decide (t236.length < t237.length) = true := decide_eq_true (Int.ofNat_lt.mp c7)
    clear c7
    by_cases c8 : 0 ≤ (rd t237 (t236.length : Int))
    ·rw [if_pos c8] at H
     have c8b0 := eq_true c8
     have c8b1 : decide (0 ≤ (rd t237 (t236.length : Int))) = true := decide_eq_true c8
     clear c8
     by_cases c9 : (rd t237 (t236.length : Int)) ≤ (a0.size : Int)
     ·rw [if_pos c9] at H
      have c9b0 := eq_true c9
      have c9b1 : decide ((rd t237 (t236.length : Int)) ≤ (a0.size : Int)) = true := decide_eq_true c9
      clear c9
      simp only [Option.some.injEq,Prod.mk.injEq] at H
      obtain ⟨rfl,rfl,rfl,rfl,rfl⟩ := H
      go_enter Tryd.func18,Tryd.ntmps18
      go_wp2_with (first|((with_reducible refine gate_dst (N := 2) rfl ?_);refine box_event ?hg (N := 2) ?hd (cs := #[.string (⟨#[]⟩ : ByteArray),.string (⟨#[]⟩ : ByteArray),.int .i64 0]) (t := 31) ?hr ?_;(case hd => rfl);(case hg => rfl);(case hr => first|(go_simp;done)|(go_simp;rfl));intro gb235 hg w10 hbox hb;have n0_ := Aside0.mk (below_step (by repeat (first|(with_reducible first|exact HB.out|apply lA|apply lN|apply lD)|exact HB.out)) hb);have n1_ := Aside0.mk (hbox);have n2_ := Aside0.mk ((by rw [hg];exact (below_size (by repeat (first|(with_reducible first|exact HB.out|apply lA|apply lN|apply lD)|exact HB.out))) : w.heap.size ≤ gb235));have n3_ := Aside0.mk ((by rw [hg];exact (below_size (by repeat (first|(with_reducible first|exact HB.out|apply lA|apply lN|apply lD)|exact HB.out))) : w.heap.size ≤ gb235));clear HB;have HB := n0_;have BK235 := n1_;have GW235 := n2_;have GE235 := n3_;clear n0_ n1_ n2_ n3_;clear hb hbox hg)|((with_reducible refine gate_callee (f := 48) rfl ?_);refine goesL_ (some 14) rfl rfl Tryd.func48 (by kernel_rfl) rfl #[.string a0] rfl (by (try simp only [List.map_toArray,List.map_cons,List.map_nil]);first|done|rfl|(simp only [List.length_drop,List.length_take];rfl)) ?_;(with_reducible refine (impl_readRecords.calls k a0 t236 t237 _ ?side1 A5.out).mono ?_);(case side1 => exact Gw.below HG.out (by repeat (first|(with_reducible first|exact HB.out|apply lA|apply lN|apply lD|refine below_set ?_ GE235.out)|exact HB.out)));rintro e w11 ⟨v238,v240,rfl,ho0,ho1,hb⟩;refine ⟨_,rfl,?_⟩;have n0_ := Aside0.mk (Kd.R_lower ho0 (below_size (by repeat (first|(with_reducible first|exact HB.out|apply lA|apply lN|apply lD|refine below_set ?_ GE235.out)|exact HB.out))));have n1_ := Aside0.mk (Kd.R_lower ho1 (below_size (by repeat (first|(with_reducible first|exact HB.out|apply lA|apply lN|apply lD|refine below_set ?_ GE235.out)|exact HB.out))));have n2_ := Aside0.mk (blk_below (g := gb235) (o := .cells #[.string (⟨#[]⟩ : ByteArray),.string (⟨#[]⟩ : ByteArray),.int .i64 0] 31 (0,0)) (by (with_reducible repeat (first|refine bN ?_ _|refine bD ?_|refine bA ?_ _));exact BK235.out) hb);have n3_ := Aside0.mk (below_step (by repeat (first|(with_reducible first|exact HB.out|apply lA|apply lN|apply lD|refine below_set ?_ GE235.out)|exact HB.out)) hb);clear BK235;clear HB;have HO239 := n0_;have HO241 := n1_;have BK235 := n2_;have HB := n3_;clear n0_ n1_ n2_ n3_;(try clear hb);(try clear hb2);(try clear hk);(try clear hi);(try clear ho0);(try clear ho1);obtain ⟨Ao12,co12,eo12⟩ := Kd.R_slice HO239.out;subst eo12;obtain ⟨Ao13,co13,eo13⟩ := Kd.R_slice HO241.out;subst eo13;have p242 : 0 ≤ ((t236.length : Int) : Int) := of_decide_eq_true (by first|(with_reducible assumption)|assumption);have q242 : (t236.length : Int) < (t237.length : Int) := of_decide_eq_true (by first|(with_reducible assumption)|assumption);obtain ⟨ad242,e242,hx242_0⟩ := Kd.at_int (Kd.R_reads' HO241.out).2.2 (t236.length : Int) p242 q242;cases e242;(try simp only [Go.IntWalk.toNatUp] at hx242_0);replace p242 := eq_true p242;replace q242 := eq_true q242;have hcz14_0 : w11.cell? ⟨gb235,0,none⟩ = some (.string (⟨#[]⟩ : ByteArray)) := (blk_cell BK235.out 0).trans rfl;have hcz14_1 : w11.cell? ⟨gb235,1,none⟩ = some (.string (⟨#[]⟩ : ByteArray)) := (blk_cell BK235.out 1).trans rfl;have hcz14_2 : w11.cell? ⟨gb235,2,none⟩ = some (.int .i64 0) := (blk_cell BK235.out 2).trans rfl;have hfz14_0 := blk_frozen BK235.out 0;have hfz14_1 := blk_frozen BK235.out 1;have hfz14_2 := blk_frozen BK235.out 2))
      refine bodyPost_ret (results_ctt rfl _ _ gb235 31 #[.string (a0.extract 0 ((rd t237 (t236.length : Int)) : Int).toNat),.string (⟨#[]⟩ : ByteArray),.int .i64 (t236.length : Int)] (0,0) _ rfl (by (with_reducible repeat (first|refine bN ?_ _|refine bD ?_|refine bA ?_ _));refine blk_put (cs := #[.string (a0.extract 0 ((rd t237 (t236.length : Int)) : Int).toNat),.string (⟨#[]⟩ : ByteArray),.int .i64 0]) ?_ 2 _ rfl;(with_reducible repeat (first|refine bN ?_ _|refine bD ?_|refine bA ?_ _));refine blk_put (cs := #[.string (a0.extract 0 ((rd t237 (t236.length : Int)) : Int).toNat),.string (⟨#[]⟩ : ByteArray),.int .i64 0]) ?_ 1 _ rfl;(with_reducible repeat (first|refine bN ?_ _|refine bD ?_|refine bA ?_ _));refine blk_put (cs := #[.string (⟨#[]⟩ : ByteArray),.string (⟨#[]⟩ : ByteArray),.int .i64 0]) ?_ 0 _ rfl;(with_reducible repeat (first|refine bN ?_ _|refine bD ?_|refine bA ?_ _));exact BK235.out) Tryd.underlying31 rfl (by kernel_rfl)) rfl ?_
      exact ⟨by first|rfl|(simp [errW_none,errW_some] <;> rfl)|(simp [*,errW_none,errW_some] <;> rfl),by repeat (first|(with_reducible first|exact HB.out|apply lA|apply lN|apply lD|refine below_set ?_ GE235.out)|exact HB.out)⟩
     ·rw [if_neg c9] at H
      exact absurd H (by simp)
    ·rw [if_neg c8] at H
     exact absurd H (by simp)
   ·rw [if_neg c7] at H
    exact absurd H (by simp)
  ·rw [if_neg c6] at H
   exact absurd H (by simp)
def spec_LogRecords.f (k : Nat) (a0_0 : ByteArray) (a0_1 : ByteArray) (a0_2 : Int) : Option ((List (S27)) × Bool) := (spec_l26Log.f k a0_0 a0_1 a0_2).bind fun t244 => (if t244 = true then (if a0_0.size + a0_1.size ≤ 9223372036854775807 then ((spec_l26Open.f k (a0_0 ++ a0_1)).bind fun bt245 => (some (bt245.1,true))) else (none)) else (some ((([] : List (S27))),false)))
theorem spec_LogRecords.mono : ∀ a0 a1 a2 k,LeO (spec_LogRecords.f k a0 a1 a2) (spec_LogRecords.f (k + 1) a0 a1 a2) := by
 intro a0 a1 a2 k
 unfold spec_LogRecords.f
 repeat' first
   | (with_reducible exact spec_l26Log.mono _ _ _ _)
   | (with_reducible exact spec_l26Open.mono _ _)
   | (with_reducible exact LeO.refl _)
   | (with_reducible exact LeO.none _)
   | (with_reducible refine LeO.ite ?_ ?_)
   | (with_reducible refine LeO.bind ?_ (fun _ => ?_))
   | exact spec_l26Log.mono _ _ _ _
   | exact spec_l26Open.mono _ _
   | exact LeO.none _
   | refine LeO.ite ?_ ?_
   | refine LeO.bind ?_ (fun _ => ?_)
set_option maxHeartbeats 8000000 in
set_option maxRecDepth 100000 in
theorem spec_LogRecords.calls (k : Nat) (a0_0 : ByteArray) (a0_1 : ByteArray) (a0_2 : Int) (r1 : List (S27)) (r2 : Bool) (w : World) (h : spec_LogRecords.f k a0_0 a0_1 a0_2 = some (r1,r2)) :
  Calls Tryd.prog 30 #[.agg #[.string a0_0,.string a0_1,.int .i64 a0_2]] w fun e w' => ∃ v0_ : Value,e = .returned (.tuple #[v0_,.bool r2]) ∧ Kd.R k27 27 w' w.heap.size (fun _ => True) v0_ r1 ∧ Below w.heap.size w w' := by
 have hu31 := Tryd.underlying31
 have HB := Aside0.mk (Below.refl w.heap.size w)
 have H : ((spec_l26Log.f k a0_0 a0_1 a0_2).bind fun t244 => (if t244 = true then (if a0_0.size + a0_1.size ≤ 9223372036854775807 then ((spec_l26Open.f k (a0_0 ++ a0_1)).bind fun bt245 => (some (bt245.1,true))) else (none)) else (some ((([] : List (S27))),false)))) = some (r1,r2) := h
 clear h
 replace H := Option.bind_eq_some_iff.mp H
 obtain ⟨t244,A20,H⟩ := H
 replace H : (if t244 = true then (if a0_0.size + a0_1.size ≤ 9223372036854775807 then ((spec_l26Open.f k (a0_0 ++ a0_1)).bind fun bt245 => (some (bt245.1,true))) else (none)) else (some ((([] : List (S27))),false))) = some (r1,r2) := H
 have A2 := Aside0.mk A20
 clear A20
 by_cases c3 : t244 = true
 ·subst c3
  have H1 : (if a0_0.size + a0_1.size ≤ 9223372036854775807 then ((spec_l26Open.f k (a0_0 ++ a0_1)).bind fun bt245 => (some (bt245.1,true))) else (none)) = some (r1,r2) := by rw [if_pos rfl] at H;exact H
  clear H
  have H := H1
  clear H1
  by_cases c4 : a0_0.size + a0_1.size ≤ 9223372036854775807
  ·rw [if_pos c4] at H
   have c4b0 := eq_true c4
   have c4b1 : decide (a0_0.size + a0_1.size ≤ 9223372036854775807) = true := decide_eq_true c4
   try have c4b2 : (9223372036854775807 < a0_0.size + a0_1.size) = False := eq_false (Nat.not_lt.2 c4)
   replace H := Option.bind_eq_some_iff.mp H
   obtain ⟨⟨t245,t246⟩,A50,H⟩ := H
   replace H : (some (t245,true)) = some (r1,r2) := H
   have A5 := Aside0.mk A50
   clear A50
   simp only [Option.some.injEq,Prod.mk.injEq] at H
   obtain ⟨rfl,rfl⟩ := H
   go_enter Tryd.func30,Tryd.ntmps30
   go_wp2_with (first|((with_reducible refine gate_dst (N := 1) rfl ?_);refine box_event ?hg (N := 1) ?hd (cs := #[.string a0_0,.string a0_1,.int .i64 a0_2]) (t := 31) ?hr ?_;(case hd => rfl);(case hg => rfl);(case hr => first|(go_simp;done)|(go_simp;rfl));intro gb243 hg w6 hbox hb;have n0_ := Aside0.mk (below_step (by repeat (first|(with_reducible first|exact HB.out|apply lA|apply lN|apply lD)|exact HB.out)) hb);have n1_ := Aside0.mk (hbox);have n2_ := Aside0.mk ((by rw [hg];exact (below_size (by repeat (first|(with_reducible first|exact HB.out|apply lA|apply lN|apply lD)|exact HB.out))) : w.heap.size ≤ gb243));have n3_ := Aside0.mk ((by rw [hg];exact (below_size (by repeat (first|(with_reducible first|exact HB.out|apply lA|apply lN|apply lD)|exact HB.out))) : w.heap.size ≤ gb243));clear HB;have HB := n0_;have BK243 := n1_;have GW243 := n2_;have GE243 := n3_;clear n0_ n1_ n2_ n3_;clear hb hbox hg;have hcz7_0 : w6.cell? ⟨gb243,0,none⟩ = some (.string a0_0) := (blk_cell BK243.out 0).trans rfl;have hcz7_1 : w6.cell? ⟨gb243,1,none⟩ = some (.string a0_1) := (blk_cell BK243.out 1).trans rfl;have hcz7_2 : w6.cell? ⟨gb243,2,none⟩ = some (.int .i64 a0_2) := (blk_cell BK243.out 2).trans rfl;have hfz7_0 := blk_frozen BK243.out 0;have hfz7_1 := blk_frozen BK243.out 1;have hfz7_2 := blk_frozen BK243.out 2)|((with_reducible refine gate_callee (f := 49) rfl ?_);refine goesL_ (some 7) rfl rfl Tryd.func49 (by kernel_rfl) rfl #[.agg #[.string a0_0,.string a0_1,.int .i64 a0_2]] rfl (by (try simp only [List.map_toArray,List.map_cons,List.map_nil]);first|done|rfl|(simp only [List.length_drop,List.length_take];rfl)) ?_;(with_reducible refine (spec_l26Log.calls k a0_0 a0_1 a0_2 true _ A2.out).mono ?_);rintro e w8 ⟨rfl,hb⟩;refine ⟨_,rfl,?_⟩;have n0_ := Aside0.mk (blk_below (g := gb243) (o := .cells #[.string a0_0,.string a0_1,.int .i64 a0_2] 31 (0,0)) (by (with_reducible repeat (first|refine bN ?_ _|refine bD ?_|refine bA ?_ _));exact BK243.out) hb);have n1_ := Aside0.mk (below_step (by repeat (first|(with_reducible first|exact HB.out|apply lA|apply lN|apply lD|refine below_set ?_ GE243.out)|exact HB.out)) hb);clear BK243;clear HB;have BK243 := n0_;have HB := n1_;clear n0_ n1_;(try clear hb);(try clear hb2);(try clear hk);(try clear hi);have hcz9_0 : w8.cell? ⟨gb243,0,none⟩ = some (.string a0_0) := (blk_cell BK243.out 0).trans rfl;have hcz9_1 : w8.cell? ⟨gb243,1,none⟩ = some (.string a0_1) := (blk_cell BK243.out 1).trans rfl;have hcz9_2 : w8.cell? ⟨gb243,2,none⟩ = some (.int .i64 a0_2) := (blk_cell BK243.out 2).trans rfl;have hfz9_0 := blk_frozen BK243.out 0;have hfz9_1 := blk_frozen BK243.out 1;have hfz9_2 := blk_frozen BK243.out 2)|((with_reducible refine gate_callee (f := 47) rfl ?_);refine goesL_ (some 16) rfl rfl Tryd.func47 (by kernel_rfl) rfl #[.string (a0_0 ++ a0_1)] rfl (by (try simp only [List.map_toArray,List.map_cons,List.map_nil]);first|done|rfl|(simp only [List.length_drop,List.length_take];rfl)) ?_;(with_reducible refine (spec_l26Open.calls k (a0_0 ++ a0_1) t245 t246 _ A5.out).mono ?_);rintro e w10 ⟨v247,rfl,ho0,hb⟩;refine ⟨_,rfl,?_⟩;have n0_ := Aside0.mk (Kd.R_lower ho0 (below_size (by repeat (first|(with_reducible first|exact HB.out|apply lA|apply lN|apply lD|refine below_set ?_ GE243.out)|exact HB.out))));have n1_ := Aside0.mk (blk_below (g := gb243) (o := .cells #[.string a0_0,.string a0_1,.int .i64 a0_2] 31 (0,0)) (by (with_reducible repeat (first|refine bN ?_ _|refine bD ?_|refine bA ?_ _));exact BK243.out) hb);have n2_ := Aside0.mk (below_step (by repeat (first|(with_reducible first|exact HB.out|apply lA|apply lN|apply lD|refine below_set ?_ GE243.out)|exact HB.out)) hb);clear BK243;clear HB;have HO248 := n0_;have BK243 := n1_;have HB := n2_;clear n0_ n1_ n2_;(try clear hb);(try clear hb2);(try clear hk);(try clear hi);(try clear ho0)))
   go_ret2
   exact ⟨_,by first|rfl|(simp [errW_none,errW_some] <;> rfl)|(simp [*,errW_none,errW_some] <;> rfl),by (with_reducible repeat (first|apply Kd.R_alloc|apply Kd.R_drewN|apply Kd.R_drew));exact HO248.out,by repeat (first|(with_reducible first|exact HB.out|apply lA|apply lN|apply lD|refine below_set ?_ GE243.out)|exact HB.out)⟩
  ·rw [if_neg c4] at H
   exact absurd H (by simp)
 ·replace c3 := Bool.eq_false_iff.mpr c3
  subst c3
  have H1 : (some ((([] : List (S27))),false)) = some (r1,r2) := by rw [if_neg (show ¬ (false = true) by decide)] at H;exact H
  clear H
  have H := H1
  clear H1
  obtain ⟨y249,hy249⟩ : ∃ y_ : List (S27),y_ = (([] : List (S27))) := ⟨_,rfl⟩
  replace H : (some (y249,false)) = some (r1,r2) := by first|(rw [hy249];with_reducible exact H)|(have H2_ := (Option.bind_some _ _).symm.trans H;rw [hy249];with_reducible exact H2_)|(have H2_ := (Option.bind_some _ _).symm.trans H;with_reducible exact H2_)|with_reducible exact H|(rw [hy249];exact H)|exact H
  have Ny249 := Aside0.mk hy249
  clear hy249
  simp only [Option.some.injEq,Prod.mk.injEq] at H
  obtain ⟨rfl,rfl⟩ := H
  go_enter Tryd.func30,Tryd.ntmps30
  go_wp2_with (first|((with_reducible refine gate_dst (N := 1) rfl ?_);refine box_event ?hg (N := 1) ?hd (cs := #[.string a0_0,.string a0_1,.int .i64 a0_2]) (t := 31) ?hr ?_;(case hd => rfl);(case hg => rfl);(case hr => first|(go_simp;done)|(go_simp;rfl));intro gb243 hg w11 hbox hb;have n0_ := Aside0.mk (below_step (by repeat (first|(with_reducible first|exact HB.out|apply lA|apply lN|apply lD)|exact HB.out)) hb);have n1_ := Aside0.mk (hbox);have n2_ := Aside0.mk ((by rw [hg];exact (below_size (by repeat (first|(with_reducible first|exact HB.out|apply lA|apply lN|apply lD)|exact HB.out))) : w.heap.size ≤ gb243));have n3_ := Aside0.mk ((by rw [hg];exact (below_size (by repeat (first|(with_reducible first|exact HB.out|apply lA|apply lN|apply lD)|exact HB.out))) : w.heap.size ≤ gb243));clear HB;have HB := n0_;have BK243 := n1_;have GW243 := n2_;have GE243 := n3_;clear n0_ n1_ n2_ n3_;clear hb hbox hg;have hcz12_0 : w11.cell? ⟨gb243,0,none⟩ = some (.string a0_0) := (blk_cell BK243.out 0).trans rfl;have hcz12_1 : w11.cell? ⟨gb243,1,none⟩ = some (.string a0_1) := (blk_cell BK243.out 1).trans rfl;have hcz12_2 : w11.cell? ⟨gb243,2,none⟩ = some (.int .i64 a0_2) := (blk_cell BK243.out 2).trans rfl;have hfz12_0 := blk_frozen BK243.out 0;have hfz12_1 := blk_frozen BK243.out 1;have hfz12_2 := blk_frozen BK243.out 2)|((with_reducible refine gate_callee (f := 49) rfl ?_);refine goesL_ (some 7) rfl rfl Tryd.func49 (by kernel_rfl) rfl #[.agg #[.string a0_0,.string a0_1,.int .i64 a0_2]] rfl (by (try simp only [List.map_toArray,List.map_cons,List.map_nil]);first|done|rfl|(simp only [List.length_drop,List.length_take];rfl)) ?_;(with_reducible refine (spec_l26Log.calls k a0_0 a0_1 a0_2 false _ A2.out).mono ?_);rintro e w13 ⟨rfl,hb⟩;refine ⟨_,rfl,?_⟩;have n0_ := Aside0.mk (blk_below (g := gb243) (o := .cells #[.string a0_0,.string a0_1,.int .i64 a0_2] 31 (0,0)) (by (with_reducible repeat (first|refine bN ?_ _|refine bD ?_|refine bA ?_ _));exact BK243.out) hb);have n1_ := Aside0.mk (below_step (by repeat (first|(with_reducible first|exact HB.out|apply lA|apply lN|apply lD|refine below_set ?_ GE243.out)|exact HB.out)) hb);clear BK243;clear HB;have BK243 := n0_;have HB := n1_;clear n0_ n1_;(try clear hb);(try clear hb2);(try clear hk);(try clear hi))|((with_reducible refine gate_dst (N := 9) rfl ?_);refine Kd.R_lit k27 _ 27 ?hg (N := 9) ?hd (xs := ([] : List (S27))) (inner := []) (ok := fun _ => True) (okp := fun _ => True) ?hr ?hp (fun _ hk => hk) trivial (Below.refl _ _) (Nat.le_refl _) (by simp) ?_;(case hd => rfl);(case hg => rfl);(case hr => first|(go_simp;done)|(go_simp;rfl));(case hp => exact (Reps.none _ _));intro v250 w14 ho15 hb hg_ hnew_;clear hg_ hnew_;(first|rw [← Ny249.out] at ho15|(simp only [Int.reduceToNat] at ho15;rw [← Ny249.out] at ho15));have n0_ := Aside0.mk (Kd.R_lower ho15 (below_size (by repeat (first|(with_reducible first|exact HB.out|apply lA|apply lN|apply lD|refine below_set ?_ GE243.out)|exact HB.out))));have n1_ := Aside0.mk (blk_below (g := gb243) (o := .cells #[.string a0_0,.string a0_1,.int .i64 a0_2] 31 (0,0)) (by (with_reducible repeat (first|refine bN ?_ _|refine bD ?_|refine bA ?_ _));exact BK243.out) hb);have n2_ := Aside0.mk (below_step (by repeat (first|(with_reducible first|exact HB.out|apply lA|apply lN|apply lD|refine below_set ?_ GE243.out)|exact HB.out)) hb);clear BK243;clear HB;have HO251 := n0_;have BK243 := n1_;have HB := n2_;clear n0_ n1_ n2_;clear hb ho15))
  go_ret2
  exact ⟨_,by first|rfl|(simp [errW_none,errW_some] <;> rfl)|(simp [*,errW_none,errW_some] <;> rfl),by (with_reducible repeat (first|apply Kd.R_alloc|apply Kd.R_drewN|apply Kd.R_drew));exact HO251.out,by repeat (first|(with_reducible first|exact HB.out|apply lA|apply lN|apply lD|refine below_set ?_ GE243.out)|exact HB.out)⟩
def impl_LogRecords.f (k : Nat) (a0_0 : ByteArray) (a0_1 : ByteArray) (a0_2 : Int) : Option ((List (S27)) × Bool) := (impl_IsValidLog.f k a0_0 a0_1 a0_2).bind fun t253 => (if t253 = true then (if a0_0.size + a0_1.size ≤ 9223372036854775807 then ((impl_readRecords.f k (a0_0 ++ a0_1)).bind fun bt254 => (some (bt254.1,true))) else (none)) else (some (([] : List (S27)),false)))
theorem impl_LogRecords.mono : ∀ a0 a1 a2 k,LeO (impl_LogRecords.f k a0 a1 a2) (impl_LogRecords.f (k + 1) a0 a1 a2) := by
 intro a0 a1 a2 k
 unfold impl_LogRecords.f
 repeat' first
   | (with_reducible exact impl_IsValidLog.mono _ _ _ _)
   | (with_reducible exact impl_readRecords.mono _ _)
   | (with_reducible exact LeO.refl _)
   | (with_reducible exact LeO.none _)
   | (with_reducible refine LeO.ite ?_ ?_)
   | (with_reducible refine LeO.bind ?_ (fun _ => ?_))
   | exact impl_IsValidLog.mono _ _ _ _
   | exact impl_readRecords.mono _ _
   | exact LeO.none _
   | refine LeO.ite ?_ ?_
   | refine LeO.bind ?_ (fun _ => ?_)
set_option maxHeartbeats 8000000 in
set_option maxRecDepth 100000 in
theorem impl_LogRecords.calls (k : Nat) (a0_0 : ByteArray) (a0_1 : ByteArray) (a0_2 : Int) (r1 : List (S27)) (r2 : Bool) (w : World) (hG : Gw w) (h : impl_LogRecords.f k a0_0 a0_1 a0_2 = some (r1,r2)) :
  Calls Tryd.prog 31 #[.agg #[.string a0_0,.string a0_1,.int .i64 a0_2]] w fun e w' => ∃ v0_ : Value,e = .returned (.tuple #[v0_,.bool r2]) ∧ Kd.R k27 27 w' w.heap.size (fun _ => True) v0_ r1 ∧ Below w.heap.size w w' := by
 have hu31 := Tryd.underlying31
 have HB := Aside0.mk (Below.refl w.heap.size w)
 have HG := Aside0.mk hG
 clear hG
 have H : ((impl_IsValidLog.f k a0_0 a0_1 a0_2).bind fun t253 => (if t253 = true then (if a0_0.size + a0_1.size ≤ 9223372036854775807 then ((impl_readRecords.f k (a0_0 ++ a0_1)).bind fun bt254 => (some (bt254.1,true))) else (none)) else (some (([] : List (S27)),false)))) = some (r1,r2) := h
 clear h
 replace H := Option.bind_eq_some_iff.mp H
 obtain ⟨t253,A20,H⟩ := H
 replace H : (if t253 = true then (if a0_0.size + a0_1.size ≤ 9223372036854775807 then ((impl_readRecords.f k (a0_0 ++ a0_1)).bind fun bt254 => (some (bt254.1,true))) else (none)) else (some (([] : List (S27)),false))) = some (r1,r2) := H
 have A2 := Aside0.mk A20
 clear A20
 by_cases c3 : t253 = true
 ·subst c3
  have H1 : (if a0_0.size + a0_1.size ≤ 9223372036854775807 then ((impl_readRecords.f k (a0_0 ++ a0_1)).bind fun bt254 => (some (bt254.1,true))) else (none)) = some (r1,r2) := by rw [if_pos rfl] at H;exact H
  clear H
  have H := H1
  clear H1
  by_cases c4 : a0_0.size + a0_1.size ≤ 9223372036854775807
  ·rw [if_pos c4] at H
   have c4b0 := eq_true c4
   have c4b1 : decide (a0_0.size + a0_1.size ≤ 9223372036854775807) = true := decide_eq_true c4
   try have c4b2 : (9223372036854775807 < a0_0.size + a0_1.size) = False := eq_false (Nat.not_lt.2 c4)
   replace H := Option.bind_eq_some_iff.mp H
   obtain ⟨⟨t254,t255⟩,A50,H⟩ := H
   replace H : (some (t254,true)) = some (r1,r2) := H
   have A5 := Aside0.mk A50
   clear A50
   simp only [Option.some.injEq,Prod.mk.injEq] at H
   obtain ⟨rfl,rfl⟩ := H
   go_enter Tryd.func31,Tryd.ntmps31
   go_wp2_with (first|((with_reducible refine gate_dst (N := 1) rfl ?_);refine box_event ?hg (N := 1) ?hd (cs := #[.string a0_0,.string a0_1,.int .i64 a0_2]) (t := 31) ?hr ?_;(case hd => rfl);(case hg => rfl);(case hr => first|(go_simp;done)|(go_simp;rfl));intro gb252 hg w6 hbox hb;have n0_ := Aside0.mk (below_step (by repeat (first|(with_reducible first|exact HB.out|apply lA|apply lN|apply lD)|exact HB.out)) hb);have n1_ := Aside0.mk (hbox);have n2_ := Aside0.mk ((by rw [hg];exact (below_size (by repeat (first|(with_reducible first|exact HB.out|apply lA|apply lN|apply lD)|exact HB.out))) : w.heap.size ≤ gb252));have n3_ := Aside0.mk ((by rw [hg];exact (below_size (by repeat (first|(with_reducible first|exact HB.out|apply lA|apply lN|apply lD)|exact HB.out))) : w.heap.size ≤ gb252));clear HB;have HB := n0_;have BK252 := n1_;have GW252 := n2_;have GE252 := n3_;clear n0_ n1_ n2_ n3_;clear hb hbox hg;have hcz7_0 : w6.cell? ⟨gb252,0,none⟩ = some (.string a0_0) := (blk_cell BK252.out 0).trans rfl;have hcz7_1 : w6.cell? ⟨gb252,1,none⟩ = some (.string a0_1) := (blk_cell BK252.out 1).trans rfl;have hcz7_2 : w6.cell? ⟨gb252,2,none⟩ = some (.int .i64 a0_2) := (blk_cell BK252.out 2).trans rfl;have hfz7_0 := blk_frozen BK252.out 0;have hfz7_1 := blk_frozen BK252.out 1;have hfz7_2 := blk_frozen BK252.out 2)|((with_reducible refine gate_callee (f := 23) rfl ?_);refine goesL_ (some 7) rfl rfl Tryd.func23 (by kernel_rfl) rfl #[.agg #[.string a0_0,.string a0_1,.int .i64 a0_2]] rfl (by (try simp only [List.map_toArray,List.map_cons,List.map_nil]);first|done|rfl|(simp only [List.length_drop,List.length_take];rfl)) ?_;(with_reducible refine (impl_IsValidLog.calls k a0_0 a0_1 a0_2 true _ ?side1 A2.out).mono ?_);(case side1 => exact Gw.below HG.out (by repeat (first|(with_reducible first|exact HB.out|apply lA|apply lN|apply lD|refine below_set ?_ GE252.out)|exact HB.out)));rintro e w8 ⟨rfl,hb⟩;refine ⟨_,rfl,?_⟩;have n0_ := Aside0.mk (blk_below (g := gb252) (o := .cells #[.string a0_0,.string a0_1,.int .i64 a0_2] 31 (0,0)) (by (with_reducible repeat (first|refine bN ?_ _|refine bD ?_|refine bA ?_ _));exact BK252.out) hb);have n1_ := Aside0.mk (below_step (by repeat (first|(with_reducible first|exact HB.out|apply lA|apply lN|apply lD|refine below_set ?_ GE252.out)|exact HB.out)) hb);clear BK252;clear HB;have BK252 := n0_;have HB := n1_;clear n0_ n1_;(try clear hb);(try clear hb2);(try clear hk);(try clear hi);have hcz9_0 : w8.cell? ⟨gb252,0,none⟩ = some (.string a0_0) := (blk_cell BK252.out 0).trans rfl;have hcz9_1 : w8.cell? ⟨gb252,1,none⟩ = some (.string a0_1) := (blk_cell BK252.out 1).trans rfl;have hcz9_2 : w8.cell? ⟨gb252,2,none⟩ = some (.int .i64 a0_2) := (blk_cell BK252.out 2).trans rfl;have hfz9_0 := blk_frozen BK252.out 0;have hfz9_1 := blk_frozen BK252.out 1;have hfz9_2 := blk_frozen BK252.out 2)|((with_reducible refine gate_callee (f := 48) rfl ?_);refine goesL_ (some 15) rfl rfl Tryd.func48 (by kernel_rfl) rfl #[.string (a0_0 ++ a0_1)] rfl (by (try simp only [List.map_toArray,List.map_cons,List.map_nil]);first|done|rfl|(simp only [List.length_drop,List.length_take];rfl)) ?_;(with_reducible refine (impl_readRecords.calls k (a0_0 ++ a0_1) t254 t255 _ ?side1 A5.out).mono ?_);(case side1 => exact Gw.below HG.out (by repeat (first|(with_reducible first|exact HB.out|apply lA|apply lN|apply lD|refine below_set ?_ GE252.out)|exact HB.out)));rintro e w10 ⟨v256,v258,rfl,ho0,ho1,hb⟩;refine ⟨_,rfl,?_⟩;have n0_ := Aside0.mk (Kd.R_lower ho0 (below_size (by repeat (first|(with_reducible first|exact HB.out|apply lA|apply lN|apply lD|refine below_set ?_ GE252.out)|exact HB.out))));have n1_ := Aside0.mk (Kd.R_lower ho1 (below_size (by repeat (first|(with_reducible first|exact HB.out|apply lA|apply lN|apply lD|refine below_set ?_ GE252.out)|exact HB.out))));have n2_ := Aside0.mk (blk_below (g := gb252) (o := .cells #[.string a0_0,.string a0_1,.int .i64 a0_2] 31 (0,0)) (by (with_reducible repeat (first|refine bN ?_ _|refine bD ?_|refine bA ?_ _));exact BK252.out) hb);have n3_ := Aside0.mk (below_step (by repeat (first|(with_reducible first|exact HB.out|apply lA|apply lN|apply lD|refine below_set ?_ GE252.out)|exact HB.out)) hb);clear BK252;clear HB;have HO257 := n0_;have HO259 := n1_;have BK252 := n2_;have HB := n3_;clear n0_ n1_ n2_ n3_;(try clear hb);(try clear hb2);(try clear hk);(try clear hi);(try clear ho0);(try clear ho1)))
   go_ret2
   exact ⟨_,by first|rfl|(simp [errW_none,errW_some] <;> rfl)|(simp [*,errW_none,errW_some] <;> rfl),by (with_reducible repeat (first|apply Kd.R_alloc|apply Kd.R_drewN|apply Kd.R_drew));exact HO257.out,by repeat (first|(with_reducible first|exact HB.out|apply lA|apply lN|apply lD|refine below_set ?_ GE252.out)|exact HB.out)⟩
  ·rw [if_neg c4] at H
   exact absurd H (by simp)
 ·replace c3 := Bool.eq_false_iff.mpr c3
  subst c3
  have H1 : (some (([] : List (S27)),false)) = some (r1,r2) := by rw [if_neg (show ¬ (false = true) by decide)] at H;exact H
  clear H
  have H := H1
  clear H1
  simp only [Option.some.injEq,Prod.mk.injEq] at H
  obtain ⟨rfl,rfl⟩ := H
  go_enter Tryd.func31,Tryd.ntmps31
  go_wp2_with (first|((with_reducible refine gate_dst (N := 1) rfl ?_);refine box_event ?hg (N := 1) ?hd (cs := #[.string a0_0,.string a0_1,.int .i64 a0_2]) (t := 31) ?hr ?_;(case hd => rfl);(case hg => rfl);(case hr => first|(go_simp;done)|(go_simp;rfl));intro gb252 hg w11 hbox hb;have n0_ := Aside0.mk (below_step (by repeat (first|(with_reducible first|exact HB.out|apply lA|apply lN|apply lD)|exact HB.out)) hb);have n1_ := Aside0.mk (hbox);have n2_ := Aside0.mk ((by rw [hg];exact (below_size (by repeat (first|(with_reducible first|exact HB.out|apply lA|apply lN|apply lD)|exact HB.out))) : w.heap.size ≤ gb252));have n3_ := Aside0.mk ((by rw [hg];exact (below_size (by repeat (first|(with_reducible first|exact HB.out|apply lA|apply lN|apply lD)|exact HB.out))) : w.heap.size ≤ gb252));clear HB;have HB := n0_;have BK252 := n1_;have GW252 := n2_;have GE252 := n3_;clear n0_ n1_ n2_ n3_;clear hb hbox hg;have hcz12_0 : w11.cell? ⟨gb252,0,none⟩ = some (.string a0_0) := (blk_cell BK252.out 0).trans rfl;have hcz12_1 : w11.cell? ⟨gb252,1,none⟩ = some (.string a0_1) := (blk_cell BK252.out 1).trans rfl;have hcz12_2 : w11.cell? ⟨gb252,2,none⟩ = some (.int .i64 a0_2) := (blk_cell BK252.out 2).trans rfl;have hfz12_0 := blk_frozen BK252.out 0;have hfz12_1 := blk_frozen BK252.out 1;have hfz12_2 := blk_frozen BK252.out 2)|((with_reducible refine gate_callee (f := 23) rfl ?_);refine goesL_ (some 7) rfl rfl Tryd.func23 (by kernel_rfl) rfl #[.agg #[.string a0_0,.string a0_1,.int .i64 a0_2]] rfl (by (try simp only [List.map_toArray,List.map_cons,List.map_nil]);first|done|rfl|(simp only [List.length_drop,List.length_take];rfl)) ?_;(with_reducible refine (impl_IsValidLog.calls k a0_0 a0_1 a0_2 false _ ?side1 A2.out).mono ?_);(case side1 => exact Gw.below HG.out (by repeat (first|(with_reducible first|exact HB.out|apply lA|apply lN|apply lD|refine below_set ?_ GE252.out)|exact HB.out)));rintro e w13 ⟨rfl,hb⟩;refine ⟨_,rfl,?_⟩;have n0_ := Aside0.mk (blk_below (g := gb252) (o := .cells #[.string a0_0,.string a0_1,.int .i64 a0_2] 31 (0,0)) (by (with_reducible repeat (first|refine bN ?_ _|refine bD ?_|refine bA ?_ _));exact BK252.out) hb);have n1_ := Aside0.mk (below_step (by repeat (first|(with_reducible first|exact HB.out|apply lA|apply lN|apply lD|refine below_set ?_ GE252.out)|exact HB.out)) hb);clear BK252;clear HB;have BK252 := n0_;have HB := n1_;clear n0_ n1_;(try clear hb);(try clear hb2);(try clear hk);(try clear hi)))
  go_ret2
  exact ⟨_,by first|rfl|(simp [errW_none,errW_some] <;> rfl)|(simp [*,errW_none,errW_some] <;> rfl),by first|exact Kd.R_nil _ _ _ _ _|exact Kd.N_nil _ _ _ _ _|exact Kd.V_nil _ _ _ _ _|exact Kd.Q_nil _ _ _ _ _|exact Kd.S_nil _ _ _ _ _,by repeat (first|(with_reducible first|exact HB.out|apply lA|apply lN|apply lD|refine below_set ?_ GE252.out)|exact HB.out)⟩
def laws_vBig.f (l0 : List Int) : Option (Bool) := some (decide ((l0.length : Int) > 65536))
set_option maxHeartbeats 8000000 in
set_option maxRecDepth 100000 in
theorem laws_vBig.calls (A0 : Option Addr) (c0 : Nat) (l0 : List Int) (r : Bool) (w : World) (hr0 : Kd.C (Kd.int .u8) w A0 l0.length l0) (hc0 : l0.length ≤ c0) (h : laws_vBig.f l0 = some r) :
  Calls Tryd.prog 35 #[.slice A0 l0.length c0] w fun e w' => e = .returned (.bool r) ∧ Drawn0 w w' := by
 have HR0 := Aside0.mk hr0
 have HC0 := Aside0.mk hc0
 clear hr0 hc0
 have H : (some (decide ((l0.length : Int) > 65536))) = some r := h
 clear h
 obtain rfl := Option.some.inj H
 simp only [Option.some.injEq,Prod.mk.injEq] at H
 obtain ⟨rfl⟩ := H
 go_enter Tryd.func35,Tryd.ntmps35
 go_wp2
 go_ret
 exact ⟨by first|rfl|(simp;done)|(simp [my_isEmpty];done)|(simp [*];done),by repeat (first|exact Drawn0.refl _|apply Drawn0.step)⟩
end Go.Proofs.YtinbbjfnebhlkaaDoor.P
