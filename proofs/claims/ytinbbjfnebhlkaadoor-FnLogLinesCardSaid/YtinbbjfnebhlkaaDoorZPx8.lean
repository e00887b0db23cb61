/- Written by a program in this session: each theorem here says that a Go function computes the Lean function beside it, or that a law's row holds, under the conditions that the theorem itself states. -/
import Derived.Test.YtinbbjfnebhlkaaDoorZPx0
import Derived.Test.YtinbbjfnebhlkaaDoorZPx3
import Derived.Test.YtinbbjfnebhlkaaDoorZPx4
import Derived.Test.YtinbbjfnebhlkaaDoorZPx5
import Derived.Test.YtinbbjfnebhlkaaDoorZPx7
namespace Go.Proofs.YtinbbjfnebhlkaaDoor.P
open Go.RowKit Go.Proofs.YtinbbjfnebhlkaaDoorW.PrintWords Go.Proofs.YtinbbjfnebhlkaaDoorW.PrintLast Go.Proofs.YtinbbjfnebhlkaaDoorW.PrintMore
attribute [local go_sem] max2_int min2_int max_two min_two max_three min_three max_four min_four   -- for this text's walks alone
set_option linter.unusedVariables false
set_option linter.unusedSimpArgs false
def spec_AppendRecord.j0 : Nat → Bool → ByteArray → ByteArray → Int → ByteArray → ByteArray → Option (ByteArray × ByteArray × Int × Int)
 | 0,_,_,_,_,_,_ => none
 | k + 1,x13,x233000,x233001,x233002,x234000,x234001 => if x13 = true then (some (x233000,x233001,x233002,1)) else (if x233002 = 60 then (some (x233000,x233001,x233002,2)) else ((spec_l26Line.f k x233002 x234000 x234001).bind fun t237 => (if x233001.size + t237.size ≤ 9223372036854775807 then (some (x233000,x233001 ++ t237,wrap64 (x233002 + 1),0)) else (none))))
def spec_AppendRecord.f (k : Nat) (a0_0 : ByteArray) (a0_1 : ByteArray) (a0_2 : Int) (a1_0 : ByteArray) (a1_1 : ByteArray) : Option (ByteArray × ByteArray × Int × Int) := (spec_l26Log.f k a0_0 a0_1 a0_2).bind fun t235 => (if t235 = true then ((spec_l26Good.f k a1_0 a1_1).bind fun t236 => (spec_AppendRecord.j0 k (!t236) a0_0 a0_1 a0_2 a1_0 a1_1)) else (spec_AppendRecord.j0 k true a0_0 a0_1 a0_2 a1_0 a1_1))
theorem spec_AppendRecord.mono_l : ∀ k,(∀ y0 y1 y2 y3 y4 y5,LeO (spec_AppendRecord.j0 k y0 y1 y2 y3 y4 y5) (spec_AppendRecord.j0 (k + 1) y0 y1 y2 y3 y4 y5))
 | 0 => fun _ _ _ _ _ _ r h => by simp [spec_AppendRecord.j0] at h
 | k + 1 => by
  have ih0 := spec_AppendRecord.mono_l k
  ·intro y0 y1 y2 y3 y4 y5
   unfold spec_AppendRecord.j0
   repeat' first
   | (with_reducible exact ih0 _ _ _ _ _ _)
   | (with_reducible exact spec_l26Good.mono _ _ _)
   | (with_reducible exact spec_l26Line.mono _ _ _ _)
   | (with_reducible exact spec_l26Log.mono _ _ _ _)
   | (with_reducible exact LeO.refl _)
   | (with_reducible exact LeO.none _)
   | (with_reducible refine LeO.ite ?_ ?_)
   | (with_reducible refine LeO.bind ?_ (fun _ => ?_))
   | exact ih0 _ _ _ _ _ _
   | exact spec_l26Good.mono _ _ _
   | exact spec_l26Line.mono _ _ _ _
   | exact spec_l26Log.mono _ _ _ _
   | exact LeO.none _
   | refine LeO.ite ?_ ?_
   | refine LeO.bind ?_ (fun _ => ?_)
theorem spec_AppendRecord.mono : ∀ a0 a1 a2 a3 a4 k,LeO (spec_AppendRecord.f k a0 a1 a2 a3 a4) (spec_AppendRecord.f (k + 1) a0 a1 a2 a3 a4) := by
 intro a0 a1 a2 a3 a4 k
 have ih0 := spec_AppendRecord.mono_l k
 unfold spec_AppendRecord.f
 repeat' first
   | (with_reducible exact ih0 _ _ _ _ _ _)
   | (with_reducible exact spec_l26Good.mono _ _ _)
   | (with_reducible exact spec_l26Line.mono _ _ _ _)
   | (with_reducible exact spec_l26Log.mono _ _ _ _)
   | (with_reducible exact LeO.refl _)
   | (with_reducible exact LeO.none _)
   | (with_reducible refine LeO.ite ?_ ?_)
   | (with_reducible refine LeO.bind ?_ (fun _ => ?_))
   | exact ih0 _ _ _ _ _ _
   | exact spec_l26Good.mono _ _ _
   | exact spec_l26Line.mono _ _ _ _
   | exact spec_l26Log.mono _ _ _ _
   | exact LeO.none _
   | refine LeO.ite ?_ ?_
   | refine LeO.bind ?_ (fun _ => ?_)
def spec_AppendRecord.T5 : Bool × List (List Nat × List Nat) := (true,[([],[]),([0],[0]),([],[]),([2],[2]),([],[]),([3,4],[3,4]),([1,5],[1,5]),([0,1,2,3,4,5,6],[]),([7,6,5,0,1,2,3,4,5,6],[6,7])])
def spec_AppendRecord.B5 : List Nat := [0,1,0,4,0,28,63,127,255]
theorem spec_AppendRecord.tab5 : rtab .any (opsOf Tryd.f28 5) = spec_AppendRecord.T5 := by kernel_rfl
theorem spec_AppendRecord.bits5 : waitsOk spec_AppendRecord.T5.2 spec_AppendRecord.B5 = true := by kernel_rfl
set_option maxHeartbeats 8000000 in
set_option maxRecDepth 100000 in
theorem spec_AppendRecord.calls (k : Nat) (a0_0 : ByteArray) (a0_1 : ByteArray) (a0_2 : Int) (a1_0 : ByteArray) (a1_1 : ByteArray) (r1 : ByteArray) (r2 : ByteArray) (r3 : Int) (r4 : Int) (w : World) (h : spec_AppendRecord.f k a0_0 a0_1 a0_2 a1_0 a1_1 = some (r1,r2,r3,r4)) :
  Calls Tryd.prog 28 #[.agg #[.string a0_0,.string a0_1,.int .i64 a0_2],.agg #[.string a1_0,.string a1_1]] w fun e w' => e = .returned (.tuple #[.agg #[.string r1,.string r2,.int .i64 r3],.int .i64 r4]) ∧ Below w.heap.size w w' := by
 have hu31 := Tryd.underlying31
 have hu27 := Tryd.underlying27
 have HB := Aside0.mk (Below.refl w.heap.size w)
 have H : ((spec_l26Log.f k a0_0 a0_1 a0_2).bind fun t235 => (if t235 = true then ((spec_l26Good.f k a1_0 a1_1).bind fun t236 => (spec_AppendRecord.j0 k (!t236) a0_0 a0_1 a0_2 a1_0 a1_1)) else (spec_AppendRecord.j0 k true a0_0 a0_1 a0_2 a1_0 a1_1))) = some (r1,r2,r3,r4) := h
 clear h
 have HC3 := Aside0.mk H
 clear H
 go_enter Tryd.func28,Tryd.ntmps28
 go_upto_region 1 with (first|((with_reducible refine gate_dst (N := 2) rfl ?_);refine box_event ?hg (N := 2) ?hd (cs := #[.string a0_0,.string a0_1,.int .i64 a0_2]) (t := 31) ?hr ?_;(case hd => rfl);(case hg => rfl);(case hr => first|(go_simp;done)|(go_simp;rfl));intro gb232 hg w4 hbox hb;have n0_ := Aside0.mk (below_step (by repeat (first|(with_reducible first|exact HB.out|apply lA|apply lN|apply lD)|exact HB.out)) hb);have n1_ := Aside0.mk (hbox);have n2_ := Aside0.mk ((by rw [hg];exact (below_size (by repeat (first|(with_reducible first|exact HB.out|apply lA|apply lN|apply lD)|exact HB.out))) : w.heap.size ≤ gb232));have n3_ := Aside0.mk ((by rw [hg];exact (below_size (by repeat (first|(with_reducible first|exact HB.out|apply lA|apply lN|apply lD)|exact HB.out))) : w.heap.size ≤ gb232));clear HB;have HB := n0_;have BK232 := n1_;have GW232 := n2_;have GE232 := n3_;clear n0_ n1_ n2_ n3_;clear hb hbox hg)|((with_reducible refine gate_dst (N := 3) rfl ?_);refine box_event ?hg (N := 3) ?hd (cs := #[.string a1_0,.string a1_1]) (t := 27) ?hr ?_;(case hd => rfl);(case hg => rfl);(case hr => first|(go_simp;done)|(go_simp;rfl));intro gb233 hg w5 hbox hb;have n0_ := Aside0.mk (blk_below (g := gb232) (o := .cells #[.string a0_0,.string a0_1,.int .i64 a0_2] 31 (0,0)) (by (with_reducible repeat (first|refine bN ?_ _|refine bD ?_|refine bA ?_ _));exact BK232.out) hb);have n1_ := Aside0.mk (below_step (by repeat (first|(with_reducible first|exact HB.out|apply lA|apply lN|apply lD|refine below_set ?_ GE232.out)|exact HB.out)) hb);have n2_ := Aside0.mk (hbox);have n3_ := Aside0.mk ((by rw [hg];exact (below_size (by repeat (first|(with_reducible first|exact HB.out|apply lA|apply lN|apply lD|refine below_set ?_ GE232.out)|exact HB.out))) : w.heap.size ≤ gb233));have n4_ := Aside0.mk ((by rw [hg];exact (below_size (by repeat (first|(with_reducible first|exact HB.out|apply lA|apply lN|apply lD|refine below_set ?_ GE232.out)|exact HB.out))) : w.heap.size ≤ gb233));have n5_ := Aside0.mk ((by rw [hg];exact Nat.ne_of_lt (blk_lt (g := gb232) (o := .cells #[.string a0_0,.string a0_1,.int .i64 a0_2] 31 (0,0)) (by (with_reducible repeat (first|refine bN ?_ _|refine bD ?_|refine bA ?_ _));exact BK232.out)) : gb232 ≠ gb233));have n6_ := Aside0.mk ((by rw [hg];exact Nat.ne_of_gt (blk_lt (g := gb232) (o := .cells #[.string a0_0,.string a0_1,.int .i64 a0_2] 31 (0,0)) (by (with_reducible repeat (first|refine bN ?_ _|refine bD ?_|refine bA ?_ _));exact BK232.out)) : gb233 ≠ gb232));clear BK232;clear HB;have BK232 := n0_;have HB := n1_;have BK233 := n2_;have GW233 := n3_;have GE233 := n4_;have NB232_233 := n5_;have NB233_232 := n6_;clear n0_ n1_ n2_ n3_ n4_ n5_ n6_;clear hb hbox hg)|((with_reducible refine gate_dst (N := 4) rfl ?_);refine box_event ?hg (N := 4) ?hd (cs := #[.string (⟨#[]⟩ : ByteArray),.string (⟨#[]⟩ : ByteArray),.int .i64 0]) (t := 31) ?hr ?_;(case hd => rfl);(case hg => rfl);(case hr => first|(go_simp;done)|(go_simp;rfl));intro gb234 hg w6 hbox hb;have n0_ := Aside0.mk (blk_below (g := gb232) (o := .cells #[.string a0_0,.string a0_1,.int .i64 a0_2] 31 (0,0)) (by (with_reducible repeat (first|refine bN ?_ _|refine bD ?_|refine bA ?_ _));exact BK232.out) hb);have n1_ := Aside0.mk (blk_below (g := gb233) (o := .cells #[.string a1_0,.string a1_1] 27 (0,0)) (by (with_reducible repeat (first|refine bN ?_ _|refine bD ?_|refine bA ?_ _));exact BK233.out) hb);have n2_ := Aside0.mk (below_step (by repeat (first|(with_reducible first|exact HB.out|apply lA|apply lN|apply lD|refine below_set ?_ GE232.out|refine below_set ?_ GE233.out)|exact HB.out)) hb);have n3_ := Aside0.mk (hbox);have n4_ := Aside0.mk ((by rw [hg];exact (below_size (by repeat (first|(with_reducible first|exact HB.out|apply lA|apply lN|apply lD|refine below_set ?_ GE232.out|refine below_set ?_ GE233.out)|exact HB.out))) : w.heap.size ≤ gb234));have n5_ := Aside0.mk ((by rw [hg];exact (below_size (by repeat (first|(with_reducible first|exact HB.out|apply lA|apply lN|apply lD|refine below_set ?_ GE232.out|refine below_set ?_ GE233.out)|exact HB.out))) : w.heap.size ≤ gb234));have n6_ := Aside0.mk ((by rw [hg];exact Nat.ne_of_lt (blk_lt (g := gb232) (o := .cells #[.string a0_0,.string a0_1,.int .i64 a0_2] 31 (0,0)) (by (with_reducible repeat (first|refine bN ?_ _|refine bD ?_|refine bA ?_ _));exact BK232.out)) : gb232 ≠ gb234));have n7_ := Aside0.mk ((by rw [hg];exact Nat.ne_of_gt (blk_lt (g := gb232) (o := .cells #[.string a0_0,.string a0_1,.int .i64 a0_2] 31 (0,0)) (by (with_reducible repeat (first|refine bN ?_ _|refine bD ?_|refine bA ?_ _));exact BK232.out)) : gb234 ≠ gb232));have n8_ := Aside0.mk ((by rw [hg];exact Nat.ne_of_lt (blk_lt (g := gb233) (o := .cells #[.string a1_0,.string a1_1] 27 (0,0)) (by (with_reducible repeat (first|refine bN ?_ _|refine bD ?_|refine bA ?_ _));exact BK233.out)) : gb233 ≠ gb234));have n9_ := Aside0.mk ((by rw [hg];exact Nat.ne_of_gt (blk_lt (g := gb233) (o := .cells #[.string a1_0,.string a1_1] 27 (0,0)) (by (with_reducible repeat (first|refine bN ?_ _|refine bD ?_|refine bA ?_ _));exact BK233.out)) : gb234 ≠ gb233));clear BK232;clear BK233;clear HB;have BK232 := n0_;have BK233 := n1_;have HB := n2_;have BK234 := n3_;have GW234 := n4_;have GE234 := n5_;have NB232_234 := n6_;have NB234_232 := n7_;have NB233_234 := n8_;have NB234_233 := n9_;clear n0_ n1_ n2_ n3_ n4_ n5_ n6_ n7_ n8_ n9_;clear hb hbox hg))
 (try simp only [Act.put,List.setIfInBounds_toArray,List.set_cons_zero,List.set_cons_succ])
 go_cut [13] (fun v13 wc => ∃ (kq : Nat) (x13_2 : Bool),v13 = .bool x13_2 ∧ Aside0 (spec_AppendRecord.j0 kq x13_2 a0_0 a0_1 a0_2 a1_0 a1_1 = some (r1,r2,r3,r4)) ∧ Aside0 (kq ≤ k) ∧ Aside0 (wc.heap[gb232]? = some (.cells #[.string a0_0,.string a0_1,.int .i64 a0_2] 31 (0,0))) ∧ Aside0 (wc.heap[gb233]? = some (.cells #[.string a1_0,.string a1_1] 27 (0,0))) ∧ Aside0 (wc.heap[gb234]? = some (.cells #[.string (⟨#[]⟩ : ByteArray),.string (⟨#[]⟩ : ByteArray),.int .i64 0] 31 (0,0))) ∧ Aside0 (Below w.heap.size w wc))
 case first =>
  have H := HC3.out
  clear HC3
  replace H := Option.bind_eq_some_iff.mp H
  obtain ⟨t235,A70,H⟩ := H
  replace H : (if t235 = true then ((spec_l26Good.f k a1_0 a1_1).bind fun t236 => (spec_AppendRecord.j0 k (!t236) a0_0 a0_1 a0_2 a1_0 a1_1)) else (spec_AppendRecord.j0 k true a0_0 a0_1 a0_2 a1_0 a1_1)) = some (r1,r2,r3,r4) := H
  have A7 := Aside0.mk A70
  clear A70
  by_cases c8 : t235 = true
  ·subst c8
   have H1 : ((spec_l26Good.f k a1_0 a1_1).bind fun t236 => (spec_AppendRecord.j0 k (!t236) a0_0 a0_1 a0_2 a1_0 a1_1)) = some (r1,r2,r3,r4) := by rw [if_pos rfl] at H;exact H
   clear H
   have H := H1
   clear H1
   replace H := Option.bind_eq_some_iff.mp H
   obtain ⟨t236,A90,H⟩ := H
   replace H : (spec_AppendRecord.j0 k (!t236) a0_0 a0_1 a0_2 a1_0 a1_1) = some (r1,r2,r3,r4) := H
   have A9 := Aside0.mk A90
   clear A90
   have H' := Aside0.mk H
   clear H
   have hnb10 := NB232_233.out
   have hnc10 := NB233_232.out
   have hnb11 := NB232_234.out
   have hnc11 := NB234_232.out
   have hcz12_0 : w6.cell? ⟨gb232,0,none⟩ = some (.string a0_0) := (blk_cell BK232.out 0).trans rfl
   have hcz12_1 : w6.cell? ⟨gb232,1,none⟩ = some (.string a0_1) := (blk_cell BK232.out 1).trans rfl
   have hcz12_2 : w6.cell? ⟨gb232,2,none⟩ = some (.int .i64 a0_2) := (blk_cell BK232.out 2).trans rfl
   have hfz12_0 := blk_frozen BK232.out 0
   have hfz12_1 := blk_frozen BK232.out 1
   have hfz12_2 := blk_frozen BK232.out 2
   go_wp2_with (first|((with_reducible refine gate_callee (f := 49) rfl ?_);refine goesL_ (some 7) rfl rfl Tryd.func49 (by kernel_rfl) rfl #[.agg #[.string a0_0,.string a0_1,.int .i64 a0_2]] rfl (by (try simp only [List.map_toArray,List.map_cons,List.map_nil]);first|done|rfl|(simp only [List.length_drop,List.length_take];rfl)) ?_;(with_reducible refine (spec_l26Log.calls k a0_0 a0_1 a0_2 true _ A7.out).mono ?_);rintro e w13 ⟨rfl,hb⟩;refine ⟨_,rfl,?_⟩;have n0_ := Aside0.mk (blk_below (g := gb232) (o := .cells #[.string a0_0,.string a0_1,.int .i64 a0_2] 31 (0,0)) (by (with_reducible repeat (first|refine bN ?_ _|refine bD ?_|refine bA ?_ _));exact BK232.out) hb);have n1_ := Aside0.mk (blk_below (g := gb233) (o := .cells #[.string a1_0,.string a1_1] 27 (0,0)) (by (with_reducible repeat (first|refine bN ?_ _|refine bD ?_|refine bA ?_ _));exact BK233.out) hb);have n2_ := Aside0.mk (blk_below (g := gb234) (o := .cells #[.string (⟨#[]⟩ : ByteArray),.string (⟨#[]⟩ : ByteArray),.int .i64 0] 31 (0,0)) (by (with_reducible repeat (first|refine bN ?_ _|refine bD ?_|refine bA ?_ _));exact BK234.out) hb);have n3_ := Aside0.mk (below_step (by repeat (first|(with_reducible first|exact HB.out|apply lA|apply lN|apply lD|refine below_set ?_ GE232.out|refine below_set ?_ GE233.out|refine below_set ?_ GE234.out)|exact HB.out)) hb);clear BK232;clear BK233;clear BK234;clear HB;have BK232 := n0_;have BK233 := n1_;have BK234 := n2_;have HB := n3_;clear n0_ n1_ n2_ n3_;(try clear hb);(try clear hb2);(try clear hk);(try clear hi);have hnb14 := NB233_234.out;have hnc14 := NB234_233.out;have hcz15_0 : w13.cell? ⟨gb233,0,none⟩ = some (.string a1_0) := (blk_cell BK233.out 0).trans rfl;have hcz15_1 : w13.cell? ⟨gb233,1,none⟩ = some (.string a1_1) := (blk_cell BK233.out 1).trans rfl;have hfz15_0 := blk_frozen BK233.out 0;have hfz15_1 := blk_frozen BK233.out 1)|(go_at_call 43;(with_reducible refine (spec_l26Good.calls k a1_0 a1_1 t236 _ A9.out).mono ?_);rintro e w16 ⟨rfl,hb⟩;have n0_ := Aside0.mk (blk_below (g := gb232) (o := .cells #[.string a0_0,.string a0_1,.int .i64 a0_2] 31 (0,0)) (by (with_reducible repeat (first|refine bN ?_ _|refine bD ?_|refine bA ?_ _));exact BK232.out) hb);have n1_ := Aside0.mk (blk_below (g := gb233) (o := .cells #[.string a1_0,.string a1_1] 27 (0,0)) (by (with_reducible repeat (first|refine bN ?_ _|refine bD ?_|refine bA ?_ _));exact BK233.out) hb);have n2_ := Aside0.mk (blk_below (g := gb234) (o := .cells #[.string (⟨#[]⟩ : ByteArray),.string (⟨#[]⟩ : ByteArray),.int .i64 0] 31 (0,0)) (by (with_reducible repeat (first|refine bN ?_ _|refine bD ?_|refine bA ?_ _));exact BK234.out) hb);have n3_ := Aside0.mk (below_step (by repeat (first|(with_reducible first|exact HB.out|apply lA|apply lN|apply lD|refine below_set ?_ GE232.out|refine below_set ?_ GE233.out|refine below_set ?_ GE234.out)|exact HB.out)) hb);clear BK232;clear BK233;clear BK234;clear HB;have BK232 := n0_;have BK233 := n1_;have BK234 := n2_;have HB := n3_;clear n0_ n1_ n2_ n3_;(try clear hb);(try clear hb2);(try clear hk);(try clear hi)))
   go_meet
   case rel => exact ⟨_,(!t236),(by first|rfl|(simp;done)|(simp [my_isEmpty];done)|(simp [*];done)),H',⟨by first|omega|exact Nat.le_refl _⟩,⟨by (with_reducible repeat (first|refine bN ?_ _|refine bD ?_|refine bA ?_ _));exact BK232.out⟩,⟨by (with_reducible repeat (first|refine bN ?_ _|refine bD ?_|refine bA ?_ _));exact BK233.out⟩,⟨by (with_reducible repeat (first|refine bN ?_ _|refine bD ?_|refine bA ?_ _));exact BK234.out⟩,⟨by repeat (first|(with_reducible first|exact HB.out|apply lA|apply lN|apply lD|refine below_set ?_ GE232.out|refine below_set ?_ GE233.out|refine below_set ?_ GE234.out)|exact HB.out)⟩⟩
  ·replace c8 := Bool.eq_false_iff.mpr c8
   subst c8
   have H1 : (spec_AppendRecord.j0 k true a0_0 a0_1 a0_2 a1_0 a1_1) = some (r1,r2,r3,r4) := by rw [if_neg (show ¬ (false = true) by decide)] at H;exact H
   clear H
   have H := H1
   clear H1
   have H' := Aside0.mk H
   clear H
   have hnb17 := NB232_233.out
   have hnc17 := NB233_232.out
   have hnb18 := NB232_234.out
   have hnc18 := NB234_232.out
   have hcz19_0 : w6.cell? ⟨gb232,0,none⟩ = some (.string a0_0) := (blk_cell BK232.out 0).trans rfl
   have hcz19_1 : w6.cell? ⟨gb232,1,none⟩ = some (.string a0_1) := (blk_cell BK232.out 1).trans rfl
   have hcz19_2 : w6.cell? ⟨gb232,2,none⟩ = some (.int .i64 a0_2) := (blk_cell BK232.out 2).trans rfl
   have hfz19_0 := blk_frozen BK232.out 0
   have hfz19_1 := blk_frozen BK232.out 1
   have hfz19_2 := blk_frozen BK232.out 2
   go_wp2_with (first|((with_reducible refine gate_callee (f := 49) rfl ?_);refine goesL_ (some 7) rfl rfl Tryd.func49 (by kernel_rfl) rfl #[.agg #[.string a0_0,.string a0_1,.int .i64 a0_2]] rfl (by (try simp only [List.map_toArray,List.map_cons,List.map_nil]);first|done|rfl|(simp only [List.length_drop,List.length_take];rfl)) ?_;(with_reducible refine (spec_l26Log.calls k a0_0 a0_1 a0_2 false _ A7.out).mono ?_);rintro e w20 ⟨rfl,hb⟩;refine ⟨_,rfl,?_⟩;have n0_ := Aside0.mk (blk_below (g := gb232) (o := .cells #[.string a0_0,.string a0_1,.int .i64 a0_2] 31 (0,0)) (by (with_reducible repeat (first|refine bN ?_ _|refine bD ?_|refine bA ?_ _));exact BK232.out) hb);have n1_ := Aside0.mk (blk_below (g := gb233) (o := .cells #[.string a1_0,.string a1_1] 27 (0,0)) (by (with_reducible repeat (first|refine bN ?_ _|refine bD ?_|refine bA ?_ _));exact BK233.out) hb);have n2_ := Aside0.mk (blk_below (g := gb234) (o := .cells #[.string (⟨#[]⟩ : ByteArray),.string (⟨#[]⟩ : ByteArray),.int .i64 0] 31 (0,0)) (by (with_reducible repeat (first|refine bN ?_ _|refine bD ?_|refine bA ?_ _));exact BK234.out) hb);have n3_ := Aside0.mk (below_step (by repeat (first|(with_reducible first|exact HB.out|apply lA|apply lN|apply lD|refine below_set ?_ GE232.out|refine below_set ?_ GE233.out|refine below_set ?_ GE234.out)|exact HB.out)) hb);clear BK232;clear BK233;clear BK234;clear HB;have BK232 := n0_;have BK233 := n1_;have BK234 := n2_;have HB := n3_;clear n0_ n1_ n2_ n3_;(try clear hb);(try clear hb2);(try clear hk);(try clear hi)))
   go_meet
   case rel => exact ⟨_,(true),(by first|rfl|(simp;done)|(simp [my_isEmpty];done)|(simp [*];done)),H',⟨by first|omega|exact Nat.le_refl _⟩,⟨by (with_reducible repeat (first|refine bN ?_ _|refine bD ?_|refine bA ?_ _));exact BK232.out⟩,⟨by (with_reducible repeat (first|refine bN ?_ _|refine bD ?_|refine bA ?_ _));exact BK233.out⟩,⟨by (with_reducible repeat (first|refine bN ?_ _|refine bD ?_|refine bA ?_ _));exact BK234.out⟩,⟨by repeat (first|(with_reducible first|exact HB.out|apply lA|apply lN|apply lD|refine below_set ?_ GE232.out|refine below_set ?_ GE233.out|refine below_set ?_ GE234.out)|exact HB.out)⟩⟩
 case rest =>
  clear HC3
  try clear c1
  try clear c2
  try clear p2
  try clear c4
  try clear c8
  try clear c10
  try clear c11
  try clear c14
  try clear c17
  try clear c18
  try clear hcz12_0
  try clear hcz12_1
  try clear hcz12_2
  try clear hcz15_0
  try clear hcz15_1
  try clear hcz19_0
  try clear hcz19_1
  try clear hcz19_2
  try clear hfz12_0
  try clear hfz12_1
  try clear hfz12_2
  try clear hfz15_0
  try clear hfz15_1
  try clear hfz19_0
  try clear hfz19_1
  try clear hfz19_2
  obtain ⟨kq,x13_2,rfl,HA,HJ2,BK232,BK233,BK234,HB⟩ := hcut
  cases kq with
  | zero => exact absurd HA.out (by simp [spec_AppendRecord.j0])
  | succ kj2 =>
   have H := HA.out
   clear HA
   simp only [spec_AppendRecord.j0] at H
   by_cases c21 : x13_2 = true
   ·subst c21
    have H1 : (some (a0_0,a0_1,a0_2,1)) = some (r1,r2,r3,r4) := by rw [if_pos rfl] at H;exact H
    clear H
    have H := H1
    clear H1
    simp only [Option.some.injEq,Prod.mk.injEq] at H
    obtain ⟨rfl,rfl,rfl,rfl⟩ := H
    have hnb22 := NB232_233.out
    have hnc22 := NB233_232.out
    have hnb23 := NB232_234.out
    have hnc23 := NB234_232.out
    have hcz24_0 : wc.cell? ⟨gb232,0,none⟩ = some (.string a0_0) := (blk_cell BK232.out 0).trans rfl
    have hcz24_1 : wc.cell? ⟨gb232,1,none⟩ = some (.string a0_1) := (blk_cell BK232.out 1).trans rfl
    have hcz24_2 : wc.cell? ⟨gb232,2,none⟩ = some (.int .i64 a0_2) := (blk_cell BK232.out 2).trans rfl
    have hfz24_0 := blk_frozen BK232.out 0
    have hfz24_1 := blk_frozen BK232.out 1
    have hfz24_2 := blk_frozen BK232.out 2
    have hnb25 := NB234_233.out
    have hnc25 := NB233_234.out
    have hcz26_0 : wc.cell? ⟨gb234,0,none⟩ = some (.string (⟨#[]⟩ : ByteArray)) := (blk_cell BK234.out 0).trans rfl
    have hcz26_1 : wc.cell? ⟨gb234,1,none⟩ = some (.string (⟨#[]⟩ : ByteArray)) := (blk_cell BK234.out 1).trans rfl
    have hcz26_2 : wc.cell? ⟨gb234,2,none⟩ = some (.int .i64 0) := (blk_cell BK234.out 2).trans rfl
    have hfz26_0 := blk_frozen BK234.out 0
    have hfz26_1 := blk_frozen BK234.out 1
    have hfz26_2 := blk_frozen BK234.out 2
    go_wp2
    refine bodyPost_ret (results_ct rfl _ _ gb234 31 #[.string a0_0,.string a0_1,.int .i64 a0_2] (0,0) _ rfl (by (with_reducible repeat (first|refine bN ?_ _|refine bD ?_|refine bA ?_ _));refine blk_put (cs := #[.string a0_0,.string a0_1,.int .i64 0]) ?_ 2 _ rfl;(with_reducible repeat (first|refine bN ?_ _|refine bD ?_|refine bA ?_ _));refine blk_put (cs := #[.string a0_0,.string (⟨#[]⟩ : ByteArray),.int .i64 0]) ?_ 1 _ rfl;(with_reducible repeat (first|refine bN ?_ _|refine bD ?_|refine bA ?_ _));refine blk_put (cs := #[.string (⟨#[]⟩ : ByteArray),.string (⟨#[]⟩ : ByteArray),.int .i64 0]) ?_ 0 _ rfl;(with_reducible repeat (first|refine bN ?_ _|refine bD ?_|refine bA ?_ _));exact BK234.out) Tryd.underlying31 rfl (by kernel_rfl)) rfl ?_
    exact ⟨by first|rfl|(simp [errW_none,errW_some] <;> rfl)|(simp [*,errW_none,errW_some] <;> rfl),by repeat (first|(with_reducible first|exact HB.out|apply lA|apply lN|apply lD|refine below_set ?_ GE232.out|refine below_set ?_ GE233.out|refine below_set ?_ GE234.out)|exact HB.out)⟩
   ·replace c21 := Bool.eq_false_iff.mpr c21
    subst c21
    have H1 : (if a0_2 = 60 then (some (a0_0,a0_1,a0_2,2)) else ((spec_l26Line.f kj2 a0_2 a1_0 a1_1).bind fun t237 => (if a0_1.size + t237.size ≤ 9223372036854775807 then (some (a0_0,a0_1 ++ t237,wrap64 (a0_2 + 1),0)) else (none)))) = some (r1,r2,r3,r4) := by rw [if_neg (show ¬ (false = true) by decide)] at H;exact H
    clear H
    have H := H1
    clear H1
    by_cases c27 : a0_2 = 60
    ·rw [if_pos c27] at H
     have c27b0 : (a0_2 == 60) = true := beq_iff_eq.mpr c27
     have c27b1 : (a0_2 != 60) = false := bne_eq_false_iff_eq.mpr c27
     clear c27
     simp only [Option.some.injEq,Prod.mk.injEq] at H
     obtain ⟨rfl,rfl,rfl,rfl⟩ := H
     have hnb28 := NB232_233.out
     have hnc28 := NB233_232.out
     have hnb29 := NB232_234.out
     have hnc29 := NB234_232.out
     have hcz30_0 : wc.cell? ⟨gb232,0,none⟩ = some (.string a0_0) := (blk_cell BK232.out 0).trans rfl
     have hcz30_1 : wc.cell? ⟨gb232,1,none⟩ = some (.string a0_1) := (blk_cell BK232.out 1).trans rfl
     have hcz30_2 : wc.cell? ⟨gb232,2,none⟩ = some (.int .i64 a0_2) := (blk_cell BK232.out 2).trans rfl
     have hfz30_0 := blk_frozen BK232.out 0
     have hfz30_1 := blk_frozen BK232.out 1
     have hfz30_2 := blk_frozen BK232.out 2
     have hnb31 := NB234_233.out
     have hnc31 := NB233_234.out
     have hcz32_0 : wc.cell? ⟨gb234,0,none⟩ = some (.string (⟨#[]⟩ : ByteArray)) := (blk_cell BK234.out 0).trans rfl
     have hcz32_1 : wc.cell? ⟨gb234,1,none⟩ = some (.string (⟨#[]⟩ : ByteArray)) := (blk_cell BK234.out 1).trans rfl
     have hcz32_2 : wc.cell? ⟨gb234,2,none⟩ = some (.int .i64 0) := (blk_cell BK234.out 2).trans rfl
     have hfz32_0 := blk_frozen BK234.out 0
     have hfz32_1 := blk_frozen BK234.out 1
     have hfz32_2 := blk_frozen BK234.out 2
     go_wp2
     refine bodyPost_ret (results_ct rfl _ _ gb234 31 #[.string a0_0,.string a0_1,.int .i64 a0_2] (0,0) _ rfl (by (with_reducible repeat (first|refine bN ?_ _|refine bD ?_|refine bA ?_ _));refine blk_put (cs := #[.string a0_0,.string a0_1,.int .i64 0]) ?_ 2 _ rfl;(with_reducible repeat (first|refine bN ?_ _|refine bD ?_|refine bA ?_ _));refine blk_put (cs := #[.string a0_0,.string (⟨#[]⟩ : ByteArray),.int .i64 0]) ?_ 1 _ rfl;(with_reducible repeat (first|refine bN ?_ _|refine bD ?_|refine bA ?_ _));refine blk_put (cs := #[.string (⟨#[]⟩ : ByteArray),.string (⟨#[]⟩ : ByteArray),.int .i64 0]) ?_ 0 _ rfl;(with_reducible repeat (first|refine bN ?_ _|refine bD ?_|refine bA ?_ _));exact BK234.out) Tryd.underlying31 rfl (by kernel_rfl)) rfl ?_
     exact ⟨by first|rfl|(simp [errW_none,errW_some] <;> rfl)|(simp [*,errW_none,errW_some] <;> rfl),by repeat (first|(with_reducible first|exact HB.out|apply lA|apply lN|apply lD|refine below_set ?_ GE232.out|refine below_set ?_ GE233.out|refine below_set ?_ GE234.out)|exact HB.out)⟩
    ·rw [if_neg c27] at H
     have c27b0 : (a0_2 == 60) = false := beq_eq_false_iff_ne.mpr c27
     have c27b1 : (a0_2 != 60) = true := bne_iff_ne.mpr c27
     replace H := Option.bind_eq_some_iff.mp H
     obtain ⟨t237,A330,H⟩ := H
     replace H : (if a0_1.size + t237.size ≤ 9223372036854775807 then (some (a0_0,a0_1 ++ t237,wrap64 (a0_2 + 1),0)) else (none)) = some (r1,r2,r3,r4) := H
     have A33 := Aside0.mk A330
     clear A330
     by_cases c34 : a0_1.size + t237.size ≤ 9223372036854775807
     ·rw [if_pos c34] at H
      have c34b0 := eq_true c34
      have c34b1 : decide (a0_1.size + t237.size ≤ 9223372036854775807) = true := decide_eq_true c34
      try have c34b2 : (9223372036854775807 < a0_1.size + t237.size) = False := eq_false (Nat.not_lt.2 c34)
      simp only [Option.some.injEq,Prod.mk.injEq] at H
      obtain ⟨rfl,rfl,rfl,rfl⟩ := H
      have hnb35 := NB232_233.out
      have hnc35 := NB233_232.out
      have hnb36 := NB232_234.out
      have hnc36 := NB234_232.out
      have hcz37_0 : wc.cell? ⟨gb232,0,none⟩ = some (.string a0_0) := (blk_cell BK232.out 0).trans rfl
      have hcz37_1 : wc.cell? ⟨gb232,1,none⟩ = some (.string a0_1) := (blk_cell BK232.out 1).trans rfl
      have hcz37_2 : wc.cell? ⟨gb232,2,none⟩ = some (.int .i64 a0_2) := (blk_cell BK232.out 2).trans rfl
      have hfz37_0 := blk_frozen BK232.out 0
      have hfz37_1 := blk_frozen BK232.out 1
      have hfz37_2 := blk_frozen BK232.out 2
      try go_wp2
      have n0_ := Aside0.mk (bD BK232.out)
      have n1_ := Aside0.mk (bD BK233.out)
      have n2_ := Aside0.mk (bD BK234.out)
      have n3_ := Aside0.mk (lD HB.out)
      clear BK232
      clear BK233
      clear BK234
      clear HB
      have BK232 := n0_
      have BK233 := n1_
      have BK234 := n2_
      have HB := n3_
      clear n0_ n1_ n2_ n3_
      refine start_ (n := 9) (S := fun w' => w'.cell? ⟨gb232,0,none⟩ = some (.string a0_0) ∧ w'.cell? ⟨gb232,1,none⟩ = some (.string a0_1) ∧ w'.cell? ⟨gb232,2,none⟩ = some (.int .i64 a0_2) ∧ w'.cell? ⟨gb233,0,none⟩ = some (.string a1_0) ∧ w'.cell? ⟨gb233,1,none⟩ = some (.string a1_1)) (ds := [8]) #[false,false,false,false,false,false,false,false,false] (by kernel_rfl) rfl rfl ⟨(blk_cell BK232.out 0).trans rfl,(blk_cell BK232.out 1).trans rfl,(blk_cell BK232.out 2).trans rfl,(blk_cell BK233.out 0).trans rfl,(blk_cell BK233.out 1).trans rfl⟩ (fun hHeld => ?_);refine with_tabW spec_AppendRecord.tab5 spec_AppendRecord.bits5 (fun HT_ HW_ => ?_)
      generalize wc.drew = w38 at BK232 BK233 BK234 HB hHeld ⊢
      refine pure_ (i := 0) (N := some 19) (v := ?_) (a' := ?_) #[true,false,false,false,false,false,false,false,false] rfl rfl (any_of HT_.out (by kernel_rfl)) (fun _ _ _ h => h) (Or.inl ⟨by rfl,?_⟩) ?_ ?_
      rotate_left
      ·intro w'
       go_simp
       with_reducible rfl
      rotate_left
      ·simp only [Act.put,List.setIfInBounds_toArray,List.set_cons_zero,List.set_cons_succ,i64_w,i32_w]
       rfl
      refine pure_ (i := 2) (N := some 21) (v := ?_) (a' := ?_) #[true,false,true,false,false,false,false,false,false] rfl rfl (any_of HT_.out (by kernel_rfl)) (fun _ _ _ h => h) (Or.inl ⟨by rfl,?_⟩) ?_ ?_
      rotate_left
      ·intro w'
       go_simp
       with_reducible rfl
      rotate_left
      ·simp only [Act.put,List.setIfInBounds_toArray,List.set_cons_zero,List.set_cons_succ,i64_w,i32_w]
       rfl
      refine take_ (i := 1) (N := some 20) (v := ?_) (a' := ?_) #[true,true,true,false,false,false,false,false,false] rfl rfl (take_ofW HT_.out HW_.out (by kernel_rfl)) (fun _ _ _ h => h) (Or.inl ⟨by rfl,?_⟩) hHeld ?_ ?_
      rotate_left
      ·rintro w' ⟨s0,s1,s2,s3,s4⟩
       go_simp
       with_reducible rfl
      rotate_left
      ·simp only [Act.put,List.setIfInBounds_toArray,List.set_cons_zero,List.set_cons_succ,i64_w,i32_w]
       rfl
      refine take_ (i := 3) (N := some 22) (v := ?_) (a' := ?_) #[true,true,true,true,false,false,false,false,false] rfl rfl (take_ofW HT_.out HW_.out (by kernel_rfl)) (fun _ _ _ h => h) (Or.inl ⟨by rfl,?_⟩) hHeld ?_ ?_
      rotate_left
      ·rintro w' ⟨s0,s1,s2,s3,s4⟩
       go_simp
       with_reducible rfl
      rotate_left
      ·simp only [Act.put,List.setIfInBounds_toArray,List.set_cons_zero,List.set_cons_succ,i64_w,i32_w]
       rfl
      refine take_ (i := 4) (N := some 23) (v := ?_) (a' := ?_) #[true,true,true,true,true,false,false,false,false] rfl rfl (take_ofW HT_.out HW_.out (by kernel_rfl)) (fun _ _ _ h => h) (Or.inl ⟨by rfl,?_⟩) hHeld ?_ ?_
      rotate_left
      ·rintro w' ⟨s0,s1,s2,s3,s4⟩
       go_simp
       with_reducible rfl
      rotate_left
      ·simp only [Act.put,List.setIfInBounds_toArray,List.set_cons_zero,List.set_cons_succ,i64_w,i32_w]
       rfl
      refine one_ (i := 5) (N := some 24) #[true,true,true,true,true,true,false,false,false] rfl rfl (one_of HT_.out (by kernel_rfl)) (by decide) (fun K hK => ?_)
      refine goes_ Tryd.func44 (by kernel_rfl) rfl #[.int .i64 a0_2,.agg #[.string a1_0,.string a1_1]] (by rfl) rfl rfl (by (try simp only [List.map_toArray,List.map_cons,List.map_nil]);first|done|rfl|(simp only [List.length_drop,List.length_take];rfl)) ?_
      with_reducible refine (spec_l26Line.calls kj2 a0_2 a1_0 a1_1 t237 _ A33.out).mono ?_
      rintro e w39 ⟨rfl,hb⟩
      refine ⟨_,rfl,?_⟩
      have n0_ := Aside0.mk (blk_below (g := gb232) (o := .cells #[.string a0_0,.string a0_1,.int .i64 a0_2] 31 (0,0)) (by (with_reducible repeat (first|refine bN ?_ _|refine bD ?_|refine bA ?_ _));exact BK232.out) hb)
      have n1_ := Aside0.mk (blk_below (g := gb233) (o := .cells #[.string a1_0,.string a1_1] 27 (0,0)) (by (with_reducible repeat (first|refine bN ?_ _|refine bD ?_|refine bA ?_ _));exact BK233.out) hb)
      have n2_ := Aside0.mk (blk_below (g := gb234) (o := .cells #[.string (⟨#[]⟩ : ByteArray),.string (⟨#[]⟩ : ByteArray),.int .i64 0] 31 (0,0)) (by (with_reducible repeat (first|refine bN ?_ _|refine bD ?_|refine bA ?_ _));exact BK234.out) hb)
      have n3_ := Aside0.mk (below_step (by repeat (first|(with_reducible first|exact HB.out|apply lA|apply lN|apply lD|refine below_set ?_ GE232.out|refine below_set ?_ GE233.out|refine below_set ?_ GE234.out)|exact HB.out)) hb)
      clear BK232
      clear BK233
      clear BK234
      clear HB
      have BK232 := n0_
      have BK233 := n1_
      have BK234 := n2_
      have HB := n3_
      clear n0_ n1_ n2_ n3_
      (try clear hb)
      (try clear hb2)
      (try clear hk)
      (try clear hi)
      refine hK.out _ _ ⟨(blk_cell BK232.out 0).trans rfl,(blk_cell BK232.out 1).trans rfl,(blk_cell BK232.out 2).trans rfl,(blk_cell BK233.out 0).trans rfl,(blk_cell BK233.out 1).trans rfl⟩ (fun hHeld => ?_)
      clear hK K
      refine norm_ (a' := ?_) ?_ ?_
      rotate_left
      ·show Act.put _ (some 24) _ = _
       simp only [Act.put,List.setIfInBounds_toArray,List.set_cons_zero,List.set_cons_succ,i64_w,i32_w]
       rfl
      refine pure_ (i := 6) (N := some 25) (v := ?_) (a' := ?_) #[true,true,true,true,true,true,true,false,false] rfl rfl (any_of HT_.out (by kernel_rfl)) (fun _ _ _ h => h) (Or.inl ⟨by rfl,?_⟩) ?_ ?_
      rotate_left
      ·intro w'
       go_simp
       with_reducible rfl
      rotate_left
      ·simp only [Act.put,List.setIfInBounds_toArray,List.set_cons_zero,List.set_cons_succ,i64_w,i32_w]
       rfl
      refine pure_ (i := 7) (N := some 26) (v := ?_) (a' := ?_) #[true,true,true,true,true,true,true,true,false] rfl rfl (any_of HT_.out (by kernel_rfl)) (fun _ _ _ h => h) (Or.inl ⟨by rfl,?_⟩) ?_ ?_
      rotate_left
      ·intro w'
       go_simp
       with_reducible rfl
      rotate_left
      ·simp only [Act.put,List.setIfInBounds_toArray,List.set_cons_zero,List.set_cons_succ,i64_w,i32_w]
       rfl
      refine last_ (i := 8) (N := none) #[true,true,true,true,true,true,true,true,true] rfl rfl (one_of HT_.out (by kernel_rfl)) (by decide) (fun K hK => ?_)
      have hs40 : w39.cell? ⟨gb232,1,none⟩ = some (.string a0_1) := (blk_cell BK232.out 1).trans rfl
      have hfs40 := blk_frozen BK232.out 1
      have hns40_1 := NB233_232.out
      have hns40_2 := NB234_232.out
      have hms40_1 := NB232_233.out
      have hms40_2 := NB232_234.out
      refine skip_ (w1 := ?_) (by rfl) rfl ?_ ?_
      rotate_left
      ·go_simp
       rfl
      refine hK.out _ _ ?_
      clear hK K
      refine done_ (done_of HT_.out (by kernel_rfl)) ?_
      have hcz41_0 : w39.cell? ⟨gb232,0,none⟩ = some (.string a0_0) := (blk_cell BK232.out 0).trans rfl
      have hcz41_1 : w39.cell? ⟨gb232,1,none⟩ = some (.string a0_1) := (blk_cell BK232.out 1).trans rfl
      have hcz41_2 : w39.cell? ⟨gb232,2,none⟩ = some (.int .i64 a0_2) := (blk_cell BK232.out 2).trans rfl
      have hfz41_0 := blk_frozen BK232.out 0
      have hfz41_1 := blk_frozen BK232.out 1
      have hfz41_2 := blk_frozen BK232.out 2
      have hnb42 := NB234_233.out
      have hnc42 := NB233_234.out
      have hcz43_0 : w39.cell? ⟨gb234,0,none⟩ = some (.string (⟨#[]⟩ : ByteArray)) := (blk_cell BK234.out 0).trans rfl
      have hcz43_1 : w39.cell? ⟨gb234,1,none⟩ = some (.string (⟨#[]⟩ : ByteArray)) := (blk_cell BK234.out 1).trans rfl
      have hcz43_2 : w39.cell? ⟨gb234,2,none⟩ = some (.int .i64 0) := (blk_cell BK234.out 2).trans rfl
      have hfz43_0 := blk_frozen BK234.out 0
      have hfz43_1 := blk_frozen BK234.out 1
      have hfz43_2 := blk_frozen BK234.out 2
      try go_wp2
      refine bodyPost_ret (results_ct rfl _ _ gb234 31 #[.string a0_0,.string (a0_1 ++ t237),.int .i64 (wrap64 (a0_2 + 1))] (0,0) _ rfl (by (with_reducible repeat (first|refine bN ?_ _|refine bD ?_|refine bA ?_ _));refine blk_put (cs := #[.string a0_0,.string (a0_1 ++ t237),.int .i64 0]) ?_ 2 _ rfl;(with_reducible repeat (first|refine bN ?_ _|refine bD ?_|refine bA ?_ _));refine blk_put (cs := #[.string a0_0,.string (⟨#[]⟩ : ByteArray),.int .i64 0]) ?_ 1 _ rfl;(with_reducible repeat (first|refine bN ?_ _|refine bD ?_|refine bA ?_ _));refine blk_put (cs := #[.string (⟨#[]⟩ : ByteArray),.string (⟨#[]⟩ : ByteArray),.int .i64 0]) ?_ 0 _ rfl;(with_reducible repeat (first|refine bN ?_ _|refine bD ?_|refine bA ?_ _));refine blk_far ?_ NB234_232.out _;(with_reducible repeat (first|refine bN ?_ _|refine bD ?_|refine bA ?_ _));refine blk_far ?_ NB234_232.out _;(with_reducible repeat (first|refine bN ?_ _|refine bD ?_|refine bA ?_ _));exact BK234.out) Tryd.underlying31 rfl (by kernel_rfl)) rfl ?_
      exact ⟨by first|rfl|(simp [errW_none,errW_some] <;> rfl)|(simp [*,errW_none,errW_some] <;> rfl),by repeat (first|(with_reducible first|exact HB.out|apply lA|apply lN|apply lD|refine below_set ?_ GE232.out|refine below_set ?_ GE233.out|refine below_set ?_ GE234.out)|exact HB.out)⟩
     ·rw [if_neg c34] at H
      exact absurd H (by simp)
def impl_AppendRecord.j0 : Nat → Bool → ByteArray → ByteArray → Int → ByteArray → ByteArray → Option (ByteArray × ByteArray × Int × Int)
 | 0,_,_,_,_,_,_ => none
 | k + 1,x6,x239000,x239001,x239002,x240000,x240001 => if x6 = true then (some (x239000,x239001,x239002,1)) else (if x239002 = 60 then (some (x239000,x239001,x239002,2)) else ((impl_encodeRecord.f k x239002 x240000 x240001).bind fun t243 => (if x239001.size + t243.size ≤ 9223372036854775807 then (some (x239000,x239001 ++ t243,wrap64 (x239002 + 1),0)) else (none))))
def impl_AppendRecord.f (k : Nat) (a0_0 : ByteArray) (a0_1 : ByteArray) (a0_2 : Int) (a1_0 : ByteArray) (a1_1 : ByteArray) : Option (ByteArray × ByteArray × Int × Int) := (impl_IsValidLog.f k a0_0 a0_1 a0_2).bind fun t241 => (if t241 = true then ((impl_IsValidRecord.f k a1_0 a1_1).bind fun t242 => (impl_AppendRecord.j0 k (!t242) a0_0 a0_1 a0_2 a1_0 a1_1)) else (impl_AppendRecord.j0 k true a0_0 a0_1 a0_2 a1_0 a1_1))
theorem impl_AppendRecord.mono_l : ∀ k,(∀ y0 y1 y2 y3 y4 y5,LeO (impl_AppendRecord.j0 k y0 y1 y2 y3 y4 y5) (impl_AppendRecord.j0 (k + 1) y0 y1 y2 y3 y4 y5))
 | 0 => fun _ _ _ _ _ _ r h => by simp [impl_AppendRecord.j0] at h
 | k + 1 => by
  have ih0 := impl_AppendRecord.mono_l k
  ·intro y0 y1 y2 y3 y4 y5
   unfold impl_AppendRecord.j0
   repeat' first
   | (with_reducible exact ih0 _ _ _ _ _ _)
   | (with_reducible exact impl_IsValidLog.mono _ _ _ _)
   | (with_reducible exact impl_IsValidRecord.mono _ _ _)
   | (with_reducible exact impl_encodeRecord.mono _ _ _ _)
   | (with_reducible exact LeO.refl _)
   | (with_reducible exact LeO.none _)
   | (with_reducible refine LeO.ite ?_ ?_)
   | (with_reducible refine LeO.bind ?_ (fun _ => ?_))
   | exact ih0 _ _ _ _ _ _
   | exact impl_IsValidLog.mono _ _ _ _
   | exact impl_IsValidRecord.mono _ _ _
   | exact impl_encodeRecord.mono _ _ _ _
   | exact LeO.none _
   | refine LeO.ite ?_ ?_
   | refine LeO.bind ?_ (fun _ => ?_)
theorem impl_AppendRecord.mono : ∀ a0 a1 a2 a3 a4 k,LeO (impl_AppendRecord.f k a0 a1 a2 a3 a4) (impl_AppendRecord.f (k + 1) a0 a1 a2 a3 a4) := by
 intro a0 a1 a2 a3 a4 k
 have ih0 := impl_AppendRecord.mono_l k
 unfold impl_AppendRecord.f
 repeat' first
   | (with_reducible exact ih0 _ _ _ _ _ _)
   | (with_reducible exact impl_IsValidLog.mono _ _ _ _)
   | (with_reducible exact impl_IsValidRecord.mono _ _ _)
   | (with_reducible exact impl_encodeRecord.mono _ _ _ _)
   | (with_reducible exact LeO.refl _)
   | (with_reducible exact LeO.none _)
   | (with_reducible refine LeO.ite ?_ ?_)
   | (with_reducible refine LeO.bind ?_ (fun _ => ?_))
   | exact ih0 _ _ _ _ _ _
   | exact impl_IsValidLog.mono _ _ _ _
   | exact impl_IsValidRecord.mono _ _ _
   | exact impl_encodeRecord.mono _ _ _ _
   | exact LeO.none _
   | refine LeO.ite ?_ ?_
   | refine LeO.bind ?_ (fun _ => ?_)
def impl_AppendRecord.T5 : Bool × List (List Nat × List Nat) := (true,[([],[]),([0],[0]),([],[]),([2],[2]),([],[]),([4],[4]),([],[]),([5,6],[5,6]),([3,7],[3,7]),([],[]),([9],[9]),([10],[10]),([1,8,11],[1,8,11]),([12,7,0,1,2,3,4,5,6,7,8,9,10,11,12],[12]),([13,0,1,2,3,4,5,6,7,8,9,10,11,12,13],[])])
def impl_AppendRecord.B5 : List Nat := [0,1,0,4,0,16,0,112,252,0,512,1536,4095,8191,16383]
theorem impl_AppendRecord.tab5 : rtab .any (opsOf Tryd.f29 5) = impl_AppendRecord.T5 := by kernel_rfl
theorem impl_AppendRecord.bits5 : waitsOk impl_AppendRecord.T5.2 impl_AppendRecord.B5 = true := by kernel_rfl
set_option maxHeartbeats 8000000 in
set_option maxRecDepth 100000 in
theorem impl_AppendRecord.calls (k : Nat) (a0_0 : ByteArray) (a0_1 : ByteArray) (a0_2 : Int) (a1_0 : ByteArray) (a1_1 : ByteArray) (r1 : ByteArray) (r2 : ByteArray) (r3 : Int) (r4 : Int) (w : World) (hG : Gw w) (h : impl_AppendRecord.f k a0_0 a0_1 a0_2 a1_0 a1_1 = some (r1,r2,r3,r4)) :
  Calls Tryd.prog 29 #[.agg #[.string a0_0,.string a0_1,.int .i64 a0_2],.agg #[.string a1_0,.string a1_1]] w fun e w' => e = .returned (.tuple #[.agg #[.string r1,.string r2,.int .i64 r3],.int .i64 r4]) ∧ Below w.heap.size w w' := by
 have hu31 := Tryd.underlying31
 have hu27 := Tryd.underlying27
 have HB := Aside0.mk (Below.refl w.heap.size w)
 have HG := Aside0.mk hG
 clear hG
 have H : ((impl_IsValidLog.f k a0_0 a0_1 a0_2).bind fun t241 => (if t241 = true then ((impl_IsValidRecord.f k a1_0 a1_1).bind fun t242 => (impl_AppendRecord.j0 k (!t242) a0_0 a0_1 a0_2 a1_0 a1_1)) else (impl_AppendRecord.j0 k true a0_0 a0_1 a0_2 a1_0 a1_1))) = some (r1,r2,r3,r4) := h
 clear h
 have HC3 := Aside0.mk H
 clear H
 go_enter Tryd.func29,Tryd.ntmps29
 go_upto_region 1 with (first|((with_reducible refine gate_dst (N := 2) rfl ?_);refine box_event ?hg (N := 2) ?hd (cs := #[.string a0_0,.string a0_1,.int .i64 a0_2]) (t := 31) ?hr ?_;(case hd => rfl);(case hg => rfl);(case hr => first|(go_simp;done)|(go_simp;rfl));intro gb238 hg w4 hbox hb;have n0_ := Aside0.mk (below_step (by repeat (first|(with_reducible first|exact HB.out|apply lA|apply lN|apply lD)|exact HB.out)) hb);have n1_ := Aside0.mk (hbox);have n2_ := Aside0.mk ((by rw [hg];exact (below_size (by repeat (first|(with_reducible first|exact HB.out|apply lA|apply lN|apply lD)|exact HB.out))) : w.heap.size ≤ gb238));have n3_ := Aside0.mk ((by rw [hg];exact (below_size (by repeat (first|(with_reducible first|exact HB.out|apply lA|apply lN|apply lD)|exact HB.out))) : w.heap.size ≤ gb238));clear HB;have HB := n0_;have BK238 := n1_;have GW238 := n2_;have GE238 := n3_;clear n0_ n1_ n2_ n3_;clear hb hbox hg)|((with_reducible refine gate_dst (N := 3) rfl ?_);refine box_event ?hg (N := 3) ?hd (cs := #[.string a1_0,.string a1_1]) (t := 27) ?hr ?_;(case hd => rfl);(case hg => rfl);(case hr => first|(go_simp;done)|(go_simp;rfl));intro gb239 hg w5 hbox hb;have n0_ := Aside0.mk (blk_below (g := gb238) (o := .cells #[.string a0_0,.string a0_1,.int .i64 a0_2] 31 (0,0)) (by (with_reducible repeat (first|refine bN ?_ _|refine bD ?_|refine bA ?_ _));exact BK238.out) hb);have n1_ := Aside0.mk (below_step (by repeat (first|(with_reducible first|exact HB.out|apply lA|apply lN|apply lD|refine below_set ?_ GE238.out)|exact HB.out)) hb);have n2_ := Aside0.mk (hbox);have n3_ := Aside0.mk ((by rw [hg];exact (below_size (by repeat (first|(with_reducible first|exact HB.out|apply lA|apply lN|apply lD|refine below_set ?_ GE238.out)|exact HB.out))) : w.heap.size ≤ gb239));have n4_ := Aside0.mk ((by rw [hg];exact (below_size (by repeat (first|(with_reducible first|exact HB.out|apply lA|apply lN|apply lD|refine below_set ?_ GE238.out)|exact HB.out))) : w.heap.size ≤ gb239));have n5_ := Aside0.mk ((by rw [hg];exact Nat.ne_of_lt (blk_lt (g := gb238) (o := .cells #[.string a0_0,.string a0_1,.int .i64 a0_2] 31 (0,0)) (by (with_reducible repeat (first|refine bN ?_ _|refine bD ?_|refine bA ?_ _));exact BK238.out)) : gb238 ≠ gb239));have n6_ := Aside0.mk ((by rw [hg];exact Nat.ne_of_gt (blk_lt (g := gb238) (o := .cells #[.string a0_0,.string a0_1,.int .i64 a0_2] 31 (0,0)) (by (with_reducible repeat (first|refine bN ?_ _|refine bD ?_|refine bA ?_ _));exact BK238.out)) : gb239 ≠ gb238));clear BK238;clear HB;have BK238 := n0_;have HB := n1_;have BK239 := n2_;have GW239 := n3_;have GE239 := n4_;have NB238_239 := n5_;have NB239_238 := n6_;clear n0_ n1_ n2_ n3_ n4_ n5_ n6_;clear hb hbox hg)|((with_reducible refine gate_dst (N := 4) rfl ?_);refine box_event ?hg (N := 4) ?hd (cs := #[.string (⟨#[]⟩ : ByteArray),.string (⟨#[]⟩ : ByteArray),.int .i64 0]) (t := 31) ?hr ?_;(case hd => rfl);(case hg => rfl);(case hr => first|(go_simp;done)|(go_simp;rfl));intro gb240 hg w6 hbox hb;have n0_ := Aside0.mk (blk_below (g := gb238) (o := .cells #[.string a0_0,.string a0_1,.int .i64 a0_2] 31 (0,0)) (by (with_reducible repeat (first|refine bN ?_ _|refine bD ?_|refine bA ?_ _));exact BK238.out) hb);have n1_ := Aside0.mk (blk_below (g := gb239) (o := .cells #[.string a1_0,.string a1_1] 27 (0,0)) (by (with_reducible repeat (first|refine bN ?_ _|refine bD ?_|refine bA ?_ _));exact BK239.out) hb);have n2_ := Aside0.mk (below_step (by repeat (first|(with_reducible first|exact HB.out|apply lA|apply lN|apply lD|refine below_set ?_ GE238.out|refine below_set ?_ GE239.out)|exact HB.out)) hb);have n3_ := Aside0.mk (hbox);have n4_ := Aside0.mk ((by rw [hg];exact (below_size (by repeat (first|(with_reducible first|exact HB.out|apply lA|apply lN|apply lD|refine below_set ?_ GE238.out|refine below_set ?_ GE239.out)|exact HB.out))) : w.heap.size ≤ gb240));have n5_ := Aside0.mk ((by rw [hg];exact (below_size (by repeat (first|(with_reducible first|exact HB.out|apply lA|apply lN|apply lD|refine below_set ?_ GE238.out|refine below_set ?_ GE239.out)|exact HB.out))) : w.heap.size ≤ gb240));have n6_ := Aside0.mk ((by rw [hg];exact Nat.ne_of_lt (blk_lt (g := gb238) (o := .cells #[.string a0_0,.string a0_1,.int .i64 a0_2] 31 (0,0)) (by (with_reducible repeat (first|refine bN ?_ _|refine bD ?_|refine bA ?_ _));exact BK238.out)) : gb238 ≠ gb240));have n7_ := Aside0.mk ((by rw [hg];exact Nat.ne_of_gt (blk_lt (g := gb238) (o := .cells #[.string a0_0,.string a0_1,.int .i64 a0_2] 31 (0,0)) (by (with_reducible repeat (first|refine bN ?_ _|refine bD ?_|refine bA ?_ _));exact BK238.out)) : gb240 ≠ gb238));have n8_ := Aside0.mk ((by rw [hg];exact Nat.ne_of_lt (blk_lt (g := gb239) (o := .cells #[.string a1_0,.string a1_1] 27 (0,0)) (by (with_reducible repeat (first|refine bN ?_ _|refine bD ?_|refine bA ?_ _));exact BK239.out)) : gb239 ≠ gb240));have n9_ := Aside0.mk ((by rw [hg];exact Nat.ne_of_gt (blk_lt (g := gb239) (o := .cells #[.string a1_0,.string a1_1] 27 (0,0)) (by (with_reducible repeat (first|refine bN ?_ _|refine bD ?_|refine bA ?_ _));exact BK239.out)) : gb240 ≠ gb239));clear BK238;clear BK239;clear HB;have BK238 := n0_;have BK239 := n1_;have HB := n2_;have BK240 := n3_;have GW240 := n4_;have GE240 := n5_;have NB238_240 := n6_;have NB240_238 := n7_;have NB239_240 := n8_;have NB240_239 := n9_;clear n0_ n1_ n2_ n3_ n4_ n5_ n6_ n7_ n8_ n9_;clear hb hbox hg))
 (try simp only [Act.put,List.setIfInBounds_toArray,List.set_cons_zero,List.set_cons_succ])
 go_cut [6] (fun v6 wc => ∃ (kq : Nat) (x6_2 : Bool),v6 = .bool x6_2 ∧ Aside0 (impl_AppendRecord.j0 kq x6_2 a0_0 a0_1 a0_2 a1_0 a1_1 = some (r1,r2,r3,r4)) ∧ Aside0 (kq ≤ k) ∧ Aside0 (wc.heap[gb238]? = some (.cells #[.string a0_0,.string a0_1,.int .i64 a0_2] 31 (0,0))) ∧ Aside0 (wc.heap[gb239]? = some (.cells #[.string a1_0,.string a1_1] 27 (0,0))) ∧ Aside0 (wc.heap[gb240]? = some (.cells #[.string (⟨#[]⟩ : ByteArray),.string (⟨#[]⟩ : ByteArray),.int .i64 0] 31 (0,0))) ∧ Aside0 (Below w.heap.size w wc))
 case first =>
  have H := HC3.out
  clear HC3
  replace H := Option.bind_eq_some_iff.mp H
  obtain ⟨t241,A70,H⟩ := H
  replace H : (if t241 = true then ((impl_IsValidRecord.f k a1_0 a1_1).bind fun t242 => (impl_AppendRecord.j0 k (!t242) a0_0 a0_1 a0_2 a1_0 a1_1)) else (impl_AppendRecord.j0 k true a0_0 a0_1 a0_2 a1_0 a1_1)) = some (r1,r2,r3,r4) := H
  have A7 := Aside0.mk A70
  clear A70
  by_cases c8 : t241 = true
  ·subst c8
   have H1 : ((impl_IsValidRecord.f k a1_0 a1_1).bind fun t242 => (impl_AppendRecord.j0 k (!t242) a0_0 a0_1 a0_2 a1_0 a1_1)) = some (r1,r2,r3,r4) := by rw [if_pos rfl] at H;exact H
   clear H
   have H := H1
   clear H1
   replace H := Option.bind_eq_some_iff.mp H
   obtain ⟨t242,A90,H⟩ := H
   replace H : (impl_AppendRecord.j0 k (!t242) a0_0 a0_1 a0_2 a1_0 a1_1) = some (r1,r2,r3,r4) := H
   have A9 := Aside0.mk A90
   clear A90
   have H' := Aside0.mk H
   clear H
   have hnb10 := NB238_239.out
   have hnc10 := NB239_238.out
   have hnb11 := NB238_240.out
   have hnc11 := NB240_238.out
   have hcz12_0 : w6.cell? ⟨gb238,0,none⟩ = some (.string a0_0) := (blk_cell BK238.out 0).trans rfl
   have hcz12_1 : w6.cell? ⟨gb238,1,none⟩ = some (.string a0_1) := (blk_cell BK238.out 1).trans rfl
   have hcz12_2 : w6.cell? ⟨gb238,2,none⟩ = some (.int .i64 a0_2) := (blk_cell BK238.out 2).trans rfl
   have hfz12_0 := blk_frozen BK238.out 0
   have hfz12_1 := blk_frozen BK238.out 1
   have hfz12_2 := blk_frozen BK238.out 2
   go_wp2_with (first|((with_reducible refine gate_callee (f := 23) rfl ?_);refine goesL_ (some 8) rfl rfl Tryd.func23 (by kernel_rfl) rfl #[.agg #[.string a0_0,.string a0_1,.int .i64 a0_2]] rfl (by (try simp only [List.map_toArray,List.map_cons,List.map_nil]);first|done|rfl|(simp only [List.length_drop,List.length_take];rfl)) ?_;(with_reducible refine (impl_IsValidLog.calls k a0_0 a0_1 a0_2 true _ ?side1 A7.out).mono ?_);(case side1 => exact Gw.below HG.out (by repeat (first|(with_reducible first|exact HB.out|apply lA|apply lN|apply lD|refine below_set ?_ GE238.out|refine below_set ?_ GE239.out|refine below_set ?_ GE240.out)|exact HB.out)));rintro e w13 ⟨rfl,hb⟩;refine ⟨_,rfl,?_⟩;have n0_ := Aside0.mk (blk_below (g := gb238) (o := .cells #[.string a0_0,.string a0_1,.int .i64 a0_2] 31 (0,0)) (by (with_reducible repeat (first|refine bN ?_ _|refine bD ?_|refine bA ?_ _));exact BK238.out) hb);have n1_ := Aside0.mk (blk_below (g := gb239) (o := .cells #[.string a1_0,.string a1_1] 27 (0,0)) (by (with_reducible repeat (first|refine bN ?_ _|refine bD ?_|refine bA ?_ _));exact BK239.out) hb);have n2_ := Aside0.mk (blk_below (g := gb240) (o := .cells #[.string (⟨#[]⟩ : ByteArray),.string (⟨#[]⟩ : ByteArray),.int .i64 0] 31 (0,0)) (by (with_reducible repeat (first|refine bN ?_ _|refine bD ?_|refine bA ?_ _));exact BK240.out) hb);have n3_ := Aside0.mk (below_step (by repeat (first|(with_reducible first|exact HB.out|apply lA|apply lN|apply lD|refine below_set ?_ GE238.out|refine below_set ?_ GE239.out|refine below_set ?_ GE240.out)|exact HB.out)) hb);clear BK238;clear BK239;clear BK240;clear HB;have BK238 := n0_;have BK239 := n1_;have BK240 := n2_;have HB := n3_;clear n0_ n1_ n2_ n3_;(try clear hb);(try clear hb2);(try clear hk);(try clear hi);have hnb14 := NB239_240.out;have hnc14 := NB240_239.out;have hcz15_0 : w13.cell? ⟨gb239,0,none⟩ = some (.string a1_0) := (blk_cell BK239.out 0).trans rfl;have hcz15_1 : w13.cell? ⟨gb239,1,none⟩ = some (.string a1_1) := (blk_cell BK239.out 1).trans rfl;have hfz15_0 := blk_frozen BK239.out 0;have hfz15_1 := blk_frozen BK239.out 1)|(go_at_call 37;(with_reducible refine (impl_IsValidRecord.calls k a1_0 a1_1 t242 _ A9.out).mono ?_);rintro e w16 ⟨rfl,hb⟩;have n0_ := Aside0.mk (blk_below (g := gb238) (o := .cells #[.string a0_0,.string a0_1,.int .i64 a0_2] 31 (0,0)) (by (with_reducible repeat (first|refine bN ?_ _|refine bD ?_|refine bA ?_ _));exact BK238.out) hb);have n1_ := Aside0.mk (blk_below (g := gb239) (o := .cells #[.string a1_0,.string a1_1] 27 (0,0)) (by (with_reducible repeat (first|refine bN ?_ _|refine bD ?_|refine bA ?_ _));exact BK239.out) hb);have n2_ := Aside0.mk (blk_below (g := gb240) (o := .cells #[.string (⟨#[]⟩ : ByteArray),.string (⟨#[]⟩ : ByteArray),.int .i64 0] 31 (0,0)) (by (with_reducible repeat (first|refine bN ?_ _|refine bD ?_|refine bA ?_ _));exact BK240.out) hb);have n3_ := Aside0.mk (below_step (by repeat (first|(with_reducible first|exact HB.out|apply lA|apply lN|apply lD|refine below_set ?_ GE238.out|refine below_set ?_ GE239.out|refine below_set ?_ GE240.out)|exact HB.out)) hb);clear BK238;clear BK239;clear BK240;clear HB;have BK238 := n0_;have BK239 := n1_;have BK240 := n2_;have HB := n3_;clear n0_ n1_ n2_ n3_;(try clear hb);(try clear hb2);(try clear hk);(try clear hi)))
   go_meet
   case rel => exact ⟨_,(!t242),(by first|rfl|(simp;done)|(simp [my_isEmpty];done)|(simp [*];done)),H',⟨by first|omega|exact Nat.le_refl _⟩,⟨by (with_reducible repeat (first|refine bN ?_ _|refine bD ?_|refine bA ?_ _));exact BK238.out⟩,⟨by (with_reducible repeat (first|refine bN ?_ _|refine bD ?_|refine bA ?_ _));exact BK239.out⟩,⟨by (with_reducible repeat (first|refine bN ?_ _|refine bD ?_|refine bA ?_ _));exact BK240.out⟩,⟨by repeat (first|(with_reducible first|exact HB.out|apply lA|apply lN|apply lD|refine below_set ?_ GE238.out|refine below_set ?_ GE239.out|refine below_set ?_ GE240.out)|exact HB.out)⟩⟩
  ·replace c8 := Bool.eq_false_iff.mpr c8
   subst c8
   have H1 : (impl_AppendRecord.j0 k true a0_0 a0_1 a0_2 a1_0 a1_1) = some (r1,r2,r3,r4) := by rw [if_neg (show ¬ (false = true) by decide)] at H;exact H
   clear H
   have H := H1
   clear H1
   have H' := Aside0.mk H
   clear H
   have hnb17 := NB238_239.out
   have hnc17 := NB239_238.out
   have hnb18 := NB238_240.out
   have hnc18 := NB240_238.out
   have hcz19_0 : w6.cell? ⟨gb238,0,none⟩ = some (.string a0_0) := (blk_cell BK238.out 0).trans rfl
   have hcz19_1 : w6.cell? ⟨gb238,1,none⟩ = some (.string a0_1) := (blk_cell BK238.out 1).trans rfl
   have hcz19_2 : w6.cell? ⟨gb238,2,none⟩ = some (.int .i64 a0_2) := (blk_cell BK238.out 2).trans rfl
   have hfz19_0 := blk_frozen BK238.out 0
   have hfz19_1 := blk_frozen BK238.out 1
   have hfz19_2 := blk_frozen BK238.out 2
   go_wp2_with (first|((with_reducible refine gate_callee (f := 23) rfl ?_);refine goesL_ (some 8) rfl rfl Tryd.func23 (by kernel_rfl) rfl #[.agg #[.string a0_0,.string a0_1,.int .i64 a0_2]] rfl (by (try simp only [List.map_toArray,List.map_cons,List.map_nil]);first|done|rfl|(simp only [List.length_drop,List.length_take];rfl)) ?_;(with_reducible refine (impl_IsValidLog.calls k a0_0 a0_1 a0_2 false _ ?side1 A7.out).mono ?_);(case side1 => exact Gw.below HG.out (by repeat (first|(with_reducible first|exact HB.out|apply lA|apply lN|apply lD|refine below_set ?_ GE238.out|refine below_set ?_ GE239.out|refine below_set ?_ GE240.out)|exact HB.out)));rintro e w20 ⟨rfl,hb⟩;refine ⟨_,rfl,?_⟩;have n0_ := Aside0.mk (blk_below (g := gb238) (o := .cells #[.string a0_0,.string a0_1,.int .i64 a0_2] 31 (0,0)) (by (with_reducible repeat (first|refine bN ?_ _|refine bD ?_|refine bA ?_ _));exact BK238.out) hb);have n1_ := Aside0.mk (blk_below (g := gb239) (o := .cells #[.string a1_0,.string a1_1] 27 (0,0)) (by (with_reducible repeat (first|refine bN ?_ _|refine bD ?_|refine bA ?_ _));exact BK239.out) hb);have n2_ := Aside0.mk (blk_below (g := gb240) (o := .cells #[.string (⟨#[]⟩ : ByteArray),.string (⟨#[]⟩ : ByteArray),.int .i64 0] 31 (0,0)) (by (with_reducible repeat (first|refine bN ?_ _|refine bD ?_|refine bA ?_ _));exact BK240.out) hb);have n3_ := Aside0.mk (below_step (by repeat (first|(with_reducible first|exact HB.out|apply lA|apply lN|apply lD|refine below_set ?_ GE238.out|refine below_set ?_ GE239.out|refine below_set ?_ GE240.out)|exact HB.out)) hb);clear BK238;clear BK239;clear BK240;clear HB;have BK238 := n0_;have BK239 := n1_;have BK240 := n2_;have HB := n3_;clear n0_ n1_ n2_ n3_;(try clear hb);(try clear hb2);(try clear hk);(try clear hi)))
   go_meet
   case rel => exact ⟨_,(true),(by first|rfl|(simp;done)|(simp [my_isEmpty];done)|(simp [*];done)),H',⟨by first|omega|exact Nat.le_refl _⟩,⟨by (with_reducible repeat (first|refine bN ?_ _|refine bD ?_|refine bA ?_ _));exact BK238.out⟩,⟨by (with_reducible repeat (first|refine bN ?_ _|refine bD ?_|refine bA ?_ _));exact BK239.out⟩,⟨by (with_reducible repeat (first|refine bN ?_ _|refine bD ?_|refine bA ?_ _));exact BK240.out⟩,⟨by repeat (first|(with_reducible first|exact HB.out|apply lA|apply lN|apply lD|refine below_set ?_ GE238.out|refine below_set ?_ GE239.out|refine below_set ?_ GE240.out)|exact HB.out)⟩⟩
 case rest =>
  clear HC3
  try clear c1
  try clear c2
  try clear p2
  try clear c8
  try clear c10
  try clear c11
  try clear c14
  try clear c17
  try clear c18
  try clear hcz12_0
  try clear hcz12_1
  try clear hcz12_2
  try clear hcz15_0
  try clear hcz15_1
  try clear hcz19_0
  try clear hcz19_1
  try clear hcz19_2
  try clear hfz12_0
  try clear hfz12_1
  try clear hfz12_2
  try clear hfz15_0
  try clear hfz15_1
  try clear hfz19_0
  try clear hfz19_1
  try clear hfz19_2
  obtain ⟨kq,x6_2,rfl,HA,HJ2,BK238,BK239,BK240,HB⟩ := hcut
  cases kq with
  | zero => exact absurd HA.out (by simp [impl_AppendRecord.j0])
  | succ kj2 =>
   have H := HA.out
   clear HA
   simp only [impl_AppendRecord.j0] at H
   by_cases c21 : x6_2 = true
   ·subst c21
    have H1 : (some (a0_0,a0_1,a0_2,1)) = some (r1,r2,r3,r4) := by rw [if_pos rfl] at H;exact H
    clear H
    have H := H1
    clear H1
    simp only [Option.some.injEq,Prod.mk.injEq] at H
    obtain ⟨rfl,rfl,rfl,rfl⟩ := H
    have hnb22 := NB238_239.out
    have hnc22 := NB239_238.out
    have hnb23 := NB238_240.out
    have hnc23 := NB240_238.out
    have hcz24_0 : wc.cell? ⟨gb238,0,none⟩ = some (.string a0_0) := (blk_cell BK238.out 0).trans rfl
    have hcz24_1 : wc.cell? ⟨gb238,1,none⟩ = some (.string a0_1) := (blk_cell BK238.out 1).trans rfl
    have hcz24_2 : wc.cell? ⟨gb238,2,none⟩ = some (.int .i64 a0_2) := (blk_cell BK238.out 2).trans rfl
    have hfz24_0 := blk_frozen BK238.out 0
    have hfz24_1 := blk_frozen BK238.out 1
    have hfz24_2 := blk_frozen BK238.out 2
    have hnb25 := NB240_239.out
    have hnc25 := NB239_240.out
    have hcz26_0 : wc.cell? ⟨gb240,0,none⟩ = some (.string (⟨#[]⟩ : ByteArray)) := (blk_cell BK240.out 0).trans rfl
    have hcz26_1 : wc.cell? ⟨gb240,1,none⟩ = some (.string (⟨#[]⟩ : ByteArray)) := (blk_cell BK240.out 1).trans rfl
    have hcz26_2 : wc.cell? ⟨gb240,2,none⟩ = some (.int .i64 0) := (blk_cell BK240.out 2).trans rfl
    have hfz26_0 := blk_frozen BK240.out 0
    have hfz26_1 := blk_frozen BK240.out 1
    have hfz26_2 := blk_frozen BK240.out 2
    go_wp2
    refine bodyPost_ret (results_ct rfl _ _ gb240 31 #[.string a0_0,.string a0_1,.int .i64 a0_2] (0,0) _ rfl (by (with_reducible repeat (first|refine bN ?_ _|refine bD ?_|refine bA ?_ _));refine blk_put (cs := #[.string a0_0,.string a0_1,.int .i64 0]) ?_ 2 _ rfl;(with_reducible repeat (first|refine bN ?_ _|refine bD ?_|refine bA ?_ _));refine blk_put (cs := #[.string a0_0,.string (⟨#[]⟩ : ByteArray),.int .i64 0]) ?_ 1 _ rfl;(with_reducible repeat (first|refine bN ?_ _|refine bD ?_|refine bA ?_ _));refine blk_put (cs := #[.string (⟨#[]⟩ : ByteArray),.string (⟨#[]⟩ : ByteArray),.int .i64 0]) ?_ 0 _ rfl;(with_reducible repeat (first|refine bN ?_ _|refine bD ?_|refine bA ?_ _));exact BK240.out) Tryd.underlying31 rfl (by kernel_rfl)) rfl ?_
    exact ⟨by first|rfl|(simp [errW_none,errW_some] <;> rfl)|(simp [*,errW_none,errW_some] <;> rfl),by repeat (first|(with_reducible first|exact HB.out|apply lA|apply lN|apply lD|refine below_set ?_ GE238.out|refine below_set ?_ GE239.out|refine below_set ?_ GE240.out)|exact HB.out)⟩
   ·replace c21 := Bool.eq_false_iff.mpr c21
    subst c21
    have H1 : (if a0_2 = 60 then (some (a0_0,a0_1,a0_2,2)) else ((impl_encodeRecord.f kj2 a0_2 a1_0 a1_1).bind fun t243 => (if a0_1.size + t243.size ≤ 9223372036854775807 then (some (a0_0,a0_1 ++ t243,wrap64 (a0_2 + 1),0)) else (none)))) = some (r1,r2,r3,r4) := by rw [if_neg (show ¬ (false = true) by decide)] at H;exact H
    clear H
    have H := H1
    clear H1
    by_cases c27 : a0_2 = 60
    ·rw [if_pos c27] at H
     have c27b0 : (a0_2 == 60) = true := beq_iff_eq.mpr c27
     have c27b1 : (a0_2 != 60) = false := bne_eq_false_iff_eq.mpr c27
     clear c27
     simp only [Option.some.injEq,Prod.mk.injEq] at H
     obtain ⟨rfl,rfl,rfl,rfl⟩ := H
     have hnb28 := NB238_239.out
     have hnc28 := NB239_238.out
     have hnb29 := NB238_240.out
     have hnc29 := NB240_238.out
     have hcz30_0 : wc.cell? ⟨gb238,0,none⟩ = some (.string a0_0) := (blk_cell BK238.out 0).trans rfl
     have hcz30_1 : wc.cell? ⟨gb238,1,none⟩ = some (.string a0_1) := (blk_cell BK238.out 1).trans rfl
     have hcz30_2 : wc.cell? ⟨gb238,2,none⟩ = some (.int .i64 a0_2) := (blk_cell BK238.out 2).trans rfl
     have hfz30_0 := blk_frozen BK238.out 0
     have hfz30_1 := blk_frozen BK238.out 1
     have hfz30_2 := blk_frozen BK238.out 2
     have hnb31 := NB240_239.out
     have hnc31 := NB239_240.out
     have hcz32_0 : wc.cell? ⟨gb240,0,none⟩ = some (.string (⟨#[]⟩ : ByteArray)) := (blk_cell BK240.out 0).trans rfl
     have hcz32_1 : wc.cell? ⟨gb240,1,none⟩ = some (.string (⟨#[]⟩ : ByteArray)) := (blk_cell BK240.out 1).trans rfl
     have hcz32_2 : wc.cell? ⟨gb240,2,none⟩ = some (.int .i64 0) := (blk_cell BK240.out 2).trans rfl
     have hfz32_0 := blk_frozen BK240.out 0
     have hfz32_1 := blk_frozen BK240.out 1
     have hfz32_2 := blk_frozen BK240.out 2
     go_wp2
     refine bodyPost_ret (results_ct rfl _ _ gb240 31 #[.string a0_0,.string a0_1,.int .i64 a0_2] (0,0) _ rfl (by (with_reducible repeat (first|refine bN ?_ _|refine bD ?_|refine bA ?_ _));refine blk_put (cs := #[.string a0_0,.string a0_1,.int .i64 0]) ?_ 2 _ rfl;(with_reducible repeat (first|refine bN ?_ _|refine bD ?_|refine bA ?_ _));refine blk_put (cs := #[.string a0_0,.string (⟨#[]⟩ : ByteArray),.int .i64 0]) ?_ 1 _ rfl;(with_reducible repeat (first|refine bN ?_ _|refine bD ?_|refine bA ?_ _));refine blk_put (cs := #[.string (⟨#[]⟩ : ByteArray),.string (⟨#[]⟩ : ByteArray),.int .i64 0]) ?_ 0 _ rfl;(with_reducible repeat (first|refine bN ?_ _|refine bD ?_|refine bA ?_ _));exact BK240.out) Tryd.underlying31 rfl (by kernel_rfl)) rfl ?_
     exact ⟨by first|rfl|(simp [errW_none,errW_some] <;> rfl)|(simp [*,errW_none,errW_some] <;> rfl),by repeat (first|(with_reducible first|exact HB.out|apply lA|apply lN|apply lD|refine below_set ?_ GE238.out|refine below_set ?_ GE239.out|refine below_set ?_ GE240.out)|exact HB.out)⟩
    ·rw [if_neg c27] at H
     have c27b0 : (a0_2 == 60) = false := beq_eq_false_iff_ne.mpr c27
     have c27b1 : (a0_2 != 60) = true := bne_iff_ne.mpr c27
     replace H := Option.bind_eq_some_iff.mp H
     obtain ⟨t243,A330,H⟩ := H
     replace H : (if a0_1.size + t243.size ≤ 9223372036854775807 then (some (a0_0,a0_1 ++ t243,wrap64 (a0_2 + 1),0)) else (none)) = some (r1,r2,r3,r4) := H
     have A33 := Aside0.mk A330
     clear A330
     by_cases c34 : a0_1.size + t243.size ≤ 9223372036854775807
     ·rw [if_pos c34] at H
      have c34b0 := eq_true c34
      have c34b1 : decide (a0_1.size + t243.size ≤ 9223372036854775807) = true := decide_eq_true c34
      try have c34b2 : (9223372036854775807 < a0_1.size + t243.size) = False := eq_false (Nat.not_lt.2 c34)
      simp only [Option.some.injEq,Prod.mk.injEq] at H
      obtain ⟨rfl,rfl,rfl,rfl⟩ := H
      have hnb35 := NB238_239.out
      have hnc35 := NB239_238.out
      have hnb36 := NB238_240.out
      have hnc36 := NB240_238.out
      have hcz37_0 : wc.cell? ⟨gb238,0,none⟩ = some (.string a0_0) := (blk_cell BK238.out 0).trans rfl
      have hcz37_1 : wc.cell? ⟨gb238,1,none⟩ = some (.string a0_1) := (blk_cell BK238.out 1).trans rfl
      have hcz37_2 : wc.cell? ⟨gb238,2,none⟩ = some (.int .i64 a0_2) := (blk_cell BK238.out 2).trans rfl
      have hfz37_0 := blk_frozen BK238.out 0
      have hfz37_1 := blk_frozen BK238.out 1
      have hfz37_2 := blk_frozen BK238.out 2
      try go_wp2
      have n0_ := Aside0.mk (bD BK238.out)
      have n1_ := Aside0.mk (bD BK239.out)
      have n2_ := Aside0.mk (bD BK240.out)
      have n3_ := Aside0.mk (lD HB.out)
      clear BK238
      clear BK239
      clear BK240
      clear HB
      have BK238 := n0_
      have BK239 := n1_
      have BK240 := n2_
      have HB := n3_
      clear n0_ n1_ n2_ n3_
      refine start_ (n := 15) (S := fun w' => w'.cell? ⟨gb238,0,none⟩ = some (.string a0_0) ∧ w'.cell? ⟨gb238,1,none⟩ = some (.string a0_1) ∧ w'.cell? ⟨gb238,2,none⟩ = some (.int .i64 a0_2) ∧ w'.cell? ⟨gb239,0,none⟩ = some (.string a1_0) ∧ w'.cell? ⟨gb239,1,none⟩ = some (.string a1_1)) (ds := []) #[false,false,false,false,false,false,false,false,false,false,false,false,false,false,false] (by kernel_rfl) rfl rfl ⟨(blk_cell BK238.out 0).trans rfl,(blk_cell BK238.out 1).trans rfl,(blk_cell BK238.out 2).trans rfl,(blk_cell BK239.out 0).trans rfl,(blk_cell BK239.out 1).trans rfl⟩ (fun hHeld => ?_);refine with_tabW impl_AppendRecord.tab5 impl_AppendRecord.bits5 (fun HT_ HW_ => ?_)
      generalize wc.drew = w38 at BK238 BK239 BK240 HB hHeld ⊢
      refine pure_ (i := 0) (N := some 21) (v := ?_) (a' := ?_) #[true,false,false,false,false,false,false,false,false,false,false,false,false,false,false] rfl rfl (any_of HT_.out (by kernel_rfl)) (fun _ _ _ h => h) (Or.inl ⟨by rfl,?_⟩) ?_ ?_
      rotate_left
      ·intro w'
       go_simp
       with_reducible rfl
      rotate_left
      ·simp only [Act.put,List.setIfInBounds_toArray,List.set_cons_zero,List.set_cons_succ,i64_w,i32_w]
       rfl
      refine pure_ (i := 2) (N := some 23) (v := ?_) (a' := ?_) #[true,false,true,false,false,false,false,false,false,false,false,false,false,false,false] rfl rfl (any_of HT_.out (by kernel_rfl)) (fun _ _ _ h => h) (Or.inl ⟨by rfl,?_⟩) ?_ ?_
      rotate_left
      ·intro w'
       go_simp
       with_reducible rfl
      rotate_left
      ·simp only [Act.put,List.setIfInBounds_toArray,List.set_cons_zero,List.set_cons_succ,i64_w,i32_w]
       rfl
      refine pure_ (i := 4) (N := some 25) (v := ?_) (a' := ?_) #[true,false,true,false,true,false,false,false,false,false,false,false,false,false,false] rfl rfl (any_of HT_.out (by kernel_rfl)) (fun _ _ _ h => h) (Or.inl ⟨by rfl,?_⟩) ?_ ?_
      rotate_left
      ·intro w'
       go_simp
       with_reducible rfl
      rotate_left
      ·simp only [Act.put,List.setIfInBounds_toArray,List.set_cons_zero,List.set_cons_succ,i64_w,i32_w]
       rfl
      refine pure_ (i := 9) (N := some 30) (v := ?_) (a' := ?_) #[true,false,true,false,true,false,false,false,false,true,false,false,false,false,false] rfl rfl (any_of HT_.out (by kernel_rfl)) (fun _ _ _ h => h) (Or.inl ⟨by rfl,?_⟩) ?_ ?_
      rotate_left
      ·intro w'
       go_simp
       with_reducible rfl
      rotate_left
      ·simp only [Act.put,List.setIfInBounds_toArray,List.set_cons_zero,List.set_cons_succ,i64_w,i32_w]
       rfl
      refine take_ (i := 1) (N := some 22) (v := ?_) (a' := ?_) #[true,true,true,false,true,false,false,false,false,true,false,false,false,false,false] rfl rfl (take_ofW HT_.out HW_.out (by kernel_rfl)) (fun _ _ _ h => h) (Or.inl ⟨by rfl,?_⟩) hHeld ?_ ?_
      rotate_left
      ·rintro w' ⟨s0,s1,s2,s3,s4⟩
       go_simp
       with_reducible rfl
      rotate_left
      ·simp only [Act.put,List.setIfInBounds_toArray,List.set_cons_zero,List.set_cons_succ,i64_w,i32_w]
       rfl
      refine take_ (i := 3) (N := some 24) (v := ?_) (a' := ?_) #[true,true,true,true,true,false,false,false,false,true,false,false,false,false,false] rfl rfl (take_ofW HT_.out HW_.out (by kernel_rfl)) (fun _ _ _ h => h) (Or.inl ⟨by rfl,?_⟩) hHeld ?_ ?_
      rotate_left
      ·rintro w' ⟨s0,s1,s2,s3,s4⟩
       go_simp
       with_reducible rfl
      rotate_left
      ·simp only [Act.put,List.setIfInBounds_toArray,List.set_cons_zero,List.set_cons_succ,i64_w,i32_w]
       rfl
      refine take_ (i := 5) (N := some 26) (v := ?_) (a' := ?_) #[true,true,true,true,true,true,false,false,false,true,false,false,false,false,false] rfl rfl (take_ofW HT_.out HW_.out (by kernel_rfl)) (fun _ _ _ h => h) (Or.inl ⟨by rfl,?_⟩) hHeld ?_ ?_
      rotate_left
      ·rintro w' ⟨s0,s1,s2,s3,s4⟩
       go_simp
       with_reducible rfl
      rotate_left
      ·simp only [Act.put,List.setIfInBounds_toArray,List.set_cons_zero,List.set_cons_succ,i64_w,i32_w]
       rfl
      refine take_ (i := 6) (N := some 27) (v := ?_) (a' := ?_) #[true,true,true,true,true,true,true,false,false,true,false,false,false,false,false] rfl rfl (take_ofW HT_.out HW_.out (by kernel_rfl)) (fun _ _ _ h => h) (Or.inl ⟨by rfl,?_⟩) hHeld ?_ ?_
      rotate_left
      ·rintro w' ⟨s0,s1,s2,s3,s4⟩
       go_simp
       with_reducible rfl
      rotate_left
      ·simp only [Act.put,List.setIfInBounds_toArray,List.set_cons_zero,List.set_cons_succ,i64_w,i32_w]
       rfl
      refine take_ (i := 10) (N := some 31) (v := ?_) (a' := ?_) #[true,true,true,true,true,true,true,false,false,true,true,false,false,false,false] rfl rfl (take_ofW HT_.out HW_.out (by kernel_rfl)) (fun _ _ _ h => h) (Or.inl ⟨by rfl,?_⟩) hHeld ?_ ?_
      rotate_left
      ·rintro w' ⟨s0,s1,s2,s3,s4⟩
       go_simp
       with_reducible rfl
      rotate_left
      ·simp only [Act.put,List.setIfInBounds_toArray,List.set_cons_zero,List.set_cons_succ,i64_w,i32_w]
       rfl
      refine pure_ (i := 11) (N := some 32) (v := ?_) (a' := ?_) #[true,true,true,true,true,true,true,false,false,true,true,true,false,false,false] rfl rfl (any_of HT_.out (by kernel_rfl)) (fun _ _ _ h => h) (Or.inl ⟨by rfl,?_⟩) ?_ ?_
      rotate_left
      ·intro w'
       go_simp
       with_reducible rfl
      rotate_left
      ·simp only [Act.put,List.setIfInBounds_toArray,List.set_cons_zero,List.set_cons_succ,i64_w,i32_w]
       rfl
      refine one_ (i := 7) (N := some 28) #[true,true,true,true,true,true,true,true,false,true,true,true,false,false,false] rfl rfl (one_of HT_.out (by kernel_rfl)) (by decide) (fun K hK => ?_)
      refine goes_ Tryd.func46 (by kernel_rfl) rfl #[.int .i64 a0_2,.agg #[.string a1_0,.string a1_1]] (by rfl) rfl rfl (by (try simp only [List.map_toArray,List.map_cons,List.map_nil]);first|done|rfl|(simp only [List.length_drop,List.length_take];rfl)) ?_
      with_reducible refine (impl_encodeRecord.calls kj2 a0_2 a1_0 a1_1 t243 _ ?side1 A33.out).mono ?_
      (case side1 => exact Gw.below HG.out (by repeat (first|(with_reducible first|exact HB.out|apply lA|apply lN|apply lD|refine below_set ?_ GE238.out|refine below_set ?_ GE239.out|refine below_set ?_ GE240.out)|exact HB.out)))
      rintro e w39 ⟨rfl,hb⟩
      refine ⟨_,rfl,?_⟩
      have n0_ := Aside0.mk (blk_below (g := gb238) (o := .cells #[.string a0_0,.string a0_1,.int .i64 a0_2] 31 (0,0)) (by (with_reducible repeat (first|refine bN ?_ _|refine bD ?_|refine bA ?_ _));exact BK238.out) hb)
      have n1_ := Aside0.mk (blk_below (g := gb239) (o := .cells #[.string a1_0,.string a1_1] 27 (0,0)) (by (with_reducible repeat (first|refine bN ?_ _|refine bD ?_|refine bA ?_ _));exact BK239.out) hb)
      have n2_ := Aside0.mk (blk_below (g := gb240) (o := .cells #[.string (⟨#[]⟩ : ByteArray),.string (⟨#[]⟩ : ByteArray),.int .i64 0] 31 (0,0)) (by (with_reducible repeat (first|refine bN ?_ _|refine bD ?_|refine bA ?_ _));exact BK240.out) hb)
      have n3_ := Aside0.mk (below_step (by repeat (first|(with_reducible first|exact HB.out|apply lA|apply lN|apply lD|refine below_set ?_ GE238.out|refine below_set ?_ GE239.out|refine below_set ?_ GE240.out)|exact HB.out)) hb)
      clear BK238
      clear BK239
      clear BK240
      clear HB
      have BK238 := n0_
      have BK239 := n1_
      have BK240 := n2_
      have HB := n3_
      clear n0_ n1_ n2_ n3_
      (try clear hb)
      (try clear hb2)
      (try clear hk)
      (try clear hi)
      refine hK.out _ _ ⟨(blk_cell BK238.out 0).trans rfl,(blk_cell BK238.out 1).trans rfl,(blk_cell BK238.out 2).trans rfl,(blk_cell BK239.out 0).trans rfl,(blk_cell BK239.out 1).trans rfl⟩ (fun hHeld => ?_)
      clear hK K
      refine norm_ (a' := ?_) ?_ ?_
      rotate_left
      ·show Act.put _ (some 28) _ = _
       simp only [Act.put,List.setIfInBounds_toArray,List.set_cons_zero,List.set_cons_succ,i64_w,i32_w]
       rfl
      refine pure_ (i := 8) (N := some 29) (v := ?_) (a' := ?_) #[true,true,true,true,true,true,true,true,true,true,true,true,false,false,false] rfl rfl (any_of HT_.out (by kernel_rfl)) (fun _ _ _ h => h) (Or.inl ⟨by rfl,?_⟩) ?_ ?_
      rotate_left
      ·intro w'
       go_simp
       with_reducible rfl
      rotate_left
      ·simp only [Act.put,List.setIfInBounds_toArray,List.set_cons_zero,List.set_cons_succ,i64_w,i32_w]
       rfl
      refine pure_ (i := 12) (N := some 33) (v := ?_) (a' := ?_) #[true,true,true,true,true,true,true,true,true,true,true,true,true,false,false] rfl rfl (any_of HT_.out (by kernel_rfl)) (fun _ _ _ h => h) (Or.inl ⟨by rfl,?_⟩) ?_ ?_
      rotate_left
      ·intro w'
       go_simp
       with_reducible rfl
      rotate_left
      ·simp only [Act.put,List.setIfInBounds_toArray,List.set_cons_zero,List.set_cons_succ,i64_w,i32_w]
       rfl
      refine one_ (i := 13) (N := none) #[true,true,true,true,true,true,true,true,true,true,true,true,true,true,false] rfl rfl (one_of HT_.out (by kernel_rfl)) (by decide) (fun K hK => ?_)
      have hs40 : w39.cell? ⟨gb240,0,none⟩ = some (.string (⟨#[]⟩ : ByteArray)) := (blk_cell BK240.out 0).trans rfl
      have hfs40 := blk_frozen BK240.out 0
      have hns40_0 := NB238_240.out
      have hns40_1 := NB239_240.out
      have hms40_0 := NB240_238.out
      have hms40_1 := NB240_239.out
      have hs41 : w39.cell? ⟨gb240,1,none⟩ = some (.string (⟨#[]⟩ : ByteArray)) := (blk_cell BK240.out 1).trans rfl
      have hfs41 := blk_frozen BK240.out 1
      have hns41_0 := NB238_240.out
      have hns41_1 := NB239_240.out
      have hms41_0 := NB240_238.out
      have hms41_1 := NB240_239.out
      have hs42 : w39.cell? ⟨gb240,2,none⟩ = some (.int .i64 0) := (blk_cell BK240.out 2).trans rfl
      have hfs42 := blk_frozen BK240.out 2
      have hns42_0 := NB238_240.out
      have hns42_1 := NB239_240.out
      have hms42_0 := NB240_238.out
      have hms42_1 := NB240_239.out
      refine skip_ (w1 := ?_) (by rfl) rfl ?_ ?_
      rotate_left
      ·go_simp
       rfl
      refine hK.out _ _ ⟨((cell_far (p := ⟨gb240,_,none⟩) NB238_240.out _).trans (((cell_far (p := ⟨gb240,_,none⟩) NB238_240.out _).trans (((cell_far (p := ⟨gb240,_,none⟩) NB238_240.out _).trans (hHeld.1)))))),((cell_far (p := ⟨gb240,_,none⟩) NB238_240.out _).trans (((cell_far (p := ⟨gb240,_,none⟩) NB238_240.out _).trans (((cell_far (p := ⟨gb240,_,none⟩) NB238_240.out _).trans (hHeld.2.1)))))),((cell_far (p := ⟨gb240,_,none⟩) NB238_240.out _).trans (((cell_far (p := ⟨gb240,_,none⟩) NB238_240.out _).trans (((cell_far (p := ⟨gb240,_,none⟩) NB238_240.out _).trans (hHeld.2.2.1)))))),((cell_far (p := ⟨gb240,_,none⟩) NB239_240.out _).trans (((cell_far (p := ⟨gb240,_,none⟩) NB239_240.out _).trans (((cell_far (p := ⟨gb240,_,none⟩) NB239_240.out _).trans (hHeld.2.2.2.1)))))),((cell_far (p := ⟨gb240,_,none⟩) NB239_240.out _).trans (((cell_far (p := ⟨gb240,_,none⟩) NB239_240.out _).trans (((cell_far (p := ⟨gb240,_,none⟩) NB239_240.out _).trans (hHeld.2.2.2.2))))))⟩ (fun hHeld => ?_)
      clear hK K
      refine pure_ (i := 14) (N := some 5) (v := ?_) (a' := ?_) #[true,true,true,true,true,true,true,true,true,true,true,true,true,true,true] rfl rfl (any_of HT_.out (by kernel_rfl)) (fun _ _ _ h => h) (Or.inl ⟨by rfl,?_⟩) ?_ ?_
      rotate_left
      ·intro w'
       go_simp
       with_reducible rfl
      rotate_left
      ·simp only [Act.put,List.setIfInBounds_toArray,List.set_cons_zero,List.set_cons_succ,i64_w,i32_w]
       rfl
      refine done_ (done_of HT_.out (by kernel_rfl)) ?_
      try go_wp2
      refine bodyPost_ret (results_ct rfl _ _ gb240 31 #[.string a0_0,.string (a0_1 ++ t243),.int .i64 (wrap64 (a0_2 + 1))] (0,0) _ rfl (by (with_reducible repeat (first|refine bN ?_ _|refine bD ?_|refine bA ?_ _));refine blk_put (cs := #[.string a0_0,.string (a0_1 ++ t243),.int .i64 0]) ?_ 2 _ rfl;(with_reducible repeat (first|refine bN ?_ _|refine bD ?_|refine bA ?_ _));refine blk_put (cs := #[.string a0_0,.string (⟨#[]⟩ : ByteArray),.int .i64 0]) ?_ 1 _ rfl;(with_reducible repeat (first|refine bN ?_ _|refine bD ?_|refine bA ?_ _));refine blk_put (cs := #[.string (⟨#[]⟩ : ByteArray),.string (⟨#[]⟩ : ByteArray),.int .i64 0]) ?_ 0 _ rfl;(with_reducible repeat (first|refine bN ?_ _|refine bD ?_|refine bA ?_ _));exact BK240.out) Tryd.underlying31 rfl (by kernel_rfl)) rfl ?_
      exact ⟨by first|rfl|(simp [errW_none,errW_some] <;> rfl)|(simp [*,errW_none,errW_some] <;> rfl),by repeat (first|(with_reducible first|exact HB.out|apply lA|apply lN|apply lD|refine below_set ?_ GE238.out|refine below_set ?_ GE239.out|refine below_set ?_ GE240.out)|exact HB.out)⟩
     ·rw [if_neg c34] at H
      exact absurd H (by simp)
def impl_LogRecords.f (k : Nat) (a0_0 : ByteArray) (a0_1 : ByteArray) (a0_2 : Int) : Option ((List (S27)) × Bool) := (impl_IsValidLog.f k a0_0 a0_1 a0_2).bind fun t245 => (if t245 = true then (if a0_0.size + a0_1.size ≤ 9223372036854775807 then ((impl_readRecords.f k (a0_0 ++ a0_1)).bind fun bt246 => (some (bt246.1,true))) else (none)) else (some (([] : List (S27)),false)))
theorem impl_LogRecords.mono : ∀ a0 a1 a2 k,LeO (impl_LogRecords.f k a0 a1 a2) (impl_LogRecords.f (k + 1) a0 a1 a2) := by
 intro a0 a1 a2 k
 unfold impl_LogRecords.f
 repeat' first
   | (with_reducible exact impl_IsValidLog.mono _ _ _ _)
   | (with_reducible exact impl_readRecords.mono _ _)
   | (with_reducible exact LeO.refl _)
   | (with_reducible exact LeO.none _)
   | (with_reducible refine LeO.ite ?_ ?_)
   | (with_reducible refine LeO.bind ?_ (fun _ => ?_))
   | exact impl_IsValidLog.mono _ _ _ _
   | exact impl_readRecords.mono _ _
   | exact LeO.none _
   | refine LeO.ite ?_ ?_
   | refine LeO.bind ?_ (fun _ => ?_)
set_option maxHeartbeats 8000000 in
set_option maxRecDepth 100000 in
theorem impl_LogRecords.calls (k : Nat) (a0_0 : ByteArray) (a0_1 : ByteArray) (a0_2 : Int) (r1 : List (S27)) (r2 : Bool) (w : World) (hG : Gw w) (h : impl_LogRecords.f k a0_0 a0_1 a0_2 = some (r1,r2)) :
  Calls Tryd.prog 31 #[.agg #[.string a0_0,.string a0_1,.int .i64 a0_2]] w fun e w' => ∃ v0_ : Value,e = .returned (.tuple #[v0_,.bool r2]) ∧ Kd.R k27 27 w' w.heap.size (fun _ => True) v0_ r1 ∧ Below w.heap.size w w' := by
 have hu31 := Tryd.underlying31
 have HB := Aside0.mk (Below.refl w.heap.size w)
 have HG := Aside0.mk hG
 clear hG
 have H : ((impl_IsValidLog.f k a0_0 a0_1 a0_2).bind fun t245 => (if t245 = true then (if a0_0.size + a0_1.size ≤ 9223372036854775807 then ((impl_readRecords.f k (a0_0 ++ a0_1)).bind fun bt246 => (some (bt246.1,true))) else (none)) else (some (([] : List (S27)),false)))) = some (r1,r2) := h
 clear h
 replace H := Option.bind_eq_some_iff.mp H
 obtain ⟨t245,A20,H⟩ := H
 replace H : (if t245 = true then (if a0_0.size + a0_1.size ≤ 9223372036854775807 then ((impl_readRecords.f k (a0_0 ++ a0_1)).bind fun bt246 => (some (bt246.1,true))) else (none)) else (some (([] : List (S27)),false))) = some (r1,r2) := H
 have A2 := Aside0.mk A20
 clear A20
 by_cases c3 : t245 = true
 ·subst c3
  have H1 : (if a0_0.size + a0_1.size ≤ 9223372036854775807 then ((impl_readRecords.f k (a0_0 ++ a0_1)).bind fun bt246 => (some (bt246.1,true))) else (none)) = some (r1,r2) := by rw [if_pos rfl] at H;exact H
  clear H
  have H := H1
  clear H1
  by_cases c4 : a0_0.size + a0_1.size ≤ 9223372036854775807
  ·rw [if_pos c4] at H
   have c4b0 := eq_true c4
   have c4b1 : decide (a0_0.size + a0_1.size ≤ 9223372036854775807) = true := decide_eq_true c4
   try have c4b2 : (9223372036854775807 < a0_0.size + a0_1.size) = False := eq_false (Nat.not_lt.2 c4)
   replace H := Option.bind_eq_some_iff.mp H
   obtain ⟨⟨t246,t247⟩,A50,H⟩ := H
   replace H : (some (t246,true)) = some (r1,r2) := H
   have A5 := Aside0.mk A50
   clear A50
   simp only [Option.some.injEq,Prod.mk.injEq] at H
   obtain ⟨rfl,rfl⟩ := H
   go_enter Tryd.func31,Tryd.ntmps31
   go_wp2_with (first|((with_reducible refine gate_dst (N := 1) rfl ?_);refine box_event ?hg (N := 1) ?hd (cs := #[.string a0_0,.string a0_1,.int .i64 a0_2]) (t := 31) ?hr ?_;(case hd => rfl);(case hg => rfl);(case hr => first|(go_simp;done)|(go_simp;rfl));intro gb244 hg w6 hbox hb;have n0_ := Aside0.mk (below_step (by repeat (first|(with_reducible first|exact HB.out|apply lA|apply lN|apply lD)|exact HB.out)) hb);have n1_ := Aside0.mk (hbox);have n2_ := Aside0.mk ((by rw [hg];exact (below_size (by repeat (first|(with_reducible first|exact HB.out|apply lA|apply lN|apply lD)|exact HB.out))) : w.heap.size ≤ gb244));have n3_ := Aside0.mk ((by rw [hg];exact (below_size (by repeat (first|(with_reducible first|exact HB.out|apply lA|apply lN|apply lD)|exact HB.out))) : w.heap.size ≤ gb244));clear HB;have HB := n0_;have BK244 := n1_;have GW244 := n2_;have GE244 := n3_;clear n0_ n1_ n2_ n3_;clear hb hbox hg;have hcz7_0 : w6.cell? ⟨gb244,0,none⟩ = some (.string a0_0) := (blk_cell BK244.out 0).trans rfl;have hcz7_1 : w6.cell? ⟨gb244,1,none⟩ = some (.string a0_1) := (blk_cell BK244.out 1).trans rfl;have hcz7_2 : w6.cell? ⟨gb244,2,none⟩ = some (.int .i64 a0_2) := (blk_cell BK244.out 2).trans rfl;have hfz7_0 := blk_frozen BK244.out 0;have hfz7_1 := blk_frozen BK244.out 1;have hfz7_2 := blk_frozen BK244.out 2)|((with_reducible refine gate_callee (f := 23) rfl ?_);refine goesL_ (some 7) rfl rfl Tryd.func23 (by kernel_rfl) rfl #[.agg #[.string a0_0,.string a0_1,.int .i64 a0_2]] rfl (by (try simp only [List.map_toArray,List.map_cons,List.map_nil]);first|done|rfl|(simp only [List.length_drop,List.length_take];rfl)) ?_;(with_reducible refine (impl_IsValidLog.calls k a0_0 a0_1 a0_2 true _ ?side1 A2.out).mono ?_);(case side1 => exact Gw.below HG.out (by repeat (first|(with_reducible first|exact HB.out|apply lA|apply lN|apply lD|refine below_set ?_ GE244.out)|exact HB.out)));rintro e w8 ⟨rfl,hb⟩;refine ⟨_,rfl,?_⟩;have n0_ := Aside0.mk (blk_below (g := gb244) (o := .cells #[.string a0_0,.string a0_1,.int .i64 a0_2] 31 (0,0)) (by (with_reducible repeat (first|refine bN ?_ _|refine bD ?_|refine bA ?_ _));exact BK244.out) hb);have n1_ := Aside0.mk (below_step (by repeat (first|(with_reducible first|exact HB.out|apply lA|apply lN|apply lD|refine below_set ?_ GE244.out)|exact HB.out)) hb);clear BK244;clear HB;have BK244 := n0_;have HB := n1_;clear n0_ n1_;(try clear hb);(try clear hb2);(try clear hk);(try clear hi);have hcz9_0 : w8.cell? ⟨gb244,0,none⟩ = some (.string a0_0) := (blk_cell BK244.out 0).trans rfl;have hcz9_1 : w8.cell? ⟨gb244,1,none⟩ = some (.string a0_1) := (blk_cell BK244.out 1).trans rfl;have hcz9_2 : w8.cell? ⟨gb244,2,none⟩ = some (.int .i64 a0_2) := (blk_cell BK244.out 2).trans rfl;have hfz9_0 := blk_frozen BK244.out 0;have hfz9_1 := blk_frozen BK244.out 1;have hfz9_2 := blk_frozen BK244.out 2)|((with_reducible refine gate_callee (f := 48) rfl ?_);refine goesL_ (some 15) rfl rfl Tryd.func48 (by kernel_rfl) rfl #[.string (a0_0 ++ a0_1)] rfl (by (try simp only [List.map_toArray,List.map_cons,List.map_nil]);first|done|rfl|(simp only [List.length_drop,List.length_take];rfl)) ?_;(with_reducible refine (impl_readRecords.calls k (a0_0 ++ a0_1) t246 t247 _ ?side1 A5.out).mono ?_);(case side1 => exact Gw.below HG.out (by repeat (first|(with_reducible first|exact HB.out|apply lA|apply lN|apply lD|refine below_set ?_ GE244.out)|exact HB.out)));rintro e w10 ⟨v248,v250,rfl,ho0,ho1,hb⟩;refine ⟨_,rfl,?_⟩;have n0_ := Aside0.mk (Kd.R_lower ho0 (below_size (by repeat (first|(with_reducible first|exact HB.out|apply lA|apply lN|apply lD|refine below_set ?_ GE244.out)|exact HB.out))));have n1_ := Aside0.mk (Kd.R_lower ho1 (below_size (by repeat (first|(with_reducible first|exact HB.out|apply lA|apply lN|apply lD|refine below_set ?_ GE244.out)|exact HB.out))));have n2_ := Aside0.mk (blk_below (g := gb244) (o := .cells #[.string a0_0,.string a0_1,.int .i64 a0_2] 31 (0,0)) (by (with_reducible repeat (first|refine bN ?_ _|refine bD ?_|refine bA ?_ _));exact BK244.out) hb);have n3_ := Aside0.mk (below_step (by repeat (first|(with_reducible first|exact HB.out|apply lA|apply lN|apply lD|refine below_set ?_ GE244.out)|exact HB.out)) hb);clear BK244;clear HB;have HO249 := n0_;have HO251 := n1_;have BK244 := n2_;have HB := n3_;clear n0_ n1_ n2_ n3_;(try clear hb);(try clear hb2);(try clear hk);(try clear hi);(try clear ho0);(try clear ho1)))
   go_ret2
   exact ⟨_,by first|rfl|(simp [errW_none,errW_some] <;> rfl)|(simp [*,errW_none,errW_some] <;> rfl),by (with_reducible repeat (first|apply Kd.R_alloc|apply Kd.R_drewN|apply Kd.R_drew));exact HO249.out,by repeat (first|(with_reducible first|exact HB.out|apply lA|apply lN|apply lD|refine below_set ?_ GE244.out)|exact HB.out)⟩
  ·rw [if_neg c4] at H
   exact absurd H (by simp)
 ·replace c3 := Bool.eq_false_iff.mpr c3
  subst c3
  have H1 : (some (([] : List (S27)),false)) = some (r1,r2) := by rw [if_neg (show ¬ (false = true) by decide)] at H;exact H
  clear H
  have H := H1
  clear H1
  simp only [Option.some.injEq,Prod.mk.injEq] at H
  obtain ⟨rfl,rfl⟩ := H
  go_enter Tryd.func31,Tryd.ntmps31
  go_wp2_with (first|((with_reducible refine gate_dst (N := 1) rfl ?_);refine box_event ?hg (N := 1) ?hd (cs := #[.string a0_0,.string a0_1,.int .i64 a0_2]) (t := 31) ?hr ?_;(case hd => rfl);(case hg => rfl);(case hr => first|(go_simp;done)|(go_simp;rfl));intro gb244 hg w11 hbox hb;have n0_ := Aside0.mk (below_step (by repeat (first|(with_reducible first|exact HB.out|apply lA|apply lN|apply lD)|exact HB.out)) hb);have n1_ := Aside0.mk (hbox);have n2_ := Aside0.mk ((by rw [hg];exact (below_size (by repeat (first|(with_reducible first|exact HB.out|apply lA|apply lN|apply lD)|exact HB.out))) : w.heap.size ≤ gb244));have n3_ := Aside0.mk ((by rw [hg];exact (below_size (by repeat (first|(with_reducible first|exact HB.out|apply lA|apply lN|apply lD)|exact HB.out))) : w.heap.size ≤ gb244));clear HB;have HB := n0_;have BK244 := n1_;have GW244 := n2_;have GE244 := n3_;clear n0_ n1_ n2_ n3_;clear hb hbox hg;have hcz12_0 : w11.cell? ⟨gb244,0,none⟩ = some (.string a0_0) := (blk_cell BK244.out 0).trans rfl;have hcz12_1 : w11.cell? ⟨gb244,1,none⟩ = some (.string a0_1) := (blk_cell BK244.out 1).trans rfl;have hcz12_2 : w11.cell? ⟨gb244,2,none⟩ = some (.int .i64 a0_2) := (blk_cell BK244.out 2).trans rfl;have hfz12_0 := blk_frozen BK244.out 0;have hfz12_1 := blk_frozen BK244.out 1;have hfz12_2 := blk_frozen BK244.out 2)|((with_reducible refine gate_callee (f := 23) rfl ?_);refine goesL_ (some 7) rfl rfl Tryd.func23 (by kernel_rfl) rfl #[.agg #[.string a0_0,.string a0_1,.int .i64 a0_2]] rfl (by (try simp only [List.map_toArray,List.map_cons,List.map_nil]);first|done|rfl|(simp only [List.length_drop,List.length_take];rfl)) ?_;(with_reducible refine (impl_IsValidLog.calls k a0_0 a0_1 a0_2 false _ ?side1 A2.out).mono ?_);(case side1 => exact Gw.below HG.out (by repeat (first|(with_reducible first|exact HB.out|apply lA|apply lN|apply lD|refine below_set ?_ GE244.out)|exact HB.out)));rintro e w13 ⟨rfl,hb⟩;refine ⟨_,rfl,?_⟩;have n0_ := Aside0.mk (blk_below (g := gb244) (o := .cells #[.string a0_0,.string a0_1,.int .i64 a0_2] 31 (0,0)) (by (with_reducible repeat (first|refine bN ?_ _|refine bD ?_|refine bA ?_ _));exact BK244.out) hb);have n1_ := Aside0.mk (below_step (by repeat (first|(with_reducible first|exact HB.out|apply lA|apply lN|apply lD|refine below_set ?_ GE244.out)|exact HB.out)) hb);clear BK244;clear HB;have BK244 := n0_;have HB := n1_;clear n0_ n1_;(try clear hb);(try clear hb2);(try clear hk);(try clear hi)))
  go_ret2
  exact ⟨_,by first|rfl|(simp [errW_none,errW_some] <;> rfl)|(simp [*,errW_none,errW_some] <;> rfl),by first|exact Kd.R_nil _ _ _ _ _|exact Kd.N_nil _ _ _ _ _|exact Kd.V_nil _ _ _ _ _|exact Kd.Q_nil _ _ _ _ _|exact Kd.S_nil _ _ _ _ _,by repeat (first|(with_reducible first|exact HB.out|apply lA|apply lN|apply lD|refine below_set ?_ GE244.out)|exact HB.out)⟩
def laws_vBig.f (l0 : List Int) : Option (Bool) := some (decide ((l0.length : Int) > 65536))
set_option maxHeartbeats 8000000 in
set_option maxRecDepth 100000 in
theorem laws_vBig.calls (A0 : Option Addr) (c0 : Nat) (l0 : List Int) (r : Bool) (w : World) (hr0 : Kd.C (Kd.int .u8) w A0 l0.length l0) (hc0 : l0.length ≤ c0) (h : laws_vBig.f l0 = some r) :
  Calls Tryd.prog 35 #[.slice A0 l0.length c0] w fun e w' => e = .returned (.bool r) ∧ Drawn0 w w' := by
 have HR0 := Aside0.mk hr0
 have HC0 := Aside0.mk hc0
 clear hr0 hc0
 have H : (some (decide ((l0.length : Int) > 65536))) = some r := h
 clear h
 obtain rfl := Option.some.inj H
 simp only [Option.some.injEq,Prod.mk.injEq] at H
 obtain ⟨rfl⟩ := H
 go_enter Tryd.func35,Tryd.ntmps35
 go_wp2
 go_ret
 exact ⟨by first|rfl|(simp;done)|(simp [my_isEmpty];done)|(simp [*];done),by repeat (first|exact Drawn0.refl _|apply Drawn0.step)⟩
end Go.Proofs.YtinbbjfnebhlkaaDoor.P
