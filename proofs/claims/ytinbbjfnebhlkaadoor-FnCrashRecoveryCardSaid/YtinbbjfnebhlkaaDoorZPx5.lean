/- Written by a program in this session: each theorem here says that a Go function computes the Lean function beside it, or that a law's row holds, under the conditions that the theorem itself states. -/
import Derived.Test.YtinbbjfnebhlkaaDoorZPx0
import Derived.Test.YtinbbjfnebhlkaaDoorZPx2
import Derived.Test.YtinbbjfnebhlkaaDoorZPx4
import Derived.Lib.AppendIntMem
import Derived.Test.YtinbbjfnebhlkaaDoorZShelf
namespace Go.Proofs.YtinbbjfnebhlkaaDoor.P
open Go.RowKit Go.Proofs.YtinbbjfnebhlkaaDoorW.PrintWords Go.Proofs.YtinbbjfnebhlkaaDoorW.PrintLast Go.Proofs.YtinbbjfnebhlkaaDoorW.PrintMore
attribute [local go_sem] max2_int min2_int max_two min_two max_three min_three max_four min_four   -- for this text's walks alone
set_option linter.unusedVariables false
set_option linter.unusedSimpArgs false
def spec_l26Log.f (k : Nat) (a0_0 : ByteArray) (a0_1 : ByteArray) (a0_2 : Int) : Option (Bool) := if (wrap64 ((a0_0.size : Int) + (a0_1.size : Int))) > 30000 then (some false) else (if a0_0.size + a0_1.size ≤ 9223372036854775807 then ((spec_l26Open.f k (a0_0 ++ a0_1)).bind fun bt155 => ((spec_l26Open.f k a0_0).bind fun bt159 => (if bt155.2 = (wrap64 ((a0_0.size : Int) + (a0_1.size : Int))) then (if bt159.2 = (a0_0.size : Int) then (some ((bt155.1.length : Int) == a0_2)) else (some false)) else (some false)))) else (none))
theorem spec_l26Log.mono : ∀ a0 a1 a2 k,LeO (spec_l26Log.f k a0 a1 a2) (spec_l26Log.f (k + 1) a0 a1 a2) := by
 intro a0 a1 a2 k
 unfold spec_l26Log.f
 repeat' first
   | (with_reducible exact spec_l26Open.mono _ _)
   | (with_reducible exact LeO.refl _)
   | (with_reducible exact LeO.none _)
   | (with_reducible refine LeO.ite ?_ ?_)
   | (with_reducible refine LeO.bind ?_ (fun _ => ?_))
   | exact spec_l26Open.mono _ _
   | exact LeO.none _
   | refine LeO.ite ?_ ?_
   | refine LeO.bind ?_ (fun _ => ?_)
set_option maxHeartbeats 8000000 in
set_option maxRecDepth 100000 in
theorem spec_l26Log.calls (k : Nat) (a0_0 : ByteArray) (a0_1 : ByteArray) (a0_2 : Int) (r : Bool) (w : World) (h : spec_l26Log.f k a0_0 a0_1 a0_2 = some r) :
  Calls Tryd.prog 49 #[.agg #[.string a0_0,.string a0_1,.int .i64 a0_2]] w fun e w' => e = .returned (.bool r) ∧ Below w.heap.size w w' := by
 have hu31 := Tryd.underlying31
 have HB := Aside0.mk (Below.refl w.heap.size w)
 have H : (if (wrap64 ((a0_0.size : Int) + (a0_1.size : Int))) > 30000 then (some false) else (if a0_0.size + a0_1.size ≤ 9223372036854775807 then ((spec_l26Open.f k (a0_0 ++ a0_1)).bind fun bt155 => ((spec_l26Open.f k a0_0).bind fun bt159 => (if bt155.2 = (wrap64 ((a0_0.size : Int) + (a0_1.size : Int))) then (if bt159.2 = (a0_0.size : Int) then (some ((bt155.1.length : Int) == a0_2)) else (some false)) else (some false)))) else (none))) = some r := h
 clear h
 by_cases c2 : (wrap64 ((a0_0.size : Int) + (a0_1.size : Int))) > 30000
 ·rw [if_pos c2] at H
  have c2b0 : decide (30000 < (wrap64 ((a0_0.size : Int) + (a0_1.size : Int)))) = true := decide_eq_true c2
  clear c2
  obtain rfl := Option.some.inj H
  simp only [Option.some.injEq,Prod.mk.injEq] at H
  obtain ⟨rfl⟩ := H
  go_enter Tryd.func49,Tryd.ntmps49
  go_wp2_with (first|((with_reducible refine gate_dst (N := 1) rfl ?_);(try (refine gate_guard (by rfl) ?_;dsimp only));refine box_event ?hg (N := 1) ?hd (cs := #[.string a0_0,.string a0_1,.int .i64 a0_2]) (t := 31) ?hr ?_;(case hd => rfl);(case hg => rfl);(case hr => first|(go_simp;done)|(go_simp;rfl));intro gb154 hg w3 hbox hb;have n0_ := Aside0.mk (below_step (by repeat (first|(with_reducible first|exact HB.out|apply lA|apply lN|apply lD)|exact HB.out)) hb);have n1_ := Aside0.mk (hbox);have n2_ := Aside0.mk ((by rw [hg];exact (below_size (by repeat (first|(with_reducible first|exact HB.out|apply lA|apply lN|apply lD)|exact HB.out))) : w.heap.size ≤ gb154));have n3_ := Aside0.mk ((by rw [hg];exact (below_size (by repeat (first|(with_reducible first|exact HB.out|apply lA|apply lN|apply lD)|exact HB.out))) : w.heap.size ≤ gb154));clear HB;have HB := n0_;have BK154 := n1_;have GW154 := n2_;have GE154 := n3_;clear n0_ n1_ n2_ n3_;clear hb hbox hg;have hcz4_0 : w3.cell? ⟨gb154,0,none⟩ = some (.string a0_0) := (blk_cell BK154.out 0).trans rfl;have hcz4_1 : w3.cell? ⟨gb154,1,none⟩ = some (.string a0_1) := (blk_cell BK154.out 1).trans rfl;have hcz4_2 : w3.cell? ⟨gb154,2,none⟩ = some (.int .i64 a0_2) := (blk_cell BK154.out 2).trans rfl;have hfz4_0 := blk_frozen BK154.out 0;have hfz4_1 := blk_frozen BK154.out 1;have hfz4_2 := blk_frozen BK154.out 2))
  go_ret
  exact ⟨by first|rfl|(simp [errW_none,errW_some] <;> rfl)|(simp [*,errW_none,errW_some] <;> rfl),by repeat (first|(with_reducible first|exact HB.out|apply lA|apply lN|apply lD|refine below_set ?_ GE154.out)|exact HB.out)⟩
 ·rw [if_neg c2] at H
  have c2b0 : decide (30000 < (wrap64 ((a0_0.size : Int) + (a0_1.size : Int)))) = false := decide_eq_false c2
  clear c2
  by_cases c5 : a0_0.size + a0_1.size ≤ 9223372036854775807
  ·rw [if_pos c5] at H
   have c5b0 := eq_true c5
   have c5b1 : decide (a0_0.size + a0_1.size ≤ 9223372036854775807) = true := decide_eq_true c5
   try have c5b2 : (9223372036854775807 < a0_0.size + a0_1.size) = False := eq_false (Nat.not_lt.2 c5)
   have hw6 : wrap64 ((a0_0.size : Int) + (a0_1.size : Int)) = ((a0_0.size : Int) + (a0_1.size : Int)) := by unfold wrap64;omega
   replace H : ((spec_l26Open.f k (a0_0 ++ a0_1)).bind fun bt155 => ((spec_l26Open.f k a0_0).bind fun bt159 => (if bt155.2 = ((a0_0.size : Int) + (a0_1.size : Int)) then (if bt159.2 = (a0_0.size : Int) then (some ((bt155.1.length : Int) == a0_2)) else (some false)) else (some false)))) = some r := by simp only [hw6] at H;exact H
   (try simp only [hw6] at c2b0)
   replace H := Option.bind_eq_some_iff.mp H
   obtain ⟨⟨t155,t156⟩,A70,H⟩ := H
   replace H : ((spec_l26Open.f k a0_0).bind fun bt159 => (if t156 = ((a0_0.size : Int) + (a0_1.size : Int)) then (if bt159.2 = (a0_0.size : Int) then (some ((t155.length : Int) == a0_2)) else (some false)) else (some false))) = some r := H
   have A7 := Aside0.mk A70
   clear A70
   replace H := Option.bind_eq_some_iff.mp H
   obtain ⟨⟨t159,t160⟩,A80,H⟩ := H
   replace H : (if t156 = ((a0_0.size : Int) + (a0_1.size : Int)) then (if t160 = (a0_0.size : Int) then (some ((t155.length : Int) == a0_2)) else (some false)) else (some false)) = some r := H
   have A8 := Aside0.mk A80
   clear A80
   by_cases c9 : t156 = ((a0_0.size : Int) + (a0_1.size : Int))
   ·rw [if_pos c9] at H
    have c9b0 : (t156 == ((a0_0.size : Int) + (a0_1.size : Int))) = true := beq_iff_eq.mpr c9
    have c9b1 : (t156 != ((a0_0.size : Int) + (a0_1.size : Int))) = false := bne_eq_false_iff_eq.mpr c9
    clear c9
    by_cases c10 : t160 = (a0_0.size : Int)
    ·rw [if_pos c10] at H
     have c10b0 : (t160 == (a0_0.size : Int)) = true := beq_iff_eq.mpr c10
     have c10b1 : (t160 != (a0_0.size : Int)) = false := bne_eq_false_iff_eq.mpr c10
     clear c10
     obtain rfl := Option.some.inj H
     simp only [Option.some.injEq,Prod.mk.injEq] at H
     obtain ⟨rfl⟩ := H
     go_enter Tryd.func49,Tryd.ntmps49
     go_wp2_with (first|((with_reducible refine gate_dst (N := 1) rfl ?_);(try (refine gate_guard (by rfl) ?_;dsimp only));refine box_event ?hg (N := 1) ?hd (cs := #[.string a0_0,.string a0_1,.int .i64 a0_2]) (t := 31) ?hr ?_;(case hd => rfl);(case hg => rfl);(case hr => first|(go_simp;done)|(go_simp;rfl));intro gb154 hg w11 hbox hb;have n0_ := Aside0.mk (below_step (by repeat (first|(with_reducible first|exact HB.out|apply lA|apply lN|apply lD)|exact HB.out)) hb);have n1_ := Aside0.mk (hbox);have n2_ := Aside0.mk ((by rw [hg];exact (below_size (by repeat (first|(with_reducible first|exact HB.out|apply lA|apply lN|apply lD)|exact HB.out))) : w.heap.size ≤ gb154));have n3_ := Aside0.mk ((by rw [hg];exact (below_size (by repeat (first|(with_reducible first|exact HB.out|apply lA|apply lN|apply lD)|exact HB.out))) : w.heap.size ≤ gb154));clear HB;have HB := n0_;have BK154 := n1_;have GW154 := n2_;have GE154 := n3_;clear n0_ n1_ n2_ n3_;clear hb hbox hg;have hcz12_0 : w11.cell? ⟨gb154,0,none⟩ = some (.string a0_0) := (blk_cell BK154.out 0).trans rfl;have hcz12_1 : w11.cell? ⟨gb154,1,none⟩ = some (.string a0_1) := (blk_cell BK154.out 1).trans rfl;have hcz12_2 : w11.cell? ⟨gb154,2,none⟩ = some (.int .i64 a0_2) := (blk_cell BK154.out 2).trans rfl;have hfz12_0 := blk_frozen BK154.out 0;have hfz12_1 := blk_frozen BK154.out 1;have hfz12_2 := blk_frozen BK154.out 2)|((with_reducible refine gate_callee (f := 47) rfl ?_);refine goesL_ (some 21) rfl rfl Tryd.func47 (by kernel_rfl) rfl #[.string (a0_0 ++ a0_1)] rfl (by (try simp only [List.map_toArray,List.map_cons,List.map_nil]);first|done|rfl|(simp only [List.length_drop,List.length_take];rfl)) ?_;(with_reducible refine (spec_l26Open.calls k (a0_0 ++ a0_1) t155 t156 _ A7.out).mono ?_);rintro e w13 ⟨v157,rfl,ho0,hb⟩;refine ⟨_,rfl,?_⟩;have n0_ := Aside0.mk (Kd.R_lower ho0 (below_size (by repeat (first|(with_reducible first|exact HB.out|apply lA|apply lN|apply lD|refine below_set ?_ GE154.out)|exact HB.out))));have n1_ := Aside0.mk (blk_below (g := gb154) (o := .cells #[.string a0_0,.string a0_1,.int .i64 a0_2] 31 (0,0)) (by (with_reducible repeat (first|refine bN ?_ _|refine bD ?_|refine bA ?_ _));exact BK154.out) hb);have n2_ := Aside0.mk (below_step (by repeat (first|(with_reducible first|exact HB.out|apply lA|apply lN|apply lD|refine below_set ?_ GE154.out)|exact HB.out)) hb);clear BK154;clear HB;have HO158 := n0_;have BK154 := n1_;have HB := n2_;clear n0_ n1_ n2_;(try clear hb);(try clear hb2);(try clear hk);(try clear hi);(try clear ho0);have hcz14_0 : w13.cell? ⟨gb154,0,none⟩ = some (.string a0_0) := (blk_cell BK154.out 0).trans rfl;have hcz14_1 : w13.cell? ⟨gb154,1,none⟩ = some (.string a0_1) := (blk_cell BK154.out 1).trans rfl;have hcz14_2 : w13.cell? ⟨gb154,2,none⟩ = some (.int .i64 a0_2) := (blk_cell BK154.out 2).trans rfl;have hfz14_0 := blk_frozen BK154.out 0;have hfz14_1 := blk_frozen BK154.out 1;have hfz14_2 := blk_frozen BK154.out 2)|((with_reducible refine gate_callee (f := 47) rfl ?_);refine goesL_ (some 27) rfl rfl Tryd.func47 (by kernel_rfl) rfl #[.string a0_0] rfl (by (try simp only [List.map_toArray,List.map_cons,List.map_nil]);first|done|rfl|(simp only [List.length_drop,List.length_take];rfl)) ?_;(with_reducible refine (spec_l26Open.calls k a0_0 t159 t160 _ A8.out).mono ?_);rintro e w15 ⟨v161,rfl,ho0,hb⟩;refine ⟨_,rfl,?_⟩;have n0_ := Aside0.mk (Kd.R_elder' (by (with_reducible repeat (first|apply Kd.R_alloc|apply Kd.R_drewN|apply Kd.R_drew));exact HO158.out) (Kd.R_base ho0) hb);have n1_ := Aside0.mk (Kd.R_lower (Kd.R_new' ho0 (Kd.R_lt (by (with_reducible repeat (first|apply Kd.R_alloc|apply Kd.R_drewN|apply Kd.R_drew));exact HO158.out))) (below_size (by repeat (first|(with_reducible first|exact HB.out|apply lA|apply lN|apply lD|refine below_set ?_ GE154.out)|exact HB.out))));have n2_ := Aside0.mk (blk_below (g := gb154) (o := .cells #[.string a0_0,.string a0_1,.int .i64 a0_2] 31 (0,0)) (by (with_reducible repeat (first|refine bN ?_ _|refine bD ?_|refine bA ?_ _));exact BK154.out) hb);have n3_ := Aside0.mk (below_step (by repeat (first|(with_reducible first|exact HB.out|apply lA|apply lN|apply lD|refine below_set ?_ GE154.out)|exact HB.out)) hb);clear HO158;clear BK154;clear HB;have HO158 := n0_;have HO162 := n1_;have BK154 := n2_;have HB := n3_;clear n0_ n1_ n2_ n3_;(try clear hb);(try clear hb2);(try clear hk);(try clear hi);(try clear ho0);have hcz16_0 : w15.cell? ⟨gb154,0,none⟩ = some (.string a0_0) := (blk_cell BK154.out 0).trans rfl;have hcz16_1 : w15.cell? ⟨gb154,1,none⟩ = some (.string a0_1) := (blk_cell BK154.out 1).trans rfl;have hcz16_2 : w15.cell? ⟨gb154,2,none⟩ = some (.int .i64 a0_2) := (blk_cell BK154.out 2).trans rfl;have hfz16_0 := blk_frozen BK154.out 0;have hfz16_1 := blk_frozen BK154.out 1;have hfz16_2 := blk_frozen BK154.out 2;obtain ⟨Ao17,co17,eo17⟩ := Kd.R_slice HO158.out;subst eo17))
     go_ret
     exact ⟨by first|rfl|(simp [errW_none,errW_some] <;> rfl)|(simp [*,errW_none,errW_some] <;> rfl),by repeat (first|(with_reducible first|exact HB.out|apply lA|apply lN|apply lD|refine below_set ?_ GE154.out)|exact HB.out)⟩
    ·rw [if_neg c10] at H
     have c10b0 : (t160 == (a0_0.size : Int)) = false := beq_eq_false_iff_ne.mpr c10
     have c10b1 : (t160 != (a0_0.size : Int)) = true := bne_iff_ne.mpr c10
     obtain rfl := Option.some.inj H
     simp only [Option.some.injEq,Prod.mk.injEq] at H
     obtain ⟨rfl⟩ := H
     go_enter Tryd.func49,Tryd.ntmps49
     go_wp2_with (first|((with_reducible refine gate_dst (N := 1) rfl ?_);(try (refine gate_guard (by rfl) ?_;dsimp only));refine box_event ?hg (N := 1) ?hd (cs := #[.string a0_0,.string a0_1,.int .i64 a0_2]) (t := 31) ?hr ?_;(case hd => rfl);(case hg => rfl);(case hr => first|(go_simp;done)|(go_simp;rfl));intro gb154 hg w18 hbox hb;have n0_ := Aside0.mk (below_step (by repeat (first|(with_reducible first|exact HB.out|apply lA|apply lN|apply lD)|exact HB.out)) hb);have n1_ := Aside0.mk (hbox);have n2_ := Aside0.mk ((by rw [hg];exact (below_size (by repeat (first|(with_reducible first|exact HB.out|apply lA|apply lN|apply lD)|exact HB.out))) : w.heap.size ≤ gb154));have n3_ := Aside0.mk ((by rw [hg];exact (below_size (by repeat (first|(with_reducible first|exact HB.out|apply lA|apply lN|apply lD)|exact HB.out))) : w.heap.size ≤ gb154));clear HB;have HB := n0_;have BK154 := n1_;have GW154 := n2_;have GE154 := n3_;clear n0_ n1_ n2_ n3_;clear hb hbox hg;have hcz19_0 : w18.cell? ⟨gb154,0,none⟩ = some (.string a0_0) := (blk_cell BK154.out 0).trans rfl;have hcz19_1 : w18.cell? ⟨gb154,1,none⟩ = some (.string a0_1) := (blk_cell BK154.out 1).trans rfl;have hcz19_2 : w18.cell? ⟨gb154,2,none⟩ = some (.int .i64 a0_2) := (blk_cell BK154.out 2).trans rfl;have hfz19_0 := blk_frozen BK154.out 0;have hfz19_1 := blk_frozen BK154.out 1;have hfz19_2 := blk_frozen BK154.out 2)|((with_reducible refine gate_callee (f := 47) rfl ?_);refine goesL_ (some 21) rfl rfl Tryd.func47 (by kernel_rfl) rfl #[.string (a0_0 ++ a0_1)] rfl (by (try simp only [List.map_toArray,List.map_cons,List.map_nil]);first|done|rfl|(simp only [List.length_drop,List.length_take];rfl)) ?_;(with_reducible refine (spec_l26Open.calls k (a0_0 ++ a0_1) t155 t156 _ A7.out).mono ?_);rintro e w20 ⟨v157,rfl,ho0,hb⟩;refine ⟨_,rfl,?_⟩;have n0_ := Aside0.mk (Kd.R_lower ho0 (below_size (by repeat (first|(with_reducible first|exact HB.out|apply lA|apply lN|apply lD|refine below_set ?_ GE154.out)|exact HB.out))));have n1_ := Aside0.mk (blk_below (g := gb154) (o := .cells #[.string a0_0,.string a0_1,.int .i64 a0_2] 31 (0,0)) (by (with_reducible repeat (first|refine bN ?_ _|refine bD ?_|refine bA ?_ _));exact BK154.out) hb);have n2_ := Aside0.mk (below_step (by repeat (first|(with_reducible first|exact HB.out|apply lA|apply lN|apply lD|refine below_set ?_ GE154.out)|exact HB.out)) hb);clear BK154;clear HB;have HO158 := n0_;have BK154 := n1_;have HB := n2_;clear n0_ n1_ n2_;(try clear hb);(try clear hb2);(try clear hk);(try clear hi);(try clear ho0);have hcz21_0 : w20.cell? ⟨gb154,0,none⟩ = some (.string a0_0) := (blk_cell BK154.out 0).trans rfl;have hcz21_1 : w20.cell? ⟨gb154,1,none⟩ = some (.string a0_1) := (blk_cell BK154.out 1).trans rfl;have hcz21_2 : w20.cell? ⟨gb154,2,none⟩ = some (.int .i64 a0_2) := (blk_cell BK154.out 2).trans rfl;have hfz21_0 := blk_frozen BK154.out 0;have hfz21_1 := blk_frozen BK154.out 1;have hfz21_2 := blk_frozen BK154.out 2)|((with_reducible refine gate_callee (f := 47) rfl ?_);refine goesL_ (some 27) rfl rfl Tryd.func47 (by kernel_rfl) rfl #[.string a0_0] rfl (by (try simp only [List.map_toArray,List.map_cons,List.map_nil]);first|done|rfl|(simp only [List.length_drop,List.length_take];rfl)) ?_;(with_reducible refine (spec_l26Open.calls k a0_0 t159 t160 _ A8.out).mono ?_);rintro e w22 ⟨v161,rfl,ho0,hb⟩;refine ⟨_,rfl,?_⟩;have n0_ := Aside0.mk (Kd.R_elder' (by (with_reducible repeat (first|apply Kd.R_alloc|apply Kd.R_drewN|apply Kd.R_drew));exact HO158.out) (Kd.R_base ho0) hb);have n1_ := Aside0.mk (Kd.R_lower (Kd.R_new' ho0 (Kd.R_lt (by (with_reducible repeat (first|apply Kd.R_alloc|apply Kd.R_drewN|apply Kd.R_drew));exact HO158.out))) (below_size (by repeat (first|(with_reducible first|exact HB.out|apply lA|apply lN|apply lD|refine below_set ?_ GE154.out)|exact HB.out))));have n2_ := Aside0.mk (blk_below (g := gb154) (o := .cells #[.string a0_0,.string a0_1,.int .i64 a0_2] 31 (0,0)) (by (with_reducible repeat (first|refine bN ?_ _|refine bD ?_|refine bA ?_ _));exact BK154.out) hb);have n3_ := Aside0.mk (below_step (by repeat (first|(with_reducible first|exact HB.out|apply lA|apply lN|apply lD|refine below_set ?_ GE154.out)|exact HB.out)) hb);clear HO158;clear BK154;clear HB;have HO158 := n0_;have HO162 := n1_;have BK154 := n2_;have HB := n3_;clear n0_ n1_ n2_ n3_;(try clear hb);(try clear hb2);(try clear hk);(try clear hi);(try clear ho0);have hcz23_0 : w22.cell? ⟨gb154,0,none⟩ = some (.string a0_0) := (blk_cell BK154.out 0).trans rfl;have hcz23_1 : w22.cell? ⟨gb154,1,none⟩ = some (.string a0_1) := (blk_cell BK154.out 1).trans rfl;have hcz23_2 : w22.cell? ⟨gb154,2,none⟩ = some (.int .i64 a0_2) := (blk_cell BK154.out 2).trans rfl;have hfz23_0 := blk_frozen BK154.out 0;have hfz23_1 := blk_frozen BK154.out 1;have hfz23_2 := blk_frozen BK154.out 2))
     go_ret
     exact ⟨by first|rfl|(simp [errW_none,errW_some] <;> rfl)|(simp [*,errW_none,errW_some] <;> rfl),by repeat (first|(with_reducible first|exact HB.out|apply lA|apply lN|apply lD|refine below_set ?_ GE154.out)|exact HB.out)⟩
   ·rw [if_neg c9] at H
    have c9b0 : (t156 == ((a0_0.size : Int) + (a0_1.size : Int))) = false := beq_eq_false_iff_ne.mpr c9
    have c9b1 : (t156 != ((a0_0.size : Int) + (a0_1.size : Int))) = true := bne_iff_ne.mpr c9
    obtain rfl := Option.some.inj H
    simp only [Option.some.injEq,Prod.mk.injEq] at H
    obtain ⟨rfl⟩ := H
    go_enter Tryd.func49,Tryd.ntmps49
    go_wp2_with (first|((with_reducible refine gate_dst (N := 1) rfl ?_);(try (refine gate_guard (by rfl) ?_;dsimp only));refine box_event ?hg (N := 1) ?hd (cs := #[.string a0_0,.string a0_1,.int .i64 a0_2]) (t := 31) ?hr ?_;(case hd => rfl);(case hg => rfl);(case hr => first|(go_simp;done)|(go_simp;rfl));intro gb154 hg w24 hbox hb;have n0_ := Aside0.mk (below_step (by repeat (first|(with_reducible first|exact HB.out|apply lA|apply lN|apply lD)|exact HB.out)) hb);have n1_ := Aside0.mk (hbox);have n2_ := Aside0.mk ((by rw [hg];exact (below_size (by repeat (first|(with_reducible first|exact HB.out|apply lA|apply lN|apply lD)|exact HB.out))) : w.heap.size ≤ gb154));have n3_ := Aside0.mk ((by rw [hg];exact (below_size (by repeat (first|(with_reducible first|exact HB.out|apply lA|apply lN|apply lD)|exact HB.out))) : w.heap.size ≤ gb154));clear HB;have HB := n0_;have BK154 := n1_;have GW154 := n2_;have GE154 := n3_;clear n0_ n1_ n2_ n3_;clear hb hbox hg;have hcz25_0 : w24.cell? ⟨gb154,0,none⟩ = some (.string a0_0) := (blk_cell BK154.out 0).trans rfl;have hcz25_1 : w24.cell? ⟨gb154,1,none⟩ = some (.string a0_1) := (blk_cell BK154.out 1).trans rfl;have hcz25_2 : w24.cell? ⟨gb154,2,none⟩ = some (.int .i64 a0_2) := (blk_cell BK154.out 2).trans rfl;have hfz25_0 := blk_frozen BK154.out 0;have hfz25_1 := blk_frozen BK154.out 1;have hfz25_2 := blk_frozen BK154.out 2)|((with_reducible refine gate_callee (f := 47) rfl ?_);refine goesL_ (some 21) rfl rfl Tryd.func47 (by kernel_rfl) rfl #[.string (a0_0 ++ a0_1)] rfl (by (try simp only [List.map_toArray,List.map_cons,List.map_nil]);first|done|rfl|(simp only [List.length_drop,List.length_take];rfl)) ?_;(with_reducible refine (spec_l26Open.calls k (a0_0 ++ a0_1) t155 t156 _ A7.out).mono ?_);rintro e w26 ⟨v157,rfl,ho0,hb⟩;refine ⟨_,rfl,?_⟩;have n0_ := Aside0.mk (Kd.R_lower ho0 (below_size (by repeat (first|(with_reducible first|exact HB.out|apply lA|apply lN|apply lD|refine below_set ?_ GE154.out)|exact HB.out))));have n1_ := Aside0.mk (blk_below (g := gb154) (o := .cells #[.string a0_0,.string a0_1,.int .i64 a0_2] 31 (0,0)) (by (with_reducible repeat (first|refine bN ?_ _|refine bD ?_|refine bA ?_ _));exact BK154.out) hb);have n2_ := Aside0.mk (below_step (by repeat (first|(with_reducible first|exact HB.out|apply lA|apply lN|apply lD|refine below_set ?_ GE154.out)|exact HB.out)) hb);clear BK154;clear HB;have HO158 := n0_;have BK154 := n1_;have HB := n2_;clear n0_ n1_ n2_;(try clear hb);(try clear hb2);(try clear hk);(try clear hi);(try clear ho0);have hcz27_0 : w26.cell? ⟨gb154,0,none⟩ = some (.string a0_0) := (blk_cell BK154.out 0).trans rfl;have hcz27_1 : w26.cell? ⟨gb154,1,none⟩ = some (.string a0_1) := (blk_cell BK154.out 1).trans rfl;have hcz27_2 : w26.cell? ⟨gb154,2,none⟩ = some (.int .i64 a0_2) := (blk_cell BK154.out 2).trans rfl;have hfz27_0 := blk_frozen BK154.out 0;have hfz27_1 := blk_frozen BK154.out 1;have hfz27_2 := blk_frozen BK154.out 2)|((with_reducible refine gate_callee (f := 47) rfl ?_);refine goesL_ (some 27) rfl rfl Tryd.func47 (by kernel_rfl) rfl #[.string a0_0] rfl (by (try simp only [List.map_toArray,List.map_cons,List.map_nil]);first|done|rfl|(simp only [List.length_drop,List.length_take];rfl)) ?_;(with_reducible refine (spec_l26Open.calls k a0_0 t159 t160 _ A8.out).mono ?_);rintro e w28 ⟨v161,rfl,ho0,hb⟩;refine ⟨_,rfl,?_⟩;have n0_ := Aside0.mk (Kd.R_elder' (by (with_reducible repeat (first|apply Kd.R_alloc|apply Kd.R_drewN|apply Kd.R_drew));exact HO158.out) (Kd.R_base ho0) hb);have n1_ := Aside0.mk (Kd.R_lower (Kd.R_new' ho0 (Kd.R_lt (by (with_reducible repeat (first|apply Kd.R_alloc|apply Kd.R_drewN|apply Kd.R_drew));exact HO158.out))) (below_size (by repeat (first|(with_reducible first|exact HB.out|apply lA|apply lN|apply lD|refine below_set ?_ GE154.out)|exact HB.out))));have n2_ := Aside0.mk (blk_below (g := gb154) (o := .cells #[.string a0_0,.string a0_1,.int .i64 a0_2] 31 (0,0)) (by (with_reducible repeat (first|refine bN ?_ _|refine bD ?_|refine bA ?_ _));exact BK154.out) hb);have n3_ := Aside0.mk (below_step (by repeat (first|(with_reducible first|exact HB.out|apply lA|apply lN|apply lD|refine below_set ?_ GE154.out)|exact HB.out)) hb);clear HO158;clear BK154;clear HB;have HO158 := n0_;have HO162 := n1_;have BK154 := n2_;have HB := n3_;clear n0_ n1_ n2_ n3_;(try clear hb);(try clear hb2);(try clear hk);(try clear hi);(try clear ho0);have hcz29_0 : w28.cell? ⟨gb154,0,none⟩ = some (.string a0_0) := (blk_cell BK154.out 0).trans rfl;have hcz29_1 : w28.cell? ⟨gb154,1,none⟩ = some (.string a0_1) := (blk_cell BK154.out 1).trans rfl;have hcz29_2 : w28.cell? ⟨gb154,2,none⟩ = some (.int .i64 a0_2) := (blk_cell BK154.out 2).trans rfl;have hfz29_0 := blk_frozen BK154.out 0;have hfz29_1 := blk_frozen BK154.out 1;have hfz29_2 := blk_frozen BK154.out 2))
    go_ret
    exact ⟨by first|rfl|(simp [errW_none,errW_some] <;> rfl)|(simp [*,errW_none,errW_some] <;> rfl),by repeat (first|(with_reducible first|exact HB.out|apply lA|apply lN|apply lD|refine below_set ?_ GE154.out)|exact HB.out)⟩
  ·rw [if_neg c5] at H
   exact absurd H (by simp)
def spec_CrashLog.f (k : Nat) (a0_0 a0_1 : ByteArray) (a0_2 a1 : Int) (a2 : Bool) : Option (ByteArray × Bool) :=
 (spec_l26Log.f k a0_0 a0_1 a0_2).bind fun t => if t = true then (if 0 ≤ a1 ∧ a1 ≤ (a0_1.size : Int) then (if a0_0.size + a0_1.size ≤ 9223372036854775807 then some (a0_0 ++ tornB (a0_1.extract 0 a1.toNat) a2,true) else none) else some ((⟨#[]⟩ : ByteArray),false)) else some ((⟨#[]⟩ : ByteArray),false)
theorem spec_CrashLog.mono : ∀ a0 a1 a2 a3 a4 k,LeO (spec_CrashLog.f k a0 a1 a2 a3 a4) (spec_CrashLog.f (k + 1) a0 a1 a2 a3 a4) := by
 intro a0 a1 a2 a3 a4 k
 unfold spec_CrashLog.f
 repeat' first
  | (with_reducible exact spec_l26Log.mono _ _ _ _)
  | (with_reducible exact LeO.refl _)
  | (with_reducible exact LeO.none _)
  | (with_reducible refine LeO.ite ?_ ?_)
  | (with_reducible refine LeO.bind ?_ (fun _ => ?_))
set_option maxHeartbeats 8000000 in
set_option maxRecDepth 100000 in
theorem spec_CrashLog.calls (k : Nat) (a0_0 a0_1 : ByteArray) (a0_2 a1 : Int) (a2 : Bool) (r1 : ByteArray) (r2 : Bool) (w : World) (h : spec_CrashLog.f k a0_0 a0_1 a0_2 a1 a2 = some (r1,r2)) :
  Calls Tryd.prog 24 #[.agg #[.string a0_0,.string a0_1,.int .i64 a0_2],.int .i64 a1,.bool a2] w fun e w' => e = .returned (.tuple #[.string r1,.bool r2]) ∧ Below w.heap.size w w' := by
 have hu31 := Tryd.underlying31
 have HB := Aside0.mk (Below.refl w.heap.size w)
 unfold spec_CrashLog.f at h
 obtain ⟨t,ht,h⟩ := Option.bind_eq_some_iff.1 h
 have HT := Aside0.mk ht
 clear ht
 cases t with
 | false =>
  rw [if_neg Bool.false_ne_true] at h
  simp only [Option.some.injEq,Prod.mk.injEq] at h
  obtain ⟨rfl,rfl⟩ := h
  go_enter Tryd.func24,Tryd.ntmps24
  go_wp2_with (first
   | ((with_reducible refine gate_dst (N := 3) rfl ?_);refine box_event ?hg (N := 3) ?hd (cs := #[.string a0_0,.string a0_1,.int .i64 a0_2]) (t := 31) ?hr ?_;(case hd => rfl);(case hg => rfl);(case hr => first|(go_simp;done)|(go_simp;rfl));intro gb hg w6 hbox hb;have HB6 := Aside0.mk (below_step HB.out hb);have hc0 : w6.cell? ⟨gb,0,none⟩ = some (.string a0_0) := (blk_cell hbox 0).trans rfl;have hc1 : w6.cell? ⟨gb,1,none⟩ = some (.string a0_1) := (blk_cell hbox 1).trans rfl;have hc2 : w6.cell? ⟨gb,2,none⟩ = some (.int .i64 a0_2) := (blk_cell hbox 2).trans rfl;have HBK := Aside0.mk hbox;clear hb hbox hg)
   | (go_at_call 49;(with_reducible refine (spec_l26Log.calls k a0_0 a0_1 a0_2 false _ HT.out).mono ?_);rintro e w2 ⟨rfl,hb⟩;have HB2 := Aside0.mk (below_step HB6.out hb);clear hb hc0 hc1 hc2))
  go_ret2
  exact ⟨rfl,HB2.out⟩
 | true =>
  rw [if_pos rfl] at h
  by_cases hk : 0 ≤ a1 ∧ a1 ≤ (a0_1.size : Int)
  ·rw [if_pos hk] at h
   by_cases hs : a0_0.size + a0_1.size ≤ 9223372036854775807
   ·rw [if_pos hs] at h
    simp only [Option.some.injEq,Prod.mk.injEq] at h
    obtain ⟨rfl,rfl⟩ := h
    obtain ⟨k0,k1⟩ := hk
    have hI : spec_l1In.f a1 0 (a0_1.size : Int) = some true := by unfold spec_l1In.f;rw [if_pos k0];simp [k1]
    have HI := Aside0.mk hI
    clear hI
    obtain ⟨m,rfl⟩ : ∃ m : Nat,a1 = (m : Int) := ⟨a1.toNat,by omega⟩
    have hm : m ≤ a0_1.size := by omega
    rw [Int.toNat_natCast]
    have hz : (a0_1.extract 0 m).size = m := by rw [ByteArray.size_extract];omega
    have HZ := Aside0.mk hz
    have hlen : (bytesOf (a0_1.extract 0 m)).length = m := by rw [bytesOf_length];exact hz
    have HLEN := Aside0.mk hlen
    have hmm : (m : Int) ≤ 9223372036854775807 := by omega
    have k2 : decide ((m : Int) ≤ (a0_1.size : Int)) = true := decide_eq_true k1
    obtain ⟨T,hT⟩ : ∃ T,tornB (a0_1.extract 0 m) a2 = T := ⟨_,rfl⟩
    have HTT := Aside0.mk hT
    have hTz : T.size ≤ a0_1.size := by
     rw [← hT,tornB_size,hz];exact hm
    rw [hT]
    have hle : a0_0.size + T.size ≤ 9223372036854775807 := by omega
    have hle2 : (9223372036854775807 < a0_0.size + T.size) = False := eq_false (Nat.not_lt.2 hle)
    clear hT hTz hle hs hm hz hlen
    cases a2 with
    | false =>
     have hts : strOfNums (bytesOf (a0_1.extract 0 m)) = T := by rw [← HTT.out];rfl
     have HTS := Aside0.mk hts
     clear hts
     go_enter Tryd.func24,Tryd.ntmps24
     go_wp2_with (first
      | ((with_reducible refine gate_dst (N := 3) rfl ?_);refine box_event ?hg (N := 3) ?hd (cs := #[.string a0_0,.string a0_1,.int .i64 a0_2]) (t := 31) ?hr ?_;(case hd => rfl);(case hg => rfl);(case hr => first|(go_simp;done)|(go_simp;rfl));intro gb hg w6 hbox hb;have HB6 := Aside0.mk (below_step HB.out hb);have hc0 : w6.cell? ⟨gb,0,none⟩ = some (.string a0_0) := (blk_cell hbox 0).trans rfl;have hc1 : w6.cell? ⟨gb,1,none⟩ = some (.string a0_1) := (blk_cell hbox 1).trans rfl;have hc2 : w6.cell? ⟨gb,2,none⟩ = some (.int .i64 a0_2) := (blk_cell hbox 2).trans rfl;have HBK := Aside0.mk hbox;clear hb hbox hg)
      | (go_at_call 49;(with_reducible refine (spec_l26Log.calls k a0_0 a0_1 a0_2 true _ HT.out).mono ?_);rintro e w2 ⟨rfl,hb⟩;have HB2 := Aside0.mk (below_step HB6.out hb);have hbk2 := blk_below HBK.out hb;clear hb hc0 hc1 hc2;have hc1 : w2.cell? ⟨gb,1,none⟩ = some (.string a0_1) := (blk_cell hbk2 1).trans rfl;have hc0 : w2.cell? ⟨gb,0,none⟩ = some (.string a0_0) := (blk_cell hbk2 0).trans rfl;have HBK2 := Aside0.mk hbk2;clear hbk2)
      | (go_at_call 42;(with_reducible refine (spec_l1In.calls ((m : Int)) 0 (a0_1.size : Int) true _ HI.out).mono ?_);rintro e w' ⟨rfl,⟨nd,rfl⟩⟩;obtain ⟨g,cap,W1,hcv,HR⟩ := conv_ex (P := Tryd.prog) (w2.drewN nd) 9 53 5 (a0_1.extract 0 m) Tryd.underlying9 Tryd.underlying53 Tryd.underlying5;rw [HZ.out] at hcv;have hd0 : W1.cell? ⟨gb,0,none⟩ = some (.string a0_0) := (blk_cell (blk_below (bN HBK2.out nd) HR.below) 0).trans rfl;have hn1 : gb ≠ g := (by have h1 := blk_lt (bN HBK2.out nd);have h2 := HR.new;intro e_;omega);have hn2 : g ≠ gb := hn1.symm;have ht := HR.text 53 5 9 Tryd.underlying53 Tryd.underlying5 Tryd.underlying9 m cap HLEN.out;rw [HTS.out] at ht;clear hc0;have HR := Aside0.mk HR))
     go_ret2
     exact ⟨rfl,Below.trans (lN HB2.out _) (HR.out.below.mono (by have := HB2.out.size;simp;omega))⟩
    | true =>
     cases m with
     | zero =>
      have he0 : a0_1.extract 0 0 = ByteArray.empty := by ext1;simp
      rw [he0] at HZ HLEN HTT
      have hts : strOfNums (bytesOf ByteArray.empty) = T := by rw [← HTT.out];unfold tornB;rw [if_neg (by rw [HZ.out];simp)]
      have HTS := Aside0.mk hts
      clear hts
      have e0 : ((0 : Nat) : Int) = 0 := rfl
      rw [e0] at HI k0 k1 k2 hmm ⊢
      go_enter Tryd.func24,Tryd.ntmps24
      go_wp2_with (first
       | ((with_reducible refine gate_dst (N := 3) rfl ?_);refine box_event ?hg (N := 3) ?hd (cs := #[.string a0_0,.string a0_1,.int .i64 a0_2]) (t := 31) ?hr ?_;(case hd => rfl);(case hg => rfl);(case hr => first|(go_simp;done)|(go_simp;rfl));intro gb hg w6 hbox hb;have HB6 := Aside0.mk (below_step HB.out hb);have hc0 : w6.cell? ⟨gb,0,none⟩ = some (.string a0_0) := (blk_cell hbox 0).trans rfl;have hc1 : w6.cell? ⟨gb,1,none⟩ = some (.string a0_1) := (blk_cell hbox 1).trans rfl;have hc2 : w6.cell? ⟨gb,2,none⟩ = some (.int .i64 a0_2) := (blk_cell hbox 2).trans rfl;have HBK := Aside0.mk hbox;clear hb hbox hg)
       | (go_at_call 49;(with_reducible refine (spec_l26Log.calls k a0_0 a0_1 a0_2 true _ HT.out).mono ?_);rintro e w2 ⟨rfl,hb⟩;have HB2 := Aside0.mk (below_step HB6.out hb);have hbk2 := blk_below HBK.out hb;clear hb hc0 hc1 hc2;have hc1 : w2.cell? ⟨gb,1,none⟩ = some (.string a0_1) := (blk_cell hbk2 1).trans rfl;have hc0 : w2.cell? ⟨gb,0,none⟩ = some (.string a0_0) := (blk_cell hbk2 0).trans rfl;have HBK2 := Aside0.mk hbk2;clear hbk2)
       | (go_at_call 42;(with_reducible refine (spec_l1In.calls (0) 0 (a0_1.size : Int) true _ HI.out).mono ?_);rintro e w' ⟨rfl,⟨nd,rfl⟩⟩;obtain ⟨g,cap,W1,hcv,HR⟩ := conv_ex (P := Tryd.prog) (w2.drewN nd) 9 53 5 ByteArray.empty Tryd.underlying9 Tryd.underlying53 Tryd.underlying5;rw [HZ.out] at hcv;have hd0 : W1.cell? ⟨gb,0,none⟩ = some (.string a0_0) := (blk_cell (blk_below (bN HBK2.out nd) HR.below) 0).trans rfl;have hn1 : gb ≠ g := (by have h1 := blk_lt (bN HBK2.out nd);have h2 := HR.new;intro e_;omega);have hn2 : g ≠ gb := hn1.symm;have ht := HR.text 53 5 9 Tryd.underlying53 Tryd.underlying5 Tryd.underlying9 0 cap HLEN.out;rw [HTS.out] at ht;clear hc0;have HR := Aside0.mk HR))
      go_ret2
      exact ⟨rfl,Below.trans (lN HB2.out _) (HR.out.below.mono (by have := HB2.out.size;simp;omega))⟩
     | succ q =>
      have e0 : ((q + 1 : Nat) : Int) = (q : Int) + 1 := rfl
      rw [e0] at HI k0 k1 k2 hmm ⊢
      have hts : strOfNums ((bytesOf (a0_1.extract 0 (q + 1))).set q (255 - (bytesOf (a0_1.extract 0 (q + 1))).getD q 0)) = T := by rw [← HTT.out];unfold tornB;rw [if_pos ⟨rfl,by rw [HZ.out];omega⟩,HZ.out];rfl
      have HTS := Aside0.mk hts
      have hq : (q : Int) ≤ 9223372036854775806 := by omega
      have hcr := bytesOf_range (a0_1.extract 0 (q + 1)) q
      obtain ⟨c,hc⟩ : ∃ c,(bytesOf (a0_1.extract 0 (q + 1))).getD q 0 = c := ⟨_,rfl⟩
      rw [hc] at hcr
      obtain ⟨hc_0,hc_1⟩ := hcr
      have HCC := Aside0.mk hc
      clear hts hc
      go_enter Tryd.func24,Tryd.ntmps24
      go_wp2_with (first
       | ((with_reducible refine gate_dst (N := 3) rfl ?_);refine box_event ?hg (N := 3) ?hd (cs := #[.string a0_0,.string a0_1,.int .i64 a0_2]) (t := 31) ?hr ?_;(case hd => rfl);(case hg => rfl);(case hr => first|(go_simp;done)|(go_simp;rfl));intro gb hg w6 hbox hb;have HB6 := Aside0.mk (below_step HB.out hb);have hc0 : w6.cell? ⟨gb,0,none⟩ = some (.string a0_0) := (blk_cell hbox 0).trans rfl;have hc1 : w6.cell? ⟨gb,1,none⟩ = some (.string a0_1) := (blk_cell hbox 1).trans rfl;have hc2 : w6.cell? ⟨gb,2,none⟩ = some (.int .i64 a0_2) := (blk_cell hbox 2).trans rfl;have HBK := Aside0.mk hbox;clear hb hbox hg)
       | (go_at_call 49;(with_reducible refine (spec_l26Log.calls k a0_0 a0_1 a0_2 true _ HT.out).mono ?_);rintro e w2 ⟨rfl,hb⟩;have HB2 := Aside0.mk (below_step HB6.out hb);have hbk2 := blk_below HBK.out hb;clear hb hc0 hc1 hc2;have hc1 : w2.cell? ⟨gb,1,none⟩ = some (.string a0_1) := (blk_cell hbk2 1).trans rfl;have hc0 : w2.cell? ⟨gb,0,none⟩ = some (.string a0_0) := (blk_cell hbk2 0).trans rfl;have HBK2 := Aside0.mk hbk2;clear hbk2)
       | (go_at_call 42;(with_reducible refine (spec_l1In.calls ((q : Int) + 1) 0 (a0_1.size : Int) true _ HI.out).mono ?_);rintro e w' ⟨rfl,⟨nd,rfl⟩⟩;obtain ⟨g,cap,W1,hcv,HR⟩ := conv_ex (P := Tryd.prog) (w2.drewN nd) 9 53 5 (a0_1.extract 0 (q + 1)) Tryd.underlying9 Tryd.underlying53 Tryd.underlying5;rw [HZ.out] at hcv;have hd0 : W1.cell? ⟨gb,0,none⟩ = some (.string a0_0) := (blk_cell (blk_below (bN HBK2.out nd) HR.below) 0).trans rfl;have hn1 : gb ≠ g := (by have h1 := blk_lt (bN HBK2.out nd);have h2 := HR.new;intro e_;omega);have hn2 : g ≠ gb := hn1.symm;have hx := HR.cell q (by rw [HLEN.out];omega);have hfx := HR.free q (by rw [HLEN.out];omega);rw [HCC.out] at hx;have HS1 := HR.set q (255 - c);have ht := HS1.text 53 5 9 Tryd.underlying53 Tryd.underlying5 Tryd.underlying9 (q + 1) cap (by rw [List.length_set];exact HLEN.out);rw [← HCC.out,HTS.out,HCC.out] at ht;clear HS1;clear hc0;have HR := Aside0.mk HR))
      go_ret2
      exact ⟨rfl,Below.trans (lN HB2.out _) ((HR.out.set q (255 - c)).below.mono (by have := HB2.out.size;simp;omega))⟩
   ·rw [if_neg hs] at h
    cases h
  ·rw [if_neg hk] at h
   simp only [Option.some.injEq,Prod.mk.injEq] at h
   obtain ⟨rfl,rfl⟩ := h
   have hI : spec_l1In.f a1 0 (a0_1.size : Int) = some false := by
    unfold spec_l1In.f
    by_cases k0 : a1 ≥ 0
    ·rw [if_pos k0];simp;omega
    ·rw [if_neg k0]
   have HI := Aside0.mk hI
   have HK := Aside0.mk hk
   clear hI hk
   go_enter Tryd.func24,Tryd.ntmps24
   go_wp2_with (first
    | ((with_reducible refine gate_dst (N := 3) rfl ?_);refine box_event ?hg (N := 3) ?hd (cs := #[.string a0_0,.string a0_1,.int .i64 a0_2]) (t := 31) ?hr ?_;(case hd => rfl);(case hg => rfl);(case hr => first|(go_simp;done)|(go_simp;rfl));intro gb hg w6 hbox hb;have HB6 := Aside0.mk (below_step HB.out hb);have hc0 : w6.cell? ⟨gb,0,none⟩ = some (.string a0_0) := (blk_cell hbox 0).trans rfl;have hc1 : w6.cell? ⟨gb,1,none⟩ = some (.string a0_1) := (blk_cell hbox 1).trans rfl;have hc2 : w6.cell? ⟨gb,2,none⟩ = some (.int .i64 a0_2) := (blk_cell hbox 2).trans rfl;have HBK := Aside0.mk hbox;clear hb hbox hg)
    | (go_at_call 49;(with_reducible refine (spec_l26Log.calls k a0_0 a0_1 a0_2 true _ HT.out).mono ?_);rintro e w2 ⟨rfl,hb⟩;have HB2 := Aside0.mk (below_step HB6.out hb);have hbk2 := blk_below HBK.out hb;clear hb hc0 hc1 hc2;have hc1 : w2.cell? ⟨gb,1,none⟩ = some (.string a0_1) := (blk_cell hbk2 1).trans rfl;have hc0 : w2.cell? ⟨gb,0,none⟩ = some (.string a0_0) := (blk_cell hbk2 0).trans rfl;have HBK2 := Aside0.mk hbk2;clear hbk2)
    | (go_at_call 42;(with_reducible refine (spec_l1In.calls a1 0 (a0_1.size : Int) false _ HI.out).mono ?_);rintro e w' ⟨rfl,⟨nd,rfl⟩⟩))
   go_ret2
   exact ⟨rfl,lN HB2.out _⟩
def impl_inside.f (a0 : Int) (a1 : Int) (a2 : Int) : Option (Bool) := if a0 ≥ a1 then (some (decide (a0 ≤ a2))) else (some false)
set_option maxHeartbeats 8000000 in
set_option maxRecDepth 100000 in
theorem impl_inside.calls (a0 : Int) (a1 : Int) (a2 : Int) (r : Bool) (w : World) (h : impl_inside.f a0 a1 a2 = some r) :
  Calls Tryd.prog 45 #[.int .i64 a0,.int .i64 a1,.int .i64 a2] w fun e w' => e = .returned (.bool r) ∧ Drawn0 w w' := by
 have H : (if a0 ≥ a1 then (some (decide (a0 ≤ a2))) else (some false)) = some r := h
 clear h
 by_cases c4 : a0 ≥ a1
 ·rw [if_pos c4] at H
  have c4b0 : decide (a1 ≤ a0) = true := decide_eq_true c4
  clear c4
  obtain rfl := Option.some.inj H
  simp only [Option.some.injEq,Prod.mk.injEq] at H
  obtain ⟨rfl⟩ := H
  go_enter Tryd.func45,Tryd.ntmps45
  go_wp2
  go_ret
  exact ⟨by first|rfl|(simp;done)|(simp [my_isEmpty];done)|(simp [*];done),by repeat (first|exact Drawn0.refl _|apply Drawn0.step)⟩
 ·rw [if_neg c4] at H
  have c4b0 : decide (a1 ≤ a0) = false := decide_eq_false c4
  clear c4
  obtain rfl := Option.some.inj H
  simp only [Option.some.injEq,Prod.mk.injEq] at H
  obtain ⟨rfl⟩ := H
  go_enter Tryd.func45,Tryd.ntmps45
  go_wp2
  go_ret
  exact ⟨by first|rfl|(simp;done)|(simp [my_isEmpty];done)|(simp [*];done),by repeat (first|exact Drawn0.refl _|apply Drawn0.step)⟩
def impl_isPlain.l0 : Nat → ByteArray → Int → Option (Bool)
 | 0,_,_ => none
 | k + 1,x0,x3 => if x3 < (x0.size : Int) then (if 0 ≤ x3 then (if (bt x0 x3) < 32 then (some false) else (if (bt x0 x3) > 126 then (some false) else (if (bt x0 x3) = 35 then (some false) else (impl_isPlain.l0 k x0 (wrap64 (x3 + 1)))))) else (none)) else (some true)
def impl_isPlain.f (k : Nat) (a0 : ByteArray) : Option (Bool) := impl_isPlain.l0 k a0 0
theorem impl_isPlain.mono_l : ∀ k,(∀ y0 y1,LeO (impl_isPlain.l0 k y0 y1) (impl_isPlain.l0 (k + 1) y0 y1))
 | 0 => fun _ _ r h => by simp [impl_isPlain.l0] at h
 | k + 1 => by
  have ih0 := impl_isPlain.mono_l k
  ·intro y0 y1
   unfold impl_isPlain.l0
   repeat' first
   | (with_reducible exact ih0 _ _)
   | (with_reducible exact LeO.refl _)
   | (with_reducible exact LeO.none _)
   | (with_reducible refine LeO.ite ?_ ?_)
   | (with_reducible refine LeO.bind ?_ (fun _ => ?_))
   | exact ih0 _ _
   | exact LeO.none _
   | refine LeO.ite ?_ ?_
   | refine LeO.bind ?_ (fun _ => ?_)
theorem impl_isPlain.mono : ∀ a0 k,LeO (impl_isPlain.f k a0) (impl_isPlain.f (k + 1) a0) := by
 intro a0 k
 have ih0 := impl_isPlain.mono_l k
 unfold impl_isPlain.f
 repeat' first
   | (with_reducible exact ih0 _ _)
   | (with_reducible exact LeO.refl _)
   | (with_reducible exact LeO.none _)
   | (with_reducible refine LeO.ite ?_ ?_)
   | (with_reducible refine LeO.bind ?_ (fun _ => ?_))
   | exact ih0 _ _
   | exact LeO.none _
   | refine LeO.ite ?_ ?_
   | refine LeO.bind ?_ (fun _ => ?_)
set_option maxHeartbeats 8000000 in
set_option maxRecDepth 100000 in
theorem impl_isPlain.calls (k : Nat) (a0 : ByteArray) (r : Bool) (w : World) (h : impl_isPlain.f k a0 = some r) :
  Calls Tryd.prog 56 #[.string a0] w fun e w' => e = .returned (.bool r) ∧ Drawn0 w w' := by
 have H : (impl_isPlain.l0 k a0 0) = some r := h
 clear h
 have H' := Aside0.mk H
 clear H
 go_enter Tryd.func56,Tryd.ntmps56
 go_wp2
 go_loopg [3] k (fun kq v3 w' => ∃ (x3_1 : Int),v3 = .int .i64 x3_1 ∧ Aside0 (impl_isPlain.l0 kq a0 x3_1 = some r) ∧ Aside0 (kq ≤ k) ∧ Drawn0 w w')
 case atStart => exact ⟨(0),(by first|rfl|(simp;done)|(simp [my_isEmpty];done)|(simp [*];done)),H',⟨Nat.le_refl _⟩,by repeat (first|exact Drawn0.refl _|apply Drawn0.step)⟩
 case round =>
  clear H'
  obtain ⟨x3_1,rfl,HA,HK1,⟨m1,rfl⟩⟩ := hrel
  cases gk with
  | zero => exact absurd HA.out (by simp [impl_isPlain.l0])
  | succ k1 =>
   have H := HA.out
   clear HA
   simp only [impl_isPlain.l0] at H
   by_cases c2 : x3_1 < (a0.size : Int)
   ·rw [if_pos c2] at H
    have c2b0 : decide (x3_1 < (a0.size : Int)) = true := decide_eq_true c2
    clear c2
    by_cases c3 : 0 ≤ x3_1
    ·rw [if_pos c3] at H
     have c3b0 : decide (0 ≤ x3_1) = true := decide_eq_true c3
     clear c3
     by_cases c5 : (bt a0 x3_1) < 32
     ·rw [if_pos c5] at H
      have c5b0 : decide ((bt a0 x3_1) < 32) = true := decide_eq_true c5
      clear c5
      obtain rfl := Option.some.inj H
      simp only [Option.some.injEq,Prod.mk.injEq] at H
      obtain ⟨rfl⟩ := H
      have p4 : 0 ≤ (x3_1 : Int) := of_decide_eq_true (by first|(with_reducible assumption)|assumption)
      have q4 : x3_1 < (a0.size : Int) := of_decide_eq_true (by first|(with_reducible assumption)|assumption)
      have hx4 := bt_at a0 x3_1
      replace p4 := eq_true p4
      replace q4 := eq_true q4
      go_wp2
      go_ret
      exact ⟨by first|rfl|(simp;done)|(simp [my_isEmpty];done)|(simp [*];done),by repeat (first|exact Drawn0.refl _|apply Drawn0.step)⟩
     ·rw [if_neg c5] at H
      have c5b0 : decide ((bt a0 x3_1) < 32) = false := decide_eq_false c5
      clear c5
      by_cases c7 : (bt a0 x3_1) > 126
      ·rw [if_pos c7] at H
       have c7b0 : decide (126 < (bt a0 x3_1)) = true := decide_eq_true c7
       clear c7
       obtain rfl := Option.some.inj H
       simp only [Option.some.injEq,Prod.mk.injEq] at H
       obtain ⟨rfl⟩ := H
       have p4 : 0 ≤ (x3_1 : Int) := of_decide_eq_true (by first|(with_reducible assumption)|assumption)
       have q4 : x3_1 < (a0.size : Int) := of_decide_eq_true (by first|(with_reducible assumption)|assumption)
       have hx4 := bt_at a0 x3_1
       replace p4 := eq_true p4
       replace q4 := eq_true q4
       have p6 : 0 ≤ (x3_1 : Int) := of_decide_eq_true (by first|(with_reducible assumption)|assumption)
       have q6 : x3_1 < (a0.size : Int) := of_decide_eq_true (by first|(with_reducible assumption)|assumption)
       have hx6 := bt_at a0 x3_1
       replace p6 := eq_true p6
       replace q6 := eq_true q6
       go_wp2
       go_ret
       exact ⟨by first|rfl|(simp;done)|(simp [my_isEmpty];done)|(simp [*];done),by repeat (first|exact Drawn0.refl _|apply Drawn0.step)⟩
      ·rw [if_neg c7] at H
       have c7b0 : decide (126 < (bt a0 x3_1)) = false := decide_eq_false c7
       clear c7
       by_cases c9 : (bt a0 x3_1) = 35
       ·rw [if_pos c9] at H
        have c9b0 : ((bt a0 x3_1) == 35) = true := beq_iff_eq.mpr c9
        have c9b1 : ((bt a0 x3_1) != 35) = false := bne_eq_false_iff_eq.mpr c9
        clear c9
        obtain rfl := Option.some.inj H
        simp only [Option.some.injEq,Prod.mk.injEq] at H
        obtain ⟨rfl⟩ := H
        have p4 : 0 ≤ (x3_1 : Int) := of_decide_eq_true (by first|(with_reducible assumption)|assumption)
        have q4 : x3_1 < (a0.size : Int) := of_decide_eq_true (by first|(with_reducible assumption)|assumption)
        have hx4 := bt_at a0 x3_1
        replace p4 := eq_true p4
        replace q4 := eq_true q4
        have p6 : 0 ≤ (x3_1 : Int) := of_decide_eq_true (by first|(with_reducible assumption)|assumption)
        have q6 : x3_1 < (a0.size : Int) := of_decide_eq_true (by first|(with_reducible assumption)|assumption)
        have hx6 := bt_at a0 x3_1
        replace p6 := eq_true p6
        replace q6 := eq_true q6
        have p8 : 0 ≤ (x3_1 : Int) := of_decide_eq_true (by first|(with_reducible assumption)|assumption)
        have q8 : x3_1 < (a0.size : Int) := of_decide_eq_true (by first|(with_reducible assumption)|assumption)
        have hx8 := bt_at a0 x3_1
        replace p8 := eq_true p8
        replace q8 := eq_true q8
        go_wp2
        go_ret
        exact ⟨by first|rfl|(simp;done)|(simp [my_isEmpty];done)|(simp [*];done),by repeat (first|exact Drawn0.refl _|apply Drawn0.step)⟩
       ·rw [if_neg c9] at H
        have c9b0 : ((bt a0 x3_1) == 35) = false := beq_eq_false_iff_ne.mpr c9
        have c9b1 : ((bt a0 x3_1) != 35) = true := bne_iff_ne.mpr c9
        have H' := Aside0.mk H
        clear H
        have p4 : 0 ≤ (x3_1 : Int) := of_decide_eq_true (by first|(with_reducible assumption)|assumption)
        have q4 : x3_1 < (a0.size : Int) := of_decide_eq_true (by first|(with_reducible assumption)|assumption)
        have hx4 := bt_at a0 x3_1
        replace p4 := eq_true p4
        replace q4 := eq_true q4
        have p6 : 0 ≤ (x3_1 : Int) := of_decide_eq_true (by first|(with_reducible assumption)|assumption)
        have q6 : x3_1 < (a0.size : Int) := of_decide_eq_true (by first|(with_reducible assumption)|assumption)
        have hx6 := bt_at a0 x3_1
        replace p6 := eq_true p6
        replace q6 := eq_true q6
        have p8 : 0 ≤ (x3_1 : Int) := of_decide_eq_true (by first|(with_reducible assumption)|assumption)
        have q8 : x3_1 < (a0.size : Int) := of_decide_eq_true (by first|(with_reducible assumption)|assumption)
        have hx8 := bt_at a0 x3_1
        replace p8 := eq_true p8
        replace q8 := eq_true q8
        go_wp2
        go_roundg k1
        case measure => have := HK1.out;omega
        case rel => exact ⟨(wrap64 (x3_1 + 1)),(by first|rfl|(simp;done)|(simp [my_isEmpty];done)|(simp [*];done)),H',⟨by have := HK1.out;omega⟩,by repeat (first|exact Drawn0.refl _|apply Drawn0.step)⟩
    ·rw [if_neg c3] at H
     exact absurd H (by simp)
   ·rw [if_neg c2] at H
    have c2b0 : decide (x3_1 < (a0.size : Int)) = false := decide_eq_false c2
    clear c2
    obtain rfl := Option.some.inj H
    simp only [Option.some.injEq,Prod.mk.injEq] at H
    obtain ⟨rfl⟩ := H
    go_wp2
    go_ret
    exact ⟨by first|rfl|(simp;done)|(simp [my_isEmpty];done)|(simp [*];done),by repeat (first|exact Drawn0.refl _|apply Drawn0.step)⟩
def stringslite_Index.f (a0 a1 : ByteArray) : Option (Int) := if a1.size = 1 then some (Lib.indexByte a0.data.toList (bt a1 0).toNat.toUInt8) else none
theorem stringslite_Index.calls (a0 a1 : ByteArray) (r : Int) (w : World) (h : stringslite_Index.f a0 a1 = some r) :
  Calls Tryd.prog 77 #[.string a0,.string a1] w fun e w' => e = .returned (.int .i64 r) ∧ Drawn0 w w' := by
 unfold stringslite_Index.f at h
 split at h
 ·rename_i hs
  obtain rfl := Option.some.inj h
  obtain ⟨c,rfl⟩ : ∃ c : UInt8,a1 = ⟨#[c]⟩ := by
   obtain ⟨⟨l⟩⟩ := a1
   have hl : l.length = 1 := hs
   match l,hl with
   | [c],_ => exact ⟨c,rfl⟩
  have hc : (bt ⟨#[c]⟩ 0).toNat.toUInt8 = c := by
   have : bt ⟨#[c]⟩ 0 = (c.toNat : Int) := rfl
   rw [this,Int.toNat_natCast]
   simp
  rw [hc]
  refine (Tryd.stringslite_Index_one a0 c w).mono ?_
  rintro e w' ⟨rfl,rfl⟩
  exact ⟨rfl,Drawn0.refl _⟩
 ·cases h
def strings_Index.f (a0 : ByteArray) (a1 : ByteArray) : Option (Int) := (stringslite_Index.f a0 a1).bind fun t163 => (some t163)
set_option maxHeartbeats 8000000 in
set_option maxRecDepth 100000 in
theorem strings_Index.calls (a0 : ByteArray) (a1 : ByteArray) (r : Int) (w : World) (h : strings_Index.f a0 a1 = some r) :
  Calls Tryd.prog 72 #[.string a0,.string a1] w fun e w' => e = .returned (.int .i64 r) ∧ Drawn0 w w' := by
 have H : ((stringslite_Index.f a0 a1).bind fun t163 => (some t163)) = some r := h
 clear h
 replace H := Option.bind_eq_some_iff.mp H
 obtain ⟨t163,A30,H⟩ := H
 replace H : (some t163) = some r := H
 have A3 := Aside0.mk A30
 clear A30
 obtain rfl := Option.some.inj H
 simp only [Option.some.injEq,Prod.mk.injEq] at H
 obtain ⟨rfl⟩ := H
 go_enter Tryd.func72,Tryd.ntmps72
 go_wp2_with (first|((with_reducible refine gate_callee (f := 77) rfl ?_);refine goesL_ (some 7) rfl rfl Tryd.func77 (by kernel_rfl) rfl #[.string a0,.string a1] rfl (by (try simp only [List.map_toArray,List.map_cons,List.map_nil]);first|done|rfl|(simp only [List.length_drop,List.length_take];rfl)) ?_;(with_reducible refine (stringslite_Index.calls a0 a1 t163 _ A3.out).mono ?_);rintro e w' ⟨rfl,⟨nd,rfl⟩⟩;refine ⟨_,rfl,?_⟩))
 go_ret
 exact ⟨by first|rfl|(simp;done)|(simp [my_isEmpty];done)|(simp [*];done),by repeat (first|exact Drawn0.refl _|apply Drawn0.step)⟩
def strings_Contains.f (a0 : ByteArray) (a1 : ByteArray) : Option (Bool) := (strings_Index.f a0 a1).bind fun t164 => (some (decide (t164 ≥ 0)))
set_option maxHeartbeats 8000000 in
set_option maxRecDepth 100000 in
theorem strings_Contains.calls (a0 : ByteArray) (a1 : ByteArray) (r : Bool) (w : World) (h : strings_Contains.f a0 a1 = some r) :
  Calls Tryd.prog 57 #[.string a0,.string a1] w fun e w' => e = .returned (.bool r) ∧ Drawn0 w w' := by
 have H : ((strings_Index.f a0 a1).bind fun t164 => (some (decide (t164 ≥ 0)))) = some r := h
 clear h
 replace H := Option.bind_eq_some_iff.mp H
 obtain ⟨t164,A30,H⟩ := H
 replace H : (some (decide (t164 ≥ 0))) = some r := H
 have A3 := Aside0.mk A30
 clear A30
 obtain rfl := Option.some.inj H
 simp only [Option.some.injEq,Prod.mk.injEq] at H
 obtain ⟨rfl⟩ := H
 go_enter Tryd.func57,Tryd.ntmps57
 go_wp2_with (first|((with_reducible refine gate_callee (f := 72) rfl ?_);refine goesL_ (some 7) rfl rfl Tryd.func72 (by kernel_rfl) rfl #[.string a0,.string a1] rfl (by (try simp only [List.map_toArray,List.map_cons,List.map_nil]);first|done|rfl|(simp only [List.length_drop,List.length_take];rfl)) ?_;(with_reducible refine (strings_Index.calls a0 a1 t164 _ A3.out).mono ?_);rintro e w' ⟨rfl,⟨nd,rfl⟩⟩;refine ⟨_,rfl,?_⟩))
 go_ret
 exact ⟨by first|rfl|(simp;done)|(simp [my_isEmpty];done)|(simp [*];done),by repeat (first|exact Drawn0.refl _|apply Drawn0.step)⟩
def impl_IsValidRecord.f (k : Nat) (a0_0 : ByteArray) (a0_1 : ByteArray) : Option (Bool) := (impl_inside.f (a0_0.size : Int) 1 160).bind fun t166 => (if t166 = true then (if (a0_1.size : Int) ≤ 200 then ((impl_isPlain.f k a0_0).bind fun t167 => (if t167 = true then ((impl_isPlain.f k a0_1).bind fun t168 => (if t168 = true then ((strings_Contains.f a0_0 (⟨#[64]⟩ : ByteArray)).bind fun t169 => (some (!t169))) else (some false))) else (some false))) else (some false)) else (some false))
theorem impl_IsValidRecord.mono : ∀ a0 a1 k,LeO (impl_IsValidRecord.f k a0 a1) (impl_IsValidRecord.f (k + 1) a0 a1) := by
 intro a0 a1 k
 unfold impl_IsValidRecord.f
 repeat' first
   | (with_reducible exact impl_isPlain.mono _ _)
   | (with_reducible exact LeO.refl _)
   | (with_reducible exact LeO.none _)
   | (with_reducible refine LeO.ite ?_ ?_)
   | (with_reducible refine LeO.bind ?_ (fun _ => ?_))
   | exact impl_isPlain.mono _ _
   | exact LeO.none _
   | refine LeO.ite ?_ ?_
   | refine LeO.bind ?_ (fun _ => ?_)
set_option maxHeartbeats 8000000 in
set_option maxRecDepth 100000 in
theorem impl_IsValidRecord.calls (k : Nat) (a0_0 : ByteArray) (a0_1 : ByteArray) (r : Bool) (w : World) (h : impl_IsValidRecord.f k a0_0 a0_1 = some r) :
  Calls Tryd.prog 37 #[.agg #[.string a0_0,.string a0_1]] w fun e w' => e = .returned (.bool r) ∧ Below w.heap.size w w' := by
 have hu27 := Tryd.underlying27
 have HB := Aside0.mk (Below.refl w.heap.size w)
 have H : ((impl_inside.f (a0_0.size : Int) 1 160).bind fun t166 => (if t166 = true then (if (a0_1.size : Int) ≤ 200 then ((impl_isPlain.f k a0_0).bind fun t167 => (if t167 = true then ((impl_isPlain.f k a0_1).bind fun t168 => (if t168 = true then ((strings_Contains.f a0_0 (⟨#[64]⟩ : ByteArray)).bind fun t169 => (some (!t169))) else (some false))) else (some false))) else (some false)) else (some false))) = some r := h
 clear h
 replace H := Option.bind_eq_some_iff.mp H
 obtain ⟨t166,A20,H⟩ := H
 replace H : (if t166 = true then (if (a0_1.size : Int) ≤ 200 then ((impl_isPlain.f k a0_0).bind fun t167 => (if t167 = true then ((impl_isPlain.f k a0_1).bind fun t168 => (if t168 = true then ((strings_Contains.f a0_0 (⟨#[64]⟩ : ByteArray)).bind fun t169 => (some (!t169))) else (some false))) else (some false))) else (some false)) else (some false)) = some r := H
 have A2 := Aside0.mk A20
 clear A20
 by_cases c3 : t166 = true
 ·subst c3
  have H1 : (if (a0_1.size : Int) ≤ 200 then ((impl_isPlain.f k a0_0).bind fun t167 => (if t167 = true then ((impl_isPlain.f k a0_1).bind fun t168 => (if t168 = true then ((strings_Contains.f a0_0 (⟨#[64]⟩ : ByteArray)).bind fun t169 => (some (!t169))) else (some false))) else (some false))) else (some false)) = some r := by rw [if_pos rfl] at H;exact H
  clear H
  have H := H1
  clear H1
  by_cases c4 : (a0_1.size : Int) ≤ 200
  ·rw [if_pos c4] at H
   have c4b0 : decide ((a0_1.size : Int) ≤ 200) = true := decide_eq_true c4
   have c4b1 : decide (a0_1.size ≤ 200) = true := decide_eq_true (by omega)
   clear c4
   replace H := Option.bind_eq_some_iff.mp H
   obtain ⟨t167,A50,H⟩ := H
   replace H : (if t167 = true then ((impl_isPlain.f k a0_1).bind fun t168 => (if t168 = true then ((strings_Contains.f a0_0 (⟨#[64]⟩ : ByteArray)).bind fun t169 => (some (!t169))) else (some false))) else (some false)) = some r := H
   have A5 := Aside0.mk A50
   clear A50
   by_cases c6 : t167 = true
   ·subst c6
    have H1 : ((impl_isPlain.f k a0_1).bind fun t168 => (if t168 = true then ((strings_Contains.f a0_0 (⟨#[64]⟩ : ByteArray)).bind fun t169 => (some (!t169))) else (some false))) = some r := by rw [if_pos rfl] at H;exact H
    clear H
    have H := H1
    clear H1
    replace H := Option.bind_eq_some_iff.mp H
    obtain ⟨t168,A70,H⟩ := H
    replace H : (if t168 = true then ((strings_Contains.f a0_0 (⟨#[64]⟩ : ByteArray)).bind fun t169 => (some (!t169))) else (some false)) = some r := H
    have A7 := Aside0.mk A70
    clear A70
    by_cases c8 : t168 = true
    ·subst c8
     have H1 : ((strings_Contains.f a0_0 (⟨#[64]⟩ : ByteArray)).bind fun t169 => (some (!t169))) = some r := by rw [if_pos rfl] at H;exact H
     clear H
     have H := H1
     clear H1
     replace H := Option.bind_eq_some_iff.mp H
     obtain ⟨t169,A90,H⟩ := H
     replace H : (some (!t169)) = some r := H
     have A9 := Aside0.mk A90
     clear A90
     obtain rfl := Option.some.inj H
     simp only [Option.some.injEq,Prod.mk.injEq] at H
     obtain ⟨rfl⟩ := H
     go_enter Tryd.func37,Tryd.ntmps37
     go_wp2_with (first|((with_reducible refine gate_dst (N := 1) rfl ?_);(try (refine gate_guard (by rfl) ?_;dsimp only));refine box_event ?hg (N := 1) ?hd (cs := #[.string a0_0,.string a0_1]) (t := 27) ?hr ?_;(case hd => rfl);(case hg => rfl);(case hr => first|(go_simp;done)|(go_simp;rfl));intro gb165 hg w10 hbox hb;have n0_ := Aside0.mk (below_step (by repeat (first|(with_reducible first|exact HB.out|apply lA|apply lN|apply lD)|exact HB.out)) hb);have n1_ := Aside0.mk (hbox);have n2_ := Aside0.mk ((by rw [hg];exact (below_size (by repeat (first|(with_reducible first|exact HB.out|apply lA|apply lN|apply lD)|exact HB.out))) : w.heap.size ≤ gb165));have n3_ := Aside0.mk ((by rw [hg];exact (below_size (by repeat (first|(with_reducible first|exact HB.out|apply lA|apply lN|apply lD)|exact HB.out))) : w.heap.size ≤ gb165));clear HB;have HB := n0_;have BK165 := n1_;have GW165 := n2_;have GE165 := n3_;clear n0_ n1_ n2_ n3_;clear hb hbox hg;have hcz11_0 : w10.cell? ⟨gb165,0,none⟩ = some (.string a0_0) := (blk_cell BK165.out 0).trans rfl;have hcz11_1 : w10.cell? ⟨gb165,1,none⟩ = some (.string a0_1) := (blk_cell BK165.out 1).trans rfl;have hfz11_0 := blk_frozen BK165.out 0;have hfz11_1 := blk_frozen BK165.out 1)|((with_reducible refine gate_callee (f := 45) rfl ?_);refine goesL_ (some 6) rfl rfl Tryd.func45 (by kernel_rfl) rfl #[.int .i64 (a0_0.size : Int),.int .i64 1,.int .i64 160] rfl (by (try simp only [List.map_toArray,List.map_cons,List.map_nil]);first|done|rfl|(simp only [List.length_drop,List.length_take];rfl)) ?_;(with_reducible refine (impl_inside.calls (a0_0.size : Int) 1 160 true _ A2.out).mono ?_);rintro e w' ⟨rfl,⟨nd,rfl⟩⟩;refine ⟨_,rfl,?_⟩)|(go_at_call 56;(with_reducible refine (impl_isPlain.calls k a0_0 true _ A5.out).mono ?_);rintro e w' ⟨rfl,⟨nd,rfl⟩⟩)|(go_at_call 56;(with_reducible refine (impl_isPlain.calls k a0_1 true _ A7.out).mono ?_);rintro e w' ⟨rfl,⟨nd,rfl⟩⟩)|(go_at_call 57;(with_reducible refine (strings_Contains.calls a0_0 (⟨#[64]⟩ : ByteArray) t169 _ A9.out).mono ?_);rintro e w' ⟨rfl,⟨nd,rfl⟩⟩))
     go_ret
     exact ⟨by first|rfl|(simp [errW_none,errW_some] <;> rfl)|(simp [*,errW_none,errW_some] <;> rfl),by repeat (first|(with_reducible first|exact HB.out|apply lA|apply lN|apply lD|refine below_set ?_ GE165.out)|exact HB.out)⟩
    ·replace c8 := Bool.eq_false_iff.mpr c8
     subst c8
     have H1 : (some false) = some r := by rw [if_neg (show ¬ (false = true) by decide)] at H;exact H
     clear H
     have H := H1
     clear H1
     obtain rfl := Option.some.inj H
     simp only [Option.some.injEq,Prod.mk.injEq] at H
     obtain ⟨rfl⟩ := H
     go_enter Tryd.func37,Tryd.ntmps37
     go_wp2_with (first|((with_reducible refine gate_dst (N := 1) rfl ?_);(try (refine gate_guard (by rfl) ?_;dsimp only));refine box_event ?hg (N := 1) ?hd (cs := #[.string a0_0,.string a0_1]) (t := 27) ?hr ?_;(case hd => rfl);(case hg => rfl);(case hr => first|(go_simp;done)|(go_simp;rfl));intro gb165 hg w12 hbox hb;have n0_ := Aside0.mk (below_step (by repeat (first|(with_reducible first|exact HB.out|apply lA|apply lN|apply lD)|exact HB.out)) hb);have n1_ := Aside0.mk (hbox);have n2_ := Aside0.mk ((by rw [hg];exact (below_size (by repeat (first|(with_reducible first|exact HB.out|apply lA|apply lN|apply lD)|exact HB.out))) : w.heap.size ≤ gb165));have n3_ := Aside0.mk ((by rw [hg];exact (below_size (by repeat (first|(with_reducible first|exact HB.out|apply lA|apply lN|apply lD)|exact HB.out))) : w.heap.size ≤ gb165));clear HB;have HB := n0_;have BK165 := n1_;have GW165 := n2_;have GE165 := n3_;clear n0_ n1_ n2_ n3_;clear hb hbox hg;have hcz13_0 : w12.cell? ⟨gb165,0,none⟩ = some (.string a0_0) := (blk_cell BK165.out 0).trans rfl;have hcz13_1 : w12.cell? ⟨gb165,1,none⟩ = some (.string a0_1) := (blk_cell BK165.out 1).trans rfl;have hfz13_0 := blk_frozen BK165.out 0;have hfz13_1 := blk_frozen BK165.out 1)|((with_reducible refine gate_callee (f := 45) rfl ?_);refine goesL_ (some 6) rfl rfl Tryd.func45 (by kernel_rfl) rfl #[.int .i64 (a0_0.size : Int),.int .i64 1,.int .i64 160] rfl (by (try simp only [List.map_toArray,List.map_cons,List.map_nil]);first|done|rfl|(simp only [List.length_drop,List.length_take];rfl)) ?_;(with_reducible refine (impl_inside.calls (a0_0.size : Int) 1 160 true _ A2.out).mono ?_);rintro e w' ⟨rfl,⟨nd,rfl⟩⟩;refine ⟨_,rfl,?_⟩)|(go_at_call 56;(with_reducible refine (impl_isPlain.calls k a0_0 true _ A5.out).mono ?_);rintro e w' ⟨rfl,⟨nd,rfl⟩⟩)|(go_at_call 56;(with_reducible refine (impl_isPlain.calls k a0_1 false _ A7.out).mono ?_);rintro e w' ⟨rfl,⟨nd,rfl⟩⟩))
     go_ret
     exact ⟨by first|rfl|(simp [errW_none,errW_some] <;> rfl)|(simp [*,errW_none,errW_some] <;> rfl),by repeat (first|(with_reducible first|exact HB.out|apply lA|apply lN|apply lD|refine below_set ?_ GE165.out)|exact HB.out)⟩
   ·replace c6 := Bool.eq_false_iff.mpr c6
    subst c6
    have H1 : (some false) = some r := by rw [if_neg (show ¬ (false = true) by decide)] at H;exact H
    clear H
    have H := H1
    clear H1
    obtain rfl := Option.some.inj H
    simp only [Option.some.injEq,Prod.mk.injEq] at H
    obtain ⟨rfl⟩ := H
    go_enter Tryd.func37,Tryd.ntmps37
    go_wp2_with (first|((with_reducible refine gate_dst (N := 1) rfl ?_);(try (refine gate_guard (by rfl) ?_;dsimp only));refine box_event ?hg (N := 1) ?hd (cs := #[.string a0_0,.string a0_1]) (t := 27) ?hr ?_;(case hd => rfl);(case hg => rfl);(case hr => first|(go_simp;done)|(go_simp;rfl));intro gb165 hg w14 hbox hb;have n0_ := Aside0.mk (below_step (by repeat (first|(with_reducible first|exact HB.out|apply lA|apply lN|apply lD)|exact HB.out)) hb);have n1_ := Aside0.mk (hbox);have n2_ := Aside0.mk ((by rw [hg];exact (below_size (by repeat (first|(with_reducible first|exact HB.out|apply lA|apply lN|apply lD)|exact HB.out))) : w.heap.size ≤ gb165));have n3_ := Aside0.mk ((by rw [hg];exact (below_size (by repeat (first|(with_reducible first|exact HB.out|apply lA|apply lN|apply lD)|exact HB.out))) : w.heap.size ≤ gb165));clear HB;have HB := n0_;have BK165 := n1_;have GW165 := n2_;have GE165 := n3_;clear n0_ n1_ n2_ n3_;clear hb hbox hg;have hcz15_0 : w14.cell? ⟨gb165,0,none⟩ = some (.string a0_0) := (blk_cell BK165.out 0).trans rfl;have hcz15_1 : w14.cell? ⟨gb165,1,none⟩ = some (.string a0_1) := (blk_cell BK165.out 1).trans rfl;have hfz15_0 := blk_frozen BK165.out 0;have hfz15_1 := blk_frozen BK165.out 1)|((with_reducible refine gate_callee (f := 45) rfl ?_);refine goesL_ (some 6) rfl rfl Tryd.func45 (by kernel_rfl) rfl #[.int .i64 (a0_0.size : Int),.int .i64 1,.int .i64 160] rfl (by (try simp only [List.map_toArray,List.map_cons,List.map_nil]);first|done|rfl|(simp only [List.length_drop,List.length_take];rfl)) ?_;(with_reducible refine (impl_inside.calls (a0_0.size : Int) 1 160 true _ A2.out).mono ?_);rintro e w' ⟨rfl,⟨nd,rfl⟩⟩;refine ⟨_,rfl,?_⟩)|(go_at_call 56;(with_reducible refine (impl_isPlain.calls k a0_0 false _ A5.out).mono ?_);rintro e w' ⟨rfl,⟨nd,rfl⟩⟩))
    go_ret
    exact ⟨by first|rfl|(simp [errW_none,errW_some] <;> rfl)|(simp [*,errW_none,errW_some] <;> rfl),by repeat (first|(with_reducible first|exact HB.out|apply lA|apply lN|apply lD|refine below_set ?_ GE165.out)|exact HB.out)⟩
  ·rw [if_neg c4] at H
   have c4b0 : decide ((a0_1.size : Int) ≤ 200) = false := decide_eq_false c4
   have c4b1 : decide (a0_1.size ≤ 200) = false := decide_eq_false (by omega)
   clear c4
   obtain rfl := Option.some.inj H
   simp only [Option.some.injEq,Prod.mk.injEq] at H
   obtain ⟨rfl⟩ := H
   go_enter Tryd.func37,Tryd.ntmps37
   go_wp2_with (first|((with_reducible refine gate_dst (N := 1) rfl ?_);(try (refine gate_guard (by rfl) ?_;dsimp only));refine box_event ?hg (N := 1) ?hd (cs := #[.string a0_0,.string a0_1]) (t := 27) ?hr ?_;(case hd => rfl);(case hg => rfl);(case hr => first|(go_simp;done)|(go_simp;rfl));intro gb165 hg w16 hbox hb;have n0_ := Aside0.mk (below_step (by repeat (first|(with_reducible first|exact HB.out|apply lA|apply lN|apply lD)|exact HB.out)) hb);have n1_ := Aside0.mk (hbox);have n2_ := Aside0.mk ((by rw [hg];exact (below_size (by repeat (first|(with_reducible first|exact HB.out|apply lA|apply lN|apply lD)|exact HB.out))) : w.heap.size ≤ gb165));have n3_ := Aside0.mk ((by rw [hg];exact (below_size (by repeat (first|(with_reducible first|exact HB.out|apply lA|apply lN|apply lD)|exact HB.out))) : w.heap.size ≤ gb165));clear HB;have HB := n0_;have BK165 := n1_;have GW165 := n2_;have GE165 := n3_;clear n0_ n1_ n2_ n3_;clear hb hbox hg;have hcz17_0 : w16.cell? ⟨gb165,0,none⟩ = some (.string a0_0) := (blk_cell BK165.out 0).trans rfl;have hcz17_1 : w16.cell? ⟨gb165,1,none⟩ = some (.string a0_1) := (blk_cell BK165.out 1).trans rfl;have hfz17_0 := blk_frozen BK165.out 0;have hfz17_1 := blk_frozen BK165.out 1)|((with_reducible refine gate_callee (f := 45) rfl ?_);refine goesL_ (some 6) rfl rfl Tryd.func45 (by kernel_rfl) rfl #[.int .i64 (a0_0.size : Int),.int .i64 1,.int .i64 160] rfl (by (try simp only [List.map_toArray,List.map_cons,List.map_nil]);first|done|rfl|(simp only [List.length_drop,List.length_take];rfl)) ?_;(with_reducible refine (impl_inside.calls (a0_0.size : Int) 1 160 true _ A2.out).mono ?_);rintro e w' ⟨rfl,⟨nd,rfl⟩⟩;refine ⟨_,rfl,?_⟩))
   go_ret
   exact ⟨by first|rfl|(simp [errW_none,errW_some] <;> rfl)|(simp [*,errW_none,errW_some] <;> rfl),by repeat (first|(with_reducible first|exact HB.out|apply lA|apply lN|apply lD|refine below_set ?_ GE165.out)|exact HB.out)⟩
 ·replace c3 := Bool.eq_false_iff.mpr c3
  subst c3
  have H1 : (some false) = some r := by rw [if_neg (show ¬ (false = true) by decide)] at H;exact H
  clear H
  have H := H1
  clear H1
  obtain rfl := Option.some.inj H
  simp only [Option.some.injEq,Prod.mk.injEq] at H
  obtain ⟨rfl⟩ := H
  go_enter Tryd.func37,Tryd.ntmps37
  go_wp2_with (first|((with_reducible refine gate_dst (N := 1) rfl ?_);(try (refine gate_guard (by rfl) ?_;dsimp only));refine box_event ?hg (N := 1) ?hd (cs := #[.string a0_0,.string a0_1]) (t := 27) ?hr ?_;(case hd => rfl);(case hg => rfl);(case hr => first|(go_simp;done)|(go_simp;rfl));intro gb165 hg w18 hbox hb;have n0_ := Aside0.mk (below_step (by repeat (first|(with_reducible first|exact HB.out|apply lA|apply lN|apply lD)|exact HB.out)) hb);have n1_ := Aside0.mk (hbox);have n2_ := Aside0.mk ((by rw [hg];exact (below_size (by repeat (first|(with_reducible first|exact HB.out|apply lA|apply lN|apply lD)|exact HB.out))) : w.heap.size ≤ gb165));have n3_ := Aside0.mk ((by rw [hg];exact (below_size (by repeat (first|(with_reducible first|exact HB.out|apply lA|apply lN|apply lD)|exact HB.out))) : w.heap.size ≤ gb165));clear HB;have HB := n0_;have BK165 := n1_;have GW165 := n2_;have GE165 := n3_;clear n0_ n1_ n2_ n3_;clear hb hbox hg;have hcz19_0 : w18.cell? ⟨gb165,0,none⟩ = some (.string a0_0) := (blk_cell BK165.out 0).trans rfl;have hcz19_1 : w18.cell? ⟨gb165,1,none⟩ = some (.string a0_1) := (blk_cell BK165.out 1).trans rfl;have hfz19_0 := blk_frozen BK165.out 0;have hfz19_1 := blk_frozen BK165.out 1)|((with_reducible refine gate_callee (f := 45) rfl ?_);refine goesL_ (some 6) rfl rfl Tryd.func45 (by kernel_rfl) rfl #[.int .i64 (a0_0.size : Int),.int .i64 1,.int .i64 160] rfl (by (try simp only [List.map_toArray,List.map_cons,List.map_nil]);first|done|rfl|(simp only [List.length_drop,List.length_take];rfl)) ?_;(with_reducible refine (impl_inside.calls (a0_0.size : Int) 1 160 false _ A2.out).mono ?_);rintro e w' ⟨rfl,⟨nd,rfl⟩⟩;refine ⟨_,rfl,?_⟩))
  go_ret
  exact ⟨by first|rfl|(simp [errW_none,errW_some] <;> rfl)|(simp [*,errW_none,errW_some] <;> rfl),by repeat (first|(with_reducible first|exact HB.out|apply lA|apply lN|apply lD|refine below_set ?_ GE165.out)|exact HB.out)⟩
def strconv_Itoa.f (a0 : Int) : Option (ByteArray) := if -9223372036854775808 ≤ a0 ∧ a0 ≤ 9223372036854775807 then some ⟨(Lib.itoa a0).toArray⟩ else none
theorem strconv_Itoa.calls (a0 : Int) (r : ByteArray) (w : World) (hG : Gw w) (h : strconv_Itoa.f a0 = some r) :
  Calls Tryd.prog 66 #[.int .i64 a0] w fun e w' => e = .returned (.string r) ∧ Below w.heap.size w w' := by
 unfold strconv_Itoa.f at h
 split at h
 ·rename_i hs
  obtain rfl := Option.some.inj h
  refine (Tryd.strconv_Itoa a0 hs.1 hs.2 w hG.tab).mono ?_
  rintro e w' ⟨rfl,k,os,rfl⟩
  exact ⟨rfl,Lib.below_grow _ _ (Nat.le_refl _) _ _⟩
 ·cases h
def impl_checksum.l0 : Nat → ByteArray → Int → Int → Option (Int)
 | 0,_,_,_ => none
 | k + 1,x0,x3,x4 => if x4 < (x0.size : Int) then (if 0 ≤ x4 then (impl_checksum.l0 k x0 (Int.tmod (wrap64 ((wrap64 ((wrap64 (41 * x3)) + (wrap64 (bt x0 x4)))) + 1)) 999979) (wrap64 (x4 + 1))) else (none)) else (some x3)
def impl_checksum.f (k : Nat) (a0 : ByteArray) : Option (Int) := impl_checksum.l0 k a0 7 0
theorem impl_checksum.mono_l : ∀ k,(∀ y0 y1 y2,LeO (impl_checksum.l0 k y0 y1 y2) (impl_checksum.l0 (k + 1) y0 y1 y2))
 | 0 => fun _ _ _ r h => by simp [impl_checksum.l0] at h
 | k + 1 => by
  have ih0 := impl_checksum.mono_l k
  ·intro y0 y1 y2
   unfold impl_checksum.l0
   repeat' first
   | (with_reducible exact ih0 _ _ _)
   | (with_reducible exact LeO.refl _)
   | (with_reducible exact LeO.none _)
   | (with_reducible refine LeO.ite ?_ ?_)
   | (with_reducible refine LeO.bind ?_ (fun _ => ?_))
   | exact ih0 _ _ _
   | exact LeO.none _
   | refine LeO.ite ?_ ?_
   | refine LeO.bind ?_ (fun _ => ?_)
theorem impl_checksum.mono : ∀ a0 k,LeO (impl_checksum.f k a0) (impl_checksum.f (k + 1) a0) := by
 intro a0 k
 have ih0 := impl_checksum.mono_l k
 unfold impl_checksum.f
 repeat' first
   | (with_reducible exact ih0 _ _ _)
   | (with_reducible exact LeO.refl _)
   | (with_reducible exact LeO.none _)
   | (with_reducible refine LeO.ite ?_ ?_)
   | (with_reducible refine LeO.bind ?_ (fun _ => ?_))
   | exact ih0 _ _ _
   | exact LeO.none _
   | refine LeO.ite ?_ ?_
   | refine LeO.bind ?_ (fun _ => ?_)
set_option maxHeartbeats 8000000 in
set_option maxRecDepth 100000 in
theorem impl_checksum.calls (k : Nat) (a0 : ByteArray) (r : Int) (w : World) (h : impl_checksum.f k a0 = some r) :
  Calls Tryd.prog 74 #[.string a0] w fun e w' => e = .returned (.int .i64 r) ∧ Drawn0 w w' := by
 have H : (impl_checksum.l0 k a0 7 0) = some r := h
 clear h
 have H' := Aside0.mk H
 clear H
 go_enter Tryd.func74,Tryd.ntmps74
 go_wp2
 go_loopg [3,4] k (fun kq v3 v4 w' => ∃ (x3_1 : Int) (x4_1 : Int),v3 = .int .i64 x3_1 ∧ v4 = .int .i64 x4_1 ∧ Aside0 (impl_checksum.l0 kq a0 x3_1 x4_1 = some r) ∧ Aside0 (kq ≤ k) ∧ Drawn0 w w')
 case atStart => exact ⟨(7),(0),(by first|rfl|(simp;done)|(simp [my_isEmpty];done)|(simp [*];done)),(by first|rfl|(simp;done)|(simp [my_isEmpty];done)|(simp [*];done)),H',⟨Nat.le_refl _⟩,by repeat (first|exact Drawn0.refl _|apply Drawn0.step)⟩
 case round =>
  clear H'
  obtain ⟨x3_1,x4_1,rfl,rfl,HA,HK1,⟨m1,rfl⟩⟩ := hrel
  cases gk with
  | zero => exact absurd HA.out (by simp [impl_checksum.l0])
  | succ k1 =>
   have H := HA.out
   clear HA
   simp only [impl_checksum.l0] at H
   by_cases c2 : x4_1 < (a0.size : Int)
   ·rw [if_pos c2] at H
    have c2b0 : decide (x4_1 < (a0.size : Int)) = true := decide_eq_true c2
    clear c2
    by_cases c3 : 0 ≤ x4_1
    ·rw [if_pos c3] at H
     have c3b0 : decide (0 ≤ x4_1) = true := decide_eq_true c3
     clear c3
     have H' := Aside0.mk H
     clear H
     have p4 : 0 ≤ (x4_1 : Int) := of_decide_eq_true (by first|(with_reducible assumption)|assumption)
     have q4 : x4_1 < (a0.size : Int) := of_decide_eq_true (by first|(with_reducible assumption)|assumption)
     have hx4 := bt_at a0 x4_1
     replace p4 := eq_true p4
     replace q4 := eq_true q4
     go_wp2
     go_roundg k1
     case measure => have := HK1.out;omega
     case rel => exact ⟨(Int.tmod (wrap64 ((wrap64 ((wrap64 (41 * x3_1)) + (wrap64 (bt a0 x4_1)))) + 1)) 999979),(wrap64 (x4_1 + 1)),(by first|rfl|(simp;done)|(simp [my_isEmpty];done)|(simp [*];done)),(by first|rfl|(simp;done)|(simp [my_isEmpty];done)|(simp [*];done)),H',⟨by have := HK1.out;omega⟩,by repeat (first|exact Drawn0.refl _|apply Drawn0.step)⟩
    ·rw [if_neg c3] at H
     exact absurd H (by simp)
   ·rw [if_neg c2] at H
    have c2b0 : decide (x4_1 < (a0.size : Int)) = false := decide_eq_false c2
    clear c2
    obtain rfl := Option.some.inj H
    simp only [Option.some.injEq,Prod.mk.injEq] at H
    obtain ⟨rfl⟩ := H
    go_wp2
    go_ret
    exact ⟨by first|rfl|(simp;done)|(simp [my_isEmpty];done)|(simp [*];done),by repeat (first|exact Drawn0.refl _|apply Drawn0.step)⟩
def impl_AppendChecksum.j0 : Nat → ByteArray → Bool → Option (ByteArray × Bool)
 | 0,_,_ => none
 | k + 1,x0,x11 => if x11 = true then (some ((⟨#[]⟩ : ByteArray),false)) else (if x0.size + 1 ≤ 9223372036854775807 then ((impl_checksum.f k x0).bind fun t171 => ((strconv_Itoa.f t171).bind fun t172 => (if (x0 ++ (⟨#[35]⟩ : ByteArray)).size + t172.size ≤ 9223372036854775807 then (if (((x0 ++ (⟨#[35]⟩ : ByteArray)) ++ t172).size : Int) > 4000 then (some ((⟨#[]⟩ : ByteArray),false)) else (some ((x0 ++ (⟨#[35]⟩ : ByteArray)) ++ t172,true))) else (none)))) else (none))
def impl_AppendChecksum.f (k : Nat) (a0 : ByteArray) : Option (ByteArray × Bool) := if (a0.size : Int) > 4000 then (impl_AppendChecksum.j0 k a0 true) else ((strings_Contains.f a0 (⟨#[35]⟩ : ByteArray)).bind fun t170 => (impl_AppendChecksum.j0 k a0 t170))
theorem impl_AppendChecksum.mono_l : ∀ k,(∀ y0 y1,LeO (impl_AppendChecksum.j0 k y0 y1) (impl_AppendChecksum.j0 (k + 1) y0 y1))
 | 0 => fun _ _ r h => by simp [impl_AppendChecksum.j0] at h
 | k + 1 => by
  have ih0 := impl_AppendChecksum.mono_l k
  ·intro y0 y1
   unfold impl_AppendChecksum.j0
   repeat' first
   | (with_reducible exact ih0 _ _)
   | (with_reducible exact impl_checksum.mono _ _)
   | (with_reducible exact LeO.refl _)
   | (with_reducible exact LeO.none _)
   | (with_reducible refine LeO.ite ?_ ?_)
   | (with_reducible refine LeO.bind ?_ (fun _ => ?_))
   | exact ih0 _ _
   | exact impl_checksum.mono _ _
   | exact LeO.none _
   | refine LeO.ite ?_ ?_
   | refine LeO.bind ?_ (fun _ => ?_)
theorem impl_AppendChecksum.mono : ∀ a0 k,LeO (impl_AppendChecksum.f k a0) (impl_AppendChecksum.f (k + 1) a0) := by
 intro a0 k
 have ih0 := impl_AppendChecksum.mono_l k
 unfold impl_AppendChecksum.f
 repeat' first
   | (with_reducible exact ih0 _ _)
   | (with_reducible exact impl_checksum.mono _ _)
   | (with_reducible exact LeO.refl _)
   | (with_reducible exact LeO.none _)
   | (with_reducible refine LeO.ite ?_ ?_)
   | (with_reducible refine LeO.bind ?_ (fun _ => ?_))
   | exact ih0 _ _
   | exact impl_checksum.mono _ _
   | exact LeO.none _
   | refine LeO.ite ?_ ?_
   | refine LeO.bind ?_ (fun _ => ?_)
set_option maxHeartbeats 8000000 in
set_option maxRecDepth 100000 in
theorem impl_AppendChecksum.calls (k : Nat) (a0 : ByteArray) (r1 : ByteArray) (r2 : Bool) (w : World) (hG : Gw w) (h : impl_AppendChecksum.f k a0 = some (r1,r2)) :
  Calls Tryd.prog 65 #[.string a0] w fun e w' => e = .returned (.tuple #[.string r1,.bool r2]) ∧ Below w.heap.size w w' := by
 have HB := Aside0.mk (Below.refl w.heap.size w)
 have HG := Aside0.mk hG
 clear hG
 have H : (if (a0.size : Int) > 4000 then (impl_AppendChecksum.j0 k a0 true) else ((strings_Contains.f a0 (⟨#[35]⟩ : ByteArray)).bind fun t170 => (impl_AppendChecksum.j0 k a0 t170))) = some (r1,r2) := h
 clear h
 have HC2 := Aside0.mk H
 clear H
 go_enter Tryd.func65,Tryd.ntmps65
 go_upto_region 1 with (fail)
 go_cut [11] (fun v11 wc => ∃ (kq : Nat) (x11_1 : Bool),v11 = .bool x11_1 ∧ Aside0 (impl_AppendChecksum.j0 kq a0 x11_1 = some (r1,r2)) ∧ Aside0 (kq ≤ k) ∧ Aside0 (Below w.heap.size w wc))
 case first =>
  have H := HC2.out
  clear HC2
  by_cases c3 : (a0.size : Int) > 4000
  ·rw [if_pos c3] at H
   have c3b0 : decide (4000 < (a0.size : Int)) = true := decide_eq_true c3
   have c3b1 : decide (4000 < a0.size) = true := decide_eq_true (by omega)
   clear c3
   (first|rw [c3b0]|(simp only [i64_w,i32_w];rw [c3b0])|skip)
   have H' := Aside0.mk H
   clear H
   go_wp2
   go_meet
   case rel => exact ⟨_,(true),(by first|rfl|(simp;done)|(simp [my_isEmpty];done)|(simp [*];done)),H',⟨by first|omega|exact Nat.le_refl _⟩,⟨by repeat (first|(with_reducible first|exact HB.out|apply lA|apply lN|apply lD)|exact HB.out)⟩⟩
  ·rw [if_neg c3] at H
   have c3b0 : decide (4000 < (a0.size : Int)) = false := decide_eq_false c3
   have c3b1 : decide (4000 < a0.size) = false := decide_eq_false (by omega)
   clear c3
   (first|rw [c3b0]|(simp only [i64_w,i32_w];rw [c3b0])|skip)
   replace H := Option.bind_eq_some_iff.mp H
   obtain ⟨t170,A40,H⟩ := H
   replace H : (impl_AppendChecksum.j0 k a0 t170) = some (r1,r2) := H
   have A4 := Aside0.mk A40
   clear A40
   have H' := Aside0.mk H
   clear H
   go_wp2_with (first|(go_at_call 57;(with_reducible refine (strings_Contains.calls a0 (⟨#[35]⟩ : ByteArray) t170 _ A4.out).mono ?_);rintro e w' ⟨rfl,⟨nd,rfl⟩⟩))
   go_meet
   case rel => exact ⟨_,(t170),(by first|rfl|(simp;done)|(simp [my_isEmpty];done)|(simp [*];done)),H',⟨by first|omega|exact Nat.le_refl _⟩,⟨by repeat (first|(with_reducible first|exact HB.out|apply lA|apply lN|apply lD)|exact HB.out)⟩⟩
 case rest =>
  clear HC2
  try clear p2
  try clear c3
  try clear c3b0
  try clear c3b1
  obtain ⟨kq,x11_1,rfl,HA,HJ1,HB⟩ := hcut
  cases kq with
  | zero => exact absurd HA.out (by simp [impl_AppendChecksum.j0])
  | succ kj1 =>
   have H := HA.out
   clear HA
   simp only [impl_AppendChecksum.j0] at H
   by_cases c5 : x11_1 = true
   ·subst c5
    have H1 : (some ((⟨#[]⟩ : ByteArray),false)) = some (r1,r2) := by rw [if_pos rfl] at H;exact H
    clear H
    have H := H1
    clear H1
    simp only [Option.some.injEq,Prod.mk.injEq] at H
    obtain ⟨rfl,rfl⟩ := H
    go_wp2
    go_ret2
    exact ⟨by first|rfl|(simp [errW_none,errW_some] <;> rfl)|(simp [*,errW_none,errW_some] <;> rfl),by repeat (first|(with_reducible first|exact HB.out|apply lA|apply lN|apply lD)|exact HB.out)⟩
   ·replace c5 := Bool.eq_false_iff.mpr c5
    subst c5
    have H1 : (if a0.size + 1 ≤ 9223372036854775807 then ((impl_checksum.f kj1 a0).bind fun t171 => ((strconv_Itoa.f t171).bind fun t172 => (if (a0 ++ (⟨#[35]⟩ : ByteArray)).size + t172.size ≤ 9223372036854775807 then (if (((a0 ++ (⟨#[35]⟩ : ByteArray)) ++ t172).size : Int) > 4000 then (some ((⟨#[]⟩ : ByteArray),false)) else (some ((a0 ++ (⟨#[35]⟩ : ByteArray)) ++ t172,true))) else (none)))) else (none)) = some (r1,r2) := by rw [if_neg (show ¬ (false = true) by decide)] at H;exact H
    clear H
    have H := H1
    clear H1
    by_cases c6 : a0.size + 1 ≤ 9223372036854775807
    ·rw [if_pos c6] at H
     have c6b0 := eq_true c6
     have c6b1 : decide (a0.size + 1 ≤ 9223372036854775807) = true := decide_eq_true c6
     try have c6b2 : (9223372036854775807 < a0.size + 1) = False := eq_false (Nat.not_lt.2 c6)
     replace H := Option.bind_eq_some_iff.mp H
     obtain ⟨t171,A70,H⟩ := H
     replace H : ((strconv_Itoa.f t171).bind fun t172 => (if (a0 ++ (⟨#[35]⟩ : ByteArray)).size + t172.size ≤ 9223372036854775807 then (if (((a0 ++ (⟨#[35]⟩ : ByteArray)) ++ t172).size : Int) > 4000 then (some ((⟨#[]⟩ : ByteArray),false)) else (some ((a0 ++ (⟨#[35]⟩ : ByteArray)) ++ t172,true))) else (none))) = some (r1,r2) := H
     have A7 := Aside0.mk A70
     clear A70
     replace H := Option.bind_eq_some_iff.mp H
     obtain ⟨t172,A80,H⟩ := H
     replace H : (if (a0 ++ (⟨#[35]⟩ : ByteArray)).size + t172.size ≤ 9223372036854775807 then (if (((a0 ++ (⟨#[35]⟩ : ByteArray)) ++ t172).size : Int) > 4000 then (some ((⟨#[]⟩ : ByteArray),false)) else (some ((a0 ++ (⟨#[35]⟩ : ByteArray)) ++ t172,true))) else (none)) = some (r1,r2) := H
     have A8 := Aside0.mk A80
     clear A80
     by_cases c9 : (a0 ++ (⟨#[35]⟩ : ByteArray)).size + t172.size ≤ 9223372036854775807
     ·rw [if_pos c9] at H
      have c9b0 := eq_true c9
      have c9b1 : decide ((a0 ++ (⟨#[35]⟩ : ByteArray)).size + t172.size ≤ 9223372036854775807) = true := decide_eq_true c9
      try have c9b3 : (9223372036854775807 < a0.size + 1 + t172.size) = False := eq_false (by have h_ := c9;simp only [ByteArray.size_append,ByteArray.size_extract] at h_;have hs0_ : (⟨#[35]⟩ : ByteArray).size = 1 := rfl;omega)
      try have c9b2 : (9223372036854775807 < (a0 ++ (⟨#[35]⟩ : ByteArray)).size + t172.size) = False := eq_false (Nat.not_lt.2 c9)
      obtain ⟨sj10,hsj10⟩ : ∃ s_ : ByteArray,((a0 ++ (⟨#[35]⟩ : ByteArray)) ++ t172) = s_ := ⟨_,rfl⟩
      replace H : (if (sj10.size : Int) > 4000 then (some ((⟨#[]⟩ : ByteArray),false)) else (some (sj10,true))) = some (r1,r2) := by first|(rw [hsj10] at H;exact H)|(simp only [hsj10] at H ⊢;exact H)
      (try rw [hsj10] at A7)
      (try rw [hsj10] at A8)
      by_cases c11 : (sj10.size : Int) > 4000
      ·rw [if_pos c11] at H
       have c11b0 : decide (4000 < (sj10.size : Int)) = true := decide_eq_true c11
       have c11b1 : decide (4000 < sj10.size) = true := decide_eq_true (by omega)
       clear c11
       simp only [Option.some.injEq,Prod.mk.injEq] at H
       obtain ⟨rfl,rfl⟩ := H
       go_wp2_with (first|((with_reducible refine gate_callee (f := 74) rfl ?_);refine goesL_ (some 15) rfl rfl Tryd.func74 (by kernel_rfl) rfl #[.string a0] rfl (by (try simp only [List.map_toArray,List.map_cons,List.map_nil]);first|done|rfl|(simp only [List.length_drop,List.length_take];rfl)) ?_;(with_reducible refine (impl_checksum.calls kj1 a0 t171 _ A7.out).mono ?_);rintro e w' ⟨rfl,⟨nd,rfl⟩⟩;refine ⟨_,rfl,?_⟩)|((with_reducible refine gate_callee (f := 66) rfl ?_);refine goesL_ (some 16) rfl rfl Tryd.func66 (by kernel_rfl) rfl #[.int .i64 t171] rfl (by (try simp only [List.map_toArray,List.map_cons,List.map_nil]);first|done|rfl|(simp only [List.length_drop,List.length_take];rfl)) ?_;(with_reducible refine (strconv_Itoa.calls t171 t172 _ ?side1 A8.out).mono ?_);(case side1 => exact Gw.below HG.out (by repeat (first|(with_reducible first|exact HB.out|apply lA|apply lN|apply lD)|exact HB.out)));rintro e w12 ⟨rfl,hb⟩;refine ⟨_,rfl,?_⟩;have n0_ := Aside0.mk (below_step (by repeat (first|(with_reducible first|exact HB.out|apply lA|apply lN|apply lD)|exact HB.out)) hb);clear HB;have HB := n0_;clear n0_;(try clear hb);(try clear hb2);(try clear hk);(try clear hi)))
       go_ret2
       exact ⟨by first|rfl|(simp [errW_none,errW_some] <;> rfl)|(simp only [← hsj10];first|rfl|(simp [errW_none,errW_some] <;> rfl))|(simp [*,errW_none,errW_some] <;> rfl),by repeat (first|(with_reducible first|exact HB.out|apply lA|apply lN|apply lD)|exact HB.out)⟩
      ·rw [if_neg c11] at H
       have c11b0 : decide (4000 < (sj10.size : Int)) = false := decide_eq_false c11
       have c11b1 : decide (4000 < sj10.size) = false := decide_eq_false (by omega)
       clear c11
       simp only [Option.some.injEq,Prod.mk.injEq] at H
       obtain ⟨rfl,rfl⟩ := H
       go_wp2_with (first|((with_reducible refine gate_callee (f := 74) rfl ?_);refine goesL_ (some 15) rfl rfl Tryd.func74 (by kernel_rfl) rfl #[.string a0] rfl (by (try simp only [List.map_toArray,List.map_cons,List.map_nil]);first|done|rfl|(simp only [List.length_drop,List.length_take];rfl)) ?_;(with_reducible refine (impl_checksum.calls kj1 a0 t171 _ A7.out).mono ?_);rintro e w' ⟨rfl,⟨nd,rfl⟩⟩;refine ⟨_,rfl,?_⟩)|((with_reducible refine gate_callee (f := 66) rfl ?_);refine goesL_ (some 16) rfl rfl Tryd.func66 (by kernel_rfl) rfl #[.int .i64 t171] rfl (by (try simp only [List.map_toArray,List.map_cons,List.map_nil]);first|done|rfl|(simp only [List.length_drop,List.length_take];rfl)) ?_;(with_reducible refine (strconv_Itoa.calls t171 t172 _ ?side1 A8.out).mono ?_);(case side1 => exact Gw.below HG.out (by repeat (first|(with_reducible first|exact HB.out|apply lA|apply lN|apply lD)|exact HB.out)));rintro e w13 ⟨rfl,hb⟩;refine ⟨_,rfl,?_⟩;have n0_ := Aside0.mk (below_step (by repeat (first|(with_reducible first|exact HB.out|apply lA|apply lN|apply lD)|exact HB.out)) hb);clear HB;have HB := n0_;clear n0_;(try clear hb);(try clear hb2);(try clear hk);(try clear hi)))
       go_ret2
       exact ⟨by first|rfl|(simp [errW_none,errW_some] <;> rfl)|(simp only [← hsj10];first|rfl|(simp [errW_none,errW_some] <;> rfl))|(simp [*,errW_none,errW_some] <;> rfl),by repeat (first|(with_reducible first|exact HB.out|apply lA|apply lN|apply lD)|exact HB.out)⟩
     ·rw [if_neg c9] at H
      exact absurd H (by simp)
    ·rw [if_neg c6] at H
     exact absurd H (by simp)
end Go.Proofs.YtinbbjfnebhlkaaDoor.P
