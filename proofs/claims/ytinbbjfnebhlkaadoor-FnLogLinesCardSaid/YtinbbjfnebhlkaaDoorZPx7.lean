/- Written by a program in this session: each theorem here says that a Go function computes the Lean function beside it, or that a law's row holds, under the conditions that the theorem itself states. -/
import Derived.Test.YtinbbjfnebhlkaaDoorZPx0
import Derived.Test.YtinbbjfnebhlkaaDoorZPx4
import Derived.Test.YtinbbjfnebhlkaaDoorZPx6
namespace Go.Proofs.YtinbbjfnebhlkaaDoor.P
open Go.RowKit Go.Proofs.YtinbbjfnebhlkaaDoorW.PrintWords Go.Proofs.YtinbbjfnebhlkaaDoorW.PrintLast Go.Proofs.YtinbbjfnebhlkaaDoorW.PrintMore
attribute [local go_sem] max2_int min2_int max_two min_two max_three min_three max_four min_four   -- for this text's walks alone
set_option linter.unusedVariables false
set_option linter.unusedSimpArgs false
def spec_l26Log.f (k : Nat) (a0_0 : ByteArray) (a0_1 : ByteArray) (a0_2 : Int) : Option (Bool) := if (wrap64 ((a0_0.size : Int) + (a0_1.size : Int))) > 30000 then (some false) else (if a0_0.size + a0_1.size ≤ 9223372036854775807 then ((spec_l26Open.f k (a0_0 ++ a0_1)).bind fun bt210 => ((spec_l26Open.f k a0_0).bind fun bt214 => (if bt210.2 = (wrap64 ((a0_0.size : Int) + (a0_1.size : Int))) then (if bt214.2 = (a0_0.size : Int) then (some ((bt210.1.length : Int) == a0_2)) else (some false)) else (some false)))) else (none))
theorem spec_l26Log.mono : ∀ a0 a1 a2 k,LeO (spec_l26Log.f k a0 a1 a2) (spec_l26Log.f (k + 1) a0 a1 a2) := by
 intro a0 a1 a2 k
 unfold spec_l26Log.f
 repeat' first
   | (with_reducible exact spec_l26Open.mono _ _)
   | (with_reducible exact LeO.refl _)
   | (with_reducible exact LeO.none _)
   | (with_reducible refine LeO.ite ?_ ?_)
   | (with_reducible refine LeO.bind ?_ (fun _ => ?_))
   | exact spec_l26Open.mono _ _
   | exact LeO.none _
   | refine LeO.ite ?_ ?_
   | refine LeO.bind ?_ (fun _ => ?_)
set_option maxHeartbeats 8000000 in
set_option maxRecDepth 100000 in
theorem spec_l26Log.calls (k : Nat) (a0_0 : ByteArray) (a0_1 : ByteArray) (a0_2 : Int) (r : Bool) (w : World) (h : spec_l26Log.f k a0_0 a0_1 a0_2 = some r) :
  Calls Tryd.prog 49 #[.agg #[.string a0_0,.string a0_1,.int .i64 a0_2]] w fun e w' => e = .returned (.bool r) ∧ Below w.heap.size w w' := by
 have hu31 := Tryd.underlying31
 have HB := Aside0.mk (Below.refl w.heap.size w)
 have H : (if (wrap64 ((a0_0.size : Int) + (a0_1.size : Int))) > 30000 then (some false) else (if a0_0.size + a0_1.size ≤ 9223372036854775807 then ((spec_l26Open.f k (a0_0 ++ a0_1)).bind fun bt210 => ((spec_l26Open.f k a0_0).bind fun bt214 => (if bt210.2 = (wrap64 ((a0_0.size : Int) + (a0_1.size : Int))) then (if bt214.2 = (a0_0.size : Int) then (some ((bt210.1.length : Int) == a0_2)) else (some false)) else (some false)))) else (none))) = some r := h
 clear h
 by_cases c2 : (wrap64 ((a0_0.size : Int) + (a0_1.size : Int))) > 30000
 ·rw [if_pos c2] at H
  have c2b0 : decide (30000 < (wrap64 ((a0_0.size : Int) + (a0_1.size : Int)))) = true := decide_eq_true c2
  clear c2
  obtain rfl := Option.some.inj H
  simp only [Option.some.injEq,Prod.mk.injEq] at H
  obtain ⟨rfl⟩ := H
  go_enter Tryd.func49,Tryd.ntmps49
  go_wp2_with (first|((with_reducible refine gate_dst (N := 1) rfl ?_);(try (refine gate_guard (by rfl) ?_;dsimp only));refine box_event ?hg (N := 1) ?hd (cs := #[.string a0_0,.string a0_1,.int .i64 a0_2]) (t := 31) ?hr ?_;(case hd => rfl);(case hg => rfl);(case hr => first|(go_simp;done)|(go_simp;rfl));intro gb209 hg w3 hbox hb;have n0_ := Aside0.mk (below_step (by repeat (first|(with_reducible first|exact HB.out|apply lA|apply lN|apply lD)|exact HB.out)) hb);have n1_ := Aside0.mk (hbox);have n2_ := Aside0.mk ((by rw [hg];exact (below_size (by repeat (first|(with_reducible first|exact HB.out|apply lA|apply lN|apply lD)|exact HB.out))) : w.heap.size ≤ gb209));have n3_ := Aside0.mk ((by rw [hg];exact (below_size (by repeat (first|(with_reducible first|exact HB.out|apply lA|apply lN|apply lD)|exact HB.out))) : w.heap.size ≤ gb209));clear HB;have HB := n0_;have BK209 := n1_;have GW209 := n2_;have GE209 := n3_;clear n0_ n1_ n2_ n3_;clear hb hbox hg;have hcz4_0 : w3.cell? ⟨gb209,0,none⟩ = some (.string a0_0) := (blk_cell BK209.out 0).trans rfl;have hcz4_1 : w3.cell? ⟨gb209,1,none⟩ = some (.string a0_1) := (blk_cell BK209.out 1).trans rfl;have hcz4_2 : w3.cell? ⟨gb209,2,none⟩ = some (.int .i64 a0_2) := (blk_cell BK209.out 2).trans rfl;have hfz4_0 := blk_frozen BK209.out 0;have hfz4_1 := blk_frozen BK209.out 1;have hfz4_2 := blk_frozen BK209.out 2))
  go_ret
  exact ⟨by first|rfl|(simp [errW_none,errW_some] <;> rfl)|(simp [*,errW_none,errW_some] <;> rfl),by repeat (first|(with_reducible first|exact HB.out|apply lA|apply lN|apply lD|refine below_set ?_ GE209.out)|exact HB.out)⟩
 ·rw [if_neg c2] at H
  have c2b0 : decide (30000 < (wrap64 ((a0_0.size : Int) + (a0_1.size : Int)))) = false := decide_eq_false c2
  clear c2
  by_cases c5 : a0_0.size + a0_1.size ≤ 9223372036854775807
  ·rw [if_pos c5] at H
   have c5b0 := eq_true c5
   have c5b1 : decide (a0_0.size + a0_1.size ≤ 9223372036854775807) = true := decide_eq_true c5
   try have c5b2 : (9223372036854775807 < a0_0.size + a0_1.size) = False := eq_false (Nat.not_lt.2 c5)
   have hw6 : wrap64 ((a0_0.size : Int) + (a0_1.size : Int)) = ((a0_0.size : Int) + (a0_1.size : Int)) := by unfold wrap64;omega
   replace H : ((spec_l26Open.f k (a0_0 ++ a0_1)).bind fun bt210 => ((spec_l26Open.f k a0_0).bind fun bt214 => (if bt210.2 = ((a0_0.size : Int) + (a0_1.size : Int)) then (if bt214.2 = (a0_0.size : Int) then (some ((bt210.1.length : Int) == a0_2)) else (some false)) else (some false)))) = some r := by simp only [hw6] at H;exact H
   (try simp only [hw6] at c2b0)
   replace H := Option.bind_eq_some_iff.mp H
   obtain ⟨⟨t210,t211⟩,A70,H⟩ := H
   replace H : ((spec_l26Open.f k a0_0).bind fun bt214 => (if t211 = ((a0_0.size : Int) + (a0_1.size : Int)) then (if bt214.2 = (a0_0.size : Int) then (some ((t210.length : Int) == a0_2)) else (some false)) else (some false))) = some r := H
   have A7 := Aside0.mk A70
   clear A70
   replace H := Option.bind_eq_some_iff.mp H
   obtain ⟨⟨t214,t215⟩,A80,H⟩ := H
   replace H : (if t211 = ((a0_0.size : Int) + (a0_1.size : Int)) then (if t215 = (a0_0.size : Int) then (some ((t210.length : Int) == a0_2)) else (some false)) else (some false)) = some r := H
   have A8 := Aside0.mk A80
   clear A80
   by_cases c9 : t211 = ((a0_0.size : Int) + (a0_1.size : Int))
   ·rw [if_pos c9] at H
    have c9b0 : (t211 == ((a0_0.size : Int) + (a0_1.size : Int))) = true := beq_iff_eq.mpr c9
    have c9b1 : (t211 != ((a0_0.size : Int) + (a0_1.size : Int))) = false := bne_eq_false_iff_eq.mpr c9
    clear c9
    by_cases c10 : t215 = (a0_0.size : Int)
    ·rw [if_pos c10] at H
     have c10b0 : (t215 == (a0_0.size : Int)) = true := beq_iff_eq.mpr c10
     have c10b1 : (t215 != (a0_0.size : Int)) = false := bne_eq_false_iff_eq.mpr c10
     clear c10
     obtain rfl := Option.some.inj H
     simp only [Option.some.injEq,Prod.mk.injEq] at H
     obtain ⟨rfl⟩ := H
     go_enter Tryd.func49,Tryd.ntmps49
     go_wp2_with (first|((with_reducible refine gate_dst (N := 1) rfl ?_);(try (refine gate_guard (by rfl) ?_;dsimp only));refine box_event ?hg (N := 1) ?hd (cs := #[.string a0_0,.string a0_1,.int .i64 a0_2]) (t := 31) ?hr ?_;(case hd => rfl);(case hg => rfl);(case hr => first|(go_simp;done)|(go_simp;rfl));intro gb209 hg w11 hbox hb;have n0_ := Aside0.mk (below_step (by repeat (first|(with_reducible first|exact HB.out|apply lA|apply lN|apply lD)|exact HB.out)) hb);have n1_ := Aside0.mk (hbox);have n2_ := Aside0.mk ((by rw [hg];exact (below_size (by repeat (first|(with_reducible first|exact HB.out|apply lA|apply lN|apply lD)|exact HB.out))) : w.heap.size ≤ gb209));have n3_ := Aside0.mk ((by rw [hg];exact (below_size (by repeat (first|(with_reducible first|exact HB.out|apply lA|apply lN|apply lD)|exact HB.out))) : w.heap.size ≤ gb209));clear HB;have HB := n0_;have BK209 := n1_;have GW209 := n2_;have GE209 := n3_;clear n0_ n1_ n2_ n3_;clear hb hbox hg;have hcz12_0 : w11.cell? ⟨gb209,0,none⟩ = some (.string a0_0) := (blk_cell BK209.out 0).trans rfl;have hcz12_1 : w11.cell? ⟨gb209,1,none⟩ = some (.string a0_1) := (blk_cell BK209.out 1).trans rfl;have hcz12_2 : w11.cell? ⟨gb209,2,none⟩ = some (.int .i64 a0_2) := (blk_cell BK209.out 2).trans rfl;have hfz12_0 := blk_frozen BK209.out 0;have hfz12_1 := blk_frozen BK209.out 1;have hfz12_2 := blk_frozen BK209.out 2)|((with_reducible refine gate_callee (f := 47) rfl ?_);refine goesL_ (some 21) rfl rfl Tryd.func47 (by kernel_rfl) rfl #[.string (a0_0 ++ a0_1)] rfl (by (try simp only [List.map_toArray,List.map_cons,List.map_nil]);first|done|rfl|(simp only [List.length_drop,List.length_take];rfl)) ?_;(with_reducible refine (spec_l26Open.calls k (a0_0 ++ a0_1) t210 t211 _ A7.out).mono ?_);rintro e w13 ⟨v212,rfl,ho0,hb⟩;refine ⟨_,rfl,?_⟩;have n0_ := Aside0.mk (Kd.R_lower ho0 (below_size (by repeat (first|(with_reducible first|exact HB.out|apply lA|apply lN|apply lD|refine below_set ?_ GE209.out)|exact HB.out))));have n1_ := Aside0.mk (blk_below (g := gb209) (o := .cells #[.string a0_0,.string a0_1,.int .i64 a0_2] 31 (0,0)) (by (with_reducible repeat (first|refine bN ?_ _|refine bD ?_|refine bA ?_ _));exact BK209.out) hb);have n2_ := Aside0.mk (below_step (by repeat (first|(with_reducible first|exact HB.out|apply lA|apply lN|apply lD|refine below_set ?_ GE209.out)|exact HB.out)) hb);clear BK209;clear HB;have HO213 := n0_;have BK209 := n1_;have HB := n2_;clear n0_ n1_ n2_;(try clear hb);(try clear hb2);(try clear hk);(try clear hi);(try clear ho0);have hcz14_0 : w13.cell? ⟨gb209,0,none⟩ = some (.string a0_0) := (blk_cell BK209.out 0).trans rfl;have hcz14_1 : w13.cell? ⟨gb209,1,none⟩ = some (.string a0_1) := (blk_cell BK209.out 1).trans rfl;have hcz14_2 : w13.cell? ⟨gb209,2,none⟩ = some (.int .i64 a0_2) := (blk_cell BK209.out 2).trans rfl;have hfz14_0 := blk_frozen BK209.out 0;have hfz14_1 := blk_frozen BK209.out 1;have hfz14_2 := blk_frozen BK209.out 2)|((with_reducible refine gate_callee (f := 47) rfl ?_);refine goesL_ (some 27) rfl rfl Tryd.func47 (by kernel_rfl) rfl #[.string a0_0] rfl (by (try simp only [List.map_toArray,List.map_cons,List.map_nil]);first|done|rfl|(simp only [List.length_drop,List.length_take];rfl)) ?_;(with_reducible refine (spec_l26Open.calls k a0_0 t214 t215 _ A8.out).mono ?_);rintro e w15 ⟨v216,rfl,ho0,hb⟩;refine ⟨_,rfl,?_⟩;have n0_ := Aside0.mk (Kd.R_elder' (by (with_reducible repeat (first|apply Kd.R_alloc|apply Kd.R_drewN|apply Kd.R_drew));exact HO213.out) (Kd.R_base ho0) hb);have n1_ := Aside0.mk (Kd.R_lower (Kd.R_new' ho0 (Kd.R_lt (by (with_reducible repeat (first|apply Kd.R_alloc|apply Kd.R_drewN|apply Kd.R_drew));exact HO213.out))) (below_size (by repeat (first|(with_reducible first|exact HB.out|apply lA|apply lN|apply lD|refine below_set ?_ GE209.out)|exact HB.out))));have n2_ := Aside0.mk (blk_below (g := gb209) (o := .cells #[.string a0_0,.string a0_1,.int .i64 a0_2] 31 (0,0)) (by (with_reducible repeat (first|refine bN ?_ _|refine bD ?_|refine bA ?_ _));exact BK209.out) hb);have n3_ := Aside0.mk (below_step (by repeat (first|(with_reducible first|exact HB.out|apply lA|apply lN|apply lD|refine below_set ?_ GE209.out)|exact HB.out)) hb);clear HO213;clear BK209;clear HB;have HO213 := n0_;have HO217 := n1_;have BK209 := n2_;have HB := n3_;clear n0_ n1_ n2_ n3_;(try clear hb);(try clear hb2);(try clear hk);(try clear hi);(try clear ho0);have hcz16_0 : w15.cell? ⟨gb209,0,none⟩ = some (.string a0_0) := (blk_cell BK209.out 0).trans rfl;have hcz16_1 : w15.cell? ⟨gb209,1,none⟩ = some (.string a0_1) := (blk_cell BK209.out 1).trans rfl;have hcz16_2 : w15.cell? ⟨gb209,2,none⟩ = some (.int .i64 a0_2) := (blk_cell BK209.out 2).trans rfl;have hfz16_0 := blk_frozen BK209.out 0;have hfz16_1 := blk_frozen BK209.out 1;have hfz16_2 := blk_frozen BK209.out 2;obtain ⟨Ao17,co17,eo17⟩ := Kd.R_slice HO213.out;subst eo17))
     go_ret
     exact ⟨by first|rfl|(simp [errW_none,errW_some] <;> rfl)|(simp [*,errW_none,errW_some] <;> rfl),by repeat (first|(with_reducible first|exact HB.out|apply lA|apply lN|apply lD|refine below_set ?_ GE209.out)|exact HB.out)⟩
    ·rw [if_neg c10] at H
     have c10b0 : (t215 == (a0_0.size : Int)) = false := beq_eq_false_iff_ne.mpr c10
     have c10b1 : (t215 != (a0_0.size : Int)) = true := bne_iff_ne.mpr c10
     obtain rfl := Option.some.inj H
     simp only [Option.some.injEq,Prod.mk.injEq] at H
     obtain ⟨rfl⟩ := H
     go_enter Tryd.func49,Tryd.ntmps49
     go_wp2_with (first|((with_reducible refine gate_dst (N := 1) rfl ?_);(try (refine gate_guard (by rfl) ?_;dsimp only));refine box_event ?hg (N := 1) ?hd (cs := #[.string a0_0,.string a0_1,.int .i64 a0_2]) (t := 31) ?hr ?_;(case hd => rfl);(case hg => rfl);(case hr => first|(go_simp;done)|(go_simp;rfl));intro gb209 hg w18 hbox hb;have n0_ := Aside0.mk (below_step (by repeat (first|(with_reducible first|exact HB.out|apply lA|apply lN|apply lD)|exact HB.out)) hb);have n1_ := Aside0.mk (hbox);have n2_ := Aside0.mk ((by rw [hg];exact (below_size (by repeat (first|(with_reducible first|exact HB.out|apply lA|apply lN|apply lD)|exact HB.out))) : w.heap.size ≤ gb209));have n3_ := Aside0.mk ((by rw [hg];exact (below_size (by repeat (first|(with_reducible first|exact HB.out|apply lA|apply lN|apply lD)|exact HB.out))) : w.heap.size ≤ gb209));clear HB;have HB := n0_;have BK209 := n1_;have GW209 := n2_;have GE209 := n3_;clear n0_ n1_ n2_ n3_;clear hb hbox hg;have hcz19_0 : w18.cell? ⟨gb209,0,none⟩ = some (.string a0_0) := (blk_cell BK209.out 0).trans rfl;have hcz19_1 : w18.cell? ⟨gb209,1,none⟩ = some (.string a0_1) := (blk_cell BK209.out 1).trans rfl;have hcz19_2 : w18.cell? ⟨gb209,2,none⟩ = some (.int .i64 a0_2) := (blk_cell BK209.out 2).trans rfl;have hfz19_0 := blk_frozen BK209.out 0;have hfz19_1 := blk_frozen BK209.out 1;have hfz19_2 := blk_frozen BK209.out 2)|((with_reducible refine gate_callee (f := 47) rfl ?_);refine goesL_ (some 21) rfl rfl Tryd.func47 (by kernel_rfl) rfl #[.string (a0_0 ++ a0_1)] rfl (by (try simp only [List.map_toArray,List.map_cons,List.map_nil]);first|done|rfl|(simp only [List.length_drop,List.length_take];rfl)) ?_;(with_reducible refine (spec_l26Open.calls k (a0_0 ++ a0_1) t210 t211 _ A7.out).mono ?_);rintro e w20 ⟨v212,rfl,ho0,hb⟩;refine ⟨_,rfl,?_⟩;have n0_ := Aside0.mk (Kd.R_lower ho0 (below_size (by repeat (first|(with_reducible first|exact HB.out|apply lA|apply lN|apply lD|refine below_set ?_ GE209.out)|exact HB.out))));have n1_ := Aside0.mk (blk_below (g := gb209) (o := .cells #[.string a0_0,.string a0_1,.int .i64 a0_2] 31 (0,0)) (by (with_reducible repeat (first|refine bN ?_ _|refine bD ?_|refine bA ?_ _));exact BK209.out) hb);have n2_ := Aside0.mk (below_step (by repeat (first|(with_reducible first|exact HB.out|apply lA|apply lN|apply lD|refine below_set ?_ GE209.out)|exact HB.out)) hb);clear BK209;clear HB;have HO213 := n0_;have BK209 := n1_;have HB := n2_;clear n0_ n1_ n2_;(try clear hb);(try clear hb2);(try clear hk);(try clear hi);(try clear ho0);have hcz21_0 : w20.cell? ⟨gb209,0,none⟩ = some (.string a0_0) := (blk_cell BK209.out 0).trans rfl;have hcz21_1 : w20.cell? ⟨gb209,1,none⟩ = some (.string a0_1) := (blk_cell BK209.out 1).trans rfl;have hcz21_2 : w20.cell? ⟨gb209,2,none⟩ = some (.int .i64 a0_2) := (blk_cell BK209.out 2).trans rfl;have hfz21_0 := blk_frozen BK209.out 0;have hfz21_1 := blk_frozen BK209.out 1;have hfz21_2 := blk_frozen BK209.out 2)|((with_reducible refine gate_callee (f := 47) rfl ?_);refine goesL_ (some 27) rfl rfl Tryd.func47 (by kernel_rfl) rfl #[.string a0_0] rfl (by (try simp only [List.map_toArray,List.map_cons,List.map_nil]);first|done|rfl|(simp only [List.length_drop,List.length_take];rfl)) ?_;(with_reducible refine (spec_l26Open.calls k a0_0 t214 t215 _ A8.out).mono ?_);rintro e w22 ⟨v216,rfl,ho0,hb⟩;refine ⟨_,rfl,?_⟩;have n0_ := Aside0.mk (Kd.R_elder' (by (with_reducible repeat (first|apply Kd.R_alloc|apply Kd.R_drewN|apply Kd.R_drew));exact HO213.out) (Kd.R_base ho0) hb);have n1_ := Aside0.mk (Kd.R_lower (Kd.R_new' ho0 (Kd.R_lt (by (with_reducible repeat (first|apply Kd.R_alloc|apply Kd.R_drewN|apply Kd.R_drew));exact HO213.out))) (below_size (by repeat (first|(with_reducible first|exact HB.out|apply lA|apply lN|apply lD|refine below_set ?_ GE209.out)|exact HB.out))));have n2_ := Aside0.mk (blk_below (g := gb209) (o := .cells #[.string a0_0,.string a0_1,.int .i64 a0_2] 31 (0,0)) (by (with_reducible repeat (first|refine bN ?_ _|refine bD ?_|refine bA ?_ _));exact BK209.out) hb);have n3_ := Aside0.mk (below_step (by repeat (first|(with_reducible first|exact HB.out|apply lA|apply lN|apply lD|refine below_set ?_ GE209.out)|exact HB.out)) hb);clear HO213;clear BK209;clear HB;have HO213 := n0_;have HO217 := n1_;have BK209 := n2_;have HB := n3_;clear n0_ n1_ n2_ n3_;(try clear hb);(try clear hb2);(try clear hk);(try clear hi);(try clear ho0);have hcz23_0 : w22.cell? ⟨gb209,0,none⟩ = some (.string a0_0) := (blk_cell BK209.out 0).trans rfl;have hcz23_1 : w22.cell? ⟨gb209,1,none⟩ = some (.string a0_1) := (blk_cell BK209.out 1).trans rfl;have hcz23_2 : w22.cell? ⟨gb209,2,none⟩ = some (.int .i64 a0_2) := (blk_cell BK209.out 2).trans rfl;have hfz23_0 := blk_frozen BK209.out 0;have hfz23_1 := blk_frozen BK209.out 1;have hfz23_2 := blk_frozen BK209.out 2))
     go_ret
     exact ⟨by first|rfl|(simp [errW_none,errW_some] <;> rfl)|(simp [*,errW_none,errW_some] <;> rfl),by repeat (first|(with_reducible first|exact HB.out|apply lA|apply lN|apply lD|refine below_set ?_ GE209.out)|exact HB.out)⟩
   ·rw [if_neg c9] at H
    have c9b0 : (t211 == ((a0_0.size : Int) + (a0_1.size : Int))) = false := beq_eq_false_iff_ne.mpr c9
    have c9b1 : (t211 != ((a0_0.size : Int) + (a0_1.size : Int))) = true := bne_iff_ne.mpr c9
    obtain rfl := Option.some.inj H
    simp only [Option.some.injEq,Prod.mk.injEq] at H
    obtain ⟨rfl⟩ := H
    go_enter Tryd.func49,Tryd.ntmps49
    go_wp2_with (first|((with_reducible refine gate_dst (N := 1) rfl ?_);(try (refine gate_guard (by rfl) ?_;dsimp only));refine box_event ?hg (N := 1) ?hd (cs := #[.string a0_0,.string a0_1,.int .i64 a0_2]) (t := 31) ?hr ?_;(case hd => rfl);(case hg => rfl);(case hr => first|(go_simp;done)|(go_simp;rfl));intro gb209 hg w24 hbox hb;have n0_ := Aside0.mk (below_step (by repeat (first|(with_reducible first|exact HB.out|apply lA|apply lN|apply lD)|exact HB.out)) hb);have n1_ := Aside0.mk (hbox);have n2_ := Aside0.mk ((by rw [hg];exact (below_size (by repeat (first|(with_reducible first|exact HB.out|apply lA|apply lN|apply lD)|exact HB.out))) : w.heap.size ≤ gb209));have n3_ := Aside0.mk ((by rw [hg];exact (below_size (by repeat (first|(with_reducible first|exact HB.out|apply lA|apply lN|apply lD)|exact HB.out))) : w.heap.size ≤ gb209));clear HB;have HB := n0_;have BK209 := n1_;have GW209 := n2_;have GE209 := n3_;clear n0_ n1_ n2_ n3_;clear hb hbox hg;have hcz25_0 : w24.cell? ⟨gb209,0,none⟩ = some (.string a0_0) := (blk_cell BK209.out 0).trans rfl;have hcz25_1 : w24.cell? ⟨gb209,1,none⟩ = some (.string a0_1) := (blk_cell BK209.out 1).trans rfl;have hcz25_2 : w24.cell? ⟨gb209,2,none⟩ = some (.int .i64 a0_2) := (blk_cell BK209.out 2).trans rfl;have hfz25_0 := blk_frozen BK209.out 0;have hfz25_1 := blk_frozen BK209.out 1;have hfz25_2 := blk_frozen BK209.out 2)|((with_reducible refine gate_callee (f := 47) rfl ?_);refine goesL_ (some 21) rfl rfl Tryd.func47 (by kernel_rfl) rfl #[.string (a0_0 ++ a0_1)] rfl (by (try simp only [List.map_toArray,List.map_cons,List.map_nil]);first|done|rfl|(simp only [List.length_drop,List.length_take];rfl)) ?_;(with_reducible refine (spec_l26Open.calls k (a0_0 ++ a0_1) t210 t211 _ A7.out).mono ?_);rintro e w26 ⟨v212,rfl,ho0,hb⟩;refine ⟨_,rfl,?_⟩;have n0_ := Aside0.mk (Kd.R_lower ho0 (below_size (by repeat (first|(with_reducible first|exact HB.out|apply lA|apply lN|apply lD|refine below_set ?_ GE209.out)|exact HB.out))));have n1_ := Aside0.mk (blk_below (g := gb209) (o := .cells #[.string a0_0,.string a0_1,.int .i64 a0_2] 31 (0,0)) (by (with_reducible repeat (first|refine bN ?_ _|refine bD ?_|refine bA ?_ _));exact BK209.out) hb);have n2_ := Aside0.mk (below_step (by repeat (first|(with_reducible first|exact HB.out|apply lA|apply lN|apply lD|refine below_set ?_ GE209.out)|exact HB.out)) hb);clear BK209;clear HB;have HO213 := n0_;have BK209 := n1_;have HB := n2_;clear n0_ n1_ n2_;(try clear hb);(try clear hb2);(try clear hk);(try clear hi);(try clear ho0);have hcz27_0 : w26.cell? ⟨gb209,0,none⟩ = some (.string a0_0) := (blk_cell BK209.out 0).trans rfl;have hcz27_1 : w26.cell? ⟨gb209,1,none⟩ = some (.string a0_1) := (blk_cell BK209.out 1).trans rfl;have hcz27_2 : w26.cell? ⟨gb209,2,none⟩ = some (.int .i64 a0_2) := (blk_cell BK209.out 2).trans rfl;have hfz27_0 := blk_frozen BK209.out 0;have hfz27_1 := blk_frozen BK209.out 1;have hfz27_2 := blk_frozen BK209.out 2)|((with_reducible refine gate_callee (f := 47) rfl ?_);refine goesL_ (some 27) rfl rfl Tryd.func47 (by kernel_rfl) rfl #[.string a0_0] rfl (by (try simp only [List.map_toArray,List.map_cons,List.map_nil]);first|done|rfl|(simp only [List.length_drop,List.length_take];rfl)) ?_;(with_reducible refine (spec_l26Open.calls k a0_0 t214 t215 _ A8.out).mono ?_);rintro e w28 ⟨v216,rfl,ho0,hb⟩;refine ⟨_,rfl,?_⟩;have n0_ := Aside0.mk (Kd.R_elder' (by (with_reducible repeat (first|apply Kd.R_alloc|apply Kd.R_drewN|apply Kd.R_drew));exact HO213.out) (Kd.R_base ho0) hb);have n1_ := Aside0.mk (Kd.R_lower (Kd.R_new' ho0 (Kd.R_lt (by (with_reducible repeat (first|apply Kd.R_alloc|apply Kd.R_drewN|apply Kd.R_drew));exact HO213.out))) (below_size (by repeat (first|(with_reducible first|exact HB.out|apply lA|apply lN|apply lD|refine below_set ?_ GE209.out)|exact HB.out))));have n2_ := Aside0.mk (blk_below (g := gb209) (o := .cells #[.string a0_0,.string a0_1,.int .i64 a0_2] 31 (0,0)) (by (with_reducible repeat (first|refine bN ?_ _|refine bD ?_|refine bA ?_ _));exact BK209.out) hb);have n3_ := Aside0.mk (below_step (by repeat (first|(with_reducible first|exact HB.out|apply lA|apply lN|apply lD|refine below_set ?_ GE209.out)|exact HB.out)) hb);clear HO213;clear BK209;clear HB;have HO213 := n0_;have HO217 := n1_;have BK209 := n2_;have HB := n3_;clear n0_ n1_ n2_ n3_;(try clear hb);(try clear hb2);(try clear hk);(try clear hi);(try clear ho0);have hcz29_0 : w28.cell? ⟨gb209,0,none⟩ = some (.string a0_0) := (blk_cell BK209.out 0).trans rfl;have hcz29_1 : w28.cell? ⟨gb209,1,none⟩ = some (.string a0_1) := (blk_cell BK209.out 1).trans rfl;have hcz29_2 : w28.cell? ⟨gb209,2,none⟩ = some (.int .i64 a0_2) := (blk_cell BK209.out 2).trans rfl;have hfz29_0 := blk_frozen BK209.out 0;have hfz29_1 := blk_frozen BK209.out 1;have hfz29_2 := blk_frozen BK209.out 2))
    go_ret
    exact ⟨by first|rfl|(simp [errW_none,errW_some] <;> rfl)|(simp [*,errW_none,errW_some] <;> rfl),by repeat (first|(with_reducible first|exact HB.out|apply lA|apply lN|apply lD|refine below_set ?_ GE209.out)|exact HB.out)⟩
  ·rw [if_neg c5] at H
   exact absurd H (by simp)
def spec_IsValidLog.f (k : Nat) (a0_0 : ByteArray) (a0_1 : ByteArray) (a0_2 : Int) : Option (Bool) := (spec_l26Log.f k a0_0 a0_1 a0_2).bind fun t219 => (some t219)
theorem spec_IsValidLog.mono : ∀ a0 a1 a2 k,LeO (spec_IsValidLog.f k a0 a1 a2) (spec_IsValidLog.f (k + 1) a0 a1 a2) := by
 intro a0 a1 a2 k
 unfold spec_IsValidLog.f
 repeat' first
   | (with_reducible exact spec_l26Log.mono _ _ _ _)
   | (with_reducible exact LeO.refl _)
   | (with_reducible exact LeO.none _)
   | (with_reducible refine LeO.ite ?_ ?_)
   | (with_reducible refine LeO.bind ?_ (fun _ => ?_))
   | exact spec_l26Log.mono _ _ _ _
   | exact LeO.none _
   | refine LeO.ite ?_ ?_
   | refine LeO.bind ?_ (fun _ => ?_)
set_option maxHeartbeats 8000000 in
set_option maxRecDepth 100000 in
theorem spec_IsValidLog.calls (k : Nat) (a0_0 : ByteArray) (a0_1 : ByteArray) (a0_2 : Int) (r : Bool) (w : World) (h : spec_IsValidLog.f k a0_0 a0_1 a0_2 = some r) :
  Calls Tryd.prog 21 #[.agg #[.string a0_0,.string a0_1,.int .i64 a0_2]] w fun e w' => e = .returned (.bool r) ∧ Below w.heap.size w w' := by
 have hu31 := Tryd.underlying31
 have HB := Aside0.mk (Below.refl w.heap.size w)
 have H : ((spec_l26Log.f k a0_0 a0_1 a0_2).bind fun t219 => (some t219)) = some r := h
 clear h
 replace H := Option.bind_eq_some_iff.mp H
 obtain ⟨t219,A20,H⟩ := H
 replace H : (some t219) = some r := H
 have A2 := Aside0.mk A20
 clear A20
 obtain rfl := Option.some.inj H
 simp only [Option.some.injEq,Prod.mk.injEq] at H
 obtain ⟨rfl⟩ := H
 go_enter Tryd.func21,Tryd.ntmps21
 go_wp2_with (first|((with_reducible refine gate_dst (N := 1) rfl ?_);refine box_event ?hg (N := 1) ?hd (cs := #[.string a0_0,.string a0_1,.int .i64 a0_2]) (t := 31) ?hr ?_;(case hd => rfl);(case hg => rfl);(case hr => first|(go_simp;done)|(go_simp;rfl));intro gb218 hg w3 hbox hb;have n0_ := Aside0.mk (below_step (by repeat (first|(with_reducible first|exact HB.out|apply lA|apply lN|apply lD)|exact HB.out)) hb);have n1_ := Aside0.mk (hbox);have n2_ := Aside0.mk ((by rw [hg];exact (below_size (by repeat (first|(with_reducible first|exact HB.out|apply lA|apply lN|apply lD)|exact HB.out))) : w.heap.size ≤ gb218));have n3_ := Aside0.mk ((by rw [hg];exact (below_size (by repeat (first|(with_reducible first|exact HB.out|apply lA|apply lN|apply lD)|exact HB.out))) : w.heap.size ≤ gb218));clear HB;have HB := n0_;have BK218 := n1_;have GW218 := n2_;have GE218 := n3_;clear n0_ n1_ n2_ n3_;clear hb hbox hg;have hcz4_0 : w3.cell? ⟨gb218,0,none⟩ = some (.string a0_0) := (blk_cell BK218.out 0).trans rfl;have hcz4_1 : w3.cell? ⟨gb218,1,none⟩ = some (.string a0_1) := (blk_cell BK218.out 1).trans rfl;have hcz4_2 : w3.cell? ⟨gb218,2,none⟩ = some (.int .i64 a0_2) := (blk_cell BK218.out 2).trans rfl;have hfz4_0 := blk_frozen BK218.out 0;have hfz4_1 := blk_frozen BK218.out 1;have hfz4_2 := blk_frozen BK218.out 2)|((with_reducible refine gate_callee (f := 49) rfl ?_);refine goesL_ (some 4) rfl rfl Tryd.func49 (by kernel_rfl) rfl #[.agg #[.string a0_0,.string a0_1,.int .i64 a0_2]] rfl (by (try simp only [List.map_toArray,List.map_cons,List.map_nil]);first|done|rfl|(simp only [List.length_drop,List.length_take];rfl)) ?_;(with_reducible refine (spec_l26Log.calls k a0_0 a0_1 a0_2 t219 _ A2.out).mono ?_);rintro e w5 ⟨rfl,hb⟩;refine ⟨_,rfl,?_⟩;have n0_ := Aside0.mk (blk_below (g := gb218) (o := .cells #[.string a0_0,.string a0_1,.int .i64 a0_2] 31 (0,0)) (by (with_reducible repeat (first|refine bN ?_ _|refine bD ?_|refine bA ?_ _));exact BK218.out) hb);have n1_ := Aside0.mk (below_step (by repeat (first|(with_reducible first|exact HB.out|apply lA|apply lN|apply lD|refine below_set ?_ GE218.out)|exact HB.out)) hb);clear BK218;clear HB;have BK218 := n0_;have HB := n1_;clear n0_ n1_;(try clear hb);(try clear hb2);(try clear hk);(try clear hi)))
 go_ret
 exact ⟨by first|rfl|(simp [errW_none,errW_some] <;> rfl)|(simp [*,errW_none,errW_some] <;> rfl),by repeat (first|(with_reducible first|exact HB.out|apply lA|apply lN|apply lD|refine below_set ?_ GE218.out)|exact HB.out)⟩
mutual
def impl_IsValidLog.j0 : Nat → List Int → Bool → ByteArray → ByteArray → Int → Option (Bool)
 | 0,_,_,_,_,_ => none
 | k + 1,x5,x32,x221000,x221001,x221002 => if x32 = true then (some false) else (impl_IsValidLog.l0 k x5 (x5.length : Int) 0 x221000 x221001 x221002)
def impl_IsValidLog.l0 : Nat → List Int → Int → Int → ByteArray → ByteArray → Int → Option (Bool)
 | 0,_,_,_,_,_,_ => none
 | k + 1,x33,x34,x35,x221000,x221001,x221002 => if x35 < x34 then (if 0 ≤ x35 then (if x35 < (x33.length : Int) then (if (rd x33 x35) = (x221000.size : Int) then (some true) else (impl_IsValidLog.l0 k x33 x34 (wrap64 (x35 + 1)) x221000 x221001 x221002)) else (none)) else (none)) else (some false)
end
def impl_IsValidLog.f (k : Nat) (a0_0 : ByteArray) (a0_1 : ByteArray) (a0_2 : Int) : Option (Bool) := if a0_0.size + a0_1.size ≤ 9223372036854775807 then ((impl_readRecords.f k (a0_0 ++ a0_1)).bind fun bt221 => (if 0 ≤ (bt221.1.length : Int) then (if (bt221.1.length : Int) < (bt221.2.length : Int) then (if (rd bt221.2 (bt221.1.length : Int)) = ((a0_0 ++ a0_1).size : Int) then (impl_IsValidLog.j0 k bt221.2 ((bt221.1.length : Int) != a0_2) a0_0 a0_1 a0_2) else (impl_IsValidLog.j0 k bt221.2 true a0_0 a0_1 a0_2)) else (none)) else (none))) else (none)
theorem impl_IsValidLog.mono_l : ∀ k,(∀ y0 y1 y2 y3 y4,LeO (impl_IsValidLog.j0 k y0 y1 y2 y3 y4) (impl_IsValidLog.j0 (k + 1) y0 y1 y2 y3 y4)) ∧ (∀ y0 y1 y2 y3 y4 y5,LeO (impl_IsValidLog.l0 k y0 y1 y2 y3 y4 y5) (impl_IsValidLog.l0 (k + 1) y0 y1 y2 y3 y4 y5))
 | 0 => ⟨fun _ _ _ _ _ r h => by simp [impl_IsValidLog.j0] at h,fun _ _ _ _ _ _ r h => by simp [impl_IsValidLog.l0] at h⟩
 | k + 1 => by
  obtain ⟨ih0,ih1⟩ := impl_IsValidLog.mono_l k
  refine ⟨?_,?_⟩
  ·intro y0 y1 y2 y3 y4
   unfold impl_IsValidLog.j0
   repeat' first
   | (with_reducible exact ih0 _ _ _ _ _)
   | (with_reducible exact ih1 _ _ _ _ _ _)
   | (with_reducible exact impl_readRecords.mono _ _)
   | (with_reducible exact LeO.refl _)
   | (with_reducible exact LeO.none _)
   | (with_reducible refine LeO.ite ?_ ?_)
   | (with_reducible refine LeO.bind ?_ (fun _ => ?_))
   | exact ih0 _ _ _ _ _
   | exact ih1 _ _ _ _ _ _
   | exact impl_readRecords.mono _ _
   | exact LeO.none _
   | refine LeO.ite ?_ ?_
   | refine LeO.bind ?_ (fun _ => ?_)
  ·intro y0 y1 y2 y3 y4 y5
   unfold impl_IsValidLog.l0
   repeat' first
   | (with_reducible exact ih0 _ _ _ _ _)
   | (with_reducible exact ih1 _ _ _ _ _ _)
   | (with_reducible exact impl_readRecords.mono _ _)
   | (with_reducible exact LeO.refl _)
   | (with_reducible exact LeO.none _)
   | (with_reducible refine LeO.ite ?_ ?_)
   | (with_reducible refine LeO.bind ?_ (fun _ => ?_))
   | exact ih0 _ _ _ _ _
   | exact ih1 _ _ _ _ _ _
   | exact impl_readRecords.mono _ _
   | exact LeO.none _
   | refine LeO.ite ?_ ?_
   | refine LeO.bind ?_ (fun _ => ?_)
theorem impl_IsValidLog.mono : ∀ a0 a1 a2 k,LeO (impl_IsValidLog.f k a0 a1 a2) (impl_IsValidLog.f (k + 1) a0 a1 a2) := by
 intro a0 a1 a2 k
 obtain ⟨ih0,ih1⟩ := impl_IsValidLog.mono_l k
 unfold impl_IsValidLog.f
 repeat' first
   | (with_reducible exact ih0 _ _ _ _ _)
   | (with_reducible exact ih1 _ _ _ _ _ _)
   | (with_reducible exact impl_readRecords.mono _ _)
   | (with_reducible exact LeO.refl _)
   | (with_reducible exact LeO.none _)
   | (with_reducible refine LeO.ite ?_ ?_)
   | (with_reducible refine LeO.bind ?_ (fun _ => ?_))
   | exact ih0 _ _ _ _ _
   | exact ih1 _ _ _ _ _ _
   | exact impl_readRecords.mono _ _
   | exact LeO.none _
   | refine LeO.ite ?_ ?_
   | refine LeO.bind ?_ (fun _ => ?_)
set_option maxHeartbeats 8000000 in
set_option maxRecDepth 100000 in
theorem impl_IsValidLog.calls (k : Nat) (a0_0 : ByteArray) (a0_1 : ByteArray) (a0_2 : Int) (r : Bool) (w : World) (hG : Gw w) (h : impl_IsValidLog.f k a0_0 a0_1 a0_2 = some r) :
  Calls Tryd.prog 23 #[.agg #[.string a0_0,.string a0_1,.int .i64 a0_2]] w fun e w' => e = .returned (.bool r) ∧ Below w.heap.size w w' := by
 have hu31 := Tryd.underlying31
 have HB := Aside0.mk (Below.refl w.heap.size w)
 have HG := Aside0.mk hG
 clear hG
 have H : (if a0_0.size + a0_1.size ≤ 9223372036854775807 then ((impl_readRecords.f k (a0_0 ++ a0_1)).bind fun bt221 => (if 0 ≤ (bt221.1.length : Int) then (if (bt221.1.length : Int) < (bt221.2.length : Int) then (if (rd bt221.2 (bt221.1.length : Int)) = ((a0_0 ++ a0_1).size : Int) then (impl_IsValidLog.j0 k bt221.2 ((bt221.1.length : Int) != a0_2) a0_0 a0_1 a0_2) else (impl_IsValidLog.j0 k bt221.2 true a0_0 a0_1 a0_2)) else (none)) else (none))) else (none)) = some r := h
 clear h
 by_cases c2 : a0_0.size + a0_1.size ≤ 9223372036854775807
 ·rw [if_pos c2] at H
  have c2b0 := eq_true c2
  have c2b1 : decide (a0_0.size + a0_1.size ≤ 9223372036854775807) = true := decide_eq_true c2
  try have c2b2 : (9223372036854775807 < a0_0.size + a0_1.size) = False := eq_false (Nat.not_lt.2 c2)
  obtain ⟨sj3,hsj3⟩ : ∃ s_ : ByteArray,(a0_0 ++ a0_1) = s_ := ⟨_,rfl⟩
  replace H : ((impl_readRecords.f k sj3).bind fun bt221 => (if 0 ≤ (bt221.1.length : Int) then (if (bt221.1.length : Int) < (bt221.2.length : Int) then (if (rd bt221.2 (bt221.1.length : Int)) = (sj3.size : Int) then (impl_IsValidLog.j0 k bt221.2 ((bt221.1.length : Int) != a0_2) a0_0 a0_1 a0_2) else (impl_IsValidLog.j0 k bt221.2 true a0_0 a0_1 a0_2)) else (none)) else (none))) = some r := by first|(rw [hsj3] at H;exact H)|(simp only [hsj3] at H ⊢;exact H)
  replace H := Option.bind_eq_some_iff.mp H
  obtain ⟨⟨t221,t222⟩,A40,H⟩ := H
  replace H : (if 0 ≤ (t221.length : Int) then (if (t221.length : Int) < (t222.length : Int) then (if (rd t222 (t221.length : Int)) = (sj3.size : Int) then (impl_IsValidLog.j0 k t222 ((t221.length : Int) != a0_2) a0_0 a0_1 a0_2) else (impl_IsValidLog.j0 k t222 true a0_0 a0_1 a0_2)) else (none)) else (none)) = some r := H
  have A4 := Aside0.mk A40
  clear A40
  have HC5 := Aside0.mk H
  clear H
  go_enter Tryd.func23,Tryd.ntmps23
  go_upto_region 3 with (first|((with_reducible refine gate_dst (N := 1) rfl ?_);(try (refine gate_guard (by rfl) ?_;dsimp only));refine box_event ?hg (N := 1) ?hd (cs := #[.string a0_0,.string a0_1,.int .i64 a0_2]) (t := 31) ?hr ?_;(case hd => rfl);(case hg => rfl);(case hr => first|(go_simp;done)|(go_simp;rfl));intro gb220 hg w6 hbox hb;have n0_ := Aside0.mk (below_step (by repeat (first|(with_reducible first|exact HB.out|apply lA|apply lN|apply lD)|exact HB.out)) hb);have n1_ := Aside0.mk (hbox);have n2_ := Aside0.mk ((by rw [hg];exact (below_size (by repeat (first|(with_reducible first|exact HB.out|apply lA|apply lN|apply lD)|exact HB.out))) : w.heap.size ≤ gb220));have n3_ := Aside0.mk ((by rw [hg];exact (below_size (by repeat (first|(with_reducible first|exact HB.out|apply lA|apply lN|apply lD)|exact HB.out))) : w.heap.size ≤ gb220));clear HB;have HB := n0_;have BK220 := n1_;have GW220 := n2_;have GE220 := n3_;clear n0_ n1_ n2_ n3_;clear hb hbox hg;have hcz7_0 : w6.cell? ⟨gb220,0,none⟩ = some (.string a0_0) := (blk_cell BK220.out 0).trans rfl;have hcz7_1 : w6.cell? ⟨gb220,1,none⟩ = some (.string a0_1) := (blk_cell BK220.out 1).trans rfl;have hcz7_2 : w6.cell? ⟨gb220,2,none⟩ = some (.int .i64 a0_2) := (blk_cell BK220.out 2).trans rfl;have hfz7_0 := blk_frozen BK220.out 0;have hfz7_1 := blk_frozen BK220.out 1;have hfz7_2 := blk_frozen BK220.out 2)|((with_reducible refine gate_callee (f := 48) rfl ?_);refine goesL_ (some 15) rfl rfl Tryd.func48 (by kernel_rfl) rfl #[.string sj3] rfl (by (try simp only [List.map_toArray,List.map_cons,List.map_nil]);first|done|rfl|(simp only [List.length_drop,List.length_take];rfl)) ?_;(with_reducible refine (impl_readRecords.calls k sj3 t221 t222 _ ?side1 A4.out).mono ?_);(case side1 => exact Gw.below HG.out (by repeat (first|(with_reducible first|exact HB.out|apply lA|apply lN|apply lD|refine below_set ?_ GE220.out)|exact HB.out)));rintro e w8 ⟨v223,v225,rfl,ho0,ho1,hb⟩;refine ⟨_,rfl,?_⟩;have n0_ := Aside0.mk (Kd.R_lower ho0 (below_size (by repeat (first|(with_reducible first|exact HB.out|apply lA|apply lN|apply lD|refine below_set ?_ GE220.out)|exact HB.out))));have n1_ := Aside0.mk (Kd.R_lower ho1 (below_size (by repeat (first|(with_reducible first|exact HB.out|apply lA|apply lN|apply lD|refine below_set ?_ GE220.out)|exact HB.out))));have n2_ := Aside0.mk (blk_below (g := gb220) (o := .cells #[.string a0_0,.string a0_1,.int .i64 a0_2] 31 (0,0)) (by (with_reducible repeat (first|refine bN ?_ _|refine bD ?_|refine bA ?_ _));exact BK220.out) hb);have n3_ := Aside0.mk (below_step (by repeat (first|(with_reducible first|exact HB.out|apply lA|apply lN|apply lD|refine below_set ?_ GE220.out)|exact HB.out)) hb);clear BK220;clear HB;have HO224 := n0_;have HO226 := n1_;have BK220 := n2_;have HB := n3_;clear n0_ n1_ n2_ n3_;(try clear hb);(try clear hb2);(try clear hk);(try clear hi);(try clear ho0);(try clear ho1)))
  (try simp only [Act.put,List.setIfInBounds_toArray,List.set_cons_zero,List.set_cons_succ])
  go_cut [32] (fun v32 wc => ∃ (kq : Nat) (x32_4 : Bool),v32 = .bool x32_4 ∧ Aside0 (impl_IsValidLog.j0 kq t222 x32_4 a0_0 a0_1 a0_2 = some r) ∧ Aside0 (kq ≤ k) ∧ Aside0 (Kd.R (Kd.int .i64) 3 wc w.heap.size (fun _ => True) v225 t222) ∧ Aside0 (wc.heap[gb220]? = some (.cells #[.string a0_0,.string a0_1,.int .i64 a0_2] 31 (0,0))) ∧ Aside0 (Below w.heap.size w wc))
  case first =>
   have H := HC5.out
   clear HC5
   by_cases c9 : 0 ≤ (t221.length : Int)
   ·rw [if_pos c9] at H
    have c9b0 : decide (0 ≤ (t221.length : Int)) = true := decide_eq_true c9
    have c9b1 : decide (0 ≤ t221.length) = true := decide_eq_true (by omega)
    clear c9
    (first|rw [c9b0]|(simp only [i64_w,i32_w];rw [c9b0])|skip)
    by_cases c10 : (t221.length : Int) < (t222.length : Int)
    ·rw [if_pos c10] at H
     have c10b0 : decide ((t221.length : Int) < (t222.length : Int)) = true := decide_eq_true c10
     have c10b1 : decide (t221.length < t222.length) = true := decide_eq_true (Int.ofNat_lt.mp c10)
     clear c10
     by_cases c11 : (rd t222 (t221.length : Int)) = (sj3.size : Int)
     ·rw [if_pos c11] at H
      have c11b0 : ((rd t222 (t221.length : Int)) == (sj3.size : Int)) = true := beq_iff_eq.mpr c11
      have c11b1 : ((rd t222 (t221.length : Int)) != (sj3.size : Int)) = false := bne_eq_false_iff_eq.mpr c11
      clear c11
      have H' := Aside0.mk H
      clear H
      obtain ⟨Ao12,co12,eo12⟩ := Kd.R_slice HO224.out
      subst eo12
      obtain ⟨Ao13,co13,eo13⟩ := Kd.R_slice HO226.out
      subst eo13
      have p227 : 0 ≤ ((t221.length : Int) : Int) := of_decide_eq_true (by first|(with_reducible assumption)|assumption)
      have q227 : (t221.length : Int) < (t222.length : Int) := of_decide_eq_true (by first|(with_reducible assumption)|assumption)
      obtain ⟨ad227,e227,hx227_0⟩ := Kd.at_int (Kd.R_reads' HO226.out).2.2 (t221.length : Int) p227 q227
      cases e227
      (try simp only [Go.IntWalk.toNatUp] at hx227_0)
      replace p227 := eq_true p227
      replace q227 := eq_true q227
      have hcz14_0 : w8.cell? ⟨gb220,0,none⟩ = some (.string a0_0) := (blk_cell BK220.out 0).trans rfl
      have hcz14_1 : w8.cell? ⟨gb220,1,none⟩ = some (.string a0_1) := (blk_cell BK220.out 1).trans rfl
      have hcz14_2 : w8.cell? ⟨gb220,2,none⟩ = some (.int .i64 a0_2) := (blk_cell BK220.out 2).trans rfl
      have hfz14_0 := blk_frozen BK220.out 0
      have hfz14_1 := blk_frozen BK220.out 1
      have hfz14_2 := blk_frozen BK220.out 2
      go_wp2
      go_meet
      case rel => exact ⟨_,(((t221.length : Int) != a0_2)),(by first|rfl|(simp;done)|(simp [my_isEmpty];done)|(simp [*];done)),H',⟨by first|omega|exact Nat.le_refl _⟩,⟨by (with_reducible repeat (first|apply Kd.R_alloc|apply Kd.R_drewN|apply Kd.R_drew));exact HO226.out⟩,⟨by (with_reducible repeat (first|refine bN ?_ _|refine bD ?_|refine bA ?_ _));exact BK220.out⟩,⟨by repeat (first|(with_reducible first|exact HB.out|apply lA|apply lN|apply lD|refine below_set ?_ GE220.out)|exact HB.out)⟩⟩
     ·rw [if_neg c11] at H
      have c11b0 : ((rd t222 (t221.length : Int)) == (sj3.size : Int)) = false := beq_eq_false_iff_ne.mpr c11
      have c11b1 : ((rd t222 (t221.length : Int)) != (sj3.size : Int)) = true := bne_iff_ne.mpr c11
      have H' := Aside0.mk H
      clear H
      obtain ⟨Ao15,co15,eo15⟩ := Kd.R_slice HO224.out
      subst eo15
      obtain ⟨Ao16,co16,eo16⟩ := Kd.R_slice HO226.out
      subst eo16
      have p227 : 0 ≤ ((t221.length : Int) : Int) := of_decide_eq_true (by first|(with_reducible assumption)|assumption)
      have q227 : (t221.length : Int) < (t222.length : Int) := of_decide_eq_true (by first|(with_reducible assumption)|assumption)
      obtain ⟨ad227,e227,hx227_0⟩ := Kd.at_int (Kd.R_reads' HO226.out).2.2 (t221.length : Int) p227 q227
      cases e227
      (try simp only [Go.IntWalk.toNatUp] at hx227_0)
      replace p227 := eq_true p227
      replace q227 := eq_true q227
      go_wp2
      go_meet
      case rel => exact ⟨_,(true),(by first|rfl|(simp;done)|(simp [my_isEmpty];done)|(simp [*];done)),H',⟨by first|omega|exact Nat.le_refl _⟩,⟨by (with_reducible repeat (first|apply Kd.R_alloc|apply Kd.R_drewN|apply Kd.R_drew));exact HO226.out⟩,⟨by (with_reducible repeat (first|refine bN ?_ _|refine bD ?_|refine bA ?_ _));exact BK220.out⟩,⟨by repeat (first|(with_reducible first|exact HB.out|apply lA|apply lN|apply lD|refine below_set ?_ GE220.out)|exact HB.out)⟩⟩
    ·rw [if_neg c10] at H
     exact absurd H (by simp)
   ·rw [if_neg c9] at H
    exact absurd H (by simp)
  case rest =>
   clear HC5
   try clear c1
   try clear c2
   try clear c2b0
   try clear c2b1
   try clear c2b2
   try clear p2
   try clear q2
   try clear hx2
   try clear c4
   try clear c9
   try clear c9b0
   try clear c9b1
   try clear c10
   try clear c10b0
   try clear c10b1
   try clear c11
   try clear c11b0
   try clear c11b1
   try clear hcz14_0
   try clear hcz14_1
   try clear hcz14_2
   try clear hcz7_0
   try clear hcz7_1
   try clear hcz7_2
   try clear hfz14_0
   try clear hfz14_1
   try clear hfz14_2
   try clear hfz7_0
   try clear hfz7_1
   try clear hfz7_2
   try clear hx227_0
   try clear p227
   try clear q227
   obtain ⟨kq,x32_4,rfl,HA,HJ4,HO_5,BK220,HB⟩ := hcut
   cases kq with
   | zero => exact absurd HA.out (by simp [impl_IsValidLog.j0])
   | succ kj4 =>
    have H := HA.out
    clear HA
    simp only [impl_IsValidLog.j0] at H
    by_cases c17 : x32_4 = true
    ·subst c17
     have H1 : (some false) = some r := by rw [if_pos rfl] at H;exact H
     clear H
     have H := H1
     clear H1
     obtain rfl := Option.some.inj H
     simp only [Option.some.injEq,Prod.mk.injEq] at H
     obtain ⟨rfl⟩ := H
     go_wp2
     go_ret
     exact ⟨by first|rfl|(simp [errW_none,errW_some] <;> rfl)|(simp only [← hsj3];first|rfl|(simp [errW_none,errW_some] <;> rfl))|(simp [*,errW_none,errW_some] <;> rfl),by repeat (first|(with_reducible first|exact HB.out|apply lA|apply lN|apply lD|refine below_set ?_ GE220.out)|exact HB.out)⟩
    ·replace c17 := Bool.eq_false_iff.mpr c17
     subst c17
     have H1 : (impl_IsValidLog.l0 kj4 t222 (t222.length : Int) 0 a0_0 a0_1 a0_2) = some r := by rw [if_neg (show ¬ (false = true) by decide)] at H;exact H
     clear H
     have H := H1
     clear H1
     have H' := Aside0.mk H
     clear H
     obtain ⟨Ao18,co18,eo18⟩ := Kd.R_slice HO_5.out
     subst eo18
     go_wp2
     go_loopg [35] kj4 (fun kq v35 w' => ∃ (x35_2 : Int),v35 = .int .i64 x35_2 ∧ Aside0 (impl_IsValidLog.l0 kq t222 (t222.length : Int) x35_2 a0_0 a0_1 a0_2 = some r) ∧ Aside0 (kq ≤ kj4) ∧ Aside0 (Kd.R (Kd.int .i64) 3 w' w.heap.size (fun _ => True) (.slice Ao18 t222.length co18) t222) ∧ Aside0 (w'.heap[gb220]? = some (.cells #[.string a0_0,.string a0_1,.int .i64 a0_2] 31 (0,0))) ∧ Aside0 (Below w.heap.size w w'))
     case atStart => exact ⟨(0),(by first|rfl|(simp;done)|(simp [my_isEmpty];done)|(simp [*];done)),H',⟨Nat.le_refl _⟩,⟨by (with_reducible repeat (first|apply Kd.R_alloc|apply Kd.R_drewN|apply Kd.R_drew));exact HO_5.out⟩,⟨by (with_reducible repeat (first|refine bN ?_ _|refine bD ?_|refine bA ?_ _));exact BK220.out⟩,⟨by repeat (first|(with_reducible first|exact HB.out|apply lA|apply lN|apply lD|refine below_set ?_ GE220.out)|exact HB.out)⟩⟩
     case round =>
      clear H'
      try clear c1
      try clear c2
      try clear c2b0
      try clear c2b1
      try clear c2b2
      try clear p2
      try clear q2
      try clear hx2
      try clear c4
      try clear c9
      try clear c9b0
      try clear c9b1
      try clear c10
      try clear c10b0
      try clear c10b1
      try clear c11
      try clear c11b0
      try clear c11b1
      try clear c17
      try clear hcz14_0
      try clear hcz14_1
      try clear hcz14_2
      try clear hcz7_0
      try clear hcz7_1
      try clear hcz7_2
      try clear hfz14_0
      try clear hfz14_1
      try clear hfz14_2
      try clear hfz7_0
      try clear hfz7_1
      try clear hfz7_2
      try clear hx227_0
      try clear p2
      try clear p227
      try clear q2
      try clear q227
      obtain ⟨x35_2,rfl,HA,HK2,HO_33,BK220,HB⟩ := hrel
      cases gk with
      | zero => exact absurd HA.out (by simp [impl_IsValidLog.l0])
      | succ k2 =>
       have H := HA.out
       clear HA
       simp only [impl_IsValidLog.l0] at H
       by_cases c19 : x35_2 < (t222.length : Int)
       ·rw [if_pos c19] at H
        have c19b0 : decide (x35_2 < (t222.length : Int)) = true := decide_eq_true c19
        clear c19
        by_cases c20 : 0 ≤ x35_2
        ·rw [if_pos c20] at H
         have c20b0 : decide (0 ≤ x35_2) = true := decide_eq_true c20
         clear c20
         by_cases c21 : x35_2 < (t222.length : Int)
         ·rw [if_pos c21] at H
          have c21b0 : decide (x35_2 < (t222.length : Int)) = true := decide_eq_true c21
          clear c21
          by_cases c22 : (rd t222 x35_2) = (a0_0.size : Int)
          ·rw [if_pos c22] at H
           have c22b0 : ((rd t222 x35_2) == (a0_0.size : Int)) = true := beq_iff_eq.mpr c22
           have c22b1 : ((rd t222 x35_2) != (a0_0.size : Int)) = false := bne_eq_false_iff_eq.mpr c22
           clear c22
           obtain rfl := Option.some.inj H
           simp only [Option.some.injEq,Prod.mk.injEq] at H
           obtain ⟨rfl⟩ := H
           have p228 : 0 ≤ (x35_2 : Int) := of_decide_eq_true (by first|(with_reducible assumption)|assumption)
           have q228 : x35_2 < (t222.length : Int) := of_decide_eq_true (by first|(with_reducible assumption)|assumption)
           obtain ⟨ad228,e228,hx228_0⟩ := Kd.at_int (Kd.R_reads' HO_33.out).2.2 x35_2 p228 q228
           cases e228
           replace p228 := eq_true p228
           replace q228 := eq_true q228
           have hcz23_0 : wr.cell? ⟨gb220,0,none⟩ = some (.string a0_0) := (blk_cell BK220.out 0).trans rfl
           have hcz23_1 : wr.cell? ⟨gb220,1,none⟩ = some (.string a0_1) := (blk_cell BK220.out 1).trans rfl
           have hcz23_2 : wr.cell? ⟨gb220,2,none⟩ = some (.int .i64 a0_2) := (blk_cell BK220.out 2).trans rfl
           have hfz23_0 := blk_frozen BK220.out 0
           have hfz23_1 := blk_frozen BK220.out 1
           have hfz23_2 := blk_frozen BK220.out 2
           go_wp2
           go_ret
           exact ⟨by first|rfl|(simp [errW_none,errW_some] <;> rfl)|(simp only [← hsj3];first|rfl|(simp [errW_none,errW_some] <;> rfl))|(simp [*,errW_none,errW_some] <;> rfl),by repeat (first|(with_reducible first|exact HB.out|apply lA|apply lN|apply lD|refine below_set ?_ GE220.out)|exact HB.out)⟩
          ·rw [if_neg c22] at H
           have c22b0 : ((rd t222 x35_2) == (a0_0.size : Int)) = false := beq_eq_false_iff_ne.mpr c22
           have c22b1 : ((rd t222 x35_2) != (a0_0.size : Int)) = true := bne_iff_ne.mpr c22
           have H' := Aside0.mk H
           clear H
           have p228 : 0 ≤ (x35_2 : Int) := of_decide_eq_true (by first|(with_reducible assumption)|assumption)
           have q228 : x35_2 < (t222.length : Int) := of_decide_eq_true (by first|(with_reducible assumption)|assumption)
           obtain ⟨ad228,e228,hx228_0⟩ := Kd.at_int (Kd.R_reads' HO_33.out).2.2 x35_2 p228 q228
           cases e228
           replace p228 := eq_true p228
           replace q228 := eq_true q228
           have hcz24_0 : wr.cell? ⟨gb220,0,none⟩ = some (.string a0_0) := (blk_cell BK220.out 0).trans rfl
           have hcz24_1 : wr.cell? ⟨gb220,1,none⟩ = some (.string a0_1) := (blk_cell BK220.out 1).trans rfl
           have hcz24_2 : wr.cell? ⟨gb220,2,none⟩ = some (.int .i64 a0_2) := (blk_cell BK220.out 2).trans rfl
           have hfz24_0 := blk_frozen BK220.out 0
           have hfz24_1 := blk_frozen BK220.out 1
           have hfz24_2 := blk_frozen BK220.out 2
           go_wp2
           go_roundg k2
           case measure => have := HJ4.out;have := HK2.out;omega
           case rel => exact ⟨(wrap64 (x35_2 + 1)),(by first|rfl|(simp;done)|(simp [my_isEmpty];done)|(simp [*];done)),H',⟨by have := HJ4.out;have := HK2.out;omega⟩,⟨by (with_reducible repeat (first|apply Kd.R_alloc|apply Kd.R_drewN|apply Kd.R_drew));exact HO_33.out⟩,⟨by (with_reducible repeat (first|refine bN ?_ _|refine bD ?_|refine bA ?_ _));exact BK220.out⟩,⟨by repeat (first|(with_reducible first|exact HB.out|apply lA|apply lN|apply lD|refine below_set ?_ GE220.out)|exact HB.out)⟩⟩
         ·rw [if_neg c21] at H
          exact absurd H (by simp)
        ·rw [if_neg c20] at H
         exact absurd H (by simp)
       ·rw [if_neg c19] at H
        have c19b0 : decide (x35_2 < (t222.length : Int)) = false := decide_eq_false c19
        clear c19
        obtain rfl := Option.some.inj H
        simp only [Option.some.injEq,Prod.mk.injEq] at H
        obtain ⟨rfl⟩ := H
        go_wp2
        go_ret
        exact ⟨by first|rfl|(simp [errW_none,errW_some] <;> rfl)|(simp only [← hsj3];first|rfl|(simp [errW_none,errW_some] <;> rfl))|(simp [*,errW_none,errW_some] <;> rfl),by repeat (first|(with_reducible first|exact HB.out|apply lA|apply lN|apply lD|refine below_set ?_ GE220.out)|exact HB.out)⟩
 ·rw [if_neg c2] at H
  exact absurd H (by simp)
def impl_SyncLog.f (k : Nat) (a0_0 : ByteArray) (a0_1 : ByteArray) (a0_2 : Int) : Option (ByteArray × ByteArray × Int × Bool) := (impl_IsValidLog.f k a0_0 a0_1 a0_2).bind fun t231 => (if t231 = true then (if a0_0.size + a0_1.size ≤ 9223372036854775807 then (some (a0_0 ++ a0_1,(⟨#[]⟩ : ByteArray),a0_2,true)) else (none)) else (some ((⟨#[]⟩ : ByteArray),(⟨#[]⟩ : ByteArray),0,false)))
theorem impl_SyncLog.mono : ∀ a0 a1 a2 k,LeO (impl_SyncLog.f k a0 a1 a2) (impl_SyncLog.f (k + 1) a0 a1 a2) := by
 intro a0 a1 a2 k
 unfold impl_SyncLog.f
 repeat' first
   | (with_reducible exact impl_IsValidLog.mono _ _ _ _)
   | (with_reducible exact LeO.refl _)
   | (with_reducible exact LeO.none _)
   | (with_reducible refine LeO.ite ?_ ?_)
   | (with_reducible refine LeO.bind ?_ (fun _ => ?_))
   | exact impl_IsValidLog.mono _ _ _ _
   | exact LeO.none _
   | refine LeO.ite ?_ ?_
   | refine LeO.bind ?_ (fun _ => ?_)
set_option maxHeartbeats 8000000 in
set_option maxRecDepth 100000 in
theorem impl_SyncLog.calls (k : Nat) (a0_0 : ByteArray) (a0_1 : ByteArray) (a0_2 : Int) (r1 : ByteArray) (r2 : ByteArray) (r3 : Int) (r4 : Bool) (w : World) (hG : Gw w) (h : impl_SyncLog.f k a0_0 a0_1 a0_2 = some (r1,r2,r3,r4)) :
  Calls Tryd.prog 27 #[.agg #[.string a0_0,.string a0_1,.int .i64 a0_2]] w fun e w' => e = .returned (.tuple #[.agg #[.string r1,.string r2,.int .i64 r3],.bool r4]) ∧ Below w.heap.size w w' := by
 have hu31 := Tryd.underlying31
 have HB := Aside0.mk (Below.refl w.heap.size w)
 have HG := Aside0.mk hG
 clear hG
 have H : ((impl_IsValidLog.f k a0_0 a0_1 a0_2).bind fun t231 => (if t231 = true then (if a0_0.size + a0_1.size ≤ 9223372036854775807 then (some (a0_0 ++ a0_1,(⟨#[]⟩ : ByteArray),a0_2,true)) else (none)) else (some ((⟨#[]⟩ : ByteArray),(⟨#[]⟩ : ByteArray),0,false)))) = some (r1,r2,r3,r4) := h
 clear h
 replace H := Option.bind_eq_some_iff.mp H
 obtain ⟨t231,A20,H⟩ := H
 replace H : (if t231 = true then (if a0_0.size + a0_1.size ≤ 9223372036854775807 then (some (a0_0 ++ a0_1,(⟨#[]⟩ : ByteArray),a0_2,true)) else (none)) else (some ((⟨#[]⟩ : ByteArray),(⟨#[]⟩ : ByteArray),0,false))) = some (r1,r2,r3,r4) := H
 have A2 := Aside0.mk A20
 clear A20
 by_cases c3 : t231 = true
 ·subst c3
  have H1 : (if a0_0.size + a0_1.size ≤ 9223372036854775807 then (some (a0_0 ++ a0_1,(⟨#[]⟩ : ByteArray),a0_2,true)) else (none)) = some (r1,r2,r3,r4) := by rw [if_pos rfl] at H;exact H
  clear H
  have H := H1
  clear H1
  by_cases c4 : a0_0.size + a0_1.size ≤ 9223372036854775807
  ·rw [if_pos c4] at H
   have c4b0 := eq_true c4
   have c4b1 : decide (a0_0.size + a0_1.size ≤ 9223372036854775807) = true := decide_eq_true c4
   try have c4b2 : (9223372036854775807 < a0_0.size + a0_1.size) = False := eq_false (Nat.not_lt.2 c4)
   simp only [Option.some.injEq,Prod.mk.injEq] at H
   obtain ⟨rfl,rfl,rfl,rfl⟩ := H
   go_enter Tryd.func27,Tryd.ntmps27
   go_wp2_with (first|((with_reducible refine gate_dst (N := 1) rfl ?_);refine box_event ?hg (N := 1) ?hd (cs := #[.string a0_0,.string a0_1,.int .i64 a0_2]) (t := 31) ?hr ?_;(case hd => rfl);(case hg => rfl);(case hr => first|(go_simp;done)|(go_simp;rfl));intro gb229 hg w5 hbox hb;have n0_ := Aside0.mk (below_step (by repeat (first|(with_reducible first|exact HB.out|apply lA|apply lN|apply lD)|exact HB.out)) hb);have n1_ := Aside0.mk (hbox);have n2_ := Aside0.mk ((by rw [hg];exact (below_size (by repeat (first|(with_reducible first|exact HB.out|apply lA|apply lN|apply lD)|exact HB.out))) : w.heap.size ≤ gb229));have n3_ := Aside0.mk ((by rw [hg];exact (below_size (by repeat (first|(with_reducible first|exact HB.out|apply lA|apply lN|apply lD)|exact HB.out))) : w.heap.size ≤ gb229));clear HB;have HB := n0_;have BK229 := n1_;have GW229 := n2_;have GE229 := n3_;clear n0_ n1_ n2_ n3_;clear hb hbox hg)|((with_reducible refine gate_dst (N := 2) rfl ?_);refine box_event ?hg (N := 2) ?hd (cs := #[.string (⟨#[]⟩ : ByteArray),.string (⟨#[]⟩ : ByteArray),.int .i64 0]) (t := 31) ?hr ?_;(case hd => rfl);(case hg => rfl);(case hr => first|(go_simp;done)|(go_simp;rfl));intro gb230 hg w6 hbox hb;have n0_ := Aside0.mk (blk_below (g := gb229) (o := .cells #[.string a0_0,.string a0_1,.int .i64 a0_2] 31 (0,0)) (by (with_reducible repeat (first|refine bN ?_ _|refine bD ?_|refine bA ?_ _));exact BK229.out) hb);have n1_ := Aside0.mk (below_step (by repeat (first|(with_reducible first|exact HB.out|apply lA|apply lN|apply lD|refine below_set ?_ GE229.out)|exact HB.out)) hb);have n2_ := Aside0.mk (hbox);have n3_ := Aside0.mk ((by rw [hg];exact (below_size (by repeat (first|(with_reducible first|exact HB.out|apply lA|apply lN|apply lD|refine below_set ?_ GE229.out)|exact HB.out))) : w.heap.size ≤ gb230));have n4_ := Aside0.mk ((by rw [hg];exact (below_size (by repeat (first|(with_reducible first|exact HB.out|apply lA|apply lN|apply lD|refine below_set ?_ GE229.out)|exact HB.out))) : w.heap.size ≤ gb230));have n5_ := Aside0.mk ((by rw [hg];exact Nat.ne_of_lt (blk_lt (g := gb229) (o := .cells #[.string a0_0,.string a0_1,.int .i64 a0_2] 31 (0,0)) (by (with_reducible repeat (first|refine bN ?_ _|refine bD ?_|refine bA ?_ _));exact BK229.out)) : gb229 ≠ gb230));have n6_ := Aside0.mk ((by rw [hg];exact Nat.ne_of_gt (blk_lt (g := gb229) (o := .cells #[.string a0_0,.string a0_1,.int .i64 a0_2] 31 (0,0)) (by (with_reducible repeat (first|refine bN ?_ _|refine bD ?_|refine bA ?_ _));exact BK229.out)) : gb230 ≠ gb229));clear BK229;clear HB;have BK229 := n0_;have HB := n1_;have BK230 := n2_;have GW230 := n3_;have GE230 := n4_;have NB229_230 := n5_;have NB230_229 := n6_;clear n0_ n1_ n2_ n3_ n4_ n5_ n6_;clear hb hbox hg;have hnb7 := NB229_230.out;have hnc7 := NB230_229.out;have hcz8_0 : w6.cell? ⟨gb229,0,none⟩ = some (.string a0_0) := (blk_cell BK229.out 0).trans rfl;have hcz8_1 : w6.cell? ⟨gb229,1,none⟩ = some (.string a0_1) := (blk_cell BK229.out 1).trans rfl;have hcz8_2 : w6.cell? ⟨gb229,2,none⟩ = some (.int .i64 a0_2) := (blk_cell BK229.out 2).trans rfl;have hfz8_0 := blk_frozen BK229.out 0;have hfz8_1 := blk_frozen BK229.out 1;have hfz8_2 := blk_frozen BK229.out 2)|((with_reducible refine gate_callee (f := 23) rfl ?_);refine goesL_ (some 5) rfl rfl Tryd.func23 (by kernel_rfl) rfl #[.agg #[.string a0_0,.string a0_1,.int .i64 a0_2]] rfl (by (try simp only [List.map_toArray,List.map_cons,List.map_nil]);first|done|rfl|(simp only [List.length_drop,List.length_take];rfl)) ?_;(with_reducible refine (impl_IsValidLog.calls k a0_0 a0_1 a0_2 true _ ?side1 A2.out).mono ?_);(case side1 => exact Gw.below HG.out (by repeat (first|(with_reducible first|exact HB.out|apply lA|apply lN|apply lD|refine below_set ?_ GE229.out|refine below_set ?_ GE230.out)|exact HB.out)));rintro e w9 ⟨rfl,hb⟩;refine ⟨_,rfl,?_⟩;have n0_ := Aside0.mk (blk_below (g := gb229) (o := .cells #[.string a0_0,.string a0_1,.int .i64 a0_2] 31 (0,0)) (by (with_reducible repeat (first|refine bN ?_ _|refine bD ?_|refine bA ?_ _));exact BK229.out) hb);have n1_ := Aside0.mk (blk_below (g := gb230) (o := .cells #[.string (⟨#[]⟩ : ByteArray),.string (⟨#[]⟩ : ByteArray),.int .i64 0] 31 (0,0)) (by (with_reducible repeat (first|refine bN ?_ _|refine bD ?_|refine bA ?_ _));exact BK230.out) hb);have n2_ := Aside0.mk (below_step (by repeat (first|(with_reducible first|exact HB.out|apply lA|apply lN|apply lD|refine below_set ?_ GE229.out|refine below_set ?_ GE230.out)|exact HB.out)) hb);clear BK229;clear BK230;clear HB;have BK229 := n0_;have BK230 := n1_;have HB := n2_;clear n0_ n1_ n2_;(try clear hb);(try clear hb2);(try clear hk);(try clear hi);have hcz10_0 : w9.cell? ⟨gb229,0,none⟩ = some (.string a0_0) := (blk_cell BK229.out 0).trans rfl;have hcz10_1 : w9.cell? ⟨gb229,1,none⟩ = some (.string a0_1) := (blk_cell BK229.out 1).trans rfl;have hcz10_2 : w9.cell? ⟨gb229,2,none⟩ = some (.int .i64 a0_2) := (blk_cell BK229.out 2).trans rfl;have hfz10_0 := blk_frozen BK229.out 0;have hfz10_1 := blk_frozen BK229.out 1;have hfz10_2 := blk_frozen BK229.out 2;have hcz11_0 : w9.cell? ⟨gb230,0,none⟩ = some (.string (⟨#[]⟩ : ByteArray)) := (blk_cell BK230.out 0).trans rfl;have hcz11_1 : w9.cell? ⟨gb230,1,none⟩ = some (.string (⟨#[]⟩ : ByteArray)) := (blk_cell BK230.out 1).trans rfl;have hcz11_2 : w9.cell? ⟨gb230,2,none⟩ = some (.int .i64 0) := (blk_cell BK230.out 2).trans rfl;have hfz11_0 := blk_frozen BK230.out 0;have hfz11_1 := blk_frozen BK230.out 1;have hfz11_2 := blk_frozen BK230.out 2))
   refine bodyPost_ret (results_ct rfl _ _ gb230 31 #[.string (a0_0 ++ a0_1),.string (⟨#[]⟩ : ByteArray),.int .i64 a0_2] (0,0) _ rfl (by (with_reducible repeat (first|refine bN ?_ _|refine bD ?_|refine bA ?_ _));refine blk_put (cs := #[.string (a0_0 ++ a0_1),.string (⟨#[]⟩ : ByteArray),.int .i64 0]) ?_ 2 _ rfl;(with_reducible repeat (first|refine bN ?_ _|refine bD ?_|refine bA ?_ _));refine blk_put (cs := #[.string (a0_0 ++ a0_1),.string (⟨#[]⟩ : ByteArray),.int .i64 0]) ?_ 1 _ rfl;(with_reducible repeat (first|refine bN ?_ _|refine bD ?_|refine bA ?_ _));refine blk_put (cs := #[.string (⟨#[]⟩ : ByteArray),.string (⟨#[]⟩ : ByteArray),.int .i64 0]) ?_ 0 _ rfl;(with_reducible repeat (first|refine bN ?_ _|refine bD ?_|refine bA ?_ _));exact BK230.out) Tryd.underlying31 rfl (by kernel_rfl)) rfl ?_
   exact ⟨by first|rfl|(simp [errW_none,errW_some] <;> rfl)|(simp [*,errW_none,errW_some] <;> rfl),by repeat (first|(with_reducible first|exact HB.out|apply lA|apply lN|apply lD|refine below_set ?_ GE229.out|refine below_set ?_ GE230.out)|exact HB.out)⟩
  ·rw [if_neg c4] at H
   exact absurd H (by simp)
 ·replace c3 := Bool.eq_false_iff.mpr c3
  subst c3
  have H1 : (some ((⟨#[]⟩ : ByteArray),(⟨#[]⟩ : ByteArray),0,false)) = some (r1,r2,r3,r4) := by rw [if_neg (show ¬ (false = true) by decide)] at H;exact H
  clear H
  have H := H1
  clear H1
  simp only [Option.some.injEq,Prod.mk.injEq] at H
  obtain ⟨rfl,rfl,rfl,rfl⟩ := H
  go_enter Tryd.func27,Tryd.ntmps27
  go_wp2_with (first|((with_reducible refine gate_dst (N := 1) rfl ?_);refine box_event ?hg (N := 1) ?hd (cs := #[.string a0_0,.string a0_1,.int .i64 a0_2]) (t := 31) ?hr ?_;(case hd => rfl);(case hg => rfl);(case hr => first|(go_simp;done)|(go_simp;rfl));intro gb229 hg w12 hbox hb;have n0_ := Aside0.mk (below_step (by repeat (first|(with_reducible first|exact HB.out|apply lA|apply lN|apply lD)|exact HB.out)) hb);have n1_ := Aside0.mk (hbox);have n2_ := Aside0.mk ((by rw [hg];exact (below_size (by repeat (first|(with_reducible first|exact HB.out|apply lA|apply lN|apply lD)|exact HB.out))) : w.heap.size ≤ gb229));have n3_ := Aside0.mk ((by rw [hg];exact (below_size (by repeat (first|(with_reducible first|exact HB.out|apply lA|apply lN|apply lD)|exact HB.out))) : w.heap.size ≤ gb229));clear HB;have HB := n0_;have BK229 := n1_;have GW229 := n2_;have GE229 := n3_;clear n0_ n1_ n2_ n3_;clear hb hbox hg)|((with_reducible refine gate_dst (N := 2) rfl ?_);refine box_event ?hg (N := 2) ?hd (cs := #[.string (⟨#[]⟩ : ByteArray),.string (⟨#[]⟩ : ByteArray),.int .i64 0]) (t := 31) ?hr ?_;(case hd => rfl);(case hg => rfl);(case hr => first|(go_simp;done)|(go_simp;rfl));intro gb230 hg w13 hbox hb;have n0_ := Aside0.mk (blk_below (g := gb229) (o := .cells #[.string a0_0,.string a0_1,.int .i64 a0_2] 31 (0,0)) (by (with_reducible repeat (first|refine bN ?_ _|refine bD ?_|refine bA ?_ _));exact BK229.out) hb);have n1_ := Aside0.mk (below_step (by repeat (first|(with_reducible first|exact HB.out|apply lA|apply lN|apply lD|refine below_set ?_ GE229.out)|exact HB.out)) hb);have n2_ := Aside0.mk (hbox);have n3_ := Aside0.mk ((by rw [hg];exact (below_size (by repeat (first|(with_reducible first|exact HB.out|apply lA|apply lN|apply lD|refine below_set ?_ GE229.out)|exact HB.out))) : w.heap.size ≤ gb230));have n4_ := Aside0.mk ((by rw [hg];exact (below_size (by repeat (first|(with_reducible first|exact HB.out|apply lA|apply lN|apply lD|refine below_set ?_ GE229.out)|exact HB.out))) : w.heap.size ≤ gb230));have n5_ := Aside0.mk ((by rw [hg];exact Nat.ne_of_lt (blk_lt (g := gb229) (o := .cells #[.string a0_0,.string a0_1,.int .i64 a0_2] 31 (0,0)) (by (with_reducible repeat (first|refine bN ?_ _|refine bD ?_|refine bA ?_ _));exact BK229.out)) : gb229 ≠ gb230));have n6_ := Aside0.mk ((by rw [hg];exact Nat.ne_of_gt (blk_lt (g := gb229) (o := .cells #[.string a0_0,.string a0_1,.int .i64 a0_2] 31 (0,0)) (by (with_reducible repeat (first|refine bN ?_ _|refine bD ?_|refine bA ?_ _));exact BK229.out)) : gb230 ≠ gb229));clear BK229;clear HB;have BK229 := n0_;have HB := n1_;have BK230 := n2_;have GW230 := n3_;have GE230 := n4_;have NB229_230 := n5_;have NB230_229 := n6_;clear n0_ n1_ n2_ n3_ n4_ n5_ n6_;clear hb hbox hg;have hnb14 := NB229_230.out;have hnc14 := NB230_229.out;have hcz15_0 : w13.cell? ⟨gb229,0,none⟩ = some (.string a0_0) := (blk_cell BK229.out 0).trans rfl;have hcz15_1 : w13.cell? ⟨gb229,1,none⟩ = some (.string a0_1) := (blk_cell BK229.out 1).trans rfl;have hcz15_2 : w13.cell? ⟨gb229,2,none⟩ = some (.int .i64 a0_2) := (blk_cell BK229.out 2).trans rfl;have hfz15_0 := blk_frozen BK229.out 0;have hfz15_1 := blk_frozen BK229.out 1;have hfz15_2 := blk_frozen BK229.out 2)|((with_reducible refine gate_callee (f := 23) rfl ?_);refine goesL_ (some 5) rfl rfl Tryd.func23 (by kernel_rfl) rfl #[.agg #[.string a0_0,.string a0_1,.int .i64 a0_2]] rfl (by (try simp only [List.map_toArray,List.map_cons,List.map_nil]);first|done|rfl|(simp only [List.length_drop,List.length_take];rfl)) ?_;(with_reducible refine (impl_IsValidLog.calls k a0_0 a0_1 a0_2 false _ ?side1 A2.out).mono ?_);(case side1 => exact Gw.below HG.out (by repeat (first|(with_reducible first|exact HB.out|apply lA|apply lN|apply lD|refine below_set ?_ GE229.out|refine below_set ?_ GE230.out)|exact HB.out)));rintro e w16 ⟨rfl,hb⟩;refine ⟨_,rfl,?_⟩;have n0_ := Aside0.mk (blk_below (g := gb229) (o := .cells #[.string a0_0,.string a0_1,.int .i64 a0_2] 31 (0,0)) (by (with_reducible repeat (first|refine bN ?_ _|refine bD ?_|refine bA ?_ _));exact BK229.out) hb);have n1_ := Aside0.mk (blk_below (g := gb230) (o := .cells #[.string (⟨#[]⟩ : ByteArray),.string (⟨#[]⟩ : ByteArray),.int .i64 0] 31 (0,0)) (by (with_reducible repeat (first|refine bN ?_ _|refine bD ?_|refine bA ?_ _));exact BK230.out) hb);have n2_ := Aside0.mk (below_step (by repeat (first|(with_reducible first|exact HB.out|apply lA|apply lN|apply lD|refine below_set ?_ GE229.out|refine below_set ?_ GE230.out)|exact HB.out)) hb);clear BK229;clear BK230;clear HB;have BK229 := n0_;have BK230 := n1_;have HB := n2_;clear n0_ n1_ n2_;(try clear hb);(try clear hb2);(try clear hk);(try clear hi);have hcz17_0 : w16.cell? ⟨gb230,0,none⟩ = some (.string (⟨#[]⟩ : ByteArray)) := (blk_cell BK230.out 0).trans rfl;have hcz17_1 : w16.cell? ⟨gb230,1,none⟩ = some (.string (⟨#[]⟩ : ByteArray)) := (blk_cell BK230.out 1).trans rfl;have hcz17_2 : w16.cell? ⟨gb230,2,none⟩ = some (.int .i64 0) := (blk_cell BK230.out 2).trans rfl;have hfz17_0 := blk_frozen BK230.out 0;have hfz17_1 := blk_frozen BK230.out 1;have hfz17_2 := blk_frozen BK230.out 2))
  refine bodyPost_ret (results_ct rfl _ _ gb230 31 #[.string (⟨#[]⟩ : ByteArray),.string (⟨#[]⟩ : ByteArray),.int .i64 0] (0,0) _ rfl (by (with_reducible repeat (first|refine bN ?_ _|refine bD ?_|refine bA ?_ _));refine blk_put (cs := #[.string (⟨#[]⟩ : ByteArray),.string (⟨#[]⟩ : ByteArray),.int .i64 0]) ?_ 2 _ rfl;(with_reducible repeat (first|refine bN ?_ _|refine bD ?_|refine bA ?_ _));refine blk_put (cs := #[.string (⟨#[]⟩ : ByteArray),.string (⟨#[]⟩ : ByteArray),.int .i64 0]) ?_ 1 _ rfl;(with_reducible repeat (first|refine bN ?_ _|refine bD ?_|refine bA ?_ _));refine blk_put (cs := #[.string (⟨#[]⟩ : ByteArray),.string (⟨#[]⟩ : ByteArray),.int .i64 0]) ?_ 0 _ rfl;(with_reducible repeat (first|refine bN ?_ _|refine bD ?_|refine bA ?_ _));exact BK230.out) Tryd.underlying31 rfl (by kernel_rfl)) rfl ?_
  exact ⟨by first|rfl|(simp [errW_none,errW_some] <;> rfl)|(simp [*,errW_none,errW_some] <;> rfl),by repeat (first|(with_reducible first|exact HB.out|apply lA|apply lN|apply lD|refine below_set ?_ GE229.out|refine below_set ?_ GE230.out)|exact HB.out)⟩
end Go.Proofs.YtinbbjfnebhlkaaDoor.P
