/- Written by a program in this session: each theorem here says that a Go function computes the Lean function beside it, or that a law's row holds, under the conditions that the theorem itself states. -/
import Derived.Test.YtinbbjfnebhlkaaDoorZPx0
import Derived.Test.YtinbbjfnebhlkaaDoorZPx8
import Derived.Test.YtinbbjfnebhlkaaDoorZPx9
namespace Go.Proofs.YtinbbjfnebhlkaaDoor.P
open Go.RowKit Go.Proofs.YtinbbjfnebhlkaaDoorW.PrintWords Go.Proofs.YtinbbjfnebhlkaaDoorW.PrintLast Go.Proofs.YtinbbjfnebhlkaaDoorW.PrintMore
attribute [local go_sem] max2_int min2_int max_two min_two max_three min_three max_four min_four   -- for this text's walks alone
set_option linter.unusedVariables false
set_option linter.unusedSimpArgs false
def spec_DrawCrashLog.f (k : Nat) (l0 : List Int) : Option (ByteArray × ByteArray × Int × Int × Bool) := (spec_l1Cur_anyLog.f k l0 0 0).bind fun bt359 => ((spec_l1Cur_pick.f l0 bt359.2.2.2.1 bt359.2.2.2.2 (wrap64 ((bt359.2.1.size : Int) + 3))).bind fun bt365 => ((spec_l1Cur_one.f l0 bt365.2.1 bt365.2.2 2).bind fun bt368 => (some (bt359.1,bt359.2.1,bt359.2.2.1,wrap64 (bt365.1 - 1),bt368.1))))
theorem spec_DrawCrashLog.mono : ∀ a0 k,LeO (spec_DrawCrashLog.f k a0) (spec_DrawCrashLog.f (k + 1) a0) := by
 intro a0 k
 unfold spec_DrawCrashLog.f
 repeat' first
   | (with_reducible exact spec_l1Cur_anyLog.mono _ _ _ _)
   | (with_reducible exact LeO.refl _)
   | (with_reducible exact LeO.none _)
   | (with_reducible refine LeO.ite ?_ ?_)
   | (with_reducible refine LeO.bind ?_ (fun _ => ?_))
   | exact spec_l1Cur_anyLog.mono _ _ _ _
   | exact LeO.none _
   | refine LeO.ite ?_ ?_
   | refine LeO.bind ?_ (fun _ => ?_)
set_option maxHeartbeats 8000000 in
set_option maxRecDepth 100000 in
theorem spec_DrawCrashLog.calls (k : Nat) (A0 : Option Addr) (c0 : Nat) (l0 : List Int) (r1 : ByteArray) (r2 : ByteArray) (r3 : Int) (r4 : Int) (r5 : Bool) (w : World) (hr0 : Kd.C (Kd.int .u8) w A0 l0.length l0) (hc0 : l0.length ≤ c0) (h : spec_DrawCrashLog.f k l0 = some (r1,r2,r3,r4,r5)) :
  Calls Tryd.prog 41 #[.slice A0 l0.length c0] w fun e w' => e = .returned (.tuple #[.agg #[.string r1,.string r2,.int .i64 r3],.int .i64 r4,.bool r5]) ∧ Below w.heap.size w w' := by
 have hu31 := Tryd.underlying31
 have hu74 := Tryd.underlying74
 have HR0 := Aside0.mk hr0
 have HC0 := Aside0.mk hc0
 clear hr0 hc0
 have HB := Aside0.mk (Below.refl w.heap.size w)
 have H : ((spec_l1Cur_anyLog.f k l0 0 0).bind fun bt359 => ((spec_l1Cur_pick.f l0 bt359.2.2.2.1 bt359.2.2.2.2 (wrap64 ((bt359.2.1.size : Int) + 3))).bind fun bt365 => ((spec_l1Cur_one.f l0 bt365.2.1 bt365.2.2 2).bind fun bt368 => (some (bt359.1,bt359.2.1,bt359.2.2.1,wrap64 (bt365.1 - 1),bt368.1))))) = some (r1,r2,r3,r4,r5) := h
 clear h
 replace H := Option.bind_eq_some_iff.mp H
 obtain ⟨⟨t359,t360,t361,t362,t363⟩,A20,H⟩ := H
 replace H : ((spec_l1Cur_pick.f l0 t362 t363 (wrap64 ((t360.size : Int) + 3))).bind fun bt365 => ((spec_l1Cur_one.f l0 bt365.2.1 bt365.2.2 2).bind fun bt368 => (some (t359,t360,t361,wrap64 (bt365.1 - 1),bt368.1)))) = some (r1,r2,r3,r4,r5) := H
 have A2 := Aside0.mk A20
 clear A20
 replace H := Option.bind_eq_some_iff.mp H
 obtain ⟨⟨t365,t366,t367⟩,A30,H⟩ := H
 replace H : ((spec_l1Cur_one.f l0 t366 t367 2).bind fun bt368 => (some (t359,t360,t361,wrap64 (t365 - 1),bt368.1))) = some (r1,r2,r3,r4,r5) := H
 have A3 := Aside0.mk A30
 clear A30
 replace H := Option.bind_eq_some_iff.mp H
 obtain ⟨⟨t368,t369,t370⟩,A40,H⟩ := H
 replace H : (some (t359,t360,t361,wrap64 (t365 - 1),t368)) = some (r1,r2,r3,r4,r5) := H
 have A4 := Aside0.mk A40
 clear A40
 simp only [Option.some.injEq,Prod.mk.injEq] at H
 obtain ⟨rfl,rfl,rfl,rfl,rfl⟩ := H
 go_enter Tryd.func41,Tryd.ntmps41
 try go_wp2_with (first|((with_reducible refine gate_dst (N := 2) rfl ?_);refine box_event ?hg (N := 2) ?hd (cs := #[.string (⟨#[]⟩ : ByteArray),.string (⟨#[]⟩ : ByteArray),.int .i64 0]) (t := 31) ?hr ?_;(case hd => rfl);(case hg => rfl);(case hr => first|(go_simp;done)|(go_simp;rfl));intro gb357 hg w5 hbox hb;have n0_ := Aside0.mk (below_step (by repeat (first|(with_reducible first|exact HB.out|apply lA|apply lN|apply lD)|exact HB.out)) hb);have n1_ := Aside0.mk (hbox);have n2_ := Aside0.mk ((by rw [hg];exact (below_size (by repeat (first|(with_reducible first|exact HB.out|apply lA|apply lN|apply lD)|exact HB.out))) : w.heap.size ≤ gb357));have n3_ := Aside0.mk ((by rw [hg];exact (below_size (by repeat (first|(with_reducible first|exact HB.out|apply lA|apply lN|apply lD)|exact HB.out))) : w.heap.size ≤ gb357));clear HB;have HB := n0_;have BK357 := n1_;have GW357 := n2_;have GE357 := n3_;clear n0_ n1_ n2_ n3_;clear hb hbox hg)|((with_reducible refine gate_dst (N := 10) rfl ?_);refine box_event ?hg (N := 10) ?hd (cs := #[.slice A0 l0.length c0,.int .i64 0,.int .u64 0]) (t := 74) ?hr ?_;(case hd => rfl);(case hg => rfl);(case hr => first|(go_simp;done)|(go_simp;rfl));intro gb358 hg w6 hbox hb;have n0_ := Aside0.mk (blk_below (g := gb357) (o := .cells #[.string (⟨#[]⟩ : ByteArray),.string (⟨#[]⟩ : ByteArray),.int .i64 0] 31 (0,0)) (by (with_reducible repeat (first|refine bN ?_ _|refine bD ?_|refine bA ?_ _));exact BK357.out) hb);have n1_ := Aside0.mk (below_step (by repeat (first|(with_reducible first|exact HB.out|apply lA|apply lN|apply lD|refine below_set ?_ GE357.out)|exact HB.out)) hb);have n2_ := Aside0.mk ((by rw [hg];exact Nat.ne_of_lt (blk_lt (g := gb357) (o := .cells #[.string (⟨#[]⟩ : ByteArray),.string (⟨#[]⟩ : ByteArray),.int .i64 0] 31 (0,0)) (by (with_reducible repeat (first|refine bN ?_ _|refine bD ?_|refine bA ?_ _));exact BK357.out)) : gb357 ≠ gb358));have n3_ := Aside0.mk ((by rw [hg];exact Nat.ne_of_gt (blk_lt (g := gb357) (o := .cells #[.string (⟨#[]⟩ : ByteArray),.string (⟨#[]⟩ : ByteArray),.int .i64 0] 31 (0,0)) (by (with_reducible repeat (first|refine bN ?_ _|refine bD ?_|refine bA ?_ _));exact BK357.out)) : gb358 ≠ gb357));have n4_ := Aside0.mk ((show IsS74 w w6 gb358 l0 0 0 from ⟨_,_,hbox,(by rw [hg];exact (below_size (by repeat (first|(with_reducible first|exact HB.out|apply lA|apply lN|apply lD|refine below_set ?_ GE357.out)|exact HB.out))) : w.heap.size ≤ gb358),HR0.out⟩));clear BK357;clear HB;have BK357 := n0_;have HB := n1_;have NB357_358 := n2_;have NB358_357 := n3_;have HI358 := n4_;clear n0_ n1_ n2_ n3_ n4_;clear hb hbox hg)|((with_reducible refine gate_callee (f := 52) rfl ?_);refine goesL_ (some 12) rfl rfl Tryd.func52 (by kernel_rfl) rfl #[.pointer (some ⟨gb358,0,none⟩)] rfl (by (try simp only [List.map_toArray,List.map_cons,List.map_nil]);first|done|rfl|(simp only [List.length_drop,List.length_take];rfl)) ?_;(with_reducible refine (spec_l1Cur_anyLog.calls k gb358 l0 0 0 t359 t360 t361 t362 t363 w _ ?side1 ?side2 A2.out).mono ?_);(case side1 => repeat (first|(with_reducible first|exact HI358.out|apply IsS74.alloc|apply IsS74.drewN|apply IsS74.drew|apply IsS74.set_1|apply IsS74.set_2|refine IsS74.far ?_ NB358_357.out _)|exact HI358.out));(case side2 => repeat (first|(with_reducible first|exact HB.out|apply lA|apply lN|apply lD|refine below_set ?_ (IsS74.ge HI358.out)|refine below_set ?_ GE357.out)|exact HB.out));rintro e w7 ⟨rfl,hi,hb,hk⟩;refine ⟨_,rfl,?_⟩;have n0_ := Aside0.mk (KeepBut.blk hk (g' := gb357) (o := .cells #[.string (⟨#[]⟩ : ByteArray),.string (⟨#[]⟩ : ByteArray),.int .i64 0] 31 (0,0)) (by (with_reducible repeat (first|refine bN ?_ _|refine bD ?_|refine bA ?_ _));exact BK357.out) NB357_358.out (by simp));have n1_ := Aside0.mk (hb);have n2_ := Aside0.mk (hi);clear BK357;clear HB;clear HI358;have BK357 := n0_;have HB := n1_;have HI358 := n2_;clear n0_ n1_ n2_;(try clear hb);(try clear hb2);(try clear hk);(try clear hi))|((with_reducible refine gate_dst (N := 6) rfl ?_);refine box_event ?hg (N := 6) ?hd (cs := #[.string (⟨#[]⟩ : ByteArray),.string (⟨#[]⟩ : ByteArray),.int .i64 0]) (t := 31) ?hr ?_;(case hd => rfl);(case hg => rfl);(case hr => first|(go_simp;done)|(go_simp;rfl));intro gb364 hg w8 hbox hb;have n0_ := Aside0.mk (blk_below (g := gb357) (o := .cells #[.string (⟨#[]⟩ : ByteArray),.string (⟨#[]⟩ : ByteArray),.int .i64 0] 31 (0,0)) (by (with_reducible repeat (first|refine bN ?_ _|refine bD ?_|refine bA ?_ _));exact BK357.out) hb);have n1_ := Aside0.mk (IsS74.below (by repeat (first|(with_reducible first|exact HI358.out|apply IsS74.alloc|apply IsS74.drewN|apply IsS74.drew|apply IsS74.set_1|apply IsS74.set_2|refine IsS74.far ?_ NB358_357.out _)|exact HI358.out)) hb);have n2_ := Aside0.mk (below_step (by repeat (first|(with_reducible first|exact HB.out|apply lA|apply lN|apply lD|refine below_set ?_ (IsS74.ge HI358.out)|refine below_set ?_ GE357.out)|exact HB.out)) hb);have n3_ := Aside0.mk (hbox);have n4_ := Aside0.mk ((by rw [hg];exact (below_size (by repeat (first|(with_reducible first|exact HB.out|apply lA|apply lN|apply lD|refine below_set ?_ (IsS74.ge HI358.out)|refine below_set ?_ GE357.out)|exact HB.out))) : w.heap.size ≤ gb364));have n5_ := Aside0.mk ((by rw [hg];exact (below_size (by repeat (first|(with_reducible first|exact HB.out|apply lA|apply lN|apply lD|refine below_set ?_ (IsS74.ge HI358.out)|refine below_set ?_ GE357.out)|exact HB.out))) : w.heap.size ≤ gb364));have n6_ := Aside0.mk ((by rw [hg];exact Nat.ne_of_lt (blk_lt (g := gb357) (o := .cells #[.string (⟨#[]⟩ : ByteArray),.string (⟨#[]⟩ : ByteArray),.int .i64 0] 31 (0,0)) (by (with_reducible repeat (first|refine bN ?_ _|refine bD ?_|refine bA ?_ _));exact BK357.out)) : gb357 ≠ gb364));have n7_ := Aside0.mk ((by rw [hg];exact Nat.ne_of_gt (blk_lt (g := gb357) (o := .cells #[.string (⟨#[]⟩ : ByteArray),.string (⟨#[]⟩ : ByteArray),.int .i64 0] 31 (0,0)) (by (with_reducible repeat (first|refine bN ?_ _|refine bD ?_|refine bA ?_ _));exact BK357.out)) : gb364 ≠ gb357));have n8_ := Aside0.mk ((by rw [hg];exact Nat.ne_of_lt (IsS74.lt (show IsS74 w _ gb358 l0 t362 t363 from by repeat (first|(with_reducible first|exact HI358.out|apply IsS74.alloc|apply IsS74.drewN|apply IsS74.drew|apply IsS74.set_1|apply IsS74.set_2|refine IsS74.far ?_ NB358_357.out _)|exact HI358.out))) : gb358 ≠ gb364));have n9_ := Aside0.mk ((by rw [hg];exact Nat.ne_of_gt (IsS74.lt (show IsS74 w _ gb358 l0 t362 t363 from by repeat (first|(with_reducible first|exact HI358.out|apply IsS74.alloc|apply IsS74.drewN|apply IsS74.drew|apply IsS74.set_1|apply IsS74.set_2|refine IsS74.far ?_ NB358_357.out _)|exact HI358.out))) : gb364 ≠ gb358));clear BK357;clear HI358;clear HB;have BK357 := n0_;have HI358 := n1_;have HB := n2_;have BK364 := n3_;have GW364 := n4_;have GE364 := n5_;have NB357_364 := n6_;have NB364_357 := n7_;have NB358_364 := n8_;have NB364_358 := n9_;clear n0_ n1_ n2_ n3_ n4_ n5_ n6_ n7_ n8_ n9_;clear hb hbox hg;have hnb9 := NB364_357.out;have hnc9 := NB357_364.out;have hnb10 := NB364_358.out;have hnc10 := NB358_364.out;have hcz11_0 : w8.cell? ⟨gb364,0,none⟩ = some (.string (⟨#[]⟩ : ByteArray)) := (blk_cell BK364.out 0).trans rfl;have hcz11_1 : w8.cell? ⟨gb364,1,none⟩ = some (.string (⟨#[]⟩ : ByteArray)) := (blk_cell BK364.out 1).trans rfl;have hcz11_2 : w8.cell? ⟨gb364,2,none⟩ = some (.int .i64 0) := (blk_cell BK364.out 2).trans rfl;have hfz11_0 := blk_frozen BK364.out 0;have hfz11_1 := blk_frozen BK364.out 1;have hfz11_2 := blk_frozen BK364.out 2)|((with_reducible refine gate_callee (f := 54) rfl ?_);refine goesL_ (some 18) rfl rfl Tryd.func54 (by kernel_rfl) rfl #[.pointer (some ⟨gb358,0,none⟩),.int .i64 (wrap64 ((t360.size : Int) + 3))] rfl (by (try simp only [List.map_toArray,List.map_cons,List.map_nil]);first|done|rfl|(simp only [List.length_drop,List.length_take];rfl)) ?_;(with_reducible refine (spec_l1Cur_pick.calls gb358 l0 t362 t363 (wrap64 ((t360.size : Int) + 3)) t365 t366 t367 w _ ?side1 ?side2 A3.out).mono ?_);(case side1 => repeat (first|(with_reducible first|exact HI358.out|apply IsS74.alloc|apply IsS74.drewN|apply IsS74.drew|apply IsS74.set_1|apply IsS74.set_2|refine IsS74.far ?_ NB358_357.out _|refine IsS74.far ?_ NB358_364.out _)|exact HI358.out));(case side2 => repeat (first|(with_reducible first|exact HB.out|apply lA|apply lN|apply lD|refine below_set ?_ (IsS74.ge HI358.out)|refine below_set ?_ GE357.out|refine below_set ?_ GE364.out)|exact HB.out));rintro e w12 ⟨rfl,hi,hb,hk⟩;refine ⟨_,rfl,?_⟩;have n0_ := Aside0.mk (KeepBut.blk hk (g' := gb357) (o := .cells #[.string (⟨#[]⟩ : ByteArray),.string (⟨#[]⟩ : ByteArray),.int .i64 0] 31 (0,0)) (by (with_reducible repeat (first|refine bN ?_ _|refine bD ?_|refine bA ?_ _));refine blk_far ?_ NB357_364.out _;(with_reducible repeat (first|refine bN ?_ _|refine bD ?_|refine bA ?_ _));refine blk_far ?_ NB357_364.out _;(with_reducible repeat (first|refine bN ?_ _|refine bD ?_|refine bA ?_ _));refine blk_far ?_ NB357_364.out _;(with_reducible repeat (first|refine bN ?_ _|refine bD ?_|refine bA ?_ _));exact BK357.out) NB357_358.out (by simp));have n1_ := Aside0.mk (KeepBut.blk hk (g' := gb364) (o := .cells #[.string t359,.string t360,.int .i64 t361] 31 (0,0)) (by (with_reducible repeat (first|refine bN ?_ _|refine bD ?_|refine bA ?_ _));refine blk_put (cs := #[.string t359,.string t360,.int .i64 0]) ?_ 2 _ rfl;(with_reducible repeat (first|refine bN ?_ _|refine bD ?_|refine bA ?_ _));refine blk_put (cs := #[.string t359,.string (⟨#[]⟩ : ByteArray),.int .i64 0]) ?_ 1 _ rfl;(with_reducible repeat (first|refine bN ?_ _|refine bD ?_|refine bA ?_ _));refine blk_put (cs := #[.string (⟨#[]⟩ : ByteArray),.string (⟨#[]⟩ : ByteArray),.int .i64 0]) ?_ 0 _ rfl;(with_reducible repeat (first|refine bN ?_ _|refine bD ?_|refine bA ?_ _));exact BK364.out) NB364_358.out (by simp));have n2_ := Aside0.mk (hb);have n3_ := Aside0.mk (hi);clear BK357;clear BK364;clear HB;clear HI358;have BK357 := n0_;have BK364 := n1_;have HB := n2_;have HI358 := n3_;clear n0_ n1_ n2_ n3_;(try clear hb);(try clear hb2);(try clear hk);(try clear hi)))
 have n0_ := Aside0.mk (bD BK357.out)
 have n1_ := Aside0.mk (bD BK364.out)
 have n2_ := Aside0.mk (IsS74.drew HI358.out)
 have n3_ := Aside0.mk (lD HB.out)
 clear BK357
 clear BK364
 clear HI358
 clear HB
 have BK357 := n0_
 have BK364 := n1_
 have HI358 := n2_
 have HB := n3_
 clear n0_ n1_ n2_ n3_
 refine start_ (n := 7) (S := fun w' => w'.cell? ⟨gb364,0,none⟩ = some (.string t359) ∧ w'.cell? ⟨gb364,1,none⟩ = some (.string t360) ∧ w'.cell? ⟨gb364,2,none⟩ = some (.int .i64 t361)) (ds := []) #[false,false,false,false,false,false,false] (by kernel_rfl) rfl rfl ⟨(blk_cell BK364.out 0).trans rfl,(blk_cell BK364.out 1).trans rfl,(blk_cell BK364.out 2).trans rfl⟩ (fun hHeld => ?_)
 generalize w12.drew = w13 at BK357 BK364 HI358 HB hHeld ⊢
 refine pure_ (i := 1) (N := some 21) (v := ?_) (a' := ?_) #[false,true,false,false,false,false,false] rfl rfl (by kernel_rfl) (fun _ _ _ h => h) (Or.inl ⟨by rfl,?_⟩) ?_ ?_
 rotate_left
 ·intro w'
  go_simp
  with_reducible rfl
 rotate_left
 ·simp only [Act.put,List.setIfInBounds_toArray,List.set_cons_zero,List.set_cons_succ,i64_w,i32_w]
  rfl
 refine pure_ (i := 2) (N := some 22) (v := ?_) (a' := ?_) #[false,true,true,false,false,false,false] rfl rfl (by kernel_rfl) (fun _ _ _ h => h) (Or.inl ⟨by rfl,?_⟩) ?_ ?_
 rotate_left
 ·intro w'
  go_simp
  with_reducible rfl
 rotate_left
 ·simp only [Act.put,List.setIfInBounds_toArray,List.set_cons_zero,List.set_cons_succ,i64_w,i32_w]
  rfl
 refine take_ (i := 0) (N := some 20) (v := ?_) (a' := ?_) #[true,true,true,false,false,false,false] rfl rfl (by kernel_rfl) (fun _ _ _ h => h) (Or.inl ⟨by rfl,?_⟩) hHeld ?_ ?_
 rotate_left
 ·rintro w' ⟨s0,s1,s2⟩
  go_simp
  with_reducible rfl
 rotate_left
 ·simp only [Act.put,List.setIfInBounds_toArray,List.set_cons_zero,List.set_cons_succ,i64_w,i32_w]
  rfl
 refine one_ (i := 3) (N := some 23) #[true,true,true,true,false,false,false] rfl rfl (by kernel_rfl) (by decide) (fun K hK => ?_)
 refine goes_ Tryd.func53 (by kernel_rfl) rfl #[.pointer (some ⟨gb358,0,none⟩),.int .i64 2] (by rfl) rfl rfl (by (try simp only [List.map_toArray,List.map_cons,List.map_nil]);first|done|rfl|(simp only [List.length_drop,List.length_take];rfl)) ?_
 with_reducible refine (spec_l1Cur_one.calls gb358 l0 t366 t367 2 t368 t369 t370 w _ ?side1 ?side2 A4.out).mono ?_
 (case side1 => repeat (first|(with_reducible first|exact HI358.out|apply IsS74.alloc|apply IsS74.drewN|apply IsS74.drew|apply IsS74.set_1|apply IsS74.set_2|refine IsS74.far ?_ NB358_357.out _|refine IsS74.far ?_ NB358_364.out _)|exact HI358.out))
 (case side2 => repeat (first|(with_reducible first|exact HB.out|apply lA|apply lN|apply lD|refine below_set ?_ (IsS74.ge HI358.out)|refine below_set ?_ GE357.out|refine below_set ?_ GE364.out)|exact HB.out))
 rintro e w14 ⟨rfl,hi,hb,hk⟩
 refine ⟨_,rfl,?_⟩
 have n0_ := Aside0.mk (KeepBut.blk hk (g' := gb357) (o := .cells #[.string (⟨#[]⟩ : ByteArray),.string (⟨#[]⟩ : ByteArray),.int .i64 0] 31 (0,0)) (by (with_reducible repeat (first|refine bN ?_ _|refine bD ?_|refine bA ?_ _));exact BK357.out) NB357_358.out (by simp))
 have n1_ := Aside0.mk (KeepBut.blk hk (g' := gb364) (o := .cells #[.string t359,.string t360,.int .i64 t361] 31 (0,0)) (by (with_reducible repeat (first|refine bN ?_ _|refine bD ?_|refine bA ?_ _));exact BK364.out) NB364_358.out (by simp))
 have n2_ := Aside0.mk (hb)
 have n3_ := Aside0.mk (hi)
 clear BK357
 clear BK364
 clear HB
 clear HI358
 have BK357 := n0_
 have BK364 := n1_
 have HB := n2_
 have HI358 := n3_
 clear n0_ n1_ n2_ n3_
 (try clear hb)
 (try clear hb2)
 (try clear hk)
 (try clear hi)
 refine hK.out _ _ ⟨(blk_cell BK364.out 0).trans rfl,(blk_cell BK364.out 1).trans rfl,(blk_cell BK364.out 2).trans rfl⟩ (fun hHeld => ?_)
 clear hK K
 refine norm_ (a' := ?_) ?_ ?_
 rotate_left
 ·show Act.put _ (some 23) _ = _
  simp only [Act.put,List.setIfInBounds_toArray,List.set_cons_zero,List.set_cons_succ,i64_w,i32_w]
  rfl
 refine one_ (i := 4) (N := none) #[true,true,true,true,true,false,false] rfl rfl (by kernel_rfl) (by decide) (fun K hK => ?_)
 have hs15 : w14.cell? ⟨gb357,0,none⟩ = some (.string (⟨#[]⟩ : ByteArray)) := (blk_cell BK357.out 0).trans rfl
 have hfs15 := blk_frozen BK357.out 0
 have hns15_1 := NB364_357.out
 have hms15_1 := NB357_364.out
 have hs16 : w14.cell? ⟨gb357,1,none⟩ = some (.string (⟨#[]⟩ : ByteArray)) := (blk_cell BK357.out 1).trans rfl
 have hfs16 := blk_frozen BK357.out 1
 have hns16_1 := NB364_357.out
 have hms16_1 := NB357_364.out
 have hs17 : w14.cell? ⟨gb357,2,none⟩ = some (.int .i64 0) := (blk_cell BK357.out 2).trans rfl
 have hfs17 := blk_frozen BK357.out 2
 have hns17_1 := NB364_357.out
 have hms17_1 := NB357_364.out
 refine skip_ (w1 := ?_) (by rfl) rfl ?_ ?_
 rotate_left
 ·go_simp
  rfl
 refine hK.out _ _ ⟨((cell_far (p := ⟨gb357,_,none⟩) NB364_357.out _).trans (((cell_far (p := ⟨gb357,_,none⟩) NB364_357.out _).trans (((cell_far (p := ⟨gb357,_,none⟩) NB364_357.out _).trans (hHeld.1)))))),((cell_far (p := ⟨gb357,_,none⟩) NB364_357.out _).trans (((cell_far (p := ⟨gb357,_,none⟩) NB364_357.out _).trans (((cell_far (p := ⟨gb357,_,none⟩) NB364_357.out _).trans (hHeld.2.1)))))),((cell_far (p := ⟨gb357,_,none⟩) NB364_357.out _).trans (((cell_far (p := ⟨gb357,_,none⟩) NB364_357.out _).trans (((cell_far (p := ⟨gb357,_,none⟩) NB364_357.out _).trans (hHeld.2.2))))))⟩ (fun hHeld => ?_)
 clear hK K
 refine pure_ (i := 5) (N := some 3) (v := ?_) (a' := ?_) #[true,true,true,true,true,true,false] rfl rfl (by kernel_rfl) (fun _ _ _ h => h) (Or.inl ⟨by rfl,?_⟩) ?_ ?_
 rotate_left
 ·intro w'
  go_simp
  with_reducible rfl
 rotate_left
 ·simp only [Act.put,List.setIfInBounds_toArray,List.set_cons_zero,List.set_cons_succ,i64_w,i32_w]
  rfl
 refine pure_ (i := 6) (N := some 4) (v := ?_) (a' := ?_) #[true,true,true,true,true,true,true] rfl rfl (by kernel_rfl) (fun _ _ _ h => h) (Or.inl ⟨by rfl,?_⟩) ?_ ?_
 rotate_left
 ·intro w'
  go_simp
  with_reducible rfl
 rotate_left
 ·simp only [Act.put,List.setIfInBounds_toArray,List.set_cons_zero,List.set_cons_succ,i64_w,i32_w]
  rfl
 refine done_ (by kernel_rfl) ?_
 try go_wp2
 refine bodyPost_ret (results_ctt rfl _ _ gb357 31 #[.string t359,.string t360,.int .i64 t361] (0,0) _ rfl (by (with_reducible repeat (first|refine bN ?_ _|refine bD ?_|refine bA ?_ _));refine blk_put (cs := #[.string t359,.string t360,.int .i64 0]) ?_ 2 _ rfl;(with_reducible repeat (first|refine bN ?_ _|refine bD ?_|refine bA ?_ _));refine blk_put (cs := #[.string t359,.string (⟨#[]⟩ : ByteArray),.int .i64 0]) ?_ 1 _ rfl;(with_reducible repeat (first|refine bN ?_ _|refine bD ?_|refine bA ?_ _));refine blk_put (cs := #[.string (⟨#[]⟩ : ByteArray),.string (⟨#[]⟩ : ByteArray),.int .i64 0]) ?_ 0 _ rfl;(with_reducible repeat (first|refine bN ?_ _|refine bD ?_|refine bA ?_ _));exact BK357.out) Tryd.underlying31 rfl (by kernel_rfl)) rfl ?_
 exact ⟨by first|rfl|(simp [errW_none,errW_some] <;> rfl)|(simp [*,errW_none,errW_some] <;> rfl),by repeat (first|(with_reducible first|exact HB.out|apply lA|apply lN|apply lD|refine below_set ?_ (IsS74.ge HI358.out)|refine below_set ?_ GE357.out|refine below_set ?_ GE364.out)|exact HB.out)⟩
end Go.Proofs.YtinbbjfnebhlkaaDoor.P
