/- Written by a program in this session: each theorem here says that a Go function computes the Lean function beside it, or that a law's row holds, under the conditions that the theorem itself states. -/
import Derived.Test.YtinbbjfnebhlkaaDoorZPx0
import Derived.Test.YtinbbjfnebhlkaaDoorZPx3
import Derived.Test.YtinbbjfnebhlkaaDoorZPx4
import Derived.Test.YtinbbjfnebhlkaaDoorZPx5
import Derived.Test.YtinbbjfnebhlkaaDoorZPx6
import Derived.Test.YtinbbjfnebhlkaaDoorZPx9
import Derived.Test.YtinbbjfnebhlkaaDoorZPx10
namespace Go.Proofs.YtinbbjfnebhlkaaDoor.P
open Go.RowKit Go.Proofs.YtinbbjfnebhlkaaDoorW.PrintWords Go.Proofs.YtinbbjfnebhlkaaDoorW.PrintLast Go.Proofs.YtinbbjfnebhlkaaDoorW.PrintMore
attribute [local go_sem] max2_int min2_int max_two min_two max_three min_three max_four min_four   -- for this text's walks alone
set_option linter.unusedVariables false
set_option linter.unusedSimpArgs false
def spec_EncodeRecord.f (k : Nat) (a0 : Int) (a1_0 : ByteArray) (a1_1 : ByteArray) : Option (ByteArray × Bool) := (spec_l1In.f a0 0 59).bind fun t418 => (if t418 = true then ((spec_l26Good.f k a1_0 a1_1).bind fun t419 => (if t419 = true then ((spec_l26Line.f k a0 a1_0 a1_1).bind fun t420 => (some (t420,true))) else (some ((⟨#[]⟩ : ByteArray),false)))) else (some ((⟨#[]⟩ : ByteArray),false)))
theorem spec_EncodeRecord.mono : ∀ a0 a1 a2 k,LeO (spec_EncodeRecord.f k a0 a1 a2) (spec_EncodeRecord.f (k + 1) a0 a1 a2) := by
 intro a0 a1 a2 k
 unfold spec_EncodeRecord.f
 repeat' first
   | (with_reducible exact spec_l26Good.mono _ _ _)
   | (with_reducible exact spec_l26Line.mono _ _ _ _)
   | (with_reducible exact LeO.refl _)
   | (with_reducible exact LeO.none _)
   | (with_reducible refine LeO.ite ?_ ?_)
   | (with_reducible refine LeO.bind ?_ (fun _ => ?_))
   | exact spec_l26Good.mono _ _ _
   | exact spec_l26Line.mono _ _ _ _
   | exact LeO.none _
   | refine LeO.ite ?_ ?_
   | refine LeO.bind ?_ (fun _ => ?_)
set_option maxHeartbeats 8000000 in
set_option maxRecDepth 100000 in
theorem spec_EncodeRecord.calls (k : Nat) (a0 : Int) (a1_0 : ByteArray) (a1_1 : ByteArray) (r1 : ByteArray) (r2 : Bool) (w : World) (h : spec_EncodeRecord.f k a0 a1_0 a1_1 = some (r1,r2)) :
  Calls Tryd.prog 14 #[.int .i64 a0,.agg #[.string a1_0,.string a1_1]] w fun e w' => e = .returned (.tuple #[.string r1,.bool r2]) ∧ Below w.heap.size w w' := by
 have hu27 := Tryd.underlying27
 have HB := Aside0.mk (Below.refl w.heap.size w)
 have H : ((spec_l1In.f a0 0 59).bind fun t418 => (if t418 = true then ((spec_l26Good.f k a1_0 a1_1).bind fun t419 => (if t419 = true then ((spec_l26Line.f k a0 a1_0 a1_1).bind fun t420 => (some (t420,true))) else (some ((⟨#[]⟩ : ByteArray),false)))) else (some ((⟨#[]⟩ : ByteArray),false)))) = some (r1,r2) := h
 clear h
 replace H := Option.bind_eq_some_iff.mp H
 obtain ⟨t418,A30,H⟩ := H
 replace H : (if t418 = true then ((spec_l26Good.f k a1_0 a1_1).bind fun t419 => (if t419 = true then ((spec_l26Line.f k a0 a1_0 a1_1).bind fun t420 => (some (t420,true))) else (some ((⟨#[]⟩ : ByteArray),false)))) else (some ((⟨#[]⟩ : ByteArray),false))) = some (r1,r2) := H
 have A3 := Aside0.mk A30
 clear A30
 by_cases c4 : t418 = true
 ·subst c4
  have H1 : ((spec_l26Good.f k a1_0 a1_1).bind fun t419 => (if t419 = true then ((spec_l26Line.f k a0 a1_0 a1_1).bind fun t420 => (some (t420,true))) else (some ((⟨#[]⟩ : ByteArray),false)))) = some (r1,r2) := by rw [if_pos rfl] at H;exact H
  clear H
  have H := H1
  clear H1
  replace H := Option.bind_eq_some_iff.mp H
  obtain ⟨t419,A50,H⟩ := H
  replace H : (if t419 = true then ((spec_l26Line.f k a0 a1_0 a1_1).bind fun t420 => (some (t420,true))) else (some ((⟨#[]⟩ : ByteArray),false))) = some (r1,r2) := H
  have A5 := Aside0.mk A50
  clear A50
  by_cases c6 : t419 = true
  ·subst c6
   have H1 : ((spec_l26Line.f k a0 a1_0 a1_1).bind fun t420 => (some (t420,true))) = some (r1,r2) := by rw [if_pos rfl] at H;exact H
   clear H
   have H := H1
   clear H1
   replace H := Option.bind_eq_some_iff.mp H
   obtain ⟨t420,A70,H⟩ := H
   replace H : (some (t420,true)) = some (r1,r2) := H
   have A7 := Aside0.mk A70
   clear A70
   simp only [Option.some.injEq,Prod.mk.injEq] at H
   obtain ⟨rfl,rfl⟩ := H
   go_enter Tryd.func14,Tryd.ntmps14
   go_wp2_with (first|((with_reducible refine gate_dst (N := 3) rfl ?_);refine box_event ?hg (N := 3) ?hd (cs := #[.string a1_0,.string a1_1]) (t := 27) ?hr ?_;(case hd => rfl);(case hg => rfl);(case hr => first|(go_simp;done)|(go_simp;rfl));intro gb417 hg w8 hbox hb;have n0_ := Aside0.mk (below_step (by repeat (first|(with_reducible first|exact HB.out|apply lA|apply lN|apply lD)|exact HB.out)) hb);have n1_ := Aside0.mk (hbox);have n2_ := Aside0.mk ((by rw [hg];exact (below_size (by repeat (first|(with_reducible first|exact HB.out|apply lA|apply lN|apply lD)|exact HB.out))) : w.heap.size ≤ gb417));have n3_ := Aside0.mk ((by rw [hg];exact (below_size (by repeat (first|(with_reducible first|exact HB.out|apply lA|apply lN|apply lD)|exact HB.out))) : w.heap.size ≤ gb417));clear HB;have HB := n0_;have BK417 := n1_;have GW417 := n2_;have GE417 := n3_;clear n0_ n1_ n2_ n3_;clear hb hbox hg)|((with_reducible refine gate_callee (f := 42) rfl ?_);refine goesL_ (some 7) rfl rfl Tryd.func42 (by kernel_rfl) rfl #[.int .i64 a0,.int .i64 0,.int .i64 59] rfl (by (try simp only [List.map_toArray,List.map_cons,List.map_nil]);first|done|rfl|(simp only [List.length_drop,List.length_take];rfl)) ?_;(with_reducible refine (spec_l1In.calls a0 0 59 true _ A3.out).mono ?_);rintro e w' ⟨rfl,⟨nd,rfl⟩⟩;refine ⟨_,rfl,?_⟩;have hcz9_0 : w8.cell? ⟨gb417,0,none⟩ = some (.string a1_0) := (blk_cell BK417.out 0).trans rfl;have hcz9_1 : w8.cell? ⟨gb417,1,none⟩ = some (.string a1_1) := (blk_cell BK417.out 1).trans rfl;have hfz9_0 := blk_frozen BK417.out 0;have hfz9_1 := blk_frozen BK417.out 1)|(go_at_call 43;(with_reducible refine (spec_l26Good.calls k a1_0 a1_1 true _ A5.out).mono ?_);rintro e w10 ⟨rfl,hb⟩;have n0_ := Aside0.mk (blk_below (g := gb417) (o := .cells #[.string a1_0,.string a1_1] 27 (0,0)) (by (with_reducible repeat (first|refine bN ?_ _|refine bD ?_|refine bA ?_ _));exact BK417.out) hb);have n1_ := Aside0.mk (below_step (by repeat (first|(with_reducible first|exact HB.out|apply lA|apply lN|apply lD|refine below_set ?_ GE417.out)|exact HB.out)) hb);clear BK417;clear HB;have BK417 := n0_;have HB := n1_;clear n0_ n1_;(try clear hb);(try clear hb2);(try clear hk);(try clear hi);have hcz11_0 : w10.cell? ⟨gb417,0,none⟩ = some (.string a1_0) := (blk_cell BK417.out 0).trans rfl;have hcz11_1 : w10.cell? ⟨gb417,1,none⟩ = some (.string a1_1) := (blk_cell BK417.out 1).trans rfl;have hfz11_0 := blk_frozen BK417.out 0;have hfz11_1 := blk_frozen BK417.out 1)|((with_reducible refine gate_callee (f := 44) rfl ?_);refine goesL_ (some 16) rfl rfl Tryd.func44 (by kernel_rfl) rfl #[.int .i64 a0,.agg #[.string a1_0,.string a1_1]] rfl (by (try simp only [List.map_toArray,List.map_cons,List.map_nil]);first|done|rfl|(simp only [List.length_drop,List.length_take];rfl)) ?_;(with_reducible refine (spec_l26Line.calls k a0 a1_0 a1_1 t420 _ A7.out).mono ?_);rintro e w12 ⟨rfl,hb⟩;refine ⟨_,rfl,?_⟩;have n0_ := Aside0.mk (blk_below (g := gb417) (o := .cells #[.string a1_0,.string a1_1] 27 (0,0)) (by (with_reducible repeat (first|refine bN ?_ _|refine bD ?_|refine bA ?_ _));exact BK417.out) hb);have n1_ := Aside0.mk (below_step (by repeat (first|(with_reducible first|exact HB.out|apply lA|apply lN|apply lD|refine below_set ?_ GE417.out)|exact HB.out)) hb);clear BK417;clear HB;have BK417 := n0_;have HB := n1_;clear n0_ n1_;(try clear hb);(try clear hb2);(try clear hk);(try clear hi)))
   go_ret2
   exact ⟨by first|rfl|(simp [errW_none,errW_some] <;> rfl)|(simp [*,errW_none,errW_some] <;> rfl),by repeat (first|(with_reducible first|exact HB.out|apply lA|apply lN|apply lD|refine below_set ?_ GE417.out)|exact HB.out)⟩
  ·replace c6 := Bool.eq_false_iff.mpr c6
   subst c6
   have H1 : (some ((⟨#[]⟩ : ByteArray),false)) = some (r1,r2) := by rw [if_neg (show ¬ (false = true) by decide)] at H;exact H
   clear H
   have H := H1
   clear H1
   simp only [Option.some.injEq,Prod.mk.injEq] at H
   obtain ⟨rfl,rfl⟩ := H
   go_enter Tryd.func14,Tryd.ntmps14
   go_wp2_with (first|((with_reducible refine gate_dst (N := 3) rfl ?_);refine box_event ?hg (N := 3) ?hd (cs := #[.string a1_0,.string a1_1]) (t := 27) ?hr ?_;(case hd => rfl);(case hg => rfl);(case hr => first|(go_simp;done)|(go_simp;rfl));intro gb417 hg w13 hbox hb;have n0_ := Aside0.mk (below_step (by repeat (first|(with_reducible first|exact HB.out|apply lA|apply lN|apply lD)|exact HB.out)) hb);have n1_ := Aside0.mk (hbox);have n2_ := Aside0.mk ((by rw [hg];exact (below_size (by repeat (first|(with_reducible first|exact HB.out|apply lA|apply lN|apply lD)|exact HB.out))) : w.heap.size ≤ gb417));have n3_ := Aside0.mk ((by rw [hg];exact (below_size (by repeat (first|(with_reducible first|exact HB.out|apply lA|apply lN|apply lD)|exact HB.out))) : w.heap.size ≤ gb417));clear HB;have HB := n0_;have BK417 := n1_;have GW417 := n2_;have GE417 := n3_;clear n0_ n1_ n2_ n3_;clear hb hbox hg)|((with_reducible refine gate_callee (f := 42) rfl ?_);refine goesL_ (some 7) rfl rfl Tryd.func42 (by kernel_rfl) rfl #[.int .i64 a0,.int .i64 0,.int .i64 59] rfl (by (try simp only [List.map_toArray,List.map_cons,List.map_nil]);first|done|rfl|(simp only [List.length_drop,List.length_take];rfl)) ?_;(with_reducible refine (spec_l1In.calls a0 0 59 true _ A3.out).mono ?_);rintro e w' ⟨rfl,⟨nd,rfl⟩⟩;refine ⟨_,rfl,?_⟩;have hcz14_0 : w13.cell? ⟨gb417,0,none⟩ = some (.string a1_0) := (blk_cell BK417.out 0).trans rfl;have hcz14_1 : w13.cell? ⟨gb417,1,none⟩ = some (.string a1_1) := (blk_cell BK417.out 1).trans rfl;have hfz14_0 := blk_frozen BK417.out 0;have hfz14_1 := blk_frozen BK417.out 1)|(go_at_call 43;(with_reducible refine (spec_l26Good.calls k a1_0 a1_1 false _ A5.out).mono ?_);rintro e w15 ⟨rfl,hb⟩;have n0_ := Aside0.mk (blk_below (g := gb417) (o := .cells #[.string a1_0,.string a1_1] 27 (0,0)) (by (with_reducible repeat (first|refine bN ?_ _|refine bD ?_|refine bA ?_ _));exact BK417.out) hb);have n1_ := Aside0.mk (below_step (by repeat (first|(with_reducible first|exact HB.out|apply lA|apply lN|apply lD|refine below_set ?_ GE417.out)|exact HB.out)) hb);clear BK417;clear HB;have BK417 := n0_;have HB := n1_;clear n0_ n1_;(try clear hb);(try clear hb2);(try clear hk);(try clear hi)))
   go_ret2
   exact ⟨by first|rfl|(simp [errW_none,errW_some] <;> rfl)|(simp [*,errW_none,errW_some] <;> rfl),by repeat (first|(with_reducible first|exact HB.out|apply lA|apply lN|apply lD|refine below_set ?_ GE417.out)|exact HB.out)⟩
 ·replace c4 := Bool.eq_false_iff.mpr c4
  subst c4
  have H1 : (some ((⟨#[]⟩ : ByteArray),false)) = some (r1,r2) := by rw [if_neg (show ¬ (false = true) by decide)] at H;exact H
  clear H
  have H := H1
  clear H1
  simp only [Option.some.injEq,Prod.mk.injEq] at H
  obtain ⟨rfl,rfl⟩ := H
  go_enter Tryd.func14,Tryd.ntmps14
  go_wp2_with (first|((with_reducible refine gate_dst (N := 3) rfl ?_);refine box_event ?hg (N := 3) ?hd (cs := #[.string a1_0,.string a1_1]) (t := 27) ?hr ?_;(case hd => rfl);(case hg => rfl);(case hr => first|(go_simp;done)|(go_simp;rfl));intro gb417 hg w16 hbox hb;have n0_ := Aside0.mk (below_step (by repeat (first|(with_reducible first|exact HB.out|apply lA|apply lN|apply lD)|exact HB.out)) hb);have n1_ := Aside0.mk (hbox);have n2_ := Aside0.mk ((by rw [hg];exact (below_size (by repeat (first|(with_reducible first|exact HB.out|apply lA|apply lN|apply lD)|exact HB.out))) : w.heap.size ≤ gb417));have n3_ := Aside0.mk ((by rw [hg];exact (below_size (by repeat (first|(with_reducible first|exact HB.out|apply lA|apply lN|apply lD)|exact HB.out))) : w.heap.size ≤ gb417));clear HB;have HB := n0_;have BK417 := n1_;have GW417 := n2_;have GE417 := n3_;clear n0_ n1_ n2_ n3_;clear hb hbox hg)|((with_reducible refine gate_callee (f := 42) rfl ?_);refine goesL_ (some 7) rfl rfl Tryd.func42 (by kernel_rfl) rfl #[.int .i64 a0,.int .i64 0,.int .i64 59] rfl (by (try simp only [List.map_toArray,List.map_cons,List.map_nil]);first|done|rfl|(simp only [List.length_drop,List.length_take];rfl)) ?_;(with_reducible refine (spec_l1In.calls a0 0 59 false _ A3.out).mono ?_);rintro e w' ⟨rfl,⟨nd,rfl⟩⟩;refine ⟨_,rfl,?_⟩))
  go_ret2
  exact ⟨by first|rfl|(simp [errW_none,errW_some] <;> rfl)|(simp [*,errW_none,errW_some] <;> rfl),by repeat (first|(with_reducible first|exact HB.out|apply lA|apply lN|apply lD|refine below_set ?_ GE417.out)|exact HB.out)⟩
def impl_EncodeRecord.f (k : Nat) (a0 : Int) (a1_0 : ByteArray) (a1_1 : ByteArray) : Option (ByteArray × Bool) := (impl_inside.f a0 0 59).bind fun t422 => (if t422 = true then ((impl_IsValidRecord.f k a1_0 a1_1).bind fun t423 => (if t423 = true then ((impl_encodeRecord.f k a0 a1_0 a1_1).bind fun t424 => (some (t424,true))) else (some ((⟨#[]⟩ : ByteArray),false)))) else (some ((⟨#[]⟩ : ByteArray),false)))
theorem impl_EncodeRecord.mono : ∀ a0 a1 a2 k,LeO (impl_EncodeRecord.f k a0 a1 a2) (impl_EncodeRecord.f (k + 1) a0 a1 a2) := by
 intro a0 a1 a2 k
 unfold impl_EncodeRecord.f
 repeat' first
   | (with_reducible exact impl_IsValidRecord.mono _ _ _)
   | (with_reducible exact impl_encodeRecord.mono _ _ _ _)
   | (with_reducible exact LeO.refl _)
   | (with_reducible exact LeO.none _)
   | (with_reducible refine LeO.ite ?_ ?_)
   | (with_reducible refine LeO.bind ?_ (fun _ => ?_))
   | exact impl_IsValidRecord.mono _ _ _
   | exact impl_encodeRecord.mono _ _ _ _
   | exact LeO.none _
   | refine LeO.ite ?_ ?_
   | refine LeO.bind ?_ (fun _ => ?_)
set_option maxHeartbeats 8000000 in
set_option maxRecDepth 100000 in
theorem impl_EncodeRecord.calls (k : Nat) (a0 : Int) (a1_0 : ByteArray) (a1_1 : ByteArray) (r1 : ByteArray) (r2 : Bool) (w : World) (hG : Gw w) (h : impl_EncodeRecord.f k a0 a1_0 a1_1 = some (r1,r2)) :
  Calls Tryd.prog 16 #[.int .i64 a0,.agg #[.string a1_0,.string a1_1]] w fun e w' => e = .returned (.tuple #[.string r1,.bool r2]) ∧ Below w.heap.size w w' := by
 have hu27 := Tryd.underlying27
 have HB := Aside0.mk (Below.refl w.heap.size w)
 have HG := Aside0.mk hG
 clear hG
 have H : ((impl_inside.f a0 0 59).bind fun t422 => (if t422 = true then ((impl_IsValidRecord.f k a1_0 a1_1).bind fun t423 => (if t423 = true then ((impl_encodeRecord.f k a0 a1_0 a1_1).bind fun t424 => (some (t424,true))) else (some ((⟨#[]⟩ : ByteArray),false)))) else (some ((⟨#[]⟩ : ByteArray),false)))) = some (r1,r2) := h
 clear h
 replace H := Option.bind_eq_some_iff.mp H
 obtain ⟨t422,A30,H⟩ := H
 replace H : (if t422 = true then ((impl_IsValidRecord.f k a1_0 a1_1).bind fun t423 => (if t423 = true then ((impl_encodeRecord.f k a0 a1_0 a1_1).bind fun t424 => (some (t424,true))) else (some ((⟨#[]⟩ : ByteArray),false)))) else (some ((⟨#[]⟩ : ByteArray),false))) = some (r1,r2) := H
 have A3 := Aside0.mk A30
 clear A30
 by_cases c4 : t422 = true
 ·subst c4
  have H1 : ((impl_IsValidRecord.f k a1_0 a1_1).bind fun t423 => (if t423 = true then ((impl_encodeRecord.f k a0 a1_0 a1_1).bind fun t424 => (some (t424,true))) else (some ((⟨#[]⟩ : ByteArray),false)))) = some (r1,r2) := by rw [if_pos rfl] at H;exact H
  clear H
  have H := H1
  clear H1
  replace H := Option.bind_eq_some_iff.mp H
  obtain ⟨t423,A50,H⟩ := H
  replace H : (if t423 = true then ((impl_encodeRecord.f k a0 a1_0 a1_1).bind fun t424 => (some (t424,true))) else (some ((⟨#[]⟩ : ByteArray),false))) = some (r1,r2) := H
  have A5 := Aside0.mk A50
  clear A50
  by_cases c6 : t423 = true
  ·subst c6
   have H1 : ((impl_encodeRecord.f k a0 a1_0 a1_1).bind fun t424 => (some (t424,true))) = some (r1,r2) := by rw [if_pos rfl] at H;exact H
   clear H
   have H := H1
   clear H1
   replace H := Option.bind_eq_some_iff.mp H
   obtain ⟨t424,A70,H⟩ := H
   replace H : (some (t424,true)) = some (r1,r2) := H
   have A7 := Aside0.mk A70
   clear A70
   simp only [Option.some.injEq,Prod.mk.injEq] at H
   obtain ⟨rfl,rfl⟩ := H
   go_enter Tryd.func16,Tryd.ntmps16
   go_wp2_with (first|((with_reducible refine gate_dst (N := 3) rfl ?_);refine box_event ?hg (N := 3) ?hd (cs := #[.string a1_0,.string a1_1]) (t := 27) ?hr ?_;(case hd => rfl);(case hg => rfl);(case hr => first|(go_simp;done)|(go_simp;rfl));intro gb421 hg w8 hbox hb;have n0_ := Aside0.mk (below_step (by repeat (first|(with_reducible first|exact HB.out|apply lA|apply lN|apply lD)|exact HB.out)) hb);have n1_ := Aside0.mk (hbox);have n2_ := Aside0.mk ((by rw [hg];exact (below_size (by repeat (first|(with_reducible first|exact HB.out|apply lA|apply lN|apply lD)|exact HB.out))) : w.heap.size ≤ gb421));have n3_ := Aside0.mk ((by rw [hg];exact (below_size (by repeat (first|(with_reducible first|exact HB.out|apply lA|apply lN|apply lD)|exact HB.out))) : w.heap.size ≤ gb421));clear HB;have HB := n0_;have BK421 := n1_;have GW421 := n2_;have GE421 := n3_;clear n0_ n1_ n2_ n3_;clear hb hbox hg)|((with_reducible refine gate_callee (f := 45) rfl ?_);refine goesL_ (some 7) rfl rfl Tryd.func45 (by kernel_rfl) rfl #[.int .i64 a0,.int .i64 0,.int .i64 59] rfl (by (try simp only [List.map_toArray,List.map_cons,List.map_nil]);first|done|rfl|(simp only [List.length_drop,List.length_take];rfl)) ?_;(with_reducible refine (impl_inside.calls a0 0 59 true _ A3.out).mono ?_);rintro e w' ⟨rfl,⟨nd,rfl⟩⟩;refine ⟨_,rfl,?_⟩;have hcz9_0 : w8.cell? ⟨gb421,0,none⟩ = some (.string a1_0) := (blk_cell BK421.out 0).trans rfl;have hcz9_1 : w8.cell? ⟨gb421,1,none⟩ = some (.string a1_1) := (blk_cell BK421.out 1).trans rfl;have hfz9_0 := blk_frozen BK421.out 0;have hfz9_1 := blk_frozen BK421.out 1)|(go_at_call 37;(with_reducible refine (impl_IsValidRecord.calls k a1_0 a1_1 true _ A5.out).mono ?_);rintro e w10 ⟨rfl,hb⟩;have n0_ := Aside0.mk (blk_below (g := gb421) (o := .cells #[.string a1_0,.string a1_1] 27 (0,0)) (by (with_reducible repeat (first|refine bN ?_ _|refine bD ?_|refine bA ?_ _));exact BK421.out) hb);have n1_ := Aside0.mk (below_step (by repeat (first|(with_reducible first|exact HB.out|apply lA|apply lN|apply lD|refine below_set ?_ GE421.out)|exact HB.out)) hb);clear BK421;clear HB;have BK421 := n0_;have HB := n1_;clear n0_ n1_;(try clear hb);(try clear hb2);(try clear hk);(try clear hi);have hcz11_0 : w10.cell? ⟨gb421,0,none⟩ = some (.string a1_0) := (blk_cell BK421.out 0).trans rfl;have hcz11_1 : w10.cell? ⟨gb421,1,none⟩ = some (.string a1_1) := (blk_cell BK421.out 1).trans rfl;have hfz11_0 := blk_frozen BK421.out 0;have hfz11_1 := blk_frozen BK421.out 1)|((with_reducible refine gate_callee (f := 46) rfl ?_);refine goesL_ (some 16) rfl rfl Tryd.func46 (by kernel_rfl) rfl #[.int .i64 a0,.agg #[.string a1_0,.string a1_1]] rfl (by (try simp only [List.map_toArray,List.map_cons,List.map_nil]);first|done|rfl|(simp only [List.length_drop,List.length_take];rfl)) ?_;(with_reducible refine (impl_encodeRecord.calls k a0 a1_0 a1_1 t424 _ ?side1 A7.out).mono ?_);(case side1 => exact Gw.below HG.out (by repeat (first|(with_reducible first|exact HB.out|apply lA|apply lN|apply lD|refine below_set ?_ GE421.out)|exact HB.out)));rintro e w12 ⟨rfl,hb⟩;refine ⟨_,rfl,?_⟩;have n0_ := Aside0.mk (blk_below (g := gb421) (o := .cells #[.string a1_0,.string a1_1] 27 (0,0)) (by (with_reducible repeat (first|refine bN ?_ _|refine bD ?_|refine bA ?_ _));exact BK421.out) hb);have n1_ := Aside0.mk (below_step (by repeat (first|(with_reducible first|exact HB.out|apply lA|apply lN|apply lD|refine below_set ?_ GE421.out)|exact HB.out)) hb);clear BK421;clear HB;have BK421 := n0_;have HB := n1_;clear n0_ n1_;(try clear hb);(try clear hb2);(try clear hk);(try clear hi)))
   go_ret2
   exact ⟨by first|rfl|(simp [errW_none,errW_some] <;> rfl)|(simp [*,errW_none,errW_some] <;> rfl),by repeat (first|(with_reducible first|exact HB.out|apply lA|apply lN|apply lD|refine below_set ?_ GE421.out)|exact HB.out)⟩
  ·replace c6 := Bool.eq_false_iff.mpr c6
   subst c6
   have H1 : (some ((⟨#[]⟩ : ByteArray),false)) = some (r1,r2) := by rw [if_neg (show ¬ (false = true) by decide)] at H;exact H
   clear H
   have H := H1
   clear H1
   simp only [Option.some.injEq,Prod.mk.injEq] at H
   obtain ⟨rfl,rfl⟩ := H
   go_enter Tryd.func16,Tryd.ntmps16
   go_wp2_with (first|((with_reducible refine gate_dst (N := 3) rfl ?_);refine box_event ?hg (N := 3) ?hd (cs := #[.string a1_0,.string a1_1]) (t := 27) ?hr ?_;(case hd => rfl);(case hg => rfl);(case hr => first|(go_simp;done)|(go_simp;rfl));intro gb421 hg w13 hbox hb;have n0_ := Aside0.mk (below_step (by repeat (first|(with_reducible first|exact HB.out|apply lA|apply lN|apply lD)|exact HB.out)) hb);have n1_ := Aside0.mk (hbox);have n2_ := Aside0.mk ((by rw [hg];exact (below_size (by repeat (first|(with_reducible first|exact HB.out|apply lA|apply lN|apply lD)|exact HB.out))) : w.heap.size ≤ gb421));have n3_ := Aside0.mk ((by rw [hg];exact (below_size (by repeat (first|(with_reducible first|exact HB.out|apply lA|apply lN|apply lD)|exact HB.out))) : w.heap.size ≤ gb421));clear HB;have HB := n0_;have BK421 := n1_;have GW421 := n2_;have GE421 := n3_;clear n0_ n1_ n2_ n3_;clear hb hbox hg)|((with_reducible refine gate_callee (f := 45) rfl ?_);refine goesL_ (some 7) rfl rfl Tryd.func45 (by kernel_rfl) rfl #[.int .i64 a0,.int .i64 0,.int .i64 59] rfl (by (try simp only [List.map_toArray,List.map_cons,List.map_nil]);first|done|rfl|(simp only [List.length_drop,List.length_take];rfl)) ?_;(with_reducible refine (impl_inside.calls a0 0 59 true _ A3.out).mono ?_);rintro e w' ⟨rfl,⟨nd,rfl⟩⟩;refine ⟨_,rfl,?_⟩;have hcz14_0 : w13.cell? ⟨gb421,0,none⟩ = some (.string a1_0) := (blk_cell BK421.out 0).trans rfl;have hcz14_1 : w13.cell? ⟨gb421,1,none⟩ = some (.string a1_1) := (blk_cell BK421.out 1).trans rfl;have hfz14_0 := blk_frozen BK421.out 0;have hfz14_1 := blk_frozen BK421.out 1)|(go_at_call 37;(with_reducible refine (impl_IsValidRecord.calls k a1_0 a1_1 false _ A5.out).mono ?_);rintro e w15 ⟨rfl,hb⟩;have n0_ := Aside0.mk (blk_below (g := gb421) (o := .cells #[.string a1_0,.string a1_1] 27 (0,0)) (by (with_reducible repeat (first|refine bN ?_ _|refine bD ?_|refine bA ?_ _));exact BK421.out) hb);have n1_ := Aside0.mk (below_step (by repeat (first|(with_reducible first|exact HB.out|apply lA|apply lN|apply lD|refine below_set ?_ GE421.out)|exact HB.out)) hb);clear BK421;clear HB;have BK421 := n0_;have HB := n1_;clear n0_ n1_;(try clear hb);(try clear hb2);(try clear hk);(try clear hi)))
   go_ret2
   exact ⟨by first|rfl|(simp [errW_none,errW_some] <;> rfl)|(simp [*,errW_none,errW_some] <;> rfl),by repeat (first|(with_reducible first|exact HB.out|apply lA|apply lN|apply lD|refine below_set ?_ GE421.out)|exact HB.out)⟩
 ·replace c4 := Bool.eq_false_iff.mpr c4
  subst c4
  have H1 : (some ((⟨#[]⟩ : ByteArray),false)) = some (r1,r2) := by rw [if_neg (show ¬ (false = true) by decide)] at H;exact H
  clear H
  have H := H1
  clear H1
  simp only [Option.some.injEq,Prod.mk.injEq] at H
  obtain ⟨rfl,rfl⟩ := H
  go_enter Tryd.func16,Tryd.ntmps16
  go_wp2_with (first|((with_reducible refine gate_dst (N := 3) rfl ?_);refine box_event ?hg (N := 3) ?hd (cs := #[.string a1_0,.string a1_1]) (t := 27) ?hr ?_;(case hd => rfl);(case hg => rfl);(case hr => first|(go_simp;done)|(go_simp;rfl));intro gb421 hg w16 hbox hb;have n0_ := Aside0.mk (below_step (by repeat (first|(with_reducible first|exact HB.out|apply lA|apply lN|apply lD)|exact HB.out)) hb);have n1_ := Aside0.mk (hbox);have n2_ := Aside0.mk ((by rw [hg];exact (below_size (by repeat (first|(with_reducible first|exact HB.out|apply lA|apply lN|apply lD)|exact HB.out))) : w.heap.size ≤ gb421));have n3_ := Aside0.mk ((by rw [hg];exact (below_size (by repeat (first|(with_reducible first|exact HB.out|apply lA|apply lN|apply lD)|exact HB.out))) : w.heap.size ≤ gb421));clear HB;have HB := n0_;have BK421 := n1_;have GW421 := n2_;have GE421 := n3_;clear n0_ n1_ n2_ n3_;clear hb hbox hg)|((with_reducible refine gate_callee (f := 45) rfl ?_);refine goesL_ (some 7) rfl rfl Tryd.func45 (by kernel_rfl) rfl #[.int .i64 a0,.int .i64 0,.int .i64 59] rfl (by (try simp only [List.map_toArray,List.map_cons,List.map_nil]);first|done|rfl|(simp only [List.length_drop,List.length_take];rfl)) ?_;(with_reducible refine (impl_inside.calls a0 0 59 false _ A3.out).mono ?_);rintro e w' ⟨rfl,⟨nd,rfl⟩⟩;refine ⟨_,rfl,?_⟩))
  go_ret2
  exact ⟨by first|rfl|(simp [errW_none,errW_some] <;> rfl)|(simp [*,errW_none,errW_some] <;> rfl),by repeat (first|(with_reducible first|exact HB.out|apply lA|apply lN|apply lD|refine below_set ?_ GE421.out)|exact HB.out)⟩
def spec_RecoverLog.f (k : Nat) (a0 : ByteArray) : Option (ByteArray × ByteArray × Int × Int × Bool) := if (a0.size : Int) > 30000 then (some ((⟨#[]⟩ : ByteArray),(⟨#[]⟩ : ByteArray),0,0,false)) else ((spec_l26Open.f k a0).bind fun bt426 => (if 0 ≤ bt426.2 then (if bt426.2 ≤ (a0.size : Int) then (some (a0.extract 0 (bt426.2 : Int).toNat,(⟨#[]⟩ : ByteArray),(bt426.1.length : Int),bt426.2,true)) else (none)) else (none)))
theorem spec_RecoverLog.mono : ∀ a0 k,LeO (spec_RecoverLog.f k a0) (spec_RecoverLog.f (k + 1) a0) := by
 intro a0 k
 unfold spec_RecoverLog.f
 repeat' first
   | (with_reducible exact spec_l26Open.mono _ _)
   | (with_reducible exact LeO.refl _)
   | (with_reducible exact LeO.none _)
   | (with_reducible refine LeO.ite ?_ ?_)
   | (with_reducible refine LeO.bind ?_ (fun _ => ?_))
   | exact spec_l26Open.mono _ _
   | exact LeO.none _
   | refine LeO.ite ?_ ?_
   | refine LeO.bind ?_ (fun _ => ?_)
set_option maxHeartbeats 8000000 in
set_option maxRecDepth 100000 in
theorem spec_RecoverLog.calls (k : Nat) (a0 : ByteArray) (r1 : ByteArray) (r2 : ByteArray) (r3 : Int) (r4 : Int) (r5 : Bool) (w : World) (h : spec_RecoverLog.f k a0 = some (r1,r2,r3,r4,r5)) :
  Calls Tryd.prog 17 #[.string a0] w fun e w' => e = .returned (.tuple #[.agg #[.string r1,.string r2,.int .i64 r3],.int .i64 r4,.bool r5]) ∧ Below w.heap.size w w' := by
 have hu31 := Tryd.underlying31
 have HB := Aside0.mk (Below.refl w.heap.size w)
 have H : (if (a0.size : Int) > 30000 then (some ((⟨#[]⟩ : ByteArray),(⟨#[]⟩ : ByteArray),0,0,false)) else ((spec_l26Open.f k a0).bind fun bt426 => (if 0 ≤ bt426.2 then (if bt426.2 ≤ (a0.size : Int) then (some (a0.extract 0 (bt426.2 : Int).toNat,(⟨#[]⟩ : ByteArray),(bt426.1.length : Int),bt426.2,true)) else (none)) else (none)))) = some (r1,r2,r3,r4,r5) := h
 clear h
 by_cases c2 : (a0.size : Int) > 30000
 ·rw [if_pos c2] at H
  have c2b0 : decide (30000 < (a0.size : Int)) = true := decide_eq_true c2
  have c2b1 : decide (30000 < a0.size) = true := decide_eq_true (by omega)
  clear c2
  simp only [Option.some.injEq,Prod.mk.injEq] at H
  obtain ⟨rfl,rfl,rfl,rfl,rfl⟩ := H
  go_enter Tryd.func17,Tryd.ntmps17
  go_wp2_with (first|((with_reducible refine gate_dst (N := 2) rfl ?_);refine box_event ?hg (N := 2) ?hd (cs := #[.string (⟨#[]⟩ : ByteArray),.string (⟨#[]⟩ : ByteArray),.int .i64 0]) (t := 31) ?hr ?_;(case hd => rfl);(case hg => rfl);(case hr => first|(go_simp;done)|(go_simp;rfl));intro gb425 hg w3 hbox hb;have n0_ := Aside0.mk (below_step (by repeat (first|(with_reducible first|exact HB.out|apply lA|apply lN|apply lD)|exact HB.out)) hb);have n1_ := Aside0.mk (hbox);have n2_ := Aside0.mk ((by rw [hg];exact (below_size (by repeat (first|(with_reducible first|exact HB.out|apply lA|apply lN|apply lD)|exact HB.out))) : w.heap.size ≤ gb425));have n3_ := Aside0.mk ((by rw [hg];exact (below_size (by repeat (first|(with_reducible first|exact HB.out|apply lA|apply lN|apply lD)|exact HB.out))) : w.heap.size ≤ gb425));clear HB;have HB := n0_;have BK425 := n1_;have GW425 := n2_;have GE425 := n3_;clear n0_ n1_ n2_ n3_;clear hb hbox hg;have hcz4_0 : w3.cell? ⟨gb425,0,none⟩ = some (.string (⟨#[]⟩ : ByteArray)) := (blk_cell BK425.out 0).trans rfl;have hcz4_1 : w3.cell? ⟨gb425,1,none⟩ = some (.string (⟨#[]⟩ : ByteArray)) := (blk_cell BK425.out 1).trans rfl;have hcz4_2 : w3.cell? ⟨gb425,2,none⟩ = some (.int .i64 0) := (blk_cell BK425.out 2).trans rfl;have hfz4_0 := blk_frozen BK425.out 0;have hfz4_1 := blk_frozen BK425.out 1;have hfz4_2 := blk_frozen BK425.out 2))
  refine bodyPost_ret (results_ctt rfl _ _ gb425 31 #[.string (⟨#[]⟩ : ByteArray),.string (⟨#[]⟩ : ByteArray),.int .i64 0] (0,0) _ rfl (by (with_reducible repeat (first|refine bN ?_ _|refine bD ?_|refine bA ?_ _));refine blk_put (cs := #[.string (⟨#[]⟩ : ByteArray),.string (⟨#[]⟩ : ByteArray),.int .i64 0]) ?_ 2 _ rfl;(with_reducible repeat (first|refine bN ?_ _|refine bD ?_|refine bA ?_ _));refine blk_put (cs := #[.string (⟨#[]⟩ : ByteArray),.string (⟨#[]⟩ : ByteArray),.int .i64 0]) ?_ 1 _ rfl;(with_reducible repeat (first|refine bN ?_ _|refine bD ?_|refine bA ?_ _));refine blk_put (cs := #[.string (⟨#[]⟩ : ByteArray),.string (⟨#[]⟩ : ByteArray),.int .i64 0]) ?_ 0 _ rfl;(with_reducible repeat (first|refine bN ?_ _|refine bD ?_|refine bA ?_ _));exact BK425.out) Tryd.underlying31 rfl (by kernel_rfl)) rfl ?_
  exact ⟨by first|rfl|(simp [errW_none,errW_some] <;> rfl)|(simp [*,errW_none,errW_some] <;> rfl),by repeat (first|(with_reducible first|exact HB.out|apply lA|apply lN|apply lD|refine below_set ?_ GE425.out)|exact HB.out)⟩
 ·rw [if_neg c2] at H
  have c2b0 : decide (30000 < (a0.size : Int)) = false := decide_eq_false c2
  have c2b1 : decide (30000 < a0.size) = false := decide_eq_false (by omega)
  clear c2
  replace H := Option.bind_eq_some_iff.mp H
  obtain ⟨⟨t426,t427⟩,A50,H⟩ := H
  replace H : (if 0 ≤ t427 then (if t427 ≤ (a0.size : Int) then (some (a0.extract 0 (t427 : Int).toNat,(⟨#[]⟩ : ByteArray),(t426.length : Int),t427,true)) else (none)) else (none)) = some (r1,r2,r3,r4,r5) := H
  have A5 := Aside0.mk A50
  clear A50
  by_cases c6 : 0 ≤ t427
  ·rw [if_pos c6] at H
   have c6b0 := eq_true c6
   have c6b1 : decide (0 ≤ t427) = true := decide_eq_true c6
   clear c6
   by_cases c7 : t427 ≤ (a0.size : Int)
   ·rw [if_pos c7] at H
    have c7b0 := eq_true c7
    have c7b1 : decide (t427 ≤ (a0.size : Int)) = true := decide_eq_true c7
    clear c7
    simp only [Option.some.injEq,Prod.mk.injEq] at H
    obtain ⟨rfl,rfl,rfl,rfl,rfl⟩ := H
    go_enter Tryd.func17,Tryd.ntmps17
    go_wp2_with (first|((with_reducible refine gate_dst (N := 2) rfl ?_);refine box_event ?hg (N := 2) ?hd (cs := #[.string (⟨#[]⟩ : ByteArray),.string (⟨#[]⟩ : ByteArray),.int .i64 0]) (t := 31) ?hr ?_;(case hd => rfl);(case hg => rfl);(case hr => first|(go_simp;done)|(go_simp;rfl));intro gb425 hg w8 hbox hb;have n0_ := Aside0.mk (below_step (by repeat (first|(with_reducible first|exact HB.out|apply lA|apply lN|apply lD)|exact HB.out)) hb);have n1_ := Aside0.mk (hbox);have n2_ := Aside0.mk ((by rw [hg];exact (below_size (by repeat (first|(with_reducible first|exact HB.out|apply lA|apply lN|apply lD)|exact HB.out))) : w.heap.size ≤ gb425));have n3_ := Aside0.mk ((by rw [hg];exact (below_size (by repeat (first|(with_reducible first|exact HB.out|apply lA|apply lN|apply lD)|exact HB.out))) : w.heap.size ≤ gb425));clear HB;have HB := n0_;have BK425 := n1_;have GW425 := n2_;have GE425 := n3_;clear n0_ n1_ n2_ n3_;clear hb hbox hg)|((with_reducible refine gate_callee (f := 47) rfl ?_);refine goesL_ (some 13) rfl rfl Tryd.func47 (by kernel_rfl) rfl #[.string a0] rfl (by (try simp only [List.map_toArray,List.map_cons,List.map_nil]);first|done|rfl|(simp only [List.length_drop,List.length_take];rfl)) ?_;(with_reducible refine (spec_l26Open.calls k a0 t426 t427 _ A5.out).mono ?_);rintro e w9 ⟨v428,rfl,ho0,hb⟩;refine ⟨_,rfl,?_⟩;have n0_ := Aside0.mk (Kd.R_lower ho0 (below_size (by repeat (first|(with_reducible first|exact HB.out|apply lA|apply lN|apply lD|refine below_set ?_ GE425.out)|exact HB.out))));have n1_ := Aside0.mk (blk_below (g := gb425) (o := .cells #[.string (⟨#[]⟩ : ByteArray),.string (⟨#[]⟩ : ByteArray),.int .i64 0] 31 (0,0)) (by (with_reducible repeat (first|refine bN ?_ _|refine bD ?_|refine bA ?_ _));exact BK425.out) hb);have n2_ := Aside0.mk (below_step (by repeat (first|(with_reducible first|exact HB.out|apply lA|apply lN|apply lD|refine below_set ?_ GE425.out)|exact HB.out)) hb);clear BK425;clear HB;have HO429 := n0_;have BK425 := n1_;have HB := n2_;clear n0_ n1_ n2_;(try clear hb);(try clear hb2);(try clear hk);(try clear hi);(try clear ho0);obtain ⟨Ao10,co10,eo10⟩ := Kd.R_slice HO429.out;subst eo10;have hcz11_0 : w9.cell? ⟨gb425,0,none⟩ = some (.string (⟨#[]⟩ : ByteArray)) := (blk_cell BK425.out 0).trans rfl;have hcz11_1 : w9.cell? ⟨gb425,1,none⟩ = some (.string (⟨#[]⟩ : ByteArray)) := (blk_cell BK425.out 1).trans rfl;have hcz11_2 : w9.cell? ⟨gb425,2,none⟩ = some (.int .i64 0) := (blk_cell BK425.out 2).trans rfl;have hfz11_0 := blk_frozen BK425.out 0;have hfz11_1 := blk_frozen BK425.out 1;have hfz11_2 := blk_frozen BK425.out 2))
    refine bodyPost_ret (results_ctt rfl _ _ gb425 31 #[.string (a0.extract 0 (t427 : Int).toNat),.string (⟨#[]⟩ : ByteArray),.int .i64 (t426.length : Int)] (0,0) _ rfl (by (with_reducible repeat (first|refine bN ?_ _|refine bD ?_|refine bA ?_ _));refine blk_put (cs := #[.string (a0.extract 0 (t427 : Int).toNat),.string (⟨#[]⟩ : ByteArray),.int .i64 0]) ?_ 2 _ rfl;(with_reducible repeat (first|refine bN ?_ _|refine bD ?_|refine bA ?_ _));refine blk_put (cs := #[.string (a0.extract 0 (t427 : Int).toNat),.string (⟨#[]⟩ : ByteArray),.int .i64 0]) ?_ 1 _ rfl;(with_reducible repeat (first|refine bN ?_ _|refine bD ?_|refine bA ?_ _));refine blk_put (cs := #[.string (⟨#[]⟩ : ByteArray),.string (⟨#[]⟩ : ByteArray),.int .i64 0]) ?_ 0 _ rfl;(with_reducible repeat (first|refine bN ?_ _|refine bD ?_|refine bA ?_ _));exact BK425.out) Tryd.underlying31 rfl (by kernel_rfl)) rfl ?_
    exact ⟨by first|rfl|(simp [errW_none,errW_some] <;> rfl)|(simp [*,errW_none,errW_some] <;> rfl),by repeat (first|(with_reducible first|exact HB.out|apply lA|apply lN|apply lD|refine below_set ?_ GE425.out)|exact HB.out)⟩
   ·rw [if_neg c7] at H
    exact absurd H (by simp)
  ·rw [if_neg c6] at H
   exact absurd H (by simp)
def spec_l1Cur_among.f (s0_0 : List Int) (s0_1 : Int) (s0_2 : Int) (l1 : List Int) : Option (Int × Int × Int) := (spec_l1Cur_pick.f s0_0 s0_1 s0_2 (l1.length : Int)).bind fun bt430 => (if 0 ≤ bt430.1 then (if bt430.1 < (l1.length : Int) then (some (rd l1 bt430.1,bt430.2.1,bt430.2.2)) else (none)) else (none))
set_option maxHeartbeats 8000000 in
set_option maxRecDepth 100000 in
theorem spec_l1Cur_among.calls (g : Nat) (s0_0 : List Int) (s0_1 : Int) (s0_2 : Int) (A1 : Option Addr) (c1 : Nat) (l1 : List Int) (r1 : Int) (r2 : Int) (r3 : Int) (w0 w : World) (hI : IsS74 w0 w g s0_0 s0_1 s0_2) (hB : Below w0.heap.size w0 w) (hr1 : Kd.C (Kd.int .i64) w A1 l1.length l1) (hc1 : l1.length ≤ c1) (hf1 : ∀ ad,A1 = some ad → 0 < l1.length → ad.block ≠ g) (h : spec_l1Cur_among.f s0_0 s0_1 s0_2 l1 = some (r1,r2,r3)) :
  Calls Tryd.prog 58 #[.pointer (some ⟨g,0,none⟩),.slice A1 l1.length c1] w fun e w' => e = .returned (.int .i64 r1) ∧ IsS74 w0 w' g s0_0 r2 r3 ∧ Below w0.heap.size w0 w' ∧ KeepBut w w' g none := by
 have HR1 := Aside0.mk hr1
 have HC1 := Aside0.mk hc1
 clear hr1 hc1
 have HI0 := Aside0.mk hI
 have HK := Aside0.mk (KeepBut.refl w g none)
 have HL := Aside0.mk hB.size
 clear hI
 have HW0 := Aside0.mk hB.size
 have HB := Aside0.mk hB
 clear hB
 have H : ((spec_l1Cur_pick.f s0_0 s0_1 s0_2 (l1.length : Int)).bind fun bt430 => (if 0 ≤ bt430.1 then (if bt430.1 < (l1.length : Int) then (some (rd l1 bt430.1,bt430.2.1,bt430.2.2)) else (none)) else (none))) = some (r1,r2,r3) := h
 clear h
 replace H := Option.bind_eq_some_iff.mp H
 obtain ⟨⟨t430,t431,t432⟩,A30,H⟩ := H
 replace H : (if 0 ≤ t430 then (if t430 < (l1.length : Int) then (some (rd l1 t430,t431,t432)) else (none)) else (none)) = some (r1,r2,r3) := H
 have A3 := Aside0.mk A30
 clear A30
 by_cases c4 : 0 ≤ t430
 ·rw [if_pos c4] at H
  have c4b0 : decide (0 ≤ t430) = true := decide_eq_true c4
  clear c4
  by_cases c5 : t430 < (l1.length : Int)
  ·rw [if_pos c5] at H
   have c5b0 : decide (t430 < (l1.length : Int)) = true := decide_eq_true c5
   clear c5
   simp only [Option.some.injEq,Prod.mk.injEq] at H
   obtain ⟨rfl,rfl,rfl⟩ := H
   go_enter Tryd.func58,Tryd.ntmps58
   go_wp2_with (first|((with_reducible refine gate_callee (f := 54) rfl ?_);refine goesL_ (some 9) rfl rfl Tryd.func54 (by kernel_rfl) rfl #[.pointer (some ⟨g,0,none⟩),.int .i64 (l1.length : Int)] rfl (by (try simp only [List.map_toArray,List.map_cons,List.map_nil]);first|done|rfl|(simp only [List.length_drop,List.length_take];rfl)) ?_;(with_reducible refine (spec_l1Cur_pick.calls g s0_0 s0_1 s0_2 (l1.length : Int) t430 t431 t432 w0 _ ?side1 ?side2 A3.out).mono ?_);(case side1 => repeat (first|(with_reducible first|exact HI0.out|apply IsS74.alloc|apply IsS74.drewN|apply IsS74.drew|apply IsS74.set_1|apply IsS74.set_2)|exact HI0.out));(case side2 => repeat (first|(with_reducible first|exact HB.out|apply lA|apply lN|apply lD|refine below_set ?_ (IsS74.ge HI0.out))|exact HB.out));rintro e w6 ⟨rfl,hi,hb,hk⟩;refine ⟨_,rfl,?_⟩;have n0_ := Aside0.mk (KeepBut.trans (by repeat (first|(with_reducible first|exact HK.out|apply KeepBut.set_|apply keep_drewN|apply keep_drew|apply keep_alloc)|exact HK.out)) hk (.inl rfl));have n1_ := Aside0.mk (hb);have n2_ := Aside0.mk (hi);clear HK;clear HB;clear HI0;have HK := n0_;have HB := n1_;have HI0 := n2_;clear n0_ n1_ n2_;(try clear hb);(try clear hb2);(try clear hk);(try clear hi);have p433 : 0 ≤ (t430 : Int) := of_decide_eq_true (by first|(with_reducible assumption)|assumption);have q433 : t430 < (l1.length : Int) := of_decide_eq_true (by first|(with_reducible assumption)|assumption);obtain ⟨ad433,e433,hx433_0⟩ := Kd.at_int HR1.out t430 p433 q433;cases e433;replace hx433_0 := keep_cell HK.out hx433_0 (by first|(rw [add_block];exact hf1 _ rfl (by omega))|exact hf1 _ rfl (by omega)|exact hf1 ad433 rfl (by omega));replace p433 := eq_true p433;replace q433 := eq_true q433))
   go_ret
   exact ⟨by first|rfl|(simp [errW_none,errW_some] <;> rfl)|(simp [*,errW_none,errW_some] <;> rfl),by repeat (first|(with_reducible first|exact HI0.out|apply IsS74.alloc|apply IsS74.drewN|apply IsS74.drew|apply IsS74.set_1|apply IsS74.set_2)|exact HI0.out),by repeat (first|(with_reducible first|exact HB.out|apply lA|apply lN|apply lD|refine below_set ?_ (IsS74.ge HI0.out))|exact HB.out),by repeat (first|(with_reducible first|exact HK.out|apply KeepBut.set_|apply keep_drewN|apply keep_drew|apply keep_alloc)|exact HK.out)⟩
  ·rw [if_neg c5] at H
   exact absurd H (by simp)
 ·rw [if_neg c4] at H
  exact absurd H (by simp)
def spec_DrawEncodeRecord.f (l0 : List Int) : Option (Int × ByteArray × ByteArray) := (spec_l1Cur_among.f l0 0 0 (([0,1,12,59,60,(-1)] : List Int))).bind fun bt439 => ((spec_l1Cur_logRecord.f l0 bt439.2.1 bt439.2.2).bind fun bt442 => (some (bt439.1,bt442.1,bt442.2.1)))
set_option maxHeartbeats 8000000 in
set_option maxRecDepth 100000 in
theorem spec_DrawEncodeRecord.calls (A0 : Option Addr) (c0 : Nat) (l0 : List Int) (r1 : Int) (r2 : ByteArray) (r3 : ByteArray) (w : World) (hr0 : Kd.C (Kd.int .u8) w A0 l0.length l0) (hc0 : l0.length ≤ c0) (h : spec_DrawEncodeRecord.f l0 = some (r1,r2,r3)) :
  Calls Tryd.prog 39 #[.slice A0 l0.length c0] w fun e w' => e = .returned (.tuple #[.int .i64 r1,.agg #[.string r2,.string r3]]) ∧ Below w.heap.size w w' := by
 have hu27 := Tryd.underlying27
 have hu74 := Tryd.underlying74
 have HR0 := Aside0.mk hr0
 have HC0 := Aside0.mk hc0
 clear hr0 hc0
 have HB := Aside0.mk (Below.refl w.heap.size w)
 have H : ((spec_l1Cur_among.f l0 0 0 (([0,1,12,59,60,(-1)] : List Int))).bind fun bt439 => ((spec_l1Cur_logRecord.f l0 bt439.2.1 bt439.2.2).bind fun bt442 => (some (bt439.1,bt442.1,bt442.2.1)))) = some (r1,r2,r3) := h
 clear h
 obtain ⟨y436,hy436⟩ : ∃ y_ : List Int,y_ = (([0,1,12,59,60,(-1)] : List Int)) := ⟨_,rfl⟩
 replace H : ((spec_l1Cur_among.f l0 0 0 y436).bind fun bt439 => ((spec_l1Cur_logRecord.f l0 bt439.2.1 bt439.2.2).bind fun bt442 => (some (bt439.1,bt442.1,bt442.2.1)))) = some (r1,r2,r3) := by first|(rw [hy436];with_reducible exact H)|(have H2_ := (Option.bind_some _ _).symm.trans H;rw [hy436];with_reducible exact H2_)|(have H2_ := (Option.bind_some _ _).symm.trans H;with_reducible exact H2_)|with_reducible exact H|(rw [hy436];exact H)|exact H
 have Ny436 := Aside0.mk hy436
 clear hy436
 replace H := Option.bind_eq_some_iff.mp H
 obtain ⟨⟨t439,t440,t441⟩,A20,H⟩ := H
 replace H : ((spec_l1Cur_logRecord.f l0 t440 t441).bind fun bt442 => (some (t439,bt442.1,bt442.2.1))) = some (r1,r2,r3) := H
 have A2 := Aside0.mk A20
 clear A20
 replace H := Option.bind_eq_some_iff.mp H
 obtain ⟨⟨t442,t443,t444,t445⟩,A30,H⟩ := H
 replace H : (some (t439,t442,t443)) = some (r1,r2,r3) := H
 have A3 := Aside0.mk A30
 clear A30
 simp only [Option.some.injEq,Prod.mk.injEq] at H
 obtain ⟨rfl,rfl,rfl⟩ := H
 go_enter Tryd.func39,Tryd.ntmps39
 go_wp2_with (first|((with_reducible refine gate_dst (N := 3) rfl ?_);refine box_event ?hg (N := 3) ?hd (cs := #[.string (⟨#[]⟩ : ByteArray),.string (⟨#[]⟩ : ByteArray)]) (t := 27) ?hr ?_;(case hd => rfl);(case hg => rfl);(case hr => first|(go_simp;done)|(go_simp;rfl));intro gb434 hg w4 hbox hb;have n0_ := Aside0.mk (below_step (by repeat (first|(with_reducible first|exact HB.out|apply lA|apply lN|apply lD)|exact HB.out)) hb);have n1_ := Aside0.mk (hbox);have n2_ := Aside0.mk ((by rw [hg];exact (below_size (by repeat (first|(with_reducible first|exact HB.out|apply lA|apply lN|apply lD)|exact HB.out))) : w.heap.size ≤ gb434));have n3_ := Aside0.mk ((by rw [hg];exact (below_size (by repeat (first|(with_reducible first|exact HB.out|apply lA|apply lN|apply lD)|exact HB.out))) : w.heap.size ≤ gb434));clear HB;have HB := n0_;have BK434 := n1_;have GW434 := n2_;have GE434 := n3_;clear n0_ n1_ n2_ n3_;clear hb hbox hg)|((with_reducible refine gate_dst (N := 8) rfl ?_);refine box_event ?hg (N := 8) ?hd (cs := #[.slice A0 l0.length c0,.int .i64 0,.int .u64 0]) (t := 74) ?hr ?_;(case hd => rfl);(case hg => rfl);(case hr => first|(go_simp;done)|(go_simp;rfl));intro gb435 hg w5 hbox hb;have n0_ := Aside0.mk (blk_below (g := gb434) (o := .cells #[.string (⟨#[]⟩ : ByteArray),.string (⟨#[]⟩ : ByteArray)] 27 (0,0)) (by (with_reducible repeat (first|refine bN ?_ _|refine bD ?_|refine bA ?_ _));exact BK434.out) hb);have n1_ := Aside0.mk (below_step (by repeat (first|(with_reducible first|exact HB.out|apply lA|apply lN|apply lD|refine below_set ?_ GE434.out)|exact HB.out)) hb);have n2_ := Aside0.mk ((by rw [hg];exact Nat.ne_of_lt (blk_lt (g := gb434) (o := .cells #[.string (⟨#[]⟩ : ByteArray),.string (⟨#[]⟩ : ByteArray)] 27 (0,0)) (by (with_reducible repeat (first|refine bN ?_ _|refine bD ?_|refine bA ?_ _));exact BK434.out)) : gb434 ≠ gb435));have n3_ := Aside0.mk ((by rw [hg];exact Nat.ne_of_gt (blk_lt (g := gb434) (o := .cells #[.string (⟨#[]⟩ : ByteArray),.string (⟨#[]⟩ : ByteArray)] 27 (0,0)) (by (with_reducible repeat (first|refine bN ?_ _|refine bD ?_|refine bA ?_ _));exact BK434.out)) : gb435 ≠ gb434));have n4_ := Aside0.mk ((show IsS74 w w5 gb435 l0 0 0 from ⟨_,_,hbox,(by rw [hg];exact (below_size (by repeat (first|(with_reducible first|exact HB.out|apply lA|apply lN|apply lD|refine below_set ?_ GE434.out)|exact HB.out))) : w.heap.size ≤ gb435),HR0.out⟩));clear BK434;clear HB;have BK434 := n0_;have HB := n1_;have NB434_435 := n2_;have NB435_434 := n3_;have HI435 := n4_;clear n0_ n1_ n2_ n3_ n4_;clear hb hbox hg)|((with_reducible refine gate_dst (N := 10) rfl ?_);refine Kd.R_lit (Kd.int .i64) _ 3 ?hg (N := 10) ?hd (xs := ([0,1,12,59,60,(-1)] : List Int)) (inner := [.int .i64 0,.int .i64 1,.int .i64 12,.int .i64 59,.int .i64 60,.int .i64 (-1)]) (ok := fun _ => True) (okp := fun _ => True) ?hr ?hp (fun _ hk => hk) trivial (Below.refl _ _) (Nat.le_refl _) (by simp) ?_;(case hd => rfl);(case hg => rfl);(case hr => first|(go_simp;done)|(go_simp;rfl));(case hp => exact (Reps.one (show Kd.M (Kd.int .i64) _ _ _ 0 [.int .i64 0] from rfl) (Reps.one (show Kd.M (Kd.int .i64) _ _ _ 1 [.int .i64 1] from rfl) (Reps.one (show Kd.M (Kd.int .i64) _ _ _ 12 [.int .i64 12] from rfl) (Reps.one (show Kd.M (Kd.int .i64) _ _ _ 59 [.int .i64 59] from rfl) (Reps.one (show Kd.M (Kd.int .i64) _ _ _ 60 [.int .i64 60] from rfl) (Reps.one (show Kd.M (Kd.int .i64) _ _ _ (-1) [.int .i64 (-1)] from rfl) (Reps.none _ _))))))));intro v437 w6 ho7 hb hg_ hnew_;clear hg_ hnew_;(first|rw [← Ny436.out] at ho7|(simp only [Int.reduceToNat] at ho7;rw [← Ny436.out] at ho7));have n0_ := Aside0.mk (Kd.R_lower ho7 (below_size (by repeat (first|(with_reducible first|exact HB.out|apply lA|apply lN|apply lD|refine below_set ?_ (IsS74.ge HI435.out)|refine below_set ?_ GE434.out)|exact HB.out))));have n1_ := Aside0.mk (blk_below (g := gb434) (o := .cells #[.string (⟨#[]⟩ : ByteArray),.string (⟨#[]⟩ : ByteArray)] 27 (0,0)) (by (with_reducible repeat (first|refine bN ?_ _|refine bD ?_|refine bA ?_ _));exact BK434.out) hb);have n2_ := Aside0.mk (IsS74.below (by repeat (first|(with_reducible first|exact HI435.out|apply IsS74.alloc|apply IsS74.drewN|apply IsS74.drew|apply IsS74.set_1|apply IsS74.set_2|refine IsS74.far ?_ NB435_434.out _)|exact HI435.out)) hb);have n3_ := Aside0.mk (below_step (by repeat (first|(with_reducible first|exact HB.out|apply lA|apply lN|apply lD|refine below_set ?_ (IsS74.ge HI435.out)|refine below_set ?_ GE434.out)|exact HB.out)) hb);clear BK434;clear HI435;clear HB;have HO438 := n0_;have BK434 := n1_;have HI435 := n2_;have HB := n3_;clear n0_ n1_ n2_ n3_;clear hb ho7;obtain ⟨Ao8,co8,eo8⟩ := Kd.R_slice HO438.out;subst eo8)|((with_reducible refine gate_callee (f := 58) rfl ?_);refine goesL_ (some 11) rfl rfl Tryd.func58 (by kernel_rfl) rfl #[.pointer (some ⟨gb435,0,none⟩),.slice Ao8 y436.length co8] rfl (by (try simp only [List.map_toArray,List.map_cons,List.map_nil]);first|done|rfl|(simp only [List.length_drop,List.length_take];rfl)) ?_;(with_reducible refine (spec_l1Cur_among.calls gb435 l0 0 0 _ _ y436 t439 t440 t441 w _ ?side1 ?side2 ?side3 ?side4 ?side5 A2.out).mono ?_);(case side1 => repeat (first|(with_reducible first|exact HI435.out|apply IsS74.alloc|apply IsS74.drewN|apply IsS74.drew|apply IsS74.set_1|apply IsS74.set_2|refine IsS74.far ?_ NB435_434.out _)|exact HI435.out));(case side2 => repeat (first|(with_reducible first|exact HB.out|apply lA|apply lN|apply lD|refine below_set ?_ (IsS74.ge HI435.out)|refine below_set ?_ GE434.out)|exact HB.out));(case side3 => repeat (first|exact (Kd.R_reads' HO438.out).2.2|(with_reducible refine Kd.C_alloc ?_ _)|(with_reducible refine Kd.C_drewN ?_ _)|(with_reducible refine Kd.C_drew ?_)));(case side4 => exact (Kd.R_reads' HO438.out).2.1);(case side5 => exact far_slice (IsS74.own_ne HI435.out HO438.out (by decide)));rintro e w9 ⟨rfl,hi,hb,hk⟩;refine ⟨_,rfl,?_⟩;have n0_ := Aside0.mk (KeepBut.blk hk (g' := gb434) (o := .cells #[.string (⟨#[]⟩ : ByteArray),.string (⟨#[]⟩ : ByteArray)] 27 (0,0)) (by (with_reducible repeat (first|refine bN ?_ _|refine bD ?_|refine bA ?_ _));exact BK434.out) NB434_435.out (by simp));have n1_ := Aside0.mk (Kd.R_mono (Kd.R_keep (IsS74.apart (show IsS74 w _ gb435 l0 0 0 from by repeat (first|(with_reducible first|exact HI435.out|apply IsS74.alloc|apply IsS74.drewN|apply IsS74.drew|apply IsS74.set_1|apply IsS74.set_2|refine IsS74.far ?_ NB435_434.out _)|exact HI435.out)) (by (with_reducible repeat (first|apply Kd.R_alloc|apply Kd.R_drewN|apply Kd.R_drew));exact HO438.out) (by decide)) hk (fun _ h => h.2)) (fun _ h => h.1));have n2_ := Aside0.mk (hb);have n3_ := Aside0.mk (hi);clear BK434;clear HO438;clear HB;clear HI435;have BK434 := n0_;have HO438 := n1_;have HB := n2_;have HI435 := n3_;clear n0_ n1_ n2_ n3_;(try clear hb);(try clear hb2);(try clear hk);(try clear hi))|((with_reducible refine gate_callee (f := 55) rfl ?_);refine goesL_ (some 14) rfl rfl Tryd.func55 (by kernel_rfl) rfl #[.pointer (some ⟨gb435,0,none⟩)] rfl (by (try simp only [List.map_toArray,List.map_cons,List.map_nil]);first|done|rfl|(simp only [List.length_drop,List.length_take];rfl)) ?_;(with_reducible refine (spec_l1Cur_logRecord.calls gb435 l0 t440 t441 t442 t443 t444 t445 w _ ?side1 ?side2 A3.out).mono ?_);(case side1 => repeat (first|(with_reducible first|exact HI435.out|apply IsS74.alloc|apply IsS74.drewN|apply IsS74.drew|apply IsS74.set_1|apply IsS74.set_2|refine IsS74.far ?_ NB435_434.out _)|exact HI435.out));(case side2 => repeat (first|(with_reducible first|exact HB.out|apply lA|apply lN|apply lD|refine below_set ?_ (IsS74.ge HI435.out)|refine below_set ?_ GE434.out)|exact HB.out));rintro e w10 ⟨rfl,hi,hb,hk⟩;refine ⟨_,rfl,?_⟩;have n0_ := Aside0.mk (KeepBut.blk hk (g' := gb434) (o := .cells #[.string (⟨#[]⟩ : ByteArray),.string (⟨#[]⟩ : ByteArray)] 27 (0,0)) (by (with_reducible repeat (first|refine bN ?_ _|refine bD ?_|refine bA ?_ _));exact BK434.out) NB434_435.out (by simp));have n1_ := Aside0.mk (Kd.R_mono (Kd.R_keep (IsS74.apart (show IsS74 w _ gb435 l0 t440 t441 from by repeat (first|(with_reducible first|exact HI435.out|apply IsS74.alloc|apply IsS74.drewN|apply IsS74.drew|apply IsS74.set_1|apply IsS74.set_2|refine IsS74.far ?_ NB435_434.out _)|exact HI435.out)) (by (with_reducible repeat (first|apply Kd.R_alloc|apply Kd.R_drewN|apply Kd.R_drew));exact HO438.out) (by decide)) hk (fun _ h => h.2)) (fun _ h => h.1));have n2_ := Aside0.mk (hb);have n3_ := Aside0.mk (hi);clear BK434;clear HO438;clear HB;clear HI435;have BK434 := n0_;have HO438 := n1_;have HB := n2_;have HI435 := n3_;clear n0_ n1_ n2_ n3_;(try clear hb);(try clear hb2);(try clear hk);(try clear hi);have hnb11 := NB434_435.out;have hnc11 := NB435_434.out;have hcz12_0 : w10.cell? ⟨gb434,0,none⟩ = some (.string (⟨#[]⟩ : ByteArray)) := (blk_cell BK434.out 0).trans rfl;have hcz12_1 : w10.cell? ⟨gb434,1,none⟩ = some (.string (⟨#[]⟩ : ByteArray)) := (blk_cell BK434.out 1).trans rfl;have hfz12_0 := blk_frozen BK434.out 0;have hfz12_1 := blk_frozen BK434.out 1))
 refine bodyPost_ret (results_tc rfl _ _ gb434 27 #[.string t442,.string t443] (0,0) _ rfl (by (with_reducible repeat (first|refine bN ?_ _|refine bD ?_|refine bA ?_ _));refine blk_put (cs := #[.string t442,.string (⟨#[]⟩ : ByteArray)]) ?_ 1 _ rfl;(with_reducible repeat (first|refine bN ?_ _|refine bD ?_|refine bA ?_ _));refine blk_put (cs := #[.string (⟨#[]⟩ : ByteArray),.string (⟨#[]⟩ : ByteArray)]) ?_ 0 _ rfl;(with_reducible repeat (first|refine bN ?_ _|refine bD ?_|refine bA ?_ _));exact BK434.out) Tryd.underlying27 rfl (by kernel_rfl)) rfl ?_
 exact ⟨by first|rfl|(simp [errW_none,errW_some] <;> rfl)|(simp [*,errW_none,errW_some] <;> rfl),by repeat (first|(with_reducible first|exact HB.out|apply lA|apply lN|apply lD|refine below_set ?_ (IsS74.ge HI435.out)|refine below_set ?_ GE434.out)|exact HB.out)⟩
def spec_DrawRecoverLog.j0 : Nat → ByteArray → List Int → Int → Int → Option (ByteArray)
 | 0,_,_,_,_ => none
 | k + 1,x5,x447000,x447001,x447002 => (spec_l1Cur_one.f x447000 x447001 x447002 40).bind fun bt470 => (if bt470.1 = true then ((spec_l1Cur_pick.f x447000 bt470.2.1 bt470.2.2 2).bind fun bt473 => (if 0 ≤ (wrap64 (30000 + bt473.1)) then (if (wrap64 (30000 + bt473.1) : Int).toNat ≤ 281474976710656 then (some (strOfNums (List.replicate (wrap64 (30000 + bt473.1) : Int).toNat 0))) else (none)) else (none))) else (some x5))
def spec_DrawRecoverLog.f (k : Nat) (l0 : List Int) : Option (ByteArray) := (spec_l1Cur_log.f k l0 0 0).bind fun bt447 => (if bt447.1.size + bt447.2.1.size ≤ 9223372036854775807 then ((spec_l1Cur_pick.f l0 bt447.2.2.2.1 bt447.2.2.2.2 4).bind fun bt453 => (if bt453.1 = 0 then ((spec_l1Cur_spoilt.f l0 bt453.2.1 bt453.2.2 (bt447.1 ++ bt447.2.1) (⟨#[35,64,10,48,49]⟩ : ByteArray)).bind fun bt456 => (spec_DrawRecoverLog.j0 k bt456.1 l0 bt456.2.1 bt456.2.2)) else (if bt453.1 = 1 then ((spec_l1Cur_pick.f l0 bt453.2.1 bt453.2.2 (wrap64 (((bt447.1 ++ bt447.2.1).size : Int) + 1))).bind fun bt459 => (if 0 ≤ bt459.1 then (if bt459.1 ≤ ((bt447.1 ++ bt447.2.1).size : Int) then (spec_DrawRecoverLog.j0 k ((bt447.1 ++ bt447.2.1).extract 0 (bt459.1 : Int).toNat) l0 bt459.2.1 bt459.2.2) else (none)) else (none))) else (if bt453.1 = 2 then ((spec_l1Cur_pick.f l0 bt453.2.1 bt453.2.2 4).bind fun bt462 => ((spec_l1Cur_logRecord.f l0 bt462.2.1 bt462.2.2).bind fun bt465 => ((spec_l26Line.f k bt462.1 bt465.1 bt465.2.1).bind fun t469 => (if (bt447.1 ++ bt447.2.1).size + t469.size ≤ 9223372036854775807 then (spec_DrawRecoverLog.j0 k ((bt447.1 ++ bt447.2.1) ++ t469) l0 bt465.2.2.1 bt465.2.2.2) else (none))))) else (spec_DrawRecoverLog.j0 k (bt447.1 ++ bt447.2.1) l0 bt453.2.1 bt453.2.2))))) else (none))
theorem spec_DrawRecoverLog.mono_l : ∀ k,(∀ y0 y1 y2 y3,LeO (spec_DrawRecoverLog.j0 k y0 y1 y2 y3) (spec_DrawRecoverLog.j0 (k + 1) y0 y1 y2 y3))
 | 0 => fun _ _ _ _ r h => by simp [spec_DrawRecoverLog.j0] at h
 | k + 1 => by
  have ih0 := spec_DrawRecoverLog.mono_l k
  ·intro y0 y1 y2 y3
   unfold spec_DrawRecoverLog.j0
   repeat' first
   | (with_reducible exact ih0 _ _ _ _)
   | (with_reducible exact spec_l1Cur_log.mono _ _ _ _)
   | (with_reducible exact spec_l26Line.mono _ _ _ _)
   | (with_reducible exact LeO.refl _)
   | (with_reducible exact LeO.none _)
   | (with_reducible refine LeO.ite ?_ ?_)
   | (with_reducible refine LeO.bind ?_ (fun _ => ?_))
   | exact ih0 _ _ _ _
   | exact spec_l1Cur_log.mono _ _ _ _
   | exact spec_l26Line.mono _ _ _ _
   | exact LeO.none _
   | refine LeO.ite ?_ ?_
   | refine LeO.bind ?_ (fun _ => ?_)
theorem spec_DrawRecoverLog.mono : ∀ a0 k,LeO (spec_DrawRecoverLog.f k a0) (spec_DrawRecoverLog.f (k + 1) a0) := by
 intro a0 k
 have ih0 := spec_DrawRecoverLog.mono_l k
 unfold spec_DrawRecoverLog.f
 repeat' first
   | (with_reducible exact ih0 _ _ _ _)
   | (with_reducible exact spec_l1Cur_log.mono _ _ _ _)
   | (with_reducible exact spec_l26Line.mono _ _ _ _)
   | (with_reducible exact LeO.refl _)
   | (with_reducible exact LeO.none _)
   | (with_reducible refine LeO.ite ?_ ?_)
   | (with_reducible refine LeO.bind ?_ (fun _ => ?_))
   | exact ih0 _ _ _ _
   | exact spec_l1Cur_log.mono _ _ _ _
   | exact spec_l26Line.mono _ _ _ _
   | exact LeO.none _
   | refine LeO.ite ?_ ?_
   | refine LeO.bind ?_ (fun _ => ?_)
set_option maxHeartbeats 8000000 in
set_option maxRecDepth 100000 in
theorem spec_DrawRecoverLog.calls (k : Nat) (A0 : Option Addr) (c0 : Nat) (l0 : List Int) (r : ByteArray) (w : World) (hr0 : Kd.C (Kd.int .u8) w A0 l0.length l0) (hc0 : l0.length ≤ c0) (h : spec_DrawRecoverLog.f k l0 = some r) :
  Calls Tryd.prog 40 #[.slice A0 l0.length c0] w fun e w' => e = .returned (.string r) ∧ Below w.heap.size w w' := by
 have hu74 := Tryd.underlying74
 have hu31 := Tryd.underlying31
 have HR0 := Aside0.mk hr0
 have HC0 := Aside0.mk hc0
 clear hr0 hc0
 have HB := Aside0.mk (Below.refl w.heap.size w)
 have H : ((spec_l1Cur_log.f k l0 0 0).bind fun bt447 => (if bt447.1.size + bt447.2.1.size ≤ 9223372036854775807 then ((spec_l1Cur_pick.f l0 bt447.2.2.2.1 bt447.2.2.2.2 4).bind fun bt453 => (if bt453.1 = 0 then ((spec_l1Cur_spoilt.f l0 bt453.2.1 bt453.2.2 (bt447.1 ++ bt447.2.1) (⟨#[35,64,10,48,49]⟩ : ByteArray)).bind fun bt456 => (spec_DrawRecoverLog.j0 k bt456.1 l0 bt456.2.1 bt456.2.2)) else (if bt453.1 = 1 then ((spec_l1Cur_pick.f l0 bt453.2.1 bt453.2.2 (wrap64 (((bt447.1 ++ bt447.2.1).size : Int) + 1))).bind fun bt459 => (if 0 ≤ bt459.1 then (if bt459.1 ≤ ((bt447.1 ++ bt447.2.1).size : Int) then (spec_DrawRecoverLog.j0 k ((bt447.1 ++ bt447.2.1).extract 0 (bt459.1 : Int).toNat) l0 bt459.2.1 bt459.2.2) else (none)) else (none))) else (if bt453.1 = 2 then ((spec_l1Cur_pick.f l0 bt453.2.1 bt453.2.2 4).bind fun bt462 => ((spec_l1Cur_logRecord.f l0 bt462.2.1 bt462.2.2).bind fun bt465 => ((spec_l26Line.f k bt462.1 bt465.1 bt465.2.1).bind fun t469 => (if (bt447.1 ++ bt447.2.1).size + t469.size ≤ 9223372036854775807 then (spec_DrawRecoverLog.j0 k ((bt447.1 ++ bt447.2.1) ++ t469) l0 bt465.2.2.1 bt465.2.2.2) else (none))))) else (spec_DrawRecoverLog.j0 k (bt447.1 ++ bt447.2.1) l0 bt453.2.1 bt453.2.2))))) else (none))) = some r := h
 clear h
 replace H := Option.bind_eq_some_iff.mp H
 obtain ⟨⟨t447,t448,t449,t450,t451⟩,A20,H⟩ := H
 replace H : (if t447.size + t448.size ≤ 9223372036854775807 then ((spec_l1Cur_pick.f l0 t450 t451 4).bind fun bt453 => (if bt453.1 = 0 then ((spec_l1Cur_spoilt.f l0 bt453.2.1 bt453.2.2 (t447 ++ t448) (⟨#[35,64,10,48,49]⟩ : ByteArray)).bind fun bt456 => (spec_DrawRecoverLog.j0 k bt456.1 l0 bt456.2.1 bt456.2.2)) else (if bt453.1 = 1 then ((spec_l1Cur_pick.f l0 bt453.2.1 bt453.2.2 (wrap64 (((t447 ++ t448).size : Int) + 1))).bind fun bt459 => (if 0 ≤ bt459.1 then (if bt459.1 ≤ ((t447 ++ t448).size : Int) then (spec_DrawRecoverLog.j0 k ((t447 ++ t448).extract 0 (bt459.1 : Int).toNat) l0 bt459.2.1 bt459.2.2) else (none)) else (none))) else (if bt453.1 = 2 then ((spec_l1Cur_pick.f l0 bt453.2.1 bt453.2.2 4).bind fun bt462 => ((spec_l1Cur_logRecord.f l0 bt462.2.1 bt462.2.2).bind fun bt465 => ((spec_l26Line.f k bt462.1 bt465.1 bt465.2.1).bind fun t469 => (if (t447 ++ t448).size + t469.size ≤ 9223372036854775807 then (spec_DrawRecoverLog.j0 k ((t447 ++ t448) ++ t469) l0 bt465.2.2.1 bt465.2.2.2) else (none))))) else (spec_DrawRecoverLog.j0 k (t447 ++ t448) l0 bt453.2.1 bt453.2.2))))) else (none)) = some r := H
 have A2 := Aside0.mk A20
 clear A20
 by_cases c3 : t447.size + t448.size ≤ 9223372036854775807
 ·rw [if_pos c3] at H
  have c3b0 := eq_true c3
  have c3b1 : decide (t447.size + t448.size ≤ 9223372036854775807) = true := decide_eq_true c3
  try have c3b2 : (9223372036854775807 < t447.size + t448.size) = False := eq_false (Nat.not_lt.2 c3)
  obtain ⟨sj4,hsj4⟩ : ∃ s_ : ByteArray,(t447 ++ t448) = s_ := ⟨_,rfl⟩
  replace H : ((spec_l1Cur_pick.f l0 t450 t451 4).bind fun bt453 => (if bt453.1 = 0 then ((spec_l1Cur_spoilt.f l0 bt453.2.1 bt453.2.2 sj4 (⟨#[35,64,10,48,49]⟩ : ByteArray)).bind fun bt456 => (spec_DrawRecoverLog.j0 k bt456.1 l0 bt456.2.1 bt456.2.2)) else (if bt453.1 = 1 then ((spec_l1Cur_pick.f l0 bt453.2.1 bt453.2.2 (wrap64 ((sj4.size : Int) + 1))).bind fun bt459 => (if 0 ≤ bt459.1 then (if bt459.1 ≤ (sj4.size : Int) then (spec_DrawRecoverLog.j0 k (sj4.extract 0 (bt459.1 : Int).toNat) l0 bt459.2.1 bt459.2.2) else (none)) else (none))) else (if bt453.1 = 2 then ((spec_l1Cur_pick.f l0 bt453.2.1 bt453.2.2 4).bind fun bt462 => ((spec_l1Cur_logRecord.f l0 bt462.2.1 bt462.2.2).bind fun bt465 => ((spec_l26Line.f k bt462.1 bt465.1 bt465.2.1).bind fun t469 => (if sj4.size + t469.size ≤ 9223372036854775807 then (spec_DrawRecoverLog.j0 k (sj4 ++ t469) l0 bt465.2.2.1 bt465.2.2.2) else (none))))) else (spec_DrawRecoverLog.j0 k sj4 l0 bt453.2.1 bt453.2.2))))) = some r := by first|(rw [hsj4] at H;exact H)|(simp only [hsj4] at H ⊢;exact H)
  (try rw [hsj4] at A2)
  replace H := Option.bind_eq_some_iff.mp H
  obtain ⟨⟨t453,t454,t455⟩,A50,H⟩ := H
  replace H : (if t453 = 0 then ((spec_l1Cur_spoilt.f l0 t454 t455 sj4 (⟨#[35,64,10,48,49]⟩ : ByteArray)).bind fun bt456 => (spec_DrawRecoverLog.j0 k bt456.1 l0 bt456.2.1 bt456.2.2)) else (if t453 = 1 then ((spec_l1Cur_pick.f l0 t454 t455 (wrap64 ((sj4.size : Int) + 1))).bind fun bt459 => (if 0 ≤ bt459.1 then (if bt459.1 ≤ (sj4.size : Int) then (spec_DrawRecoverLog.j0 k (sj4.extract 0 (bt459.1 : Int).toNat) l0 bt459.2.1 bt459.2.2) else (none)) else (none))) else (if t453 = 2 then ((spec_l1Cur_pick.f l0 t454 t455 4).bind fun bt462 => ((spec_l1Cur_logRecord.f l0 bt462.2.1 bt462.2.2).bind fun bt465 => ((spec_l26Line.f k bt462.1 bt465.1 bt465.2.1).bind fun t469 => (if sj4.size + t469.size ≤ 9223372036854775807 then (spec_DrawRecoverLog.j0 k (sj4 ++ t469) l0 bt465.2.2.1 bt465.2.2.2) else (none))))) else (spec_DrawRecoverLog.j0 k sj4 l0 t454 t455)))) = some r := H
  have A5 := Aside0.mk A50
  clear A50
  have HC6 := Aside0.mk H
  clear H
  go_enter Tryd.func40,Tryd.ntmps40
  go_upto_block 0 with (first|((with_reducible refine gate_dst (N := 8) rfl ?_);refine box_event ?hg (N := 8) ?hd (cs := #[.slice A0 l0.length c0,.int .i64 0,.int .u64 0]) (t := 74) ?hr ?_;(case hd => rfl);(case hg => rfl);(case hr => first|(go_simp;done)|(go_simp;rfl));intro gb446 hg w7 hbox hb;have n0_ := Aside0.mk (below_step (by repeat (first|(with_reducible first|exact HB.out|apply lA|apply lN|apply lD)|exact HB.out)) hb);have n1_ := Aside0.mk ((show IsS74 w w7 gb446 l0 0 0 from ⟨_,_,hbox,(by rw [hg];exact (below_size (by repeat (first|(with_reducible first|exact HB.out|apply lA|apply lN|apply lD)|exact HB.out))) : w.heap.size ≤ gb446),HR0.out⟩));clear HB;have HB := n0_;have HI446 := n1_;clear n0_ n1_;clear hb hbox hg)|((with_reducible refine gate_callee (f := 59) rfl ?_);refine goesL_ (some 10) rfl rfl Tryd.func59 (by kernel_rfl) rfl #[.pointer (some ⟨gb446,0,none⟩)] rfl (by (try simp only [List.map_toArray,List.map_cons,List.map_nil]);first|done|rfl|(simp only [List.length_drop,List.length_take];rfl)) ?_;(with_reducible refine (spec_l1Cur_log.calls k gb446 l0 0 0 t447 t448 t449 t450 t451 w _ ?side1 ?side2 A2.out).mono ?_);(case side1 => repeat (first|(with_reducible first|exact HI446.out|apply IsS74.alloc|apply IsS74.drewN|apply IsS74.drew|apply IsS74.set_1|apply IsS74.set_2)|exact HI446.out));(case side2 => repeat (first|(with_reducible first|exact HB.out|apply lA|apply lN|apply lD|refine below_set ?_ (IsS74.ge HI446.out))|exact HB.out));rintro e w8 ⟨rfl,hi,hb,hk⟩;refine ⟨_,rfl,?_⟩;have n0_ := Aside0.mk (hb);have n1_ := Aside0.mk (hi);clear HB;clear HI446;have HB := n0_;have HI446 := n1_;clear n0_ n1_;(try clear hb);(try clear hb2);(try clear hk);(try clear hi))|((with_reducible refine gate_dst (N := 4) rfl ?_);refine box_event ?hg (N := 4) ?hd (cs := #[.string (⟨#[]⟩ : ByteArray),.string (⟨#[]⟩ : ByteArray),.int .i64 0]) (t := 31) ?hr ?_;(case hd => rfl);(case hg => rfl);(case hr => first|(go_simp;done)|(go_simp;rfl));intro gb452 hg w9 hbox hb;have n0_ := Aside0.mk (IsS74.below (by repeat (first|(with_reducible first|exact HI446.out|apply IsS74.alloc|apply IsS74.drewN|apply IsS74.drew|apply IsS74.set_1|apply IsS74.set_2)|exact HI446.out)) hb);have n1_ := Aside0.mk (below_step (by repeat (first|(with_reducible first|exact HB.out|apply lA|apply lN|apply lD|refine below_set ?_ (IsS74.ge HI446.out))|exact HB.out)) hb);have n2_ := Aside0.mk (hbox);have n3_ := Aside0.mk ((by rw [hg];exact (below_size (by repeat (first|(with_reducible first|exact HB.out|apply lA|apply lN|apply lD|refine below_set ?_ (IsS74.ge HI446.out))|exact HB.out))) : w.heap.size ≤ gb452));have n4_ := Aside0.mk ((by rw [hg];exact (below_size (by repeat (first|(with_reducible first|exact HB.out|apply lA|apply lN|apply lD|refine below_set ?_ (IsS74.ge HI446.out))|exact HB.out))) : w.heap.size ≤ gb452));have n5_ := Aside0.mk ((by rw [hg];exact Nat.ne_of_lt (IsS74.lt (show IsS74 w _ gb446 l0 t450 t451 from by repeat (first|(with_reducible first|exact HI446.out|apply IsS74.alloc|apply IsS74.drewN|apply IsS74.drew|apply IsS74.set_1|apply IsS74.set_2)|exact HI446.out))) : gb446 ≠ gb452));have n6_ := Aside0.mk ((by rw [hg];exact Nat.ne_of_gt (IsS74.lt (show IsS74 w _ gb446 l0 t450 t451 from by repeat (first|(with_reducible first|exact HI446.out|apply IsS74.alloc|apply IsS74.drewN|apply IsS74.drew|apply IsS74.set_1|apply IsS74.set_2)|exact HI446.out))) : gb452 ≠ gb446));clear HI446;clear HB;have HI446 := n0_;have HB := n1_;have BK452 := n2_;have GW452 := n3_;have GE452 := n4_;have NB446_452 := n5_;have NB452_446 := n6_;clear n0_ n1_ n2_ n3_ n4_ n5_ n6_;clear hb hbox hg;have hnb10 := NB452_446.out;have hnc10 := NB446_452.out;have hcz11_0 : w9.cell? ⟨gb452,0,none⟩ = some (.string (⟨#[]⟩ : ByteArray)) := (blk_cell BK452.out 0).trans rfl;have hcz11_1 : w9.cell? ⟨gb452,1,none⟩ = some (.string (⟨#[]⟩ : ByteArray)) := (blk_cell BK452.out 1).trans rfl;have hcz11_2 : w9.cell? ⟨gb452,2,none⟩ = some (.int .i64 0) := (blk_cell BK452.out 2).trans rfl;have hfz11_0 := blk_frozen BK452.out 0;have hfz11_1 := blk_frozen BK452.out 1;have hfz11_2 := blk_frozen BK452.out 2)|((with_reducible refine gate_callee (f := 54) rfl ?_);refine goesL_ (some 17) rfl rfl Tryd.func54 (by kernel_rfl) rfl #[.pointer (some ⟨gb446,0,none⟩),.int .i64 4] rfl (by (try simp only [List.map_toArray,List.map_cons,List.map_nil]);first|done|rfl|(simp only [List.length_drop,List.length_take];rfl)) ?_;(with_reducible refine (spec_l1Cur_pick.calls gb446 l0 t450 t451 4 t453 t454 t455 w _ ?side1 ?side2 A5.out).mono ?_);(case side1 => repeat (first|(with_reducible first|exact HI446.out|apply IsS74.alloc|apply IsS74.drewN|apply IsS74.drew|apply IsS74.set_1|apply IsS74.set_2|refine IsS74.far ?_ NB446_452.out _)|exact HI446.out));(case side2 => repeat (first|(with_reducible first|exact HB.out|apply lA|apply lN|apply lD|refine below_set ?_ (IsS74.ge HI446.out)|refine below_set ?_ GE452.out)|exact HB.out));rintro e w12 ⟨rfl,hi,hb,hk⟩;refine ⟨_,rfl,?_⟩;have n0_ := Aside0.mk (KeepBut.blk hk (g' := gb452) (o := .cells #[.string t447,.string t448,.int .i64 t449] 31 (0,0)) (by (with_reducible repeat (first|refine bN ?_ _|refine bD ?_|refine bA ?_ _));refine blk_put (cs := #[.string t447,.string t448,.int .i64 0]) ?_ 2 _ rfl;(with_reducible repeat (first|refine bN ?_ _|refine bD ?_|refine bA ?_ _));refine blk_put (cs := #[.string t447,.string (⟨#[]⟩ : ByteArray),.int .i64 0]) ?_ 1 _ rfl;(with_reducible repeat (first|refine bN ?_ _|refine bD ?_|refine bA ?_ _));refine blk_put (cs := #[.string (⟨#[]⟩ : ByteArray),.string (⟨#[]⟩ : ByteArray),.int .i64 0]) ?_ 0 _ rfl;(with_reducible repeat (first|refine bN ?_ _|refine bD ?_|refine bA ?_ _));exact BK452.out) NB452_446.out (by simp));have n1_ := Aside0.mk (hb);have n2_ := Aside0.mk (hi);clear BK452;clear HB;clear HI446;have BK452 := n0_;have HB := n1_;have HI446 := n2_;clear n0_ n1_ n2_;(try clear hb);(try clear hb2);(try clear hk);(try clear hi)))
  (try simp only [Act.put,List.setIfInBounds_toArray,List.set_cons_zero,List.set_cons_succ])
  go_cut [5] (fun v5 wc => ∃ (kq : Nat) (x5_5 : ByteArray) (x447001_5 : Int) (x447002_5 : Int),v5 = .string x5_5 ∧ Aside0 (spec_DrawRecoverLog.j0 kq x5_5 l0 x447001_5 x447002_5 = some r) ∧ Aside0 (kq ≤ k) ∧ Aside0 (wc.heap[gb452]? = some (.cells #[.string t447,.string t448,.int .i64 t449] 31 (0,0))) ∧ Aside0 (IsS74 w wc gb446 l0 x447001_5 x447002_5) ∧ Aside0 (Below w.heap.size w wc))
  case first =>
   have H := HC6.out
   clear HC6
   by_cases c13 : t453 = 0
   ·rw [if_pos c13] at H
    have c13b0 : (t453 == 0) = true := beq_iff_eq.mpr c13
    have c13b1 : (t453 != 0) = false := bne_eq_false_iff_eq.mpr c13
    clear c13
    (first|rw [c13b0]|(simp only [i64_w,i32_w];rw [c13b0])|skip)
    replace H := Option.bind_eq_some_iff.mp H
    obtain ⟨⟨t456,t457,t458⟩,A140,H⟩ := H
    replace H : (spec_DrawRecoverLog.j0 k t456 l0 t457 t458) = some r := H
    have A14 := Aside0.mk A140
    clear A140
    have H' := Aside0.mk H
    clear H
    go_wp2_with (first|((with_reducible refine gate_callee (f := 60) rfl ?_);refine goesL_ (some 22) rfl rfl Tryd.func60 (by kernel_rfl) rfl #[.pointer (some ⟨gb446,0,none⟩),.string sj4,.string (⟨#[35,64,10,48,49]⟩ : ByteArray)] rfl (by (try simp only [List.map_toArray,List.map_cons,List.map_nil]);first|done|rfl|(simp only [List.length_drop,List.length_take];rfl)) ?_;(with_reducible refine (spec_l1Cur_spoilt.calls gb446 l0 t454 t455 sj4 (⟨#[35,64,10,48,49]⟩ : ByteArray) t456 t457 t458 w _ ?side1 ?side2 A14.out).mono ?_);(case side1 => repeat (first|(with_reducible first|exact HI446.out|apply IsS74.alloc|apply IsS74.drewN|apply IsS74.drew|apply IsS74.set_1|apply IsS74.set_2|refine IsS74.far ?_ NB446_452.out _)|exact HI446.out));(case side2 => repeat (first|(with_reducible first|exact HB.out|apply lA|apply lN|apply lD|refine below_set ?_ (IsS74.ge HI446.out)|refine below_set ?_ GE452.out)|exact HB.out));rintro e w15 ⟨rfl,hi,hb,hk⟩;refine ⟨_,rfl,?_⟩;have n0_ := Aside0.mk (KeepBut.blk hk (g' := gb452) (o := .cells #[.string t447,.string t448,.int .i64 t449] 31 (0,0)) (by (with_reducible repeat (first|refine bN ?_ _|refine bD ?_|refine bA ?_ _));exact BK452.out) NB452_446.out (by simp));have n1_ := Aside0.mk (hb);have n2_ := Aside0.mk (hi);clear BK452;clear HB;clear HI446;have BK452 := n0_;have HB := n1_;have HI446 := n2_;clear n0_ n1_ n2_;(try clear hb);(try clear hb2);(try clear hk);(try clear hi)))
    go_meet
    case rel => exact ⟨_,(t456),(t457),(t458),(by first|rfl|(simp;done)|(simp [my_isEmpty];done)|(simp [*];done)),H',⟨by first|omega|exact Nat.le_refl _⟩,⟨by (with_reducible repeat (first|refine bN ?_ _|refine bD ?_|refine bA ?_ _));exact BK452.out⟩,⟨by repeat (first|(with_reducible first|exact HI446.out|apply IsS74.alloc|apply IsS74.drewN|apply IsS74.drew|apply IsS74.set_1|apply IsS74.set_2|refine IsS74.far ?_ NB446_452.out _)|exact HI446.out)⟩,⟨by repeat (first|(with_reducible first|exact HB.out|apply lA|apply lN|apply lD|refine below_set ?_ (IsS74.ge HI446.out)|refine below_set ?_ GE452.out)|exact HB.out)⟩⟩
   ·rw [if_neg c13] at H
    have c13b0 : (t453 == 0) = false := beq_eq_false_iff_ne.mpr c13
    have c13b1 : (t453 != 0) = true := bne_iff_ne.mpr c13
    (first|rw [c13b0]|(simp only [i64_w,i32_w];rw [c13b0])|skip)
    by_cases c16 : t453 = 1
    ·rw [if_pos c16] at H
     have c16b0 : (t453 == 1) = true := beq_iff_eq.mpr c16
     have c16b1 : (t453 != 1) = false := bne_eq_false_iff_eq.mpr c16
     clear c16
     replace H := Option.bind_eq_some_iff.mp H
     obtain ⟨⟨t459,t460,t461⟩,A170,H⟩ := H
     replace H : (if 0 ≤ t459 then (if t459 ≤ (sj4.size : Int) then (spec_DrawRecoverLog.j0 k (sj4.extract 0 (t459 : Int).toNat) l0 t460 t461) else (none)) else (none)) = some r := H
     have A17 := Aside0.mk A170
     clear A170
     by_cases c18 : 0 ≤ t459
     ·rw [if_pos c18] at H
      have c18b0 := eq_true c18
      have c18b1 : decide (0 ≤ t459) = true := decide_eq_true c18
      clear c18
      by_cases c19 : t459 ≤ (sj4.size : Int)
      ·rw [if_pos c19] at H
       have c19b0 := eq_true c19
       have c19b1 : decide (t459 ≤ (sj4.size : Int)) = true := decide_eq_true c19
       clear c19
       have H' := Aside0.mk H
       clear H
       go_wp2_with (first|((with_reducible refine gate_callee (f := 54) rfl ?_);refine goesL_ (some 30) rfl rfl Tryd.func54 (by kernel_rfl) rfl #[.pointer (some ⟨gb446,0,none⟩),.int .i64 (wrap64 ((sj4.size : Int) + 1))] rfl (by (try simp only [List.map_toArray,List.map_cons,List.map_nil]);first|done|rfl|(simp only [List.length_drop,List.length_take];rfl)) ?_;(with_reducible refine (spec_l1Cur_pick.calls gb446 l0 t454 t455 (wrap64 ((sj4.size : Int) + 1)) t459 t460 t461 w _ ?side1 ?side2 A17.out).mono ?_);(case side1 => repeat (first|(with_reducible first|exact HI446.out|apply IsS74.alloc|apply IsS74.drewN|apply IsS74.drew|apply IsS74.set_1|apply IsS74.set_2|refine IsS74.far ?_ NB446_452.out _)|exact HI446.out));(case side2 => repeat (first|(with_reducible first|exact HB.out|apply lA|apply lN|apply lD|refine below_set ?_ (IsS74.ge HI446.out)|refine below_set ?_ GE452.out)|exact HB.out));rintro e w20 ⟨rfl,hi,hb,hk⟩;refine ⟨_,rfl,?_⟩;have n0_ := Aside0.mk (KeepBut.blk hk (g' := gb452) (o := .cells #[.string t447,.string t448,.int .i64 t449] 31 (0,0)) (by (with_reducible repeat (first|refine bN ?_ _|refine bD ?_|refine bA ?_ _));exact BK452.out) NB452_446.out (by simp));have n1_ := Aside0.mk (hb);have n2_ := Aside0.mk (hi);clear BK452;clear HB;clear HI446;have BK452 := n0_;have HB := n1_;have HI446 := n2_;clear n0_ n1_ n2_;(try clear hb);(try clear hb2);(try clear hk);(try clear hi)))
       go_meet
       case rel => exact ⟨_,(sj4.extract 0 (t459 : Int).toNat),(t460),(t461),(by first|rfl|(simp;done)|(simp [my_isEmpty];done)|(simp only [← hsj4] <;> (first|rfl|simp))|(simp [*];done)),H',⟨by first|omega|exact Nat.le_refl _⟩,⟨by (with_reducible repeat (first|refine bN ?_ _|refine bD ?_|refine bA ?_ _));exact BK452.out⟩,⟨by repeat (first|(with_reducible first|exact HI446.out|apply IsS74.alloc|apply IsS74.drewN|apply IsS74.drew|apply IsS74.set_1|apply IsS74.set_2|refine IsS74.far ?_ NB446_452.out _)|exact HI446.out)⟩,⟨by repeat (first|(with_reducible first|exact HB.out|apply lA|apply lN|apply lD|refine below_set ?_ (IsS74.ge HI446.out)|refine below_set ?_ GE452.out)|exact HB.out)⟩⟩
      ·rw [if_neg c19] at H
       exact absurd H (by simp)
     ·rw [if_neg c18] at H
      exact absurd H (by simp)
    ·rw [if_neg c16] at H
     have c16b0 : (t453 == 1) = false := beq_eq_false_iff_ne.mpr c16
     have c16b1 : (t453 != 1) = true := bne_iff_ne.mpr c16
     by_cases c21 : t453 = 2
     ·rw [if_pos c21] at H
      have c21b0 : (t453 == 2) = true := beq_iff_eq.mpr c21
      have c21b1 : (t453 != 2) = false := bne_eq_false_iff_eq.mpr c21
      clear c21
      replace H := Option.bind_eq_some_iff.mp H
      obtain ⟨⟨t462,t463,t464⟩,A220,H⟩ := H
      replace H : ((spec_l1Cur_logRecord.f l0 t463 t464).bind fun bt465 => ((spec_l26Line.f k t462 bt465.1 bt465.2.1).bind fun t469 => (if sj4.size + t469.size ≤ 9223372036854775807 then (spec_DrawRecoverLog.j0 k (sj4 ++ t469) l0 bt465.2.2.1 bt465.2.2.2) else (none)))) = some r := H
      have A22 := Aside0.mk A220
      clear A220
      replace H := Option.bind_eq_some_iff.mp H
      obtain ⟨⟨t465,t466,t467,t468⟩,A230,H⟩ := H
      replace H : ((spec_l26Line.f k t462 t465 t466).bind fun t469 => (if sj4.size + t469.size ≤ 9223372036854775807 then (spec_DrawRecoverLog.j0 k (sj4 ++ t469) l0 t467 t468) else (none))) = some r := H
      have A23 := Aside0.mk A230
      clear A230
      replace H := Option.bind_eq_some_iff.mp H
      obtain ⟨t469,A240,H⟩ := H
      replace H : (if sj4.size + t469.size ≤ 9223372036854775807 then (spec_DrawRecoverLog.j0 k (sj4 ++ t469) l0 t467 t468) else (none)) = some r := H
      have A24 := Aside0.mk A240
      clear A240
      by_cases c25 : sj4.size + t469.size ≤ 9223372036854775807
      ·rw [if_pos c25] at H
       have c25b0 := eq_true c25
       have c25b1 : decide (sj4.size + t469.size ≤ 9223372036854775807) = true := decide_eq_true c25
       try have c25b2 : (9223372036854775807 < sj4.size + t469.size) = False := eq_false (Nat.not_lt.2 c25)
       have H' := Aside0.mk H
       clear H
       go_wp2_with (first|((with_reducible refine gate_callee (f := 54) rfl ?_);refine goesL_ (some 36) rfl rfl Tryd.func54 (by kernel_rfl) rfl #[.pointer (some ⟨gb446,0,none⟩),.int .i64 4] rfl (by (try simp only [List.map_toArray,List.map_cons,List.map_nil]);first|done|rfl|(simp only [List.length_drop,List.length_take];rfl)) ?_;(with_reducible refine (spec_l1Cur_pick.calls gb446 l0 t454 t455 4 t462 t463 t464 w _ ?side1 ?side2 A22.out).mono ?_);(case side1 => repeat (first|(with_reducible first|exact HI446.out|apply IsS74.alloc|apply IsS74.drewN|apply IsS74.drew|apply IsS74.set_1|apply IsS74.set_2|refine IsS74.far ?_ NB446_452.out _)|exact HI446.out));(case side2 => repeat (first|(with_reducible first|exact HB.out|apply lA|apply lN|apply lD|refine below_set ?_ (IsS74.ge HI446.out)|refine below_set ?_ GE452.out)|exact HB.out));rintro e w26 ⟨rfl,hi,hb,hk⟩;refine ⟨_,rfl,?_⟩;have n0_ := Aside0.mk (KeepBut.blk hk (g' := gb452) (o := .cells #[.string t447,.string t448,.int .i64 t449] 31 (0,0)) (by (with_reducible repeat (first|refine bN ?_ _|refine bD ?_|refine bA ?_ _));exact BK452.out) NB452_446.out (by simp));have n1_ := Aside0.mk (hb);have n2_ := Aside0.mk (hi);clear BK452;clear HB;clear HI446;have BK452 := n0_;have HB := n1_;have HI446 := n2_;clear n0_ n1_ n2_;(try clear hb);(try clear hb2);(try clear hk);(try clear hi))|((with_reducible refine gate_callee (f := 55) rfl ?_);refine goesL_ (some 38) rfl rfl Tryd.func55 (by kernel_rfl) rfl #[.pointer (some ⟨gb446,0,none⟩)] rfl (by (try simp only [List.map_toArray,List.map_cons,List.map_nil]);first|done|rfl|(simp only [List.length_drop,List.length_take];rfl)) ?_;(with_reducible refine (spec_l1Cur_logRecord.calls gb446 l0 t463 t464 t465 t466 t467 t468 w _ ?side1 ?side2 A23.out).mono ?_);(case side1 => repeat (first|(with_reducible first|exact HI446.out|apply IsS74.alloc|apply IsS74.drewN|apply IsS74.drew|apply IsS74.set_1|apply IsS74.set_2|refine IsS74.far ?_ NB446_452.out _)|exact HI446.out));(case side2 => repeat (first|(with_reducible first|exact HB.out|apply lA|apply lN|apply lD|refine below_set ?_ (IsS74.ge HI446.out)|refine below_set ?_ GE452.out)|exact HB.out));rintro e w27 ⟨rfl,hi,hb,hk⟩;refine ⟨_,rfl,?_⟩;have n0_ := Aside0.mk (KeepBut.blk hk (g' := gb452) (o := .cells #[.string t447,.string t448,.int .i64 t449] 31 (0,0)) (by (with_reducible repeat (first|refine bN ?_ _|refine bD ?_|refine bA ?_ _));exact BK452.out) NB452_446.out (by simp));have n1_ := Aside0.mk (hb);have n2_ := Aside0.mk (hi);clear BK452;clear HB;clear HI446;have BK452 := n0_;have HB := n1_;have HI446 := n2_;clear n0_ n1_ n2_;(try clear hb);(try clear hb2);(try clear hk);(try clear hi))|((with_reducible refine gate_callee (f := 44) rfl ?_);refine goesL_ (some 39) rfl rfl Tryd.func44 (by kernel_rfl) rfl #[.int .i64 t462,.agg #[.string t465,.string t466]] rfl (by (try simp only [List.map_toArray,List.map_cons,List.map_nil]);first|done|rfl|(simp only [List.length_drop,List.length_take];rfl)) ?_;(with_reducible refine (spec_l26Line.calls k t462 t465 t466 t469 _ A24.out).mono ?_);rintro e w28 ⟨rfl,hb⟩;refine ⟨_,rfl,?_⟩;have n0_ := Aside0.mk (IsS74.below (by repeat (first|(with_reducible first|exact HI446.out|apply IsS74.alloc|apply IsS74.drewN|apply IsS74.drew|apply IsS74.set_1|apply IsS74.set_2|refine IsS74.far ?_ NB446_452.out _)|exact HI446.out)) hb);have n1_ := Aside0.mk (blk_below (g := gb452) (o := .cells #[.string t447,.string t448,.int .i64 t449] 31 (0,0)) (by (with_reducible repeat (first|refine bN ?_ _|refine bD ?_|refine bA ?_ _));exact BK452.out) hb);have n2_ := Aside0.mk (below_step (by repeat (first|(with_reducible first|exact HB.out|apply lA|apply lN|apply lD|refine below_set ?_ (IsS74.ge HI446.out)|refine below_set ?_ GE452.out)|exact HB.out)) hb);clear HI446;clear BK452;clear HB;have HI446 := n0_;have BK452 := n1_;have HB := n2_;clear n0_ n1_ n2_;(try clear hb);(try clear hb2);(try clear hk);(try clear hi)))
       go_meet
       case rel => exact ⟨_,(sj4 ++ t469),(t467),(t468),(by first|rfl|(simp;done)|(simp [my_isEmpty];done)|(simp only [← hsj4] <;> (first|rfl|simp))|(simp [*];done)),H',⟨by first|omega|exact Nat.le_refl _⟩,⟨by (with_reducible repeat (first|refine bN ?_ _|refine bD ?_|refine bA ?_ _));exact BK452.out⟩,⟨by repeat (first|(with_reducible first|exact HI446.out|apply IsS74.alloc|apply IsS74.drewN|apply IsS74.drew|apply IsS74.set_1|apply IsS74.set_2|refine IsS74.far ?_ NB446_452.out _)|exact HI446.out)⟩,⟨by repeat (first|(with_reducible first|exact HB.out|apply lA|apply lN|apply lD|refine below_set ?_ (IsS74.ge HI446.out)|refine below_set ?_ GE452.out)|exact HB.out)⟩⟩
      ·rw [if_neg c25] at H
       exact absurd H (by simp)
     ·rw [if_neg c21] at H
      have c21b0 : (t453 == 2) = false := beq_eq_false_iff_ne.mpr c21
      have c21b1 : (t453 != 2) = true := bne_iff_ne.mpr c21
      have H' := Aside0.mk H
      clear H
      go_wp2
      go_meet
      case rel => exact ⟨_,(sj4),(t454),(t455),(by first|rfl|(simp;done)|(simp [my_isEmpty];done)|(simp only [← hsj4] <;> (first|rfl|simp))|(simp [*];done)),H',⟨by first|omega|exact Nat.le_refl _⟩,⟨by (with_reducible repeat (first|refine bN ?_ _|refine bD ?_|refine bA ?_ _));exact BK452.out⟩,⟨by repeat (first|(with_reducible first|exact HI446.out|apply IsS74.alloc|apply IsS74.drewN|apply IsS74.drew|apply IsS74.set_1|apply IsS74.set_2|refine IsS74.far ?_ NB446_452.out _)|exact HI446.out)⟩,⟨by repeat (first|(with_reducible first|exact HB.out|apply lA|apply lN|apply lD|refine below_set ?_ (IsS74.ge HI446.out)|refine below_set ?_ GE452.out)|exact HB.out)⟩⟩
  case rest =>
   clear HC6
   try clear c1
   try clear c2
   try clear p2
   try clear c3
   try clear c3b0
   try clear c3b1
   try clear c3b2
   try clear c4
   try clear c5
   try clear c6
   try clear p6
   try clear c10
   try clear c13
   try clear c13b0
   try clear c13b1
   try clear c16
   try clear c16b0
   try clear c16b1
   try clear c18
   try clear c18b0
   try clear c18b1
   try clear c19
   try clear c19b0
   try clear c19b1
   try clear c21
   try clear c21b0
   try clear c21b1
   try clear c25
   try clear c25b0
   try clear c25b1
   try clear c25b2
   try clear hcz11_0
   try clear hcz11_1
   try clear hcz11_2
   try clear hfz11_0
   try clear hfz11_1
   try clear hfz11_2
   obtain ⟨kq,x5_5,x447001_5,x447002_5,rfl,HA,HJ5,BK452,HI446,HB⟩ := hcut
   cases kq with
   | zero => exact absurd HA.out (by simp [spec_DrawRecoverLog.j0])
   | succ kj5 =>
    have H := HA.out
    clear HA
    simp only [spec_DrawRecoverLog.j0] at H
    replace H := Option.bind_eq_some_iff.mp H
    obtain ⟨⟨t470,t471,t472⟩,A290,H⟩ := H
    replace H : (if t470 = true then ((spec_l1Cur_pick.f l0 t471 t472 2).bind fun bt473 => (if 0 ≤ (wrap64 (30000 + bt473.1)) then (if (wrap64 (30000 + bt473.1) : Int).toNat ≤ 281474976710656 then (some (strOfNums (List.replicate (wrap64 (30000 + bt473.1) : Int).toNat 0))) else (none)) else (none))) else (some x5_5)) = some r := H
    have A29 := Aside0.mk A290
    clear A290
    by_cases c30 : t470 = true
    ·subst c30
     have H1 : ((spec_l1Cur_pick.f l0 t471 t472 2).bind fun bt473 => (if 0 ≤ (wrap64 (30000 + bt473.1)) then (if (wrap64 (30000 + bt473.1) : Int).toNat ≤ 281474976710656 then (some (strOfNums (List.replicate (wrap64 (30000 + bt473.1) : Int).toNat 0))) else (none)) else (none))) = some r := by rw [if_pos rfl] at H;exact H
     clear H
     have H := H1
     clear H1
     replace H := Option.bind_eq_some_iff.mp H
     obtain ⟨⟨t473,t474,t475⟩,A310,H⟩ := H
     replace H : (if 0 ≤ (wrap64 (30000 + t473)) then (if (wrap64 (30000 + t473) : Int).toNat ≤ 281474976710656 then (some (strOfNums (List.replicate (wrap64 (30000 + t473) : Int).toNat 0))) else (none)) else (none)) = some r := H
     have A31 := Aside0.mk A310
     clear A310
     obtain ⟨ji32,hji32⟩ : ∃ j_ : Int,(wrap64 (30000 + t473)) = j_ := ⟨_,rfl⟩
     replace H : (if 0 ≤ (ji32) then (if (ji32 : Int).toNat ≤ 281474976710656 then (some (strOfNums (List.replicate (ji32 : Int).toNat 0))) else (none)) else (none)) = some r := by first|(rw [hji32] at H;exact H)|(simp only [hji32] at H ⊢;exact H)
     (try rw [hji32] at A29)
     (try rw [hji32] at A31)
     have hji32w : (IntKind.i64.wrap (30000 + t473)) = ji32 := (i64_w _).trans hji32
     by_cases c33 : 0 ≤ (ji32)
     ·rw [if_pos c33] at H
      have c33b0 := eq_true c33
      have c33b1 : decide (0 ≤ (ji32)) = true := decide_eq_true c33
      clear c33
      by_cases c34 : (ji32 : Int).toNat ≤ 281474976710656
      ·rw [if_pos c34] at H
       have c34b0 := eq_true c34
       have c34b1 : decide ((ji32 : Int).toNat ≤ 281474976710656) = true := decide_eq_true c34
       clear c34
       obtain ⟨y476,hy476⟩ : ∃ y_ : List Int,y_ = (List.replicate (ji32 : Int).toNat 0) := ⟨_,rfl⟩
       replace H : (some (strOfNums y476)) = some r := by first|(rw [hy476];with_reducible exact H)|(have H2_ := (Option.bind_some _ _).symm.trans H;rw [hy476];with_reducible exact H2_)|(have H2_ := (Option.bind_some _ _).symm.trans H;with_reducible exact H2_)|with_reducible exact H|(rw [hy476];exact H)|exact H
       have Ny476 := Aside0.mk hy476
       clear hy476
       obtain rfl := Option.some.inj H
       simp only [Option.some.injEq,Prod.mk.injEq] at H
       obtain ⟨rfl⟩ := H
       go_wp2_with (first|((with_reducible refine gate_callee (f := 53) rfl ?_);refine goesL_ (some 42) rfl rfl Tryd.func53 (by kernel_rfl) rfl #[.pointer (some ⟨gb446,0,none⟩),.int .i64 40] rfl (by (try simp only [List.map_toArray,List.map_cons,List.map_nil]);first|done|rfl|(simp only [List.length_drop,List.length_take];rfl)) ?_;(with_reducible refine (spec_l1Cur_one.calls gb446 l0 x447001_5 x447002_5 40 true t471 t472 w _ ?side1 ?side2 A29.out).mono ?_);(case side1 => repeat (first|(with_reducible first|exact HI446.out|apply IsS74.alloc|apply IsS74.drewN|apply IsS74.drew|apply IsS74.set_1|apply IsS74.set_2|refine IsS74.far ?_ NB446_452.out _)|exact HI446.out));(case side2 => repeat (first|(with_reducible first|exact HB.out|apply lA|apply lN|apply lD|refine below_set ?_ (IsS74.ge HI446.out)|refine below_set ?_ GE452.out)|exact HB.out));rintro e w35 ⟨rfl,hi,hb,hk⟩;refine ⟨_,rfl,?_⟩;have n0_ := Aside0.mk (KeepBut.blk hk (g' := gb452) (o := .cells #[.string t447,.string t448,.int .i64 t449] 31 (0,0)) (by (with_reducible repeat (first|refine bN ?_ _|refine bD ?_|refine bA ?_ _));exact BK452.out) NB452_446.out (by simp));have n1_ := Aside0.mk (hb);have n2_ := Aside0.mk (hi);clear BK452;clear HB;clear HI446;have BK452 := n0_;have HB := n1_;have HI446 := n2_;clear n0_ n1_ n2_;(try clear hb);(try clear hb2);(try clear hk);(try clear hi))|((with_reducible refine gate_callee (f := 54) rfl ?_);refine goesL_ (some 44) rfl rfl Tryd.func54 (by kernel_rfl) rfl #[.pointer (some ⟨gb446,0,none⟩),.int .i64 2] rfl (by (try simp only [List.map_toArray,List.map_cons,List.map_nil]);first|done|rfl|(simp only [List.length_drop,List.length_take];rfl)) ?_;(with_reducible refine (spec_l1Cur_pick.calls gb446 l0 t471 t472 2 t473 t474 t475 w _ ?side1 ?side2 A31.out).mono ?_);(case side1 => repeat (first|(with_reducible first|exact HI446.out|apply IsS74.alloc|apply IsS74.drewN|apply IsS74.drew|apply IsS74.set_1|apply IsS74.set_2|refine IsS74.far ?_ NB446_452.out _)|exact HI446.out));(case side2 => repeat (first|(with_reducible first|exact HB.out|apply lA|apply lN|apply lD|refine below_set ?_ (IsS74.ge HI446.out)|refine below_set ?_ GE452.out)|exact HB.out));rintro e w36 ⟨rfl,hi,hb,hk⟩;refine ⟨_,rfl,?_⟩;have n0_ := Aside0.mk (KeepBut.blk hk (g' := gb452) (o := .cells #[.string t447,.string t448,.int .i64 t449] 31 (0,0)) (by (with_reducible repeat (first|refine bN ?_ _|refine bD ?_|refine bA ?_ _));exact BK452.out) NB452_446.out (by simp));have n1_ := Aside0.mk (hb);have n2_ := Aside0.mk (hi);clear BK452;clear HB;clear HI446;have BK452 := n0_;have HB := n1_;have HI446 := n2_;clear n0_ n1_ n2_;(try clear hb);(try clear hb2);(try clear hk);(try clear hi))|((with_reducible refine gate_dst (N := 46) rfl ?_);refine Kd.R_make (Kd.int .u8) _ 5 rfl (N := 46) rfl 53 _ _ rfl ji32 rfl rfl Tryd.underlying53 (.int .u8 0) 1 info5 rfl (by decide) (by omega) 0 (ok := fun _ => True) (okp := fun _ => True) rfl (fun _ hk => hk) trivial (of_decide_eq_true (by first|(with_reducible assumption)|assumption)) (Nat.le_trans (Nat.mul_le_mul_right _ (of_decide_eq_true (by first|(with_reducible assumption)|assumption) : ji32.toNat ≤ 281474976710656)) (by omega)) (Below.refl _ _) (Nat.le_refl _) ?_;intro v477 w37 ho38 hb hg_ hnew_;clear hg_ hnew_;(first|rw [← Ny476.out] at ho38|(simp only [Int.reduceToNat] at ho38;rw [← Ny476.out] at ho38));have n0_ := Aside0.mk (Kd.R_lower ho38 (below_size (by repeat (first|(with_reducible first|exact HB.out|apply lA|apply lN|apply lD|refine below_set ?_ (IsS74.ge HI446.out)|refine below_set ?_ GE452.out)|exact HB.out))));have n1_ := Aside0.mk (blk_below (g := gb452) (o := .cells #[.string t447,.string t448,.int .i64 t449] 31 (0,0)) (by (with_reducible repeat (first|refine bN ?_ _|refine bD ?_|refine bA ?_ _));exact BK452.out) hb);have n2_ := Aside0.mk (IsS74.below (by repeat (first|(with_reducible first|exact HI446.out|apply IsS74.alloc|apply IsS74.drewN|apply IsS74.drew|apply IsS74.set_1|apply IsS74.set_2|refine IsS74.far ?_ NB446_452.out _)|exact HI446.out)) hb);have n3_ := Aside0.mk (below_step (by repeat (first|(with_reducible first|exact HB.out|apply lA|apply lN|apply lD|refine below_set ?_ (IsS74.ge HI446.out)|refine below_set ?_ GE452.out)|exact HB.out)) hb);clear BK452;clear HI446;clear HB;have HO478 := n0_;have BK452 := n1_;have HI446 := n2_;have HB := n3_;clear n0_ n1_ n2_ n3_;clear hb ho38;have hcv39 := own_string (P := Tryd.prog) Tryd.underlying53 Tryd.underlying5 Tryd.underlying9 (Kd.own_of_R HO478.out)))
       go_ret
       exact ⟨by first|rfl|(simp [errW_none,errW_some] <;> rfl)|(simp only [← hsj4,← hji32];first|rfl|(simp [errW_none,errW_some] <;> rfl))|(simp [*,errW_none,errW_some] <;> rfl),by repeat (first|(with_reducible first|exact HB.out|apply lA|apply lN|apply lD|refine below_set ?_ (IsS74.ge HI446.out)|refine below_set ?_ GE452.out)|exact HB.out)⟩
      ·rw [if_neg c34] at H
       exact absurd H (by simp)
     ·rw [if_neg c33] at H
      exact absurd H (by simp)
    ·replace c30 := Bool.eq_false_iff.mpr c30
     subst c30
     have H1 : (some x5_5) = some r := by rw [if_neg (show ¬ (false = true) by decide)] at H;exact H
     clear H
     have H := H1
     clear H1
     obtain rfl := Option.some.inj H
     simp only [Option.some.injEq,Prod.mk.injEq] at H
     obtain ⟨rfl⟩ := H
     go_wp2_with (first|((with_reducible refine gate_callee (f := 53) rfl ?_);refine goesL_ (some 42) rfl rfl Tryd.func53 (by kernel_rfl) rfl #[.pointer (some ⟨gb446,0,none⟩),.int .i64 40] rfl (by (try simp only [List.map_toArray,List.map_cons,List.map_nil]);first|done|rfl|(simp only [List.length_drop,List.length_take];rfl)) ?_;(with_reducible refine (spec_l1Cur_one.calls gb446 l0 x447001_5 x447002_5 40 false t471 t472 w _ ?side1 ?side2 A29.out).mono ?_);(case side1 => repeat (first|(with_reducible first|exact HI446.out|apply IsS74.alloc|apply IsS74.drewN|apply IsS74.drew|apply IsS74.set_1|apply IsS74.set_2|refine IsS74.far ?_ NB446_452.out _)|exact HI446.out));(case side2 => repeat (first|(with_reducible first|exact HB.out|apply lA|apply lN|apply lD|refine below_set ?_ (IsS74.ge HI446.out)|refine below_set ?_ GE452.out)|exact HB.out));rintro e w40 ⟨rfl,hi,hb,hk⟩;refine ⟨_,rfl,?_⟩;have n0_ := Aside0.mk (KeepBut.blk hk (g' := gb452) (o := .cells #[.string t447,.string t448,.int .i64 t449] 31 (0,0)) (by (with_reducible repeat (first|refine bN ?_ _|refine bD ?_|refine bA ?_ _));exact BK452.out) NB452_446.out (by simp));have n1_ := Aside0.mk (hb);have n2_ := Aside0.mk (hi);clear BK452;clear HB;clear HI446;have BK452 := n0_;have HB := n1_;have HI446 := n2_;clear n0_ n1_ n2_;(try clear hb);(try clear hb2);(try clear hk);(try clear hi)))
     go_ret
     exact ⟨by first|rfl|(simp [errW_none,errW_some] <;> rfl)|(simp only [← hsj4];first|rfl|(simp [errW_none,errW_some] <;> rfl))|(simp [*,errW_none,errW_some] <;> rfl),by repeat (first|(with_reducible first|exact HB.out|apply lA|apply lN|apply lD|refine below_set ?_ (IsS74.ge HI446.out)|refine below_set ?_ GE452.out)|exact HB.out)⟩
 ·rw [if_neg c3] at H
  exact absurd H (by simp)
end Go.Proofs.YtinbbjfnebhlkaaDoor.P
