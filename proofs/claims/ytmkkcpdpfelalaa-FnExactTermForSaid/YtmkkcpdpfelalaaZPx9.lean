/- Written by a program in this session: each theorem here says that a Go function computes the Lean function beside it, or that a law's row holds, under the conditions that the theorem itself states. -/
import Derived.Test.YtmkkcpdpfelalaaZPx0
import Derived.Test.YtmkkcpdpfelalaaZPx1
import Derived.Test.YtmkkcpdpfelalaaZPx3
import Derived.Test.YtmkkcpdpfelalaaZPx7
import Derived.Test.YtmkkcpdpfelalaaZPx8
namespace Go.Proofs.Ytmkkcpdpfelalaa.P
open Go.RowKit Go.Proofs.YtmkkcpdpfelalaaW.PrintWords Go.Proofs.YtmkkcpdpfelalaaW.PrintLast Go.Proofs.YtmkkcpdpfelalaaW.PrintMore
attribute [local go_sem] max2_int min2_int max_two min_two max_three min_three max_four min_four   -- for this text's walks alone
set_option linter.unusedVariables false
set_option linter.unusedSimpArgs false
def laws_FnExactTermFor.j0 : Nat → Bool → ByteArray → List (S57) → List (S91) → ByteArray → ByteArray → ByteArray → List (S61) → List (S72) → ByteArray → ByteArray → Option (Bool)
 | 0,_,_,_,_,_,_,_,_,_,_,_ => none
 | k + 1,x45,x259000,x259001,x259002,x259003,x259004,x281000,x281001,x281002,x281003,x281004 => if x45 = true then (some false) else ((laws_toLocale.f k x259000 x259001 x259002 x259003 x259004).bind fun bt283 => ((laws_eqLocale.f k x281000 x281001 x281002 x281003 x281004 bt283.1 bt283.2.1 bt283.2.2.1 bt283.2.2.2.1 bt283.2.2.2.2).bind fun t292 => (if t292 = true then (some true) else (some false))))
def laws_FnExactTermFor.f (k : Nat) (a0_0 : ByteArray) (l0_1 : List (S57)) (l0_2 : List (S91)) (a0_3 : ByteArray) (a0_4 : ByteArray) (a1 : ByteArray) (a2 : Int) : Option (Bool) := if (a1.size : Int) > 1048576 then (some true) else ((laws_szLocale.f k a0_0 l0_1 l0_2 a0_3 a0_4 1048576).bind fun t259 => (if t259 < 0 then (some true) else ((laws_toLocale.f k a0_0 l0_1 l0_2 a0_3 a0_4).bind fun bt260 => ((spec_TermFor.f k bt260.1 bt260.2.1 bt260.2.2.1 bt260.2.2.2.1 bt260.2.2.2.2 a1 a2).bind fun bt269 => ((laws_toLocale.f k a0_0 l0_1 l0_2 a0_3 a0_4).bind fun bt271 => ((impl_TermFor.f k bt271.1 bt271.2.1 bt271.2.2.1 bt271.2.2.2.1 bt271.2.2.2.2 a1 a2).bind fun bt281 => (if bt281.1.toList = bt269.1.toList then (laws_FnExactTermFor.j0 k (bt281.2 != bt269.2) a0_0 l0_1 l0_2 a0_3 a0_4 bt271.1 bt271.2.1 bt271.2.2.1 bt271.2.2.2.1 bt271.2.2.2.2) else (laws_FnExactTermFor.j0 k true a0_0 l0_1 l0_2 a0_3 a0_4 bt271.1 bt271.2.1 bt271.2.2.1 bt271.2.2.2.1 bt271.2.2.2.2))))))))
theorem laws_FnExactTermFor.mono_l : ∀ k,(∀ y0 y1 y2 y3 y4 y5 y6 y7 y8 y9 y10,LeO (laws_FnExactTermFor.j0 k y0 y1 y2 y3 y4 y5 y6 y7 y8 y9 y10) (laws_FnExactTermFor.j0 (k + 1) y0 y1 y2 y3 y4 y5 y6 y7 y8 y9 y10))
 | 0 => fun _ _ _ _ _ _ _ _ _ _ _ r h => by simp [laws_FnExactTermFor.j0] at h
 | k + 1 => by
  have ih0 := laws_FnExactTermFor.mono_l k
  ·intro y0 y1 y2 y3 y4 y5 y6 y7 y8 y9 y10
   unfold laws_FnExactTermFor.j0
   repeat' first
   | (with_reducible exact ih0 _ _ _ _ _ _ _ _ _ _ _)
   | (with_reducible exact impl_TermFor.mono _ _ _ _ _ _ _ _)
   | (with_reducible exact laws_eqLocale.mono _ _ _ _ _ _ _ _ _ _ _)
   | (with_reducible exact laws_szLocale.mono _ _ _ _ _ _ _)
   | (with_reducible exact laws_toLocale.mono _ _ _ _ _ _)
   | (with_reducible exact spec_TermFor.mono _ _ _ _ _ _ _ _)
   | (with_reducible exact LeO.refl _)
   | (with_reducible exact LeO.none _)
   | (with_reducible refine LeO.ite ?_ ?_)
   | (with_reducible refine LeO.bind ?_ (fun _ => ?_))
   | exact ih0 _ _ _ _ _ _ _ _ _ _ _
   | exact impl_TermFor.mono _ _ _ _ _ _ _ _
   | exact laws_eqLocale.mono _ _ _ _ _ _ _ _ _ _ _
   | exact laws_szLocale.mono _ _ _ _ _ _ _
   | exact laws_toLocale.mono _ _ _ _ _ _
   | exact spec_TermFor.mono _ _ _ _ _ _ _ _
   | exact LeO.none _
   | refine LeO.ite ?_ ?_
   | refine LeO.bind ?_ (fun _ => ?_)
theorem laws_FnExactTermFor.mono : ∀ a0 a1 a2 a3 a4 a5 a6 k,LeO (laws_FnExactTermFor.f k a0 a1 a2 a3 a4 a5 a6) (laws_FnExactTermFor.f (k + 1) a0 a1 a2 a3 a4 a5 a6) := by
 intro a0 a1 a2 a3 a4 a5 a6 k
 have ih0 := laws_FnExactTermFor.mono_l k
 unfold laws_FnExactTermFor.f
 repeat' first
   | (with_reducible exact ih0 _ _ _ _ _ _ _ _ _ _ _)
   | (with_reducible exact impl_TermFor.mono _ _ _ _ _ _ _ _)
   | (with_reducible exact laws_eqLocale.mono _ _ _ _ _ _ _ _ _ _ _)
   | (with_reducible exact laws_szLocale.mono _ _ _ _ _ _ _)
   | (with_reducible exact laws_toLocale.mono _ _ _ _ _ _)
   | (with_reducible exact spec_TermFor.mono _ _ _ _ _ _ _ _)
   | (with_reducible exact LeO.refl _)
   | (with_reducible exact LeO.none _)
   | (with_reducible refine LeO.ite ?_ ?_)
   | (with_reducible refine LeO.bind ?_ (fun _ => ?_))
   | exact ih0 _ _ _ _ _ _ _ _ _ _ _
   | exact impl_TermFor.mono _ _ _ _ _ _ _ _
   | exact laws_eqLocale.mono _ _ _ _ _ _ _ _ _ _ _
   | exact laws_szLocale.mono _ _ _ _ _ _ _
   | exact laws_toLocale.mono _ _ _ _ _ _
   | exact spec_TermFor.mono _ _ _ _ _ _ _ _
   | exact LeO.none _
   | refine LeO.ite ?_ ?_
   | refine LeO.bind ?_ (fun _ => ?_)
set_option maxHeartbeats 8000000 in
set_option maxRecDepth 100000 in
theorem laws_FnExactTermFor.calls (k : Nat) (a0_0 : ByteArray) (A0_1 : Option Addr) (c0_1 : Nat) (l0_1 : List (S57)) (A0_2 : Option Addr) (c0_2 : Nat) (l0_2 : List (S91)) (a0_3 : ByteArray) (a0_4 : ByteArray) (a1 : ByteArray) (a2 : Int) (r : Bool) (w : World) (hr0_1 : Kd.C k57 w A0_1 l0_1.length l0_1) (hc0_1 : l0_1.length ≤ c0_1) (hr0_2 : Kd.C k91 w A0_2 l0_2.length l0_2) (hc0_2 : l0_2.length ≤ c0_2) (hr_ : r = true) (h : laws_FnExactTermFor.f k a0_0 l0_1 l0_2 a0_3 a0_4 a1 a2 = some r) :
  Calls Try.prog 4 #[.agg #[.string a0_0,.slice A0_1 l0_1.length c0_1,.slice A0_2 l0_2.length c0_2,.string a0_3,.string a0_4],.string a1,.int .i64 a2] w fun e w' => e = .returned (.bool r) ∧ Below w.heap.size w w' := by
 have hu25 := Try.underlying25
 have hu31 := Try.underlying31
 have HR0_1 := Aside0.mk hr0_1
 have HC0_1 := Aside0.mk hc0_1
 clear hr0_1 hc0_1
 have HR0_2 := Aside0.mk hr0_2
 have HC0_2 := Aside0.mk hc0_2
 clear hr0_2 hc0_2
 have HB := Aside0.mk (Below.refl w.heap.size w)
 have H : (if (a1.size : Int) > 1048576 then (some true) else ((laws_szLocale.f k a0_0 l0_1 l0_2 a0_3 a0_4 1048576).bind fun t259 => (if t259 < 0 then (some true) else ((laws_toLocale.f k a0_0 l0_1 l0_2 a0_3 a0_4).bind fun bt260 => ((spec_TermFor.f k bt260.1 bt260.2.1 bt260.2.2.1 bt260.2.2.2.1 bt260.2.2.2.2 a1 a2).bind fun bt269 => ((laws_toLocale.f k a0_0 l0_1 l0_2 a0_3 a0_4).bind fun bt271 => ((impl_TermFor.f k bt271.1 bt271.2.1 bt271.2.2.1 bt271.2.2.2.1 bt271.2.2.2.2 a1 a2).bind fun bt281 => (if bt281.1.toList = bt269.1.toList then (laws_FnExactTermFor.j0 k (bt281.2 != bt269.2) a0_0 l0_1 l0_2 a0_3 a0_4 bt271.1 bt271.2.1 bt271.2.2.1 bt271.2.2.2.1 bt271.2.2.2.2) else (laws_FnExactTermFor.j0 k true a0_0 l0_1 l0_2 a0_3 a0_4 bt271.1 bt271.2.1 bt271.2.2.1 bt271.2.2.2.1 bt271.2.2.2.2))))))))) = some r := h
 clear h
 by_cases c4 : (a1.size : Int) > 1048576
 ·rw [if_pos c4] at H
  have c4b0 : decide (1048576 < (a1.size : Int)) = true := decide_eq_true c4
  have c4b1 : decide (1048576 < a1.size) = true := decide_eq_true (by omega)
  clear c4
  obtain rfl := Option.some.inj H
  try clear hr_
  go_enter Try.func4,Try.ntmps4
  go_wp2_with (first|((with_reducible refine gate_dst (N := 3) rfl ?_);refine box_event ?hg (N := 3) ?hd (cs := #[.string a0_0,.slice A0_1 l0_1.length c0_1,.slice A0_2 l0_2.length c0_2,.string a0_3,.string a0_4]) (t := 25) ?hr ?_;(case hd => rfl);(case hg => rfl);(case hr => first|(go_simp;done)|(go_simp;rfl));intro gb258 hg w5 hbox hb;have n0_ := Aside0.mk (below_step (by repeat (first|(with_reducible first|exact HB.out|apply lA|apply lN|apply lD)|exact HB.out)) hb);have n1_ := Aside0.mk (hbox);have n2_ := Aside0.mk ((by rw [hg];exact (below_size (by repeat (first|(with_reducible first|exact HB.out|apply lA|apply lN|apply lD)|exact HB.out))) : w.heap.size ≤ gb258));have n3_ := Aside0.mk ((by rw [hg];exact (below_size (by repeat (first|(with_reducible first|exact HB.out|apply lA|apply lN|apply lD)|exact HB.out))) : w.heap.size ≤ gb258));clear HB;have HB := n0_;have BK258 := n1_;have GW258 := n2_;have GE258 := n3_;clear n0_ n1_ n2_ n3_;clear hb hbox hg))
  go_ret
  exact ⟨by first|rfl|(simp [errW_none,errW_some] <;> rfl)|(simp [*,errW_none,errW_some] <;> rfl),by repeat (first|(with_reducible first|exact HB.out|apply lA|apply lN|apply lD|refine below_set ?_ GE258.out)|exact HB.out)⟩
 ·rw [if_neg c4] at H
  have c4b0 : decide (1048576 < (a1.size : Int)) = false := decide_eq_false c4
  have c4b1 : decide (1048576 < a1.size) = false := decide_eq_false (by omega)
  clear c4
  replace H := Option.bind_eq_some_iff.mp H
  obtain ⟨t259,A60,H⟩ := H
  replace H : (if t259 < 0 then (some true) else ((laws_toLocale.f k a0_0 l0_1 l0_2 a0_3 a0_4).bind fun bt260 => ((spec_TermFor.f k bt260.1 bt260.2.1 bt260.2.2.1 bt260.2.2.2.1 bt260.2.2.2.2 a1 a2).bind fun bt269 => ((laws_toLocale.f k a0_0 l0_1 l0_2 a0_3 a0_4).bind fun bt271 => ((impl_TermFor.f k bt271.1 bt271.2.1 bt271.2.2.1 bt271.2.2.2.1 bt271.2.2.2.2 a1 a2).bind fun bt281 => (if bt281.1.toList = bt269.1.toList then (laws_FnExactTermFor.j0 k (bt281.2 != bt269.2) a0_0 l0_1 l0_2 a0_3 a0_4 bt271.1 bt271.2.1 bt271.2.2.1 bt271.2.2.2.1 bt271.2.2.2.2) else (laws_FnExactTermFor.j0 k true a0_0 l0_1 l0_2 a0_3 a0_4 bt271.1 bt271.2.1 bt271.2.2.1 bt271.2.2.2.1 bt271.2.2.2.2))))))) = some r := H
  have A6 := Aside0.mk A60
  clear A60
  by_cases c7 : t259 < 0
  ·rw [if_pos c7] at H
   have c7b0 : decide (t259 < 0) = true := decide_eq_true c7
   clear c7
   obtain rfl := Option.some.inj H
   try clear hr_
   go_enter Try.func4,Try.ntmps4
   go_wp2_with (first|((with_reducible refine gate_dst (N := 3) rfl ?_);refine box_event ?hg (N := 3) ?hd (cs := #[.string a0_0,.slice A0_1 l0_1.length c0_1,.slice A0_2 l0_2.length c0_2,.string a0_3,.string a0_4]) (t := 25) ?hr ?_;(case hd => rfl);(case hg => rfl);(case hr => first|(go_simp;done)|(go_simp;rfl));intro gb258 hg w8 hbox hb;have n0_ := Aside0.mk (below_step (by repeat (first|(with_reducible first|exact HB.out|apply lA|apply lN|apply lD)|exact HB.out)) hb);have n1_ := Aside0.mk (hbox);have n2_ := Aside0.mk ((by rw [hg];exact (below_size (by repeat (first|(with_reducible first|exact HB.out|apply lA|apply lN|apply lD)|exact HB.out))) : w.heap.size ≤ gb258));have n3_ := Aside0.mk ((by rw [hg];exact (below_size (by repeat (first|(with_reducible first|exact HB.out|apply lA|apply lN|apply lD)|exact HB.out))) : w.heap.size ≤ gb258));clear HB;have HB := n0_;have BK258 := n1_;have GW258 := n2_;have GE258 := n3_;clear n0_ n1_ n2_ n3_;clear hb hbox hg;have hcz9_0 : w8.cell? ⟨gb258,0,none⟩ = some (.string a0_0) := (blk_cell BK258.out 0).trans rfl;have hcz9_1 : w8.cell? ⟨gb258,1,none⟩ = some (.slice A0_1 l0_1.length c0_1) := (blk_cell BK258.out 1).trans rfl;have hcz9_2 : w8.cell? ⟨gb258,2,none⟩ = some (.slice A0_2 l0_2.length c0_2) := (blk_cell BK258.out 2).trans rfl;have hcz9_3 : w8.cell? ⟨gb258,3,none⟩ = some (.string a0_3) := (blk_cell BK258.out 3).trans rfl;have hcz9_4 : w8.cell? ⟨gb258,4,none⟩ = some (.string a0_4) := (blk_cell BK258.out 4).trans rfl;have hfz9_0 := blk_frozen BK258.out 0;have hfz9_1 := blk_frozen BK258.out 1;have hfz9_2 := blk_frozen BK258.out 2;have hfz9_3 := blk_frozen BK258.out 3;have hfz9_4 := blk_frozen BK258.out 4)|((with_reducible refine gate_callee (f := 9) rfl ?_);refine goesL_ (some 18) rfl rfl Try.func9 (by kernel_rfl) rfl #[.agg #[.string a0_0,.slice A0_1 l0_1.length c0_1,.slice A0_2 l0_2.length c0_2,.string a0_3,.string a0_4],.int .i64 1048576] rfl (by (try simp only [List.map_toArray,List.map_cons,List.map_nil]);first|done|rfl|(simp only [List.length_drop,List.length_take];rfl)) ?_;(with_reducible refine (laws_szLocale.calls k a0_0 _ _ l0_1 _ _ l0_2 a0_3 a0_4 1048576 t259 _ ?side1 ?side2 ?side3 ?side4 A6.out).mono ?_);(case side1 => repeat (first|exact (Kd.C_below HR0_1.out HB.out)|(with_reducible refine Kd.C_alloc ?_ _)|(with_reducible refine Kd.C_drewN ?_ _)|(with_reducible refine Kd.C_drew ?_)));(case side2 => exact HC0_1.out);(case side3 => repeat (first|exact (Kd.C_below HR0_2.out HB.out)|(with_reducible refine Kd.C_alloc ?_ _)|(with_reducible refine Kd.C_drewN ?_ _)|(with_reducible refine Kd.C_drew ?_)));(case side4 => exact HC0_2.out);rintro e w10 ⟨rfl,hb⟩;refine ⟨_,rfl,?_⟩;have n0_ := Aside0.mk (blk_below (g := gb258) (o := .cells #[.string a0_0,.slice A0_1 l0_1.length c0_1,.slice A0_2 l0_2.length c0_2,.string a0_3,.string a0_4] 25 (0,0)) (by (with_reducible repeat (first|refine bN ?_ _|refine bD ?_|refine bA ?_ _));exact BK258.out) hb);have n1_ := Aside0.mk (below_step (by repeat (first|(with_reducible first|exact HB.out|apply lA|apply lN|apply lD|refine below_set ?_ GE258.out)|exact HB.out)) hb);clear BK258;clear HB;have BK258 := n0_;have HB := n1_;clear n0_ n1_;(try clear hb);(try clear hb2);(try clear hk);(try clear hi)))
   go_ret
   exact ⟨by first|rfl|(simp [errW_none,errW_some] <;> rfl)|(simp [*,errW_none,errW_some] <;> rfl),by repeat (first|(with_reducible first|exact HB.out|apply lA|apply lN|apply lD|refine below_set ?_ GE258.out)|exact HB.out)⟩
  ·rw [if_neg c7] at H
   have c7b0 : decide (t259 < 0) = false := decide_eq_false c7
   clear c7
   replace H := Option.bind_eq_some_iff.mp H
   obtain ⟨⟨t260,t261,t264,t267,t268⟩,A110,H⟩ := H
   replace H : ((spec_TermFor.f k t260 t261 t264 t267 t268 a1 a2).bind fun bt269 => ((laws_toLocale.f k a0_0 l0_1 l0_2 a0_3 a0_4).bind fun bt271 => ((impl_TermFor.f k bt271.1 bt271.2.1 bt271.2.2.1 bt271.2.2.2.1 bt271.2.2.2.2 a1 a2).bind fun bt281 => (if bt281.1.toList = bt269.1.toList then (laws_FnExactTermFor.j0 k (bt281.2 != bt269.2) a0_0 l0_1 l0_2 a0_3 a0_4 bt271.1 bt271.2.1 bt271.2.2.1 bt271.2.2.2.1 bt271.2.2.2.2) else (laws_FnExactTermFor.j0 k true a0_0 l0_1 l0_2 a0_3 a0_4 bt271.1 bt271.2.1 bt271.2.2.1 bt271.2.2.2.1 bt271.2.2.2.2))))) = some r := H
   have A11 := Aside0.mk A110
   clear A110
   replace H := Option.bind_eq_some_iff.mp H
   obtain ⟨⟨t269,t270⟩,A120,H⟩ := H
   replace H : ((laws_toLocale.f k a0_0 l0_1 l0_2 a0_3 a0_4).bind fun bt271 => ((impl_TermFor.f k bt271.1 bt271.2.1 bt271.2.2.1 bt271.2.2.2.1 bt271.2.2.2.2 a1 a2).bind fun bt281 => (if bt281.1.toList = t269.toList then (laws_FnExactTermFor.j0 k (bt281.2 != t270) a0_0 l0_1 l0_2 a0_3 a0_4 bt271.1 bt271.2.1 bt271.2.2.1 bt271.2.2.2.1 bt271.2.2.2.2) else (laws_FnExactTermFor.j0 k true a0_0 l0_1 l0_2 a0_3 a0_4 bt271.1 bt271.2.1 bt271.2.2.1 bt271.2.2.2.1 bt271.2.2.2.2)))) = some r := H
   have A12 := Aside0.mk A120
   clear A120
   replace H := Option.bind_eq_some_iff.mp H
   obtain ⟨⟨t271,t272,t275,t278,t279⟩,A130,H⟩ := H
   replace H : ((impl_TermFor.f k t271 t272 t275 t278 t279 a1 a2).bind fun bt281 => (if bt281.1.toList = t269.toList then (laws_FnExactTermFor.j0 k (bt281.2 != t270) a0_0 l0_1 l0_2 a0_3 a0_4 t271 t272 t275 t278 t279) else (laws_FnExactTermFor.j0 k true a0_0 l0_1 l0_2 a0_3 a0_4 t271 t272 t275 t278 t279))) = some r := H
   have A13 := Aside0.mk A130
   clear A130
   replace H := Option.bind_eq_some_iff.mp H
   obtain ⟨⟨t281,t282⟩,A140,H⟩ := H
   replace H : (if t281.toList = t269.toList then (laws_FnExactTermFor.j0 k (t282 != t270) a0_0 l0_1 l0_2 a0_3 a0_4 t271 t272 t275 t278 t279) else (laws_FnExactTermFor.j0 k true a0_0 l0_1 l0_2 a0_3 a0_4 t271 t272 t275 t278 t279)) = some r := H
   have A14 := Aside0.mk A140
   clear A140
   have HC15 := Aside0.mk H
   clear H
   go_enter Try.func4,Try.ntmps4
   go_upto_region 10 with (first|((with_reducible refine gate_dst (N := 3) rfl ?_);refine box_event ?hg (N := 3) ?hd (cs := #[.string a0_0,.slice A0_1 l0_1.length c0_1,.slice A0_2 l0_2.length c0_2,.string a0_3,.string a0_4]) (t := 25) ?hr ?_;(case hd => rfl);(case hg => rfl);(case hr => first|(go_simp;done)|(go_simp;rfl));intro gb258 hg w16 hbox hb;have n0_ := Aside0.mk (below_step (by repeat (first|(with_reducible first|exact HB.out|apply lA|apply lN|apply lD)|exact HB.out)) hb);have n1_ := Aside0.mk (hbox);have n2_ := Aside0.mk ((by rw [hg];exact (below_size (by repeat (first|(with_reducible first|exact HB.out|apply lA|apply lN|apply lD)|exact HB.out))) : w.heap.size ≤ gb258));have n3_ := Aside0.mk ((by rw [hg];exact (below_size (by repeat (first|(with_reducible first|exact HB.out|apply lA|apply lN|apply lD)|exact HB.out))) : w.heap.size ≤ gb258));clear HB;have HB := n0_;have BK258 := n1_;have GW258 := n2_;have GE258 := n3_;clear n0_ n1_ n2_ n3_;clear hb hbox hg;have hcz17_0 : w16.cell? ⟨gb258,0,none⟩ = some (.string a0_0) := (blk_cell BK258.out 0).trans rfl;have hcz17_1 : w16.cell? ⟨gb258,1,none⟩ = some (.slice A0_1 l0_1.length c0_1) := (blk_cell BK258.out 1).trans rfl;have hcz17_2 : w16.cell? ⟨gb258,2,none⟩ = some (.slice A0_2 l0_2.length c0_2) := (blk_cell BK258.out 2).trans rfl;have hcz17_3 : w16.cell? ⟨gb258,3,none⟩ = some (.string a0_3) := (blk_cell BK258.out 3).trans rfl;have hcz17_4 : w16.cell? ⟨gb258,4,none⟩ = some (.string a0_4) := (blk_cell BK258.out 4).trans rfl;have hfz17_0 := blk_frozen BK258.out 0;have hfz17_1 := blk_frozen BK258.out 1;have hfz17_2 := blk_frozen BK258.out 2;have hfz17_3 := blk_frozen BK258.out 3;have hfz17_4 := blk_frozen BK258.out 4)|((with_reducible refine gate_callee (f := 9) rfl ?_);refine goesL_ (some 18) rfl rfl Try.func9 (by kernel_rfl) rfl #[.agg #[.string a0_0,.slice A0_1 l0_1.length c0_1,.slice A0_2 l0_2.length c0_2,.string a0_3,.string a0_4],.int .i64 1048576] rfl (by (try simp only [List.map_toArray,List.map_cons,List.map_nil]);first|done|rfl|(simp only [List.length_drop,List.length_take];rfl)) ?_;(with_reducible refine (laws_szLocale.calls k a0_0 _ _ l0_1 _ _ l0_2 a0_3 a0_4 1048576 t259 _ ?side1 ?side2 ?side3 ?side4 A6.out).mono ?_);(case side1 => repeat (first|exact (Kd.C_below HR0_1.out HB.out)|(with_reducible refine Kd.C_alloc ?_ _)|(with_reducible refine Kd.C_drewN ?_ _)|(with_reducible refine Kd.C_drew ?_)));(case side2 => exact HC0_1.out);(case side3 => repeat (first|exact (Kd.C_below HR0_2.out HB.out)|(with_reducible refine Kd.C_alloc ?_ _)|(with_reducible refine Kd.C_drewN ?_ _)|(with_reducible refine Kd.C_drew ?_)));(case side4 => exact HC0_2.out);rintro e w18 ⟨rfl,hb⟩;refine ⟨_,rfl,?_⟩;have n0_ := Aside0.mk (blk_below (g := gb258) (o := .cells #[.string a0_0,.slice A0_1 l0_1.length c0_1,.slice A0_2 l0_2.length c0_2,.string a0_3,.string a0_4] 25 (0,0)) (by (with_reducible repeat (first|refine bN ?_ _|refine bD ?_|refine bA ?_ _));exact BK258.out) hb);have n1_ := Aside0.mk (below_step (by repeat (first|(with_reducible first|exact HB.out|apply lA|apply lN|apply lD|refine below_set ?_ GE258.out)|exact HB.out)) hb);clear BK258;clear HB;have BK258 := n0_;have HB := n1_;clear n0_ n1_;(try clear hb);(try clear hb2);(try clear hk);(try clear hi);have hcz19_0 : w18.cell? ⟨gb258,0,none⟩ = some (.string a0_0) := (blk_cell BK258.out 0).trans rfl;have hcz19_1 : w18.cell? ⟨gb258,1,none⟩ = some (.slice A0_1 l0_1.length c0_1) := (blk_cell BK258.out 1).trans rfl;have hcz19_2 : w18.cell? ⟨gb258,2,none⟩ = some (.slice A0_2 l0_2.length c0_2) := (blk_cell BK258.out 2).trans rfl;have hcz19_3 : w18.cell? ⟨gb258,3,none⟩ = some (.string a0_3) := (blk_cell BK258.out 3).trans rfl;have hcz19_4 : w18.cell? ⟨gb258,4,none⟩ = some (.string a0_4) := (blk_cell BK258.out 4).trans rfl;have hfz19_0 := blk_frozen BK258.out 0;have hfz19_1 := blk_frozen BK258.out 1;have hfz19_2 := blk_frozen BK258.out 2;have hfz19_3 := blk_frozen BK258.out 3;have hfz19_4 := blk_frozen BK258.out 4)|((with_reducible refine gate_callee (f := 11) rfl ?_);refine goesL_ (some 23) rfl rfl Try.func11 (by kernel_rfl) rfl #[.agg #[.string a0_0,.slice A0_1 l0_1.length c0_1,.slice A0_2 l0_2.length c0_2,.string a0_3,.string a0_4]] rfl (by (try simp only [List.map_toArray,List.map_cons,List.map_nil]);first|done|rfl|(simp only [List.length_drop,List.length_take];rfl)) ?_;(with_reducible refine (laws_toLocale.calls k a0_0 _ _ l0_1 _ _ l0_2 a0_3 a0_4 t260 t261 t264 t267 t268 _ ?side1 ?side2 ?side3 ?side4 A11.out).mono ?_);(case side1 => repeat (first|exact (Kd.C_below HR0_1.out HB.out)|(with_reducible refine Kd.C_alloc ?_ _)|(with_reducible refine Kd.C_drewN ?_ _)|(with_reducible refine Kd.C_drew ?_)));(case side2 => exact HC0_1.out);(case side3 => repeat (first|exact (Kd.C_below HR0_2.out HB.out)|(with_reducible refine Kd.C_alloc ?_ _)|(with_reducible refine Kd.C_drewN ?_ _)|(with_reducible refine Kd.C_drew ?_)));(case side4 => exact HC0_2.out);rintro e w20 ⟨v262,v265,rfl,ho0,ho1,hb⟩;refine ⟨_,rfl,?_⟩;have n0_ := Aside0.mk (Kd.R_lower ho0 (below_size (by repeat (first|(with_reducible first|exact HB.out|apply lA|apply lN|apply lD|refine below_set ?_ GE258.out)|exact HB.out))));have n1_ := Aside0.mk (Kd.R_lower ho1 (below_size (by repeat (first|(with_reducible first|exact HB.out|apply lA|apply lN|apply lD|refine below_set ?_ GE258.out)|exact HB.out))));have n2_ := Aside0.mk (blk_below (g := gb258) (o := .cells #[.string a0_0,.slice A0_1 l0_1.length c0_1,.slice A0_2 l0_2.length c0_2,.string a0_3,.string a0_4] 25 (0,0)) (by (with_reducible repeat (first|refine bN ?_ _|refine bD ?_|refine bA ?_ _));exact BK258.out) hb);have n3_ := Aside0.mk (below_step (by repeat (first|(with_reducible first|exact HB.out|apply lA|apply lN|apply lD|refine below_set ?_ GE258.out)|exact HB.out)) hb);clear BK258;clear HB;have HO263 := n0_;have HO266 := n1_;have BK258 := n2_;have HB := n3_;clear n0_ n1_ n2_ n3_;(try clear hb);(try clear hb2);(try clear hk);(try clear hi);(try clear ho0);(try clear ho1);obtain ⟨Ao21,co21,eo21⟩ := Kd.R_slice HO263.out;subst eo21;obtain ⟨Ao22,co22,eo22⟩ := Kd.R_slice HO266.out;subst eo22)|((with_reducible refine gate_callee (f := 14) rfl ?_);refine goesL_ (some 26) rfl rfl Try.func14 (by kernel_rfl) rfl #[.agg #[.string t260,.slice Ao21 t261.length co21,.slice Ao22 t264.length co22,.string t267,.string t268],.string a1,.int .i64 a2] rfl (by (try simp only [List.map_toArray,List.map_cons,List.map_nil]);first|done|rfl|(simp only [List.length_drop,List.length_take];rfl)) ?_;(with_reducible refine (spec_TermFor.calls k t260 _ _ t261 _ _ t264 t267 t268 a1 a2 t269 t270 _ ?side1 ?side2 ?side3 ?side4 A12.out).mono ?_);(case side1 => repeat (first|exact (Kd.R_reads' HO263.out).2.2|(with_reducible refine Kd.C_alloc ?_ _)|(with_reducible refine Kd.C_drewN ?_ _)|(with_reducible refine Kd.C_drew ?_)));(case side2 => exact (Kd.R_reads' HO263.out).2.1);(case side3 => repeat (first|exact (Kd.R_reads' HO266.out).2.2|(with_reducible refine Kd.C_alloc ?_ _)|(with_reducible refine Kd.C_drewN ?_ _)|(with_reducible refine Kd.C_drew ?_)));(case side4 => exact (Kd.R_reads' HO266.out).2.1);rintro e w23 ⟨rfl,hb⟩;refine ⟨_,rfl,?_⟩;have n0_ := Aside0.mk (Kd.R_below (by (with_reducible repeat (first|apply Kd.R_alloc|apply Kd.R_drewN|apply Kd.R_drew));exact HO263.out) hb);have n1_ := Aside0.mk (Kd.R_below (by (with_reducible repeat (first|apply Kd.R_alloc|apply Kd.R_drewN|apply Kd.R_drew));exact HO266.out) hb);have n2_ := Aside0.mk (blk_below (g := gb258) (o := .cells #[.string a0_0,.slice A0_1 l0_1.length c0_1,.slice A0_2 l0_2.length c0_2,.string a0_3,.string a0_4] 25 (0,0)) (by (with_reducible repeat (first|refine bN ?_ _|refine bD ?_|refine bA ?_ _));exact BK258.out) hb);have n3_ := Aside0.mk (below_step (by repeat (first|(with_reducible first|exact HB.out|apply lA|apply lN|apply lD|refine below_set ?_ GE258.out)|exact HB.out)) hb);clear HO263;clear HO266;clear BK258;clear HB;have HO263 := n0_;have HO266 := n1_;have BK258 := n2_;have HB := n3_;clear n0_ n1_ n2_ n3_;(try clear hb);(try clear hb2);(try clear hk);(try clear hi);have hcz24_0 : w23.cell? ⟨gb258,0,none⟩ = some (.string a0_0) := (blk_cell BK258.out 0).trans rfl;have hcz24_1 : w23.cell? ⟨gb258,1,none⟩ = some (.slice A0_1 l0_1.length c0_1) := (blk_cell BK258.out 1).trans rfl;have hcz24_2 : w23.cell? ⟨gb258,2,none⟩ = some (.slice A0_2 l0_2.length c0_2) := (blk_cell BK258.out 2).trans rfl;have hcz24_3 : w23.cell? ⟨gb258,3,none⟩ = some (.string a0_3) := (blk_cell BK258.out 3).trans rfl;have hcz24_4 : w23.cell? ⟨gb258,4,none⟩ = some (.string a0_4) := (blk_cell BK258.out 4).trans rfl;have hfz24_0 := blk_frozen BK258.out 0;have hfz24_1 := blk_frozen BK258.out 1;have hfz24_2 := blk_frozen BK258.out 2;have hfz24_3 := blk_frozen BK258.out 3;have hfz24_4 := blk_frozen BK258.out 4)|((with_reducible refine gate_callee (f := 11) rfl ?_);refine goesL_ (some 30) rfl rfl Try.func11 (by kernel_rfl) rfl #[.agg #[.string a0_0,.slice A0_1 l0_1.length c0_1,.slice A0_2 l0_2.length c0_2,.string a0_3,.string a0_4]] rfl (by (try simp only [List.map_toArray,List.map_cons,List.map_nil]);first|done|rfl|(simp only [List.length_drop,List.length_take];rfl)) ?_;(with_reducible refine (laws_toLocale.calls k a0_0 _ _ l0_1 _ _ l0_2 a0_3 a0_4 t271 t272 t275 t278 t279 _ ?side1 ?side2 ?side3 ?side4 A13.out).mono ?_);(case side1 => repeat (first|exact (Kd.C_below HR0_1.out HB.out)|(with_reducible refine Kd.C_alloc ?_ _)|(with_reducible refine Kd.C_drewN ?_ _)|(with_reducible refine Kd.C_drew ?_)));(case side2 => exact HC0_1.out);(case side3 => repeat (first|exact (Kd.C_below HR0_2.out HB.out)|(with_reducible refine Kd.C_alloc ?_ _)|(with_reducible refine Kd.C_drewN ?_ _)|(with_reducible refine Kd.C_drew ?_)));(case side4 => exact HC0_2.out);rintro e w25 ⟨v273,v276,rfl,ho0,ho1,hb⟩;refine ⟨_,rfl,?_⟩;have n0_ := Aside0.mk (Kd.R_elder' (by (with_reducible repeat (first|apply Kd.R_alloc|apply Kd.R_drewN|apply Kd.R_drew));exact HO263.out) (Kd.R_base ho0) hb);have n1_ := Aside0.mk (Kd.R_elder' (by (with_reducible repeat (first|apply Kd.R_alloc|apply Kd.R_drewN|apply Kd.R_drew));exact HO266.out) (Kd.R_base ho1) hb);have n2_ := Aside0.mk (Kd.R_lower (Kd.R_new' ho0 (Kd.R_lt (by (with_reducible repeat (first|apply Kd.R_alloc|apply Kd.R_drewN|apply Kd.R_drew));exact HO263.out))) (below_size (by repeat (first|(with_reducible first|exact HB.out|apply lA|apply lN|apply lD|refine below_set ?_ GE258.out)|exact HB.out))));have n3_ := Aside0.mk (Kd.R_lower (Kd.R_new' ho1 (Kd.R_lt (by (with_reducible repeat (first|apply Kd.R_alloc|apply Kd.R_drewN|apply Kd.R_drew));exact HO266.out))) (below_size (by repeat (first|(with_reducible first|exact HB.out|apply lA|apply lN|apply lD|refine below_set ?_ GE258.out)|exact HB.out))));have n4_ := Aside0.mk (blk_below (g := gb258) (o := .cells #[.string a0_0,.slice A0_1 l0_1.length c0_1,.slice A0_2 l0_2.length c0_2,.string a0_3,.string a0_4] 25 (0,0)) (by (with_reducible repeat (first|refine bN ?_ _|refine bD ?_|refine bA ?_ _));exact BK258.out) hb);have n5_ := Aside0.mk (below_step (by repeat (first|(with_reducible first|exact HB.out|apply lA|apply lN|apply lD|refine below_set ?_ GE258.out)|exact HB.out)) hb);clear HO263;clear HO266;clear BK258;clear HB;have HO263 := n0_;have HO266 := n1_;have HO274 := n2_;have HO277 := n3_;have BK258 := n4_;have HB := n5_;clear n0_ n1_ n2_ n3_ n4_ n5_;(try clear hb);(try clear hb2);(try clear hk);(try clear hi);(try clear ho0);(try clear ho1))|((with_reducible refine gate_dst (N := 10) rfl ?_);refine box_event ?hg (N := 10) ?hd (cs := #[.string (⟨#[]⟩ : ByteArray),.slice none 0 0,.slice none 0 0,.string (⟨#[]⟩ : ByteArray),.string (⟨#[]⟩ : ByteArray)]) (t := 31) ?hr ?_;(case hd => rfl);(case hg => rfl);(case hr => first|(go_simp;done)|(go_simp;rfl));intro gb280 hg w26 hbox hb;have n0_ := Aside0.mk (Kd.R_below (by (with_reducible repeat (first|apply Kd.R_alloc|apply Kd.R_drewN|apply Kd.R_drew));exact HO263.out) hb);have n1_ := Aside0.mk (Kd.R_below (by (with_reducible repeat (first|apply Kd.R_alloc|apply Kd.R_drewN|apply Kd.R_drew));exact HO266.out) hb);have n2_ := Aside0.mk (Kd.R_below (by (with_reducible repeat (first|apply Kd.R_alloc|apply Kd.R_drewN|apply Kd.R_drew));exact HO274.out) hb);have n3_ := Aside0.mk (Kd.R_below (by (with_reducible repeat (first|apply Kd.R_alloc|apply Kd.R_drewN|apply Kd.R_drew));exact HO277.out) hb);have n4_ := Aside0.mk (blk_below (g := gb258) (o := .cells #[.string a0_0,.slice A0_1 l0_1.length c0_1,.slice A0_2 l0_2.length c0_2,.string a0_3,.string a0_4] 25 (0,0)) (by (with_reducible repeat (first|refine bN ?_ _|refine bD ?_|refine bA ?_ _));exact BK258.out) hb);have n5_ := Aside0.mk (below_step (by repeat (first|(with_reducible first|exact HB.out|apply lA|apply lN|apply lD|refine below_set ?_ GE258.out)|exact HB.out)) hb);have n6_ := Aside0.mk (hbox);have n7_ := Aside0.mk ((by rw [hg];exact (below_size (by repeat (first|(with_reducible first|exact HB.out|apply lA|apply lN|apply lD|refine below_set ?_ GE258.out)|exact HB.out))) : w.heap.size ≤ gb280));have n8_ := Aside0.mk ((by rw [hg];exact (below_size (by repeat (first|(with_reducible first|exact HB.out|apply lA|apply lN|apply lD|refine below_set ?_ GE258.out)|exact HB.out))) : w.heap.size ≤ gb280));have n9_ := Aside0.mk ((by rw [hg];exact Nat.ne_of_lt (blk_lt (g := gb258) (o := .cells #[.string a0_0,.slice A0_1 l0_1.length c0_1,.slice A0_2 l0_2.length c0_2,.string a0_3,.string a0_4] 25 (0,0)) (by (with_reducible repeat (first|refine bN ?_ _|refine bD ?_|refine bA ?_ _));exact BK258.out)) : gb258 ≠ gb280));have n10_ := Aside0.mk ((by rw [hg];exact Nat.ne_of_gt (blk_lt (g := gb258) (o := .cells #[.string a0_0,.slice A0_1 l0_1.length c0_1,.slice A0_2 l0_2.length c0_2,.string a0_3,.string a0_4] 25 (0,0)) (by (with_reducible repeat (first|refine bN ?_ _|refine bD ?_|refine bA ?_ _));exact BK258.out)) : gb280 ≠ gb258));clear HO263;clear HO266;clear HO274;clear HO277;clear BK258;clear HB;have HO263 := n0_;have HO266 := n1_;have HO274 := n2_;have HO277 := n3_;have BK258 := n4_;have HB := n5_;have BK280 := n6_;have GW280 := n7_;have GE280 := n8_;have NB258_280 := n9_;have NB280_258 := n10_;clear n0_ n1_ n2_ n3_ n4_ n5_ n6_ n7_ n8_ n9_ n10_;clear hb hbox hg;have hnb27 := NB280_258.out;have hnc27 := NB258_280.out;have hcz28_0 : w26.cell? ⟨gb280,0,none⟩ = some (.string (⟨#[]⟩ : ByteArray)) := (blk_cell BK280.out 0).trans rfl;have hcz28_1 : w26.cell? ⟨gb280,1,none⟩ = some (.slice none 0 0) := (blk_cell BK280.out 1).trans rfl;have hcz28_2 : w26.cell? ⟨gb280,2,none⟩ = some (.slice none 0 0) := (blk_cell BK280.out 2).trans rfl;have hcz28_3 : w26.cell? ⟨gb280,3,none⟩ = some (.string (⟨#[]⟩ : ByteArray)) := (blk_cell BK280.out 3).trans rfl;have hcz28_4 : w26.cell? ⟨gb280,4,none⟩ = some (.string (⟨#[]⟩ : ByteArray)) := (blk_cell BK280.out 4).trans rfl;have hfz28_0 := blk_frozen BK280.out 0;have hfz28_1 := blk_frozen BK280.out 1;have hfz28_2 := blk_frozen BK280.out 2;have hfz28_3 := blk_frozen BK280.out 3;have hfz28_4 := blk_frozen BK280.out 4;obtain ⟨Ao29,co29,eo29⟩ := Kd.R_slice HO274.out;subst eo29;obtain ⟨Ao30,co30,eo30⟩ := Kd.R_slice HO277.out;subst eo30)|((with_reducible refine gate_callee (f := 15) rfl ?_);refine goesL_ (some 35) rfl rfl Try.func15 (by kernel_rfl) rfl #[.agg #[.string t271,.slice Ao29 t272.length co29,.slice Ao30 t275.length co30,.string t278,.string t279],.string a1,.int .i64 a2] rfl (by (try simp only [List.map_toArray,List.map_cons,List.map_nil]);first|done|rfl|(simp only [List.length_drop,List.length_take];rfl)) ?_;(with_reducible refine (impl_TermFor.calls k t271 _ _ t272 _ _ t275 t278 t279 a1 a2 t281 t282 _ ?side1 ?side2 ?side3 ?side4 A14.out).mono ?_);(case side1 => refine (Kd.R_reads' (e := 61) (base := w.heap.size) (ok := fun k_ => (True ∧ some k_ ≠ (.slice Ao21 t261.length co21 : Value).ownBlock)) (n := t272.length) (c := co29) ?_).2.2;exact (by (with_reducible repeat (first|apply Kd.R_alloc|apply Kd.R_drewN|apply Kd.R_drew));exact (Kd.R_mono (Kd.R_far (p := ⟨gb280,4,none⟩) (Kd.R_far (p := ⟨gb280,3,none⟩) (Kd.R_far (p := ⟨gb280,2,none⟩) (Kd.R_far (p := ⟨gb280,1,none⟩) (Kd.R_far (p := ⟨gb280,0,none⟩) (Kd.R_types HO274.out BK280.out (by decide)) (fun _ hk => hk.2) (.string t271)) (fun _ hk => hk.2) (.slice Ao29 t272.length co29)) (fun _ hk => hk.2) (.slice Ao30 t275.length co30)) (fun _ hk => hk.2) (.string t278)) (fun _ hk => hk.2) (.string t279)) (fun _ h_ => h_.1))));(case side2 => exact (Kd.R_reads' HO274.out).2.1);(case side3 => refine (Kd.R_reads' (e := 72) (base := w.heap.size) (ok := fun k_ => (True ∧ some k_ ≠ (.slice Ao22 t264.length co22 : Value).ownBlock)) (n := t275.length) (c := co30) ?_).2.2;exact (by (with_reducible repeat (first|apply Kd.R_alloc|apply Kd.R_drewN|apply Kd.R_drew));exact (Kd.R_mono (Kd.R_far (p := ⟨gb280,4,none⟩) (Kd.R_far (p := ⟨gb280,3,none⟩) (Kd.R_far (p := ⟨gb280,2,none⟩) (Kd.R_far (p := ⟨gb280,1,none⟩) (Kd.R_far (p := ⟨gb280,0,none⟩) (Kd.R_types HO277.out BK280.out (by decide)) (fun _ hk => hk.2) (.string t271)) (fun _ hk => hk.2) (.slice Ao29 t272.length co29)) (fun _ hk => hk.2) (.slice Ao30 t275.length co30)) (fun _ hk => hk.2) (.string t278)) (fun _ hk => hk.2) (.string t279)) (fun _ h_ => h_.1))));(case side4 => exact (Kd.R_reads' HO277.out).2.1);rintro e w31 ⟨rfl,hb⟩;refine ⟨_,rfl,?_⟩;have n0_ := Aside0.mk (Kd.R_below (by (with_reducible repeat (first|apply Kd.R_alloc|apply Kd.R_drewN|apply Kd.R_drew));exact (Kd.R_mono (Kd.R_far (p := ⟨gb280,4,none⟩) (Kd.R_far (p := ⟨gb280,3,none⟩) (Kd.R_far (p := ⟨gb280,2,none⟩) (Kd.R_far (p := ⟨gb280,1,none⟩) (Kd.R_far (p := ⟨gb280,0,none⟩) (Kd.R_types HO263.out BK280.out (by decide)) (fun _ hk => hk.2) (.string t271)) (fun _ hk => hk.2) (.slice Ao29 t272.length co29)) (fun _ hk => hk.2) (.slice Ao30 t275.length co30)) (fun _ hk => hk.2) (.string t278)) (fun _ hk => hk.2) (.string t279)) (fun _ h_ => h_.1))) hb);have n1_ := Aside0.mk (Kd.R_below (by (with_reducible repeat (first|apply Kd.R_alloc|apply Kd.R_drewN|apply Kd.R_drew));exact (Kd.R_mono (Kd.R_far (p := ⟨gb280,4,none⟩) (Kd.R_far (p := ⟨gb280,3,none⟩) (Kd.R_far (p := ⟨gb280,2,none⟩) (Kd.R_far (p := ⟨gb280,1,none⟩) (Kd.R_far (p := ⟨gb280,0,none⟩) (Kd.R_types HO266.out BK280.out (by decide)) (fun _ hk => hk.2) (.string t271)) (fun _ hk => hk.2) (.slice Ao29 t272.length co29)) (fun _ hk => hk.2) (.slice Ao30 t275.length co30)) (fun _ hk => hk.2) (.string t278)) (fun _ hk => hk.2) (.string t279)) (fun _ h_ => h_.1))) hb);have n2_ := Aside0.mk (Kd.R_below (by (with_reducible repeat (first|apply Kd.R_alloc|apply Kd.R_drewN|apply Kd.R_drew));exact (Kd.R_mono (Kd.R_far (p := ⟨gb280,4,none⟩) (Kd.R_far (p := ⟨gb280,3,none⟩) (Kd.R_far (p := ⟨gb280,2,none⟩) (Kd.R_far (p := ⟨gb280,1,none⟩) (Kd.R_far (p := ⟨gb280,0,none⟩) (Kd.R_types HO274.out BK280.out (by decide)) (fun _ hk => hk.2) (.string t271)) (fun _ hk => hk.2) (.slice Ao29 t272.length co29)) (fun _ hk => hk.2) (.slice Ao30 t275.length co30)) (fun _ hk => hk.2) (.string t278)) (fun _ hk => hk.2) (.string t279)) (fun _ h_ => h_.1))) hb);have n3_ := Aside0.mk (Kd.R_below (by (with_reducible repeat (first|apply Kd.R_alloc|apply Kd.R_drewN|apply Kd.R_drew));exact (Kd.R_mono (Kd.R_far (p := ⟨gb280,4,none⟩) (Kd.R_far (p := ⟨gb280,3,none⟩) (Kd.R_far (p := ⟨gb280,2,none⟩) (Kd.R_far (p := ⟨gb280,1,none⟩) (Kd.R_far (p := ⟨gb280,0,none⟩) (Kd.R_types HO277.out BK280.out (by decide)) (fun _ hk => hk.2) (.string t271)) (fun _ hk => hk.2) (.slice Ao29 t272.length co29)) (fun _ hk => hk.2) (.slice Ao30 t275.length co30)) (fun _ hk => hk.2) (.string t278)) (fun _ hk => hk.2) (.string t279)) (fun _ h_ => h_.1))) hb);have n4_ := Aside0.mk (blk_below (g := gb258) (o := .cells #[.string a0_0,.slice A0_1 l0_1.length c0_1,.slice A0_2 l0_2.length c0_2,.string a0_3,.string a0_4] 25 (0,0)) (by (with_reducible repeat (first|refine bN ?_ _|refine bD ?_|refine bA ?_ _));refine blk_far ?_ NB258_280.out _;(with_reducible repeat (first|refine bN ?_ _|refine bD ?_|refine bA ?_ _));refine blk_far ?_ NB258_280.out _;(with_reducible repeat (first|refine bN ?_ _|refine bD ?_|refine bA ?_ _));refine blk_far ?_ NB258_280.out _;(with_reducible repeat (first|refine bN ?_ _|refine bD ?_|refine bA ?_ _));refine blk_far ?_ NB258_280.out _;(with_reducible repeat (first|refine bN ?_ _|refine bD ?_|refine bA ?_ _));refine blk_far ?_ NB258_280.out _;(with_reducible repeat (first|refine bN ?_ _|refine bD ?_|refine bA ?_ _));exact BK258.out) hb);have n5_ := Aside0.mk (blk_below (g := gb280) (o := .cells #[.string t271,.slice Ao29 t272.length co29,.slice Ao30 t275.length co30,.string t278,.string t279] 31 (0,0)) (by (with_reducible repeat (first|refine bN ?_ _|refine bD ?_|refine bA ?_ _));refine blk_put (cs := #[.string t271,.slice Ao29 t272.length co29,.slice Ao30 t275.length co30,.string t278,.string (⟨#[]⟩ : ByteArray)]) ?_ 4 _ rfl;(with_reducible repeat (first|refine bN ?_ _|refine bD ?_|refine bA ?_ _));refine blk_put (cs := #[.string t271,.slice Ao29 t272.length co29,.slice Ao30 t275.length co30,.string (⟨#[]⟩ : ByteArray),.string (⟨#[]⟩ : ByteArray)]) ?_ 3 _ rfl;(with_reducible repeat (first|refine bN ?_ _|refine bD ?_|refine bA ?_ _));refine blk_put (cs := #[.string t271,.slice Ao29 t272.length co29,.slice none 0 0,.string (⟨#[]⟩ : ByteArray),.string (⟨#[]⟩ : ByteArray)]) ?_ 2 _ rfl;(with_reducible repeat (first|refine bN ?_ _|refine bD ?_|refine bA ?_ _));refine blk_put (cs := #[.string t271,.slice none 0 0,.slice none 0 0,.string (⟨#[]⟩ : ByteArray),.string (⟨#[]⟩ : ByteArray)]) ?_ 1 _ rfl;(with_reducible repeat (first|refine bN ?_ _|refine bD ?_|refine bA ?_ _));refine blk_put (cs := #[.string (⟨#[]⟩ : ByteArray),.slice none 0 0,.slice none 0 0,.string (⟨#[]⟩ : ByteArray),.string (⟨#[]⟩ : ByteArray)]) ?_ 0 _ rfl;(with_reducible repeat (first|refine bN ?_ _|refine bD ?_|refine bA ?_ _));exact BK280.out) hb);have n6_ := Aside0.mk (below_step (by repeat (first|(with_reducible first|exact HB.out|apply lA|apply lN|apply lD|refine below_set ?_ GE258.out|refine below_set ?_ GE280.out)|exact HB.out)) hb);clear HO263;clear HO266;clear HO274;clear HO277;clear BK258;clear BK280;clear HB;have HO263 := n0_;have HO266 := n1_;have HO274 := n2_;have HO277 := n3_;have BK258 := n4_;have BK280 := n5_;have HB := n6_;clear n0_ n1_ n2_ n3_ n4_ n5_ n6_;(try clear hb);(try clear hb2);(try clear hk);(try clear hi)))
   (try simp only [Act.put,List.setIfInBounds_toArray,List.set_cons_zero,List.set_cons_succ])
   go_cut [45] (fun v45 wc => ∃ (kq : Nat) (x45_14 : Bool),v45 = .bool x45_14 ∧ Aside0 (laws_FnExactTermFor.j0 kq x45_14 a0_0 l0_1 l0_2 a0_3 a0_4 t271 t272 t275 t278 t279 = some r) ∧ Aside0 (kq ≤ k) ∧ Aside0 (Kd.R k61 61 wc w.heap.size (fun _ => True) (.slice Ao29 t272.length co29) t272) ∧ Aside0 (Kd.R k72 72 wc w.heap.size (fun _ => True) (.slice Ao30 t275.length co30) t275) ∧ Aside0 (wc.heap[gb258]? = some (.cells #[.string a0_0,(.slice A0_1 l0_1.length c0_1),(.slice A0_2 l0_2.length c0_2),.string a0_3,.string a0_4] 25 (0,0))) ∧ Aside0 (wc.heap[gb280]? = some (.cells #[.string t271,(.slice Ao29 t272.length co29),(.slice Ao30 t275.length co30),.string t278,.string t279] 31 (0,0))) ∧ Aside0 (Below w.heap.size w wc))
   case first =>
    have H := HC15.out
    clear HC15
    by_cases c32 : t281.toList = t269.toList
    ·rw [if_pos c32] at H
     have c32b0 : (t281.toList == t269.toList) = true := beq_iff_eq.mpr c32
     have c32b1 : (t281.toList != t269.toList) = false := bne_eq_false_iff_eq.mpr c32
     clear c32
     (first|rw [c32b0]|(simp only [i64_w,i32_w];rw [c32b0])|skip)
     have H' := Aside0.mk H
     clear H
     go_wp2
     go_meet
     case rel => exact ⟨_,((t282 != t270)),(by first|rfl|(simp;done)|(simp [my_isEmpty];done)|(simp [*];done)),H',⟨by first|omega|exact Nat.le_refl _⟩,⟨by (with_reducible repeat (first|apply Kd.R_alloc|apply Kd.R_drewN|apply Kd.R_drew));exact Kd.R_mono HO274.out (fun _ hk => trivial)⟩,⟨by (with_reducible repeat (first|apply Kd.R_alloc|apply Kd.R_drewN|apply Kd.R_drew));exact Kd.R_mono HO277.out (fun _ hk => trivial)⟩,⟨by (with_reducible repeat (first|refine bN ?_ _|refine bD ?_|refine bA ?_ _));exact BK258.out⟩,⟨by (with_reducible repeat (first|refine bN ?_ _|refine bD ?_|refine bA ?_ _));exact BK280.out⟩,⟨by repeat (first|(with_reducible first|exact HB.out|apply lA|apply lN|apply lD|refine below_set ?_ GE258.out|refine below_set ?_ GE280.out)|exact HB.out)⟩⟩
    ·rw [if_neg c32] at H
     have c32b0 : (t281.toList == t269.toList) = false := beq_eq_false_iff_ne.mpr c32
     have c32b1 : (t281.toList != t269.toList) = true := bne_iff_ne.mpr c32
     (first|rw [c32b0]|(simp only [i64_w,i32_w];rw [c32b0])|skip)
     have H' := Aside0.mk H
     clear H
     go_wp2
     go_meet
     case rel => exact ⟨_,(true),(by first|rfl|(simp;done)|(simp [my_isEmpty];done)|(simp [*];done)),H',⟨by first|omega|exact Nat.le_refl _⟩,⟨by (with_reducible repeat (first|apply Kd.R_alloc|apply Kd.R_drewN|apply Kd.R_drew));exact Kd.R_mono HO274.out (fun _ hk => trivial)⟩,⟨by (with_reducible repeat (first|apply Kd.R_alloc|apply Kd.R_drewN|apply Kd.R_drew));exact Kd.R_mono HO277.out (fun _ hk => trivial)⟩,⟨by (with_reducible repeat (first|refine bN ?_ _|refine bD ?_|refine bA ?_ _));exact BK258.out⟩,⟨by (with_reducible repeat (first|refine bN ?_ _|refine bD ?_|refine bA ?_ _));exact BK280.out⟩,⟨by repeat (first|(with_reducible first|exact HB.out|apply lA|apply lN|apply lD|refine below_set ?_ GE258.out|refine below_set ?_ GE280.out)|exact HB.out)⟩⟩
   case rest =>
    clear HC15
    try clear c1
    try clear c2
    try clear p2
    try clear c3
    try clear c4
    try clear c4b0
    try clear c4b1
    try clear c7
    try clear c7b0
    try clear c9
    try clear c11
    try clear c14
    try clear c15
    try clear c27
    try clear c32
    try clear c32b0
    try clear c32b1
    try clear hcz17_0
    try clear hcz17_1
    try clear hcz17_2
    try clear hcz17_3
    try clear hcz17_4
    try clear hcz19_0
    try clear hcz19_1
    try clear hcz19_2
    try clear hcz19_3
    try clear hcz19_4
    try clear hcz24_0
    try clear hcz24_1
    try clear hcz24_2
    try clear hcz24_3
    try clear hcz24_4
    try clear hcz28_0
    try clear hcz28_1
    try clear hcz28_2
    try clear hcz28_3
    try clear hcz28_4
    try clear hcz9_0
    try clear hcz9_1
    try clear hcz9_2
    try clear hcz9_3
    try clear hcz9_4
    try clear hfz17_0
    try clear hfz17_1
    try clear hfz17_2
    try clear hfz17_3
    try clear hfz17_4
    try clear hfz19_0
    try clear hfz19_1
    try clear hfz19_2
    try clear hfz19_3
    try clear hfz19_4
    try clear hfz24_0
    try clear hfz24_1
    try clear hfz24_2
    try clear hfz24_3
    try clear hfz24_4
    try clear hfz28_0
    try clear hfz28_1
    try clear hfz28_2
    try clear hfz28_3
    try clear hfz28_4
    try clear hfz9_0
    try clear hfz9_1
    try clear hfz9_2
    try clear hfz9_3
    try clear hfz9_4
    obtain ⟨kq,x45_14,rfl,HA,HJ14,HO_281001,HO_281002,BK258,BK280,HB⟩ := hcut
    cases kq with
    | zero => exact absurd HA.out (by simp [laws_FnExactTermFor.j0])
    | succ kj14 =>
     have H := HA.out
     clear HA
     simp only [laws_FnExactTermFor.j0] at H
     by_cases c33 : x45_14 = true
     ·subst c33
      have H1 : (some false) = some r := by rw [if_pos rfl] at H;exact H
      clear H
      have H := H1
      clear H1
      exact absurd ((Option.some.inj H).trans hr_) (by decide)
     ·replace c33 := Bool.eq_false_iff.mpr c33
      subst c33
      have H1 : ((laws_toLocale.f kj14 a0_0 l0_1 l0_2 a0_3 a0_4).bind fun bt283 => ((laws_eqLocale.f kj14 t271 t272 t275 t278 t279 bt283.1 bt283.2.1 bt283.2.2.1 bt283.2.2.2.1 bt283.2.2.2.2).bind fun t292 => (if t292 = true then (some true) else (some false)))) = some r := by rw [if_neg (show ¬ (false = true) by decide)] at H;exact H
      clear H
      have H := H1
      clear H1
      replace H := Option.bind_eq_some_iff.mp H
      obtain ⟨⟨t283,t284,t287,t290,t291⟩,A340,H⟩ := H
      replace H : ((laws_eqLocale.f kj14 t271 t272 t275 t278 t279 t283 t284 t287 t290 t291).bind fun t292 => (if t292 = true then (some true) else (some false))) = some r := H
      have A34 := Aside0.mk A340
      clear A340
      replace H := Option.bind_eq_some_iff.mp H
      obtain ⟨t292,A350,H⟩ := H
      replace H : (if t292 = true then (some true) else (some false)) = some r := H
      have A35 := Aside0.mk A350
      clear A350
      by_cases c36 : t292 = true
      ·subst c36
       have H1 : (some true) = some r := by rw [if_pos rfl] at H;exact H
       clear H
       have H := H1
       clear H1
       obtain rfl := Option.some.inj H
       try clear hr_
       try go_wp2
       have n0_ := Aside0.mk (Kd.R_drew HO_281001.out)
       have n1_ := Aside0.mk (Kd.R_drew HO_281002.out)
       have n2_ := Aside0.mk (bD BK258.out)
       have n3_ := Aside0.mk (bD BK280.out)
       have n4_ := Aside0.mk (lD HB.out)
       clear HO_281001
       clear HO_281002
       clear BK258
       clear BK280
       clear HB
       have HO_281001 := n0_
       have HO_281002 := n1_
       have BK258 := n2_
       have BK280 := n3_
       have HB := n4_
       clear n0_ n1_ n2_ n3_ n4_
       refine start_ (n := 5) (S := fun w' => w'.cell? ⟨gb280,0,none⟩ = some (.string t271) ∧ w'.cell? ⟨gb280,1,none⟩ = some (.slice Ao29 t272.length co29) ∧ w'.cell? ⟨gb280,2,none⟩ = some (.slice Ao30 t275.length co30) ∧ w'.cell? ⟨gb280,3,none⟩ = some (.string t278) ∧ w'.cell? ⟨gb280,4,none⟩ = some (.string t279) ∧ w'.cell? ⟨gb258,0,none⟩ = some (.string a0_0) ∧ w'.cell? ⟨gb258,1,none⟩ = some (.slice A0_1 l0_1.length c0_1) ∧ w'.cell? ⟨gb258,2,none⟩ = some (.slice A0_2 l0_2.length c0_2) ∧ w'.cell? ⟨gb258,3,none⟩ = some (.string a0_3) ∧ w'.cell? ⟨gb258,4,none⟩ = some (.string a0_4)) (ds := []) #[false,false,false,false,false] (by kernel_rfl) rfl rfl ⟨(blk_cell BK280.out 0).trans rfl,(blk_cell BK280.out 1).trans rfl,(blk_cell BK280.out 2).trans rfl,(blk_cell BK280.out 3).trans rfl,(blk_cell BK280.out 4).trans rfl,(blk_cell BK258.out 0).trans rfl,(blk_cell BK258.out 1).trans rfl,(blk_cell BK258.out 2).trans rfl,(blk_cell BK258.out 3).trans rfl,(blk_cell BK258.out 4).trans rfl⟩ (fun hHeld => ?_)
       generalize wc.drew = w37 at HO_281001 HO_281002 BK258 BK280 HB hHeld ⊢
       refine take_ (i := 0) (N := some 46) (v := ?_) (a' := ?_) #[true,false,false,false,false] rfl rfl (by kernel_rfl) (fun _ _ _ h => h) (Or.inl ⟨by rfl,?_⟩) hHeld ?_ ?_
       rotate_left
       ·rintro w' ⟨s0,s1,s2,s3,s4,s5,s6,s7,s8,s9⟩
        go_simp
        with_reducible rfl
       rotate_left
       ·simp only [Act.put,List.setIfInBounds_toArray,List.set_cons_zero,List.set_cons_succ,i64_w,i32_w]
        rfl
       refine take_ (i := 1) (N := some 47) (v := ?_) (a' := ?_) #[true,true,false,false,false] rfl rfl (by kernel_rfl) (fun _ _ _ h => h) (Or.inl ⟨by rfl,?_⟩) hHeld ?_ ?_
       rotate_left
       ·rintro w' ⟨s0,s1,s2,s3,s4,s5,s6,s7,s8,s9⟩
        go_simp
        with_reducible rfl
       rotate_left
       ·simp only [Act.put,List.setIfInBounds_toArray,List.set_cons_zero,List.set_cons_succ,i64_w,i32_w]
        rfl
       refine one_ (i := 2) (N := some 48) #[true,true,true,false,false] rfl rfl (by kernel_rfl) (by decide) (fun K hK => ?_)
       refine goes_ Try.func11 (by kernel_rfl) rfl #[.agg #[.string a0_0,.slice A0_1 l0_1.length c0_1,.slice A0_2 l0_2.length c0_2,.string a0_3,.string a0_4]] (by rfl) rfl rfl (by (try simp only [List.map_toArray,List.map_cons,List.map_nil]);first|done|rfl|(simp only [List.length_drop,List.length_take];rfl)) ?_
       with_reducible refine (laws_toLocale.calls kj14 a0_0 _ _ l0_1 _ _ l0_2 a0_3 a0_4 t283 t284 t287 t290 t291 _ ?side1 ?side2 ?side3 ?side4 A34.out).mono ?_
       (case side1 => repeat (first|exact (Kd.C_below HR0_1.out HB.out)|(with_reducible refine Kd.C_alloc ?_ _)|(with_reducible refine Kd.C_drewN ?_ _)|(with_reducible refine Kd.C_drew ?_)))
       (case side2 => exact HC0_1.out)
       (case side3 => repeat (first|exact (Kd.C_below HR0_2.out HB.out)|(with_reducible refine Kd.C_alloc ?_ _)|(with_reducible refine Kd.C_drewN ?_ _)|(with_reducible refine Kd.C_drew ?_)))
       (case side4 => exact HC0_2.out)
       rintro e w38 ⟨v285,v288,rfl,ho0,ho1,hb⟩
       refine ⟨_,rfl,?_⟩
       have n0_ := Aside0.mk (Kd.R_elder' (by (with_reducible repeat (first|apply Kd.R_alloc|apply Kd.R_drewN|apply Kd.R_drew));exact HO_281001.out) (Kd.R_base ho0) hb)
       have n1_ := Aside0.mk (Kd.R_elder' (by (with_reducible repeat (first|apply Kd.R_alloc|apply Kd.R_drewN|apply Kd.R_drew));exact HO_281002.out) (Kd.R_base ho1) hb)
       have n2_ := Aside0.mk (Kd.R_lower (Kd.R_new' ho0 (Kd.R_lt (by (with_reducible repeat (first|apply Kd.R_alloc|apply Kd.R_drewN|apply Kd.R_drew));exact HO_281001.out))) (below_size (by repeat (first|(with_reducible first|exact HB.out|apply lA|apply lN|apply lD|refine below_set ?_ GE258.out|refine below_set ?_ GE280.out)|exact HB.out))))
       have n3_ := Aside0.mk (Kd.R_lower (Kd.R_new' ho1 (Kd.R_lt (by (with_reducible repeat (first|apply Kd.R_alloc|apply Kd.R_drewN|apply Kd.R_drew));exact HO_281002.out))) (below_size (by repeat (first|(with_reducible first|exact HB.out|apply lA|apply lN|apply lD|refine below_set ?_ GE258.out|refine below_set ?_ GE280.out)|exact HB.out))))
       have n4_ := Aside0.mk (blk_below (g := gb258) (o := .cells #[.string a0_0,.slice A0_1 l0_1.length c0_1,.slice A0_2 l0_2.length c0_2,.string a0_3,.string a0_4] 25 (0,0)) (by (with_reducible repeat (first|refine bN ?_ _|refine bD ?_|refine bA ?_ _));exact BK258.out) hb)
       have n5_ := Aside0.mk (blk_below (g := gb280) (o := .cells #[.string t271,.slice Ao29 t272.length co29,.slice Ao30 t275.length co30,.string t278,.string t279] 31 (0,0)) (by (with_reducible repeat (first|refine bN ?_ _|refine bD ?_|refine bA ?_ _));exact BK280.out) hb)
       have n6_ := Aside0.mk (below_step (by repeat (first|(with_reducible first|exact HB.out|apply lA|apply lN|apply lD|refine below_set ?_ GE258.out|refine below_set ?_ GE280.out)|exact HB.out)) hb)
       clear HO_281001
       clear HO_281002
       clear BK258
       clear BK280
       clear HB
       have HO_281001 := n0_
       have HO_281002 := n1_
       have HO286 := n2_
       have HO289 := n3_
       have BK258 := n4_
       have BK280 := n5_
       have HB := n6_
       clear n0_ n1_ n2_ n3_ n4_ n5_ n6_
       (try clear hb)
       (try clear hb2)
       (try clear hk)
       (try clear hi)
       (try clear ho0)
       (try clear ho1)
       obtain ⟨Ao39,co39,eo39⟩ := Kd.R_slice HO286.out
       (first|subst eo39|(injection eo39 with f1_ f2_ f3_;have f4_ := f1_.symm;have f5_ := f3_.symm;clear f1_ f2_ f3_;subst f4_;subst f5_))
       obtain ⟨Ao40,co40,eo40⟩ := Kd.R_slice HO289.out
       (first|subst eo40|(injection eo40 with f1_ f2_ f3_;have f4_ := f1_.symm;have f5_ := f3_.symm;clear f1_ f2_ f3_;subst f4_;subst f5_))
       refine hK.out _ _ ⟨(blk_cell BK280.out 0).trans rfl,(blk_cell BK280.out 1).trans rfl,(blk_cell BK280.out 2).trans rfl,(blk_cell BK280.out 3).trans rfl,(blk_cell BK280.out 4).trans rfl,(blk_cell BK258.out 0).trans rfl,(blk_cell BK258.out 1).trans rfl,(blk_cell BK258.out 2).trans rfl,(blk_cell BK258.out 3).trans rfl,(blk_cell BK258.out 4).trans rfl⟩ (fun hHeld => ?_)
       clear hK K
       refine norm_ (a' := ?_) ?_ ?_
       rotate_left
       ·show Act.put _ (some 48) _ = _
        simp only [Act.put,List.setIfInBounds_toArray,List.set_cons_zero,List.set_cons_succ,i64_w,i32_w]
        rfl
       refine one_ (i := 3) (N := some 49) #[true,true,true,true,false] rfl rfl (by kernel_rfl) (by decide) (fun K hK => ?_)
       refine goes_ Try.func13 (by kernel_rfl) rfl #[.agg #[.string t271,.slice Ao29 t272.length co29,.slice Ao30 t275.length co30,.string t278,.string t279],.agg #[.string t283,.slice Ao39 t284.length co39,.slice Ao40 t287.length co40,.string t290,.string t291]] (by rfl) rfl rfl (by (try simp only [List.map_toArray,List.map_cons,List.map_nil]);first|done|rfl|(simp only [List.length_drop,List.length_take];rfl)) ?_
       with_reducible refine (laws_eqLocale.calls kj14 t271 _ _ t272 _ _ t275 t278 t279 t283 _ _ t284 _ _ t287 t290 t291 true _ ?side1 ?side2 ?side3 ?side4 ?side5 ?side6 ?side7 ?side8 A35.out).mono ?_
       (case side1 => repeat (first|exact (Kd.R_reads' HO_281001.out).2.2|(with_reducible refine Kd.C_alloc ?_ _)|(with_reducible refine Kd.C_drewN ?_ _)|(with_reducible refine Kd.C_drew ?_)))
       (case side2 => exact (Kd.R_reads' HO_281001.out).2.1)
       (case side3 => repeat (first|exact (Kd.R_reads' HO_281002.out).2.2|(with_reducible refine Kd.C_alloc ?_ _)|(with_reducible refine Kd.C_drewN ?_ _)|(with_reducible refine Kd.C_drew ?_)))
       (case side4 => exact (Kd.R_reads' HO_281002.out).2.1)
       (case side5 => repeat (first|exact (Kd.R_reads' HO286.out).2.2|(with_reducible refine Kd.C_alloc ?_ _)|(with_reducible refine Kd.C_drewN ?_ _)|(with_reducible refine Kd.C_drew ?_)))
       (case side6 => exact (Kd.R_reads' HO286.out).2.1)
       (case side7 => repeat (first|exact (Kd.R_reads' HO289.out).2.2|(with_reducible refine Kd.C_alloc ?_ _)|(with_reducible refine Kd.C_drewN ?_ _)|(with_reducible refine Kd.C_drew ?_)))
       (case side8 => exact (Kd.R_reads' HO289.out).2.1)
       rintro e w41 ⟨rfl,hb⟩
       refine ⟨_,rfl,?_⟩
       have n0_ := Aside0.mk (Kd.R_below (by (with_reducible repeat (first|apply Kd.R_alloc|apply Kd.R_drewN|apply Kd.R_drew));exact HO_281001.out) hb)
       have n1_ := Aside0.mk (Kd.R_below (by (with_reducible repeat (first|apply Kd.R_alloc|apply Kd.R_drewN|apply Kd.R_drew));exact HO_281002.out) hb)
       have n2_ := Aside0.mk (Kd.R_below (by (with_reducible repeat (first|apply Kd.R_alloc|apply Kd.R_drewN|apply Kd.R_drew));exact HO286.out) hb)
       have n3_ := Aside0.mk (Kd.R_below (by (with_reducible repeat (first|apply Kd.R_alloc|apply Kd.R_drewN|apply Kd.R_drew));exact HO289.out) hb)
       have n4_ := Aside0.mk (blk_below (g := gb258) (o := .cells #[.string a0_0,.slice A0_1 l0_1.length c0_1,.slice A0_2 l0_2.length c0_2,.string a0_3,.string a0_4] 25 (0,0)) (by (with_reducible repeat (first|refine bN ?_ _|refine bD ?_|refine bA ?_ _));exact BK258.out) hb)
       have n5_ := Aside0.mk (blk_below (g := gb280) (o := .cells #[.string t271,.slice Ao29 t272.length co29,.slice Ao30 t275.length co30,.string t278,.string t279] 31 (0,0)) (by (with_reducible repeat (first|refine bN ?_ _|refine bD ?_|refine bA ?_ _));exact BK280.out) hb)
       have n6_ := Aside0.mk (below_step (by repeat (first|(with_reducible first|exact HB.out|apply lA|apply lN|apply lD|refine below_set ?_ GE258.out|refine below_set ?_ GE280.out)|exact HB.out)) hb)
       clear HO_281001
       clear HO_281002
       clear HO286
       clear HO289
       clear BK258
       clear BK280
       clear HB
       have HO_281001 := n0_
       have HO_281002 := n1_
       have HO286 := n2_
       have HO289 := n3_
       have BK258 := n4_
       have BK280 := n5_
       have HB := n6_
       clear n0_ n1_ n2_ n3_ n4_ n5_ n6_
       (try clear hb)
       (try clear hb2)
       (try clear hk)
       (try clear hi)
       refine hK.out _ _ ⟨(blk_cell BK280.out 0).trans rfl,(blk_cell BK280.out 1).trans rfl,(blk_cell BK280.out 2).trans rfl,(blk_cell BK280.out 3).trans rfl,(blk_cell BK280.out 4).trans rfl,(blk_cell BK258.out 0).trans rfl,(blk_cell BK258.out 1).trans rfl,(blk_cell BK258.out 2).trans rfl,(blk_cell BK258.out 3).trans rfl,(blk_cell BK258.out 4).trans rfl⟩ (fun hHeld => ?_)
       clear hK K
       refine norm_ (a' := ?_) ?_ ?_
       rotate_left
       ·show Act.put _ (some 49) _ = _
        simp only [Act.put,List.setIfInBounds_toArray,List.set_cons_zero,List.set_cons_succ,i64_w,i32_w]
        rfl
       refine pure_ (i := 4) (N := some 50) (v := ?_) (a' := ?_) #[true,true,true,true,true] rfl rfl (by kernel_rfl) (fun _ _ _ h => h) (Or.inl ⟨by rfl,?_⟩) ?_ ?_
       rotate_left
       ·intro w'
        go_simp
        with_reducible rfl
       rotate_left
       ·simp only [Act.put,List.setIfInBounds_toArray,List.set_cons_zero,List.set_cons_succ,i64_w,i32_w]
        rfl
       refine done_ (by kernel_rfl) ?_
       try go_wp2
       go_ret
       exact ⟨by first|rfl|(simp [errW_none,errW_some] <;> rfl)|(simp [*,errW_none,errW_some] <;> rfl),by repeat (first|(with_reducible first|exact HB.out|apply lA|apply lN|apply lD|refine below_set ?_ GE258.out|refine below_set ?_ GE280.out)|exact HB.out)⟩
      ·replace c36 := Bool.eq_false_iff.mpr c36
       subst c36
       have H1 : (some false) = some r := by rw [if_neg (show ¬ (false = true) by decide)] at H;exact H
       clear H
       have H := H1
       clear H1
       exact absurd ((Option.some.inj H).trans hr_) (by decide)
def laws_FnExactTermFor.Pure : Prop := ∀ (a0 : S25) (a1 : ByteArray) (a2 : Int),(B25 a0) → (a1.size ≤ 140737488351232) → ((Lit.int .i64 a2).wf = true) → ∃ k,laws_FnExactTermFor.f k a0.f0 a0.f1 a0.f2 a0.f3 a0.f4 a1 a2 = some true
end Go.Proofs.Ytmkkcpdpfelalaa.P
