/- Written by a program in this session: each theorem here says that a Go function computes the Lean function beside it, or that a law's row holds, under the conditions that the theorem itself states. -/
import Derived.Test.YtmkkcpdpfelalaaZPx0
import Derived.Test.YtmkkcpdpfelalaaZPx1
namespace Go.Proofs.Ytmkkcpdpfelalaa.P
open Go.RowKit Go.Proofs.YtmkkcpdpfelalaaW.PrintWords Go.Proofs.YtmkkcpdpfelalaaW.PrintLast Go.Proofs.YtmkkcpdpfelalaaW.PrintMore
attribute [local go_sem] geqStr max2_int min2_int max_two min_two max_three min_three max_four min_four   -- for this text's walks alone
set_option linter.unusedVariables false
set_option linter.unusedSimpArgs false
mutual
def spec_l23Good.j0 : Nat → Bool → ByteArray → List (S61) → List (S72) → ByteArray → ByteArray → Option (Bool)
 | 0,_,_,_,_,_,_ => none
 | k + 1,x33,x117000,x117001,x117002,x117003,x117004 => if x33 = true then (some false) else (spec_l23Good.l0 k 0 x117000 x117001 x117002 x117003 x117004)
def spec_l23Good.l0 : Nat → Int → ByteArray → List (S61) → List (S72) → ByteArray → ByteArray → Option (Bool)
 | 0,_,_,_,_,_,_ => none
 | k + 1,x3,x117000,x117001,x117002,x117003,x117004 => if x3 < (x117001.length : Int) then (if 0 ≤ x3 then ((spec_l23Term.f k ((rd_T61 x117001 x3).f0) ((rd_T61 x117001 x3).f1) ((rd_T61 x117001 x3).f2)).bind fun t121 => (if t121 = true then (if x3 > 0 then (if 0 ≤ (wrap64 (x3 - 1)) then (if (wrap64 (x3 - 1)) < (x117001.length : Int) then (if ((Op.bytesLess (((rd_T61 x117001 (wrap64 (x3 - 1))).f0).toList) (((rd_T61 x117001 x3).f0).toList)) = true) then (spec_l23Good.l0 k (wrap64 (x3 + 1)) x117000 x117001 x117002 x117003 x117004) else (some false)) else (none)) else (none)) else (spec_l23Good.l0 k (wrap64 (x3 + 1)) x117000 x117001 x117002 x117003 x117004)) else (some false))) else (none)) else (spec_l23Good.l1 k 0 x117000 x117001 x117002 x117003 x117004)
def spec_l23Good.l1 : Nat → Int → ByteArray → List (S61) → List (S72) → ByteArray → ByteArray → Option (Bool)
 | 0,_,_,_,_,_,_ => none
 | k + 1,x4,x117000,x117001,x117002,x117003,x117004 => if x4 < (x117002.length : Int) then (if 0 ≤ x4 then ((spec_l1In.f ((rd_T72 x117002 x4).f0) 1 1000).bind fun t126 => (if t126 = true then ((spec_l1In.f ((rd_T72 x117002 x4).f1) 0 (wrap64 (((rd_T72 x117002 x4).f0) - 1))).bind fun t127 => (if t127 = true then ((spec_l23Bytes.f k ((rd_T72 x117002 x4).f2) 0 4 33).bind fun t128 => (if t128 = true then (spec_l23Good.l1 k (wrap64 (x4 + 1)) x117000 x117001 x117002 x117003 x117004) else (some false))) else (some false))) else (some false))) else (none)) else (some true)
end
def spec_l23Good.f (k : Nat) (a0_0 : ByteArray) (l0_1 : List (S61)) (l0_2 : List (S72)) (a0_3 : ByteArray) (a0_4 : ByteArray) : Option (Bool) := (spec_l23Key.f k a0_0).bind fun t117 => (if t117 = true then (if (l0_1.length : Int) > 12 then (spec_l23Good.j0 k true a0_0 l0_1 l0_2 a0_3 a0_4) else (if (l0_2.length : Int) > 6 then (spec_l23Good.j0 k true a0_0 l0_1 l0_2 a0_3 a0_4) else ((spec_l23Bytes.f k a0_3 1 10 32).bind fun t118 => (if t118 = true then ((spec_l23Bytes.f k a0_4 1 10 32).bind fun t119 => (spec_l23Good.j0 k (!t119) a0_0 l0_1 l0_2 a0_3 a0_4)) else (spec_l23Good.j0 k true a0_0 l0_1 l0_2 a0_3 a0_4))))) else (spec_l23Good.j0 k true a0_0 l0_1 l0_2 a0_3 a0_4))
theorem spec_l23Good.mono_l : ∀ k,(∀ y0 y1 y2 y3 y4 y5,LeO (spec_l23Good.j0 k y0 y1 y2 y3 y4 y5) (spec_l23Good.j0 (k + 1) y0 y1 y2 y3 y4 y5)) ∧ (∀ y0 y1 y2 y3 y4 y5,LeO (spec_l23Good.l0 k y0 y1 y2 y3 y4 y5) (spec_l23Good.l0 (k + 1) y0 y1 y2 y3 y4 y5)) ∧ (∀ y0 y1 y2 y3 y4 y5,LeO (spec_l23Good.l1 k y0 y1 y2 y3 y4 y5) (spec_l23Good.l1 (k + 1) y0 y1 y2 y3 y4 y5))
 | 0 => ⟨fun _ _ _ _ _ _ r h => by simp [spec_l23Good.j0] at h,fun _ _ _ _ _ _ r h => by simp [spec_l23Good.l0] at h,fun _ _ _ _ _ _ r h => by simp [spec_l23Good.l1] at h⟩
 | k + 1 => by
  obtain ⟨ih0,ih1,ih2⟩ := spec_l23Good.mono_l k
  refine ⟨?_,?_,?_⟩
  ·intro y0 y1 y2 y3 y4 y5
   unfold spec_l23Good.j0
   repeat' first
   | (with_reducible exact ih0 _ _ _ _ _ _)
   | (with_reducible exact ih1 _ _ _ _ _ _)
   | (with_reducible exact ih2 _ _ _ _ _ _)
   | (with_reducible exact spec_l23Bytes.mono _ _ _ _ _)
   | (with_reducible exact spec_l23Key.mono _ _)
   | (with_reducible exact spec_l23Term.mono _ _ _ _)
   | (with_reducible exact LeO.refl _)
   | (with_reducible exact LeO.none _)
   | (with_reducible refine LeO.ite ?_ ?_)
   | (with_reducible refine LeO.bind ?_ (fun _ => ?_))
   | exact ih0 _ _ _ _ _ _
   | exact ih1 _ _ _ _ _ _
   | exact ih2 _ _ _ _ _ _
   | exact spec_l23Bytes.mono _ _ _ _ _
   | exact spec_l23Key.mono _ _
   | exact spec_l23Term.mono _ _ _ _
   | exact LeO.none _
   | refine LeO.ite ?_ ?_
   | refine LeO.bind ?_ (fun _ => ?_)
  ·intro y0 y1 y2 y3 y4 y5
   unfold spec_l23Good.l0
   repeat' first
   | (with_reducible exact ih0 _ _ _ _ _ _)
   | (with_reducible exact ih1 _ _ _ _ _ _)
   | (with_reducible exact ih2 _ _ _ _ _ _)
   | (with_reducible exact spec_l23Bytes.mono _ _ _ _ _)
   | (with_reducible exact spec_l23Key.mono _ _)
   | (with_reducible exact spec_l23Term.mono _ _ _ _)
   | (with_reducible exact LeO.refl _)
   | (with_reducible exact LeO.none _)
   | (with_reducible refine LeO.ite ?_ ?_)
   | (with_reducible refine LeO.bind ?_ (fun _ => ?_))
   | exact ih0 _ _ _ _ _ _
   | exact ih1 _ _ _ _ _ _
   | exact ih2 _ _ _ _ _ _
   | exact spec_l23Bytes.mono _ _ _ _ _
   | exact spec_l23Key.mono _ _
   | exact spec_l23Term.mono _ _ _ _
   | exact LeO.none _
   | refine LeO.ite ?_ ?_
   | refine LeO.bind ?_ (fun _ => ?_)
  ·intro y0 y1 y2 y3 y4 y5
   unfold spec_l23Good.l1
   repeat' first
   | (with_reducible exact ih0 _ _ _ _ _ _)
   | (with_reducible exact ih1 _ _ _ _ _ _)
   | (with_reducible exact ih2 _ _ _ _ _ _)
   | (with_reducible exact spec_l23Bytes.mono _ _ _ _ _)
   | (with_reducible exact spec_l23Key.mono _ _)
   | (with_reducible exact spec_l23Term.mono _ _ _ _)
   | (with_reducible exact LeO.refl _)
   | (with_reducible exact LeO.none _)
   | (with_reducible refine LeO.ite ?_ ?_)
   | (with_reducible refine LeO.bind ?_ (fun _ => ?_))
   | exact ih0 _ _ _ _ _ _
   | exact ih1 _ _ _ _ _ _
   | exact ih2 _ _ _ _ _ _
   | exact spec_l23Bytes.mono _ _ _ _ _
   | exact spec_l23Key.mono _ _
   | exact spec_l23Term.mono _ _ _ _
   | exact LeO.none _
   | refine LeO.ite ?_ ?_
   | refine LeO.bind ?_ (fun _ => ?_)
theorem spec_l23Good.mono : ∀ a0 a1 a2 a3 a4 k,LeO (spec_l23Good.f k a0 a1 a2 a3 a4) (spec_l23Good.f (k + 1) a0 a1 a2 a3 a4) := by
 intro a0 a1 a2 a3 a4 k
 obtain ⟨ih0,ih1,ih2⟩ := spec_l23Good.mono_l k
 unfold spec_l23Good.f
 repeat' first
   | (with_reducible exact ih0 _ _ _ _ _ _)
   | (with_reducible exact ih1 _ _ _ _ _ _)
   | (with_reducible exact ih2 _ _ _ _ _ _)
   | (with_reducible exact spec_l23Bytes.mono _ _ _ _ _)
   | (with_reducible exact spec_l23Key.mono _ _)
   | (with_reducible exact spec_l23Term.mono _ _ _ _)
   | (with_reducible exact LeO.refl _)
   | (with_reducible exact LeO.none _)
   | (with_reducible refine LeO.ite ?_ ?_)
   | (with_reducible refine LeO.bind ?_ (fun _ => ?_))
   | exact ih0 _ _ _ _ _ _
   | exact ih1 _ _ _ _ _ _
   | exact ih2 _ _ _ _ _ _
   | exact spec_l23Bytes.mono _ _ _ _ _
   | exact spec_l23Key.mono _ _
   | exact spec_l23Term.mono _ _ _ _
   | exact LeO.none _
   | refine LeO.ite ?_ ?_
   | refine LeO.bind ?_ (fun _ => ?_)
def spec_l23Good.T6 : Bool × List (List Nat × List Nat) := (true,[([],[]),([0],[0]),([],[]),([1,2],[1,2]),([3],[3]),([4],[4]),([5],[5]),([6,5],[6]),([7],[7]),([8,7],[7,8]),([9,7,7],[7,9]),([10],[10]),([11,10],[10,11]),([10],[10]),([13,10],[10,13]),([12,14,10],[10,12,14]),([15,10],[10,15]),([16,10],[10,16]),([10],[10]),([18,10],[10,18]),([10],[10]),([19,20,10],[10,19,20]),([21,10],[10,21]),([22,10],[10,22]),([17,23,10],[10,17,23]),([10,24,7],[7,10,24]),([7,25],[7,25])])
def spec_l23Good.B6 : List Nat := [0,1,0,7,15,31,63,127,255,511,1023,2047,4095,2047,10239,32767,65535,131071,2047,264191,2047,1837055,3934207,8128511,16777215,33554431,67108863]
theorem spec_l23Good.tab6 : rtab .any (opsOf Try.f38 6) = spec_l23Good.T6 := by kernel_rfl
theorem spec_l23Good.bits6 : waitsOk spec_l23Good.T6.2 spec_l23Good.B6 = true := by kernel_rfl
set_option maxHeartbeats 8000000 in
set_option maxRecDepth 100000 in
theorem spec_l23Good.calls (k : Nat) (a0_0 : ByteArray) (A0_1 : Option Addr) (c0_1 : Nat) (l0_1 : List (S61)) (A0_2 : Option Addr) (c0_2 : Nat) (l0_2 : List (S72)) (a0_3 : ByteArray) (a0_4 : ByteArray) (r : Bool) (w : World) (hr0_1 : Kd.C k61 w A0_1 l0_1.length l0_1) (hc0_1 : l0_1.length ≤ c0_1) (hr0_2 : Kd.C k72 w A0_2 l0_2.length l0_2) (hc0_2 : l0_2.length ≤ c0_2) (h : spec_l23Good.f k a0_0 l0_1 l0_2 a0_3 a0_4 = some r) :
  Calls Try.prog 38 #[.agg #[.string a0_0,.slice A0_1 l0_1.length c0_1,.slice A0_2 l0_2.length c0_2,.string a0_3,.string a0_4]] w fun e w' => e = .returned (.bool r) ∧ Below w.heap.size w w' := by
 have hu31 := Try.underlying31
 have hu61 := Try.underlying61
 have hu72 := Try.underlying72
 have HR0_1 := Aside0.mk hr0_1
 have HC0_1 := Aside0.mk hc0_1
 clear hr0_1 hc0_1
 have HR0_2 := Aside0.mk hr0_2
 have HC0_2 := Aside0.mk hc0_2
 clear hr0_2 hc0_2
 have HB := Aside0.mk (Below.refl w.heap.size w)
 have H : ((spec_l23Key.f k a0_0).bind fun t117 => (if t117 = true then (if (l0_1.length : Int) > 12 then (spec_l23Good.j0 k true a0_0 l0_1 l0_2 a0_3 a0_4) else (if (l0_2.length : Int) > 6 then (spec_l23Good.j0 k true a0_0 l0_1 l0_2 a0_3 a0_4) else ((spec_l23Bytes.f k a0_3 1 10 32).bind fun t118 => (if t118 = true then ((spec_l23Bytes.f k a0_4 1 10 32).bind fun t119 => (spec_l23Good.j0 k (!t119) a0_0 l0_1 l0_2 a0_3 a0_4)) else (spec_l23Good.j0 k true a0_0 l0_1 l0_2 a0_3 a0_4))))) else (spec_l23Good.j0 k true a0_0 l0_1 l0_2 a0_3 a0_4))) = some r := h
 clear h
 have HC2 := Aside0.mk H
 clear H
 go_enter Try.func38,Try.ntmps38
 go_upto_region 1 with (first|((with_reducible refine gate_dst (N := 1) rfl ?_);(try (refine gate_guard (by rfl) ?_;dsimp only));refine box_event ?hg (N := 1) ?hd (cs := #[.string a0_0,.slice A0_1 l0_1.length c0_1,.slice A0_2 l0_2.length c0_2,.string a0_3,.string a0_4]) (t := 31) ?hr ?_;(case hd => rfl);(case hg => rfl);(case hr => first|(go_simp;done)|(go_simp;rfl));intro gb116 hg w3 hbox hb;have n0_ := Aside0.mk (below_step (by repeat (first|(with_reducible first|exact HB.out|apply lA|apply lN|apply lD)|exact HB.out)) hb);have n1_ := Aside0.mk (hbox);have n2_ := Aside0.mk ((by rw [hg];exact (below_size (by repeat (first|(with_reducible first|exact HB.out|apply lA|apply lN|apply lD)|exact HB.out))) : w.heap.size ≤ gb116));have n3_ := Aside0.mk ((by rw [hg];exact (below_size (by repeat (first|(with_reducible first|exact HB.out|apply lA|apply lN|apply lD)|exact HB.out))) : w.heap.size ≤ gb116));clear HB;have HB := n0_;have BK116 := n1_;have GW116 := n2_;have GE116 := n3_;clear n0_ n1_ n2_ n3_;clear hb hbox hg))
 (try simp only [Act.put,List.setIfInBounds_toArray,List.set_cons_zero,List.set_cons_succ])
 go_cut [33] (fun v33 wc => ∃ (kq : Nat) (x33_1 : Bool),v33 = .bool x33_1 ∧ Aside0 (spec_l23Good.j0 kq x33_1 a0_0 l0_1 l0_2 a0_3 a0_4 = some r) ∧ Aside0 (kq ≤ k) ∧ Aside0 (wc.heap[gb116]? = some (.cells #[.string a0_0,(.slice A0_1 l0_1.length c0_1),(.slice A0_2 l0_2.length c0_2),.string a0_3,.string a0_4] 31 (0,0))) ∧ Aside0 (Below w.heap.size w wc))
 case first =>
  have H := HC2.out
  clear HC2
  replace H := Option.bind_eq_some_iff.mp H
  obtain ⟨t117,A40,H⟩ := H
  replace H : (if t117 = true then (if (l0_1.length : Int) > 12 then (spec_l23Good.j0 k true a0_0 l0_1 l0_2 a0_3 a0_4) else (if (l0_2.length : Int) > 6 then (spec_l23Good.j0 k true a0_0 l0_1 l0_2 a0_3 a0_4) else ((spec_l23Bytes.f k a0_3 1 10 32).bind fun t118 => (if t118 = true then ((spec_l23Bytes.f k a0_4 1 10 32).bind fun t119 => (spec_l23Good.j0 k (!t119) a0_0 l0_1 l0_2 a0_3 a0_4)) else (spec_l23Good.j0 k true a0_0 l0_1 l0_2 a0_3 a0_4))))) else (spec_l23Good.j0 k true a0_0 l0_1 l0_2 a0_3 a0_4)) = some r := H
  have A4 := Aside0.mk A40
  clear A40
  by_cases c5 : t117 = true
  ·subst c5
   have H1 : (if (l0_1.length : Int) > 12 then (spec_l23Good.j0 k true a0_0 l0_1 l0_2 a0_3 a0_4) else (if (l0_2.length : Int) > 6 then (spec_l23Good.j0 k true a0_0 l0_1 l0_2 a0_3 a0_4) else ((spec_l23Bytes.f k a0_3 1 10 32).bind fun t118 => (if t118 = true then ((spec_l23Bytes.f k a0_4 1 10 32).bind fun t119 => (spec_l23Good.j0 k (!t119) a0_0 l0_1 l0_2 a0_3 a0_4)) else (spec_l23Good.j0 k true a0_0 l0_1 l0_2 a0_3 a0_4))))) = some r := by rw [if_pos rfl] at H;exact H
   clear H
   have H := H1
   clear H1
   by_cases c6 : (l0_1.length : Int) > 12
   ·rw [if_pos c6] at H
    have c6b0 : decide (12 < (l0_1.length : Int)) = true := decide_eq_true c6
    have c6b1 : decide (12 < l0_1.length) = true := decide_eq_true (by omega)
    clear c6
    (first|rw [c6b0]|(simp only [i64_w,i32_w];rw [c6b0])|skip)
    have H' := Aside0.mk H
    clear H
    have hcz7_0 : w3.cell? ⟨gb116,0,none⟩ = some (.string a0_0) := (blk_cell BK116.out 0).trans rfl
    have hcz7_1 : w3.cell? ⟨gb116,1,none⟩ = some (.slice A0_1 l0_1.length c0_1) := (blk_cell BK116.out 1).trans rfl
    have hcz7_2 : w3.cell? ⟨gb116,2,none⟩ = some (.slice A0_2 l0_2.length c0_2) := (blk_cell BK116.out 2).trans rfl
    have hcz7_3 : w3.cell? ⟨gb116,3,none⟩ = some (.string a0_3) := (blk_cell BK116.out 3).trans rfl
    have hcz7_4 : w3.cell? ⟨gb116,4,none⟩ = some (.string a0_4) := (blk_cell BK116.out 4).trans rfl
    have hfz7_0 := blk_frozen BK116.out 0
    have hfz7_1 := blk_frozen BK116.out 1
    have hfz7_2 := blk_frozen BK116.out 2
    have hfz7_3 := blk_frozen BK116.out 3
    have hfz7_4 := blk_frozen BK116.out 4
    go_wp2_with (first|((with_reducible refine gate_callee (f := 70) rfl ?_);refine goesL_ (some 8) rfl rfl Try.func70 (by kernel_rfl) rfl #[.string a0_0] rfl (by (try simp only [List.map_toArray,List.map_cons,List.map_nil]);first|done|rfl|(simp only [List.length_drop,List.length_take];rfl)) ?_;(with_reducible refine (spec_l23Key.calls k a0_0 true _ A4.out).mono ?_);rintro e w' ⟨rfl,⟨nd,rfl⟩⟩;refine ⟨_,rfl,?_⟩))
    go_meet
    case rel => exact ⟨_,(true),(by first|rfl|(simp;done)|(simp [my_isEmpty];done)|(simp [*];done)),H',⟨by first|omega|exact Nat.le_refl _⟩,⟨by (with_reducible repeat (first|refine bN ?_ _|refine bD ?_|refine bA ?_ _));exact BK116.out⟩,⟨by repeat (first|(with_reducible first|exact HB.out|apply lA|apply lN|apply lD|refine below_set ?_ GE116.out)|exact HB.out)⟩⟩
   ·rw [if_neg c6] at H
    have c6b0 : decide (12 < (l0_1.length : Int)) = false := decide_eq_false c6
    have c6b1 : decide (12 < l0_1.length) = false := decide_eq_false (by omega)
    clear c6
    (first|rw [c6b0]|(simp only [i64_w,i32_w];rw [c6b0])|skip)
    by_cases c8 : (l0_2.length : Int) > 6
    ·rw [if_pos c8] at H
     have c8b0 : decide (6 < (l0_2.length : Int)) = true := decide_eq_true c8
     have c8b1 : decide (6 < l0_2.length) = true := decide_eq_true (by omega)
     clear c8
     have H' := Aside0.mk H
     clear H
     have hcz9_0 : w3.cell? ⟨gb116,0,none⟩ = some (.string a0_0) := (blk_cell BK116.out 0).trans rfl
     have hcz9_1 : w3.cell? ⟨gb116,1,none⟩ = some (.slice A0_1 l0_1.length c0_1) := (blk_cell BK116.out 1).trans rfl
     have hcz9_2 : w3.cell? ⟨gb116,2,none⟩ = some (.slice A0_2 l0_2.length c0_2) := (blk_cell BK116.out 2).trans rfl
     have hcz9_3 : w3.cell? ⟨gb116,3,none⟩ = some (.string a0_3) := (blk_cell BK116.out 3).trans rfl
     have hcz9_4 : w3.cell? ⟨gb116,4,none⟩ = some (.string a0_4) := (blk_cell BK116.out 4).trans rfl
     have hfz9_0 := blk_frozen BK116.out 0
     have hfz9_1 := blk_frozen BK116.out 1
     have hfz9_2 := blk_frozen BK116.out 2
     have hfz9_3 := blk_frozen BK116.out 3
     have hfz9_4 := blk_frozen BK116.out 4
     go_wp2_with (first|((with_reducible refine gate_callee (f := 70) rfl ?_);refine goesL_ (some 8) rfl rfl Try.func70 (by kernel_rfl) rfl #[.string a0_0] rfl (by (try simp only [List.map_toArray,List.map_cons,List.map_nil]);first|done|rfl|(simp only [List.length_drop,List.length_take];rfl)) ?_;(with_reducible refine (spec_l23Key.calls k a0_0 true _ A4.out).mono ?_);rintro e w' ⟨rfl,⟨nd,rfl⟩⟩;refine ⟨_,rfl,?_⟩))
     go_meet
     case rel => exact ⟨_,(true),(by first|rfl|(simp;done)|(simp [my_isEmpty];done)|(simp [*];done)),H',⟨by first|omega|exact Nat.le_refl _⟩,⟨by (with_reducible repeat (first|refine bN ?_ _|refine bD ?_|refine bA ?_ _));exact BK116.out⟩,⟨by repeat (first|(with_reducible first|exact HB.out|apply lA|apply lN|apply lD|refine below_set ?_ GE116.out)|exact HB.out)⟩⟩
    ·rw [if_neg c8] at H
     have c8b0 : decide (6 < (l0_2.length : Int)) = false := decide_eq_false c8
     have c8b1 : decide (6 < l0_2.length) = false := decide_eq_false (by omega)
     clear c8
     replace H := Option.bind_eq_some_iff.mp H
     obtain ⟨t118,A100,H⟩ := H
     replace H : (if t118 = true then ((spec_l23Bytes.f k a0_4 1 10 32).bind fun t119 => (spec_l23Good.j0 k (!t119) a0_0 l0_1 l0_2 a0_3 a0_4)) else (spec_l23Good.j0 k true a0_0 l0_1 l0_2 a0_3 a0_4)) = some r := H
     have A10 := Aside0.mk A100
     clear A100
     by_cases c11 : t118 = true
     ·subst c11
      have H1 : ((spec_l23Bytes.f k a0_4 1 10 32).bind fun t119 => (spec_l23Good.j0 k (!t119) a0_0 l0_1 l0_2 a0_3 a0_4)) = some r := by rw [if_pos rfl] at H;exact H
      clear H
      have H := H1
      clear H1
      replace H := Option.bind_eq_some_iff.mp H
      obtain ⟨t119,A120,H⟩ := H
      replace H : (spec_l23Good.j0 k (!t119) a0_0 l0_1 l0_2 a0_3 a0_4) = some r := H
      have A12 := Aside0.mk A120
      clear A120
      have H' := Aside0.mk H
      clear H
      have hcz13_0 : w3.cell? ⟨gb116,0,none⟩ = some (.string a0_0) := (blk_cell BK116.out 0).trans rfl
      have hcz13_1 : w3.cell? ⟨gb116,1,none⟩ = some (.slice A0_1 l0_1.length c0_1) := (blk_cell BK116.out 1).trans rfl
      have hcz13_2 : w3.cell? ⟨gb116,2,none⟩ = some (.slice A0_2 l0_2.length c0_2) := (blk_cell BK116.out 2).trans rfl
      have hcz13_3 : w3.cell? ⟨gb116,3,none⟩ = some (.string a0_3) := (blk_cell BK116.out 3).trans rfl
      have hcz13_4 : w3.cell? ⟨gb116,4,none⟩ = some (.string a0_4) := (blk_cell BK116.out 4).trans rfl
      have hfz13_0 := blk_frozen BK116.out 0
      have hfz13_1 := blk_frozen BK116.out 1
      have hfz13_2 := blk_frozen BK116.out 2
      have hfz13_3 := blk_frozen BK116.out 3
      have hfz13_4 := blk_frozen BK116.out 4
      go_wp2_with (first|((with_reducible refine gate_callee (f := 70) rfl ?_);refine goesL_ (some 8) rfl rfl Try.func70 (by kernel_rfl) rfl #[.string a0_0] rfl (by (try simp only [List.map_toArray,List.map_cons,List.map_nil]);first|done|rfl|(simp only [List.length_drop,List.length_take];rfl)) ?_;(with_reducible refine (spec_l23Key.calls k a0_0 true _ A4.out).mono ?_);rintro e w' ⟨rfl,⟨nd,rfl⟩⟩;refine ⟨_,rfl,?_⟩)|(go_at_call 59;(with_reducible refine (spec_l23Bytes.calls k a0_3 1 10 32 true _ A10.out).mono ?_);rintro e w' ⟨rfl,⟨nd,rfl⟩⟩)|(go_at_call 59;(with_reducible refine (spec_l23Bytes.calls k a0_4 1 10 32 t119 _ A12.out).mono ?_);rintro e w' ⟨rfl,⟨nd,rfl⟩⟩))
      go_meet
      case rel => exact ⟨_,(!t119),(by first|rfl|(simp;done)|(simp [my_isEmpty];done)|(simp [*];done)),H',⟨by first|omega|exact Nat.le_refl _⟩,⟨by (with_reducible repeat (first|refine bN ?_ _|refine bD ?_|refine bA ?_ _));exact BK116.out⟩,⟨by repeat (first|(with_reducible first|exact HB.out|apply lA|apply lN|apply lD|refine below_set ?_ GE116.out)|exact HB.out)⟩⟩
     ·replace c11 := Bool.eq_false_iff.mpr c11
      subst c11
      have H1 : (spec_l23Good.j0 k true a0_0 l0_1 l0_2 a0_3 a0_4) = some r := by rw [if_neg (show ¬ (false = true) by decide)] at H;exact H
      clear H
      have H := H1
      clear H1
      have H' := Aside0.mk H
      clear H
      have hcz14_0 : w3.cell? ⟨gb116,0,none⟩ = some (.string a0_0) := (blk_cell BK116.out 0).trans rfl
      have hcz14_1 : w3.cell? ⟨gb116,1,none⟩ = some (.slice A0_1 l0_1.length c0_1) := (blk_cell BK116.out 1).trans rfl
      have hcz14_2 : w3.cell? ⟨gb116,2,none⟩ = some (.slice A0_2 l0_2.length c0_2) := (blk_cell BK116.out 2).trans rfl
      have hcz14_3 : w3.cell? ⟨gb116,3,none⟩ = some (.string a0_3) := (blk_cell BK116.out 3).trans rfl
      have hcz14_4 : w3.cell? ⟨gb116,4,none⟩ = some (.string a0_4) := (blk_cell BK116.out 4).trans rfl
      have hfz14_0 := blk_frozen BK116.out 0
      have hfz14_1 := blk_frozen BK116.out 1
      have hfz14_2 := blk_frozen BK116.out 2
      have hfz14_3 := blk_frozen BK116.out 3
      have hfz14_4 := blk_frozen BK116.out 4
      go_wp2_with (first|((with_reducible refine gate_callee (f := 70) rfl ?_);refine goesL_ (some 8) rfl rfl Try.func70 (by kernel_rfl) rfl #[.string a0_0] rfl (by (try simp only [List.map_toArray,List.map_cons,List.map_nil]);first|done|rfl|(simp only [List.length_drop,List.length_take];rfl)) ?_;(with_reducible refine (spec_l23Key.calls k a0_0 true _ A4.out).mono ?_);rintro e w' ⟨rfl,⟨nd,rfl⟩⟩;refine ⟨_,rfl,?_⟩)|(go_at_call 59;(with_reducible refine (spec_l23Bytes.calls k a0_3 1 10 32 false _ A10.out).mono ?_);rintro e w' ⟨rfl,⟨nd,rfl⟩⟩))
      go_meet
      case rel => exact ⟨_,(true),(by first|rfl|(simp;done)|(simp [my_isEmpty];done)|(simp [*];done)),H',⟨by first|omega|exact Nat.le_refl _⟩,⟨by (with_reducible repeat (first|refine bN ?_ _|refine bD ?_|refine bA ?_ _));exact BK116.out⟩,⟨by repeat (first|(with_reducible first|exact HB.out|apply lA|apply lN|apply lD|refine below_set ?_ GE116.out)|exact HB.out)⟩⟩
  ·replace c5 := Bool.eq_false_iff.mpr c5
   subst c5
   have H1 : (spec_l23Good.j0 k true a0_0 l0_1 l0_2 a0_3 a0_4) = some r := by rw [if_neg (show ¬ (false = true) by decide)] at H;exact H
   clear H
   have H := H1
   clear H1
   have H' := Aside0.mk H
   clear H
   have hcz15_0 : w3.cell? ⟨gb116,0,none⟩ = some (.string a0_0) := (blk_cell BK116.out 0).trans rfl
   have hcz15_1 : w3.cell? ⟨gb116,1,none⟩ = some (.slice A0_1 l0_1.length c0_1) := (blk_cell BK116.out 1).trans rfl
   have hcz15_2 : w3.cell? ⟨gb116,2,none⟩ = some (.slice A0_2 l0_2.length c0_2) := (blk_cell BK116.out 2).trans rfl
   have hcz15_3 : w3.cell? ⟨gb116,3,none⟩ = some (.string a0_3) := (blk_cell BK116.out 3).trans rfl
   have hcz15_4 : w3.cell? ⟨gb116,4,none⟩ = some (.string a0_4) := (blk_cell BK116.out 4).trans rfl
   have hfz15_0 := blk_frozen BK116.out 0
   have hfz15_1 := blk_frozen BK116.out 1
   have hfz15_2 := blk_frozen BK116.out 2
   have hfz15_3 := blk_frozen BK116.out 3
   have hfz15_4 := blk_frozen BK116.out 4
   go_wp2_with (first|((with_reducible refine gate_callee (f := 70) rfl ?_);refine goesL_ (some 8) rfl rfl Try.func70 (by kernel_rfl) rfl #[.string a0_0] rfl (by (try simp only [List.map_toArray,List.map_cons,List.map_nil]);first|done|rfl|(simp only [List.length_drop,List.length_take];rfl)) ?_;(with_reducible refine (spec_l23Key.calls k a0_0 false _ A4.out).mono ?_);rintro e w' ⟨rfl,⟨nd,rfl⟩⟩;refine ⟨_,rfl,?_⟩))
   go_meet
   case rel => exact ⟨_,(true),(by first|rfl|(simp;done)|(simp [my_isEmpty];done)|(simp [*];done)),H',⟨by first|omega|exact Nat.le_refl _⟩,⟨by (with_reducible repeat (first|refine bN ?_ _|refine bD ?_|refine bA ?_ _));exact BK116.out⟩,⟨by repeat (first|(with_reducible first|exact HB.out|apply lA|apply lN|apply lD|refine below_set ?_ GE116.out)|exact HB.out)⟩⟩
 case rest =>
  clear HC2
  try clear c1
  try clear p2
  try clear c3
  try clear c5
  try clear c6
  try clear c6b0
  try clear c6b1
  try clear c7
  try clear c8
  try clear c8b0
  try clear c8b1
  try clear c11
  try clear hcz13_0
  try clear hcz13_1
  try clear hcz13_2
  try clear hcz13_3
  try clear hcz13_4
  try clear hcz14_0
  try clear hcz14_1
  try clear hcz14_2
  try clear hcz14_3
  try clear hcz14_4
  try clear hcz15_0
  try clear hcz15_1
  try clear hcz15_2
  try clear hcz15_3
  try clear hcz15_4
  try clear hcz7_0
  try clear hcz7_1
  try clear hcz7_2
  try clear hcz7_3
  try clear hcz7_4
  try clear hcz9_0
  try clear hcz9_1
  try clear hcz9_2
  try clear hcz9_3
  try clear hcz9_4
  try clear hfz13_0
  try clear hfz13_1
  try clear hfz13_2
  try clear hfz13_3
  try clear hfz13_4
  try clear hfz14_0
  try clear hfz14_1
  try clear hfz14_2
  try clear hfz14_3
  try clear hfz14_4
  try clear hfz15_0
  try clear hfz15_1
  try clear hfz15_2
  try clear hfz15_3
  try clear hfz15_4
  try clear hfz7_0
  try clear hfz7_1
  try clear hfz7_2
  try clear hfz7_3
  try clear hfz7_4
  try clear hfz9_0
  try clear hfz9_1
  try clear hfz9_2
  try clear hfz9_3
  try clear hfz9_4
  obtain ⟨kq,x33_1,rfl,HA,HJ1,BK116,HB⟩ := hcut
  cases kq with
  | zero => exact absurd HA.out (by simp [spec_l23Good.j0])
  | succ kj1 =>
   have H := HA.out
   clear HA
   simp only [spec_l23Good.j0] at H
   by_cases c16 : x33_1 = true
   ·subst c16
    have H1 : (some false) = some r := by rw [if_pos rfl] at H;exact H
    clear H
    have H := H1
    clear H1
    obtain rfl := Option.some.inj H
    simp only [Option.some.injEq,Prod.mk.injEq] at H
    obtain ⟨rfl⟩ := H
    go_wp2
    go_ret
    exact ⟨by first|rfl|(simp [errW_none,errW_some] <;> rfl)|(simp [*,errW_none,errW_some] <;> rfl),by repeat (first|(with_reducible first|exact HB.out|apply lA|apply lN|apply lD|refine below_set ?_ GE116.out)|exact HB.out)⟩
   ·replace c16 := Bool.eq_false_iff.mpr c16
    subst c16
    have H1 : (spec_l23Good.l0 kj1 0 a0_0 l0_1 l0_2 a0_3 a0_4) = some r := by rw [if_neg (show ¬ (false = true) by decide)] at H;exact H
    clear H
    have H := H1
    clear H1
    have H' := Aside0.mk H
    clear H
    go_wp2
    go_loopg [3] kj1 (fun kq v3 w' => ∃ (x3_2 : Int),v3 = .int .i64 x3_2 ∧ Aside0 (spec_l23Good.l0 kq x3_2 a0_0 l0_1 l0_2 a0_3 a0_4 = some r) ∧ Aside0 (kq ≤ kj1) ∧ Aside0 (w'.heap[gb116]? = some (.cells #[.string a0_0,(.slice A0_1 l0_1.length c0_1),(.slice A0_2 l0_2.length c0_2),.string a0_3,.string a0_4] 31 (0,0))) ∧ Aside0 (Below w.heap.size w w'))
    case atStart => exact ⟨(0),(by first|rfl|(simp;done)|(simp [my_isEmpty];done)|(simp [*];done)),H',⟨Nat.le_refl _⟩,⟨by (with_reducible repeat (first|refine bN ?_ _|refine bD ?_|refine bA ?_ _));exact BK116.out⟩,⟨by repeat (first|(with_reducible first|exact HB.out|apply lA|apply lN|apply lD|refine below_set ?_ GE116.out)|exact HB.out)⟩⟩
    case round =>
     clear H'
     try clear c1
     try clear p2
     try clear c3
     try clear c5
     try clear c6
     try clear c6b0
     try clear c6b1
     try clear c7
     try clear c8
     try clear c8b0
     try clear c8b1
     try clear c11
     try clear c16
     try clear hcz13_0
     try clear hcz13_1
     try clear hcz13_2
     try clear hcz13_3
     try clear hcz13_4
     try clear hcz14_0
     try clear hcz14_1
     try clear hcz14_2
     try clear hcz14_3
     try clear hcz14_4
     try clear hcz15_0
     try clear hcz15_1
     try clear hcz15_2
     try clear hcz15_3
     try clear hcz15_4
     try clear hcz7_0
     try clear hcz7_1
     try clear hcz7_2
     try clear hcz7_3
     try clear hcz7_4
     try clear hcz9_0
     try clear hcz9_1
     try clear hcz9_2
     try clear hcz9_3
     try clear hcz9_4
     try clear hfz13_0
     try clear hfz13_1
     try clear hfz13_2
     try clear hfz13_3
     try clear hfz13_4
     try clear hfz14_0
     try clear hfz14_1
     try clear hfz14_2
     try clear hfz14_3
     try clear hfz14_4
     try clear hfz15_0
     try clear hfz15_1
     try clear hfz15_2
     try clear hfz15_3
     try clear hfz15_4
     try clear hfz7_0
     try clear hfz7_1
     try clear hfz7_2
     try clear hfz7_3
     try clear hfz7_4
     try clear hfz9_0
     try clear hfz9_1
     try clear hfz9_2
     try clear hfz9_3
     try clear hfz9_4
     try clear p2
     obtain ⟨x3_2,rfl,HA,HK2,BK116,HB⟩ := hrel
     cases gk with
     | zero => exact absurd HA.out (by simp [spec_l23Good.l0])
     | succ k2 =>
      have H := HA.out
      clear HA
      simp only [spec_l23Good.l0] at H
      by_cases c17 : x3_2 < (l0_1.length : Int)
      ·rw [if_pos c17] at H
       have c17b0 : decide (x3_2 < (l0_1.length : Int)) = true := decide_eq_true c17
       clear c17
       by_cases c18 : 0 ≤ x3_2
       ·rw [if_pos c18] at H
        have c18b0 : decide (0 ≤ x3_2) = true := decide_eq_true c18
        clear c18
        replace H := Option.bind_eq_some_iff.mp H
        obtain ⟨t121,A190,H⟩ := H
        replace H : (if t121 = true then (if x3_2 > 0 then (if 0 ≤ (wrap64 (x3_2 - 1)) then (if (wrap64 (x3_2 - 1)) < (l0_1.length : Int) then (if ((Op.bytesLess (((rd_T61 l0_1 (wrap64 (x3_2 - 1))).f0).toList) (((rd_T61 l0_1 x3_2).f0).toList)) = true) then (spec_l23Good.l0 k2 (wrap64 (x3_2 + 1)) a0_0 l0_1 l0_2 a0_3 a0_4) else (some false)) else (none)) else (none)) else (spec_l23Good.l0 k2 (wrap64 (x3_2 + 1)) a0_0 l0_1 l0_2 a0_3 a0_4)) else (some false)) = some r := H
        have A19 := Aside0.mk A190
        clear A190
        by_cases c20 : t121 = true
        ·subst c20
         have H1 : (if x3_2 > 0 then (if 0 ≤ (wrap64 (x3_2 - 1)) then (if (wrap64 (x3_2 - 1)) < (l0_1.length : Int) then (if ((Op.bytesLess (((rd_T61 l0_1 (wrap64 (x3_2 - 1))).f0).toList) (((rd_T61 l0_1 x3_2).f0).toList)) = true) then (spec_l23Good.l0 k2 (wrap64 (x3_2 + 1)) a0_0 l0_1 l0_2 a0_3 a0_4) else (some false)) else (none)) else (none)) else (spec_l23Good.l0 k2 (wrap64 (x3_2 + 1)) a0_0 l0_1 l0_2 a0_3 a0_4)) = some r := by rw [if_pos rfl] at H;exact H
         clear H
         have H := H1
         clear H1
         by_cases c21 : x3_2 > 0
         ·rw [if_pos c21] at H
          have c21b0 : decide (0 < x3_2) = true := decide_eq_true c21
          clear c21
          obtain ⟨ji22,hji22⟩ : ∃ j_ : Int,(wrap64 (x3_2 - 1)) = j_ := ⟨_,rfl⟩
          replace H : (if 0 ≤ (ji22) then (if (ji22) < (l0_1.length : Int) then (if ((Op.bytesLess (((rd_T61 l0_1 (ji22)).f0).toList) (((rd_T61 l0_1 x3_2).f0).toList)) = true) then (spec_l23Good.l0 k2 (wrap64 (x3_2 + 1)) a0_0 l0_1 l0_2 a0_3 a0_4) else (some false)) else (none)) else (none)) = some r := by first|(rw [hji22] at H;exact H)|(simp only [hji22] at H ⊢;exact H)
          (try rw [hji22] at A19)
          have hji22w : (IntKind.i64.wrap (x3_2 - 1)) = ji22 := (i64_w _).trans hji22
          by_cases c23 : 0 ≤ (ji22)
          ·rw [if_pos c23] at H
           have c23b0 : decide (0 ≤ (ji22)) = true := decide_eq_true c23
           clear c23
           by_cases c24 : (ji22) < (l0_1.length : Int)
           ·rw [if_pos c24] at H
            have c24b0 : decide ((ji22) < (l0_1.length : Int)) = true := decide_eq_true c24
            clear c24
            by_cases c25 : ((Op.bytesLess (((rd_T61 l0_1 (ji22)).f0).toList) (((rd_T61 l0_1 x3_2).f0).toList)) = true)
            ·rw [if_pos c25] at H
             have c25b0 : (Op.bytesLess (((rd_T61 l0_1 (ji22)).f0).toList) (((rd_T61 l0_1 x3_2).f0).toList)) = true := c25
             clear c25
             have H' := Aside0.mk H
             clear H
             have hcz26_0 : wr.cell? ⟨gb116,0,none⟩ = some (.string a0_0) := (blk_cell BK116.out 0).trans rfl
             have hcz26_1 : wr.cell? ⟨gb116,1,none⟩ = some (.slice A0_1 l0_1.length c0_1) := (blk_cell BK116.out 1).trans rfl
             have hcz26_2 : wr.cell? ⟨gb116,2,none⟩ = some (.slice A0_2 l0_2.length c0_2) := (blk_cell BK116.out 2).trans rfl
             have hcz26_3 : wr.cell? ⟨gb116,3,none⟩ = some (.string a0_3) := (blk_cell BK116.out 3).trans rfl
             have hcz26_4 : wr.cell? ⟨gb116,4,none⟩ = some (.string a0_4) := (blk_cell BK116.out 4).trans rfl
             have hfz26_0 := blk_frozen BK116.out 0
             have hfz26_1 := blk_frozen BK116.out 1
             have hfz26_2 := blk_frozen BK116.out 2
             have hfz26_3 := blk_frozen BK116.out 3
             have hfz26_4 := blk_frozen BK116.out 4
             try go_wp2
             have n0_ := Aside0.mk (bD BK116.out)
             have n1_ := Aside0.mk (lD HB.out)
             clear BK116
             clear HB
             have BK116 := n0_
             have HB := n1_
             clear n0_ n1_
             have p120 : 0 ≤ (x3_2 : Int) := of_decide_eq_true (by first|(with_reducible assumption)|assumption)
             have q120 : x3_2 < (l0_1.length : Int) := of_decide_eq_true (by first|(with_reducible assumption)|assumption)
             obtain ⟨ad120,e120,hx120_0,hx120_1,hx120_2⟩ := at_T61 HR0_1.out x3_2 p120 q120
             have hw120_2 := hx120_2
             have hw120_1 := hx120_1
             have hw120_0 := hx120_0
             cases e120
             replace hx120_0 := (HB.out.cell (World.block_lt_of_cell? w _ hx120_0)).trans hx120_0
             replace hx120_1 := (HB.out.cell (World.block_lt_of_cell? w _ hx120_1)).trans hx120_1
             replace hx120_2 := (HB.out.cell (World.block_lt_of_cell? w _ hx120_2)).trans hx120_2
             replace p120 := eq_true p120
             replace q120 := eq_true q120
             have p122 : 0 ≤ ((ji22) : Int) := of_decide_eq_true (by first|(with_reducible assumption)|assumption)
             have q122 : (ji22) < (l0_1.length : Int) := of_decide_eq_true (by first|(with_reducible assumption)|assumption)
             obtain ⟨ad122,e122,hx122_0,hx122_1,hx122_2⟩ := at_T61 HR0_1.out (ji22) p122 q122
             have hw122_2 := hx122_2
             have hw122_1 := hx122_1
             have hw122_0 := hx122_0
             obtain rfl : ad120 = ad122 := (by injection e122)
             replace hx122_0 := (HB.out.cell (World.block_lt_of_cell? w _ hx122_0)).trans hx122_0
             replace hx122_1 := (HB.out.cell (World.block_lt_of_cell? w _ hx122_1)).trans hx122_1
             replace hx122_2 := (HB.out.cell (World.block_lt_of_cell? w _ hx122_2)).trans hx122_2
             replace p122 := eq_true p122
             replace q122 := eq_true q122
             have p123 : 0 ≤ (x3_2 : Int) := of_decide_eq_true (by first|(with_reducible assumption)|assumption)
             have q123 : x3_2 < (l0_1.length : Int) := of_decide_eq_true (by first|(with_reducible assumption)|assumption)
             obtain ⟨ad123,e123,hx123_0,hx123_1,hx123_2⟩ := at_T61 HR0_1.out x3_2 p123 q123
             have hw123_2 := hx123_2
             have hw123_1 := hx123_1
             have hw123_0 := hx123_0
             obtain rfl : ad120 = ad123 := (by injection e123)
             replace hx123_0 := (HB.out.cell (World.block_lt_of_cell? w _ hx123_0)).trans hx123_0
             replace hx123_1 := (HB.out.cell (World.block_lt_of_cell? w _ hx123_1)).trans hx123_1
             replace hx123_2 := (HB.out.cell (World.block_lt_of_cell? w _ hx123_2)).trans hx123_2
             replace p123 := eq_true p123
             replace q123 := eq_true q123
             refine start_ (n := 27) (S := fun w' => w'.cell? ⟨gb116,0,none⟩ = some (.string a0_0) ∧ w'.cell? ⟨gb116,1,none⟩ = some (.slice (some ad120) l0_1.length c0_1) ∧ w'.cell? ⟨gb116,2,none⟩ = some (.slice A0_2 l0_2.length c0_2) ∧ w'.cell? ⟨gb116,3,none⟩ = some (.string a0_3) ∧ w'.cell? ⟨gb116,4,none⟩ = some (.string a0_4) ∧ w'.cell? (ad120.add ((x3_2).toNat * 3)) = some (.string ((rd_T61 l0_1 x3_2).f0)) ∧ w'.cell? ⟨(ad120.add ((x3_2).toNat * 3)).block,(ad120.add ((x3_2).toNat * 3)).off + 1,none⟩ = some (.string ((rd_T61 l0_1 x3_2).f1)) ∧ w'.cell? ⟨(ad120.add ((x3_2).toNat * 3)).block,(ad120.add ((x3_2).toNat * 3)).off + 2,none⟩ = some (.string ((rd_T61 l0_1 x3_2).f2)) ∧ w'.cell? (ad120.add (((ji22)).toNat * 3)) = some (.string ((rd_T61 l0_1 (ji22)).f0)) ∧ w'.cell? ⟨(ad120.add (((ji22)).toNat * 3)).block,(ad120.add (((ji22)).toNat * 3)).off + 1,none⟩ = some (.string ((rd_T61 l0_1 (ji22)).f1)) ∧ w'.cell? ⟨(ad120.add (((ji22)).toNat * 3)).block,(ad120.add (((ji22)).toNat * 3)).off + 2,none⟩ = some (.string ((rd_T61 l0_1 (ji22)).f2)) ∧ w'.cell? (ad120.add ((x3_2).toNat * 3)) = some (.string ((rd_T61 l0_1 x3_2).f0)) ∧ w'.cell? ⟨(ad120.add ((x3_2).toNat * 3)).block,(ad120.add ((x3_2).toNat * 3)).off + 1,none⟩ = some (.string ((rd_T61 l0_1 x3_2).f1)) ∧ w'.cell? ⟨(ad120.add ((x3_2).toNat * 3)).block,(ad120.add ((x3_2).toNat * 3)).off + 2,none⟩ = some (.string ((rd_T61 l0_1 x3_2).f2))) (ds := []) #[false,false,false,false,false,false,false,false,false,false,false,false,false,false,false,false,false,false,false,false,false,false,false,false,false,false,false] (by kernel_rfl) rfl rfl ⟨(blk_cell BK116.out 0).trans rfl,(blk_cell BK116.out 1).trans rfl,(blk_cell BK116.out 2).trans rfl,(blk_cell BK116.out 3).trans rfl,(blk_cell BK116.out 4).trans rfl,((HB.out.cell (World.block_lt_of_cell? w _ hw120_0)).trans hw120_0),((HB.out.cell (World.block_lt_of_cell? w _ hw120_1)).trans hw120_1),((HB.out.cell (World.block_lt_of_cell? w _ hw120_2)).trans hw120_2),((HB.out.cell (World.block_lt_of_cell? w _ hw122_0)).trans hw122_0),((HB.out.cell (World.block_lt_of_cell? w _ hw122_1)).trans hw122_1),((HB.out.cell (World.block_lt_of_cell? w _ hw122_2)).trans hw122_2),((HB.out.cell (World.block_lt_of_cell? w _ hw123_0)).trans hw123_0),((HB.out.cell (World.block_lt_of_cell? w _ hw123_1)).trans hw123_1),((HB.out.cell (World.block_lt_of_cell? w _ hw123_2)).trans hw123_2)⟩ (fun hHeld => ?_);refine with_tabW spec_l23Good.tab6 spec_l23Good.bits6 (fun HT_ HW_ => ?_)
             generalize wr.drew = w27 at BK116 HB hx120_0 hx120_1 hx120_2 hx122_0 hx122_1 hx122_2 hx123_0 hx123_1 hx123_2 hHeld ⊢
             refine pure_ (i := 0) (N := some 41) (v := ?_) (a' := ?_) #[true,false,false,false,false,false,false,false,false,false,false,false,false,false,false,false,false,false,false,false,false,false,false,false,false,false,false] rfl rfl (any_of HT_.out (by kernel_rfl)) (fun _ _ _ h => h) (Or.inl ⟨by rfl,?_⟩) ?_ ?_
             rotate_left
             ·intro w'
              go_simp
              with_reducible rfl
             rotate_left
             ·simp only [Act.put,List.setIfInBounds_toArray,List.set_cons_zero,List.set_cons_succ,i64_w,i32_w]
              rfl
             refine pure_ (i := 2) (N := some 43) (v := ?_) (a' := ?_) #[true,false,true,false,false,false,false,false,false,false,false,false,false,false,false,false,false,false,false,false,false,false,false,false,false,false,false] rfl rfl (any_of HT_.out (by kernel_rfl)) (fun _ _ _ h => h) (Or.inl ⟨by rfl,?_⟩) ?_ ?_
             rotate_left
             ·intro w'
              go_simp
              with_reducible rfl
             rotate_left
             ·simp only [Act.put,List.setIfInBounds_toArray,List.set_cons_zero,List.set_cons_succ,i64_w,i32_w]
              rfl
             refine take_ (i := 1) (N := some 42) (v := ?_) (a' := ?_) #[true,true,true,false,false,false,false,false,false,false,false,false,false,false,false,false,false,false,false,false,false,false,false,false,false,false,false] rfl rfl (take_ofW HT_.out HW_.out (by kernel_rfl)) (fun _ _ _ h => h) (Or.inl ⟨by rfl,?_⟩) hHeld ?_ ?_
             rotate_left
             ·rintro w' ⟨s0,s1,s2,s3,s4,s5,s6,s7,s8,s9,s10,s11,s12,s13⟩
              go_simp
              with_reducible rfl
             rotate_left
             ·simp only [Act.put,List.setIfInBounds_toArray,List.set_cons_zero,List.set_cons_succ,i64_w,i32_w]
              rfl
             refine pure_ (i := 3) (N := some 44) (v := ?_) (a' := ?_) #[true,true,true,true,false,false,false,false,false,false,false,false,false,false,false,false,false,false,false,false,false,false,false,false,false,false,false] rfl rfl (any_of HT_.out (by kernel_rfl)) (fun _ _ _ h => h) (Or.inl ⟨by rfl,?_⟩) ?_ ?_
             rotate_left
             ·intro w'
              go_simp
              with_reducible rfl
             rotate_left
             ·simp only [Act.put,List.setIfInBounds_toArray,List.set_cons_zero,List.set_cons_succ,i64_w,i32_w]
              rfl
             refine take_ (i := 4) (N := some 45) (v := ?_) (a' := ?_) #[true,true,true,true,true,false,false,false,false,false,false,false,false,false,false,false,false,false,false,false,false,false,false,false,false,false,false] rfl rfl (take_ofW HT_.out HW_.out (by kernel_rfl)) (fun _ _ _ h => h) (Or.inl ⟨by rfl,?_⟩) hHeld ?_ ?_
             rotate_left
             ·rintro w' ⟨s0,s1,s2,s3,s4,s5,s6,s7,s8,s9,s10,s11,s12,s13⟩
              go_simp
              with_reducible rfl
             rotate_left
             ·simp only [Act.put,List.setIfInBounds_toArray,List.set_cons_zero,List.set_cons_succ,i64_w,i32_w]
              rfl
             refine one_ (i := 5) (N := some 46) #[true,true,true,true,true,true,false,false,false,false,false,false,false,false,false,false,false,false,false,false,false,false,false,false,false,false,false] rfl rfl (one_of HT_.out (by kernel_rfl)) (by decide) (fun K hK => ?_)
             refine goes_ Try.func71 (by kernel_rfl) rfl #[.agg #[.string ((rd_T61 l0_1 x3_2).f0),.string ((rd_T61 l0_1 x3_2).f1),.string ((rd_T61 l0_1 x3_2).f2)]] (by rfl) rfl rfl (by (try simp only [List.map_toArray,List.map_cons,List.map_nil]);first|done|rfl|(simp only [List.length_drop,List.length_take];rfl)) ?_
             with_reducible refine (spec_l23Term.calls k2 ((rd_T61 l0_1 x3_2).f0) ((rd_T61 l0_1 x3_2).f1) ((rd_T61 l0_1 x3_2).f2) true _ A19.out).mono ?_
             rintro e w28 ⟨rfl,hb⟩
             refine ⟨_,rfl,?_⟩
             have n0_ := Aside0.mk (blk_below (g := gb116) (o := .cells #[.string a0_0,.slice (some ad120) l0_1.length c0_1,.slice A0_2 l0_2.length c0_2,.string a0_3,.string a0_4] 31 (0,0)) (by (with_reducible repeat (first|refine bN ?_ _|refine bD ?_|refine bA ?_ _));exact BK116.out) hb)
             have n1_ := Aside0.mk (below_step (by repeat (first|(with_reducible first|exact HB.out|apply lA|apply lN|apply lD|refine below_set ?_ GE116.out)|exact HB.out)) hb)
             clear BK116
             clear HB
             have BK116 := n0_
             have HB := n1_
             clear n0_ n1_
             (try clear hb)
             (try clear hb2)
             (try clear hk)
             (try clear hi)
             refine hK.out _ _ ⟨(blk_cell BK116.out 0).trans rfl,(blk_cell BK116.out 1).trans rfl,(blk_cell BK116.out 2).trans rfl,(blk_cell BK116.out 3).trans rfl,(blk_cell BK116.out 4).trans rfl,((HB.out.cell (World.block_lt_of_cell? w _ hw120_0)).trans hw120_0),((HB.out.cell (World.block_lt_of_cell? w _ hw120_1)).trans hw120_1),((HB.out.cell (World.block_lt_of_cell? w _ hw120_2)).trans hw120_2),((HB.out.cell (World.block_lt_of_cell? w _ hw122_0)).trans hw122_0),((HB.out.cell (World.block_lt_of_cell? w _ hw122_1)).trans hw122_1),((HB.out.cell (World.block_lt_of_cell? w _ hw122_2)).trans hw122_2),((HB.out.cell (World.block_lt_of_cell? w _ hw123_0)).trans hw123_0),((HB.out.cell (World.block_lt_of_cell? w _ hw123_1)).trans hw123_1),((HB.out.cell (World.block_lt_of_cell? w _ hw123_2)).trans hw123_2)⟩ (fun hHeld => ?_)
             clear hK K
             refine norm_ (a' := ?_) ?_ ?_
             rotate_left
             ·show Act.put _ (some 46) _ = _
              simp only [Act.put,List.setIfInBounds_toArray,List.set_cons_zero,List.set_cons_succ,i64_w,i32_w]
              rfl
             refine pure_ (i := 6) (N := some 47) (v := ?_) (a' := ?_) #[true,true,true,true,true,true,true,false,false,false,false,false,false,false,false,false,false,false,false,false,false,false,false,false,false,false,false] rfl rfl (any_of HT_.out (by kernel_rfl)) (fun _ _ _ h => h) (Or.inl ⟨by rfl,?_⟩) ?_ ?_
             rotate_left
             ·intro w'
              go_simp
              with_reducible rfl
             rotate_left
             ·simp only [Act.put,List.setIfInBounds_toArray,List.set_cons_zero,List.set_cons_succ,i64_w,i32_w]
              rfl
             refine pure_ (i := 7) (N := some 48) (v := ?_) (a' := ?_) #[true,true,true,true,true,true,true,true,false,false,false,false,false,false,false,false,false,false,false,false,false,false,false,false,false,false,false] rfl rfl (any_of HT_.out (by kernel_rfl)) (fun _ _ _ h => h) (Or.inl ⟨by rfl,?_⟩) ?_ ?_
             rotate_left
             ·intro w'
              go_simp
              with_reducible rfl
             rotate_left
             ·simp only [Act.put,List.setIfInBounds_toArray,List.set_cons_zero,List.set_cons_succ,i64_w,i32_w]
              rfl
             refine pure_ (i := 8) (N := some 49) (v := ?_) (a' := ?_) #[true,true,true,true,true,true,true,true,true,false,false,false,false,false,false,false,false,false,false,false,false,false,false,false,false,false,false] rfl rfl (any_of HT_.out (by kernel_rfl)) (fun _ _ _ h => h) (Or.inl ⟨by rfl,?_⟩) ?_ ?_
             rotate_left
             ·intro w'
              go_simp
              with_reducible rfl
             rotate_left
             ·simp only [Act.put,List.setIfInBounds_toArray,List.set_cons_zero,List.set_cons_succ,i64_w,i32_w]
              rfl
             refine pure_ (i := 9) (N := some 50) (v := ?_) (a' := ?_) #[true,true,true,true,true,true,true,true,true,true,false,false,false,false,false,false,false,false,false,false,false,false,false,false,false,false,false] rfl rfl (any_of HT_.out (by kernel_rfl)) (fun _ _ _ h => h) (Or.inl ⟨by rfl,?_⟩) ?_ ?_
             rotate_left
             ·intro w'
              go_simp
              with_reducible rfl
             rotate_left
             ·simp only [Act.put,List.setIfInBounds_toArray,List.set_cons_zero,List.set_cons_succ,i64_w,i32_w]
              rfl
             refine pure_ (i := 10) (N := some 51) (v := ?_) (a' := ?_) #[true,true,true,true,true,true,true,true,true,true,true,false,false,false,false,false,false,false,false,false,false,false,false,false,false,false,false] rfl rfl (any_of HT_.out (by kernel_rfl)) (fun _ _ _ h => h) (Or.inl ⟨by rfl,?_⟩) ?_ ?_
             rotate_left
             ·intro w'
              go_simp
              with_reducible rfl
             rotate_left
             ·simp only [Act.put,List.setIfInBounds_toArray,List.set_cons_zero,List.set_cons_succ,i64_w,i32_w]
              rfl
             refine pure_ (i := 11) (N := some 52) (v := ?_) (a' := ?_) #[true,true,true,true,true,true,true,true,true,true,true,true,false,false,false,false,false,false,false,false,false,false,false,false,false,false,false] rfl rfl (any_of HT_.out (by kernel_rfl)) (fun _ _ _ h => h) (Or.inl ⟨by rfl,?_⟩) ?_ ?_
             rotate_left
             ·intro w'
              go_simp
              with_reducible rfl
             rotate_left
             ·simp only [Act.put,List.setIfInBounds_toArray,List.set_cons_zero,List.set_cons_succ,i64_w,i32_w]
              rfl
             refine pure_ (i := 13) (N := some 54) (v := ?_) (a' := ?_) #[true,true,true,true,true,true,true,true,true,true,true,true,false,true,false,false,false,false,false,false,false,false,false,false,false,false,false] rfl rfl (any_of HT_.out (by kernel_rfl)) (fun _ _ _ h => h) (Or.inl ⟨by rfl,?_⟩) ?_ ?_
             rotate_left
             ·intro w'
              go_simp
              with_reducible rfl
             rotate_left
             ·simp only [Act.put,List.setIfInBounds_toArray,List.set_cons_zero,List.set_cons_succ,i64_w,i32_w]
              rfl
             refine pure_ (i := 14) (N := some 55) (v := ?_) (a' := ?_) #[true,true,true,true,true,true,true,true,true,true,true,true,false,true,true,false,false,false,false,false,false,false,false,false,false,false,false] rfl rfl (any_of HT_.out (by kernel_rfl)) (fun _ _ _ h => h) (Or.inl ⟨by rfl,?_⟩) ?_ ?_
             rotate_left
             ·intro w'
              go_simp
              with_reducible rfl
             rotate_left
             ·simp only [Act.put,List.setIfInBounds_toArray,List.set_cons_zero,List.set_cons_succ,i64_w,i32_w]
              rfl
             refine pure_ (i := 18) (N := some 59) (v := ?_) (a' := ?_) #[true,true,true,true,true,true,true,true,true,true,true,true,false,true,true,false,false,false,true,false,false,false,false,false,false,false,false] rfl rfl (any_of HT_.out (by kernel_rfl)) (fun _ _ _ h => h) (Or.inl ⟨by rfl,?_⟩) ?_ ?_
             rotate_left
             ·intro w'
              go_simp
              with_reducible rfl
             rotate_left
             ·simp only [Act.put,List.setIfInBounds_toArray,List.set_cons_zero,List.set_cons_succ,i64_w,i32_w]
              rfl
             refine pure_ (i := 20) (N := some 61) (v := ?_) (a' := ?_) #[true,true,true,true,true,true,true,true,true,true,true,true,false,true,true,false,false,false,true,false,true,false,false,false,false,false,false] rfl rfl (any_of HT_.out (by kernel_rfl)) (fun _ _ _ h => h) (Or.inl ⟨by rfl,?_⟩) ?_ ?_
             rotate_left
             ·intro w'
              go_simp
              with_reducible rfl
             rotate_left
             ·simp only [Act.put,List.setIfInBounds_toArray,List.set_cons_zero,List.set_cons_succ,i64_w,i32_w]
              rfl
             refine take_ (i := 12) (N := some 53) (v := ?_) (a' := ?_) #[true,true,true,true,true,true,true,true,true,true,true,true,true,true,true,false,false,false,true,false,true,false,false,false,false,false,false] rfl rfl (take_ofW HT_.out HW_.out (by kernel_rfl)) (fun _ _ _ h => h) (Or.inl ⟨by rfl,?_⟩) hHeld ?_ ?_
             rotate_left
             ·rintro w' ⟨s0,s1,s2,s3,s4,s5,s6,s7,s8,s9,s10,s11,s12,s13⟩
              go_simp
              with_reducible rfl
             rotate_left
             ·simp only [Act.put,List.setIfInBounds_toArray,List.set_cons_zero,List.set_cons_succ,i64_w,i32_w]
              rfl
             refine pure_ (i := 15) (N := some 56) (v := ?_) (a' := ?_) #[true,true,true,true,true,true,true,true,true,true,true,true,true,true,true,true,false,false,true,false,true,false,false,false,false,false,false] rfl rfl (any_of HT_.out (by kernel_rfl)) (fun _ _ _ h => h) (Or.inl ⟨by rfl,?_⟩) ?_ ?_
             rotate_left
             ·intro w'
              go_simp
              with_reducible rfl
             rotate_left
             ·simp only [Act.put,List.setIfInBounds_toArray,List.set_cons_zero,List.set_cons_succ,i64_w,i32_w]
              rfl
             refine pure_ (i := 16) (N := some 57) (v := ?_) (a' := ?_) #[true,true,true,true,true,true,true,true,true,true,true,true,true,true,true,true,true,false,true,false,true,false,false,false,false,false,false] rfl rfl (any_of HT_.out (by kernel_rfl)) (fun _ _ _ h => h) (Or.inl ⟨by rfl,?_⟩) ?_ ?_
             rotate_left
             ·intro w'
              go_simp
              with_reducible rfl
             rotate_left
             ·simp only [Act.put,List.setIfInBounds_toArray,List.set_cons_zero,List.set_cons_succ,i64_w,i32_w]
              rfl
             refine take_ (i := 17) (N := some 58) (v := ?_) (a' := ?_) #[true,true,true,true,true,true,true,true,true,true,true,true,true,true,true,true,true,true,true,false,true,false,false,false,false,false,false] rfl rfl (take_ofW HT_.out HW_.out (by kernel_rfl)) (fun _ _ _ h => h) (Or.inl ⟨by rfl,?_⟩) hHeld ?_ ?_
             rotate_left
             ·rintro w' ⟨s0,s1,s2,s3,s4,s5,s6,s7,s8,s9,s10,s11,s12,s13⟩
              go_simp
              with_reducible rfl
             rotate_left
             ·simp only [Act.put,List.setIfInBounds_toArray,List.set_cons_zero,List.set_cons_succ,i64_w,i32_w]
              rfl
             refine take_ (i := 19) (N := some 60) (v := ?_) (a' := ?_) #[true,true,true,true,true,true,true,true,true,true,true,true,true,true,true,true,true,true,true,true,true,false,false,false,false,false,false] rfl rfl (take_ofW HT_.out HW_.out (by kernel_rfl)) (fun _ _ _ h => h) (Or.inl ⟨by rfl,?_⟩) hHeld ?_ ?_
             rotate_left
             ·rintro w' ⟨s0,s1,s2,s3,s4,s5,s6,s7,s8,s9,s10,s11,s12,s13⟩
              go_simp
              with_reducible rfl
             rotate_left
             ·simp only [Act.put,List.setIfInBounds_toArray,List.set_cons_zero,List.set_cons_succ,i64_w,i32_w]
              rfl
             refine pure_ (i := 21) (N := some 62) (v := ?_) (a' := ?_) #[true,true,true,true,true,true,true,true,true,true,true,true,true,true,true,true,true,true,true,true,true,true,false,false,false,false,false] rfl rfl (any_of HT_.out (by kernel_rfl)) (fun _ _ _ h => h) (Or.inl ⟨by rfl,?_⟩) ?_ ?_
             rotate_left
             ·intro w'
              go_simp
              with_reducible rfl
             rotate_left
             ·simp only [Act.put,List.setIfInBounds_toArray,List.set_cons_zero,List.set_cons_succ,i64_w,i32_w]
              rfl
             refine pure_ (i := 22) (N := some 63) (v := ?_) (a' := ?_) #[true,true,true,true,true,true,true,true,true,true,true,true,true,true,true,true,true,true,true,true,true,true,true,false,false,false,false] rfl rfl (any_of HT_.out (by kernel_rfl)) (fun _ _ _ h => h) (Or.inl ⟨by rfl,?_⟩) ?_ ?_
             rotate_left
             ·intro w'
              go_simp
              with_reducible rfl
             rotate_left
             ·simp only [Act.put,List.setIfInBounds_toArray,List.set_cons_zero,List.set_cons_succ,i64_w,i32_w]
              rfl
             refine take_ (i := 23) (N := some 64) (v := ?_) (a' := ?_) #[true,true,true,true,true,true,true,true,true,true,true,true,true,true,true,true,true,true,true,true,true,true,true,true,false,false,false] rfl rfl (take_ofW HT_.out HW_.out (by kernel_rfl)) (fun _ _ _ h => h) (Or.inl ⟨by rfl,?_⟩) hHeld ?_ ?_
             rotate_left
             ·rintro w' ⟨s0,s1,s2,s3,s4,s5,s6,s7,s8,s9,s10,s11,s12,s13⟩
              go_simp
              with_reducible rfl
             rotate_left
             ·simp only [Act.put,List.setIfInBounds_toArray,List.set_cons_zero,List.set_cons_succ,i64_w,i32_w]
              rfl
             refine pure_ (i := 24) (N := some 65) (v := ?_) (a' := ?_) #[true,true,true,true,true,true,true,true,true,true,true,true,true,true,true,true,true,true,true,true,true,true,true,true,true,false,false] rfl rfl (any_of HT_.out (by kernel_rfl)) (fun _ _ _ h => h) (Or.inl ⟨by rfl,?_⟩) ?_ ?_
             rotate_left
             ·intro w'
              go_simp
              with_reducible rfl
             rotate_left
             ·simp only [Act.put,List.setIfInBounds_toArray,List.set_cons_zero,List.set_cons_succ,i64_w,i32_w]
              rfl
             refine pure_ (i := 25) (N := some 66) (v := ?_) (a' := ?_) #[true,true,true,true,true,true,true,true,true,true,true,true,true,true,true,true,true,true,true,true,true,true,true,true,true,true,false] rfl rfl (any_of HT_.out (by kernel_rfl)) (fun _ _ _ h => h) (Or.inl ⟨by rfl,?_⟩) ?_ ?_
             rotate_left
             ·intro w'
              go_simp
              with_reducible rfl
             rotate_left
             ·simp only [Act.put,List.setIfInBounds_toArray,List.set_cons_zero,List.set_cons_succ,i64_w,i32_w]
              rfl
             refine pure_ (i := 26) (N := some 67) (v := ?_) (a' := ?_) #[true,true,true,true,true,true,true,true,true,true,true,true,true,true,true,true,true,true,true,true,true,true,true,true,true,true,true] rfl rfl (any_of HT_.out (by kernel_rfl)) (fun _ _ _ h => h) (Or.inl ⟨by rfl,?_⟩) ?_ ?_
             rotate_left
             ·intro w'
              go_simp
              with_reducible rfl
             rotate_left
             ·simp only [Act.put,List.setIfInBounds_toArray,List.set_cons_zero,List.set_cons_succ,i64_w,i32_w]
              rfl
             refine done_ (done_of HT_.out (by kernel_rfl)) ?_
             try go_wp2
             go_roundg k2
             case measure => have := HJ1.out;have := HK2.out;omega
             case rel => exact ⟨(wrap64 (x3_2 + 1)),(by first|rfl|(simp;done)|(simp [my_isEmpty];done)|(simp [*];done)),H',⟨by have := HJ1.out;have := HK2.out;omega⟩,⟨by (with_reducible repeat (first|refine bN ?_ _|refine bD ?_|refine bA ?_ _));exact BK116.out⟩,⟨by repeat (first|(with_reducible first|exact HB.out|apply lA|apply lN|apply lD|refine below_set ?_ GE116.out)|exact HB.out)⟩⟩
            ·rw [if_neg c25] at H
             have c25b0 : (Op.bytesLess (((rd_T61 l0_1 (ji22)).f0).toList) (((rd_T61 l0_1 x3_2).f0).toList)) = false := by simpa using c25
             clear c25
             obtain rfl := Option.some.inj H
             simp only [Option.some.injEq,Prod.mk.injEq] at H
             obtain ⟨rfl⟩ := H
             have hcz29_0 : wr.cell? ⟨gb116,0,none⟩ = some (.string a0_0) := (blk_cell BK116.out 0).trans rfl
             have hcz29_1 : wr.cell? ⟨gb116,1,none⟩ = some (.slice A0_1 l0_1.length c0_1) := (blk_cell BK116.out 1).trans rfl
             have hcz29_2 : wr.cell? ⟨gb116,2,none⟩ = some (.slice A0_2 l0_2.length c0_2) := (blk_cell BK116.out 2).trans rfl
             have hcz29_3 : wr.cell? ⟨gb116,3,none⟩ = some (.string a0_3) := (blk_cell BK116.out 3).trans rfl
             have hcz29_4 : wr.cell? ⟨gb116,4,none⟩ = some (.string a0_4) := (blk_cell BK116.out 4).trans rfl
             have hfz29_0 := blk_frozen BK116.out 0
             have hfz29_1 := blk_frozen BK116.out 1
             have hfz29_2 := blk_frozen BK116.out 2
             have hfz29_3 := blk_frozen BK116.out 3
             have hfz29_4 := blk_frozen BK116.out 4
             try go_wp2
             have n0_ := Aside0.mk (bD BK116.out)
             have n1_ := Aside0.mk (lD HB.out)
             clear BK116
             clear HB
             have BK116 := n0_
             have HB := n1_
             clear n0_ n1_
             have p120 : 0 ≤ (x3_2 : Int) := of_decide_eq_true (by first|(with_reducible assumption)|assumption)
             have q120 : x3_2 < (l0_1.length : Int) := of_decide_eq_true (by first|(with_reducible assumption)|assumption)
             obtain ⟨ad120,e120,hx120_0,hx120_1,hx120_2⟩ := at_T61 HR0_1.out x3_2 p120 q120
             have hw120_2 := hx120_2
             have hw120_1 := hx120_1
             have hw120_0 := hx120_0
             cases e120
             replace hx120_0 := (HB.out.cell (World.block_lt_of_cell? w _ hx120_0)).trans hx120_0
             replace hx120_1 := (HB.out.cell (World.block_lt_of_cell? w _ hx120_1)).trans hx120_1
             replace hx120_2 := (HB.out.cell (World.block_lt_of_cell? w _ hx120_2)).trans hx120_2
             replace p120 := eq_true p120
             replace q120 := eq_true q120
             have p122 : 0 ≤ ((ji22) : Int) := of_decide_eq_true (by first|(with_reducible assumption)|assumption)
             have q122 : (ji22) < (l0_1.length : Int) := of_decide_eq_true (by first|(with_reducible assumption)|assumption)
             obtain ⟨ad122,e122,hx122_0,hx122_1,hx122_2⟩ := at_T61 HR0_1.out (ji22) p122 q122
             have hw122_2 := hx122_2
             have hw122_1 := hx122_1
             have hw122_0 := hx122_0
             obtain rfl : ad120 = ad122 := (by injection e122)
             replace hx122_0 := (HB.out.cell (World.block_lt_of_cell? w _ hx122_0)).trans hx122_0
             replace hx122_1 := (HB.out.cell (World.block_lt_of_cell? w _ hx122_1)).trans hx122_1
             replace hx122_2 := (HB.out.cell (World.block_lt_of_cell? w _ hx122_2)).trans hx122_2
             replace p122 := eq_true p122
             replace q122 := eq_true q122
             have p123 : 0 ≤ (x3_2 : Int) := of_decide_eq_true (by first|(with_reducible assumption)|assumption)
             have q123 : x3_2 < (l0_1.length : Int) := of_decide_eq_true (by first|(with_reducible assumption)|assumption)
             obtain ⟨ad123,e123,hx123_0,hx123_1,hx123_2⟩ := at_T61 HR0_1.out x3_2 p123 q123
             have hw123_2 := hx123_2
             have hw123_1 := hx123_1
             have hw123_0 := hx123_0
             obtain rfl : ad120 = ad123 := (by injection e123)
             replace hx123_0 := (HB.out.cell (World.block_lt_of_cell? w _ hx123_0)).trans hx123_0
             replace hx123_1 := (HB.out.cell (World.block_lt_of_cell? w _ hx123_1)).trans hx123_1
             replace hx123_2 := (HB.out.cell (World.block_lt_of_cell? w _ hx123_2)).trans hx123_2
             replace p123 := eq_true p123
             replace q123 := eq_true q123
             refine start_ (n := 27) (S := fun w' => w'.cell? ⟨gb116,0,none⟩ = some (.string a0_0) ∧ w'.cell? ⟨gb116,1,none⟩ = some (.slice (some ad120) l0_1.length c0_1) ∧ w'.cell? ⟨gb116,2,none⟩ = some (.slice A0_2 l0_2.length c0_2) ∧ w'.cell? ⟨gb116,3,none⟩ = some (.string a0_3) ∧ w'.cell? ⟨gb116,4,none⟩ = some (.string a0_4) ∧ w'.cell? (ad120.add ((x3_2).toNat * 3)) = some (.string ((rd_T61 l0_1 x3_2).f0)) ∧ w'.cell? ⟨(ad120.add ((x3_2).toNat * 3)).block,(ad120.add ((x3_2).toNat * 3)).off + 1,none⟩ = some (.string ((rd_T61 l0_1 x3_2).f1)) ∧ w'.cell? ⟨(ad120.add ((x3_2).toNat * 3)).block,(ad120.add ((x3_2).toNat * 3)).off + 2,none⟩ = some (.string ((rd_T61 l0_1 x3_2).f2)) ∧ w'.cell? (ad120.add (((ji22)).toNat * 3)) = some (.string ((rd_T61 l0_1 (ji22)).f0)) ∧ w'.cell? ⟨(ad120.add (((ji22)).toNat * 3)).block,(ad120.add (((ji22)).toNat * 3)).off + 1,none⟩ = some (.string ((rd_T61 l0_1 (ji22)).f1)) ∧ w'.cell? ⟨(ad120.add (((ji22)).toNat * 3)).block,(ad120.add (((ji22)).toNat * 3)).off + 2,none⟩ = some (.string ((rd_T61 l0_1 (ji22)).f2)) ∧ w'.cell? (ad120.add ((x3_2).toNat * 3)) = some (.string ((rd_T61 l0_1 x3_2).f0)) ∧ w'.cell? ⟨(ad120.add ((x3_2).toNat * 3)).block,(ad120.add ((x3_2).toNat * 3)).off + 1,none⟩ = some (.string ((rd_T61 l0_1 x3_2).f1)) ∧ w'.cell? ⟨(ad120.add ((x3_2).toNat * 3)).block,(ad120.add ((x3_2).toNat * 3)).off + 2,none⟩ = some (.string ((rd_T61 l0_1 x3_2).f2))) (ds := []) #[false,false,false,false,false,false,false,false,false,false,false,false,false,false,false,false,false,false,false,false,false,false,false,false,false,false,false] (by kernel_rfl) rfl rfl ⟨(blk_cell BK116.out 0).trans rfl,(blk_cell BK116.out 1).trans rfl,(blk_cell BK116.out 2).trans rfl,(blk_cell BK116.out 3).trans rfl,(blk_cell BK116.out 4).trans rfl,((HB.out.cell (World.block_lt_of_cell? w _ hw120_0)).trans hw120_0),((HB.out.cell (World.block_lt_of_cell? w _ hw120_1)).trans hw120_1),((HB.out.cell (World.block_lt_of_cell? w _ hw120_2)).trans hw120_2),((HB.out.cell (World.block_lt_of_cell? w _ hw122_0)).trans hw122_0),((HB.out.cell (World.block_lt_of_cell? w _ hw122_1)).trans hw122_1),((HB.out.cell (World.block_lt_of_cell? w _ hw122_2)).trans hw122_2),((HB.out.cell (World.block_lt_of_cell? w _ hw123_0)).trans hw123_0),((HB.out.cell (World.block_lt_of_cell? w _ hw123_1)).trans hw123_1),((HB.out.cell (World.block_lt_of_cell? w _ hw123_2)).trans hw123_2)⟩ (fun hHeld => ?_);refine with_tabW spec_l23Good.tab6 spec_l23Good.bits6 (fun HT_ HW_ => ?_)
             generalize wr.drew = w30 at BK116 HB hx120_0 hx120_1 hx120_2 hx122_0 hx122_1 hx122_2 hx123_0 hx123_1 hx123_2 hHeld ⊢
             refine pure_ (i := 0) (N := some 41) (v := ?_) (a' := ?_) #[true,false,false,false,false,false,false,false,false,false,false,false,false,false,false,false,false,false,false,false,false,false,false,false,false,false,false] rfl rfl (any_of HT_.out (by kernel_rfl)) (fun _ _ _ h => h) (Or.inl ⟨by rfl,?_⟩) ?_ ?_
             rotate_left
             ·intro w'
              go_simp
              with_reducible rfl
             rotate_left
             ·simp only [Act.put,List.setIfInBounds_toArray,List.set_cons_zero,List.set_cons_succ,i64_w,i32_w]
              rfl
             refine pure_ (i := 2) (N := some 43) (v := ?_) (a' := ?_) #[true,false,true,false,false,false,false,false,false,false,false,false,false,false,false,false,false,false,false,false,false,false,false,false,false,false,false] rfl rfl (any_of HT_.out (by kernel_rfl)) (fun _ _ _ h => h) (Or.inl ⟨by rfl,?_⟩) ?_ ?_
             rotate_left
             ·intro w'
              go_simp
              with_reducible rfl
             rotate_left
             ·simp only [Act.put,List.setIfInBounds_toArray,List.set_cons_zero,List.set_cons_succ,i64_w,i32_w]
              rfl
             refine take_ (i := 1) (N := some 42) (v := ?_) (a' := ?_) #[true,true,true,false,false,false,false,false,false,false,false,false,false,false,false,false,false,false,false,false,false,false,false,false,false,false,false] rfl rfl (take_ofW HT_.out HW_.out (by kernel_rfl)) (fun _ _ _ h => h) (Or.inl ⟨by rfl,?_⟩) hHeld ?_ ?_
             rotate_left
             ·rintro w' ⟨s0,s1,s2,s3,s4,s5,s6,s7,s8,s9,s10,s11,s12,s13⟩
              go_simp
              with_reducible rfl
             rotate_left
             ·simp only [Act.put,List.setIfInBounds_toArray,List.set_cons_zero,List.set_cons_succ,i64_w,i32_w]
              rfl
             refine pure_ (i := 3) (N := some 44) (v := ?_) (a' := ?_) #[true,true,true,true,false,false,false,false,false,false,false,false,false,false,false,false,false,false,false,false,false,false,false,false,false,false,false] rfl rfl (any_of HT_.out (by kernel_rfl)) (fun _ _ _ h => h) (Or.inl ⟨by rfl,?_⟩) ?_ ?_
             rotate_left
             ·intro w'
              go_simp
              with_reducible rfl
             rotate_left
             ·simp only [Act.put,List.setIfInBounds_toArray,List.set_cons_zero,List.set_cons_succ,i64_w,i32_w]
              rfl
             refine take_ (i := 4) (N := some 45) (v := ?_) (a' := ?_) #[true,true,true,true,true,false,false,false,false,false,false,false,false,false,false,false,false,false,false,false,false,false,false,false,false,false,false] rfl rfl (take_ofW HT_.out HW_.out (by kernel_rfl)) (fun _ _ _ h => h) (Or.inl ⟨by rfl,?_⟩) hHeld ?_ ?_
             rotate_left
             ·rintro w' ⟨s0,s1,s2,s3,s4,s5,s6,s7,s8,s9,s10,s11,s12,s13⟩
              go_simp
              with_reducible rfl
             rotate_left
             ·simp only [Act.put,List.setIfInBounds_toArray,List.set_cons_zero,List.set_cons_succ,i64_w,i32_w]
              rfl
             refine one_ (i := 5) (N := some 46) #[true,true,true,true,true,true,false,false,false,false,false,false,false,false,false,false,false,false,false,false,false,false,false,false,false,false,false] rfl rfl (one_of HT_.out (by kernel_rfl)) (by decide) (fun K hK => ?_)
             refine goes_ Try.func71 (by kernel_rfl) rfl #[.agg #[.string ((rd_T61 l0_1 x3_2).f0),.string ((rd_T61 l0_1 x3_2).f1),.string ((rd_T61 l0_1 x3_2).f2)]] (by rfl) rfl rfl (by (try simp only [List.map_toArray,List.map_cons,List.map_nil]);first|done|rfl|(simp only [List.length_drop,List.length_take];rfl)) ?_
             with_reducible refine (spec_l23Term.calls k2 ((rd_T61 l0_1 x3_2).f0) ((rd_T61 l0_1 x3_2).f1) ((rd_T61 l0_1 x3_2).f2) true _ A19.out).mono ?_
             rintro e w31 ⟨rfl,hb⟩
             refine ⟨_,rfl,?_⟩
             have n0_ := Aside0.mk (blk_below (g := gb116) (o := .cells #[.string a0_0,.slice (some ad120) l0_1.length c0_1,.slice A0_2 l0_2.length c0_2,.string a0_3,.string a0_4] 31 (0,0)) (by (with_reducible repeat (first|refine bN ?_ _|refine bD ?_|refine bA ?_ _));exact BK116.out) hb)
             have n1_ := Aside0.mk (below_step (by repeat (first|(with_reducible first|exact HB.out|apply lA|apply lN|apply lD|refine below_set ?_ GE116.out)|exact HB.out)) hb)
             clear BK116
             clear HB
             have BK116 := n0_
             have HB := n1_
             clear n0_ n1_
             (try clear hb)
             (try clear hb2)
             (try clear hk)
             (try clear hi)
             refine hK.out _ _ ⟨(blk_cell BK116.out 0).trans rfl,(blk_cell BK116.out 1).trans rfl,(blk_cell BK116.out 2).trans rfl,(blk_cell BK116.out 3).trans rfl,(blk_cell BK116.out 4).trans rfl,((HB.out.cell (World.block_lt_of_cell? w _ hw120_0)).trans hw120_0),((HB.out.cell (World.block_lt_of_cell? w _ hw120_1)).trans hw120_1),((HB.out.cell (World.block_lt_of_cell? w _ hw120_2)).trans hw120_2),((HB.out.cell (World.block_lt_of_cell? w _ hw122_0)).trans hw122_0),((HB.out.cell (World.block_lt_of_cell? w _ hw122_1)).trans hw122_1),((HB.out.cell (World.block_lt_of_cell? w _ hw122_2)).trans hw122_2),((HB.out.cell (World.block_lt_of_cell? w _ hw123_0)).trans hw123_0),((HB.out.cell (World.block_lt_of_cell? w _ hw123_1)).trans hw123_1),((HB.out.cell (World.block_lt_of_cell? w _ hw123_2)).trans hw123_2)⟩ (fun hHeld => ?_)
             clear hK K
             refine norm_ (a' := ?_) ?_ ?_
             rotate_left
             ·show Act.put _ (some 46) _ = _
              simp only [Act.put,List.setIfInBounds_toArray,List.set_cons_zero,List.set_cons_succ,i64_w,i32_w]
              rfl
             refine pure_ (i := 6) (N := some 47) (v := ?_) (a' := ?_) #[true,true,true,true,true,true,true,false,false,false,false,false,false,false,false,false,false,false,false,false,false,false,false,false,false,false,false] rfl rfl (any_of HT_.out (by kernel_rfl)) (fun _ _ _ h => h) (Or.inl ⟨by rfl,?_⟩) ?_ ?_
             rotate_left
             ·intro w'
              go_simp
              with_reducible rfl
             rotate_left
             ·simp only [Act.put,List.setIfInBounds_toArray,List.set_cons_zero,List.set_cons_succ,i64_w,i32_w]
              rfl
             refine pure_ (i := 7) (N := some 48) (v := ?_) (a' := ?_) #[true,true,true,true,true,true,true,true,false,false,false,false,false,false,false,false,false,false,false,false,false,false,false,false,false,false,false] rfl rfl (any_of HT_.out (by kernel_rfl)) (fun _ _ _ h => h) (Or.inl ⟨by rfl,?_⟩) ?_ ?_
             rotate_left
             ·intro w'
              go_simp
              with_reducible rfl
             rotate_left
             ·simp only [Act.put,List.setIfInBounds_toArray,List.set_cons_zero,List.set_cons_succ,i64_w,i32_w]
              rfl
             refine pure_ (i := 8) (N := some 49) (v := ?_) (a' := ?_) #[true,true,true,true,true,true,true,true,true,false,false,false,false,false,false,false,false,false,false,false,false,false,false,false,false,false,false] rfl rfl (any_of HT_.out (by kernel_rfl)) (fun _ _ _ h => h) (Or.inl ⟨by rfl,?_⟩) ?_ ?_
             rotate_left
             ·intro w'
              go_simp
              with_reducible rfl
             rotate_left
             ·simp only [Act.put,List.setIfInBounds_toArray,List.set_cons_zero,List.set_cons_succ,i64_w,i32_w]
              rfl
             refine pure_ (i := 9) (N := some 50) (v := ?_) (a' := ?_) #[true,true,true,true,true,true,true,true,true,true,false,false,false,false,false,false,false,false,false,false,false,false,false,false,false,false,false] rfl rfl (any_of HT_.out (by kernel_rfl)) (fun _ _ _ h => h) (Or.inl ⟨by rfl,?_⟩) ?_ ?_
             rotate_left
             ·intro w'
              go_simp
              with_reducible rfl
             rotate_left
             ·simp only [Act.put,List.setIfInBounds_toArray,List.set_cons_zero,List.set_cons_succ,i64_w,i32_w]
              rfl
             refine pure_ (i := 10) (N := some 51) (v := ?_) (a' := ?_) #[true,true,true,true,true,true,true,true,true,true,true,false,false,false,false,false,false,false,false,false,false,false,false,false,false,false,false] rfl rfl (any_of HT_.out (by kernel_rfl)) (fun _ _ _ h => h) (Or.inl ⟨by rfl,?_⟩) ?_ ?_
             rotate_left
             ·intro w'
              go_simp
              with_reducible rfl
             rotate_left
             ·simp only [Act.put,List.setIfInBounds_toArray,List.set_cons_zero,List.set_cons_succ,i64_w,i32_w]
              rfl
             refine pure_ (i := 11) (N := some 52) (v := ?_) (a' := ?_) #[true,true,true,true,true,true,true,true,true,true,true,true,false,false,false,false,false,false,false,false,false,false,false,false,false,false,false] rfl rfl (any_of HT_.out (by kernel_rfl)) (fun _ _ _ h => h) (Or.inl ⟨by rfl,?_⟩) ?_ ?_
             rotate_left
             ·intro w'
              go_simp
              with_reducible rfl
             rotate_left
             ·simp only [Act.put,List.setIfInBounds_toArray,List.set_cons_zero,List.set_cons_succ,i64_w,i32_w]
              rfl
             refine pure_ (i := 13) (N := some 54) (v := ?_) (a' := ?_) #[true,true,true,true,true,true,true,true,true,true,true,true,false,true,false,false,false,false,false,false,false,false,false,false,false,false,false] rfl rfl (any_of HT_.out (by kernel_rfl)) (fun _ _ _ h => h) (Or.inl ⟨by rfl,?_⟩) ?_ ?_
             rotate_left
             ·intro w'
              go_simp
              with_reducible rfl
             rotate_left
             ·simp only [Act.put,List.setIfInBounds_toArray,List.set_cons_zero,List.set_cons_succ,i64_w,i32_w]
              rfl
             refine pure_ (i := 14) (N := some 55) (v := ?_) (a' := ?_) #[true,true,true,true,true,true,true,true,true,true,true,true,false,true,true,false,false,false,false,false,false,false,false,false,false,false,false] rfl rfl (any_of HT_.out (by kernel_rfl)) (fun _ _ _ h => h) (Or.inl ⟨by rfl,?_⟩) ?_ ?_
             rotate_left
             ·intro w'
              go_simp
              with_reducible rfl
             rotate_left
             ·simp only [Act.put,List.setIfInBounds_toArray,List.set_cons_zero,List.set_cons_succ,i64_w,i32_w]
              rfl
             refine pure_ (i := 18) (N := some 59) (v := ?_) (a' := ?_) #[true,true,true,true,true,true,true,true,true,true,true,true,false,true,true,false,false,false,true,false,false,false,false,false,false,false,false] rfl rfl (any_of HT_.out (by kernel_rfl)) (fun _ _ _ h => h) (Or.inl ⟨by rfl,?_⟩) ?_ ?_
             rotate_left
             ·intro w'
              go_simp
              with_reducible rfl
             rotate_left
             ·simp only [Act.put,List.setIfInBounds_toArray,List.set_cons_zero,List.set_cons_succ,i64_w,i32_w]
              rfl
             refine pure_ (i := 20) (N := some 61) (v := ?_) (a' := ?_) #[true,true,true,true,true,true,true,true,true,true,true,true,false,true,true,false,false,false,true,false,true,false,false,false,false,false,false] rfl rfl (any_of HT_.out (by kernel_rfl)) (fun _ _ _ h => h) (Or.inl ⟨by rfl,?_⟩) ?_ ?_
             rotate_left
             ·intro w'
              go_simp
              with_reducible rfl
             rotate_left
             ·simp only [Act.put,List.setIfInBounds_toArray,List.set_cons_zero,List.set_cons_succ,i64_w,i32_w]
              rfl
             refine take_ (i := 12) (N := some 53) (v := ?_) (a' := ?_) #[true,true,true,true,true,true,true,true,true,true,true,true,true,true,true,false,false,false,true,false,true,false,false,false,false,false,false] rfl rfl (take_ofW HT_.out HW_.out (by kernel_rfl)) (fun _ _ _ h => h) (Or.inl ⟨by rfl,?_⟩) hHeld ?_ ?_
             rotate_left
             ·rintro w' ⟨s0,s1,s2,s3,s4,s5,s6,s7,s8,s9,s10,s11,s12,s13⟩
              go_simp
              with_reducible rfl
             rotate_left
             ·simp only [Act.put,List.setIfInBounds_toArray,List.set_cons_zero,List.set_cons_succ,i64_w,i32_w]
              rfl
             refine pure_ (i := 15) (N := some 56) (v := ?_) (a' := ?_) #[true,true,true,true,true,true,true,true,true,true,true,true,true,true,true,true,false,false,true,false,true,false,false,false,false,false,false] rfl rfl (any_of HT_.out (by kernel_rfl)) (fun _ _ _ h => h) (Or.inl ⟨by rfl,?_⟩) ?_ ?_
             rotate_left
             ·intro w'
              go_simp
              with_reducible rfl
             rotate_left
             ·simp only [Act.put,List.setIfInBounds_toArray,List.set_cons_zero,List.set_cons_succ,i64_w,i32_w]
              rfl
             refine pure_ (i := 16) (N := some 57) (v := ?_) (a' := ?_) #[true,true,true,true,true,true,true,true,true,true,true,true,true,true,true,true,true,false,true,false,true,false,false,false,false,false,false] rfl rfl (any_of HT_.out (by kernel_rfl)) (fun _ _ _ h => h) (Or.inl ⟨by rfl,?_⟩) ?_ ?_
             rotate_left
             ·intro w'
              go_simp
              with_reducible rfl
             rotate_left
             ·simp only [Act.put,List.setIfInBounds_toArray,List.set_cons_zero,List.set_cons_succ,i64_w,i32_w]
              rfl
             refine take_ (i := 17) (N := some 58) (v := ?_) (a' := ?_) #[true,true,true,true,true,true,true,true,true,true,true,true,true,true,true,true,true,true,true,false,true,false,false,false,false,false,false] rfl rfl (take_ofW HT_.out HW_.out (by kernel_rfl)) (fun _ _ _ h => h) (Or.inl ⟨by rfl,?_⟩) hHeld ?_ ?_
             rotate_left
             ·rintro w' ⟨s0,s1,s2,s3,s4,s5,s6,s7,s8,s9,s10,s11,s12,s13⟩
              go_simp
              with_reducible rfl
             rotate_left
             ·simp only [Act.put,List.setIfInBounds_toArray,List.set_cons_zero,List.set_cons_succ,i64_w,i32_w]
              rfl
             refine take_ (i := 19) (N := some 60) (v := ?_) (a' := ?_) #[true,true,true,true,true,true,true,true,true,true,true,true,true,true,true,true,true,true,true,true,true,false,false,false,false,false,false] rfl rfl (take_ofW HT_.out HW_.out (by kernel_rfl)) (fun _ _ _ h => h) (Or.inl ⟨by rfl,?_⟩) hHeld ?_ ?_
             rotate_left
             ·rintro w' ⟨s0,s1,s2,s3,s4,s5,s6,s7,s8,s9,s10,s11,s12,s13⟩
              go_simp
              with_reducible rfl
             rotate_left
             ·simp only [Act.put,List.setIfInBounds_toArray,List.set_cons_zero,List.set_cons_succ,i64_w,i32_w]
              rfl
             refine pure_ (i := 21) (N := some 62) (v := ?_) (a' := ?_) #[true,true,true,true,true,true,true,true,true,true,true,true,true,true,true,true,true,true,true,true,true,true,false,false,false,false,false] rfl rfl (any_of HT_.out (by kernel_rfl)) (fun _ _ _ h => h) (Or.inl ⟨by rfl,?_⟩) ?_ ?_
             rotate_left
             ·intro w'
              go_simp
              with_reducible rfl
             rotate_left
             ·simp only [Act.put,List.setIfInBounds_toArray,List.set_cons_zero,List.set_cons_succ,i64_w,i32_w]
              rfl
             refine pure_ (i := 22) (N := some 63) (v := ?_) (a' := ?_) #[true,true,true,true,true,true,true,true,true,true,true,true,true,true,true,true,true,true,true,true,true,true,true,false,false,false,false] rfl rfl (any_of HT_.out (by kernel_rfl)) (fun _ _ _ h => h) (Or.inl ⟨by rfl,?_⟩) ?_ ?_
             rotate_left
             ·intro w'
              go_simp
              with_reducible rfl
             rotate_left
             ·simp only [Act.put,List.setIfInBounds_toArray,List.set_cons_zero,List.set_cons_succ,i64_w,i32_w]
              rfl
             refine take_ (i := 23) (N := some 64) (v := ?_) (a' := ?_) #[true,true,true,true,true,true,true,true,true,true,true,true,true,true,true,true,true,true,true,true,true,true,true,true,false,false,false] rfl rfl (take_ofW HT_.out HW_.out (by kernel_rfl)) (fun _ _ _ h => h) (Or.inl ⟨by rfl,?_⟩) hHeld ?_ ?_
             rotate_left
             ·rintro w' ⟨s0,s1,s2,s3,s4,s5,s6,s7,s8,s9,s10,s11,s12,s13⟩
              go_simp
              with_reducible rfl
             rotate_left
             ·simp only [Act.put,List.setIfInBounds_toArray,List.set_cons_zero,List.set_cons_succ,i64_w,i32_w]
              rfl
             refine pure_ (i := 24) (N := some 65) (v := ?_) (a' := ?_) #[true,true,true,true,true,true,true,true,true,true,true,true,true,true,true,true,true,true,true,true,true,true,true,true,true,false,false] rfl rfl (any_of HT_.out (by kernel_rfl)) (fun _ _ _ h => h) (Or.inl ⟨by rfl,?_⟩) ?_ ?_
             rotate_left
             ·intro w'
              go_simp
              with_reducible rfl
             rotate_left
             ·simp only [Act.put,List.setIfInBounds_toArray,List.set_cons_zero,List.set_cons_succ,i64_w,i32_w]
              rfl
             refine pure_ (i := 25) (N := some 66) (v := ?_) (a' := ?_) #[true,true,true,true,true,true,true,true,true,true,true,true,true,true,true,true,true,true,true,true,true,true,true,true,true,true,false] rfl rfl (any_of HT_.out (by kernel_rfl)) (fun _ _ _ h => h) (Or.inl ⟨by rfl,?_⟩) ?_ ?_
             rotate_left
             ·intro w'
              go_simp
              with_reducible rfl
             rotate_left
             ·simp only [Act.put,List.setIfInBounds_toArray,List.set_cons_zero,List.set_cons_succ,i64_w,i32_w]
              rfl
             refine pure_ (i := 26) (N := some 67) (v := ?_) (a' := ?_) #[true,true,true,true,true,true,true,true,true,true,true,true,true,true,true,true,true,true,true,true,true,true,true,true,true,true,true] rfl rfl (any_of HT_.out (by kernel_rfl)) (fun _ _ _ h => h) (Or.inl ⟨by rfl,?_⟩) ?_ ?_
             rotate_left
             ·intro w'
              go_simp
              with_reducible rfl
             rotate_left
             ·simp only [Act.put,List.setIfInBounds_toArray,List.set_cons_zero,List.set_cons_succ,i64_w,i32_w]
              rfl
             refine done_ (done_of HT_.out (by kernel_rfl)) ?_
             try go_wp2
             go_ret
             exact ⟨by first|rfl|(simp [errW_none,errW_some] <;> rfl)|(simp only [← hji22];first|rfl|(simp [errW_none,errW_some] <;> rfl))|(simp [*,errW_none,errW_some] <;> rfl),by repeat (first|(with_reducible first|exact HB.out|apply lA|apply lN|apply lD|refine below_set ?_ GE116.out)|exact HB.out)⟩
           ·rw [if_neg c24] at H
            exact absurd H (by simp)
          ·rw [if_neg c23] at H
           exact absurd H (by simp)
         ·rw [if_neg c21] at H
          have c21b0 : decide (0 < x3_2) = false := decide_eq_false c21
          clear c21
          have H' := Aside0.mk H
          clear H
          have hcz32_0 : wr.cell? ⟨gb116,0,none⟩ = some (.string a0_0) := (blk_cell BK116.out 0).trans rfl
          have hcz32_1 : wr.cell? ⟨gb116,1,none⟩ = some (.slice A0_1 l0_1.length c0_1) := (blk_cell BK116.out 1).trans rfl
          have hcz32_2 : wr.cell? ⟨gb116,2,none⟩ = some (.slice A0_2 l0_2.length c0_2) := (blk_cell BK116.out 2).trans rfl
          have hcz32_3 : wr.cell? ⟨gb116,3,none⟩ = some (.string a0_3) := (blk_cell BK116.out 3).trans rfl
          have hcz32_4 : wr.cell? ⟨gb116,4,none⟩ = some (.string a0_4) := (blk_cell BK116.out 4).trans rfl
          have hfz32_0 := blk_frozen BK116.out 0
          have hfz32_1 := blk_frozen BK116.out 1
          have hfz32_2 := blk_frozen BK116.out 2
          have hfz32_3 := blk_frozen BK116.out 3
          have hfz32_4 := blk_frozen BK116.out 4
          try go_wp2
          have n0_ := Aside0.mk (bD BK116.out)
          have n1_ := Aside0.mk (lD HB.out)
          clear BK116
          clear HB
          have BK116 := n0_
          have HB := n1_
          clear n0_ n1_
          have p120 : 0 ≤ (x3_2 : Int) := of_decide_eq_true (by first|(with_reducible assumption)|assumption)
          have q120 : x3_2 < (l0_1.length : Int) := of_decide_eq_true (by first|(with_reducible assumption)|assumption)
          obtain ⟨ad120,e120,hx120_0,hx120_1,hx120_2⟩ := at_T61 HR0_1.out x3_2 p120 q120
          have hw120_2 := hx120_2
          have hw120_1 := hx120_1
          have hw120_0 := hx120_0
          cases e120
          replace hx120_0 := (HB.out.cell (World.block_lt_of_cell? w _ hx120_0)).trans hx120_0
          replace hx120_1 := (HB.out.cell (World.block_lt_of_cell? w _ hx120_1)).trans hx120_1
          replace hx120_2 := (HB.out.cell (World.block_lt_of_cell? w _ hx120_2)).trans hx120_2
          replace p120 := eq_true p120
          replace q120 := eq_true q120
          refine start_ (n := 27) (S := fun w' => w'.cell? ⟨gb116,0,none⟩ = some (.string a0_0) ∧ w'.cell? ⟨gb116,1,none⟩ = some (.slice (some ad120) l0_1.length c0_1) ∧ w'.cell? ⟨gb116,2,none⟩ = some (.slice A0_2 l0_2.length c0_2) ∧ w'.cell? ⟨gb116,3,none⟩ = some (.string a0_3) ∧ w'.cell? ⟨gb116,4,none⟩ = some (.string a0_4) ∧ w'.cell? (ad120.add ((x3_2).toNat * 3)) = some (.string ((rd_T61 l0_1 x3_2).f0)) ∧ w'.cell? ⟨(ad120.add ((x3_2).toNat * 3)).block,(ad120.add ((x3_2).toNat * 3)).off + 1,none⟩ = some (.string ((rd_T61 l0_1 x3_2).f1)) ∧ w'.cell? ⟨(ad120.add ((x3_2).toNat * 3)).block,(ad120.add ((x3_2).toNat * 3)).off + 2,none⟩ = some (.string ((rd_T61 l0_1 x3_2).f2))) (ds := []) #[false,false,false,false,false,false,false,false,false,false,false,false,false,false,false,false,false,false,false,false,false,false,false,false,false,false,false] (by kernel_rfl) rfl rfl ⟨(blk_cell BK116.out 0).trans rfl,(blk_cell BK116.out 1).trans rfl,(blk_cell BK116.out 2).trans rfl,(blk_cell BK116.out 3).trans rfl,(blk_cell BK116.out 4).trans rfl,((HB.out.cell (World.block_lt_of_cell? w _ hw120_0)).trans hw120_0),((HB.out.cell (World.block_lt_of_cell? w _ hw120_1)).trans hw120_1),((HB.out.cell (World.block_lt_of_cell? w _ hw120_2)).trans hw120_2)⟩ (fun hHeld => ?_);refine with_tabW spec_l23Good.tab6 spec_l23Good.bits6 (fun HT_ HW_ => ?_)
          generalize wr.drew = w33 at BK116 HB hx120_0 hx120_1 hx120_2 hHeld ⊢
          refine pure_ (i := 0) (N := some 41) (v := ?_) (a' := ?_) #[true,false,false,false,false,false,false,false,false,false,false,false,false,false,false,false,false,false,false,false,false,false,false,false,false,false,false] rfl rfl (any_of HT_.out (by kernel_rfl)) (fun _ _ _ h => h) (Or.inl ⟨by rfl,?_⟩) ?_ ?_
          rotate_left
          ·intro w'
           go_simp
           with_reducible rfl
          rotate_left
          ·simp only [Act.put,List.setIfInBounds_toArray,List.set_cons_zero,List.set_cons_succ,i64_w,i32_w]
           rfl
          refine pure_ (i := 2) (N := some 43) (v := ?_) (a' := ?_) #[true,false,true,false,false,false,false,false,false,false,false,false,false,false,false,false,false,false,false,false,false,false,false,false,false,false,false] rfl rfl (any_of HT_.out (by kernel_rfl)) (fun _ _ _ h => h) (Or.inl ⟨by rfl,?_⟩) ?_ ?_
          rotate_left
          ·intro w'
           go_simp
           with_reducible rfl
          rotate_left
          ·simp only [Act.put,List.setIfInBounds_toArray,List.set_cons_zero,List.set_cons_succ,i64_w,i32_w]
           rfl
          refine take_ (i := 1) (N := some 42) (v := ?_) (a' := ?_) #[true,true,true,false,false,false,false,false,false,false,false,false,false,false,false,false,false,false,false,false,false,false,false,false,false,false,false] rfl rfl (take_ofW HT_.out HW_.out (by kernel_rfl)) (fun _ _ _ h => h) (Or.inl ⟨by rfl,?_⟩) hHeld ?_ ?_
          rotate_left
          ·rintro w' ⟨s0,s1,s2,s3,s4,s5,s6,s7⟩
           go_simp
           with_reducible rfl
          rotate_left
          ·simp only [Act.put,List.setIfInBounds_toArray,List.set_cons_zero,List.set_cons_succ,i64_w,i32_w]
           rfl
          refine pure_ (i := 3) (N := some 44) (v := ?_) (a' := ?_) #[true,true,true,true,false,false,false,false,false,false,false,false,false,false,false,false,false,false,false,false,false,false,false,false,false,false,false] rfl rfl (any_of HT_.out (by kernel_rfl)) (fun _ _ _ h => h) (Or.inl ⟨by rfl,?_⟩) ?_ ?_
          rotate_left
          ·intro w'
           go_simp
           with_reducible rfl
          rotate_left
          ·simp only [Act.put,List.setIfInBounds_toArray,List.set_cons_zero,List.set_cons_succ,i64_w,i32_w]
           rfl
          refine take_ (i := 4) (N := some 45) (v := ?_) (a' := ?_) #[true,true,true,true,true,false,false,false,false,false,false,false,false,false,false,false,false,false,false,false,false,false,false,false,false,false,false] rfl rfl (take_ofW HT_.out HW_.out (by kernel_rfl)) (fun _ _ _ h => h) (Or.inl ⟨by rfl,?_⟩) hHeld ?_ ?_
          rotate_left
          ·rintro w' ⟨s0,s1,s2,s3,s4,s5,s6,s7⟩
           go_simp
           with_reducible rfl
          rotate_left
          ·simp only [Act.put,List.setIfInBounds_toArray,List.set_cons_zero,List.set_cons_succ,i64_w,i32_w]
           rfl
          refine one_ (i := 5) (N := some 46) #[true,true,true,true,true,true,false,false,false,false,false,false,false,false,false,false,false,false,false,false,false,false,false,false,false,false,false] rfl rfl (one_of HT_.out (by kernel_rfl)) (by decide) (fun K hK => ?_)
          refine goes_ Try.func71 (by kernel_rfl) rfl #[.agg #[.string ((rd_T61 l0_1 x3_2).f0),.string ((rd_T61 l0_1 x3_2).f1),.string ((rd_T61 l0_1 x3_2).f2)]] (by rfl) rfl rfl (by (try simp only [List.map_toArray,List.map_cons,List.map_nil]);first|done|rfl|(simp only [List.length_drop,List.length_take];rfl)) ?_
          with_reducible refine (spec_l23Term.calls k2 ((rd_T61 l0_1 x3_2).f0) ((rd_T61 l0_1 x3_2).f1) ((rd_T61 l0_1 x3_2).f2) true _ A19.out).mono ?_
          rintro e w34 ⟨rfl,hb⟩
          refine ⟨_,rfl,?_⟩
          have n0_ := Aside0.mk (blk_below (g := gb116) (o := .cells #[.string a0_0,.slice (some ad120) l0_1.length c0_1,.slice A0_2 l0_2.length c0_2,.string a0_3,.string a0_4] 31 (0,0)) (by (with_reducible repeat (first|refine bN ?_ _|refine bD ?_|refine bA ?_ _));exact BK116.out) hb)
          have n1_ := Aside0.mk (below_step (by repeat (first|(with_reducible first|exact HB.out|apply lA|apply lN|apply lD|refine below_set ?_ GE116.out)|exact HB.out)) hb)
          clear BK116
          clear HB
          have BK116 := n0_
          have HB := n1_
          clear n0_ n1_
          (try clear hb)
          (try clear hb2)
          (try clear hk)
          (try clear hi)
          refine hK.out _ _ ⟨(blk_cell BK116.out 0).trans rfl,(blk_cell BK116.out 1).trans rfl,(blk_cell BK116.out 2).trans rfl,(blk_cell BK116.out 3).trans rfl,(blk_cell BK116.out 4).trans rfl,((HB.out.cell (World.block_lt_of_cell? w _ hw120_0)).trans hw120_0),((HB.out.cell (World.block_lt_of_cell? w _ hw120_1)).trans hw120_1),((HB.out.cell (World.block_lt_of_cell? w _ hw120_2)).trans hw120_2)⟩ (fun hHeld => ?_)
          clear hK K
          refine norm_ (a' := ?_) ?_ ?_
          rotate_left
          ·show Act.put _ (some 46) _ = _
           simp only [Act.put,List.setIfInBounds_toArray,List.set_cons_zero,List.set_cons_succ,i64_w,i32_w]
           rfl
          refine pure_ (i := 6) (N := some 47) (v := ?_) (a' := ?_) #[true,true,true,true,true,true,true,false,false,false,false,false,false,false,false,false,false,false,false,false,false,false,false,false,false,false,false] rfl rfl (any_of HT_.out (by kernel_rfl)) (fun _ _ _ h => h) (Or.inl ⟨by rfl,?_⟩) ?_ ?_
          rotate_left
          ·intro w'
           go_simp
           with_reducible rfl
          rotate_left
          ·simp only [Act.put,List.setIfInBounds_toArray,List.set_cons_zero,List.set_cons_succ,i64_w,i32_w]
           rfl
          refine pure_ (i := 7) (N := some 48) (v := ?_) (a' := ?_) #[true,true,true,true,true,true,true,true,false,false,false,false,false,false,false,false,false,false,false,false,false,false,false,false,false,false,false] rfl rfl (any_of HT_.out (by kernel_rfl)) (fun _ _ _ h => h) (Or.inl ⟨by rfl,?_⟩) ?_ ?_
          rotate_left
          ·intro w'
           go_simp
           with_reducible rfl
          rotate_left
          ·simp only [Act.put,List.setIfInBounds_toArray,List.set_cons_zero,List.set_cons_succ,i64_w,i32_w]
           rfl
          refine pure_ (i := 8) (N := some 49) (v := ?_) (a' := ?_) #[true,true,true,true,true,true,true,true,true,false,false,false,false,false,false,false,false,false,false,false,false,false,false,false,false,false,false] rfl rfl (any_of HT_.out (by kernel_rfl)) (fun _ _ _ h => h) (Or.inl ⟨by rfl,?_⟩) ?_ ?_
          rotate_left
          ·intro w'
           go_simp
           with_reducible rfl
          rotate_left
          ·simp only [Act.put,List.setIfInBounds_toArray,List.set_cons_zero,List.set_cons_succ,i64_w,i32_w]
           rfl
          refine pure_ (i := 9) (N := some 50) (v := ?_) (a' := ?_) #[true,true,true,true,true,true,true,true,true,true,false,false,false,false,false,false,false,false,false,false,false,false,false,false,false,false,false] rfl rfl (any_of HT_.out (by kernel_rfl)) (fun _ _ _ h => h) (Or.inl ⟨by rfl,?_⟩) ?_ ?_
          rotate_left
          ·intro w'
           go_simp
           with_reducible rfl
          rotate_left
          ·simp only [Act.put,List.setIfInBounds_toArray,List.set_cons_zero,List.set_cons_succ,i64_w,i32_w]
           rfl
          refine pure_ (i := 10) (N := some 51) (v := ?_) (a' := ?_) #[true,true,true,true,true,true,true,true,true,true,true,false,false,false,false,false,false,false,false,false,false,false,false,false,false,false,false] rfl rfl (any_of HT_.out (by kernel_rfl)) (fun _ _ _ h => h) (Or.inl ⟨by rfl,?_⟩) ?_ ?_
          rotate_left
          ·intro w'
           go_simp
           with_reducible rfl
          rotate_left
          ·simp only [Act.put,List.setIfInBounds_toArray,List.set_cons_zero,List.set_cons_succ,i64_w,i32_w]
           rfl
          refine pure_ (i := 11) (N := some 52) (v := undef) (a' := ?_) #[true,true,true,true,true,true,true,true,true,true,true,true,false,false,false,false,false,false,false,false,false,false,false,false,false,false,false] rfl rfl (any_of HT_.out (by kernel_rfl)) (fun _ _ _ h => h) (Or.inr ⟨by rfl,rfl⟩) ?_ ?_
          rotate_left
          ·simp only [Act.put,List.setIfInBounds_toArray,List.set_cons_zero,List.set_cons_succ,i64_w,i32_w]
           rfl
          refine pure_ (i := 12) (N := some 53) (v := undef) (a' := ?_) #[true,true,true,true,true,true,true,true,true,true,true,true,true,false,false,false,false,false,false,false,false,false,false,false,false,false,false] rfl rfl (any_of HT_.out (by kernel_rfl)) (fun _ _ _ h => h) (Or.inr ⟨by rfl,rfl⟩) ?_ ?_
          rotate_left
          ·simp only [Act.put,List.setIfInBounds_toArray,List.set_cons_zero,List.set_cons_succ,i64_w,i32_w]
           rfl
          refine pure_ (i := 13) (N := some 54) (v := undef) (a' := ?_) #[true,true,true,true,true,true,true,true,true,true,true,true,true,true,false,false,false,false,false,false,false,false,false,false,false,false,false] rfl rfl (any_of HT_.out (by kernel_rfl)) (fun _ _ _ h => h) (Or.inr ⟨by rfl,rfl⟩) ?_ ?_
          rotate_left
          ·simp only [Act.put,List.setIfInBounds_toArray,List.set_cons_zero,List.set_cons_succ,i64_w,i32_w]
           rfl
          refine pure_ (i := 14) (N := some 55) (v := undef) (a' := ?_) #[true,true,true,true,true,true,true,true,true,true,true,true,true,true,true,false,false,false,false,false,false,false,false,false,false,false,false] rfl rfl (any_of HT_.out (by kernel_rfl)) (fun _ _ _ h => h) (Or.inr ⟨by rfl,rfl⟩) ?_ ?_
          rotate_left
          ·simp only [Act.put,List.setIfInBounds_toArray,List.set_cons_zero,List.set_cons_succ,i64_w,i32_w]
           rfl
          refine pure_ (i := 15) (N := some 56) (v := undef) (a' := ?_) #[true,true,true,true,true,true,true,true,true,true,true,true,true,true,true,true,false,false,false,false,false,false,false,false,false,false,false] rfl rfl (any_of HT_.out (by kernel_rfl)) (fun _ _ _ h => h) (Or.inr ⟨by rfl,rfl⟩) ?_ ?_
          rotate_left
          ·simp only [Act.put,List.setIfInBounds_toArray,List.set_cons_zero,List.set_cons_succ,i64_w,i32_w]
           rfl
          refine pure_ (i := 16) (N := some 57) (v := undef) (a' := ?_) #[true,true,true,true,true,true,true,true,true,true,true,true,true,true,true,true,true,false,false,false,false,false,false,false,false,false,false] rfl rfl (any_of HT_.out (by kernel_rfl)) (fun _ _ _ h => h) (Or.inr ⟨by rfl,rfl⟩) ?_ ?_
          rotate_left
          ·simp only [Act.put,List.setIfInBounds_toArray,List.set_cons_zero,List.set_cons_succ,i64_w,i32_w]
           rfl
          refine pure_ (i := 17) (N := some 58) (v := undef) (a' := ?_) #[true,true,true,true,true,true,true,true,true,true,true,true,true,true,true,true,true,true,false,false,false,false,false,false,false,false,false] rfl rfl (any_of HT_.out (by kernel_rfl)) (fun _ _ _ h => h) (Or.inr ⟨by rfl,rfl⟩) ?_ ?_
          rotate_left
          ·simp only [Act.put,List.setIfInBounds_toArray,List.set_cons_zero,List.set_cons_succ,i64_w,i32_w]
           rfl
          refine pure_ (i := 18) (N := some 59) (v := undef) (a' := ?_) #[true,true,true,true,true,true,true,true,true,true,true,true,true,true,true,true,true,true,true,false,false,false,false,false,false,false,false] rfl rfl (any_of HT_.out (by kernel_rfl)) (fun _ _ _ h => h) (Or.inr ⟨by rfl,rfl⟩) ?_ ?_
          rotate_left
          ·simp only [Act.put,List.setIfInBounds_toArray,List.set_cons_zero,List.set_cons_succ,i64_w,i32_w]
           rfl
          refine pure_ (i := 19) (N := some 60) (v := undef) (a' := ?_) #[true,true,true,true,true,true,true,true,true,true,true,true,true,true,true,true,true,true,true,true,false,false,false,false,false,false,false] rfl rfl (any_of HT_.out (by kernel_rfl)) (fun _ _ _ h => h) (Or.inr ⟨by rfl,rfl⟩) ?_ ?_
          rotate_left
          ·simp only [Act.put,List.setIfInBounds_toArray,List.set_cons_zero,List.set_cons_succ,i64_w,i32_w]
           rfl
          refine pure_ (i := 20) (N := some 61) (v := undef) (a' := ?_) #[true,true,true,true,true,true,true,true,true,true,true,true,true,true,true,true,true,true,true,true,true,false,false,false,false,false,false] rfl rfl (any_of HT_.out (by kernel_rfl)) (fun _ _ _ h => h) (Or.inr ⟨by rfl,rfl⟩) ?_ ?_
          rotate_left
          ·simp only [Act.put,List.setIfInBounds_toArray,List.set_cons_zero,List.set_cons_succ,i64_w,i32_w]
           rfl
          refine pure_ (i := 21) (N := some 62) (v := undef) (a' := ?_) #[true,true,true,true,true,true,true,true,true,true,true,true,true,true,true,true,true,true,true,true,true,true,false,false,false,false,false] rfl rfl (any_of HT_.out (by kernel_rfl)) (fun _ _ _ h => h) (Or.inr ⟨by rfl,rfl⟩) ?_ ?_
          rotate_left
          ·simp only [Act.put,List.setIfInBounds_toArray,List.set_cons_zero,List.set_cons_succ,i64_w,i32_w]
           rfl
          refine pure_ (i := 22) (N := some 63) (v := undef) (a' := ?_) #[true,true,true,true,true,true,true,true,true,true,true,true,true,true,true,true,true,true,true,true,true,true,true,false,false,false,false] rfl rfl (any_of HT_.out (by kernel_rfl)) (fun _ _ _ h => h) (Or.inr ⟨by rfl,rfl⟩) ?_ ?_
          rotate_left
          ·simp only [Act.put,List.setIfInBounds_toArray,List.set_cons_zero,List.set_cons_succ,i64_w,i32_w]
           rfl
          refine pure_ (i := 23) (N := some 64) (v := undef) (a' := ?_) #[true,true,true,true,true,true,true,true,true,true,true,true,true,true,true,true,true,true,true,true,true,true,true,true,false,false,false] rfl rfl (any_of HT_.out (by kernel_rfl)) (fun _ _ _ h => h) (Or.inr ⟨by rfl,rfl⟩) ?_ ?_
          rotate_left
          ·simp only [Act.put,List.setIfInBounds_toArray,List.set_cons_zero,List.set_cons_succ,i64_w,i32_w]
           rfl
          refine pure_ (i := 24) (N := some 65) (v := undef) (a' := ?_) #[true,true,true,true,true,true,true,true,true,true,true,true,true,true,true,true,true,true,true,true,true,true,true,true,true,false,false] rfl rfl (any_of HT_.out (by kernel_rfl)) (fun _ _ _ h => h) (Or.inr ⟨by rfl,rfl⟩) ?_ ?_
          rotate_left
          ·simp only [Act.put,List.setIfInBounds_toArray,List.set_cons_zero,List.set_cons_succ,i64_w,i32_w]
           rfl
          refine pure_ (i := 25) (N := some 66) (v := ?_) (a' := ?_) #[true,true,true,true,true,true,true,true,true,true,true,true,true,true,true,true,true,true,true,true,true,true,true,true,true,true,false] rfl rfl (any_of HT_.out (by kernel_rfl)) (fun _ _ _ h => h) (Or.inl ⟨by rfl,?_⟩) ?_ ?_
          rotate_left
          ·intro w'
           go_simp
           with_reducible rfl
          rotate_left
          ·simp only [Act.put,List.setIfInBounds_toArray,List.set_cons_zero,List.set_cons_succ,i64_w,i32_w]
           rfl
          refine pure_ (i := 26) (N := some 67) (v := ?_) (a' := ?_) #[true,true,true,true,true,true,true,true,true,true,true,true,true,true,true,true,true,true,true,true,true,true,true,true,true,true,true] rfl rfl (any_of HT_.out (by kernel_rfl)) (fun _ _ _ h => h) (Or.inl ⟨by rfl,?_⟩) ?_ ?_
          rotate_left
          ·intro w'
           go_simp
           with_reducible rfl
          rotate_left
          ·simp only [Act.put,List.setIfInBounds_toArray,List.set_cons_zero,List.set_cons_succ,i64_w,i32_w]
           rfl
          refine done_ (done_of HT_.out (by kernel_rfl)) ?_
          try go_wp2
          go_roundg k2
          case measure => have := HJ1.out;have := HK2.out;omega
          case rel => exact ⟨(wrap64 (x3_2 + 1)),(by first|rfl|(simp;done)|(simp [my_isEmpty];done)|(simp [*];done)),H',⟨by have := HJ1.out;have := HK2.out;omega⟩,⟨by (with_reducible repeat (first|refine bN ?_ _|refine bD ?_|refine bA ?_ _));exact BK116.out⟩,⟨by repeat (first|(with_reducible first|exact HB.out|apply lA|apply lN|apply lD|refine below_set ?_ GE116.out)|exact HB.out)⟩⟩
        ·replace c20 := Bool.eq_false_iff.mpr c20
         subst c20
         have H1 : (some false) = some r := by rw [if_neg (show ¬ (false = true) by decide)] at H;exact H
         clear H
         have H := H1
         clear H1
         obtain rfl := Option.some.inj H
         simp only [Option.some.injEq,Prod.mk.injEq] at H
         obtain ⟨rfl⟩ := H
         have hcz35_0 : wr.cell? ⟨gb116,0,none⟩ = some (.string a0_0) := (blk_cell BK116.out 0).trans rfl
         have hcz35_1 : wr.cell? ⟨gb116,1,none⟩ = some (.slice A0_1 l0_1.length c0_1) := (blk_cell BK116.out 1).trans rfl
         have hcz35_2 : wr.cell? ⟨gb116,2,none⟩ = some (.slice A0_2 l0_2.length c0_2) := (blk_cell BK116.out 2).trans rfl
         have hcz35_3 : wr.cell? ⟨gb116,3,none⟩ = some (.string a0_3) := (blk_cell BK116.out 3).trans rfl
         have hcz35_4 : wr.cell? ⟨gb116,4,none⟩ = some (.string a0_4) := (blk_cell BK116.out 4).trans rfl
         have hfz35_0 := blk_frozen BK116.out 0
         have hfz35_1 := blk_frozen BK116.out 1
         have hfz35_2 := blk_frozen BK116.out 2
         have hfz35_3 := blk_frozen BK116.out 3
         have hfz35_4 := blk_frozen BK116.out 4
         try go_wp2
         have n0_ := Aside0.mk (bD BK116.out)
         have n1_ := Aside0.mk (lD HB.out)
         clear BK116
         clear HB
         have BK116 := n0_
         have HB := n1_
         clear n0_ n1_
         have p120 : 0 ≤ (x3_2 : Int) := of_decide_eq_true (by first|(with_reducible assumption)|assumption)
         have q120 : x3_2 < (l0_1.length : Int) := of_decide_eq_true (by first|(with_reducible assumption)|assumption)
         obtain ⟨ad120,e120,hx120_0,hx120_1,hx120_2⟩ := at_T61 HR0_1.out x3_2 p120 q120
         have hw120_2 := hx120_2
         have hw120_1 := hx120_1
         have hw120_0 := hx120_0
         cases e120
         replace hx120_0 := (HB.out.cell (World.block_lt_of_cell? w _ hx120_0)).trans hx120_0
         replace hx120_1 := (HB.out.cell (World.block_lt_of_cell? w _ hx120_1)).trans hx120_1
         replace hx120_2 := (HB.out.cell (World.block_lt_of_cell? w _ hx120_2)).trans hx120_2
         replace p120 := eq_true p120
         replace q120 := eq_true q120
         refine start_ (n := 27) (S := fun w' => w'.cell? ⟨gb116,0,none⟩ = some (.string a0_0) ∧ w'.cell? ⟨gb116,1,none⟩ = some (.slice (some ad120) l0_1.length c0_1) ∧ w'.cell? ⟨gb116,2,none⟩ = some (.slice A0_2 l0_2.length c0_2) ∧ w'.cell? ⟨gb116,3,none⟩ = some (.string a0_3) ∧ w'.cell? ⟨gb116,4,none⟩ = some (.string a0_4) ∧ w'.cell? (ad120.add ((x3_2).toNat * 3)) = some (.string ((rd_T61 l0_1 x3_2).f0)) ∧ w'.cell? ⟨(ad120.add ((x3_2).toNat * 3)).block,(ad120.add ((x3_2).toNat * 3)).off + 1,none⟩ = some (.string ((rd_T61 l0_1 x3_2).f1)) ∧ w'.cell? ⟨(ad120.add ((x3_2).toNat * 3)).block,(ad120.add ((x3_2).toNat * 3)).off + 2,none⟩ = some (.string ((rd_T61 l0_1 x3_2).f2))) (ds := []) #[false,false,false,false,false,false,false,false,false,false,false,false,false,false,false,false,false,false,false,false,false,false,false,false,false,false,false] (by kernel_rfl) rfl rfl ⟨(blk_cell BK116.out 0).trans rfl,(blk_cell BK116.out 1).trans rfl,(blk_cell BK116.out 2).trans rfl,(blk_cell BK116.out 3).trans rfl,(blk_cell BK116.out 4).trans rfl,((HB.out.cell (World.block_lt_of_cell? w _ hw120_0)).trans hw120_0),((HB.out.cell (World.block_lt_of_cell? w _ hw120_1)).trans hw120_1),((HB.out.cell (World.block_lt_of_cell? w _ hw120_2)).trans hw120_2)⟩ (fun hHeld => ?_);refine with_tabW spec_l23Good.tab6 spec_l23Good.bits6 (fun HT_ HW_ => ?_)
         generalize wr.drew = w36 at BK116 HB hx120_0 hx120_1 hx120_2 hHeld ⊢
         refine pure_ (i := 0) (N := some 41) (v := ?_) (a' := ?_) #[true,false,false,false,false,false,false,false,false,false,false,false,false,false,false,false,false,false,false,false,false,false,false,false,false,false,false] rfl rfl (any_of HT_.out (by kernel_rfl)) (fun _ _ _ h => h) (Or.inl ⟨by rfl,?_⟩) ?_ ?_
         rotate_left
         ·intro w'
          go_simp
          with_reducible rfl
         rotate_left
         ·simp only [Act.put,List.setIfInBounds_toArray,List.set_cons_zero,List.set_cons_succ,i64_w,i32_w]
          rfl
         refine pure_ (i := 2) (N := some 43) (v := ?_) (a' := ?_) #[true,false,true,false,false,false,false,false,false,false,false,false,false,false,false,false,false,false,false,false,false,false,false,false,false,false,false] rfl rfl (any_of HT_.out (by kernel_rfl)) (fun _ _ _ h => h) (Or.inl ⟨by rfl,?_⟩) ?_ ?_
         rotate_left
         ·intro w'
          go_simp
          with_reducible rfl
         rotate_left
         ·simp only [Act.put,List.setIfInBounds_toArray,List.set_cons_zero,List.set_cons_succ,i64_w,i32_w]
          rfl
         refine take_ (i := 1) (N := some 42) (v := ?_) (a' := ?_) #[true,true,true,false,false,false,false,false,false,false,false,false,false,false,false,false,false,false,false,false,false,false,false,false,false,false,false] rfl rfl (take_ofW HT_.out HW_.out (by kernel_rfl)) (fun _ _ _ h => h) (Or.inl ⟨by rfl,?_⟩) hHeld ?_ ?_
         rotate_left
         ·rintro w' ⟨s0,s1,s2,s3,s4,s5,s6,s7⟩
          go_simp
          with_reducible rfl
         rotate_left
         ·simp only [Act.put,List.setIfInBounds_toArray,List.set_cons_zero,List.set_cons_succ,i64_w,i32_w]
          rfl
         refine pure_ (i := 3) (N := some 44) (v := ?_) (a' := ?_) #[true,true,true,true,false,false,false,false,false,false,false,false,false,false,false,false,false,false,false,false,false,false,false,false,false,false,false] rfl rfl (any_of HT_.out (by kernel_rfl)) (fun _ _ _ h => h) (Or.inl ⟨by rfl,?_⟩) ?_ ?_
         rotate_left
         ·intro w'
          go_simp
          with_reducible rfl
         rotate_left
         ·simp only [Act.put,List.setIfInBounds_toArray,List.set_cons_zero,List.set_cons_succ,i64_w,i32_w]
          rfl
         refine take_ (i := 4) (N := some 45) (v := ?_) (a' := ?_) #[true,true,true,true,true,false,false,false,false,false,false,false,false,false,false,false,false,false,false,false,false,false,false,false,false,false,false] rfl rfl (take_ofW HT_.out HW_.out (by kernel_rfl)) (fun _ _ _ h => h) (Or.inl ⟨by rfl,?_⟩) hHeld ?_ ?_
         rotate_left
         ·rintro w' ⟨s0,s1,s2,s3,s4,s5,s6,s7⟩
          go_simp
          with_reducible rfl
         rotate_left
         ·simp only [Act.put,List.setIfInBounds_toArray,List.set_cons_zero,List.set_cons_succ,i64_w,i32_w]
          rfl
         refine one_ (i := 5) (N := some 46) #[true,true,true,true,true,true,false,false,false,false,false,false,false,false,false,false,false,false,false,false,false,false,false,false,false,false,false] rfl rfl (one_of HT_.out (by kernel_rfl)) (by decide) (fun K hK => ?_)
         refine goes_ Try.func71 (by kernel_rfl) rfl #[.agg #[.string ((rd_T61 l0_1 x3_2).f0),.string ((rd_T61 l0_1 x3_2).f1),.string ((rd_T61 l0_1 x3_2).f2)]] (by rfl) rfl rfl (by (try simp only [List.map_toArray,List.map_cons,List.map_nil]);first|done|rfl|(simp only [List.length_drop,List.length_take];rfl)) ?_
         with_reducible refine (spec_l23Term.calls k2 ((rd_T61 l0_1 x3_2).f0) ((rd_T61 l0_1 x3_2).f1) ((rd_T61 l0_1 x3_2).f2) false _ A19.out).mono ?_
         rintro e w37 ⟨rfl,hb⟩
         refine ⟨_,rfl,?_⟩
         have n0_ := Aside0.mk (blk_below (g := gb116) (o := .cells #[.string a0_0,.slice (some ad120) l0_1.length c0_1,.slice A0_2 l0_2.length c0_2,.string a0_3,.string a0_4] 31 (0,0)) (by (with_reducible repeat (first|refine bN ?_ _|refine bD ?_|refine bA ?_ _));exact BK116.out) hb)
         have n1_ := Aside0.mk (below_step (by repeat (first|(with_reducible first|exact HB.out|apply lA|apply lN|apply lD|refine below_set ?_ GE116.out)|exact HB.out)) hb)
         clear BK116
         clear HB
         have BK116 := n0_
         have HB := n1_
         clear n0_ n1_
         (try clear hb)
         (try clear hb2)
         (try clear hk)
         (try clear hi)
         refine hK.out _ _ ⟨(blk_cell BK116.out 0).trans rfl,(blk_cell BK116.out 1).trans rfl,(blk_cell BK116.out 2).trans rfl,(blk_cell BK116.out 3).trans rfl,(blk_cell BK116.out 4).trans rfl,((HB.out.cell (World.block_lt_of_cell? w _ hw120_0)).trans hw120_0),((HB.out.cell (World.block_lt_of_cell? w _ hw120_1)).trans hw120_1),((HB.out.cell (World.block_lt_of_cell? w _ hw120_2)).trans hw120_2)⟩ (fun hHeld => ?_)
         clear hK K
         refine norm_ (a' := ?_) ?_ ?_
         rotate_left
         ·show Act.put _ (some 46) _ = _
          simp only [Act.put,List.setIfInBounds_toArray,List.set_cons_zero,List.set_cons_succ,i64_w,i32_w]
          rfl
         refine pure_ (i := 6) (N := some 47) (v := ?_) (a' := ?_) #[true,true,true,true,true,true,true,false,false,false,false,false,false,false,false,false,false,false,false,false,false,false,false,false,false,false,false] rfl rfl (any_of HT_.out (by kernel_rfl)) (fun _ _ _ h => h) (Or.inl ⟨by rfl,?_⟩) ?_ ?_
         rotate_left
         ·intro w'
          go_simp
          with_reducible rfl
         rotate_left
         ·simp only [Act.put,List.setIfInBounds_toArray,List.set_cons_zero,List.set_cons_succ,i64_w,i32_w]
          rfl
         refine pure_ (i := 7) (N := some 48) (v := ?_) (a' := ?_) #[true,true,true,true,true,true,true,true,false,false,false,false,false,false,false,false,false,false,false,false,false,false,false,false,false,false,false] rfl rfl (any_of HT_.out (by kernel_rfl)) (fun _ _ _ h => h) (Or.inl ⟨by rfl,?_⟩) ?_ ?_
         rotate_left
         ·intro w'
          go_simp
          with_reducible rfl
         rotate_left
         ·simp only [Act.put,List.setIfInBounds_toArray,List.set_cons_zero,List.set_cons_succ,i64_w,i32_w]
          rfl
         refine pure_ (i := 8) (N := some 49) (v := undef) (a' := ?_) #[true,true,true,true,true,true,true,true,true,false,false,false,false,false,false,false,false,false,false,false,false,false,false,false,false,false,false] rfl rfl (any_of HT_.out (by kernel_rfl)) (fun _ _ _ h => h) (Or.inr ⟨by rfl,rfl⟩) ?_ ?_
         rotate_left
         ·simp only [Act.put,List.setIfInBounds_toArray,List.set_cons_zero,List.set_cons_succ,i64_w,i32_w]
          rfl
         refine pure_ (i := 9) (N := some 50) (v := undef) (a' := ?_) #[true,true,true,true,true,true,true,true,true,true,false,false,false,false,false,false,false,false,false,false,false,false,false,false,false,false,false] rfl rfl (any_of HT_.out (by kernel_rfl)) (fun _ _ _ h => h) (Or.inr ⟨by rfl,rfl⟩) ?_ ?_
         rotate_left
         ·simp only [Act.put,List.setIfInBounds_toArray,List.set_cons_zero,List.set_cons_succ,i64_w,i32_w]
          rfl
         refine pure_ (i := 10) (N := some 51) (v := undef) (a' := ?_) #[true,true,true,true,true,true,true,true,true,true,true,false,false,false,false,false,false,false,false,false,false,false,false,false,false,false,false] rfl rfl (any_of HT_.out (by kernel_rfl)) (fun _ _ _ h => h) (Or.inr ⟨by rfl,rfl⟩) ?_ ?_
         rotate_left
         ·simp only [Act.put,List.setIfInBounds_toArray,List.set_cons_zero,List.set_cons_succ,i64_w,i32_w]
          rfl
         refine pure_ (i := 11) (N := some 52) (v := undef) (a' := ?_) #[true,true,true,true,true,true,true,true,true,true,true,true,false,false,false,false,false,false,false,false,false,false,false,false,false,false,false] rfl rfl (any_of HT_.out (by kernel_rfl)) (fun _ _ _ h => h) (Or.inr ⟨by rfl,rfl⟩) ?_ ?_
         rotate_left
         ·simp only [Act.put,List.setIfInBounds_toArray,List.set_cons_zero,List.set_cons_succ,i64_w,i32_w]
          rfl
         refine pure_ (i := 12) (N := some 53) (v := undef) (a' := ?_) #[true,true,true,true,true,true,true,true,true,true,true,true,true,false,false,false,false,false,false,false,false,false,false,false,false,false,false] rfl rfl (any_of HT_.out (by kernel_rfl)) (fun _ _ _ h => h) (Or.inr ⟨by rfl,rfl⟩) ?_ ?_
         rotate_left
         ·simp only [Act.put,List.setIfInBounds_toArray,List.set_cons_zero,List.set_cons_succ,i64_w,i32_w]
          rfl
         refine pure_ (i := 13) (N := some 54) (v := undef) (a' := ?_) #[true,true,true,true,true,true,true,true,true,true,true,true,true,true,false,false,false,false,false,false,false,false,false,false,false,false,false] rfl rfl (any_of HT_.out (by kernel_rfl)) (fun _ _ _ h => h) (Or.inr ⟨by rfl,rfl⟩) ?_ ?_
         rotate_left
         ·simp only [Act.put,List.setIfInBounds_toArray,List.set_cons_zero,List.set_cons_succ,i64_w,i32_w]
          rfl
         refine pure_ (i := 14) (N := some 55) (v := undef) (a' := ?_) #[true,true,true,true,true,true,true,true,true,true,true,true,true,true,true,false,false,false,false,false,false,false,false,false,false,false,false] rfl rfl (any_of HT_.out (by kernel_rfl)) (fun _ _ _ h => h) (Or.inr ⟨by rfl,rfl⟩) ?_ ?_
         rotate_left
         ·simp only [Act.put,List.setIfInBounds_toArray,List.set_cons_zero,List.set_cons_succ,i64_w,i32_w]
          rfl
         refine pure_ (i := 15) (N := some 56) (v := undef) (a' := ?_) #[true,true,true,true,true,true,true,true,true,true,true,true,true,true,true,true,false,false,false,false,false,false,false,false,false,false,false] rfl rfl (any_of HT_.out (by kernel_rfl)) (fun _ _ _ h => h) (Or.inr ⟨by rfl,rfl⟩) ?_ ?_
         rotate_left
         ·simp only [Act.put,List.setIfInBounds_toArray,List.set_cons_zero,List.set_cons_succ,i64_w,i32_w]
          rfl
         refine pure_ (i := 16) (N := some 57) (v := undef) (a' := ?_) #[true,true,true,true,true,true,true,true,true,true,true,true,true,true,true,true,true,false,false,false,false,false,false,false,false,false,false] rfl rfl (any_of HT_.out (by kernel_rfl)) (fun _ _ _ h => h) (Or.inr ⟨by rfl,rfl⟩) ?_ ?_
         rotate_left
         ·simp only [Act.put,List.setIfInBounds_toArray,List.set_cons_zero,List.set_cons_succ,i64_w,i32_w]
          rfl
         refine pure_ (i := 17) (N := some 58) (v := undef) (a' := ?_) #[true,true,true,true,true,true,true,true,true,true,true,true,true,true,true,true,true,true,false,false,false,false,false,false,false,false,false] rfl rfl (any_of HT_.out (by kernel_rfl)) (fun _ _ _ h => h) (Or.inr ⟨by rfl,rfl⟩) ?_ ?_
         rotate_left
         ·simp only [Act.put,List.setIfInBounds_toArray,List.set_cons_zero,List.set_cons_succ,i64_w,i32_w]
          rfl
         refine pure_ (i := 18) (N := some 59) (v := undef) (a' := ?_) #[true,true,true,true,true,true,true,true,true,true,true,true,true,true,true,true,true,true,true,false,false,false,false,false,false,false,false] rfl rfl (any_of HT_.out (by kernel_rfl)) (fun _ _ _ h => h) (Or.inr ⟨by rfl,rfl⟩) ?_ ?_
         rotate_left
         ·simp only [Act.put,List.setIfInBounds_toArray,List.set_cons_zero,List.set_cons_succ,i64_w,i32_w]
          rfl
         refine pure_ (i := 19) (N := some 60) (v := undef) (a' := ?_) #[true,true,true,true,true,true,true,true,true,true,true,true,true,true,true,true,true,true,true,true,false,false,false,false,false,false,false] rfl rfl (any_of HT_.out (by kernel_rfl)) (fun _ _ _ h => h) (Or.inr ⟨by rfl,rfl⟩) ?_ ?_
         rotate_left
         ·simp only [Act.put,List.setIfInBounds_toArray,List.set_cons_zero,List.set_cons_succ,i64_w,i32_w]
          rfl
         refine pure_ (i := 20) (N := some 61) (v := undef) (a' := ?_) #[true,true,true,true,true,true,true,true,true,true,true,true,true,true,true,true,true,true,true,true,true,false,false,false,false,false,false] rfl rfl (any_of HT_.out (by kernel_rfl)) (fun _ _ _ h => h) (Or.inr ⟨by rfl,rfl⟩) ?_ ?_
         rotate_left
         ·simp only [Act.put,List.setIfInBounds_toArray,List.set_cons_zero,List.set_cons_succ,i64_w,i32_w]
          rfl
         refine pure_ (i := 21) (N := some 62) (v := undef) (a' := ?_) #[true,true,true,true,true,true,true,true,true,true,true,true,true,true,true,true,true,true,true,true,true,true,false,false,false,false,false] rfl rfl (any_of HT_.out (by kernel_rfl)) (fun _ _ _ h => h) (Or.inr ⟨by rfl,rfl⟩) ?_ ?_
         rotate_left
         ·simp only [Act.put,List.setIfInBounds_toArray,List.set_cons_zero,List.set_cons_succ,i64_w,i32_w]
          rfl
         refine pure_ (i := 22) (N := some 63) (v := undef) (a' := ?_) #[true,true,true,true,true,true,true,true,true,true,true,true,true,true,true,true,true,true,true,true,true,true,true,false,false,false,false] rfl rfl (any_of HT_.out (by kernel_rfl)) (fun _ _ _ h => h) (Or.inr ⟨by rfl,rfl⟩) ?_ ?_
         rotate_left
         ·simp only [Act.put,List.setIfInBounds_toArray,List.set_cons_zero,List.set_cons_succ,i64_w,i32_w]
          rfl
         refine pure_ (i := 23) (N := some 64) (v := undef) (a' := ?_) #[true,true,true,true,true,true,true,true,true,true,true,true,true,true,true,true,true,true,true,true,true,true,true,true,false,false,false] rfl rfl (any_of HT_.out (by kernel_rfl)) (fun _ _ _ h => h) (Or.inr ⟨by rfl,rfl⟩) ?_ ?_
         rotate_left
         ·simp only [Act.put,List.setIfInBounds_toArray,List.set_cons_zero,List.set_cons_succ,i64_w,i32_w]
          rfl
         refine pure_ (i := 24) (N := some 65) (v := undef) (a' := ?_) #[true,true,true,true,true,true,true,true,true,true,true,true,true,true,true,true,true,true,true,true,true,true,true,true,true,false,false] rfl rfl (any_of HT_.out (by kernel_rfl)) (fun _ _ _ h => h) (Or.inr ⟨by rfl,rfl⟩) ?_ ?_
         rotate_left
         ·simp only [Act.put,List.setIfInBounds_toArray,List.set_cons_zero,List.set_cons_succ,i64_w,i32_w]
          rfl
         refine pure_ (i := 25) (N := some 66) (v := undef) (a' := ?_) #[true,true,true,true,true,true,true,true,true,true,true,true,true,true,true,true,true,true,true,true,true,true,true,true,true,true,false] rfl rfl (any_of HT_.out (by kernel_rfl)) (fun _ _ _ h => h) (Or.inr ⟨by rfl,rfl⟩) ?_ ?_
         rotate_left
         ·simp only [Act.put,List.setIfInBounds_toArray,List.set_cons_zero,List.set_cons_succ,i64_w,i32_w]
          rfl
         refine pure_ (i := 26) (N := some 67) (v := ?_) (a' := ?_) #[true,true,true,true,true,true,true,true,true,true,true,true,true,true,true,true,true,true,true,true,true,true,true,true,true,true,true] rfl rfl (any_of HT_.out (by kernel_rfl)) (fun _ _ _ h => h) (Or.inl ⟨by rfl,?_⟩) ?_ ?_
         rotate_left
         ·intro w'
          go_simp
          with_reducible rfl
         rotate_left
         ·simp only [Act.put,List.setIfInBounds_toArray,List.set_cons_zero,List.set_cons_succ,i64_w,i32_w]
          rfl
         refine done_ (done_of HT_.out (by kernel_rfl)) ?_
         try go_wp2
         go_ret
         exact ⟨by first|rfl|(simp [errW_none,errW_some] <;> rfl)|(simp [*,errW_none,errW_some] <;> rfl),by repeat (first|(with_reducible first|exact HB.out|apply lA|apply lN|apply lD|refine below_set ?_ GE116.out)|exact HB.out)⟩
       ·rw [if_neg c18] at H
        exact absurd H (by simp)
      ·rw [if_neg c17] at H
       have c17b0 : decide (x3_2 < (l0_1.length : Int)) = false := decide_eq_false c17
       clear c17
       have H' := Aside0.mk H
       clear H
       have hcz38_0 : wr.cell? ⟨gb116,0,none⟩ = some (.string a0_0) := (blk_cell BK116.out 0).trans rfl
       have hcz38_1 : wr.cell? ⟨gb116,1,none⟩ = some (.slice A0_1 l0_1.length c0_1) := (blk_cell BK116.out 1).trans rfl
       have hcz38_2 : wr.cell? ⟨gb116,2,none⟩ = some (.slice A0_2 l0_2.length c0_2) := (blk_cell BK116.out 2).trans rfl
       have hcz38_3 : wr.cell? ⟨gb116,3,none⟩ = some (.string a0_3) := (blk_cell BK116.out 3).trans rfl
       have hcz38_4 : wr.cell? ⟨gb116,4,none⟩ = some (.string a0_4) := (blk_cell BK116.out 4).trans rfl
       have hfz38_0 := blk_frozen BK116.out 0
       have hfz38_1 := blk_frozen BK116.out 1
       have hfz38_2 := blk_frozen BK116.out 2
       have hfz38_3 := blk_frozen BK116.out 3
       have hfz38_4 := blk_frozen BK116.out 4
       go_wp2
       go_loopg [4] k2 (fun kq v4 w' => ∃ (x4_3 : Int),v4 = .int .i64 x4_3 ∧ Aside0 (spec_l23Good.l1 kq x4_3 a0_0 l0_1 l0_2 a0_3 a0_4 = some r) ∧ Aside0 (kq ≤ k2) ∧ Aside0 (w'.heap[gb116]? = some (.cells #[.string a0_0,(.slice A0_1 l0_1.length c0_1),(.slice A0_2 l0_2.length c0_2),.string a0_3,.string a0_4] 31 (0,0))) ∧ Aside0 (Below w.heap.size w w'))
       case atStart => exact ⟨(0),(by first|rfl|(simp;done)|(simp [my_isEmpty];done)|(simp [*];done)),H',⟨Nat.le_refl _⟩,⟨by (with_reducible repeat (first|refine bN ?_ _|refine bD ?_|refine bA ?_ _));exact BK116.out⟩,⟨by repeat (first|(with_reducible first|exact HB.out|apply lA|apply lN|apply lD|refine below_set ?_ GE116.out)|exact HB.out)⟩⟩
       case round =>
        clear H'
        try clear c1
        try clear p1
        try clear q1
        try clear hx1
        try clear c2
        try clear p2
        try clear p6
        try clear c7
        try clear p12
        try clear q12
        try clear hx12
        try clear c17
        try clear c17b0
        try clear c18
        try clear c20
        try clear c21
        try clear c21b0
        try clear c23
        try clear c24
        try clear hcz32_0
        try clear hcz32_1
        try clear hcz32_2
        try clear hcz32_3
        try clear hcz32_4
        try clear hcz35_0
        try clear hcz35_1
        try clear hcz35_2
        try clear hcz35_3
        try clear hcz35_4
        try clear hcz38_0
        try clear hcz38_1
        try clear hcz38_2
        try clear hcz38_3
        try clear hcz38_4
        try clear hfz32_0
        try clear hfz32_1
        try clear hfz32_2
        try clear hfz32_3
        try clear hfz32_4
        try clear hfz35_0
        try clear hfz35_1
        try clear hfz35_2
        try clear hfz35_3
        try clear hfz35_4
        try clear hfz38_0
        try clear hfz38_1
        try clear hfz38_2
        try clear hfz38_3
        try clear hfz38_4
        try clear hx120_0
        try clear hx120_1
        try clear hx120_2
        try clear p120
        try clear q120
        obtain ⟨x4_3,rfl,HA,HK3,BK116,HB⟩ := hrel
        cases gk with
        | zero => exact absurd HA.out (by simp [spec_l23Good.l1])
        | succ k3 =>
         have H := HA.out
         clear HA
         simp only [spec_l23Good.l1] at H
         by_cases c39 : x4_3 < (l0_2.length : Int)
         ·rw [if_pos c39] at H
          have c39b0 : decide (x4_3 < (l0_2.length : Int)) = true := decide_eq_true c39
          clear c39
          by_cases c40 : 0 ≤ x4_3
          ·rw [if_pos c40] at H
           have c40b0 : decide (0 ≤ x4_3) = true := decide_eq_true c40
           clear c40
           replace H := Option.bind_eq_some_iff.mp H
           obtain ⟨t126,A410,H⟩ := H
           replace H : (if t126 = true then ((spec_l1In.f ((rd_T72 l0_2 x4_3).f1) 0 (wrap64 (((rd_T72 l0_2 x4_3).f0) - 1))).bind fun t127 => (if t127 = true then ((spec_l23Bytes.f k3 ((rd_T72 l0_2 x4_3).f2) 0 4 33).bind fun t128 => (if t128 = true then (spec_l23Good.l1 k3 (wrap64 (x4_3 + 1)) a0_0 l0_1 l0_2 a0_3 a0_4) else (some false))) else (some false))) else (some false)) = some r := H
           have A41 := Aside0.mk A410
           clear A410
           by_cases c42 : t126 = true
           ·subst c42
            have H1 : ((spec_l1In.f ((rd_T72 l0_2 x4_3).f1) 0 (wrap64 (((rd_T72 l0_2 x4_3).f0) - 1))).bind fun t127 => (if t127 = true then ((spec_l23Bytes.f k3 ((rd_T72 l0_2 x4_3).f2) 0 4 33).bind fun t128 => (if t128 = true then (spec_l23Good.l1 k3 (wrap64 (x4_3 + 1)) a0_0 l0_1 l0_2 a0_3 a0_4) else (some false))) else (some false))) = some r := by rw [if_pos rfl] at H;exact H
            clear H
            have H := H1
            clear H1
            replace H := Option.bind_eq_some_iff.mp H
            obtain ⟨t127,A430,H⟩ := H
            replace H : (if t127 = true then ((spec_l23Bytes.f k3 ((rd_T72 l0_2 x4_3).f2) 0 4 33).bind fun t128 => (if t128 = true then (spec_l23Good.l1 k3 (wrap64 (x4_3 + 1)) a0_0 l0_1 l0_2 a0_3 a0_4) else (some false))) else (some false)) = some r := H
            have A43 := Aside0.mk A430
            clear A430
            by_cases c44 : t127 = true
            ·subst c44
             have H1 : ((spec_l23Bytes.f k3 ((rd_T72 l0_2 x4_3).f2) 0 4 33).bind fun t128 => (if t128 = true then (spec_l23Good.l1 k3 (wrap64 (x4_3 + 1)) a0_0 l0_1 l0_2 a0_3 a0_4) else (some false))) = some r := by rw [if_pos rfl] at H;exact H
             clear H
             have H := H1
             clear H1
             replace H := Option.bind_eq_some_iff.mp H
             obtain ⟨t128,A450,H⟩ := H
             replace H : (if t128 = true then (spec_l23Good.l1 k3 (wrap64 (x4_3 + 1)) a0_0 l0_1 l0_2 a0_3 a0_4) else (some false)) = some r := H
             have A45 := Aside0.mk A450
             clear A450
             by_cases c46 : t128 = true
             ·subst c46
              have H1 : (spec_l23Good.l1 k3 (wrap64 (x4_3 + 1)) a0_0 l0_1 l0_2 a0_3 a0_4) = some r := by rw [if_pos rfl] at H;exact H
              clear H
              have H := H1
              clear H1
              have H' := Aside0.mk H
              clear H
              have hcz47_0 : wr.cell? ⟨gb116,0,none⟩ = some (.string a0_0) := (blk_cell BK116.out 0).trans rfl
              have hcz47_1 : wr.cell? ⟨gb116,1,none⟩ = some (.slice A0_1 l0_1.length c0_1) := (blk_cell BK116.out 1).trans rfl
              have hcz47_2 : wr.cell? ⟨gb116,2,none⟩ = some (.slice A0_2 l0_2.length c0_2) := (blk_cell BK116.out 2).trans rfl
              have hcz47_3 : wr.cell? ⟨gb116,3,none⟩ = some (.string a0_3) := (blk_cell BK116.out 3).trans rfl
              have hcz47_4 : wr.cell? ⟨gb116,4,none⟩ = some (.string a0_4) := (blk_cell BK116.out 4).trans rfl
              have hfz47_0 := blk_frozen BK116.out 0
              have hfz47_1 := blk_frozen BK116.out 1
              have hfz47_2 := blk_frozen BK116.out 2
              have hfz47_3 := blk_frozen BK116.out 3
              have hfz47_4 := blk_frozen BK116.out 4
              have p124 : 0 ≤ (x4_3 : Int) := of_decide_eq_true (by first|(with_reducible assumption)|assumption)
              have q124 : x4_3 < (l0_2.length : Int) := of_decide_eq_true (by first|(with_reducible assumption)|assumption)
              obtain ⟨ad124,e124,hx124_0,hx124_1,hx124_2⟩ := at_T72 HR0_2.out x4_3 p124 q124
              cases e124
              replace hx124_0 := (HB.out.cell (World.block_lt_of_cell? w _ hx124_0)).trans hx124_0
              replace hx124_1 := (HB.out.cell (World.block_lt_of_cell? w _ hx124_1)).trans hx124_1
              replace hx124_2 := (HB.out.cell (World.block_lt_of_cell? w _ hx124_2)).trans hx124_2
              replace p124 := eq_true p124
              replace q124 := eq_true q124
              go_wp2_with (first|((with_reducible refine gate_dst (N := 5) rfl ?_);(try (refine gate_guard (by rfl) ?_;dsimp only));refine box_event ?hg (N := 5) ?hd (cs := #[.int .i64 0,.int .i64 0,.string (⟨#[]⟩ : ByteArray)]) (t := 72) ?hr ?_;(case hd => rfl);(case hg => rfl);(case hr => first|(go_simp;done)|(go_simp;rfl));intro gb125 hg w48 hbox hb;have n0_ := Aside0.mk (blk_below (g := gb116) (o := .cells #[.string a0_0,.slice A0_1 l0_1.length c0_1,.slice (some ad124) l0_2.length c0_2,.string a0_3,.string a0_4] 31 (0,0)) (by (with_reducible repeat (first|refine bN ?_ _|refine bD ?_|refine bA ?_ _));exact BK116.out) hb);have n1_ := Aside0.mk (below_step (by repeat (first|(with_reducible first|exact HB.out|apply lA|apply lN|apply lD|refine below_set ?_ GE116.out)|exact HB.out)) hb);have n2_ := Aside0.mk (hbox);have n3_ := Aside0.mk ((by rw [hg];exact (below_size (by repeat (first|(with_reducible first|exact HB.out|apply lA|apply lN|apply lD|refine below_set ?_ GE116.out)|exact HB.out))) : w.heap.size ≤ gb125));have n4_ := Aside0.mk ((by rw [hg];exact (below_size (by repeat (first|(with_reducible first|exact HB.out|apply lA|apply lN|apply lD|refine below_set ?_ GE116.out)|exact HB.out))) : w.heap.size ≤ gb125));have n5_ := Aside0.mk ((by rw [hg];exact Nat.ne_of_lt (blk_lt (g := gb116) (o := .cells #[.string a0_0,.slice A0_1 l0_1.length c0_1,.slice (some ad124) l0_2.length c0_2,.string a0_3,.string a0_4] 31 (0,0)) (by (with_reducible repeat (first|refine bN ?_ _|refine bD ?_|refine bA ?_ _));exact BK116.out)) : gb116 ≠ gb125));have n6_ := Aside0.mk ((by rw [hg];exact Nat.ne_of_gt (blk_lt (g := gb116) (o := .cells #[.string a0_0,.slice A0_1 l0_1.length c0_1,.slice (some ad124) l0_2.length c0_2,.string a0_3,.string a0_4] 31 (0,0)) (by (with_reducible repeat (first|refine bN ?_ _|refine bD ?_|refine bA ?_ _));exact BK116.out)) : gb125 ≠ gb116));clear BK116;clear HB;have BK116 := n0_;have HB := n1_;have BK125 := n2_;have GW125 := n3_;have GE125 := n4_;have NB116_125 := n5_;have NB125_116 := n6_;clear n0_ n1_ n2_ n3_ n4_ n5_ n6_;clear hb hbox hg;have hnb49 := NB125_116.out;have hnc49 := NB116_125.out;have hcz50_0 : w48.cell? ⟨gb125,0,none⟩ = some (.int .i64 0) := (blk_cell BK125.out 0).trans rfl;have hcz50_1 : w48.cell? ⟨gb125,1,none⟩ = some (.int .i64 0) := (blk_cell BK125.out 1).trans rfl;have hcz50_2 : w48.cell? ⟨gb125,2,none⟩ = some (.string (⟨#[]⟩ : ByteArray)) := (blk_cell BK125.out 2).trans rfl;have hfz50_0 := blk_frozen BK125.out 0;have hfz50_1 := blk_frozen BK125.out 1;have hfz50_2 := blk_frozen BK125.out 2)|((with_reducible refine gate_callee (f := 49) rfl ?_);refine goesL_ (some 82) rfl rfl Try.func49 (by kernel_rfl) rfl #[.int .i64 ((rd_T72 l0_2 x4_3).f0),.int .i64 1,.int .i64 1000] rfl (by (try simp only [List.map_toArray,List.map_cons,List.map_nil]);first|done|rfl|(simp only [List.length_drop,List.length_take];rfl)) ?_;(with_reducible refine (spec_l1In.calls ((rd_T72 l0_2 x4_3).f0) 1 1000 true _ A41.out).mono ?_);rintro e w' ⟨rfl,⟨nd,rfl⟩⟩;refine ⟨_,rfl,?_⟩)|(go_at_call 49;(with_reducible refine (spec_l1In.calls ((rd_T72 l0_2 x4_3).f1) 0 (wrap64 (((rd_T72 l0_2 x4_3).f0) - 1)) true _ A43.out).mono ?_);rintro e w' ⟨rfl,⟨nd,rfl⟩⟩)|(go_at_call 59;(with_reducible refine (spec_l23Bytes.calls k3 ((rd_T72 l0_2 x4_3).f2) 0 4 33 true _ A45.out).mono ?_);rintro e w' ⟨rfl,⟨nd,rfl⟩⟩))
              go_roundg k3
              case measure => have := HJ1.out;have := HK2.out;have := HK3.out;omega
              case rel => exact ⟨(wrap64 (x4_3 + 1)),(by first|rfl|(simp;done)|(simp [my_isEmpty];done)|(simp [*];done)),H',⟨by have := HJ1.out;have := HK2.out;have := HK3.out;omega⟩,⟨by (with_reducible repeat (first|refine bN ?_ _|refine bD ?_|refine bA ?_ _));refine blk_far ?_ NB116_125.out _;(with_reducible repeat (first|refine bN ?_ _|refine bD ?_|refine bA ?_ _));refine blk_far ?_ NB116_125.out _;(with_reducible repeat (first|refine bN ?_ _|refine bD ?_|refine bA ?_ _));refine blk_far ?_ NB116_125.out _;(with_reducible repeat (first|refine bN ?_ _|refine bD ?_|refine bA ?_ _));exact BK116.out⟩,⟨by repeat (first|(with_reducible first|exact HB.out|apply lA|apply lN|apply lD|refine below_set ?_ GE116.out|refine below_set ?_ GE125.out)|exact HB.out)⟩⟩
             ·replace c46 := Bool.eq_false_iff.mpr c46
              subst c46
              have H1 : (some false) = some r := by rw [if_neg (show ¬ (false = true) by decide)] at H;exact H
              clear H
              have H := H1
              clear H1
              obtain rfl := Option.some.inj H
              simp only [Option.some.injEq,Prod.mk.injEq] at H
              obtain ⟨rfl⟩ := H
              have hcz51_0 : wr.cell? ⟨gb116,0,none⟩ = some (.string a0_0) := (blk_cell BK116.out 0).trans rfl
              have hcz51_1 : wr.cell? ⟨gb116,1,none⟩ = some (.slice A0_1 l0_1.length c0_1) := (blk_cell BK116.out 1).trans rfl
              have hcz51_2 : wr.cell? ⟨gb116,2,none⟩ = some (.slice A0_2 l0_2.length c0_2) := (blk_cell BK116.out 2).trans rfl
              have hcz51_3 : wr.cell? ⟨gb116,3,none⟩ = some (.string a0_3) := (blk_cell BK116.out 3).trans rfl
              have hcz51_4 : wr.cell? ⟨gb116,4,none⟩ = some (.string a0_4) := (blk_cell BK116.out 4).trans rfl
              have hfz51_0 := blk_frozen BK116.out 0
              have hfz51_1 := blk_frozen BK116.out 1
              have hfz51_2 := blk_frozen BK116.out 2
              have hfz51_3 := blk_frozen BK116.out 3
              have hfz51_4 := blk_frozen BK116.out 4
              have p124 : 0 ≤ (x4_3 : Int) := of_decide_eq_true (by first|(with_reducible assumption)|assumption)
              have q124 : x4_3 < (l0_2.length : Int) := of_decide_eq_true (by first|(with_reducible assumption)|assumption)
              obtain ⟨ad124,e124,hx124_0,hx124_1,hx124_2⟩ := at_T72 HR0_2.out x4_3 p124 q124
              cases e124
              replace hx124_0 := (HB.out.cell (World.block_lt_of_cell? w _ hx124_0)).trans hx124_0
              replace hx124_1 := (HB.out.cell (World.block_lt_of_cell? w _ hx124_1)).trans hx124_1
              replace hx124_2 := (HB.out.cell (World.block_lt_of_cell? w _ hx124_2)).trans hx124_2
              replace p124 := eq_true p124
              replace q124 := eq_true q124
              go_wp2_with (first|((with_reducible refine gate_dst (N := 5) rfl ?_);(try (refine gate_guard (by rfl) ?_;dsimp only));refine box_event ?hg (N := 5) ?hd (cs := #[.int .i64 0,.int .i64 0,.string (⟨#[]⟩ : ByteArray)]) (t := 72) ?hr ?_;(case hd => rfl);(case hg => rfl);(case hr => first|(go_simp;done)|(go_simp;rfl));intro gb125 hg w52 hbox hb;have n0_ := Aside0.mk (blk_below (g := gb116) (o := .cells #[.string a0_0,.slice A0_1 l0_1.length c0_1,.slice (some ad124) l0_2.length c0_2,.string a0_3,.string a0_4] 31 (0,0)) (by (with_reducible repeat (first|refine bN ?_ _|refine bD ?_|refine bA ?_ _));exact BK116.out) hb);have n1_ := Aside0.mk (below_step (by repeat (first|(with_reducible first|exact HB.out|apply lA|apply lN|apply lD|refine below_set ?_ GE116.out)|exact HB.out)) hb);have n2_ := Aside0.mk (hbox);have n3_ := Aside0.mk ((by rw [hg];exact (below_size (by repeat (first|(with_reducible first|exact HB.out|apply lA|apply lN|apply lD|refine below_set ?_ GE116.out)|exact HB.out))) : w.heap.size ≤ gb125));have n4_ := Aside0.mk ((by rw [hg];exact (below_size (by repeat (first|(with_reducible first|exact HB.out|apply lA|apply lN|apply lD|refine below_set ?_ GE116.out)|exact HB.out))) : w.heap.size ≤ gb125));have n5_ := Aside0.mk ((by rw [hg];exact Nat.ne_of_lt (blk_lt (g := gb116) (o := .cells #[.string a0_0,.slice A0_1 l0_1.length c0_1,.slice (some ad124) l0_2.length c0_2,.string a0_3,.string a0_4] 31 (0,0)) (by (with_reducible repeat (first|refine bN ?_ _|refine bD ?_|refine bA ?_ _));exact BK116.out)) : gb116 ≠ gb125));have n6_ := Aside0.mk ((by rw [hg];exact Nat.ne_of_gt (blk_lt (g := gb116) (o := .cells #[.string a0_0,.slice A0_1 l0_1.length c0_1,.slice (some ad124) l0_2.length c0_2,.string a0_3,.string a0_4] 31 (0,0)) (by (with_reducible repeat (first|refine bN ?_ _|refine bD ?_|refine bA ?_ _));exact BK116.out)) : gb125 ≠ gb116));clear BK116;clear HB;have BK116 := n0_;have HB := n1_;have BK125 := n2_;have GW125 := n3_;have GE125 := n4_;have NB116_125 := n5_;have NB125_116 := n6_;clear n0_ n1_ n2_ n3_ n4_ n5_ n6_;clear hb hbox hg;have hnb53 := NB125_116.out;have hnc53 := NB116_125.out;have hcz54_0 : w52.cell? ⟨gb125,0,none⟩ = some (.int .i64 0) := (blk_cell BK125.out 0).trans rfl;have hcz54_1 : w52.cell? ⟨gb125,1,none⟩ = some (.int .i64 0) := (blk_cell BK125.out 1).trans rfl;have hcz54_2 : w52.cell? ⟨gb125,2,none⟩ = some (.string (⟨#[]⟩ : ByteArray)) := (blk_cell BK125.out 2).trans rfl;have hfz54_0 := blk_frozen BK125.out 0;have hfz54_1 := blk_frozen BK125.out 1;have hfz54_2 := blk_frozen BK125.out 2)|((with_reducible refine gate_callee (f := 49) rfl ?_);refine goesL_ (some 82) rfl rfl Try.func49 (by kernel_rfl) rfl #[.int .i64 ((rd_T72 l0_2 x4_3).f0),.int .i64 1,.int .i64 1000] rfl (by (try simp only [List.map_toArray,List.map_cons,List.map_nil]);first|done|rfl|(simp only [List.length_drop,List.length_take];rfl)) ?_;(with_reducible refine (spec_l1In.calls ((rd_T72 l0_2 x4_3).f0) 1 1000 true _ A41.out).mono ?_);rintro e w' ⟨rfl,⟨nd,rfl⟩⟩;refine ⟨_,rfl,?_⟩)|(go_at_call 49;(with_reducible refine (spec_l1In.calls ((rd_T72 l0_2 x4_3).f1) 0 (wrap64 (((rd_T72 l0_2 x4_3).f0) - 1)) true _ A43.out).mono ?_);rintro e w' ⟨rfl,⟨nd,rfl⟩⟩)|(go_at_call 59;(with_reducible refine (spec_l23Bytes.calls k3 ((rd_T72 l0_2 x4_3).f2) 0 4 33 false _ A45.out).mono ?_);rintro e w' ⟨rfl,⟨nd,rfl⟩⟩))
              go_ret
              exact ⟨by first|rfl|(simp [errW_none,errW_some] <;> rfl)|(simp [*,errW_none,errW_some] <;> rfl),by repeat (first|(with_reducible first|exact HB.out|apply lA|apply lN|apply lD|refine below_set ?_ GE116.out|refine below_set ?_ GE125.out)|exact HB.out)⟩
            ·replace c44 := Bool.eq_false_iff.mpr c44
             subst c44
             have H1 : (some false) = some r := by rw [if_neg (show ¬ (false = true) by decide)] at H;exact H
             clear H
             have H := H1
             clear H1
             obtain rfl := Option.some.inj H
             simp only [Option.some.injEq,Prod.mk.injEq] at H
             obtain ⟨rfl⟩ := H
             have hcz55_0 : wr.cell? ⟨gb116,0,none⟩ = some (.string a0_0) := (blk_cell BK116.out 0).trans rfl
             have hcz55_1 : wr.cell? ⟨gb116,1,none⟩ = some (.slice A0_1 l0_1.length c0_1) := (blk_cell BK116.out 1).trans rfl
             have hcz55_2 : wr.cell? ⟨gb116,2,none⟩ = some (.slice A0_2 l0_2.length c0_2) := (blk_cell BK116.out 2).trans rfl
             have hcz55_3 : wr.cell? ⟨gb116,3,none⟩ = some (.string a0_3) := (blk_cell BK116.out 3).trans rfl
             have hcz55_4 : wr.cell? ⟨gb116,4,none⟩ = some (.string a0_4) := (blk_cell BK116.out 4).trans rfl
             have hfz55_0 := blk_frozen BK116.out 0
             have hfz55_1 := blk_frozen BK116.out 1
             have hfz55_2 := blk_frozen BK116.out 2
             have hfz55_3 := blk_frozen BK116.out 3
             have hfz55_4 := blk_frozen BK116.out 4
             have p124 : 0 ≤ (x4_3 : Int) := of_decide_eq_true (by first|(with_reducible assumption)|assumption)
             have q124 : x4_3 < (l0_2.length : Int) := of_decide_eq_true (by first|(with_reducible assumption)|assumption)
             obtain ⟨ad124,e124,hx124_0,hx124_1,hx124_2⟩ := at_T72 HR0_2.out x4_3 p124 q124
             cases e124
             replace hx124_0 := (HB.out.cell (World.block_lt_of_cell? w _ hx124_0)).trans hx124_0
             replace hx124_1 := (HB.out.cell (World.block_lt_of_cell? w _ hx124_1)).trans hx124_1
             replace hx124_2 := (HB.out.cell (World.block_lt_of_cell? w _ hx124_2)).trans hx124_2
             replace p124 := eq_true p124
             replace q124 := eq_true q124
             go_wp2_with (first|((with_reducible refine gate_dst (N := 5) rfl ?_);(try (refine gate_guard (by rfl) ?_;dsimp only));refine box_event ?hg (N := 5) ?hd (cs := #[.int .i64 0,.int .i64 0,.string (⟨#[]⟩ : ByteArray)]) (t := 72) ?hr ?_;(case hd => rfl);(case hg => rfl);(case hr => first|(go_simp;done)|(go_simp;rfl));intro gb125 hg w56 hbox hb;have n0_ := Aside0.mk (blk_below (g := gb116) (o := .cells #[.string a0_0,.slice A0_1 l0_1.length c0_1,.slice (some ad124) l0_2.length c0_2,.string a0_3,.string a0_4] 31 (0,0)) (by (with_reducible repeat (first|refine bN ?_ _|refine bD ?_|refine bA ?_ _));exact BK116.out) hb);have n1_ := Aside0.mk (below_step (by repeat (first|(with_reducible first|exact HB.out|apply lA|apply lN|apply lD|refine below_set ?_ GE116.out)|exact HB.out)) hb);have n2_ := Aside0.mk (hbox);have n3_ := Aside0.mk ((by rw [hg];exact (below_size (by repeat (first|(with_reducible first|exact HB.out|apply lA|apply lN|apply lD|refine below_set ?_ GE116.out)|exact HB.out))) : w.heap.size ≤ gb125));have n4_ := Aside0.mk ((by rw [hg];exact (below_size (by repeat (first|(with_reducible first|exact HB.out|apply lA|apply lN|apply lD|refine below_set ?_ GE116.out)|exact HB.out))) : w.heap.size ≤ gb125));have n5_ := Aside0.mk ((by rw [hg];exact Nat.ne_of_lt (blk_lt (g := gb116) (o := .cells #[.string a0_0,.slice A0_1 l0_1.length c0_1,.slice (some ad124) l0_2.length c0_2,.string a0_3,.string a0_4] 31 (0,0)) (by (with_reducible repeat (first|refine bN ?_ _|refine bD ?_|refine bA ?_ _));exact BK116.out)) : gb116 ≠ gb125));have n6_ := Aside0.mk ((by rw [hg];exact Nat.ne_of_gt (blk_lt (g := gb116) (o := .cells #[.string a0_0,.slice A0_1 l0_1.length c0_1,.slice (some ad124) l0_2.length c0_2,.string a0_3,.string a0_4] 31 (0,0)) (by (with_reducible repeat (first|refine bN ?_ _|refine bD ?_|refine bA ?_ _));exact BK116.out)) : gb125 ≠ gb116));clear BK116;clear HB;have BK116 := n0_;have HB := n1_;have BK125 := n2_;have GW125 := n3_;have GE125 := n4_;have NB116_125 := n5_;have NB125_116 := n6_;clear n0_ n1_ n2_ n3_ n4_ n5_ n6_;clear hb hbox hg;have hnb57 := NB125_116.out;have hnc57 := NB116_125.out;have hcz58_0 : w56.cell? ⟨gb125,0,none⟩ = some (.int .i64 0) := (blk_cell BK125.out 0).trans rfl;have hcz58_1 : w56.cell? ⟨gb125,1,none⟩ = some (.int .i64 0) := (blk_cell BK125.out 1).trans rfl;have hcz58_2 : w56.cell? ⟨gb125,2,none⟩ = some (.string (⟨#[]⟩ : ByteArray)) := (blk_cell BK125.out 2).trans rfl;have hfz58_0 := blk_frozen BK125.out 0;have hfz58_1 := blk_frozen BK125.out 1;have hfz58_2 := blk_frozen BK125.out 2)|((with_reducible refine gate_callee (f := 49) rfl ?_);refine goesL_ (some 82) rfl rfl Try.func49 (by kernel_rfl) rfl #[.int .i64 ((rd_T72 l0_2 x4_3).f0),.int .i64 1,.int .i64 1000] rfl (by (try simp only [List.map_toArray,List.map_cons,List.map_nil]);first|done|rfl|(simp only [List.length_drop,List.length_take];rfl)) ?_;(with_reducible refine (spec_l1In.calls ((rd_T72 l0_2 x4_3).f0) 1 1000 true _ A41.out).mono ?_);rintro e w' ⟨rfl,⟨nd,rfl⟩⟩;refine ⟨_,rfl,?_⟩)|(go_at_call 49;(with_reducible refine (spec_l1In.calls ((rd_T72 l0_2 x4_3).f1) 0 (wrap64 (((rd_T72 l0_2 x4_3).f0) - 1)) false _ A43.out).mono ?_);rintro e w' ⟨rfl,⟨nd,rfl⟩⟩))
             go_ret
             exact ⟨by first|rfl|(simp [errW_none,errW_some] <;> rfl)|(simp [*,errW_none,errW_some] <;> rfl),by repeat (first|(with_reducible first|exact HB.out|apply lA|apply lN|apply lD|refine below_set ?_ GE116.out|refine below_set ?_ GE125.out)|exact HB.out)⟩
           ·replace c42 := Bool.eq_false_iff.mpr c42
            subst c42
            have H1 : (some false) = some r := by rw [if_neg (show ¬ (false = true) by decide)] at H;exact H
            clear H
            have H := H1
            clear H1
            obtain rfl := Option.some.inj H
            simp only [Option.some.injEq,Prod.mk.injEq] at H
            obtain ⟨rfl⟩ := H
            have hcz59_0 : wr.cell? ⟨gb116,0,none⟩ = some (.string a0_0) := (blk_cell BK116.out 0).trans rfl
            have hcz59_1 : wr.cell? ⟨gb116,1,none⟩ = some (.slice A0_1 l0_1.length c0_1) := (blk_cell BK116.out 1).trans rfl
            have hcz59_2 : wr.cell? ⟨gb116,2,none⟩ = some (.slice A0_2 l0_2.length c0_2) := (blk_cell BK116.out 2).trans rfl
            have hcz59_3 : wr.cell? ⟨gb116,3,none⟩ = some (.string a0_3) := (blk_cell BK116.out 3).trans rfl
            have hcz59_4 : wr.cell? ⟨gb116,4,none⟩ = some (.string a0_4) := (blk_cell BK116.out 4).trans rfl
            have hfz59_0 := blk_frozen BK116.out 0
            have hfz59_1 := blk_frozen BK116.out 1
            have hfz59_2 := blk_frozen BK116.out 2
            have hfz59_3 := blk_frozen BK116.out 3
            have hfz59_4 := blk_frozen BK116.out 4
            have p124 : 0 ≤ (x4_3 : Int) := of_decide_eq_true (by first|(with_reducible assumption)|assumption)
            have q124 : x4_3 < (l0_2.length : Int) := of_decide_eq_true (by first|(with_reducible assumption)|assumption)
            obtain ⟨ad124,e124,hx124_0,hx124_1,hx124_2⟩ := at_T72 HR0_2.out x4_3 p124 q124
            cases e124
            replace hx124_0 := (HB.out.cell (World.block_lt_of_cell? w _ hx124_0)).trans hx124_0
            replace hx124_1 := (HB.out.cell (World.block_lt_of_cell? w _ hx124_1)).trans hx124_1
            replace hx124_2 := (HB.out.cell (World.block_lt_of_cell? w _ hx124_2)).trans hx124_2
            replace p124 := eq_true p124
            replace q124 := eq_true q124
            go_wp2_with (first|((with_reducible refine gate_dst (N := 5) rfl ?_);(try (refine gate_guard (by rfl) ?_;dsimp only));refine box_event ?hg (N := 5) ?hd (cs := #[.int .i64 0,.int .i64 0,.string (⟨#[]⟩ : ByteArray)]) (t := 72) ?hr ?_;(case hd => rfl);(case hg => rfl);(case hr => first|(go_simp;done)|(go_simp;rfl));intro gb125 hg w60 hbox hb;have n0_ := Aside0.mk (blk_below (g := gb116) (o := .cells #[.string a0_0,.slice A0_1 l0_1.length c0_1,.slice (some ad124) l0_2.length c0_2,.string a0_3,.string a0_4] 31 (0,0)) (by (with_reducible repeat (first|refine bN ?_ _|refine bD ?_|refine bA ?_ _));exact BK116.out) hb);have n1_ := Aside0.mk (below_step (by repeat (first|(with_reducible first|exact HB.out|apply lA|apply lN|apply lD|refine below_set ?_ GE116.out)|exact HB.out)) hb);have n2_ := Aside0.mk (hbox);have n3_ := Aside0.mk ((by rw [hg];exact (below_size (by repeat (first|(with_reducible first|exact HB.out|apply lA|apply lN|apply lD|refine below_set ?_ GE116.out)|exact HB.out))) : w.heap.size ≤ gb125));have n4_ := Aside0.mk ((by rw [hg];exact (below_size (by repeat (first|(with_reducible first|exact HB.out|apply lA|apply lN|apply lD|refine below_set ?_ GE116.out)|exact HB.out))) : w.heap.size ≤ gb125));have n5_ := Aside0.mk ((by rw [hg];exact Nat.ne_of_lt (blk_lt (g := gb116) (o := .cells #[.string a0_0,.slice A0_1 l0_1.length c0_1,.slice (some ad124) l0_2.length c0_2,.string a0_3,.string a0_4] 31 (0,0)) (by (with_reducible repeat (first|refine bN ?_ _|refine bD ?_|refine bA ?_ _));exact BK116.out)) : gb116 ≠ gb125));have n6_ := Aside0.mk ((by rw [hg];exact Nat.ne_of_gt (blk_lt (g := gb116) (o := .cells #[.string a0_0,.slice A0_1 l0_1.length c0_1,.slice (some ad124) l0_2.length c0_2,.string a0_3,.string a0_4] 31 (0,0)) (by (with_reducible repeat (first|refine bN ?_ _|refine bD ?_|refine bA ?_ _));exact BK116.out)) : gb125 ≠ gb116));clear BK116;clear HB;have BK116 := n0_;have HB := n1_;have BK125 := n2_;have GW125 := n3_;have GE125 := n4_;have NB116_125 := n5_;have NB125_116 := n6_;clear n0_ n1_ n2_ n3_ n4_ n5_ n6_;clear hb hbox hg;have hnb61 := NB125_116.out;have hnc61 := NB116_125.out;have hcz62_0 : w60.cell? ⟨gb125,0,none⟩ = some (.int .i64 0) := (blk_cell BK125.out 0).trans rfl;have hcz62_1 : w60.cell? ⟨gb125,1,none⟩ = some (.int .i64 0) := (blk_cell BK125.out 1).trans rfl;have hcz62_2 : w60.cell? ⟨gb125,2,none⟩ = some (.string (⟨#[]⟩ : ByteArray)) := (blk_cell BK125.out 2).trans rfl;have hfz62_0 := blk_frozen BK125.out 0;have hfz62_1 := blk_frozen BK125.out 1;have hfz62_2 := blk_frozen BK125.out 2)|((with_reducible refine gate_callee (f := 49) rfl ?_);refine goesL_ (some 82) rfl rfl Try.func49 (by kernel_rfl) rfl #[.int .i64 ((rd_T72 l0_2 x4_3).f0),.int .i64 1,.int .i64 1000] rfl (by (try simp only [List.map_toArray,List.map_cons,List.map_nil]);first|done|rfl|(simp only [List.length_drop,List.length_take];rfl)) ?_;(with_reducible refine (spec_l1In.calls ((rd_T72 l0_2 x4_3).f0) 1 1000 false _ A41.out).mono ?_);rintro e w' ⟨rfl,⟨nd,rfl⟩⟩;refine ⟨_,rfl,?_⟩))
            go_ret
            exact ⟨by first|rfl|(simp [errW_none,errW_some] <;> rfl)|(simp [*,errW_none,errW_some] <;> rfl),by repeat (first|(with_reducible first|exact HB.out|apply lA|apply lN|apply lD|refine below_set ?_ GE116.out|refine below_set ?_ GE125.out)|exact HB.out)⟩
          ·rw [if_neg c40] at H
           exact absurd H (by simp)
         ·rw [if_neg c39] at H
          have c39b0 : decide (x4_3 < (l0_2.length : Int)) = false := decide_eq_false c39
          clear c39
          obtain rfl := Option.some.inj H
          simp only [Option.some.injEq,Prod.mk.injEq] at H
          obtain ⟨rfl⟩ := H
          have hcz63_0 : wr.cell? ⟨gb116,0,none⟩ = some (.string a0_0) := (blk_cell BK116.out 0).trans rfl
          have hcz63_1 : wr.cell? ⟨gb116,1,none⟩ = some (.slice A0_1 l0_1.length c0_1) := (blk_cell BK116.out 1).trans rfl
          have hcz63_2 : wr.cell? ⟨gb116,2,none⟩ = some (.slice A0_2 l0_2.length c0_2) := (blk_cell BK116.out 2).trans rfl
          have hcz63_3 : wr.cell? ⟨gb116,3,none⟩ = some (.string a0_3) := (blk_cell BK116.out 3).trans rfl
          have hcz63_4 : wr.cell? ⟨gb116,4,none⟩ = some (.string a0_4) := (blk_cell BK116.out 4).trans rfl
          have hfz63_0 := blk_frozen BK116.out 0
          have hfz63_1 := blk_frozen BK116.out 1
          have hfz63_2 := blk_frozen BK116.out 2
          have hfz63_3 := blk_frozen BK116.out 3
          have hfz63_4 := blk_frozen BK116.out 4
          go_wp2
          go_ret
          exact ⟨by first|rfl|(simp [errW_none,errW_some] <;> rfl)|(simp [*,errW_none,errW_some] <;> rfl),by repeat (first|(with_reducible first|exact HB.out|apply lA|apply lN|apply lD|refine below_set ?_ GE116.out)|exact HB.out)⟩
end Go.Proofs.Ytmkkcpdpfelalaa.P
