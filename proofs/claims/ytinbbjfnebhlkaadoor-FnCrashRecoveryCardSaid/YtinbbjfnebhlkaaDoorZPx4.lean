/- Written by a program in this session: each theorem here says that a Go function computes the Lean function beside it, or that a law's row holds, under the conditions that the theorem itself states. -/
import Derived.Test.YtinbbjfnebhlkaaDoorZPx0
import Derived.Test.YtinbbjfnebhlkaaDoorZPx2
import Derived.Test.YtinbbjfnebhlkaaDoorZPx3
namespace Go.Proofs.YtinbbjfnebhlkaaDoor.P
open Go.RowKit Go.Proofs.YtinbbjfnebhlkaaDoorW.PrintWords Go.Proofs.YtinbbjfnebhlkaaDoorW.PrintLast Go.Proofs.YtinbbjfnebhlkaaDoorW.PrintMore
attribute [local go_sem] max2_int min2_int max_two min_two max_three min_three max_four min_four   -- for this text's walks alone
set_option linter.unusedVariables false
set_option linter.unusedSimpArgs false
def spec_l26Read.j0 : Nat → ByteArray → Int → ByteArray → ByteArray → Bool → Option (ByteArray × ByteArray × Bool)
 | 0,_,_,_,_,_ => none
 | k + 1,x0,x1,x6,x7,x30 => if x30 = true then (some ((⟨#[]⟩ : ByteArray),(⟨#[]⟩ : ByteArray),false)) else (if 0 ≤ (x6.size : Int) then (if (x6.size : Int) ≤ (x7.size : Int) then ((spec_l1Split.f k (x7.extract ((x6.size : Int) : Int).toNat x7.size) 64).bind fun t132 => (if 0 < (t132.length : Int) then (if ((rdOf ByteArray.empty t132 0).size : Int) = ((x7.extract ((x6.size : Int) : Int).toNat x7.size).size : Int) then (some ((⟨#[]⟩ : ByteArray),(⟨#[]⟩ : ByteArray),false)) else (if 0 ≤ (wrap64 (((rdOf ByteArray.empty t132 0).size : Int) + 1)) then (if (wrap64 (((rdOf ByteArray.empty t132 0).size : Int) + 1)) ≤ ((x7.extract ((x6.size : Int) : Int).toNat x7.size).size : Int) then ((spec_l26Good.f k (rdOf ByteArray.empty t132 0) ((x7.extract ((x6.size : Int) : Int).toNat x7.size).extract ((wrap64 (((rdOf ByteArray.empty t132 0).size : Int) + 1)) : Int).toNat (x7.extract ((x6.size : Int) : Int).toNat x7.size).size)).bind fun t137 => (if t137 = true then ((spec_l26Line.f k x1 (rdOf ByteArray.empty t132 0) ((x7.extract ((x6.size : Int) : Int).toNat x7.size).extract ((wrap64 (((rdOf ByteArray.empty t132 0).size : Int) + 1)) : Int).toNat (x7.extract ((x6.size : Int) : Int).toNat x7.size).size)).bind fun t138 => (if x0.size + 1 ≤ 9223372036854775807 then (some (rdOf ByteArray.empty t132 0,(x7.extract ((x6.size : Int) : Int).toNat x7.size).extract ((wrap64 (((rdOf ByteArray.empty t132 0).size : Int) + 1)) : Int).toNat (x7.extract ((x6.size : Int) : Int).toNat x7.size).size,(t138.toList == (x0 ++ (⟨#[10]⟩ : ByteArray)).toList))) else (none))) else (some (rdOf ByteArray.empty t132 0,(x7.extract ((x6.size : Int) : Int).toNat x7.size).extract ((wrap64 (((rdOf ByteArray.empty t132 0).size : Int) + 1)) : Int).toNat (x7.extract ((x6.size : Int) : Int).toNat x7.size).size,false)))) else (none)) else (none))) else (none))) else (none)) else (none))
def spec_l26Read.f (k : Nat) (a0 : ByteArray) (a1 : Int) : Option (ByteArray × ByteArray × Bool) := (spec_l1Num.f k a1).bind fun t127 => (if t127.size + 1 ≤ 9223372036854775807 then ((spec_l1Split.f k a0 35).bind fun t128 => (if 0 < (t128.length : Int) then (if ((rdOf ByteArray.empty t128 0).size : Int) < ((t127 ++ (⟨#[32]⟩ : ByteArray)).size : Int) then (spec_l26Read.j0 k a0 a1 (t127 ++ (⟨#[32]⟩ : ByteArray)) (rdOf ByteArray.empty t128 0) true) else (if 0 ≤ ((t127 ++ (⟨#[32]⟩ : ByteArray)).size : Int) then (if ((t127 ++ (⟨#[32]⟩ : ByteArray)).size : Int) ≤ ((rdOf ByteArray.empty t128 0).size : Int) then (spec_l26Read.j0 k a0 a1 (t127 ++ (⟨#[32]⟩ : ByteArray)) (rdOf ByteArray.empty t128 0) (((rdOf ByteArray.empty t128 0).extract 0 (((t127 ++ (⟨#[32]⟩ : ByteArray)).size : Int) : Int).toNat).toList != (t127 ++ (⟨#[32]⟩ : ByteArray)).toList)) else (none)) else (none))) else (none))) else (none))
theorem spec_l26Read.mono_l : ∀ k,(∀ y0 y1 y2 y3 y4,LeO (spec_l26Read.j0 k y0 y1 y2 y3 y4) (spec_l26Read.j0 (k + 1) y0 y1 y2 y3 y4))
 | 0 => fun _ _ _ _ _ r h => by simp [spec_l26Read.j0] at h
 | k + 1 => by
  have ih0 := spec_l26Read.mono_l k
  ·intro y0 y1 y2 y3 y4
   unfold spec_l26Read.j0
   repeat' first
   | (with_reducible exact ih0 _ _ _ _ _)
   | (with_reducible exact spec_l1Num.mono _ _)
   | (with_reducible exact spec_l1Split.mono _ _ _)
   | (with_reducible exact spec_l26Good.mono _ _ _)
   | (with_reducible exact spec_l26Line.mono _ _ _ _)
   | (with_reducible exact LeO.refl _)
   | (with_reducible exact LeO.none _)
   | (with_reducible refine LeO.ite ?_ ?_)
   | (with_reducible refine LeO.bind ?_ (fun _ => ?_))
   | exact ih0 _ _ _ _ _
   | exact spec_l1Num.mono _ _
   | exact spec_l1Split.mono _ _ _
   | exact spec_l26Good.mono _ _ _
   | exact spec_l26Line.mono _ _ _ _
   | exact LeO.none _
   | refine LeO.ite ?_ ?_
   | refine LeO.bind ?_ (fun _ => ?_)
theorem spec_l26Read.mono : ∀ a0 a1 k,LeO (spec_l26Read.f k a0 a1) (spec_l26Read.f (k + 1) a0 a1) := by
 intro a0 a1 k
 have ih0 := spec_l26Read.mono_l k
 unfold spec_l26Read.f
 repeat' first
   | (with_reducible exact ih0 _ _ _ _ _)
   | (with_reducible exact spec_l1Num.mono _ _)
   | (with_reducible exact spec_l1Split.mono _ _ _)
   | (with_reducible exact spec_l26Good.mono _ _ _)
   | (with_reducible exact spec_l26Line.mono _ _ _ _)
   | (with_reducible exact LeO.refl _)
   | (with_reducible exact LeO.none _)
   | (with_reducible refine LeO.ite ?_ ?_)
   | (with_reducible refine LeO.bind ?_ (fun _ => ?_))
   | exact ih0 _ _ _ _ _
   | exact spec_l1Num.mono _ _
   | exact spec_l1Split.mono _ _ _
   | exact spec_l26Good.mono _ _ _
   | exact spec_l26Line.mono _ _ _ _
   | exact LeO.none _
   | refine LeO.ite ?_ ?_
   | refine LeO.bind ?_ (fun _ => ?_)
def spec_l26Read.T10 : Bool × List (List Nat × List Nat) := (true,[([],[]),([],[]),([1],[1]),([2,2],[2]),([3],[3]),([3],[3]),([4,5,3,3],[3,4,5]),([3],[3]),([7,3],[3,7]),([6,8,3],[3,6,8]),([3,9],[3,9]),([0,6,0],[0]),([10,11,0,1,2,3,4,5,6,7,8,9,10,11],[10])])
def spec_l26Read.B10 : List Nat := [0,0,2,6,14,14,62,14,142,510,1022,127,4095]
theorem spec_l26Read.tab10 : rtab .any (opsOf Tryd.f68 10) = spec_l26Read.T10 := by kernel_rfl
theorem spec_l26Read.bits10 : waitsOk spec_l26Read.T10.2 spec_l26Read.B10 = true := by kernel_rfl
set_option maxHeartbeats 8000000 in
set_option maxRecDepth 100000 in
theorem spec_l26Read.calls (k : Nat) (a0 : ByteArray) (a1 : Int) (r1 : ByteArray) (r2 : ByteArray) (r3 : Bool) (w : World) (h : spec_l26Read.f k a0 a1 = some (r1,r2,r3)) :
  Calls Tryd.prog 68 #[.string a0,.int .i64 a1] w fun e w' => e = .returned (.tuple #[.agg #[.string r1,.string r2],.bool r3]) ∧ Below w.heap.size w w' := by
 have hu27 := Tryd.underlying27
 have HB := Aside0.mk (Below.refl w.heap.size w)
 have H : ((spec_l1Num.f k a1).bind fun t127 => (if t127.size + 1 ≤ 9223372036854775807 then ((spec_l1Split.f k a0 35).bind fun t128 => (if 0 < (t128.length : Int) then (if ((rdOf ByteArray.empty t128 0).size : Int) < ((t127 ++ (⟨#[32]⟩ : ByteArray)).size : Int) then (spec_l26Read.j0 k a0 a1 (t127 ++ (⟨#[32]⟩ : ByteArray)) (rdOf ByteArray.empty t128 0) true) else (if 0 ≤ ((t127 ++ (⟨#[32]⟩ : ByteArray)).size : Int) then (if ((t127 ++ (⟨#[32]⟩ : ByteArray)).size : Int) ≤ ((rdOf ByteArray.empty t128 0).size : Int) then (spec_l26Read.j0 k a0 a1 (t127 ++ (⟨#[32]⟩ : ByteArray)) (rdOf ByteArray.empty t128 0) (((rdOf ByteArray.empty t128 0).extract 0 (((t127 ++ (⟨#[32]⟩ : ByteArray)).size : Int) : Int).toNat).toList != (t127 ++ (⟨#[32]⟩ : ByteArray)).toList)) else (none)) else (none))) else (none))) else (none))) = some (r1,r2,r3) := h
 clear h
 replace H := Option.bind_eq_some_iff.mp H
 obtain ⟨t127,A30,H⟩ := H
 replace H : (if t127.size + 1 ≤ 9223372036854775807 then ((spec_l1Split.f k a0 35).bind fun t128 => (if 0 < (t128.length : Int) then (if ((rdOf ByteArray.empty t128 0).size : Int) < ((t127 ++ (⟨#[32]⟩ : ByteArray)).size : Int) then (spec_l26Read.j0 k a0 a1 (t127 ++ (⟨#[32]⟩ : ByteArray)) (rdOf ByteArray.empty t128 0) true) else (if 0 ≤ ((t127 ++ (⟨#[32]⟩ : ByteArray)).size : Int) then (if ((t127 ++ (⟨#[32]⟩ : ByteArray)).size : Int) ≤ ((rdOf ByteArray.empty t128 0).size : Int) then (spec_l26Read.j0 k a0 a1 (t127 ++ (⟨#[32]⟩ : ByteArray)) (rdOf ByteArray.empty t128 0) (((rdOf ByteArray.empty t128 0).extract 0 (((t127 ++ (⟨#[32]⟩ : ByteArray)).size : Int) : Int).toNat).toList != (t127 ++ (⟨#[32]⟩ : ByteArray)).toList)) else (none)) else (none))) else (none))) else (none)) = some (r1,r2,r3) := H
 have A3 := Aside0.mk A30
 clear A30
 by_cases c4 : t127.size + 1 ≤ 9223372036854775807
 ·rw [if_pos c4] at H
  have c4b0 := eq_true c4
  have c4b1 : decide (t127.size + 1 ≤ 9223372036854775807) = true := decide_eq_true c4
  try have c4b2 : (9223372036854775807 < t127.size + 1) = False := eq_false (Nat.not_lt.2 c4)
  obtain ⟨sj5,hsj5⟩ : ∃ s_ : ByteArray,(t127 ++ (⟨#[32]⟩ : ByteArray)) = s_ := ⟨_,rfl⟩
  replace H : ((spec_l1Split.f k a0 35).bind fun t128 => (if 0 < (t128.length : Int) then (if ((rdOf ByteArray.empty t128 0).size : Int) < (sj5.size : Int) then (spec_l26Read.j0 k a0 a1 sj5 (rdOf ByteArray.empty t128 0) true) else (if 0 ≤ (sj5.size : Int) then (if (sj5.size : Int) ≤ ((rdOf ByteArray.empty t128 0).size : Int) then (spec_l26Read.j0 k a0 a1 sj5 (rdOf ByteArray.empty t128 0) (((rdOf ByteArray.empty t128 0).extract 0 ((sj5.size : Int) : Int).toNat).toList != sj5.toList)) else (none)) else (none))) else (none))) = some (r1,r2,r3) := by first|(rw [hsj5] at H;exact H)|(simp only [hsj5] at H ⊢;exact H)
  (try rw [hsj5] at A3)
  replace H := Option.bind_eq_some_iff.mp H
  obtain ⟨t128,A60,H⟩ := H
  replace H : (if 0 < (t128.length : Int) then (if ((rdOf ByteArray.empty t128 0).size : Int) < (sj5.size : Int) then (spec_l26Read.j0 k a0 a1 sj5 (rdOf ByteArray.empty t128 0) true) else (if 0 ≤ (sj5.size : Int) then (if (sj5.size : Int) ≤ ((rdOf ByteArray.empty t128 0).size : Int) then (spec_l26Read.j0 k a0 a1 sj5 (rdOf ByteArray.empty t128 0) (((rdOf ByteArray.empty t128 0).extract 0 ((sj5.size : Int) : Int).toNat).toList != sj5.toList)) else (none)) else (none))) else (none)) = some (r1,r2,r3) := H
  have A6 := Aside0.mk A60
  clear A60
  by_cases c7 : 0 < (t128.length : Int)
  ·rw [if_pos c7] at H
   have c7b0 : decide (0 < (t128.length : Int)) = true := decide_eq_true c7
   have c7b1 : decide (0 < t128.length) = true := decide_eq_true (by omega)
   clear c7
   have HC8 := Aside0.mk H
   clear H
   go_enter Tryd.func68,Tryd.ntmps68
   go_upto_region 3 with (first|((with_reducible refine gate_dst (N := 4) rfl ?_);(try (refine gate_guard (by rfl) ?_;dsimp only));refine box_event ?hg (N := 4) ?hd (cs := #[.string (⟨#[]⟩ : ByteArray),.string (⟨#[]⟩ : ByteArray)]) (t := 27) ?hr ?_;(case hd => rfl);(case hg => rfl);(case hr => first|(go_simp;done)|(go_simp;rfl));intro gb126 hg w9 hbox hb;have n0_ := Aside0.mk (below_step (by repeat (first|(with_reducible first|exact HB.out|apply lA|apply lN|apply lD)|exact HB.out)) hb);have n1_ := Aside0.mk (hbox);have n2_ := Aside0.mk ((by rw [hg];exact (below_size (by repeat (first|(with_reducible first|exact HB.out|apply lA|apply lN|apply lD)|exact HB.out))) : w.heap.size ≤ gb126));have n3_ := Aside0.mk ((by rw [hg];exact (below_size (by repeat (first|(with_reducible first|exact HB.out|apply lA|apply lN|apply lD)|exact HB.out))) : w.heap.size ≤ gb126));clear HB;have HB := n0_;have BK126 := n1_;have GW126 := n2_;have GE126 := n3_;clear n0_ n1_ n2_ n3_;clear hb hbox hg)|((with_reducible refine gate_callee (f := 64) rfl ?_);refine goesL_ (some 12) rfl rfl Tryd.func64 (by kernel_rfl) rfl #[.int .i64 a1] rfl (by (try simp only [List.map_toArray,List.map_cons,List.map_nil]);first|done|rfl|(simp only [List.length_drop,List.length_take];rfl)) ?_;(with_reducible refine (spec_l1Num.calls k a1 t127 _ A3.out).mono ?_);rintro e w10 ⟨rfl,hb⟩;refine ⟨_,rfl,?_⟩;have n0_ := Aside0.mk (blk_below (g := gb126) (o := .cells #[.string (⟨#[]⟩ : ByteArray),.string (⟨#[]⟩ : ByteArray)] 27 (0,0)) (by (with_reducible repeat (first|refine bN ?_ _|refine bD ?_|refine bA ?_ _));exact BK126.out) hb);have n1_ := Aside0.mk (below_step (by repeat (first|(with_reducible first|exact HB.out|apply lA|apply lN|apply lD|refine below_set ?_ GE126.out)|exact HB.out)) hb);clear BK126;clear HB;have BK126 := n0_;have HB := n1_;clear n0_ n1_;(try clear hb);(try clear hb2);(try clear hk);(try clear hi))|((with_reducible refine gate_callee (f := 67) rfl ?_);refine goesL_ (some 15) rfl rfl Tryd.func67 (by kernel_rfl) rfl #[.string a0,.int .u8 35] rfl (by (try simp only [List.map_toArray,List.map_cons,List.map_nil]);first|done|rfl|(simp only [List.length_drop,List.length_take];rfl)) ?_;(with_reducible refine (spec_l1Split.calls k a0 35 t128 _ A6.out).mono ?_);rintro e w11 ⟨v129,rfl,ho0,hb⟩;refine ⟨_,rfl,?_⟩;have n0_ := Aside0.mk (Kd.R_lower ho0 (below_size (by repeat (first|(with_reducible first|exact HB.out|apply lA|apply lN|apply lD|refine below_set ?_ GE126.out)|exact HB.out))));have n1_ := Aside0.mk (blk_below (g := gb126) (o := .cells #[.string (⟨#[]⟩ : ByteArray),.string (⟨#[]⟩ : ByteArray)] 27 (0,0)) (by (with_reducible repeat (first|refine bN ?_ _|refine bD ?_|refine bA ?_ _));exact BK126.out) hb);have n2_ := Aside0.mk (below_step (by repeat (first|(with_reducible first|exact HB.out|apply lA|apply lN|apply lD|refine below_set ?_ GE126.out)|exact HB.out)) hb);clear BK126;clear HB;have HO130 := n0_;have BK126 := n1_;have HB := n2_;clear n0_ n1_ n2_;(try clear hb);(try clear hb2);(try clear hk);(try clear hi);(try clear ho0);obtain ⟨Ao12,co12,eo12⟩ := Kd.R_slice HO130.out;subst eo12;have p131 : 0 ≤ (0 : Int) := (by omega);have q131 : 0 < (t128.length : Int) := of_decide_eq_true (by first|(with_reducible assumption)|assumption);obtain ⟨ad131,e131,hx131_0⟩ := Kd.at_string (Kd.R_reads' HO130.out).2.2 0 p131 q131;cases e131;have qi131 : (0 < t128.length) = True := eq_true (by omega);(try rw [show ((0 : Int)).toNat = 0 from rfl] at hx131_0);(try rw [Addr.add_zero'] at hx131_0);replace p131 := eq_true p131;replace q131 := eq_true q131))
   (try simp only [Act.put,List.setIfInBounds_toArray,List.set_cons_zero,List.set_cons_succ])
   go_cut [30] (fun v30 wc => ∃ (kq : Nat) (x30_7 : Bool),v30 = .bool x30_7 ∧ Aside0 (spec_l26Read.j0 kq a0 a1 sj5 (rdOf ByteArray.empty t128 0) x30_7 = some (r1,r2,r3)) ∧ Aside0 (kq ≤ k) ∧ Aside0 (wc.heap[gb126]? = some (.cells #[.string (⟨#[]⟩ : ByteArray),.string (⟨#[]⟩ : ByteArray)] 27 (0,0))) ∧ Aside0 (Below w.heap.size w wc))
   case first =>
    have H := HC8.out
    clear HC8
    by_cases c13 : ((rdOf ByteArray.empty t128 0).size : Int) < (sj5.size : Int)
    ·rw [if_pos c13] at H
     have c13b0 : decide (((rdOf ByteArray.empty t128 0).size : Int) < (sj5.size : Int)) = true := decide_eq_true c13
     have c13b1 : decide ((rdOf ByteArray.empty t128 0).size < sj5.size) = true := decide_eq_true (Int.ofNat_lt.mp c13)
     clear c13
     (first|rw [c13b0]|(simp only [i64_w,i32_w];rw [c13b0])|skip)
     have H' := Aside0.mk H
     clear H
     go_wp2
     go_meet
     case rel => exact ⟨_,(true),(by first|rfl|(simp;done)|(simp [my_isEmpty];done)|(simp [*];done)),H',⟨by first|omega|exact Nat.le_refl _⟩,⟨by (with_reducible repeat (first|refine bN ?_ _|refine bD ?_|refine bA ?_ _));exact BK126.out⟩,⟨by repeat (first|(with_reducible first|exact HB.out|apply lA|apply lN|apply lD|refine below_set ?_ GE126.out)|exact HB.out)⟩⟩
    ·rw [if_neg c13] at H
     have c13b0 : decide (((rdOf ByteArray.empty t128 0).size : Int) < (sj5.size : Int)) = false := decide_eq_false c13
     have c13b1 : decide ((rdOf ByteArray.empty t128 0).size < sj5.size) = false := decide_eq_false (fun h => c13 (Int.ofNat_lt.mpr h))
     clear c13
     (first|rw [c13b0]|(simp only [i64_w,i32_w];rw [c13b0])|skip)
     by_cases c14 : 0 ≤ (sj5.size : Int)
     ·rw [if_pos c14] at H
      have c14b0 := eq_true c14
      have c14b1 : decide (0 ≤ (sj5.size : Int)) = true := decide_eq_true c14
      clear c14
      by_cases c15 : (sj5.size : Int) ≤ ((rdOf ByteArray.empty t128 0).size : Int)
      ·rw [if_pos c15] at H
       have c15b0 := eq_true c15
       have c15b1 : decide ((sj5.size : Int) ≤ ((rdOf ByteArray.empty t128 0).size : Int)) = true := decide_eq_true c15
       clear c15
       have H' := Aside0.mk H
       clear H
       go_wp2
       go_meet
       case rel => exact ⟨_,((((rdOf ByteArray.empty t128 0).extract 0 ((sj5.size : Int) : Int).toNat).toList != sj5.toList)),(by first|rfl|(simp;done)|(simp [my_isEmpty];done)|(simp only [← hsj5] <;> (first|rfl|simp))|(simp [*];done)),H',⟨by first|omega|exact Nat.le_refl _⟩,⟨by (with_reducible repeat (first|refine bN ?_ _|refine bD ?_|refine bA ?_ _));exact BK126.out⟩,⟨by repeat (first|(with_reducible first|exact HB.out|apply lA|apply lN|apply lD|refine below_set ?_ GE126.out)|exact HB.out)⟩⟩
      ·rw [if_neg c15] at H
       exact absurd H (by simp)
     ·rw [if_neg c14] at H
      exact absurd H (by simp)
   case rest =>
    clear HC8
    try clear c1
    try clear p1
    try clear q1
    try clear hx1
    try clear qi1
    try clear p2
    try clear c4
    try clear c4b0
    try clear c4b1
    try clear c4b2
    try clear c6
    try clear c7
    try clear c7b0
    try clear c7b1
    try clear c13
    try clear c13b0
    try clear c13b1
    try clear p13
    try clear q13
    try clear hx13
    try clear qi13
    try clear c14
    try clear c14b0
    try clear c14b1
    try clear c15
    try clear c15b0
    try clear c15b1
    try clear hx131_0
    try clear p131
    try clear q131
    obtain ⟨kq,x30_7,rfl,HA,HJ7,BK126,HB⟩ := hcut
    cases kq with
    | zero => exact absurd HA.out (by simp [spec_l26Read.j0])
    | succ kj7 =>
     have H := HA.out
     clear HA
     simp only [spec_l26Read.j0] at H
     by_cases c16 : x30_7 = true
     ·subst c16
      have H1 : (some ((⟨#[]⟩ : ByteArray),(⟨#[]⟩ : ByteArray),false)) = some (r1,r2,r3) := by rw [if_pos rfl] at H;exact H
      clear H
      have H := H1
      clear H1
      simp only [Option.some.injEq,Prod.mk.injEq] at H
      obtain ⟨rfl,rfl,rfl⟩ := H
      have hcz17_0 : wc.cell? ⟨gb126,0,none⟩ = some (.string (⟨#[]⟩ : ByteArray)) := (blk_cell BK126.out 0).trans rfl
      have hcz17_1 : wc.cell? ⟨gb126,1,none⟩ = some (.string (⟨#[]⟩ : ByteArray)) := (blk_cell BK126.out 1).trans rfl
      have hfz17_0 := blk_frozen BK126.out 0
      have hfz17_1 := blk_frozen BK126.out 1
      go_wp2
      refine bodyPost_ret (results_ct rfl _ _ gb126 27 #[.string (⟨#[]⟩ : ByteArray),.string (⟨#[]⟩ : ByteArray)] (0,0) _ rfl (by (with_reducible repeat (first|refine bN ?_ _|refine bD ?_|refine bA ?_ _));refine blk_put (cs := #[.string (⟨#[]⟩ : ByteArray),.string (⟨#[]⟩ : ByteArray)]) ?_ 1 _ rfl;(with_reducible repeat (first|refine bN ?_ _|refine bD ?_|refine bA ?_ _));refine blk_put (cs := #[.string (⟨#[]⟩ : ByteArray),.string (⟨#[]⟩ : ByteArray)]) ?_ 0 _ rfl;(with_reducible repeat (first|refine bN ?_ _|refine bD ?_|refine bA ?_ _));exact BK126.out) Tryd.underlying27 rfl (by kernel_rfl)) rfl ?_
      exact ⟨by first|rfl|(simp [errW_none,errW_some] <;> rfl)|(simp only [← hsj5];first|rfl|(simp [errW_none,errW_some] <;> rfl))|(simp [*,errW_none,errW_some] <;> rfl),by repeat (first|(with_reducible first|exact HB.out|apply lA|apply lN|apply lD|refine below_set ?_ GE126.out)|exact HB.out)⟩
     ·replace c16 := Bool.eq_false_iff.mpr c16
      subst c16
      have H1 : (if 0 ≤ (sj5.size : Int) then (if (sj5.size : Int) ≤ ((rdOf ByteArray.empty t128 0).size : Int) then ((spec_l1Split.f kj7 ((rdOf ByteArray.empty t128 0).extract ((sj5.size : Int) : Int).toNat (rdOf ByteArray.empty t128 0).size) 64).bind fun t132 => (if 0 < (t132.length : Int) then (if ((rdOf ByteArray.empty t132 0).size : Int) = (((rdOf ByteArray.empty t128 0).extract ((sj5.size : Int) : Int).toNat (rdOf ByteArray.empty t128 0).size).size : Int) then (some ((⟨#[]⟩ : ByteArray),(⟨#[]⟩ : ByteArray),false)) else (if 0 ≤ (wrap64 (((rdOf ByteArray.empty t132 0).size : Int) + 1)) then (if (wrap64 (((rdOf ByteArray.empty t132 0).size : Int) + 1)) ≤ (((rdOf ByteArray.empty t128 0).extract ((sj5.size : Int) : Int).toNat (rdOf ByteArray.empty t128 0).size).size : Int) then ((spec_l26Good.f kj7 (rdOf ByteArray.empty t132 0) (((rdOf ByteArray.empty t128 0).extract ((sj5.size : Int) : Int).toNat (rdOf ByteArray.empty t128 0).size).extract ((wrap64 (((rdOf ByteArray.empty t132 0).size : Int) + 1)) : Int).toNat ((rdOf ByteArray.empty t128 0).extract ((sj5.size : Int) : Int).toNat (rdOf ByteArray.empty t128 0).size).size)).bind fun t137 => (if t137 = true then ((spec_l26Line.f kj7 a1 (rdOf ByteArray.empty t132 0) (((rdOf ByteArray.empty t128 0).extract ((sj5.size : Int) : Int).toNat (rdOf ByteArray.empty t128 0).size).extract ((wrap64 (((rdOf ByteArray.empty t132 0).size : Int) + 1)) : Int).toNat ((rdOf ByteArray.empty t128 0).extract ((sj5.size : Int) : Int).toNat (rdOf ByteArray.empty t128 0).size).size)).bind fun t138 => (if a0.size + 1 ≤ 9223372036854775807 then (some (rdOf ByteArray.empty t132 0,((rdOf ByteArray.empty t128 0).extract ((sj5.size : Int) : Int).toNat (rdOf ByteArray.empty t128 0).size).extract ((wrap64 (((rdOf ByteArray.empty t132 0).size : Int) + 1)) : Int).toNat ((rdOf ByteArray.empty t128 0).extract ((sj5.size : Int) : Int).toNat (rdOf ByteArray.empty t128 0).size).size,(t138.toList == (a0 ++ (⟨#[10]⟩ : ByteArray)).toList))) else (none))) else (some (rdOf ByteArray.empty t132 0,((rdOf ByteArray.empty t128 0).extract ((sj5.size : Int) : Int).toNat (rdOf ByteArray.empty t128 0).size).extract ((wrap64 (((rdOf ByteArray.empty t132 0).size : Int) + 1)) : Int).toNat ((rdOf ByteArray.empty t128 0).extract ((sj5.size : Int) : Int).toNat (rdOf ByteArray.empty t128 0).size).size,false)))) else (none)) else (none))) else (none))) else (none)) else (none)) = some (r1,r2,r3) := by rw [if_neg (show ¬ (false = true) by decide)] at H;exact H
      clear H
      have H := H1
      clear H1
      by_cases c18 : 0 ≤ (sj5.size : Int)
      ·rw [if_pos c18] at H
       have c18b0 := eq_true c18
       have c18b1 : decide (0 ≤ (sj5.size : Int)) = true := decide_eq_true c18
       clear c18
       by_cases c19 : (sj5.size : Int) ≤ ((rdOf ByteArray.empty t128 0).size : Int)
       ·rw [if_pos c19] at H
        have c19b0 := eq_true c19
        have c19b1 : decide ((sj5.size : Int) ≤ ((rdOf ByteArray.empty t128 0).size : Int)) = true := decide_eq_true c19
        clear c19
        obtain ⟨sj20,hsj20⟩ : ∃ s_ : ByteArray,((rdOf ByteArray.empty t128 0).extract sj5.size (rdOf ByteArray.empty t128 0).size) = s_ := ⟨_,rfl⟩
        replace H : ((spec_l1Split.f kj7 sj20 64).bind fun t132 => (if 0 < (t132.length : Int) then (if ((rdOf ByteArray.empty t132 0).size : Int) = (sj20.size : Int) then (some ((⟨#[]⟩ : ByteArray),(⟨#[]⟩ : ByteArray),false)) else (if 0 ≤ (wrap64 (((rdOf ByteArray.empty t132 0).size : Int) + 1)) then (if (wrap64 (((rdOf ByteArray.empty t132 0).size : Int) + 1)) ≤ (sj20.size : Int) then ((spec_l26Good.f kj7 (rdOf ByteArray.empty t132 0) (sj20.extract ((wrap64 (((rdOf ByteArray.empty t132 0).size : Int) + 1)) : Int).toNat sj20.size)).bind fun t137 => (if t137 = true then ((spec_l26Line.f kj7 a1 (rdOf ByteArray.empty t132 0) (sj20.extract ((wrap64 (((rdOf ByteArray.empty t132 0).size : Int) + 1)) : Int).toNat sj20.size)).bind fun t138 => (if a0.size + 1 ≤ 9223372036854775807 then (some (rdOf ByteArray.empty t132 0,sj20.extract ((wrap64 (((rdOf ByteArray.empty t132 0).size : Int) + 1)) : Int).toNat sj20.size,(t138.toList == (a0 ++ (⟨#[10]⟩ : ByteArray)).toList))) else (none))) else (some (rdOf ByteArray.empty t132 0,sj20.extract ((wrap64 (((rdOf ByteArray.empty t132 0).size : Int) + 1)) : Int).toNat sj20.size,false)))) else (none)) else (none))) else (none))) = some (r1,r2,r3) := by (have he_ : ((rdOf ByteArray.empty t128 0).extract ((sj5.size : Int) : Int).toNat (rdOf ByteArray.empty t128 0).size) = sj20 := hsj20);first|(rw [he_] at H;exact H)|(simp only [he_] at H ⊢;exact H)
        replace H := Option.bind_eq_some_iff.mp H
        obtain ⟨t132,A210,H⟩ := H
        replace H : (if 0 < (t132.length : Int) then (if ((rdOf ByteArray.empty t132 0).size : Int) = (sj20.size : Int) then (some ((⟨#[]⟩ : ByteArray),(⟨#[]⟩ : ByteArray),false)) else (if 0 ≤ (wrap64 (((rdOf ByteArray.empty t132 0).size : Int) + 1)) then (if (wrap64 (((rdOf ByteArray.empty t132 0).size : Int) + 1)) ≤ (sj20.size : Int) then ((spec_l26Good.f kj7 (rdOf ByteArray.empty t132 0) (sj20.extract ((wrap64 (((rdOf ByteArray.empty t132 0).size : Int) + 1)) : Int).toNat sj20.size)).bind fun t137 => (if t137 = true then ((spec_l26Line.f kj7 a1 (rdOf ByteArray.empty t132 0) (sj20.extract ((wrap64 (((rdOf ByteArray.empty t132 0).size : Int) + 1)) : Int).toNat sj20.size)).bind fun t138 => (if a0.size + 1 ≤ 9223372036854775807 then (some (rdOf ByteArray.empty t132 0,sj20.extract ((wrap64 (((rdOf ByteArray.empty t132 0).size : Int) + 1)) : Int).toNat sj20.size,(t138.toList == (a0 ++ (⟨#[10]⟩ : ByteArray)).toList))) else (none))) else (some (rdOf ByteArray.empty t132 0,sj20.extract ((wrap64 (((rdOf ByteArray.empty t132 0).size : Int) + 1)) : Int).toNat sj20.size,false)))) else (none)) else (none))) else (none)) = some (r1,r2,r3) := H
        have A21 := Aside0.mk A210
        clear A210
        by_cases c22 : 0 < (t132.length : Int)
        ·rw [if_pos c22] at H
         have c22b0 : decide (0 < (t132.length : Int)) = true := decide_eq_true c22
         have c22b1 : decide (0 < t132.length) = true := decide_eq_true (by omega)
         clear c22
         by_cases c23 : ((rdOf ByteArray.empty t132 0).size : Int) = (sj20.size : Int)
         ·rw [if_pos c23] at H
          have c23b0 : (((rdOf ByteArray.empty t132 0).size : Int) == (sj20.size : Int)) = true := beq_iff_eq.mpr c23
          have c23b1 : (((rdOf ByteArray.empty t132 0).size : Int) != (sj20.size : Int)) = false := bne_eq_false_iff_eq.mpr c23
          have c23b2 : ((rdOf ByteArray.empty t132 0).size == sj20.size) = true := by first|simpa using c23|(simp at c23 ⊢;omega)
          clear c23
          simp only [Option.some.injEq,Prod.mk.injEq] at H
          obtain ⟨rfl,rfl,rfl⟩ := H
          go_wp2_with (first|((with_reducible refine gate_callee (f := 67) rfl ?_);refine goesL_ (some 37) rfl rfl Tryd.func67 (by kernel_rfl) rfl #[.string sj20,.int .u8 64] rfl (by (try simp only [List.map_toArray,List.map_cons,List.map_nil]);first|done|rfl|(simp only [List.length_drop,List.length_take];rfl)) ?_;(with_reducible refine (spec_l1Split.calls kj7 sj20 64 t132 _ A21.out).mono ?_);rintro e w24 ⟨v133,rfl,ho0,hb⟩;refine ⟨_,rfl,?_⟩;have n0_ := Aside0.mk (Kd.R_lower ho0 (below_size (by repeat (first|(with_reducible first|exact HB.out|apply lA|apply lN|apply lD|refine below_set ?_ GE126.out)|exact HB.out))));have n1_ := Aside0.mk (blk_below (g := gb126) (o := .cells #[.string (⟨#[]⟩ : ByteArray),.string (⟨#[]⟩ : ByteArray)] 27 (0,0)) (by (with_reducible repeat (first|refine bN ?_ _|refine bD ?_|refine bA ?_ _));exact BK126.out) hb);have n2_ := Aside0.mk (below_step (by repeat (first|(with_reducible first|exact HB.out|apply lA|apply lN|apply lD|refine below_set ?_ GE126.out)|exact HB.out)) hb);clear BK126;clear HB;have HO134 := n0_;have BK126 := n1_;have HB := n2_;clear n0_ n1_ n2_;(try clear hb);(try clear hb2);(try clear hk);(try clear hi);(try clear ho0);obtain ⟨Ao25,co25,eo25⟩ := Kd.R_slice HO134.out;subst eo25;have p135 : 0 ≤ (0 : Int) := (by omega);have q135 : 0 < (t132.length : Int) := of_decide_eq_true (by first|(with_reducible assumption)|assumption);obtain ⟨ad135,e135,hx135_0⟩ := Kd.at_string (Kd.R_reads' HO134.out).2.2 0 p135 q135;cases e135;have qi135 : (0 < t132.length) = True := eq_true (by omega);(try rw [show ((0 : Int)).toNat = 0 from rfl] at hx135_0);(try rw [Addr.add_zero'] at hx135_0);replace p135 := eq_true p135;replace q135 := eq_true q135;have hcz26_0 : w24.cell? ⟨gb126,0,none⟩ = some (.string (⟨#[]⟩ : ByteArray)) := (blk_cell BK126.out 0).trans rfl;have hcz26_1 : w24.cell? ⟨gb126,1,none⟩ = some (.string (⟨#[]⟩ : ByteArray)) := (blk_cell BK126.out 1).trans rfl;have hfz26_0 := blk_frozen BK126.out 0;have hfz26_1 := blk_frozen BK126.out 1))
          refine bodyPost_ret (results_ct rfl _ _ gb126 27 #[.string (⟨#[]⟩ : ByteArray),.string (⟨#[]⟩ : ByteArray)] (0,0) _ rfl (by (with_reducible repeat (first|refine bN ?_ _|refine bD ?_|refine bA ?_ _));refine blk_put (cs := #[.string (⟨#[]⟩ : ByteArray),.string (⟨#[]⟩ : ByteArray)]) ?_ 1 _ rfl;(with_reducible repeat (first|refine bN ?_ _|refine bD ?_|refine bA ?_ _));refine blk_put (cs := #[.string (⟨#[]⟩ : ByteArray),.string (⟨#[]⟩ : ByteArray)]) ?_ 0 _ rfl;(with_reducible repeat (first|refine bN ?_ _|refine bD ?_|refine bA ?_ _));exact BK126.out) Tryd.underlying27 rfl (by kernel_rfl)) rfl ?_
          exact ⟨by first|rfl|(simp [errW_none,errW_some] <;> rfl)|(simp only [← hsj5,← hsj20];first|rfl|(simp [errW_none,errW_some] <;> rfl))|(simp [*,errW_none,errW_some] <;> rfl),by repeat (first|(with_reducible first|exact HB.out|apply lA|apply lN|apply lD|refine below_set ?_ GE126.out)|exact HB.out)⟩
         ·rw [if_neg c23] at H
          have c23b0 : (((rdOf ByteArray.empty t132 0).size : Int) == (sj20.size : Int)) = false := beq_eq_false_iff_ne.mpr c23
          have c23b1 : (((rdOf ByteArray.empty t132 0).size : Int) != (sj20.size : Int)) = true := bne_iff_ne.mpr c23
          have c23b2 : ((rdOf ByteArray.empty t132 0).size == sj20.size) = false := by first|simpa using c23|(simp at c23 ⊢;omega)
          obtain ⟨ji27,hji27⟩ : ∃ j_ : Int,(wrap64 (((rdOf ByteArray.empty t132 0).size : Int) + 1)) = j_ := ⟨_,rfl⟩
          (try rw [hji27] at hsj5)
          (try rw [hji27] at hsj20)
          replace H : (if 0 ≤ (ji27) then (if (ji27) ≤ (sj20.size : Int) then ((spec_l26Good.f kj7 (rdOf ByteArray.empty t132 0) (sj20.extract ((ji27) : Int).toNat sj20.size)).bind fun t137 => (if t137 = true then ((spec_l26Line.f kj7 a1 (rdOf ByteArray.empty t132 0) (sj20.extract ((ji27) : Int).toNat sj20.size)).bind fun t138 => (if a0.size + 1 ≤ 9223372036854775807 then (some (rdOf ByteArray.empty t132 0,sj20.extract ((ji27) : Int).toNat sj20.size,(t138.toList == (a0 ++ (⟨#[10]⟩ : ByteArray)).toList))) else (none))) else (some (rdOf ByteArray.empty t132 0,sj20.extract ((ji27) : Int).toNat sj20.size,false)))) else (none)) else (none)) = some (r1,r2,r3) := by first|(rw [hji27] at H;exact H)|(simp only [hji27] at H ⊢;exact H)
          (try rw [hji27] at A21)
          have hji27w : (IntKind.i64.wrap (((rdOf ByteArray.empty t132 0).size : Int) + 1)) = ji27 := (i64_w _).trans hji27
          by_cases c28 : 0 ≤ (ji27)
          ·rw [if_pos c28] at H
           have c28b0 := eq_true c28
           have c28b1 : decide (0 ≤ (ji27)) = true := decide_eq_true c28
           clear c28
           by_cases c29 : (ji27) ≤ (sj20.size : Int)
           ·rw [if_pos c29] at H
            have c29b0 := eq_true c29
            have c29b1 : decide ((ji27) ≤ (sj20.size : Int)) = true := decide_eq_true c29
            clear c29
            replace H := Option.bind_eq_some_iff.mp H
            obtain ⟨t137,A300,H⟩ := H
            replace H : (if t137 = true then ((spec_l26Line.f kj7 a1 (rdOf ByteArray.empty t132 0) (sj20.extract ((ji27) : Int).toNat sj20.size)).bind fun t138 => (if a0.size + 1 ≤ 9223372036854775807 then (some (rdOf ByteArray.empty t132 0,sj20.extract ((ji27) : Int).toNat sj20.size,(t138.toList == (a0 ++ (⟨#[10]⟩ : ByteArray)).toList))) else (none))) else (some (rdOf ByteArray.empty t132 0,sj20.extract ((ji27) : Int).toNat sj20.size,false))) = some (r1,r2,r3) := H
            have A30 := Aside0.mk A300
            clear A300
            by_cases c31 : t137 = true
            ·subst c31
             have H1 : ((spec_l26Line.f kj7 a1 (rdOf ByteArray.empty t132 0) (sj20.extract ((ji27) : Int).toNat sj20.size)).bind fun t138 => (if a0.size + 1 ≤ 9223372036854775807 then (some (rdOf ByteArray.empty t132 0,sj20.extract ((ji27) : Int).toNat sj20.size,(t138.toList == (a0 ++ (⟨#[10]⟩ : ByteArray)).toList))) else (none))) = some (r1,r2,r3) := by rw [if_pos rfl] at H;exact H
             clear H
             have H := H1
             clear H1
             replace H := Option.bind_eq_some_iff.mp H
             obtain ⟨t138,A320,H⟩ := H
             replace H : (if a0.size + 1 ≤ 9223372036854775807 then (some (rdOf ByteArray.empty t132 0,sj20.extract ((ji27) : Int).toNat sj20.size,(t138.toList == (a0 ++ (⟨#[10]⟩ : ByteArray)).toList))) else (none)) = some (r1,r2,r3) := H
             have A32 := Aside0.mk A320
             clear A320
             by_cases c33 : a0.size + 1 ≤ 9223372036854775807
             ·rw [if_pos c33] at H
              have c33b0 := eq_true c33
              have c33b1 : decide (a0.size + 1 ≤ 9223372036854775807) = true := decide_eq_true c33
              try have c33b2 : (9223372036854775807 < a0.size + 1) = False := eq_false (Nat.not_lt.2 c33)
              simp only [Option.some.injEq,Prod.mk.injEq] at H
              obtain ⟨rfl,rfl,rfl⟩ := H
              try go_wp2_with (first|((with_reducible refine gate_callee (f := 67) rfl ?_);refine goesL_ (some 37) rfl rfl Tryd.func67 (by kernel_rfl) rfl #[.string sj20,.int .u8 64] rfl (by (try simp only [List.map_toArray,List.map_cons,List.map_nil]);first|done|rfl|(simp only [List.length_drop,List.length_take];rfl)) ?_;(with_reducible refine (spec_l1Split.calls kj7 sj20 64 t132 _ A21.out).mono ?_);rintro e w34 ⟨v133,rfl,ho0,hb⟩;refine ⟨_,rfl,?_⟩;have n0_ := Aside0.mk (Kd.R_lower ho0 (below_size (by repeat (first|(with_reducible first|exact HB.out|apply lA|apply lN|apply lD|refine below_set ?_ GE126.out)|exact HB.out))));have n1_ := Aside0.mk (blk_below (g := gb126) (o := .cells #[.string (⟨#[]⟩ : ByteArray),.string (⟨#[]⟩ : ByteArray)] 27 (0,0)) (by (with_reducible repeat (first|refine bN ?_ _|refine bD ?_|refine bA ?_ _));exact BK126.out) hb);have n2_ := Aside0.mk (below_step (by repeat (first|(with_reducible first|exact HB.out|apply lA|apply lN|apply lD|refine below_set ?_ GE126.out)|exact HB.out)) hb);clear BK126;clear HB;have HO134 := n0_;have BK126 := n1_;have HB := n2_;clear n0_ n1_ n2_;(try clear hb);(try clear hb2);(try clear hk);(try clear hi);(try clear ho0);obtain ⟨Ao35,co35,eo35⟩ := Kd.R_slice HO134.out;subst eo35;have p135 : 0 ≤ (0 : Int) := (by omega);have q135 : 0 < (t132.length : Int) := of_decide_eq_true (by first|(with_reducible assumption)|assumption);obtain ⟨ad135,e135,hx135_0⟩ := Kd.at_string (Kd.R_reads' HO134.out).2.2 0 p135 q135;cases e135;have qi135 : (0 < t132.length) = True := eq_true (by omega);(try rw [show ((0 : Int)).toNat = 0 from rfl] at hx135_0);(try rw [Addr.add_zero'] at hx135_0);replace p135 := eq_true p135;replace q135 := eq_true q135)|((with_reducible refine gate_dst (N := 10) rfl ?_);(try (refine gate_guard (by rfl) ?_;dsimp only));refine box_event ?hg (N := 10) ?hd (cs := #[.string (⟨#[]⟩ : ByteArray),.string (⟨#[]⟩ : ByteArray)]) (t := 27) ?hr ?_;(case hd => rfl);(case hg => rfl);(case hr => first|(go_simp;done)|(go_simp;rfl));intro gb136 hg w36 hbox hb;have n0_ := Aside0.mk (Kd.R_below (by (with_reducible repeat (first|apply Kd.R_alloc|apply Kd.R_drewN|apply Kd.R_drew));exact HO134.out) hb);have n1_ := Aside0.mk (blk_below (g := gb126) (o := .cells #[.string (⟨#[]⟩ : ByteArray),.string (⟨#[]⟩ : ByteArray)] 27 (0,0)) (by (with_reducible repeat (first|refine bN ?_ _|refine bD ?_|refine bA ?_ _));exact BK126.out) hb);have n2_ := Aside0.mk (below_step (by repeat (first|(with_reducible first|exact HB.out|apply lA|apply lN|apply lD|refine below_set ?_ GE126.out)|exact HB.out)) hb);have n3_ := Aside0.mk (hbox);have n4_ := Aside0.mk ((by rw [hg];exact (below_size (by repeat (first|(with_reducible first|exact HB.out|apply lA|apply lN|apply lD|refine below_set ?_ GE126.out)|exact HB.out))) : w.heap.size ≤ gb136));have n5_ := Aside0.mk ((by rw [hg];exact (below_size (by repeat (first|(with_reducible first|exact HB.out|apply lA|apply lN|apply lD|refine below_set ?_ GE126.out)|exact HB.out))) : w.heap.size ≤ gb136));have n6_ := Aside0.mk ((by rw [hg];exact Nat.ne_of_lt (blk_lt (g := gb126) (o := .cells #[.string (⟨#[]⟩ : ByteArray),.string (⟨#[]⟩ : ByteArray)] 27 (0,0)) (by (with_reducible repeat (first|refine bN ?_ _|refine bD ?_|refine bA ?_ _));exact BK126.out)) : gb126 ≠ gb136));have n7_ := Aside0.mk ((by rw [hg];exact Nat.ne_of_gt (blk_lt (g := gb126) (o := .cells #[.string (⟨#[]⟩ : ByteArray),.string (⟨#[]⟩ : ByteArray)] 27 (0,0)) (by (with_reducible repeat (first|refine bN ?_ _|refine bD ?_|refine bA ?_ _));exact BK126.out)) : gb136 ≠ gb126));clear HO134;clear BK126;clear HB;have HO134 := n0_;have BK126 := n1_;have HB := n2_;have BK136 := n3_;have GW136 := n4_;have GE136 := n5_;have NB126_136 := n6_;have NB136_126 := n7_;clear n0_ n1_ n2_ n3_ n4_ n5_ n6_ n7_;clear hb hbox hg;have hnb37 := NB136_126.out;have hnc37 := NB126_136.out;have hcz38_0 : w36.cell? ⟨gb136,0,none⟩ = some (.string (⟨#[]⟩ : ByteArray)) := (blk_cell BK136.out 0).trans rfl;have hcz38_1 : w36.cell? ⟨gb136,1,none⟩ = some (.string (⟨#[]⟩ : ByteArray)) := (blk_cell BK136.out 1).trans rfl;have hfz38_0 := blk_frozen BK136.out 0;have hfz38_1 := blk_frozen BK136.out 1))
              have n0_ : Aside0 (Kd.R Kd.string 9 ((w36.setCell ⟨gb136,0,none⟩ (.string (rdOf ByteArray.empty t132 0))).setCell ⟨gb136,1,none⟩ (.string (sj20.extract ((ji27) : Int).toNat sj20.size))) w.heap.size (fun _ => True) (.slice (some ad135) t132.length co35) t132) := ⟨by (with_reducible repeat (first|apply Kd.R_alloc|apply Kd.R_drewN|apply Kd.R_drew));exact Kd.R_mono (Kd.R_far (p := ⟨gb136,1,none⟩) (Kd.R_far (p := ⟨gb136,0,none⟩) (Kd.R_types HO134.out BK136.out (by decide)) (fun _ hk => hk.2) (.string (rdOf ByteArray.empty t132 0))) (fun _ hk => hk.2) (.string (sj20.extract ((ji27) : Int).toNat sj20.size))) (fun _ hk => trivial)⟩
              have n1_ : Aside0 (((w36.setCell ⟨gb136,0,none⟩ (.string (rdOf ByteArray.empty t132 0))).setCell ⟨gb136,1,none⟩ (.string (sj20.extract ((ji27) : Int).toNat sj20.size))).heap[gb126]? = some (.cells #[.string (⟨#[]⟩ : ByteArray),.string (⟨#[]⟩ : ByteArray)] 27 (0,0))) := ⟨by (with_reducible repeat (first|refine bN ?_ _|refine bD ?_|refine bA ?_ _));refine blk_far ?_ NB126_136.out _;(with_reducible repeat (first|refine bN ?_ _|refine bD ?_|refine bA ?_ _));refine blk_far ?_ NB126_136.out _;(with_reducible repeat (first|refine bN ?_ _|refine bD ?_|refine bA ?_ _));exact BK126.out⟩
              have n2_ : Aside0 (((w36.setCell ⟨gb136,0,none⟩ (.string (rdOf ByteArray.empty t132 0))).setCell ⟨gb136,1,none⟩ (.string (sj20.extract ((ji27) : Int).toNat sj20.size))).heap[gb136]? = some (.cells #[.string (rdOf ByteArray.empty t132 0),.string (sj20.extract ((ji27) : Int).toNat sj20.size)] 27 (0,0))) := ⟨by (with_reducible repeat (first|refine bN ?_ _|refine bD ?_|refine bA ?_ _));refine blk_put (cs := #[.string (rdOf ByteArray.empty t132 0),.string (⟨#[]⟩ : ByteArray)]) ?_ 1 _ rfl;(with_reducible repeat (first|refine bN ?_ _|refine bD ?_|refine bA ?_ _));refine blk_put (cs := #[.string (⟨#[]⟩ : ByteArray),.string (⟨#[]⟩ : ByteArray)]) ?_ 0 _ rfl;(with_reducible repeat (first|refine bN ?_ _|refine bD ?_|refine bA ?_ _));exact BK136.out⟩
              have n3_ : Aside0 (Below w.heap.size w ((w36.setCell ⟨gb136,0,none⟩ (.string (rdOf ByteArray.empty t132 0))).setCell ⟨gb136,1,none⟩ (.string (sj20.extract ((ji27) : Int).toNat sj20.size)))) := ⟨by repeat (first|(with_reducible first|exact HB.out|apply lA|apply lN|apply lD|refine below_set ?_ GE126.out|refine below_set ?_ GE136.out)|exact HB.out)⟩
              (try clear HO134)
              (try clear BK126)
              (try clear BK136)
              (try clear HB)
              generalize ((w36.setCell ⟨gb136,0,none⟩ (.string (rdOf ByteArray.empty t132 0))).setCell ⟨gb136,1,none⟩ (.string (sj20.extract ((ji27) : Int).toNat sj20.size))) = w39 at n0_ n1_ n2_ n3_ ⊢
              have HO134 := n0_
              have BK126 := n1_
              have BK136 := n2_
              have HB := n3_
              clear n0_ n1_ n2_ n3_
              have n0_ := Aside0.mk (Kd.R_drew HO134.out)
              have n1_ := Aside0.mk (bD BK126.out)
              have n2_ := Aside0.mk (bD BK136.out)
              have n3_ := Aside0.mk (lD HB.out)
              clear HO134
              clear BK126
              clear BK136
              clear HB
              have HO134 := n0_
              have BK126 := n1_
              have BK136 := n2_
              have HB := n3_
              clear n0_ n1_ n2_ n3_
              refine start_ (n := 13) (S := fun w' => w'.cell? ⟨gb136,0,none⟩ = some (.string (rdOf ByteArray.empty t132 0)) ∧ w'.cell? ⟨gb136,1,none⟩ = some (.string (sj20.extract ((ji27) : Int).toNat sj20.size))) (ds := []) #[false,false,false,false,false,false,false,false,false,false,false,false,false] (by kernel_rfl) rfl rfl ⟨(blk_cell BK136.out 0).trans rfl,(blk_cell BK136.out 1).trans rfl⟩ (fun hHeld => ?_);refine with_tabW spec_l26Read.tab10 spec_l26Read.bits10 (fun HT_ HW_ => ?_)
              generalize w39.drew = w40 at HO134 BK126 BK136 HB hHeld ⊢
              refine take_ (i := 0) (N := some 53) (v := ?_) (a' := ?_) #[true,false,false,false,false,false,false,false,false,false,false,false,false] rfl rfl (take_ofW HT_.out HW_.out (by kernel_rfl)) (fun _ _ _ h => h) (Or.inl ⟨by rfl,?_⟩) hHeld ?_ ?_
              rotate_left
              ·rintro w' ⟨s0,s1⟩
               go_simp
               with_reducible rfl
              rotate_left
              ·simp only [Act.put,List.setIfInBounds_toArray,List.set_cons_zero,List.set_cons_succ,i64_w,i32_w]
               rfl
              refine take_ (i := 1) (N := some 54) (v := ?_) (a' := ?_) #[true,true,false,false,false,false,false,false,false,false,false,false,false] rfl rfl (take_ofW HT_.out HW_.out (by kernel_rfl)) (fun _ _ _ h => h) (Or.inl ⟨by rfl,?_⟩) hHeld ?_ ?_
              rotate_left
              ·rintro w' ⟨s0,s1⟩
               go_simp
               with_reducible rfl
              rotate_left
              ·simp only [Act.put,List.setIfInBounds_toArray,List.set_cons_zero,List.set_cons_succ,i64_w,i32_w]
               rfl
              refine one_ (i := 2) (N := some 55) #[true,true,true,false,false,false,false,false,false,false,false,false,false] rfl rfl (one_of HT_.out (by kernel_rfl)) (by decide) (fun K hK => ?_)
              refine goes_ Tryd.func43 (by kernel_rfl) rfl #[.agg #[.string (rdOf ByteArray.empty t132 0),.string (sj20.extract ((ji27) : Int).toNat sj20.size)]] (by rfl) rfl rfl (by (try simp only [List.map_toArray,List.map_cons,List.map_nil]);first|done|(simp only [hji27];rfl)|rfl|(simp only [List.length_drop,List.length_take];rfl)) ?_
              with_reducible refine (spec_l26Good.calls kj7 (rdOf ByteArray.empty t132 0) (sj20.extract ((ji27) : Int).toNat sj20.size) true _ A30.out).mono ?_
              rintro e w41 ⟨rfl,hb⟩
              refine ⟨_,rfl,?_⟩
              have n0_ := Aside0.mk (Kd.R_below (by (with_reducible repeat (first|apply Kd.R_alloc|apply Kd.R_drewN|apply Kd.R_drew));exact HO134.out) hb)
              have n1_ := Aside0.mk (blk_below (g := gb126) (o := .cells #[.string (⟨#[]⟩ : ByteArray),.string (⟨#[]⟩ : ByteArray)] 27 (0,0)) (by (with_reducible repeat (first|refine bN ?_ _|refine bD ?_|refine bA ?_ _));exact BK126.out) hb)
              have n2_ := Aside0.mk (blk_below (g := gb136) (o := .cells #[.string (rdOf ByteArray.empty t132 0),.string (sj20.extract ((ji27) : Int).toNat sj20.size)] 27 (0,0)) (by (with_reducible repeat (first|refine bN ?_ _|refine bD ?_|refine bA ?_ _));exact BK136.out) hb)
              have n3_ := Aside0.mk (below_step (by repeat (first|(with_reducible first|exact HB.out|apply lA|apply lN|apply lD|refine below_set ?_ GE126.out|refine below_set ?_ GE136.out)|exact HB.out)) hb)
              clear HO134
              clear BK126
              clear BK136
              clear HB
              have HO134 := n0_
              have BK126 := n1_
              have BK136 := n2_
              have HB := n3_
              clear n0_ n1_ n2_ n3_
              (try clear hb)
              (try clear hb2)
              (try clear hk)
              (try clear hi)
              refine hK.out _ _ ⟨(blk_cell BK136.out 0).trans rfl,(blk_cell BK136.out 1).trans rfl⟩ (fun hHeld => ?_)
              clear hK K
              refine norm_ (a' := ?_) ?_ ?_
              rotate_left
              ·show Act.put _ (some 55) _ = _
               simp only [Act.put,List.setIfInBounds_toArray,List.set_cons_zero,List.set_cons_succ,i64_w,i32_w]
               rfl
              refine pure_ (i := 3) (N := some 56) (v := ?_) (a' := ?_) #[true,true,true,true,false,false,false,false,false,false,false,false,false] rfl rfl (any_of HT_.out (by kernel_rfl)) (fun _ _ _ h => h) (Or.inl ⟨by rfl,?_⟩) ?_ ?_
              rotate_left
              ·intro w'
               go_simp
               with_reducible rfl
              rotate_left
              ·simp only [Act.put,List.setIfInBounds_toArray,List.set_cons_zero,List.set_cons_succ,i64_w,i32_w]
               rfl
              refine pure_ (i := 4) (N := some 57) (v := ?_) (a' := ?_) #[true,true,true,true,true,false,false,false,false,false,false,false,false] rfl rfl (any_of HT_.out (by kernel_rfl)) (fun _ _ _ h => h) (Or.inl ⟨by rfl,?_⟩) ?_ ?_
              rotate_left
              ·intro w'
               go_simp
               with_reducible rfl
              rotate_left
              ·simp only [Act.put,List.setIfInBounds_toArray,List.set_cons_zero,List.set_cons_succ,i64_w,i32_w]
               rfl
              refine pure_ (i := 7) (N := some 60) (v := ?_) (a' := ?_) #[true,true,true,true,true,false,false,true,false,false,false,false,false] rfl rfl (any_of HT_.out (by kernel_rfl)) (fun _ _ _ h => h) (Or.inl ⟨by rfl,?_⟩) ?_ ?_
              rotate_left
              ·intro w'
               go_simp
               with_reducible rfl
              rotate_left
              ·simp only [Act.put,List.setIfInBounds_toArray,List.set_cons_zero,List.set_cons_succ,i64_w,i32_w]
               rfl
              refine pure_ (i := 8) (N := some 61) (v := ?_) (a' := ?_) #[true,true,true,true,true,false,false,true,true,false,false,false,false] rfl rfl (any_of HT_.out (by kernel_rfl)) (fun _ _ _ h => h) (Or.inl ⟨by rfl,?_⟩) ?_ ?_
              rotate_left
              ·intro w'
               go_simp
               with_reducible rfl
              rotate_left
              ·simp only [Act.put,List.setIfInBounds_toArray,List.set_cons_zero,List.set_cons_succ,i64_w,i32_w]
               rfl
              refine take_ (i := 5) (N := some 58) (v := ?_) (a' := ?_) #[true,true,true,true,true,true,false,true,true,false,false,false,false] rfl rfl (take_ofW HT_.out HW_.out (by kernel_rfl)) (fun _ _ _ h => h) (Or.inl ⟨by rfl,?_⟩) hHeld ?_ ?_
              rotate_left
              ·rintro w' ⟨s0,s1⟩
               go_simp
               with_reducible rfl
              rotate_left
              ·simp only [Act.put,List.setIfInBounds_toArray,List.set_cons_zero,List.set_cons_succ,i64_w,i32_w]
               rfl
              refine one_ (i := 6) (N := some 59) #[true,true,true,true,true,true,true,true,true,false,false,false,false] rfl rfl (one_of HT_.out (by kernel_rfl)) (by decide) (fun K hK => ?_)
              refine goes_ Tryd.func44 (by kernel_rfl) rfl #[.int .i64 a1,.agg #[.string (rdOf ByteArray.empty t132 0),.string (sj20.extract ((ji27) : Int).toNat sj20.size)]] (by rfl) rfl rfl (by (try simp only [List.map_toArray,List.map_cons,List.map_nil]);first|done|(simp only [hji27];rfl)|rfl|(simp only [List.length_drop,List.length_take];rfl)) ?_
              with_reducible refine (spec_l26Line.calls kj7 a1 (rdOf ByteArray.empty t132 0) (sj20.extract ((ji27) : Int).toNat sj20.size) t138 _ A32.out).mono ?_
              rintro e w42 ⟨rfl,hb⟩
              refine ⟨_,rfl,?_⟩
              have n0_ := Aside0.mk (Kd.R_below (by (with_reducible repeat (first|apply Kd.R_alloc|apply Kd.R_drewN|apply Kd.R_drew));exact HO134.out) hb)
              have n1_ := Aside0.mk (blk_below (g := gb126) (o := .cells #[.string (⟨#[]⟩ : ByteArray),.string (⟨#[]⟩ : ByteArray)] 27 (0,0)) (by (with_reducible repeat (first|refine bN ?_ _|refine bD ?_|refine bA ?_ _));exact BK126.out) hb)
              have n2_ := Aside0.mk (blk_below (g := gb136) (o := .cells #[.string (rdOf ByteArray.empty t132 0),.string (sj20.extract ((ji27) : Int).toNat sj20.size)] 27 (0,0)) (by (with_reducible repeat (first|refine bN ?_ _|refine bD ?_|refine bA ?_ _));exact BK136.out) hb)
              have n3_ := Aside0.mk (below_step (by repeat (first|(with_reducible first|exact HB.out|apply lA|apply lN|apply lD|refine below_set ?_ GE126.out|refine below_set ?_ GE136.out)|exact HB.out)) hb)
              clear HO134
              clear BK126
              clear BK136
              clear HB
              have HO134 := n0_
              have BK126 := n1_
              have BK136 := n2_
              have HB := n3_
              clear n0_ n1_ n2_ n3_
              (try clear hb)
              (try clear hb2)
              (try clear hk)
              (try clear hi)
              refine hK.out _ _ ⟨(blk_cell BK136.out 0).trans rfl,(blk_cell BK136.out 1).trans rfl⟩ (fun hHeld => ?_)
              clear hK K
              refine norm_ (a' := ?_) ?_ ?_
              rotate_left
              ·show Act.put _ (some 59) _ = _
               simp only [Act.put,List.setIfInBounds_toArray,List.set_cons_zero,List.set_cons_succ,i64_w,i32_w]
               rfl
              refine pure_ (i := 9) (N := some 62) (v := ?_) (a' := ?_) #[true,true,true,true,true,true,true,true,true,true,false,false,false] rfl rfl (any_of HT_.out (by kernel_rfl)) (fun _ _ _ h => h) (Or.inl ⟨by rfl,?_⟩) ?_ ?_
              rotate_left
              ·intro w'
               go_simp
               with_reducible rfl
              rotate_left
              ·simp only [Act.put,List.setIfInBounds_toArray,List.set_cons_zero,List.set_cons_succ,i64_w,i32_w]
               rfl
              refine pure_ (i := 10) (N := some 63) (v := ?_) (a' := ?_) #[true,true,true,true,true,true,true,true,true,true,true,false,false] rfl rfl (any_of HT_.out (by kernel_rfl)) (fun _ _ _ h => h) (Or.inl ⟨by rfl,?_⟩) ?_ ?_
              rotate_left
              ·intro w'
               go_simp
               with_reducible rfl
              rotate_left
              ·simp only [Act.put,List.setIfInBounds_toArray,List.set_cons_zero,List.set_cons_succ,i64_w,i32_w]
               rfl
              refine one_ (i := 11) (N := none) #[true,true,true,true,true,true,true,true,true,true,true,true,false] rfl rfl (one_of HT_.out (by kernel_rfl)) (by decide) (fun K hK => ?_)
              have hs43 : w42.cell? ⟨gb126,0,none⟩ = some (.string (⟨#[]⟩ : ByteArray)) := (blk_cell BK126.out 0).trans rfl
              have hfs43 := blk_frozen BK126.out 0
              have hns43_1 := NB136_126.out
              have hms43_1 := NB126_136.out
              have hs44 : w42.cell? ⟨gb126,1,none⟩ = some (.string (⟨#[]⟩ : ByteArray)) := (blk_cell BK126.out 1).trans rfl
              have hfs44 := blk_frozen BK126.out 1
              have hns44_1 := NB136_126.out
              have hms44_1 := NB126_136.out
              refine skip_ (w1 := ?_) (by rfl) rfl ?_ ?_
              rotate_left
              ·go_simp
               rfl
              refine hK.out _ _ ⟨((cell_far (p := ⟨gb126,_,none⟩) NB136_126.out _).trans (((cell_far (p := ⟨gb126,_,none⟩) NB136_126.out _).trans (hHeld.1)))),((cell_far (p := ⟨gb126,_,none⟩) NB136_126.out _).trans (((cell_far (p := ⟨gb126,_,none⟩) NB136_126.out _).trans (hHeld.2))))⟩ (fun hHeld => ?_)
              clear hK K
              refine pure_ (i := 12) (N := some 5) (v := ?_) (a' := ?_) #[true,true,true,true,true,true,true,true,true,true,true,true,true] rfl rfl (any_of HT_.out (by kernel_rfl)) (fun _ _ _ h => h) (Or.inl ⟨by rfl,?_⟩) ?_ ?_
              rotate_left
              ·intro w'
               go_simp
               with_reducible rfl
              rotate_left
              ·simp only [Act.put,List.setIfInBounds_toArray,List.set_cons_zero,List.set_cons_succ,i64_w,i32_w]
               rfl
              refine done_ (done_of HT_.out (by kernel_rfl)) ?_
              try go_wp2
              refine bodyPost_ret (results_ct rfl _ _ gb126 27 #[.string (rdOf ByteArray.empty t132 0),.string (sj20.extract ((ji27) : Int).toNat sj20.size)] (0,0) _ rfl (by (with_reducible repeat (first|refine bN ?_ _|refine bD ?_|refine bA ?_ _));refine blk_put (cs := #[.string (rdOf ByteArray.empty t132 0),.string (⟨#[]⟩ : ByteArray)]) ?_ 1 _ rfl;(with_reducible repeat (first|refine bN ?_ _|refine bD ?_|refine bA ?_ _));refine blk_put (cs := #[.string (⟨#[]⟩ : ByteArray),.string (⟨#[]⟩ : ByteArray)]) ?_ 0 _ rfl;(with_reducible repeat (first|refine bN ?_ _|refine bD ?_|refine bA ?_ _));exact BK126.out) Tryd.underlying27 rfl (by kernel_rfl)) rfl ?_
              exact ⟨by first|rfl|(simp [errW_none,errW_some] <;> rfl)|(simp only [← hsj5,← hsj20,← hji27];first|rfl|(simp [errW_none,errW_some] <;> rfl))|(simp [*,errW_none,errW_some] <;> rfl),by repeat (first|(with_reducible first|exact HB.out|apply lA|apply lN|apply lD|refine below_set ?_ GE126.out|refine below_set ?_ GE136.out)|exact HB.out)⟩
             ·rw [if_neg c33] at H
              exact absurd H (by simp)
            ·replace c31 := Bool.eq_false_iff.mpr c31
             subst c31
             have H1 : (some (rdOf ByteArray.empty t132 0,sj20.extract ((ji27) : Int).toNat sj20.size,false)) = some (r1,r2,r3) := by rw [if_neg (show ¬ (false = true) by decide)] at H;exact H
             clear H
             have H := H1
             clear H1
             simp only [Option.some.injEq,Prod.mk.injEq] at H
             obtain ⟨rfl,rfl,rfl⟩ := H
             try go_wp2_with (first|((with_reducible refine gate_callee (f := 67) rfl ?_);refine goesL_ (some 37) rfl rfl Tryd.func67 (by kernel_rfl) rfl #[.string sj20,.int .u8 64] rfl (by (try simp only [List.map_toArray,List.map_cons,List.map_nil]);first|done|rfl|(simp only [List.length_drop,List.length_take];rfl)) ?_;(with_reducible refine (spec_l1Split.calls kj7 sj20 64 t132 _ A21.out).mono ?_);rintro e w45 ⟨v133,rfl,ho0,hb⟩;refine ⟨_,rfl,?_⟩;have n0_ := Aside0.mk (Kd.R_lower ho0 (below_size (by repeat (first|(with_reducible first|exact HB.out|apply lA|apply lN|apply lD|refine below_set ?_ GE126.out)|exact HB.out))));have n1_ := Aside0.mk (blk_below (g := gb126) (o := .cells #[.string (⟨#[]⟩ : ByteArray),.string (⟨#[]⟩ : ByteArray)] 27 (0,0)) (by (with_reducible repeat (first|refine bN ?_ _|refine bD ?_|refine bA ?_ _));exact BK126.out) hb);have n2_ := Aside0.mk (below_step (by repeat (first|(with_reducible first|exact HB.out|apply lA|apply lN|apply lD|refine below_set ?_ GE126.out)|exact HB.out)) hb);clear BK126;clear HB;have HO134 := n0_;have BK126 := n1_;have HB := n2_;clear n0_ n1_ n2_;(try clear hb);(try clear hb2);(try clear hk);(try clear hi);(try clear ho0);obtain ⟨Ao46,co46,eo46⟩ := Kd.R_slice HO134.out;subst eo46;have p135 : 0 ≤ (0 : Int) := (by omega);have q135 : 0 < (t132.length : Int) := of_decide_eq_true (by first|(with_reducible assumption)|assumption);obtain ⟨ad135,e135,hx135_0⟩ := Kd.at_string (Kd.R_reads' HO134.out).2.2 0 p135 q135;cases e135;have qi135 : (0 < t132.length) = True := eq_true (by omega);(try rw [show ((0 : Int)).toNat = 0 from rfl] at hx135_0);(try rw [Addr.add_zero'] at hx135_0);replace p135 := eq_true p135;replace q135 := eq_true q135)|((with_reducible refine gate_dst (N := 10) rfl ?_);(try (refine gate_guard (by rfl) ?_;dsimp only));refine box_event ?hg (N := 10) ?hd (cs := #[.string (⟨#[]⟩ : ByteArray),.string (⟨#[]⟩ : ByteArray)]) (t := 27) ?hr ?_;(case hd => rfl);(case hg => rfl);(case hr => first|(go_simp;done)|(go_simp;rfl));intro gb136 hg w47 hbox hb;have n0_ := Aside0.mk (Kd.R_below (by (with_reducible repeat (first|apply Kd.R_alloc|apply Kd.R_drewN|apply Kd.R_drew));exact HO134.out) hb);have n1_ := Aside0.mk (blk_below (g := gb126) (o := .cells #[.string (⟨#[]⟩ : ByteArray),.string (⟨#[]⟩ : ByteArray)] 27 (0,0)) (by (with_reducible repeat (first|refine bN ?_ _|refine bD ?_|refine bA ?_ _));exact BK126.out) hb);have n2_ := Aside0.mk (below_step (by repeat (first|(with_reducible first|exact HB.out|apply lA|apply lN|apply lD|refine below_set ?_ GE126.out)|exact HB.out)) hb);have n3_ := Aside0.mk (hbox);have n4_ := Aside0.mk ((by rw [hg];exact (below_size (by repeat (first|(with_reducible first|exact HB.out|apply lA|apply lN|apply lD|refine below_set ?_ GE126.out)|exact HB.out))) : w.heap.size ≤ gb136));have n5_ := Aside0.mk ((by rw [hg];exact (below_size (by repeat (first|(with_reducible first|exact HB.out|apply lA|apply lN|apply lD|refine below_set ?_ GE126.out)|exact HB.out))) : w.heap.size ≤ gb136));have n6_ := Aside0.mk ((by rw [hg];exact Nat.ne_of_lt (blk_lt (g := gb126) (o := .cells #[.string (⟨#[]⟩ : ByteArray),.string (⟨#[]⟩ : ByteArray)] 27 (0,0)) (by (with_reducible repeat (first|refine bN ?_ _|refine bD ?_|refine bA ?_ _));exact BK126.out)) : gb126 ≠ gb136));have n7_ := Aside0.mk ((by rw [hg];exact Nat.ne_of_gt (blk_lt (g := gb126) (o := .cells #[.string (⟨#[]⟩ : ByteArray),.string (⟨#[]⟩ : ByteArray)] 27 (0,0)) (by (with_reducible repeat (first|refine bN ?_ _|refine bD ?_|refine bA ?_ _));exact BK126.out)) : gb136 ≠ gb126));clear HO134;clear BK126;clear HB;have HO134 := n0_;have BK126 := n1_;have HB := n2_;have BK136 := n3_;have GW136 := n4_;have GE136 := n5_;have NB126_136 := n6_;have NB136_126 := n7_;clear n0_ n1_ n2_ n3_ n4_ n5_ n6_ n7_;clear hb hbox hg;have hnb48 := NB136_126.out;have hnc48 := NB126_136.out;have hcz49_0 : w47.cell? ⟨gb136,0,none⟩ = some (.string (⟨#[]⟩ : ByteArray)) := (blk_cell BK136.out 0).trans rfl;have hcz49_1 : w47.cell? ⟨gb136,1,none⟩ = some (.string (⟨#[]⟩ : ByteArray)) := (blk_cell BK136.out 1).trans rfl;have hfz49_0 := blk_frozen BK136.out 0;have hfz49_1 := blk_frozen BK136.out 1))
             have n0_ : Aside0 (Kd.R Kd.string 9 ((w47.setCell ⟨gb136,0,none⟩ (.string (rdOf ByteArray.empty t132 0))).setCell ⟨gb136,1,none⟩ (.string (sj20.extract ((ji27) : Int).toNat sj20.size))) w.heap.size (fun _ => True) (.slice (some ad135) t132.length co46) t132) := ⟨by (with_reducible repeat (first|apply Kd.R_alloc|apply Kd.R_drewN|apply Kd.R_drew));exact Kd.R_mono (Kd.R_far (p := ⟨gb136,1,none⟩) (Kd.R_far (p := ⟨gb136,0,none⟩) (Kd.R_types HO134.out BK136.out (by decide)) (fun _ hk => hk.2) (.string (rdOf ByteArray.empty t132 0))) (fun _ hk => hk.2) (.string (sj20.extract ((ji27) : Int).toNat sj20.size))) (fun _ hk => trivial)⟩
             have n1_ : Aside0 (((w47.setCell ⟨gb136,0,none⟩ (.string (rdOf ByteArray.empty t132 0))).setCell ⟨gb136,1,none⟩ (.string (sj20.extract ((ji27) : Int).toNat sj20.size))).heap[gb126]? = some (.cells #[.string (⟨#[]⟩ : ByteArray),.string (⟨#[]⟩ : ByteArray)] 27 (0,0))) := ⟨by (with_reducible repeat (first|refine bN ?_ _|refine bD ?_|refine bA ?_ _));refine blk_far ?_ NB126_136.out _;(with_reducible repeat (first|refine bN ?_ _|refine bD ?_|refine bA ?_ _));refine blk_far ?_ NB126_136.out _;(with_reducible repeat (first|refine bN ?_ _|refine bD ?_|refine bA ?_ _));exact BK126.out⟩
             have n2_ : Aside0 (((w47.setCell ⟨gb136,0,none⟩ (.string (rdOf ByteArray.empty t132 0))).setCell ⟨gb136,1,none⟩ (.string (sj20.extract ((ji27) : Int).toNat sj20.size))).heap[gb136]? = some (.cells #[.string (rdOf ByteArray.empty t132 0),.string (sj20.extract ((ji27) : Int).toNat sj20.size)] 27 (0,0))) := ⟨by (with_reducible repeat (first|refine bN ?_ _|refine bD ?_|refine bA ?_ _));refine blk_put (cs := #[.string (rdOf ByteArray.empty t132 0),.string (⟨#[]⟩ : ByteArray)]) ?_ 1 _ rfl;(with_reducible repeat (first|refine bN ?_ _|refine bD ?_|refine bA ?_ _));refine blk_put (cs := #[.string (⟨#[]⟩ : ByteArray),.string (⟨#[]⟩ : ByteArray)]) ?_ 0 _ rfl;(with_reducible repeat (first|refine bN ?_ _|refine bD ?_|refine bA ?_ _));exact BK136.out⟩
             have n3_ : Aside0 (Below w.heap.size w ((w47.setCell ⟨gb136,0,none⟩ (.string (rdOf ByteArray.empty t132 0))).setCell ⟨gb136,1,none⟩ (.string (sj20.extract ((ji27) : Int).toNat sj20.size)))) := ⟨by repeat (first|(with_reducible first|exact HB.out|apply lA|apply lN|apply lD|refine below_set ?_ GE126.out|refine below_set ?_ GE136.out)|exact HB.out)⟩
             (try clear HO134)
             (try clear BK126)
             (try clear BK136)
             (try clear HB)
             generalize ((w47.setCell ⟨gb136,0,none⟩ (.string (rdOf ByteArray.empty t132 0))).setCell ⟨gb136,1,none⟩ (.string (sj20.extract ((ji27) : Int).toNat sj20.size))) = w50 at n0_ n1_ n2_ n3_ ⊢
             have HO134 := n0_
             have BK126 := n1_
             have BK136 := n2_
             have HB := n3_
             clear n0_ n1_ n2_ n3_
             have n0_ := Aside0.mk (Kd.R_drew HO134.out)
             have n1_ := Aside0.mk (bD BK126.out)
             have n2_ := Aside0.mk (bD BK136.out)
             have n3_ := Aside0.mk (lD HB.out)
             clear HO134
             clear BK126
             clear BK136
             clear HB
             have HO134 := n0_
             have BK126 := n1_
             have BK136 := n2_
             have HB := n3_
             clear n0_ n1_ n2_ n3_
             refine start_ (n := 13) (S := fun w' => w'.cell? ⟨gb136,0,none⟩ = some (.string (rdOf ByteArray.empty t132 0)) ∧ w'.cell? ⟨gb136,1,none⟩ = some (.string (sj20.extract ((ji27) : Int).toNat sj20.size))) (ds := []) #[false,false,false,false,false,false,false,false,false,false,false,false,false] (by kernel_rfl) rfl rfl ⟨(blk_cell BK136.out 0).trans rfl,(blk_cell BK136.out 1).trans rfl⟩ (fun hHeld => ?_);refine with_tabW spec_l26Read.tab10 spec_l26Read.bits10 (fun HT_ HW_ => ?_)
             generalize w50.drew = w51 at HO134 BK126 BK136 HB hHeld ⊢
             refine take_ (i := 0) (N := some 53) (v := ?_) (a' := ?_) #[true,false,false,false,false,false,false,false,false,false,false,false,false] rfl rfl (take_ofW HT_.out HW_.out (by kernel_rfl)) (fun _ _ _ h => h) (Or.inl ⟨by rfl,?_⟩) hHeld ?_ ?_
             rotate_left
             ·rintro w' ⟨s0,s1⟩
              go_simp
              with_reducible rfl
             rotate_left
             ·simp only [Act.put,List.setIfInBounds_toArray,List.set_cons_zero,List.set_cons_succ,i64_w,i32_w]
              rfl
             refine take_ (i := 1) (N := some 54) (v := ?_) (a' := ?_) #[true,true,false,false,false,false,false,false,false,false,false,false,false] rfl rfl (take_ofW HT_.out HW_.out (by kernel_rfl)) (fun _ _ _ h => h) (Or.inl ⟨by rfl,?_⟩) hHeld ?_ ?_
             rotate_left
             ·rintro w' ⟨s0,s1⟩
              go_simp
              with_reducible rfl
             rotate_left
             ·simp only [Act.put,List.setIfInBounds_toArray,List.set_cons_zero,List.set_cons_succ,i64_w,i32_w]
              rfl
             refine one_ (i := 2) (N := some 55) #[true,true,true,false,false,false,false,false,false,false,false,false,false] rfl rfl (one_of HT_.out (by kernel_rfl)) (by decide) (fun K hK => ?_)
             refine goes_ Tryd.func43 (by kernel_rfl) rfl #[.agg #[.string (rdOf ByteArray.empty t132 0),.string (sj20.extract ((ji27) : Int).toNat sj20.size)]] (by rfl) rfl rfl (by (try simp only [List.map_toArray,List.map_cons,List.map_nil]);first|done|(simp only [hji27];rfl)|rfl|(simp only [List.length_drop,List.length_take];rfl)) ?_
             with_reducible refine (spec_l26Good.calls kj7 (rdOf ByteArray.empty t132 0) (sj20.extract ((ji27) : Int).toNat sj20.size) false _ A30.out).mono ?_
             rintro e w52 ⟨rfl,hb⟩
             refine ⟨_,rfl,?_⟩
             have n0_ := Aside0.mk (Kd.R_below (by (with_reducible repeat (first|apply Kd.R_alloc|apply Kd.R_drewN|apply Kd.R_drew));exact HO134.out) hb)
             have n1_ := Aside0.mk (blk_below (g := gb126) (o := .cells #[.string (⟨#[]⟩ : ByteArray),.string (⟨#[]⟩ : ByteArray)] 27 (0,0)) (by (with_reducible repeat (first|refine bN ?_ _|refine bD ?_|refine bA ?_ _));exact BK126.out) hb)
             have n2_ := Aside0.mk (blk_below (g := gb136) (o := .cells #[.string (rdOf ByteArray.empty t132 0),.string (sj20.extract ((ji27) : Int).toNat sj20.size)] 27 (0,0)) (by (with_reducible repeat (first|refine bN ?_ _|refine bD ?_|refine bA ?_ _));exact BK136.out) hb)
             have n3_ := Aside0.mk (below_step (by repeat (first|(with_reducible first|exact HB.out|apply lA|apply lN|apply lD|refine below_set ?_ GE126.out|refine below_set ?_ GE136.out)|exact HB.out)) hb)
             clear HO134
             clear BK126
             clear BK136
             clear HB
             have HO134 := n0_
             have BK126 := n1_
             have BK136 := n2_
             have HB := n3_
             clear n0_ n1_ n2_ n3_
             (try clear hb)
             (try clear hb2)
             (try clear hk)
             (try clear hi)
             refine hK.out _ _ ⟨(blk_cell BK136.out 0).trans rfl,(blk_cell BK136.out 1).trans rfl⟩ (fun hHeld => ?_)
             clear hK K
             refine norm_ (a' := ?_) ?_ ?_
             rotate_left
             ·show Act.put _ (some 55) _ = _
              simp only [Act.put,List.setIfInBounds_toArray,List.set_cons_zero,List.set_cons_succ,i64_w,i32_w]
              rfl
             refine pure_ (i := 3) (N := some 56) (v := ?_) (a' := ?_) #[true,true,true,true,false,false,false,false,false,false,false,false,false] rfl rfl (any_of HT_.out (by kernel_rfl)) (fun _ _ _ h => h) (Or.inl ⟨by rfl,?_⟩) ?_ ?_
             rotate_left
             ·intro w'
              go_simp
              with_reducible rfl
             rotate_left
             ·simp only [Act.put,List.setIfInBounds_toArray,List.set_cons_zero,List.set_cons_succ,i64_w,i32_w]
              rfl
             refine pure_ (i := 4) (N := some 57) (v := undef) (a' := ?_) #[true,true,true,true,true,false,false,false,false,false,false,false,false] rfl rfl (any_of HT_.out (by kernel_rfl)) (fun _ _ _ h => h) (Or.inr ⟨by rfl,rfl⟩) ?_ ?_
             rotate_left
             ·simp only [Act.put,List.setIfInBounds_toArray,List.set_cons_zero,List.set_cons_succ,i64_w,i32_w]
              rfl
             refine pure_ (i := 5) (N := some 58) (v := undef) (a' := ?_) #[true,true,true,true,true,true,false,false,false,false,false,false,false] rfl rfl (any_of HT_.out (by kernel_rfl)) (fun _ _ _ h => h) (Or.inr ⟨by rfl,rfl⟩) ?_ ?_
             rotate_left
             ·simp only [Act.put,List.setIfInBounds_toArray,List.set_cons_zero,List.set_cons_succ,i64_w,i32_w]
              rfl
             refine pure_ (i := 6) (N := some 59) (v := undef) (a' := ?_) #[true,true,true,true,true,true,true,false,false,false,false,false,false] rfl rfl (any_of HT_.out (by kernel_rfl)) (fun _ _ _ h => h) (Or.inr ⟨by rfl,rfl⟩) ?_ ?_
             rotate_left
             ·simp only [Act.put,List.setIfInBounds_toArray,List.set_cons_zero,List.set_cons_succ,i64_w,i32_w]
              rfl
             refine pure_ (i := 7) (N := some 60) (v := undef) (a' := ?_) #[true,true,true,true,true,true,true,true,false,false,false,false,false] rfl rfl (any_of HT_.out (by kernel_rfl)) (fun _ _ _ h => h) (Or.inr ⟨by rfl,rfl⟩) ?_ ?_
             rotate_left
             ·simp only [Act.put,List.setIfInBounds_toArray,List.set_cons_zero,List.set_cons_succ,i64_w,i32_w]
              rfl
             refine pure_ (i := 8) (N := some 61) (v := undef) (a' := ?_) #[true,true,true,true,true,true,true,true,true,false,false,false,false] rfl rfl (any_of HT_.out (by kernel_rfl)) (fun _ _ _ h => h) (Or.inr ⟨by rfl,rfl⟩) ?_ ?_
             rotate_left
             ·simp only [Act.put,List.setIfInBounds_toArray,List.set_cons_zero,List.set_cons_succ,i64_w,i32_w]
              rfl
             refine pure_ (i := 9) (N := some 62) (v := undef) (a' := ?_) #[true,true,true,true,true,true,true,true,true,true,false,false,false] rfl rfl (any_of HT_.out (by kernel_rfl)) (fun _ _ _ h => h) (Or.inr ⟨by rfl,rfl⟩) ?_ ?_
             rotate_left
             ·simp only [Act.put,List.setIfInBounds_toArray,List.set_cons_zero,List.set_cons_succ,i64_w,i32_w]
              rfl
             refine pure_ (i := 10) (N := some 63) (v := ?_) (a' := ?_) #[true,true,true,true,true,true,true,true,true,true,true,false,false] rfl rfl (any_of HT_.out (by kernel_rfl)) (fun _ _ _ h => h) (Or.inl ⟨by rfl,?_⟩) ?_ ?_
             rotate_left
             ·intro w'
              go_simp
              with_reducible rfl
             rotate_left
             ·simp only [Act.put,List.setIfInBounds_toArray,List.set_cons_zero,List.set_cons_succ,i64_w,i32_w]
              rfl
             refine one_ (i := 11) (N := none) #[true,true,true,true,true,true,true,true,true,true,true,true,false] rfl rfl (one_of HT_.out (by kernel_rfl)) (by decide) (fun K hK => ?_)
             have hs53 : w52.cell? ⟨gb126,0,none⟩ = some (.string (⟨#[]⟩ : ByteArray)) := (blk_cell BK126.out 0).trans rfl
             have hfs53 := blk_frozen BK126.out 0
             have hns53_1 := NB136_126.out
             have hms53_1 := NB126_136.out
             have hs54 : w52.cell? ⟨gb126,1,none⟩ = some (.string (⟨#[]⟩ : ByteArray)) := (blk_cell BK126.out 1).trans rfl
             have hfs54 := blk_frozen BK126.out 1
             have hns54_1 := NB136_126.out
             have hms54_1 := NB126_136.out
             refine skip_ (w1 := ?_) (by rfl) rfl ?_ ?_
             rotate_left
             ·go_simp
              rfl
             refine hK.out _ _ ⟨((cell_far (p := ⟨gb126,_,none⟩) NB136_126.out _).trans (((cell_far (p := ⟨gb126,_,none⟩) NB136_126.out _).trans (hHeld.1)))),((cell_far (p := ⟨gb126,_,none⟩) NB136_126.out _).trans (((cell_far (p := ⟨gb126,_,none⟩) NB136_126.out _).trans (hHeld.2))))⟩ (fun hHeld => ?_)
             clear hK K
             refine pure_ (i := 12) (N := some 5) (v := ?_) (a' := ?_) #[true,true,true,true,true,true,true,true,true,true,true,true,true] rfl rfl (any_of HT_.out (by kernel_rfl)) (fun _ _ _ h => h) (Or.inl ⟨by rfl,?_⟩) ?_ ?_
             rotate_left
             ·intro w'
              go_simp
              with_reducible rfl
             rotate_left
             ·simp only [Act.put,List.setIfInBounds_toArray,List.set_cons_zero,List.set_cons_succ,i64_w,i32_w]
              rfl
             refine done_ (done_of HT_.out (by kernel_rfl)) ?_
             try go_wp2
             refine bodyPost_ret (results_ct rfl _ _ gb126 27 #[.string (rdOf ByteArray.empty t132 0),.string (sj20.extract ((ji27) : Int).toNat sj20.size)] (0,0) _ rfl (by (with_reducible repeat (first|refine bN ?_ _|refine bD ?_|refine bA ?_ _));refine blk_put (cs := #[.string (rdOf ByteArray.empty t132 0),.string (⟨#[]⟩ : ByteArray)]) ?_ 1 _ rfl;(with_reducible repeat (first|refine bN ?_ _|refine bD ?_|refine bA ?_ _));refine blk_put (cs := #[.string (⟨#[]⟩ : ByteArray),.string (⟨#[]⟩ : ByteArray)]) ?_ 0 _ rfl;(with_reducible repeat (first|refine bN ?_ _|refine bD ?_|refine bA ?_ _));exact BK126.out) Tryd.underlying27 rfl (by kernel_rfl)) rfl ?_
             exact ⟨by first|rfl|(simp [errW_none,errW_some] <;> rfl)|(simp only [← hsj5,← hsj20,← hji27];first|rfl|(simp [errW_none,errW_some] <;> rfl))|(simp [*,errW_none,errW_some] <;> rfl),by repeat (first|(with_reducible first|exact HB.out|apply lA|apply lN|apply lD|refine below_set ?_ GE126.out|refine below_set ?_ GE136.out)|exact HB.out)⟩
           ·rw [if_neg c29] at H
            exact absurd H (by simp)
          ·rw [if_neg c28] at H
           exact absurd H (by simp)
        ·rw [if_neg c22] at H
         exact absurd H (by simp)
       ·rw [if_neg c19] at H
        exact absurd H (by simp)
      ·rw [if_neg c18] at H
       exact absurd H (by simp)
  ·rw [if_neg c7] at H
   exact absurd H (by simp)
 ·rw [if_neg c4] at H
  exact absurd H (by simp)
mutual
def spec_l26Open.l0 : Nat → ByteArray → List (S27) → Int → Option ((List (S27)) × Int)
 | 0,_,_,_ => none
 | k + 1,x0,x4,x5 => if x5 < (x0.size : Int) then (spec_l26Open.j1 k x0 x4 x5 (decide ((x4.length : Int) < 60))) else (spec_l26Open.j1 k x0 x4 x5 false)
def spec_l26Open.j1 : Nat → ByteArray → List (S27) → Int → Bool → Option ((List (S27)) × Int)
 | 0,_,_,_,_ => none
 | k + 1,x0,x4,x5,x18 => if x18 = true then (if 0 ≤ x5 then (if x5 ≤ (x0.size : Int) then ((spec_l1Split.f k (x0.extract (x5 : Int).toNat x0.size) 10).bind fun t142 => (if 0 < (t142.length : Int) then ((spec_l26Read.f k (rdOf ByteArray.empty t142 0) (x4.length : Int)).bind fun bt146 => (if (t142.length : Int) < 2 then (some (x4,x5)) else (if bt146.2.2 = true then (if x4.length < 4398046511104 then (spec_l26Open.l0 k x0 (x4 ++ [(⟨bt146.1,bt146.2.1⟩ : S27)]) (wrap64 ((wrap64 (x5 + ((rdOf ByteArray.empty t142 0).size : Int))) + 1))) else (none)) else (some (x4,x5))))) else (none))) else (none)) else (none)) else (some (x4,x5))
end
def spec_l26Open.f (k : Nat) (a0 : ByteArray) : Option ((List (S27)) × Int) := spec_l26Open.l0 k a0 (([] : List (S27))) 0
theorem spec_l26Open.mono_l : ∀ k,(∀ y0 y1 y2,LeO (spec_l26Open.l0 k y0 y1 y2) (spec_l26Open.l0 (k + 1) y0 y1 y2)) ∧ (∀ y0 y1 y2 y3,LeO (spec_l26Open.j1 k y0 y1 y2 y3) (spec_l26Open.j1 (k + 1) y0 y1 y2 y3))
 | 0 => ⟨fun _ _ _ r h => by simp [spec_l26Open.l0] at h,fun _ _ _ _ r h => by simp [spec_l26Open.j1] at h⟩
 | k + 1 => by
  obtain ⟨ih0,ih1⟩ := spec_l26Open.mono_l k
  refine ⟨?_,?_⟩
  ·intro y0 y1 y2
   unfold spec_l26Open.l0
   repeat' first
   | (with_reducible exact ih0 _ _ _)
   | (with_reducible exact ih1 _ _ _ _)
   | (with_reducible exact spec_l1Split.mono _ _ _)
   | (with_reducible exact spec_l26Read.mono _ _ _)
   | (with_reducible exact LeO.refl _)
   | (with_reducible exact LeO.none _)
   | (with_reducible refine LeO.ite ?_ ?_)
   | (with_reducible refine LeO.bind ?_ (fun _ => ?_))
   | exact ih0 _ _ _
   | exact ih1 _ _ _ _
   | exact spec_l1Split.mono _ _ _
   | exact spec_l26Read.mono _ _ _
   | exact LeO.none _
   | refine LeO.ite ?_ ?_
   | refine LeO.bind ?_ (fun _ => ?_)
  ·intro y0 y1 y2 y3
   unfold spec_l26Open.j1
   repeat' first
   | (with_reducible exact ih0 _ _ _)
   | (with_reducible exact ih1 _ _ _ _)
   | (with_reducible exact spec_l1Split.mono _ _ _)
   | (with_reducible exact spec_l26Read.mono _ _ _)
   | (with_reducible exact LeO.refl _)
   | (with_reducible exact LeO.none _)
   | (with_reducible refine LeO.ite ?_ ?_)
   | (with_reducible refine LeO.bind ?_ (fun _ => ?_))
   | exact ih0 _ _ _
   | exact ih1 _ _ _ _
   | exact spec_l1Split.mono _ _ _
   | exact spec_l26Read.mono _ _ _
   | exact LeO.none _
   | refine LeO.ite ?_ ?_
   | refine LeO.bind ?_ (fun _ => ?_)
theorem spec_l26Open.mono : ∀ a0 k,LeO (spec_l26Open.f k a0) (spec_l26Open.f (k + 1) a0) := by
 intro a0 k
 obtain ⟨ih0,ih1⟩ := spec_l26Open.mono_l k
 unfold spec_l26Open.f
 repeat' first
   | (with_reducible exact ih0 _ _ _)
   | (with_reducible exact ih1 _ _ _ _)
   | (with_reducible exact spec_l1Split.mono _ _ _)
   | (with_reducible exact spec_l26Read.mono _ _ _)
   | (with_reducible exact LeO.refl _)
   | (with_reducible exact LeO.none _)
   | (with_reducible refine LeO.ite ?_ ?_)
   | (with_reducible refine LeO.bind ?_ (fun _ => ?_))
   | exact ih0 _ _ _
   | exact ih1 _ _ _ _
   | exact spec_l1Split.mono _ _ _
   | exact spec_l26Read.mono _ _ _
   | exact LeO.none _
   | refine LeO.ite ?_ ?_
   | refine LeO.bind ?_ (fun _ => ?_)
set_option maxHeartbeats 8000000 in
set_option maxRecDepth 100000 in
theorem spec_l26Open.calls (k : Nat) (a0 : ByteArray) (r1 : List (S27)) (r2 : Int) (w : World) (h : spec_l26Open.f k a0 = some (r1,r2)) :
  Calls Tryd.prog 47 #[.string a0] w fun e w' => ∃ v0_ : Value,e = .returned (.tuple #[v0_,.int .i64 r2]) ∧ Kd.R k27 27 w' w.heap.size (fun _ => True) v0_ r1 ∧ Below w.heap.size w w' := by
 have hu27 := Tryd.underlying27
 have HB := Aside0.mk (Below.refl w.heap.size w)
 have H : (spec_l26Open.l0 k a0 (([] : List (S27))) 0) = some (r1,r2) := h
 clear h
 obtain ⟨y139,hy139⟩ : ∃ y_ : List (S27),y_ = (([] : List (S27))) := ⟨_,rfl⟩
 replace H : (spec_l26Open.l0 k a0 y139 0) = some (r1,r2) := by first|(rw [hy139];with_reducible exact H)|(have H2_ := (Option.bind_some _ _).symm.trans H;rw [hy139];with_reducible exact H2_)|(have H2_ := (Option.bind_some _ _).symm.trans H;with_reducible exact H2_)|with_reducible exact H|(rw [hy139];exact H)|exact H
 have Ny139 := Aside0.mk hy139
 clear hy139
 have H' := Aside0.mk H
 clear H
 go_enter Tryd.func47,Tryd.ntmps47
 go_wp2_with (first|((with_reducible refine gate_dst (N := 9) rfl ?_);(try (refine gate_guard (by rfl) ?_;dsimp only));refine Kd.R_lit k27 _ 27 ?hg (N := 9) ?hd (xs := ([] : List (S27))) (inner := []) (ok := fun _ => True) (okp := fun _ => True) ?hr ?hp (fun _ hk => hk) trivial (Below.refl _ _) (Nat.le_refl _) (by simp) ?_;(case hd => rfl);(case hg => rfl);(case hr => first|(go_simp;done)|(go_simp;rfl));(case hp => exact (Reps.none _ _));intro v140 w2 ho3 hb hg_ hnew_;clear hg_ hnew_;(first|rw [← Ny139.out] at ho3|(simp only [Int.reduceToNat] at ho3;rw [← Ny139.out] at ho3));have n0_ := Aside0.mk (Kd.R_lower ho3 (below_size (by repeat (first|(with_reducible first|exact HB.out|apply lA|apply lN|apply lD)|exact HB.out))));have n1_ := Aside0.mk (below_step (by repeat (first|(with_reducible first|exact HB.out|apply lA|apply lN|apply lD)|exact HB.out)) hb);clear HB;have HO141 := n0_;have HB := n1_;clear n0_ n1_;clear hb ho3))
 go_loopg [4,5] k (fun kq v4 v5 w' => ∃ (x4_1 : List (S27)) (x5_1 : Int),v5 = .int .i64 x5_1 ∧ Aside0 (spec_l26Open.l0 kq a0 x4_1 x5_1 = some (r1,r2)) ∧ Aside0 (kq ≤ k) ∧ Aside0 (Kd.R k27 27 w' w.heap.size (fun _ => True) v4 x4_1) ∧ Aside0 (Below w.heap.size w w'))
 case atStart => exact ⟨(y139),(0),(by first|rfl|(simp;done)|(simp [my_isEmpty];done)|(simp [*];done)),H',⟨Nat.le_refl _⟩,⟨by (with_reducible repeat (first|apply Kd.R_alloc|apply Kd.R_drewN|apply Kd.R_drew));exact HO141.out⟩,⟨by repeat (first|(with_reducible first|exact HB.out|apply lA|apply lN|apply lD)|exact HB.out)⟩⟩
 case round =>
  clear H'
  try clear p2
  obtain ⟨x4_1,x5_1,rfl,HA,HK1,HO_4,HB⟩ := hrel
  cases gk with
  | zero => exact absurd HA.out (by simp [spec_l26Open.l0])
  | succ k1 =>
   have H := HA.out
   clear HA
   simp only [spec_l26Open.l0] at H
   have HC4 := Aside0.mk H
   clear H
   go_upto_region 3 with (fail)
   go_cut [18] (fun v18 wc => ∃ (kq : Nat) (x18_3 : Bool),v18 = .bool x18_3 ∧ Aside0 (spec_l26Open.j1 kq a0 x4_1 x5_1 x18_3 = some (r1,r2)) ∧ Aside0 (kq ≤ k1) ∧ Aside0 (Kd.R k27 27 wc w.heap.size (fun _ => True) u4 x4_1) ∧ Aside0 (Below w.heap.size w wc))
   case first =>
    have H := HC4.out
    clear HC4
    by_cases c5 : x5_1 < (a0.size : Int)
    ·rw [if_pos c5] at H
     have c5b0 : decide (x5_1 < (a0.size : Int)) = true := decide_eq_true c5
     clear c5
     (first|rw [c5b0]|(simp only [i64_w,i32_w];rw [c5b0])|skip)
     have H' := Aside0.mk H
     clear H
     obtain ⟨Ao6,co6,eo6⟩ := Kd.R_slice HO_4.out
     subst eo6
     go_wp2
     go_meet
     case rel => exact ⟨_,(decide ((x4_1.length : Int) < 60)),(by first|rfl|(simp;done)|(simp [my_isEmpty];done)|(simp [*];done)),H',⟨by have := HK1.out;first|omega|exact Nat.le_refl _⟩,⟨by (with_reducible repeat (first|apply Kd.R_alloc|apply Kd.R_drewN|apply Kd.R_drew));exact HO_4.out⟩,⟨by repeat (first|(with_reducible first|exact HB.out|apply lA|apply lN|apply lD)|exact HB.out)⟩⟩
    ·rw [if_neg c5] at H
     have c5b0 : decide (x5_1 < (a0.size : Int)) = false := decide_eq_false c5
     clear c5
     (first|rw [c5b0]|(simp only [i64_w,i32_w];rw [c5b0])|skip)
     have H' := Aside0.mk H
     clear H
     go_wp2
     go_meet
     case rel => exact ⟨_,(false),(by first|rfl|(simp;done)|(simp [my_isEmpty];done)|(simp [*];done)),H',⟨by have := HK1.out;first|omega|exact Nat.le_refl _⟩,⟨by (with_reducible repeat (first|apply Kd.R_alloc|apply Kd.R_drewN|apply Kd.R_drew));exact HO_4.out⟩,⟨by repeat (first|(with_reducible first|exact HB.out|apply lA|apply lN|apply lD)|exact HB.out)⟩⟩
   case rest =>
    clear HC4
    try clear p2
    try clear c4
    try clear c5
    try clear c5b0
    try clear p2
    obtain ⟨kq,x18_3,rfl,HA,HJ3,HO_4,HB⟩ := hcut
    cases kq with
    | zero => exact absurd HA.out (by simp [spec_l26Open.j1])
    | succ kj3 =>
     have H := HA.out
     clear HA
     simp only [spec_l26Open.j1] at H
     by_cases c7 : x18_3 = true
     ·subst c7
      have H1 : (if 0 ≤ x5_1 then (if x5_1 ≤ (a0.size : Int) then ((spec_l1Split.f kj3 (a0.extract (x5_1 : Int).toNat a0.size) 10).bind fun t142 => (if 0 < (t142.length : Int) then ((spec_l26Read.f kj3 (rdOf ByteArray.empty t142 0) (x4_1.length : Int)).bind fun bt146 => (if (t142.length : Int) < 2 then (some (x4_1,x5_1)) else (if bt146.2.2 = true then (if x4_1.length < 4398046511104 then (spec_l26Open.l0 kj3 a0 (x4_1 ++ [(⟨bt146.1,bt146.2.1⟩ : S27)]) (wrap64 ((wrap64 (x5_1 + ((rdOf ByteArray.empty t142 0).size : Int))) + 1))) else (none)) else (some (x4_1,x5_1))))) else (none))) else (none)) else (none)) = some (r1,r2) := by rw [if_pos rfl] at H;exact H
      clear H
      have H := H1
      clear H1
      by_cases c8 : 0 ≤ x5_1
      ·rw [if_pos c8] at H
       have c8b0 := eq_true c8
       have c8b1 : decide (0 ≤ x5_1) = true := decide_eq_true c8
       clear c8
       by_cases c9 : x5_1 ≤ (a0.size : Int)
       ·rw [if_pos c9] at H
        have c9b0 := eq_true c9
        have c9b1 : decide (x5_1 ≤ (a0.size : Int)) = true := decide_eq_true c9
        clear c9
        replace H := Option.bind_eq_some_iff.mp H
        obtain ⟨t142,A100,H⟩ := H
        replace H : (if 0 < (t142.length : Int) then ((spec_l26Read.f kj3 (rdOf ByteArray.empty t142 0) (x4_1.length : Int)).bind fun bt146 => (if (t142.length : Int) < 2 then (some (x4_1,x5_1)) else (if bt146.2.2 = true then (if x4_1.length < 4398046511104 then (spec_l26Open.l0 kj3 a0 (x4_1 ++ [(⟨bt146.1,bt146.2.1⟩ : S27)]) (wrap64 ((wrap64 (x5_1 + ((rdOf ByteArray.empty t142 0).size : Int))) + 1))) else (none)) else (some (x4_1,x5_1))))) else (none)) = some (r1,r2) := H
        have A10 := Aside0.mk A100
        clear A100
        by_cases c11 : 0 < (t142.length : Int)
        ·rw [if_pos c11] at H
         have c11b0 : decide (0 < (t142.length : Int)) = true := decide_eq_true c11
         have c11b1 : decide (0 < t142.length) = true := decide_eq_true (by omega)
         clear c11
         replace H := Option.bind_eq_some_iff.mp H
         obtain ⟨⟨t146,t147,t148⟩,A120,H⟩ := H
         replace H : (if (t142.length : Int) < 2 then (some (x4_1,x5_1)) else (if t148 = true then (if x4_1.length < 4398046511104 then (spec_l26Open.l0 kj3 a0 (x4_1 ++ [(⟨t146,t147⟩ : S27)]) (wrap64 ((wrap64 (x5_1 + ((rdOf ByteArray.empty t142 0).size : Int))) + 1))) else (none)) else (some (x4_1,x5_1)))) = some (r1,r2) := H
         have A12 := Aside0.mk A120
         clear A120
         by_cases c13 : (t142.length : Int) < 2
         ·rw [if_pos c13] at H
          have c13b0 : decide ((t142.length : Int) < 2) = true := decide_eq_true c13
          have c13b1 : decide (t142.length < 2) = true := decide_eq_true (by omega)
          clear c13
          simp only [Option.some.injEq,Prod.mk.injEq] at H
          obtain ⟨rfl,rfl⟩ := H
          go_wp2_with (first|((with_reducible refine gate_callee (f := 67) rfl ?_);refine goesL_ (some 22) rfl rfl Tryd.func67 (by kernel_rfl) rfl #[.string (a0.extract (x5_1 : Int).toNat a0.size),.int .u8 10] rfl (by (try simp only [List.map_toArray,List.map_cons,List.map_nil]);first|done|rfl|(simp only [List.length_drop,List.length_take];rfl)) ?_;(with_reducible refine (spec_l1Split.calls kj3 (a0.extract (x5_1 : Int).toNat a0.size) 10 t142 _ A10.out).mono ?_);rintro e w14 ⟨v143,rfl,ho0,hb⟩;refine ⟨_,rfl,?_⟩;have n0_ := Aside0.mk (Kd.R_below (by (with_reducible repeat (first|apply Kd.R_alloc|apply Kd.R_drewN|apply Kd.R_drew));exact HO_4.out) hb);have n1_ := Aside0.mk (Kd.R_lower ho0 (below_size (by repeat (first|(with_reducible first|exact HB.out|apply lA|apply lN|apply lD)|exact HB.out))));have n2_ := Aside0.mk (below_step (by repeat (first|(with_reducible first|exact HB.out|apply lA|apply lN|apply lD)|exact HB.out)) hb);clear HO_4;clear HB;have HO_4 := n0_;have HO144 := n1_;have HB := n2_;clear n0_ n1_ n2_;(try clear hb);(try clear hb2);(try clear hk);(try clear hi);(try clear ho0);obtain ⟨Ao15,co15,eo15⟩ := Kd.R_slice HO144.out;subst eo15;have p145 : 0 ≤ (0 : Int) := (by omega);have q145 : 0 < (t142.length : Int) := of_decide_eq_true (by first|(with_reducible assumption)|assumption);obtain ⟨ad145,e145,hx145_0⟩ := Kd.at_string (Kd.R_reads' HO144.out).2.2 0 p145 q145;cases e145;have qi145 : (0 < t142.length) = True := eq_true (by omega);(try rw [show ((0 : Int)).toNat = 0 from rfl] at hx145_0);(try rw [Addr.add_zero'] at hx145_0);replace p145 := eq_true p145;replace q145 := eq_true q145;obtain ⟨Ao16,co16,eo16⟩ := Kd.R_slice HO_4.out;subst eo16)|((with_reducible refine gate_callee (f := 68) rfl ?_);refine goesL_ (some 29) rfl rfl Tryd.func68 (by kernel_rfl) rfl #[.string (rdOf ByteArray.empty t142 0),.int .i64 (x4_1.length : Int)] rfl (by (try simp only [List.map_toArray,List.map_cons,List.map_nil]);first|done|rfl|(simp only [List.length_drop,List.length_take];rfl)) ?_;(with_reducible refine (spec_l26Read.calls kj3 (rdOf ByteArray.empty t142 0) (x4_1.length : Int) t146 t147 t148 _ A12.out).mono ?_);rintro e w17 ⟨rfl,hb⟩;refine ⟨_,rfl,?_⟩;have n0_ := Aside0.mk (Kd.R_below (by (with_reducible repeat (first|apply Kd.R_alloc|apply Kd.R_drewN|apply Kd.R_drew));exact HO_4.out) hb);have n1_ := Aside0.mk (Kd.R_below (by (with_reducible repeat (first|apply Kd.R_alloc|apply Kd.R_drewN|apply Kd.R_drew));exact HO144.out) hb);have n2_ := Aside0.mk (below_step (by repeat (first|(with_reducible first|exact HB.out|apply lA|apply lN|apply lD)|exact HB.out)) hb);clear HO_4;clear HO144;clear HB;have HO_4 := n0_;have HO144 := n1_;have HB := n2_;clear n0_ n1_ n2_;(try clear hb);(try clear hb2);(try clear hk);(try clear hi))|((with_reducible refine gate_dst (N := 7) rfl ?_);(try (refine gate_guard (by rfl) ?_;dsimp only));refine box_event ?hg (N := 7) ?hd (cs := #[.string (⟨#[]⟩ : ByteArray),.string (⟨#[]⟩ : ByteArray)]) (t := 27) ?hr ?_;(case hd => rfl);(case hg => rfl);(case hr => first|(go_simp;done)|(go_simp;rfl));intro gb149 hg w18 hbox hb;have n0_ := Aside0.mk (Kd.R_below (Kd.R_elderB (by (with_reducible repeat (first|apply Kd.R_alloc|apply Kd.R_drewN|apply Kd.R_drew));exact HO_4.out) gb149 (Nat.le_of_eq hg.symm)) hb);have n1_ := Aside0.mk (Kd.R_below (by (with_reducible repeat (first|apply Kd.R_alloc|apply Kd.R_drewN|apply Kd.R_drew));exact HO144.out) hb);have n2_ := Aside0.mk (below_step (by repeat (first|(with_reducible first|exact HB.out|apply lA|apply lN|apply lD)|exact HB.out)) hb);have n3_ := Aside0.mk (hbox);have n4_ := Aside0.mk ((by rw [hg];exact (below_size (by repeat (first|(with_reducible first|exact HB.out|apply lA|apply lN|apply lD)|exact HB.out))) : w.heap.size ≤ gb149));have n5_ := Aside0.mk ((by rw [hg];exact (below_size (by repeat (first|(with_reducible first|exact HB.out|apply lA|apply lN|apply lD)|exact HB.out))) : w.heap.size ≤ gb149));clear HO_4;clear HO144;clear HB;have HO_4 := n0_;have HO144 := n1_;have HB := n2_;have BK149 := n3_;have GW149 := n4_;have GE149 := n5_;clear n0_ n1_ n2_ n3_ n4_ n5_;clear hb hbox hg;have hcz19_0 : w18.cell? ⟨gb149,0,none⟩ = some (.string (⟨#[]⟩ : ByteArray)) := (blk_cell BK149.out 0).trans rfl;have hcz19_1 : w18.cell? ⟨gb149,1,none⟩ = some (.string (⟨#[]⟩ : ByteArray)) := (blk_cell BK149.out 1).trans rfl;have hfz19_0 := blk_frozen BK149.out 0;have hfz19_1 := blk_frozen BK149.out 1))
          go_ret2
          exact ⟨_,by first|rfl|(simp [errW_none,errW_some] <;> rfl)|(simp [*,errW_none,errW_some] <;> rfl),by (with_reducible repeat (first|apply Kd.R_alloc|apply Kd.R_drewN|apply Kd.R_drew));exact Kd.R_mono (Kd.R_far (p := ⟨gb149,1,none⟩) (Kd.R_far (p := ⟨gb149,0,none⟩) (Kd.R_mono HO_4.out (fun k_ hk => (⟨hk,hk.2⟩ : _ ∧ k_ ≠ gb149))) (fun _ hk => hk.2) (.string t146)) (fun _ hk => hk.2) (.string t147)) (fun _ hk => trivial),by repeat (first|(with_reducible first|exact HB.out|apply lA|apply lN|apply lD|refine below_set ?_ GE149.out)|exact HB.out)⟩
         ·rw [if_neg c13] at H
          have c13b0 : decide ((t142.length : Int) < 2) = false := decide_eq_false c13
          have c13b1 : decide (t142.length < 2) = false := decide_eq_false (by omega)
          clear c13
          by_cases c20 : t148 = true
          ·subst c20
           have H1 : (if x4_1.length < 4398046511104 then (spec_l26Open.l0 kj3 a0 (x4_1 ++ [(⟨t146,t147⟩ : S27)]) (wrap64 ((wrap64 (x5_1 + ((rdOf ByteArray.empty t142 0).size : Int))) + 1))) else (none)) = some (r1,r2) := by rw [if_pos rfl] at H;exact H
           clear H
           have H := H1
           clear H1
           by_cases c21 : x4_1.length < 4398046511104
           ·rw [if_pos c21] at H
            have LMc21 := Aside0.mk c21
            clear c21
            obtain ⟨y150,hy150⟩ : ∃ y_ : List (S27),y_ = (x4_1 ++ [(⟨t146,t147⟩ : S27)]) := ⟨_,rfl⟩
            replace H : (spec_l26Open.l0 kj3 a0 y150 (wrap64 ((wrap64 (x5_1 + ((rdOf ByteArray.empty t142 0).size : Int))) + 1))) = some (r1,r2) := by first|(rw [hy150];with_reducible exact H)|(have H2_ := (Option.bind_some _ _).symm.trans H;rw [hy150];with_reducible exact H2_)|(have H2_ := (Option.bind_some _ _).symm.trans H;with_reducible exact H2_)|with_reducible exact H|(rw [hy150];exact H)|exact H
            have Ny150 := Aside0.mk hy150
            clear hy150
            have H' := Aside0.mk H
            clear H
            go_wp2_with (first|((with_reducible refine gate_callee (f := 67) rfl ?_);refine goesL_ (some 22) rfl rfl Tryd.func67 (by kernel_rfl) rfl #[.string (a0.extract (x5_1 : Int).toNat a0.size),.int .u8 10] rfl (by (try simp only [List.map_toArray,List.map_cons,List.map_nil]);first|done|rfl|(simp only [List.length_drop,List.length_take];rfl)) ?_;(with_reducible refine (spec_l1Split.calls kj3 (a0.extract (x5_1 : Int).toNat a0.size) 10 t142 _ A10.out).mono ?_);rintro e w22 ⟨v143,rfl,ho0,hb⟩;refine ⟨_,rfl,?_⟩;have n0_ := Aside0.mk (Kd.R_below (by (with_reducible repeat (first|apply Kd.R_alloc|apply Kd.R_drewN|apply Kd.R_drew));exact HO_4.out) hb);have n1_ := Aside0.mk (Kd.R_lower ho0 (below_size (by repeat (first|(with_reducible first|exact HB.out|apply lA|apply lN|apply lD)|exact HB.out))));have n2_ := Aside0.mk (below_step (by repeat (first|(with_reducible first|exact HB.out|apply lA|apply lN|apply lD)|exact HB.out)) hb);clear HO_4;clear HB;have HO_4 := n0_;have HO144 := n1_;have HB := n2_;clear n0_ n1_ n2_;(try clear hb);(try clear hb2);(try clear hk);(try clear hi);(try clear ho0);obtain ⟨Ao23,co23,eo23⟩ := Kd.R_slice HO144.out;subst eo23;have p145 : 0 ≤ (0 : Int) := (by omega);have q145 : 0 < (t142.length : Int) := of_decide_eq_true (by first|(with_reducible assumption)|assumption);obtain ⟨ad145,e145,hx145_0⟩ := Kd.at_string (Kd.R_reads' HO144.out).2.2 0 p145 q145;cases e145;have qi145 : (0 < t142.length) = True := eq_true (by omega);(try rw [show ((0 : Int)).toNat = 0 from rfl] at hx145_0);(try rw [Addr.add_zero'] at hx145_0);replace p145 := eq_true p145;replace q145 := eq_true q145;obtain ⟨Ao24,co24,eo24⟩ := Kd.R_slice HO_4.out;subst eo24)|((with_reducible refine gate_callee (f := 68) rfl ?_);refine goesL_ (some 29) rfl rfl Tryd.func68 (by kernel_rfl) rfl #[.string (rdOf ByteArray.empty t142 0),.int .i64 (x4_1.length : Int)] rfl (by (try simp only [List.map_toArray,List.map_cons,List.map_nil]);first|done|rfl|(simp only [List.length_drop,List.length_take];rfl)) ?_;(with_reducible refine (spec_l26Read.calls kj3 (rdOf ByteArray.empty t142 0) (x4_1.length : Int) t146 t147 true _ A12.out).mono ?_);rintro e w25 ⟨rfl,hb⟩;refine ⟨_,rfl,?_⟩;have n0_ := Aside0.mk (Kd.R_below (by (with_reducible repeat (first|apply Kd.R_alloc|apply Kd.R_drewN|apply Kd.R_drew));exact HO_4.out) hb);have n1_ := Aside0.mk (Kd.R_below (by (with_reducible repeat (first|apply Kd.R_alloc|apply Kd.R_drewN|apply Kd.R_drew));exact HO144.out) hb);have n2_ := Aside0.mk (below_step (by repeat (first|(with_reducible first|exact HB.out|apply lA|apply lN|apply lD)|exact HB.out)) hb);clear HO_4;clear HO144;clear HB;have HO_4 := n0_;have HO144 := n1_;have HB := n2_;clear n0_ n1_ n2_;(try clear hb);(try clear hb2);(try clear hk);(try clear hi))|((with_reducible refine gate_dst (N := 7) rfl ?_);(try (refine gate_guard (by rfl) ?_;dsimp only));refine box_event ?hg (N := 7) ?hd (cs := #[.string (⟨#[]⟩ : ByteArray),.string (⟨#[]⟩ : ByteArray)]) (t := 27) ?hr ?_;(case hd => rfl);(case hg => rfl);(case hr => first|(go_simp;done)|(go_simp;rfl));intro gb149 hg w26 hbox hb;have n0_ := Aside0.mk (Kd.R_below (Kd.R_elderB (by (with_reducible repeat (first|apply Kd.R_alloc|apply Kd.R_drewN|apply Kd.R_drew));exact HO_4.out) gb149 (Nat.le_of_eq hg.symm)) hb);have n1_ := Aside0.mk (Kd.R_below (by (with_reducible repeat (first|apply Kd.R_alloc|apply Kd.R_drewN|apply Kd.R_drew));exact HO144.out) hb);have n2_ := Aside0.mk (below_step (by repeat (first|(with_reducible first|exact HB.out|apply lA|apply lN|apply lD)|exact HB.out)) hb);have n3_ := Aside0.mk (hbox);have n4_ := Aside0.mk ((by rw [hg];exact (below_size (by repeat (first|(with_reducible first|exact HB.out|apply lA|apply lN|apply lD)|exact HB.out))) : w.heap.size ≤ gb149));have n5_ := Aside0.mk ((by rw [hg];exact (below_size (by repeat (first|(with_reducible first|exact HB.out|apply lA|apply lN|apply lD)|exact HB.out))) : w.heap.size ≤ gb149));clear HO_4;clear HO144;clear HB;have HO_4 := n0_;have HO144 := n1_;have HB := n2_;have BK149 := n3_;have GW149 := n4_;have GE149 := n5_;clear n0_ n1_ n2_ n3_ n4_ n5_;clear hb hbox hg;have hcz27_0 : w26.cell? ⟨gb149,0,none⟩ = some (.string (⟨#[]⟩ : ByteArray)) := (blk_cell BK149.out 0).trans rfl;have hcz27_1 : w26.cell? ⟨gb149,1,none⟩ = some (.string (⟨#[]⟩ : ByteArray)) := (blk_cell BK149.out 1).trans rfl;have hfz27_0 := blk_frozen BK149.out 0;have hfz27_1 := blk_frozen BK149.out 1)|((with_reducible refine gate_builtin (b := .append) (xs := #[.tmp 39,.tmp 41]) rfl ?_);(try (refine gate_guard (by rfl) ?_;dsimp only));at_builtin;refine Kd.R_append k27 (w0 := w) w.heap.size rfl (.tmp 39) (.tmp 41) 48 27 (.agg #[(.string ⟨#[]⟩),(.string ⟨#[]⟩)]) 32 rfl Tryd.underlying48 info27 rfl (by decide) (by omega) (.slice Ao24 x4_1.length co24) x4_1 (⟨t146,t147⟩ : S27) [.string t146,.string t147] (fun k_ => k_ ≠ gb149) (fun _ => False) rfl (by first|(go_simp;done)|(go_simp;rfl)) ?aP (fun _ hk => hk.elim) ?aF ?aO ?aB ?aS ?aL ?_;(case aP => exact k27_mkM _ _ _ (⟨t146,t147⟩ : S27));(case aB => exact (by repeat (first|(with_reducible first|exact HB.out|apply lA|apply lN|apply lD|refine below_set ?_ GE149.out)|exact HB.out)));(case aF => exact (fun k_ hk => Kd.freshB (g := gb149) (o := .cells #[.string t146,.string t147] 27 (0,0)) (by (with_reducible repeat (first|refine bN ?_ _|refine bD ?_|refine bA ?_ _));refine blk_put (cs := #[.string t146,.string (⟨#[]⟩ : ByteArray)]) ?_ 1 _ rfl;(with_reducible repeat (first|refine bN ?_ _|refine bD ?_|refine bA ?_ _));refine blk_put (cs := #[.string (⟨#[]⟩ : ByteArray),.string (⟨#[]⟩ : ByteArray)]) ?_ 0 _ rfl;(with_reducible repeat (first|refine bN ?_ _|refine bD ?_|refine bA ?_ _));exact BK149.out) k_ hk));(case aO => exact (by (with_reducible repeat (first|apply Kd.R_alloc|apply Kd.R_drewN|apply Kd.R_drew));exact Kd.R_mono (Kd.R_far (p := ⟨gb149,1,none⟩) (Kd.R_far (p := ⟨gb149,0,none⟩) (Kd.R_mono HO_4.out (fun k_ hk => (⟨hk,hk.2⟩ : _ ∧ k_ ≠ gb149))) (fun _ hk => hk.2) (.string t146)) (fun _ hk => hk.2) (.string t147)) (fun _ hk => hk.1.2)));(case aS => exact (below_size (by repeat (first|(with_reducible first|exact HB.out|apply lA|apply lN|apply lD|refine below_set ?_ GE149.out)|exact HB.out))));(case aL => have := LMc21.out;omega);intro v151 w28 ho hb hg hat;rw [← Ny150.out] at ho;have n0_ := Aside0.mk (Kd.R_over' (by (with_reducible repeat (first|apply Kd.R_alloc|apply Kd.R_drewN|apply Kd.R_drew));exact (Kd.R_mono (Kd.R_far (p := ⟨gb149,1,none⟩) (Kd.R_far (p := ⟨gb149,0,none⟩) (Kd.R_types HO144.out BK149.out (by decide)) (fun _ hk => hk.2) (.string t146)) (fun _ hk => hk.2) (.string t147)) (fun _ h_ => h_.1))) (Kd.R_typed (by (with_reducible repeat (first|apply Kd.R_alloc|apply Kd.R_drewN|apply Kd.R_drew));exact (Kd.R_mono (Kd.R_far (p := ⟨gb149,1,none⟩) (Kd.R_far (p := ⟨gb149,0,none⟩) (Kd.R_mono HO_4.out (fun k_ hk => (⟨hk,hk.2⟩ : _ ∧ k_ ≠ gb149))) (fun _ hk => hk.2) (.string t146)) (fun _ hk => hk.2) (.string t147)) (fun _ h_ => h_.1)))) (by decide) hg);have n1_ := Aside0.mk (blk_grown (g := gb149) (o := .cells #[.string t146,.string t147] 27 (0,0)) (by (with_reducible repeat (first|refine bN ?_ _|refine bD ?_|refine bA ?_ _));refine blk_put (cs := #[.string t146,.string (⟨#[]⟩ : ByteArray)]) ?_ 1 _ rfl;(with_reducible repeat (first|refine bN ?_ _|refine bD ?_|refine bA ?_ _));refine blk_put (cs := #[.string (⟨#[]⟩ : ByteArray),.string (⟨#[]⟩ : ByteArray)]) ?_ 0 _ rfl;(with_reducible repeat (first|refine bN ?_ _|refine bD ?_|refine bA ?_ _));exact BK149.out) hg (Kd.R_away HO_4.out (fun _ hk => hk.2)));have n2_ := Aside0.mk (hb);have n3_ := Aside0.mk (ho);clear HO144;clear BK149;clear HB;clear HO_4;have HO144 := n0_;have BK149 := n1_;have HB := n2_;have HO152 := n3_;clear n0_ n1_ n2_ n3_;clear ho hb hg hat;have p153 : 0 ≤ (0 : Int) := (by omega);have q153 : 0 < (t142.length : Int) := of_decide_eq_true (by first|(with_reducible assumption)|assumption);obtain ⟨ad153,e153,hx153_0⟩ := Kd.at_string (Kd.R_reads' HO144.out).2.2 0 p153 q153;obtain rfl : ad145 = ad153 := (by injection e153);have qi153 : (0 < t142.length) = True := eq_true (by omega);(try rw [show ((0 : Int)).toNat = 0 from rfl] at hx153_0);(try rw [Addr.add_zero'] at hx153_0);replace p153 := eq_true p153;replace q153 := eq_true q153))
            go_roundg kj3
            case measure => have := HK1.out;have := HJ3.out;omega
            case rel => exact ⟨(y150),(wrap64 ((wrap64 (x5_1 + ((rdOf ByteArray.empty t142 0).size : Int))) + 1)),(by first|rfl|(simp;done)|(simp [my_isEmpty];done)|(simp [*];done)),H',⟨by have := HK1.out;have := HJ3.out;omega⟩,⟨by (with_reducible repeat (first|apply Kd.R_alloc|apply Kd.R_drewN|apply Kd.R_drew));exact Kd.R_mono HO152.out (fun _ hk => trivial)⟩,⟨by repeat (first|(with_reducible first|exact HB.out|apply lA|apply lN|apply lD|refine below_set ?_ GE149.out)|exact HB.out)⟩⟩
           ·rw [if_neg c21] at H
            exact absurd H (by simp)
          ·replace c20 := Bool.eq_false_iff.mpr c20
           subst c20
           have H1 : (some (x4_1,x5_1)) = some (r1,r2) := by rw [if_neg (show ¬ (false = true) by decide)] at H;exact H
           clear H
           have H := H1
           clear H1
           simp only [Option.some.injEq,Prod.mk.injEq] at H
           obtain ⟨rfl,rfl⟩ := H
           go_wp2_with (first|((with_reducible refine gate_callee (f := 67) rfl ?_);refine goesL_ (some 22) rfl rfl Tryd.func67 (by kernel_rfl) rfl #[.string (a0.extract (x5_1 : Int).toNat a0.size),.int .u8 10] rfl (by (try simp only [List.map_toArray,List.map_cons,List.map_nil]);first|done|rfl|(simp only [List.length_drop,List.length_take];rfl)) ?_;(with_reducible refine (spec_l1Split.calls kj3 (a0.extract (x5_1 : Int).toNat a0.size) 10 t142 _ A10.out).mono ?_);rintro e w29 ⟨v143,rfl,ho0,hb⟩;refine ⟨_,rfl,?_⟩;have n0_ := Aside0.mk (Kd.R_below (by (with_reducible repeat (first|apply Kd.R_alloc|apply Kd.R_drewN|apply Kd.R_drew));exact HO_4.out) hb);have n1_ := Aside0.mk (Kd.R_lower ho0 (below_size (by repeat (first|(with_reducible first|exact HB.out|apply lA|apply lN|apply lD)|exact HB.out))));have n2_ := Aside0.mk (below_step (by repeat (first|(with_reducible first|exact HB.out|apply lA|apply lN|apply lD)|exact HB.out)) hb);clear HO_4;clear HB;have HO_4 := n0_;have HO144 := n1_;have HB := n2_;clear n0_ n1_ n2_;(try clear hb);(try clear hb2);(try clear hk);(try clear hi);(try clear ho0);obtain ⟨Ao30,co30,eo30⟩ := Kd.R_slice HO144.out;subst eo30;have p145 : 0 ≤ (0 : Int) := (by omega);have q145 : 0 < (t142.length : Int) := of_decide_eq_true (by first|(with_reducible assumption)|assumption);obtain ⟨ad145,e145,hx145_0⟩ := Kd.at_string (Kd.R_reads' HO144.out).2.2 0 p145 q145;cases e145;have qi145 : (0 < t142.length) = True := eq_true (by omega);(try rw [show ((0 : Int)).toNat = 0 from rfl] at hx145_0);(try rw [Addr.add_zero'] at hx145_0);replace p145 := eq_true p145;replace q145 := eq_true q145;obtain ⟨Ao31,co31,eo31⟩ := Kd.R_slice HO_4.out;subst eo31)|((with_reducible refine gate_callee (f := 68) rfl ?_);refine goesL_ (some 29) rfl rfl Tryd.func68 (by kernel_rfl) rfl #[.string (rdOf ByteArray.empty t142 0),.int .i64 (x4_1.length : Int)] rfl (by (try simp only [List.map_toArray,List.map_cons,List.map_nil]);first|done|rfl|(simp only [List.length_drop,List.length_take];rfl)) ?_;(with_reducible refine (spec_l26Read.calls kj3 (rdOf ByteArray.empty t142 0) (x4_1.length : Int) t146 t147 false _ A12.out).mono ?_);rintro e w32 ⟨rfl,hb⟩;refine ⟨_,rfl,?_⟩;have n0_ := Aside0.mk (Kd.R_below (by (with_reducible repeat (first|apply Kd.R_alloc|apply Kd.R_drewN|apply Kd.R_drew));exact HO_4.out) hb);have n1_ := Aside0.mk (Kd.R_below (by (with_reducible repeat (first|apply Kd.R_alloc|apply Kd.R_drewN|apply Kd.R_drew));exact HO144.out) hb);have n2_ := Aside0.mk (below_step (by repeat (first|(with_reducible first|exact HB.out|apply lA|apply lN|apply lD)|exact HB.out)) hb);clear HO_4;clear HO144;clear HB;have HO_4 := n0_;have HO144 := n1_;have HB := n2_;clear n0_ n1_ n2_;(try clear hb);(try clear hb2);(try clear hk);(try clear hi))|((with_reducible refine gate_dst (N := 7) rfl ?_);(try (refine gate_guard (by rfl) ?_;dsimp only));refine box_event ?hg (N := 7) ?hd (cs := #[.string (⟨#[]⟩ : ByteArray),.string (⟨#[]⟩ : ByteArray)]) (t := 27) ?hr ?_;(case hd => rfl);(case hg => rfl);(case hr => first|(go_simp;done)|(go_simp;rfl));intro gb149 hg w33 hbox hb;have n0_ := Aside0.mk (Kd.R_below (Kd.R_elderB (by (with_reducible repeat (first|apply Kd.R_alloc|apply Kd.R_drewN|apply Kd.R_drew));exact HO_4.out) gb149 (Nat.le_of_eq hg.symm)) hb);have n1_ := Aside0.mk (Kd.R_below (by (with_reducible repeat (first|apply Kd.R_alloc|apply Kd.R_drewN|apply Kd.R_drew));exact HO144.out) hb);have n2_ := Aside0.mk (below_step (by repeat (first|(with_reducible first|exact HB.out|apply lA|apply lN|apply lD)|exact HB.out)) hb);have n3_ := Aside0.mk (hbox);have n4_ := Aside0.mk ((by rw [hg];exact (below_size (by repeat (first|(with_reducible first|exact HB.out|apply lA|apply lN|apply lD)|exact HB.out))) : w.heap.size ≤ gb149));have n5_ := Aside0.mk ((by rw [hg];exact (below_size (by repeat (first|(with_reducible first|exact HB.out|apply lA|apply lN|apply lD)|exact HB.out))) : w.heap.size ≤ gb149));clear HO_4;clear HO144;clear HB;have HO_4 := n0_;have HO144 := n1_;have HB := n2_;have BK149 := n3_;have GW149 := n4_;have GE149 := n5_;clear n0_ n1_ n2_ n3_ n4_ n5_;clear hb hbox hg;have hcz34_0 : w33.cell? ⟨gb149,0,none⟩ = some (.string (⟨#[]⟩ : ByteArray)) := (blk_cell BK149.out 0).trans rfl;have hcz34_1 : w33.cell? ⟨gb149,1,none⟩ = some (.string (⟨#[]⟩ : ByteArray)) := (blk_cell BK149.out 1).trans rfl;have hfz34_0 := blk_frozen BK149.out 0;have hfz34_1 := blk_frozen BK149.out 1))
           go_ret2
           exact ⟨_,by first|rfl|(simp [errW_none,errW_some] <;> rfl)|(simp [*,errW_none,errW_some] <;> rfl),by (with_reducible repeat (first|apply Kd.R_alloc|apply Kd.R_drewN|apply Kd.R_drew));exact Kd.R_mono (Kd.R_far (p := ⟨gb149,1,none⟩) (Kd.R_far (p := ⟨gb149,0,none⟩) (Kd.R_mono HO_4.out (fun k_ hk => (⟨hk,hk.2⟩ : _ ∧ k_ ≠ gb149))) (fun _ hk => hk.2) (.string t146)) (fun _ hk => hk.2) (.string t147)) (fun _ hk => trivial),by repeat (first|(with_reducible first|exact HB.out|apply lA|apply lN|apply lD|refine below_set ?_ GE149.out)|exact HB.out)⟩
        ·rw [if_neg c11] at H
         exact absurd H (by simp)
       ·rw [if_neg c9] at H
        exact absurd H (by simp)
      ·rw [if_neg c8] at H
       exact absurd H (by simp)
     ·replace c7 := Bool.eq_false_iff.mpr c7
      subst c7
      have H1 : (some (x4_1,x5_1)) = some (r1,r2) := by rw [if_neg (show ¬ (false = true) by decide)] at H;exact H
      clear H
      have H := H1
      clear H1
      simp only [Option.some.injEq,Prod.mk.injEq] at H
      obtain ⟨rfl,rfl⟩ := H
      go_wp2
      go_ret2
      exact ⟨_,by first|rfl|(simp [errW_none,errW_some] <;> rfl)|(simp [*,errW_none,errW_some] <;> rfl),by (with_reducible repeat (first|apply Kd.R_alloc|apply Kd.R_drewN|apply Kd.R_drew));exact HO_4.out,by repeat (first|(with_reducible first|exact HB.out|apply lA|apply lN|apply lD)|exact HB.out)⟩
end Go.Proofs.YtinbbjfnebhlkaaDoor.P
