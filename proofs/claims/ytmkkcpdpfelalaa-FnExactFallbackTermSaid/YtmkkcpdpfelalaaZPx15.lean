/- Written by a program in this session: each theorem here says that a Go function computes the Lean function beside it, or that a law's row holds, under the conditions that the theorem itself states. -/
import Derived.Test.YtmkkcpdpfelalaaZPx0
import Derived.Test.YtmkkcpdpfelalaaZPx8
import Derived.Test.YtmkkcpdpfelalaaZPx14
namespace Go.Proofs.Ytmkkcpdpfelalaa.P
open Go.RowKit Go.Proofs.YtmkkcpdpfelalaaW.PrintWords Go.Proofs.YtmkkcpdpfelalaaW.PrintLast Go.Proofs.YtmkkcpdpfelalaaW.PrintMore
attribute [local go_sem] max2_int min2_int max_two min_two max_three min_three max_four min_four   -- for this text's walks alone
set_option linter.unusedVariables false
set_option linter.unusedSimpArgs false
def impl_Locale_81.l0 : Nat → List (S31) → Int → Int → Option (Int)
 | 0,_,_,_ => none
 | k + 1,x0,x7,x8 => if x8 < x7 then (if 0 ≤ x8 then (if x8 < (x0.length : Int) then ((impl_FallbackTerm_1.f k ((rd_T31 x0 x8).f0) ((rd_T31 x0 x8).f1) ((rd_T31 x0 x8).f2) ((rd_T31 x0 x8).f3) ((rd_T31 x0 x8).f4)).bind fun t475 => (if t475 = true then (some x8) else (impl_Locale_81.l0 k x0 x7 (wrap64 (x8 + 1))))) else (none)) else (none)) else (some (-1))
def impl_Locale_81.f (k : Nat) (l0 : List (S31)) (a1 : Int) : Option (Int) := impl_Locale_81.l0 k l0 (l0.length : Int) 0
theorem impl_Locale_81.mono_l : ∀ k,(∀ y0 y1 y2,LeO (impl_Locale_81.l0 k y0 y1 y2) (impl_Locale_81.l0 (k + 1) y0 y1 y2))
 | 0 => fun _ _ _ r h => by simp [impl_Locale_81.l0] at h
 | k + 1 => by
  have ih0 := impl_Locale_81.mono_l k
  ·intro y0 y1 y2
   unfold impl_Locale_81.l0
   repeat' first
   | (with_reducible exact ih0 _ _ _)
   | (with_reducible exact impl_FallbackTerm_1.mono _ _ _ _ _ _)
   | (with_reducible exact LeO.refl _)
   | (with_reducible exact LeO.none _)
   | (with_reducible refine LeO.ite ?_ ?_)
   | (with_reducible refine LeO.bind ?_ (fun _ => ?_))
   | exact ih0 _ _ _
   | exact impl_FallbackTerm_1.mono _ _ _ _ _ _
   | exact LeO.none _
   | refine LeO.ite ?_ ?_
   | refine LeO.bind ?_ (fun _ => ?_)
theorem impl_Locale_81.mono : ∀ a0 a1 k,LeO (impl_Locale_81.f k a0 a1) (impl_Locale_81.f (k + 1) a0 a1) := by
 intro a0 a1 k
 have ih0 := impl_Locale_81.mono_l k
 unfold impl_Locale_81.f
 repeat' first
   | (with_reducible exact ih0 _ _ _)
   | (with_reducible exact impl_FallbackTerm_1.mono _ _ _ _ _ _)
   | (with_reducible exact LeO.refl _)
   | (with_reducible exact LeO.none _)
   | (with_reducible refine LeO.ite ?_ ?_)
   | (with_reducible refine LeO.bind ?_ (fun _ => ?_))
   | exact ih0 _ _ _
   | exact impl_FallbackTerm_1.mono _ _ _ _ _ _
   | exact LeO.none _
   | refine LeO.ite ?_ ?_
   | refine LeO.bind ?_ (fun _ => ?_)
set_option maxHeartbeats 8000000 in
set_option maxRecDepth 100000 in
theorem impl_Locale_81.calls (k : Nat) (A0 : Option Addr) (c0 : Nat) (l0 : List (S31)) (a1 : Int) (r : Int) (w : World) (hr0 : Kd.C k31 w A0 l0.length l0) (hc0 : l0.length ≤ c0) (h : impl_Locale_81.f k l0 a1 = some r) :
  Calls Try.prog 81 #[.slice A0 l0.length c0,.func (.func 55) #[] #[]] w fun e w' => e = .returned (.int .i64 r) ∧ Below w.heap.size w w' := by
 have hu31 := Try.underlying31
 have HR0 := Aside0.mk hr0
 have HC0 := Aside0.mk hc0
 clear hr0 hc0
 have HB := Aside0.mk (Below.refl w.heap.size w)
 have H : (impl_Locale_81.l0 k l0 (l0.length : Int) 0) = some r := h
 clear h
 have H' := Aside0.mk H
 clear H
 go_enter Try.func81,Try.ntmps81
 go_wp2
 go_loopg [8] k (fun kq v8 w' => ∃ (x8_1 : Int),v8 = .int .i64 x8_1 ∧ Aside0 (impl_Locale_81.l0 kq l0 (l0.length : Int) x8_1 = some r) ∧ Aside0 (kq ≤ k) ∧ Aside0 (Below w.heap.size w w'))
 case atStart => exact ⟨(0),(by first|rfl|(simp;done)|(simp [my_isEmpty];done)|(simp [*];done)),H',⟨Nat.le_refl _⟩,⟨by repeat (first|(with_reducible first|exact HB.out|apply lA|apply lN|apply lD)|exact HB.out)⟩⟩
 case round =>
  clear H'
  try clear p2
  obtain ⟨x8_1,rfl,HA,HK1,HB⟩ := hrel
  cases gk with
  | zero => exact absurd HA.out (by simp [impl_Locale_81.l0])
  | succ k1 =>
   have H := HA.out
   clear HA
   simp only [impl_Locale_81.l0] at H
   by_cases c3 : x8_1 < (l0.length : Int)
   ·rw [if_pos c3] at H
    have c3b0 : decide (x8_1 < (l0.length : Int)) = true := decide_eq_true c3
    clear c3
    by_cases c4 : 0 ≤ x8_1
    ·rw [if_pos c4] at H
     have c4b0 : decide (0 ≤ x8_1) = true := decide_eq_true c4
     clear c4
     by_cases c5 : x8_1 < (l0.length : Int)
     ·rw [if_pos c5] at H
      have c5b0 : decide (x8_1 < (l0.length : Int)) = true := decide_eq_true c5
      clear c5
      replace H := Option.bind_eq_some_iff.mp H
      obtain ⟨t475,A60,H⟩ := H
      replace H : (if t475 = true then (some x8_1) else (impl_Locale_81.l0 k1 l0 (l0.length : Int) (wrap64 (x8_1 + 1)))) = some r := H
      have A6 := Aside0.mk A60
      clear A60
      by_cases c7 : t475 = true
      ·subst c7
       have H1 : (some x8_1) = some r := by rw [if_pos rfl] at H;exact H
       clear H
       have H := H1
       clear H1
       obtain rfl := Option.some.inj H
       simp only [Option.some.injEq,Prod.mk.injEq] at H
       obtain ⟨rfl⟩ := H
       have p474 : 0 ≤ (x8_1 : Int) := of_decide_eq_true (by first|(with_reducible assumption)|assumption)
       have q474 : x8_1 < (l0.length : Int) := of_decide_eq_true (by first|(with_reducible assumption)|assumption)
       obtain ⟨ad474,A474_1,c474_1,A474_2,c474_2,e474,hx474_0,hx474_1,hx474_2,hx474_3,hx474_4,hl474_1,hi474_1,hl474_2,hi474_2⟩ := at_T31 HR0.out x8_1 p474 q474
       cases e474
       replace hx474_0 := (HB.out.cell (World.block_lt_of_cell? w _ hx474_0)).trans hx474_0
       replace hx474_1 := (HB.out.cell (World.block_lt_of_cell? w _ hx474_1)).trans hx474_1
       replace hx474_2 := (HB.out.cell (World.block_lt_of_cell? w _ hx474_2)).trans hx474_2
       replace hx474_3 := (HB.out.cell (World.block_lt_of_cell? w _ hx474_3)).trans hx474_3
       replace hx474_4 := (HB.out.cell (World.block_lt_of_cell? w _ hx474_4)).trans hx474_4
       have HR474_1 := Aside0.mk hi474_1
       have HC474_1 := Aside0.mk hl474_1
       clear hi474_1 hl474_1
       have HR474_2 := Aside0.mk hi474_2
       have HC474_2 := Aside0.mk hl474_2
       clear hi474_2 hl474_2
       replace p474 := eq_true p474
       replace q474 := eq_true q474
       go_wp2_with (first|(go_at_call 55;(with_reducible refine (impl_FallbackTerm_1.calls k1 ((rd_T31 l0 x8_1).f0) _ _ ((rd_T31 l0 x8_1).f1) _ _ ((rd_T31 l0 x8_1).f2) ((rd_T31 l0 x8_1).f3) ((rd_T31 l0 x8_1).f4) true _ ?side1 ?side2 ?side3 ?side4 A6.out).mono ?_);(case side1 => repeat (first|exact (Kd.C_below HR474_1.out HB.out)|(with_reducible refine Kd.C_alloc ?_ _)|(with_reducible refine Kd.C_drewN ?_ _)|(with_reducible refine Kd.C_drew ?_)));(case side2 => exact HC474_1.out);(case side3 => repeat (first|exact (Kd.C_below HR474_2.out HB.out)|(with_reducible refine Kd.C_alloc ?_ _)|(with_reducible refine Kd.C_drewN ?_ _)|(with_reducible refine Kd.C_drew ?_)));(case side4 => exact HC474_2.out);rintro e w8 ⟨rfl,hb⟩;have n0_ := Aside0.mk (below_step (by repeat (first|(with_reducible first|exact HB.out|apply lA|apply lN|apply lD)|exact HB.out)) hb);clear HB;have HB := n0_;clear n0_;(try clear hb);(try clear hb2);(try clear hk);(try clear hi)))
       go_ret
       exact ⟨by first|rfl|(simp [errW_none,errW_some] <;> rfl)|(simp [*,errW_none,errW_some] <;> rfl),by repeat (first|(with_reducible first|exact HB.out|apply lA|apply lN|apply lD)|exact HB.out)⟩
      ·replace c7 := Bool.eq_false_iff.mpr c7
       subst c7
       have H1 : (impl_Locale_81.l0 k1 l0 (l0.length : Int) (wrap64 (x8_1 + 1))) = some r := by rw [if_neg (show ¬ (false = true) by decide)] at H;exact H
       clear H
       have H := H1
       clear H1
       have H' := Aside0.mk H
       clear H
       have p474 : 0 ≤ (x8_1 : Int) := of_decide_eq_true (by first|(with_reducible assumption)|assumption)
       have q474 : x8_1 < (l0.length : Int) := of_decide_eq_true (by first|(with_reducible assumption)|assumption)
       obtain ⟨ad474,A474_1,c474_1,A474_2,c474_2,e474,hx474_0,hx474_1,hx474_2,hx474_3,hx474_4,hl474_1,hi474_1,hl474_2,hi474_2⟩ := at_T31 HR0.out x8_1 p474 q474
       cases e474
       replace hx474_0 := (HB.out.cell (World.block_lt_of_cell? w _ hx474_0)).trans hx474_0
       replace hx474_1 := (HB.out.cell (World.block_lt_of_cell? w _ hx474_1)).trans hx474_1
       replace hx474_2 := (HB.out.cell (World.block_lt_of_cell? w _ hx474_2)).trans hx474_2
       replace hx474_3 := (HB.out.cell (World.block_lt_of_cell? w _ hx474_3)).trans hx474_3
       replace hx474_4 := (HB.out.cell (World.block_lt_of_cell? w _ hx474_4)).trans hx474_4
       have HR474_1 := Aside0.mk hi474_1
       have HC474_1 := Aside0.mk hl474_1
       clear hi474_1 hl474_1
       have HR474_2 := Aside0.mk hi474_2
       have HC474_2 := Aside0.mk hl474_2
       clear hi474_2 hl474_2
       replace p474 := eq_true p474
       replace q474 := eq_true q474
       go_wp2_with (first|(go_at_call 55;(with_reducible refine (impl_FallbackTerm_1.calls k1 ((rd_T31 l0 x8_1).f0) _ _ ((rd_T31 l0 x8_1).f1) _ _ ((rd_T31 l0 x8_1).f2) ((rd_T31 l0 x8_1).f3) ((rd_T31 l0 x8_1).f4) false _ ?side1 ?side2 ?side3 ?side4 A6.out).mono ?_);(case side1 => repeat (first|exact (Kd.C_below HR474_1.out HB.out)|(with_reducible refine Kd.C_alloc ?_ _)|(with_reducible refine Kd.C_drewN ?_ _)|(with_reducible refine Kd.C_drew ?_)));(case side2 => exact HC474_1.out);(case side3 => repeat (first|exact (Kd.C_below HR474_2.out HB.out)|(with_reducible refine Kd.C_alloc ?_ _)|(with_reducible refine Kd.C_drewN ?_ _)|(with_reducible refine Kd.C_drew ?_)));(case side4 => exact HC474_2.out);rintro e w9 ⟨rfl,hb⟩;have n0_ := Aside0.mk (below_step (by repeat (first|(with_reducible first|exact HB.out|apply lA|apply lN|apply lD)|exact HB.out)) hb);clear HB;have HB := n0_;clear n0_;(try clear hb);(try clear hb2);(try clear hk);(try clear hi)))
       go_roundg k1
       case measure => have := HK1.out;omega
       case rel => exact ⟨(wrap64 (x8_1 + 1)),(by first|rfl|(simp;done)|(simp [my_isEmpty];done)|(simp [*];done)),H',⟨by have := HK1.out;omega⟩,⟨by repeat (first|(with_reducible first|exact HB.out|apply lA|apply lN|apply lD)|exact HB.out)⟩⟩
     ·rw [if_neg c5] at H
      exact absurd H (by simp)
    ·rw [if_neg c4] at H
     exact absurd H (by simp)
   ·rw [if_neg c3] at H
    have c3b0 : decide (x8_1 < (l0.length : Int)) = false := decide_eq_false c3
    clear c3
    obtain rfl := Option.some.inj H
    simp only [Option.some.injEq,Prod.mk.injEq] at H
    obtain ⟨rfl⟩ := H
    go_wp2
    go_ret
    exact ⟨by first|rfl|(simp [errW_none,errW_some] <;> rfl)|(simp [*,errW_none,errW_some] <;> rfl),by repeat (first|(with_reducible first|exact HB.out|apply lA|apply lN|apply lD)|exact HB.out)⟩
def impl_Locale_54.f (k : Nat) (l0 : List (S31)) (a1 : Int) : Option (Bool) := (impl_Locale_81.f k l0 a1).bind fun t476 => (some (decide (t476 ≥ 0)))
theorem impl_Locale_54.mono : ∀ a0 a1 k,LeO (impl_Locale_54.f k a0 a1) (impl_Locale_54.f (k + 1) a0 a1) := by
 intro a0 a1 k
 unfold impl_Locale_54.f
 repeat' first
   | (with_reducible exact impl_Locale_81.mono _ _ _)
   | (with_reducible exact LeO.refl _)
   | (with_reducible exact LeO.none _)
   | (with_reducible refine LeO.ite ?_ ?_)
   | (with_reducible refine LeO.bind ?_ (fun _ => ?_))
   | exact impl_Locale_81.mono _ _ _
   | exact LeO.none _
   | refine LeO.ite ?_ ?_
   | refine LeO.bind ?_ (fun _ => ?_)
set_option maxHeartbeats 8000000 in
set_option maxRecDepth 100000 in
theorem impl_Locale_54.calls (k : Nat) (A0 : Option Addr) (c0 : Nat) (l0 : List (S31)) (a1 : Int) (r : Bool) (w : World) (hr0 : Kd.C k31 w A0 l0.length l0) (hc0 : l0.length ≤ c0) (h : impl_Locale_54.f k l0 a1 = some r) :
  Calls Try.prog 54 #[.slice A0 l0.length c0,.func (.func 55) #[] #[]] w fun e w' => e = .returned (.bool r) ∧ Below w.heap.size w w' := by
 have HR0 := Aside0.mk hr0
 have HC0 := Aside0.mk hc0
 clear hr0 hc0
 have HB := Aside0.mk (Below.refl w.heap.size w)
 have H : ((impl_Locale_81.f k l0 a1).bind fun t476 => (some (decide (t476 ≥ 0)))) = some r := h
 clear h
 replace H := Option.bind_eq_some_iff.mp H
 obtain ⟨t476,A30,H⟩ := H
 replace H : (some (decide (t476 ≥ 0))) = some r := H
 have A3 := Aside0.mk A30
 clear A30
 obtain rfl := Option.some.inj H
 simp only [Option.some.injEq,Prod.mk.injEq] at H
 obtain ⟨rfl⟩ := H
 go_enter Try.func54,Try.ntmps54
 go_wp2_with (first|((with_reducible refine gate_callee (f := 81) rfl ?_);refine goesL_ (some 7) rfl rfl Try.func81 (by kernel_rfl) rfl #[.slice A0 l0.length c0,.func (.func 55) #[] #[]] rfl (by (try simp only [List.map_toArray,List.map_cons,List.map_nil]);first|done|rfl|(simp only [List.length_drop,List.length_take];rfl)) ?_;(with_reducible refine (impl_Locale_81.calls k _ _ l0 a1 t476 _ ?side1 ?side2 A3.out).mono ?_);(case side1 => repeat (first|exact HR0.out|(with_reducible refine Kd.C_alloc ?_ _)|(with_reducible refine Kd.C_drewN ?_ _)|(with_reducible refine Kd.C_drew ?_)));(case side2 => exact HC0.out);rintro e w4 ⟨rfl,hb⟩;refine ⟨_,rfl,?_⟩;have n0_ := Aside0.mk (below_step (by repeat (first|(with_reducible first|exact HB.out|apply lA|apply lN|apply lD)|exact HB.out)) hb);clear HB;have HB := n0_;clear n0_;(try clear hb);(try clear hb2);(try clear hk);(try clear hi)))
 go_ret
 exact ⟨by first|rfl|(simp [errW_none,errW_some] <;> rfl)|(simp [*,errW_none,errW_some] <;> rfl),by repeat (first|(with_reducible first|exact HB.out|apply lA|apply lN|apply lD)|exact HB.out)⟩
mutual
def impl_FallbackTerm.j0 : Nat → List (S31) → ByteArray → Int → Bool → Option (ByteArray × Int × Bool)
 | 0,_,_,_,_ => none
 | k + 1,x0,x1,x2,x23 => if x23 = true then (some ((⟨#[]⟩ : ByteArray),0,false)) else (impl_FallbackTerm.l0 k x1 x2 x0 (x0.length : Int) 0)
def impl_FallbackTerm.l0 : Nat → ByteArray → Int → List (S31) → Int → Int → Option (ByteArray × Int × Bool)
 | 0,_,_,_,_,_ => none
 | k + 1,x1,x2,x24,x25,x26 => if x26 < x25 then (if 0 ≤ x26 then (if x26 < (x24.length : Int) then ((impl_termIndex.f ((rd_T31 x24 x26).f0) ((rd_T31 x24 x26).f1) ((rd_T31 x24 x26).f2) ((rd_T31 x24 x26).f3) ((rd_T31 x24 x26).f4) x1).bind fun t481 => (if t481 ≥ 0 then ((impl_termFor.f ((rd_T31 x24 x26).f0) ((rd_T31 x24 x26).f1) ((rd_T31 x24 x26).f2) ((rd_T31 x24 x26).f3) ((rd_T31 x24 x26).f4) t481 x2).bind fun t482 => (some (t482,x26,true))) else (impl_FallbackTerm.l0 k x1 x2 x24 x25 (wrap64 (x26 + 1))))) else (none)) else (none)) else (some ((⟨#[]⟩ : ByteArray),0,false))
end
def impl_FallbackTerm.f (k : Nat) (l0 : List (S31)) (a1 : ByteArray) (a2 : Int) : Option (ByteArray × Int × Bool) := if (l0.length : Int) > 5 then (impl_FallbackTerm.j0 k l0 a1 a2 true) else ((impl_isNumber.f a2).bind fun t477 => (if t477 = true then ((impl_Locale_54.f k l0 0).bind fun t478 => (impl_FallbackTerm.j0 k l0 a1 a2 t478)) else (impl_FallbackTerm.j0 k l0 a1 a2 true)))
theorem impl_FallbackTerm.mono_l : ∀ k,(∀ y0 y1 y2 y3,LeO (impl_FallbackTerm.j0 k y0 y1 y2 y3) (impl_FallbackTerm.j0 (k + 1) y0 y1 y2 y3)) ∧ (∀ y0 y1 y2 y3 y4,LeO (impl_FallbackTerm.l0 k y0 y1 y2 y3 y4) (impl_FallbackTerm.l0 (k + 1) y0 y1 y2 y3 y4))
 | 0 => ⟨fun _ _ _ _ r h => by simp [impl_FallbackTerm.j0] at h,fun _ _ _ _ _ r h => by simp [impl_FallbackTerm.l0] at h⟩
 | k + 1 => by
  obtain ⟨ih0,ih1⟩ := impl_FallbackTerm.mono_l k
  refine ⟨?_,?_⟩
  ·intro y0 y1 y2 y3
   unfold impl_FallbackTerm.j0
   repeat' first
   | (with_reducible exact ih0 _ _ _ _)
   | (with_reducible exact ih1 _ _ _ _ _)
   | (with_reducible exact impl_Locale_54.mono _ _ _)
   | (with_reducible exact LeO.refl _)
   | (with_reducible exact LeO.none _)
   | (with_reducible refine LeO.ite ?_ ?_)
   | (with_reducible refine LeO.bind ?_ (fun _ => ?_))
   | exact ih0 _ _ _ _
   | exact ih1 _ _ _ _ _
   | exact impl_Locale_54.mono _ _ _
   | exact LeO.none _
   | refine LeO.ite ?_ ?_
   | refine LeO.bind ?_ (fun _ => ?_)
  ·intro y0 y1 y2 y3 y4
   unfold impl_FallbackTerm.l0
   repeat' first
   | (with_reducible exact ih0 _ _ _ _)
   | (with_reducible exact ih1 _ _ _ _ _)
   | (with_reducible exact impl_Locale_54.mono _ _ _)
   | (with_reducible exact LeO.refl _)
   | (with_reducible exact LeO.none _)
   | (with_reducible refine LeO.ite ?_ ?_)
   | (with_reducible refine LeO.bind ?_ (fun _ => ?_))
   | exact ih0 _ _ _ _
   | exact ih1 _ _ _ _ _
   | exact impl_Locale_54.mono _ _ _
   | exact LeO.none _
   | refine LeO.ite ?_ ?_
   | refine LeO.bind ?_ (fun _ => ?_)
theorem impl_FallbackTerm.mono : ∀ a0 a1 a2 k,LeO (impl_FallbackTerm.f k a0 a1 a2) (impl_FallbackTerm.f (k + 1) a0 a1 a2) := by
 intro a0 a1 a2 k
 obtain ⟨ih0,ih1⟩ := impl_FallbackTerm.mono_l k
 unfold impl_FallbackTerm.f
 repeat' first
   | (with_reducible exact ih0 _ _ _ _)
   | (with_reducible exact ih1 _ _ _ _ _)
   | (with_reducible exact impl_Locale_54.mono _ _ _)
   | (with_reducible exact LeO.refl _)
   | (with_reducible exact LeO.none _)
   | (with_reducible refine LeO.ite ?_ ?_)
   | (with_reducible refine LeO.bind ?_ (fun _ => ?_))
   | exact ih0 _ _ _ _
   | exact ih1 _ _ _ _ _
   | exact impl_Locale_54.mono _ _ _
   | exact LeO.none _
   | refine LeO.ite ?_ ?_
   | refine LeO.bind ?_ (fun _ => ?_)
set_option maxHeartbeats 8000000 in
set_option maxRecDepth 100000 in
theorem impl_FallbackTerm.calls (k : Nat) (A0 : Option Addr) (c0 : Nat) (l0 : List (S31)) (a1 : ByteArray) (a2 : Int) (r1 : ByteArray) (r2 : Int) (r3 : Bool) (w : World) (hr0 : Kd.C k31 w A0 l0.length l0) (hc0 : l0.length ≤ c0) (h : impl_FallbackTerm.f k l0 a1 a2 = some (r1,r2,r3)) :
  Calls Try.prog 19 #[.slice A0 l0.length c0,.string a1,.int .i64 a2] w fun e w' => e = .returned (.tuple #[.string r1,.int .i64 r2,.bool r3]) ∧ Below w.heap.size w w' := by
 have hu31 := Try.underlying31
 have HR0 := Aside0.mk hr0
 have HC0 := Aside0.mk hc0
 clear hr0 hc0
 have HB := Aside0.mk (Below.refl w.heap.size w)
 have H : (if (l0.length : Int) > 5 then (impl_FallbackTerm.j0 k l0 a1 a2 true) else ((impl_isNumber.f a2).bind fun t477 => (if t477 = true then ((impl_Locale_54.f k l0 0).bind fun t478 => (impl_FallbackTerm.j0 k l0 a1 a2 t478)) else (impl_FallbackTerm.j0 k l0 a1 a2 true)))) = some (r1,r2,r3) := h
 clear h
 have HC4 := Aside0.mk H
 clear H
 go_enter Try.func19,Try.ntmps19
 go_upto_region 1 with (fail)
 go_cut [23] (fun v23 wc => ∃ (kq : Nat) (x23_3 : Bool),v23 = .bool x23_3 ∧ Aside0 (impl_FallbackTerm.j0 kq l0 a1 a2 x23_3 = some (r1,r2,r3)) ∧ Aside0 (kq ≤ k) ∧ Aside0 (Below w.heap.size w wc))
 case first =>
  have H := HC4.out
  clear HC4
  by_cases c5 : (l0.length : Int) > 5
  ·rw [if_pos c5] at H
   have c5b0 : decide (5 < (l0.length : Int)) = true := decide_eq_true c5
   have c5b1 : decide (5 < l0.length) = true := decide_eq_true (by omega)
   clear c5
   (first|rw [c5b0]|(simp only [i64_w,i32_w];rw [c5b0])|skip)
   have H' := Aside0.mk H
   clear H
   go_wp2
   go_meet
   case rel => exact ⟨_,(true),(by first|rfl|(simp;done)|(simp [my_isEmpty];done)|(simp [*];done)),H',⟨by first|omega|exact Nat.le_refl _⟩,⟨by repeat (first|(with_reducible first|exact HB.out|apply lA|apply lN|apply lD)|exact HB.out)⟩⟩
  ·rw [if_neg c5] at H
   have c5b0 : decide (5 < (l0.length : Int)) = false := decide_eq_false c5
   have c5b1 : decide (5 < l0.length) = false := decide_eq_false (by omega)
   clear c5
   (first|rw [c5b0]|(simp only [i64_w,i32_w];rw [c5b0])|skip)
   replace H := Option.bind_eq_some_iff.mp H
   obtain ⟨t477,A60,H⟩ := H
   replace H : (if t477 = true then ((impl_Locale_54.f k l0 0).bind fun t478 => (impl_FallbackTerm.j0 k l0 a1 a2 t478)) else (impl_FallbackTerm.j0 k l0 a1 a2 true)) = some (r1,r2,r3) := H
   have A6 := Aside0.mk A60
   clear A60
   by_cases c7 : t477 = true
   ·subst c7
    have H1 : ((impl_Locale_54.f k l0 0).bind fun t478 => (impl_FallbackTerm.j0 k l0 a1 a2 t478)) = some (r1,r2,r3) := by rw [if_pos rfl] at H;exact H
    clear H
    have H := H1
    clear H1
    replace H := Option.bind_eq_some_iff.mp H
    obtain ⟨t478,A80,H⟩ := H
    replace H : (impl_FallbackTerm.j0 k l0 a1 a2 t478) = some (r1,r2,r3) := H
    have A8 := Aside0.mk A80
    clear A80
    have H' := Aside0.mk H
    clear H
    go_wp2_with (first|(go_at_call 52;(with_reducible refine (impl_isNumber.calls a2 true _ A6.out).mono ?_);rintro e w' ⟨rfl,⟨nd,rfl⟩⟩)|(go_at_call 54;(with_reducible refine (impl_Locale_54.calls k _ _ l0 0 t478 _ ?side1 ?side2 A8.out).mono ?_);(case side1 => repeat (first|exact (Kd.C_below HR0.out (by repeat (first|(with_reducible first|exact HB.out|apply lA|apply lN|apply lD)|exact HB.out)))|(with_reducible refine Kd.C_alloc ?_ _)|(with_reducible refine Kd.C_drewN ?_ _)|(with_reducible refine Kd.C_drew ?_)));(case side2 => exact HC0.out);rintro e w9 ⟨rfl,hb⟩;have n0_ := Aside0.mk (below_step (by repeat (first|(with_reducible first|exact HB.out|apply lA|apply lN|apply lD)|exact HB.out)) hb);clear HB;have HB := n0_;clear n0_;(try clear hb);(try clear hb2);(try clear hk);(try clear hi)))
    go_meet
    case rel => exact ⟨_,(t478),(by first|rfl|(simp;done)|(simp [my_isEmpty];done)|(simp [*];done)),H',⟨by first|omega|exact Nat.le_refl _⟩,⟨by repeat (first|(with_reducible first|exact HB.out|apply lA|apply lN|apply lD)|exact HB.out)⟩⟩
   ·replace c7 := Bool.eq_false_iff.mpr c7
    subst c7
    have H1 : (impl_FallbackTerm.j0 k l0 a1 a2 true) = some (r1,r2,r3) := by rw [if_neg (show ¬ (false = true) by decide)] at H;exact H
    clear H
    have H := H1
    clear H1
    have H' := Aside0.mk H
    clear H
    go_wp2_with (first|(go_at_call 52;(with_reducible refine (impl_isNumber.calls a2 false _ A6.out).mono ?_);rintro e w' ⟨rfl,⟨nd,rfl⟩⟩))
    go_meet
    case rel => exact ⟨_,(true),(by first|rfl|(simp;done)|(simp [my_isEmpty];done)|(simp [*];done)),H',⟨by first|omega|exact Nat.le_refl _⟩,⟨by repeat (first|(with_reducible first|exact HB.out|apply lA|apply lN|apply lD)|exact HB.out)⟩⟩
 case rest =>
  clear HC4
  try clear c1
  try clear p2
  try clear c5
  try clear c5b0
  try clear c5b1
  try clear c7
  obtain ⟨kq,x23_3,rfl,HA,HJ3,HB⟩ := hcut
  cases kq with
  | zero => exact absurd HA.out (by simp [impl_FallbackTerm.j0])
  | succ kj3 =>
   have H := HA.out
   clear HA
   simp only [impl_FallbackTerm.j0] at H
   by_cases c10 : x23_3 = true
   ·subst c10
    have H1 : (some ((⟨#[]⟩ : ByteArray),0,false)) = some (r1,r2,r3) := by rw [if_pos rfl] at H;exact H
    clear H
    have H := H1
    clear H1
    simp only [Option.some.injEq,Prod.mk.injEq] at H
    obtain ⟨rfl,rfl,rfl⟩ := H
    go_wp2
    go_ret3
    exact ⟨by first|rfl|(simp [errW_none,errW_some] <;> rfl)|(simp [*,errW_none,errW_some] <;> rfl),by repeat (first|(with_reducible first|exact HB.out|apply lA|apply lN|apply lD)|exact HB.out)⟩
   ·replace c10 := Bool.eq_false_iff.mpr c10
    subst c10
    have H1 : (impl_FallbackTerm.l0 kj3 a1 a2 l0 (l0.length : Int) 0) = some (r1,r2,r3) := by rw [if_neg (show ¬ (false = true) by decide)] at H;exact H
    clear H
    have H := H1
    clear H1
    have H' := Aside0.mk H
    clear H
    go_wp2
    go_loopg [26] kj3 (fun kq v26 w' => ∃ (x26_2 : Int),v26 = .int .i64 x26_2 ∧ Aside0 (impl_FallbackTerm.l0 kq a1 a2 l0 (l0.length : Int) x26_2 = some (r1,r2,r3)) ∧ Aside0 (kq ≤ kj3) ∧ Aside0 (Below w.heap.size w w'))
    case atStart => exact ⟨(0),(by first|rfl|(simp;done)|(simp [my_isEmpty];done)|(simp [*];done)),H',⟨Nat.le_refl _⟩,⟨by repeat (first|(with_reducible first|exact HB.out|apply lA|apply lN|apply lD)|exact HB.out)⟩⟩
    case round =>
     clear H'
     try clear c1
     try clear p2
     try clear c5
     try clear c5b0
     try clear c5b1
     try clear c7
     try clear c10
     try clear p2
     obtain ⟨x26_2,rfl,HA,HK2,HB⟩ := hrel
     cases gk with
     | zero => exact absurd HA.out (by simp [impl_FallbackTerm.l0])
     | succ k2 =>
      have H := HA.out
      clear HA
      simp only [impl_FallbackTerm.l0] at H
      by_cases c11 : x26_2 < (l0.length : Int)
      ·rw [if_pos c11] at H
       have c11b0 : decide (x26_2 < (l0.length : Int)) = true := decide_eq_true c11
       clear c11
       by_cases c12 : 0 ≤ x26_2
       ·rw [if_pos c12] at H
        have c12b0 : decide (0 ≤ x26_2) = true := decide_eq_true c12
        clear c12
        by_cases c13 : x26_2 < (l0.length : Int)
        ·rw [if_pos c13] at H
         have c13b0 : decide (x26_2 < (l0.length : Int)) = true := decide_eq_true c13
         clear c13
         replace H := Option.bind_eq_some_iff.mp H
         obtain ⟨t481,A140,H⟩ := H
         replace H : (if t481 ≥ 0 then ((impl_termFor.f ((rd_T31 l0 x26_2).f0) ((rd_T31 l0 x26_2).f1) ((rd_T31 l0 x26_2).f2) ((rd_T31 l0 x26_2).f3) ((rd_T31 l0 x26_2).f4) t481 a2).bind fun t482 => (some (t482,x26_2,true))) else (impl_FallbackTerm.l0 k2 a1 a2 l0 (l0.length : Int) (wrap64 (x26_2 + 1)))) = some (r1,r2,r3) := H
         have A14 := Aside0.mk A140
         clear A140
         by_cases c15 : t481 ≥ 0
         ·rw [if_pos c15] at H
          have c15b0 : decide (0 ≤ t481) = true := decide_eq_true c15
          clear c15
          replace H := Option.bind_eq_some_iff.mp H
          obtain ⟨t482,A160,H⟩ := H
          replace H : (some (t482,x26_2,true)) = some (r1,r2,r3) := H
          have A16 := Aside0.mk A160
          clear A160
          simp only [Option.some.injEq,Prod.mk.injEq] at H
          obtain ⟨rfl,rfl,rfl⟩ := H
          have p479 : 0 ≤ (x26_2 : Int) := of_decide_eq_true (by first|(with_reducible assumption)|assumption)
          have q479 : x26_2 < (l0.length : Int) := of_decide_eq_true (by first|(with_reducible assumption)|assumption)
          obtain ⟨ad479,A479_1,c479_1,A479_2,c479_2,e479,hx479_0,hx479_1,hx479_2,hx479_3,hx479_4,hl479_1,hi479_1,hl479_2,hi479_2⟩ := at_T31 HR0.out x26_2 p479 q479
          cases e479
          replace hx479_0 := (HB.out.cell (World.block_lt_of_cell? w _ hx479_0)).trans hx479_0
          replace hx479_1 := (HB.out.cell (World.block_lt_of_cell? w _ hx479_1)).trans hx479_1
          replace hx479_2 := (HB.out.cell (World.block_lt_of_cell? w _ hx479_2)).trans hx479_2
          replace hx479_3 := (HB.out.cell (World.block_lt_of_cell? w _ hx479_3)).trans hx479_3
          replace hx479_4 := (HB.out.cell (World.block_lt_of_cell? w _ hx479_4)).trans hx479_4
          have HR479_1 := Aside0.mk hi479_1
          have HC479_1 := Aside0.mk hl479_1
          clear hi479_1 hl479_1
          have HR479_2 := Aside0.mk hi479_2
          have HC479_2 := Aside0.mk hl479_2
          clear hi479_2 hl479_2
          replace p479 := eq_true p479
          replace q479 := eq_true q479
          go_wp2_with (first|((with_reducible refine gate_dst (N := 10) rfl ?_);refine box_event ?hg (N := 10) ?hd (cs := #[.string (⟨#[]⟩ : ByteArray),.slice none 0 0,.slice none 0 0,.string (⟨#[]⟩ : ByteArray),.string (⟨#[]⟩ : ByteArray)]) (t := 31) ?hr ?_;(case hd => rfl);(case hg => rfl);(case hr => first|(go_simp;done)|(go_simp;rfl));intro gb480 hg w17 hbox hb;have n0_ := Aside0.mk (below_step (by repeat (first|(with_reducible first|exact HB.out|apply lA|apply lN|apply lD)|exact HB.out)) hb);have n1_ := Aside0.mk (hbox);have n2_ := Aside0.mk ((by rw [hg];exact (below_size (by repeat (first|(with_reducible first|exact HB.out|apply lA|apply lN|apply lD)|exact HB.out))) : w.heap.size ≤ gb480));have n3_ := Aside0.mk ((by rw [hg];exact (below_size (by repeat (first|(with_reducible first|exact HB.out|apply lA|apply lN|apply lD)|exact HB.out))) : w.heap.size ≤ gb480));clear HB;have HB := n0_;have BK480 := n1_;have GW480 := n2_;have GE480 := n3_;clear n0_ n1_ n2_ n3_;clear hb hbox hg;have hcz18_0 : w17.cell? ⟨gb480,0,none⟩ = some (.string (⟨#[]⟩ : ByteArray)) := (blk_cell BK480.out 0).trans rfl;have hcz18_1 : w17.cell? ⟨gb480,1,none⟩ = some (.slice none 0 0) := (blk_cell BK480.out 1).trans rfl;have hcz18_2 : w17.cell? ⟨gb480,2,none⟩ = some (.slice none 0 0) := (blk_cell BK480.out 2).trans rfl;have hcz18_3 : w17.cell? ⟨gb480,3,none⟩ = some (.string (⟨#[]⟩ : ByteArray)) := (blk_cell BK480.out 3).trans rfl;have hcz18_4 : w17.cell? ⟨gb480,4,none⟩ = some (.string (⟨#[]⟩ : ByteArray)) := (blk_cell BK480.out 4).trans rfl;have hfz18_0 := blk_frozen BK480.out 0;have hfz18_1 := blk_frozen BK480.out 1;have hfz18_2 := blk_frozen BK480.out 2;have hfz18_3 := blk_frozen BK480.out 3;have hfz18_4 := blk_frozen BK480.out 4)|((with_reducible refine gate_callee (f := 51) rfl ?_);refine goesL_ (some 33) rfl rfl Try.func51 (by kernel_rfl) rfl #[.agg #[.string ((rd_T31 l0 x26_2).f0),.slice A479_1 ((rd_T31 l0 x26_2).f1).length c479_1,.slice A479_2 ((rd_T31 l0 x26_2).f2).length c479_2,.string ((rd_T31 l0 x26_2).f3),.string ((rd_T31 l0 x26_2).f4)],.string a1] rfl (by (try simp only [List.map_toArray,List.map_cons,List.map_nil]);first|done|rfl|(simp only [List.length_drop,List.length_take];rfl)) ?_;(with_reducible refine (impl_termIndex.calls ((rd_T31 l0 x26_2).f0) _ _ ((rd_T31 l0 x26_2).f1) _ _ ((rd_T31 l0 x26_2).f2) ((rd_T31 l0 x26_2).f3) ((rd_T31 l0 x26_2).f4) a1 t481 _ ?side1 ?side2 ?side3 ?side4 A14.out).mono ?_);(case side1 => exact Kd.C_below HR479_1.out (by repeat (first|(with_reducible first|exact HB.out|apply lA|apply lN|apply lD|refine below_set ?_ GE480.out)|exact HB.out)));(case side2 => exact HC479_1.out);(case side3 => exact Kd.C_below HR479_2.out (by repeat (first|(with_reducible first|exact HB.out|apply lA|apply lN|apply lD|refine below_set ?_ GE480.out)|exact HB.out)));(case side4 => exact HC479_2.out);rintro e w19 ⟨rfl,hb⟩;refine ⟨_,rfl,?_⟩;have n0_ := Aside0.mk (blk_below (g := gb480) (o := .cells #[.string ((rd_T31 l0 x26_2).f0),.slice A479_1 ((rd_T31 l0 x26_2).f1).length c479_1,.slice A479_2 ((rd_T31 l0 x26_2).f2).length c479_2,.string ((rd_T31 l0 x26_2).f3),.string ((rd_T31 l0 x26_2).f4)] 31 (0,0)) (by (with_reducible repeat (first|refine bN ?_ _|refine bD ?_|refine bA ?_ _));refine blk_put (cs := #[.string ((rd_T31 l0 x26_2).f0),.slice A479_1 ((rd_T31 l0 x26_2).f1).length c479_1,.slice A479_2 ((rd_T31 l0 x26_2).f2).length c479_2,.string ((rd_T31 l0 x26_2).f3),.string (⟨#[]⟩ : ByteArray)]) ?_ 4 _ rfl;(with_reducible repeat (first|refine bN ?_ _|refine bD ?_|refine bA ?_ _));refine blk_put (cs := #[.string ((rd_T31 l0 x26_2).f0),.slice A479_1 ((rd_T31 l0 x26_2).f1).length c479_1,.slice A479_2 ((rd_T31 l0 x26_2).f2).length c479_2,.string (⟨#[]⟩ : ByteArray),.string (⟨#[]⟩ : ByteArray)]) ?_ 3 _ rfl;(with_reducible repeat (first|refine bN ?_ _|refine bD ?_|refine bA ?_ _));refine blk_put (cs := #[.string ((rd_T31 l0 x26_2).f0),.slice A479_1 ((rd_T31 l0 x26_2).f1).length c479_1,.slice none 0 0,.string (⟨#[]⟩ : ByteArray),.string (⟨#[]⟩ : ByteArray)]) ?_ 2 _ rfl;(with_reducible repeat (first|refine bN ?_ _|refine bD ?_|refine bA ?_ _));refine blk_put (cs := #[.string ((rd_T31 l0 x26_2).f0),.slice none 0 0,.slice none 0 0,.string (⟨#[]⟩ : ByteArray),.string (⟨#[]⟩ : ByteArray)]) ?_ 1 _ rfl;(with_reducible repeat (first|refine bN ?_ _|refine bD ?_|refine bA ?_ _));refine blk_put (cs := #[.string (⟨#[]⟩ : ByteArray),.slice none 0 0,.slice none 0 0,.string (⟨#[]⟩ : ByteArray),.string (⟨#[]⟩ : ByteArray)]) ?_ 0 _ rfl;(with_reducible repeat (first|refine bN ?_ _|refine bD ?_|refine bA ?_ _));exact BK480.out) hb);have n1_ := Aside0.mk (below_step (by repeat (first|(with_reducible first|exact HB.out|apply lA|apply lN|apply lD|refine below_set ?_ GE480.out)|exact HB.out)) hb);clear BK480;clear HB;have BK480 := n0_;have HB := n1_;clear n0_ n1_;(try clear hb);(try clear hb2);(try clear hk);(try clear hi);have hcz20_0 : w19.cell? ⟨gb480,0,none⟩ = some (.string ((rd_T31 l0 x26_2).f0)) := (blk_cell BK480.out 0).trans rfl;have hcz20_1 : w19.cell? ⟨gb480,1,none⟩ = some (.slice A479_1 ((rd_T31 l0 x26_2).f1).length c479_1) := (blk_cell BK480.out 1).trans rfl;have hcz20_2 : w19.cell? ⟨gb480,2,none⟩ = some (.slice A479_2 ((rd_T31 l0 x26_2).f2).length c479_2) := (blk_cell BK480.out 2).trans rfl;have hcz20_3 : w19.cell? ⟨gb480,3,none⟩ = some (.string ((rd_T31 l0 x26_2).f3)) := (blk_cell BK480.out 3).trans rfl;have hcz20_4 : w19.cell? ⟨gb480,4,none⟩ = some (.string ((rd_T31 l0 x26_2).f4)) := (blk_cell BK480.out 4).trans rfl;have hfz20_0 := blk_frozen BK480.out 0;have hfz20_1 := blk_frozen BK480.out 1;have hfz20_2 := blk_frozen BK480.out 2;have hfz20_3 := blk_frozen BK480.out 3;have hfz20_4 := blk_frozen BK480.out 4)|((with_reducible refine gate_callee (f := 53) rfl ?_);refine goesL_ (some 39) rfl rfl Try.func53 (by kernel_rfl) rfl #[.agg #[.string ((rd_T31 l0 x26_2).f0),.slice A479_1 ((rd_T31 l0 x26_2).f1).length c479_1,.slice A479_2 ((rd_T31 l0 x26_2).f2).length c479_2,.string ((rd_T31 l0 x26_2).f3),.string ((rd_T31 l0 x26_2).f4)],.int .i64 t481,.int .i64 a2] rfl (by (try simp only [List.map_toArray,List.map_cons,List.map_nil]);first|done|rfl|(simp only [List.length_drop,List.length_take];rfl)) ?_;(with_reducible refine (impl_termFor.calls ((rd_T31 l0 x26_2).f0) _ _ ((rd_T31 l0 x26_2).f1) _ _ ((rd_T31 l0 x26_2).f2) ((rd_T31 l0 x26_2).f3) ((rd_T31 l0 x26_2).f4) t481 a2 t482 _ ?side1 ?side2 ?side3 ?side4 A16.out).mono ?_);(case side1 => repeat (first|exact (Kd.C_below HR479_1.out HB.out)|(with_reducible refine Kd.C_alloc ?_ _)|(with_reducible refine Kd.C_drewN ?_ _)|(with_reducible refine Kd.C_drew ?_)));(case side2 => exact HC479_1.out);(case side3 => repeat (first|exact (Kd.C_below HR479_2.out HB.out)|(with_reducible refine Kd.C_alloc ?_ _)|(with_reducible refine Kd.C_drewN ?_ _)|(with_reducible refine Kd.C_drew ?_)));(case side4 => exact HC479_2.out);rintro e w21 ⟨rfl,hb⟩;refine ⟨_,rfl,?_⟩;have n0_ := Aside0.mk (blk_below (g := gb480) (o := .cells #[.string ((rd_T31 l0 x26_2).f0),.slice A479_1 ((rd_T31 l0 x26_2).f1).length c479_1,.slice A479_2 ((rd_T31 l0 x26_2).f2).length c479_2,.string ((rd_T31 l0 x26_2).f3),.string ((rd_T31 l0 x26_2).f4)] 31 (0,0)) (by (with_reducible repeat (first|refine bN ?_ _|refine bD ?_|refine bA ?_ _));exact BK480.out) hb);have n1_ := Aside0.mk (below_step (by repeat (first|(with_reducible first|exact HB.out|apply lA|apply lN|apply lD|refine below_set ?_ GE480.out)|exact HB.out)) hb);clear BK480;clear HB;have BK480 := n0_;have HB := n1_;clear n0_ n1_;(try clear hb);(try clear hb2);(try clear hk);(try clear hi)))
          go_ret3
          exact ⟨by first|rfl|(simp [errW_none,errW_some] <;> rfl)|(simp [*,errW_none,errW_some] <;> rfl),by repeat (first|(with_reducible first|exact HB.out|apply lA|apply lN|apply lD|refine below_set ?_ GE480.out)|exact HB.out)⟩
         ·rw [if_neg c15] at H
          have c15b0 : decide (0 ≤ t481) = false := decide_eq_false c15
          clear c15
          have H' := Aside0.mk H
          clear H
          have p479 : 0 ≤ (x26_2 : Int) := of_decide_eq_true (by first|(with_reducible assumption)|assumption)
          have q479 : x26_2 < (l0.length : Int) := of_decide_eq_true (by first|(with_reducible assumption)|assumption)
          obtain ⟨ad479,A479_1,c479_1,A479_2,c479_2,e479,hx479_0,hx479_1,hx479_2,hx479_3,hx479_4,hl479_1,hi479_1,hl479_2,hi479_2⟩ := at_T31 HR0.out x26_2 p479 q479
          cases e479
          replace hx479_0 := (HB.out.cell (World.block_lt_of_cell? w _ hx479_0)).trans hx479_0
          replace hx479_1 := (HB.out.cell (World.block_lt_of_cell? w _ hx479_1)).trans hx479_1
          replace hx479_2 := (HB.out.cell (World.block_lt_of_cell? w _ hx479_2)).trans hx479_2
          replace hx479_3 := (HB.out.cell (World.block_lt_of_cell? w _ hx479_3)).trans hx479_3
          replace hx479_4 := (HB.out.cell (World.block_lt_of_cell? w _ hx479_4)).trans hx479_4
          have HR479_1 := Aside0.mk hi479_1
          have HC479_1 := Aside0.mk hl479_1
          clear hi479_1 hl479_1
          have HR479_2 := Aside0.mk hi479_2
          have HC479_2 := Aside0.mk hl479_2
          clear hi479_2 hl479_2
          replace p479 := eq_true p479
          replace q479 := eq_true q479
          go_wp2_with (first|((with_reducible refine gate_dst (N := 10) rfl ?_);refine box_event ?hg (N := 10) ?hd (cs := #[.string (⟨#[]⟩ : ByteArray),.slice none 0 0,.slice none 0 0,.string (⟨#[]⟩ : ByteArray),.string (⟨#[]⟩ : ByteArray)]) (t := 31) ?hr ?_;(case hd => rfl);(case hg => rfl);(case hr => first|(go_simp;done)|(go_simp;rfl));intro gb480 hg w22 hbox hb;have n0_ := Aside0.mk (below_step (by repeat (first|(with_reducible first|exact HB.out|apply lA|apply lN|apply lD)|exact HB.out)) hb);have n1_ := Aside0.mk (hbox);have n2_ := Aside0.mk ((by rw [hg];exact (below_size (by repeat (first|(with_reducible first|exact HB.out|apply lA|apply lN|apply lD)|exact HB.out))) : w.heap.size ≤ gb480));have n3_ := Aside0.mk ((by rw [hg];exact (below_size (by repeat (first|(with_reducible first|exact HB.out|apply lA|apply lN|apply lD)|exact HB.out))) : w.heap.size ≤ gb480));clear HB;have HB := n0_;have BK480 := n1_;have GW480 := n2_;have GE480 := n3_;clear n0_ n1_ n2_ n3_;clear hb hbox hg;have hcz23_0 : w22.cell? ⟨gb480,0,none⟩ = some (.string (⟨#[]⟩ : ByteArray)) := (blk_cell BK480.out 0).trans rfl;have hcz23_1 : w22.cell? ⟨gb480,1,none⟩ = some (.slice none 0 0) := (blk_cell BK480.out 1).trans rfl;have hcz23_2 : w22.cell? ⟨gb480,2,none⟩ = some (.slice none 0 0) := (blk_cell BK480.out 2).trans rfl;have hcz23_3 : w22.cell? ⟨gb480,3,none⟩ = some (.string (⟨#[]⟩ : ByteArray)) := (blk_cell BK480.out 3).trans rfl;have hcz23_4 : w22.cell? ⟨gb480,4,none⟩ = some (.string (⟨#[]⟩ : ByteArray)) := (blk_cell BK480.out 4).trans rfl;have hfz23_0 := blk_frozen BK480.out 0;have hfz23_1 := blk_frozen BK480.out 1;have hfz23_2 := blk_frozen BK480.out 2;have hfz23_3 := blk_frozen BK480.out 3;have hfz23_4 := blk_frozen BK480.out 4)|((with_reducible refine gate_callee (f := 51) rfl ?_);refine goesL_ (some 33) rfl rfl Try.func51 (by kernel_rfl) rfl #[.agg #[.string ((rd_T31 l0 x26_2).f0),.slice A479_1 ((rd_T31 l0 x26_2).f1).length c479_1,.slice A479_2 ((rd_T31 l0 x26_2).f2).length c479_2,.string ((rd_T31 l0 x26_2).f3),.string ((rd_T31 l0 x26_2).f4)],.string a1] rfl (by (try simp only [List.map_toArray,List.map_cons,List.map_nil]);first|done|rfl|(simp only [List.length_drop,List.length_take];rfl)) ?_;(with_reducible refine (impl_termIndex.calls ((rd_T31 l0 x26_2).f0) _ _ ((rd_T31 l0 x26_2).f1) _ _ ((rd_T31 l0 x26_2).f2) ((rd_T31 l0 x26_2).f3) ((rd_T31 l0 x26_2).f4) a1 t481 _ ?side1 ?side2 ?side3 ?side4 A14.out).mono ?_);(case side1 => exact Kd.C_below HR479_1.out (by repeat (first|(with_reducible first|exact HB.out|apply lA|apply lN|apply lD|refine below_set ?_ GE480.out)|exact HB.out)));(case side2 => exact HC479_1.out);(case side3 => exact Kd.C_below HR479_2.out (by repeat (first|(with_reducible first|exact HB.out|apply lA|apply lN|apply lD|refine below_set ?_ GE480.out)|exact HB.out)));(case side4 => exact HC479_2.out);rintro e w24 ⟨rfl,hb⟩;refine ⟨_,rfl,?_⟩;have n0_ := Aside0.mk (blk_below (g := gb480) (o := .cells #[.string ((rd_T31 l0 x26_2).f0),.slice A479_1 ((rd_T31 l0 x26_2).f1).length c479_1,.slice A479_2 ((rd_T31 l0 x26_2).f2).length c479_2,.string ((rd_T31 l0 x26_2).f3),.string ((rd_T31 l0 x26_2).f4)] 31 (0,0)) (by (with_reducible repeat (first|refine bN ?_ _|refine bD ?_|refine bA ?_ _));refine blk_put (cs := #[.string ((rd_T31 l0 x26_2).f0),.slice A479_1 ((rd_T31 l0 x26_2).f1).length c479_1,.slice A479_2 ((rd_T31 l0 x26_2).f2).length c479_2,.string ((rd_T31 l0 x26_2).f3),.string (⟨#[]⟩ : ByteArray)]) ?_ 4 _ rfl;(with_reducible repeat (first|refine bN ?_ _|refine bD ?_|refine bA ?_ _));refine blk_put (cs := #[.string ((rd_T31 l0 x26_2).f0),.slice A479_1 ((rd_T31 l0 x26_2).f1).length c479_1,.slice A479_2 ((rd_T31 l0 x26_2).f2).length c479_2,.string (⟨#[]⟩ : ByteArray),.string (⟨#[]⟩ : ByteArray)]) ?_ 3 _ rfl;(with_reducible repeat (first|refine bN ?_ _|refine bD ?_|refine bA ?_ _));refine blk_put (cs := #[.string ((rd_T31 l0 x26_2).f0),.slice A479_1 ((rd_T31 l0 x26_2).f1).length c479_1,.slice none 0 0,.string (⟨#[]⟩ : ByteArray),.string (⟨#[]⟩ : ByteArray)]) ?_ 2 _ rfl;(with_reducible repeat (first|refine bN ?_ _|refine bD ?_|refine bA ?_ _));refine blk_put (cs := #[.string ((rd_T31 l0 x26_2).f0),.slice none 0 0,.slice none 0 0,.string (⟨#[]⟩ : ByteArray),.string (⟨#[]⟩ : ByteArray)]) ?_ 1 _ rfl;(with_reducible repeat (first|refine bN ?_ _|refine bD ?_|refine bA ?_ _));refine blk_put (cs := #[.string (⟨#[]⟩ : ByteArray),.slice none 0 0,.slice none 0 0,.string (⟨#[]⟩ : ByteArray),.string (⟨#[]⟩ : ByteArray)]) ?_ 0 _ rfl;(with_reducible repeat (first|refine bN ?_ _|refine bD ?_|refine bA ?_ _));exact BK480.out) hb);have n1_ := Aside0.mk (below_step (by repeat (first|(with_reducible first|exact HB.out|apply lA|apply lN|apply lD|refine below_set ?_ GE480.out)|exact HB.out)) hb);clear BK480;clear HB;have BK480 := n0_;have HB := n1_;clear n0_ n1_;(try clear hb);(try clear hb2);(try clear hk);(try clear hi)))
          go_roundg k2
          case measure => have := HJ3.out;have := HK2.out;omega
          case rel => exact ⟨(wrap64 (x26_2 + 1)),(by first|rfl|(simp;done)|(simp [my_isEmpty];done)|(simp [*];done)),H',⟨by have := HJ3.out;have := HK2.out;omega⟩,⟨by repeat (first|(with_reducible first|exact HB.out|apply lA|apply lN|apply lD|refine below_set ?_ GE480.out)|exact HB.out)⟩⟩
        ·rw [if_neg c13] at H
         exact absurd H (by simp)
       ·rw [if_neg c12] at H
        exact absurd H (by simp)
      ·rw [if_neg c11] at H
       have c11b0 : decide (x26_2 < (l0.length : Int)) = false := decide_eq_false c11
       clear c11
       simp only [Option.some.injEq,Prod.mk.injEq] at H
       obtain ⟨rfl,rfl,rfl⟩ := H
       go_wp2
       go_ret3
       exact ⟨by first|rfl|(simp [errW_none,errW_some] <;> rfl)|(simp [*,errW_none,errW_some] <;> rfl),by repeat (first|(with_reducible first|exact HB.out|apply lA|apply lN|apply lD)|exact HB.out)⟩
end Go.Proofs.Ytmkkcpdpfelalaa.P
