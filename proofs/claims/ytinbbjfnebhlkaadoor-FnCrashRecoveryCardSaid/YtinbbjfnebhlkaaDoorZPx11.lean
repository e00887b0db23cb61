/- Written by a program in this session: each theorem here says that a Go function computes the Lean function beside it, or that a law's row holds, under the conditions that the theorem itself states. -/
import Derived.Test.YtinbbjfnebhlkaaDoorZPx0
import Derived.Test.YtinbbjfnebhlkaaDoorZPx1
import Derived.Test.YtinbbjfnebhlkaaDoorZPx5
import Derived.Test.YtinbbjfnebhlkaaDoorZPx7
import Derived.Test.YtinbbjfnebhlkaaDoorZPx10
namespace Go.Proofs.YtinbbjfnebhlkaaDoor.P
open Go.RowKit Go.Proofs.YtinbbjfnebhlkaaDoorW.PrintWords Go.Proofs.YtinbbjfnebhlkaaDoorW.PrintLast Go.Proofs.YtinbbjfnebhlkaaDoorW.PrintMore
attribute [local go_sem] max2_int min2_int max_two min_two max_three min_three max_four min_four   -- for this text's walks alone
set_option linter.unusedVariables false
set_option linter.unusedSimpArgs false
attribute [local go_sem high] eqA27
mutual
def laws_FnCrashRecovery.j0 : Nat → ByteArray → Bool → Bool → ByteArray → ByteArray → Int → Option (Bool)
 | 0,_,_,_,_,_,_ => none
 | k + 1,x6,x7,x47,x378000,x378001,x378002 => if x47 = true then (some false) else (if x7 = true then ((impl_RecoverLog.f k x6).bind fun bt382 => ((impl_LogRecords.f k bt382.1 bt382.2.1 bt382.2.2.1).bind fun bt388 => ((spec_LogRecords.f k x378000 x378001 x378002).bind fun bt392 => (if bt382.2.2.2.2 = true then (if bt382.2.2.2.1 > (x6.size : Int) then (laws_FnCrashRecovery.j1 k x6 bt382.2.2.2.1 bt388.1 bt392.1 true bt382.1 bt382.2.1 bt382.2.2.1) else (if bt382.2.2.2.1 < (x378000.size : Int) then (laws_FnCrashRecovery.j1 k x6 bt382.2.2.2.1 bt388.1 bt392.1 true bt382.1 bt382.2.1 bt382.2.2.1) else (laws_FnCrashRecovery.j1 k x6 bt382.2.2.2.1 bt388.1 bt392.1 (decide ((bt388.1.length : Int) > (bt392.1.length : Int))) bt382.1 bt382.2.1 bt382.2.2.1))) else (laws_FnCrashRecovery.j1 k x6 bt382.2.2.2.1 bt388.1 bt392.1 true bt382.1 bt382.2.1 bt382.2.2.1))))) else (some (x6.toList == ([] : List UInt8))))
def laws_FnCrashRecovery.j1 : Nat → ByteArray → Int → List (S27) → List (S27) → Bool → ByteArray → ByteArray → Int → Option (Bool)
 | 0,_,_,_,_,_,_,_,_ => none
 | k + 1,x6,x11,x13,x15,x89,x388000,x388001,x388002 => if x89 = true then (some false) else (laws_FnCrashRecovery.l0 k x6 x11 x13 x15 0 x388000 x388001 x388002)
def laws_FnCrashRecovery.l0 : Nat → ByteArray → Int → List (S27) → List (S27) → Int → ByteArray → ByteArray → Int → Option (Bool)
 | 0,_,_,_,_,_,_,_,_ => none
 | k + 1,x6,x11,x13,x15,x17,x388000,x388001,x388002 => if x17 < (x13.length : Int) then (if 0 ≤ x17 then (if x17 < (x15.length : Int) then (if (!((((rd_T27 x13 x17).f0).toList) == (((rd_T27 x15 x17).f0).toList)) || (!((((rd_T27 x13 x17).f1).toList) == (((rd_T27 x15 x17).f1).toList)))) = true then (some false) else (laws_FnCrashRecovery.l0 k x6 x11 x13 x15 (wrap64 (x17 + 1)) x388000 x388001 x388002)) else (none)) else (none)) else ((impl_IsValidLog.f k x388000 x388001 x388002).bind fun t398 => (if t398 = true then (if 0 ≤ x11 then (if x11 ≤ (x6.size : Int) then (some (x388000.toList == (x6.extract 0 (x11 : Int).toNat).toList)) else (none)) else (none)) else (some false)))
end
def laws_FnCrashRecovery.f (k : Nat) (l0 : List Int) : Option (Bool) := (laws_vBig.f l0).bind fun t371 => (if t371 = true then (some true) else ((spec_DrawCrashLog.f k l0).bind fun bt372 => ((impl_CrashLog.f k bt372.1 bt372.2.1 bt372.2.2.1 bt372.2.2.2.1 bt372.2.2.2.2).bind fun bt378 => ((spec_CrashLog.f k bt372.1 bt372.2.1 bt372.2.2.1 bt372.2.2.2.1 bt372.2.2.2.2).bind fun bt380 => (if bt378.1.toList = bt380.1.toList then (laws_FnCrashRecovery.j0 k bt378.1 bt378.2 (bt378.2 != bt380.2) bt372.1 bt372.2.1 bt372.2.2.1) else (laws_FnCrashRecovery.j0 k bt378.1 bt378.2 true bt372.1 bt372.2.1 bt372.2.2.1))))))
theorem laws_FnCrashRecovery.mono_l : ∀ k,(∀ y0 y1 y2 y3 y4 y5,LeO (laws_FnCrashRecovery.j0 k y0 y1 y2 y3 y4 y5) (laws_FnCrashRecovery.j0 (k + 1) y0 y1 y2 y3 y4 y5)) ∧ (∀ y0 y1 y2 y3 y4 y5 y6 y7,LeO (laws_FnCrashRecovery.j1 k y0 y1 y2 y3 y4 y5 y6 y7) (laws_FnCrashRecovery.j1 (k + 1) y0 y1 y2 y3 y4 y5 y6 y7)) ∧ (∀ y0 y1 y2 y3 y4 y5 y6 y7,LeO (laws_FnCrashRecovery.l0 k y0 y1 y2 y3 y4 y5 y6 y7) (laws_FnCrashRecovery.l0 (k + 1) y0 y1 y2 y3 y4 y5 y6 y7))
 | 0 => ⟨fun _ _ _ _ _ _ r h => by simp [laws_FnCrashRecovery.j0] at h,fun _ _ _ _ _ _ _ _ r h => by simp [laws_FnCrashRecovery.j1] at h,fun _ _ _ _ _ _ _ _ r h => by simp [laws_FnCrashRecovery.l0] at h⟩
 | k + 1 => by
  obtain ⟨ih0,ih1,ih2⟩ := laws_FnCrashRecovery.mono_l k
  refine ⟨?_,?_,?_⟩
  ·intro y0 y1 y2 y3 y4 y5
   unfold laws_FnCrashRecovery.j0
   repeat' first
   | (with_reducible exact ih0 _ _ _ _ _ _)
   | (with_reducible exact ih1 _ _ _ _ _ _ _ _)
   | (with_reducible exact ih2 _ _ _ _ _ _ _ _)
   | (with_reducible exact impl_CrashLog.mono _ _ _ _ _ _)
   | (with_reducible exact impl_IsValidLog.mono _ _ _ _)
   | (with_reducible exact impl_LogRecords.mono _ _ _ _)
   | (with_reducible exact impl_RecoverLog.mono _ _)
   | (with_reducible exact spec_CrashLog.mono _ _ _ _ _ _)
   | (with_reducible exact spec_DrawCrashLog.mono _ _)
   | (with_reducible exact spec_LogRecords.mono _ _ _ _)
   | (with_reducible exact LeO.refl _)
   | (with_reducible exact LeO.none _)
   | (with_reducible refine LeO.ite ?_ ?_)
   | (with_reducible refine LeO.bind ?_ (fun _ => ?_))
   | exact ih0 _ _ _ _ _ _
   | exact ih1 _ _ _ _ _ _ _ _
   | exact ih2 _ _ _ _ _ _ _ _
   | exact impl_CrashLog.mono _ _ _ _ _ _
   | exact impl_IsValidLog.mono _ _ _ _
   | exact impl_LogRecords.mono _ _ _ _
   | exact impl_RecoverLog.mono _ _
   | exact spec_CrashLog.mono _ _ _ _ _ _
   | exact spec_DrawCrashLog.mono _ _
   | exact spec_LogRecords.mono _ _ _ _
   | exact LeO.none _
   | refine LeO.ite ?_ ?_
   | refine LeO.bind ?_ (fun _ => ?_)
  ·intro y0 y1 y2 y3 y4 y5 y6 y7
   unfold laws_FnCrashRecovery.j1
   repeat' first
   | (with_reducible exact ih0 _ _ _ _ _ _)
   | (with_reducible exact ih1 _ _ _ _ _ _ _ _)
   | (with_reducible exact ih2 _ _ _ _ _ _ _ _)
   | (with_reducible exact impl_CrashLog.mono _ _ _ _ _ _)
   | (with_reducible exact impl_IsValidLog.mono _ _ _ _)
   | (with_reducible exact impl_LogRecords.mono _ _ _ _)
   | (with_reducible exact impl_RecoverLog.mono _ _)
   | (with_reducible exact spec_CrashLog.mono _ _ _ _ _ _)
   | (with_reducible exact spec_DrawCrashLog.mono _ _)
   | (with_reducible exact spec_LogRecords.mono _ _ _ _)
   | (with_reducible exact LeO.refl _)
   | (with_reducible exact LeO.none _)
   | (with_reducible refine LeO.ite ?_ ?_)
   | (with_reducible refine LeO.bind ?_ (fun _ => ?_))
   | exact ih0 _ _ _ _ _ _
   | exact ih1 _ _ _ _ _ _ _ _
   | exact ih2 _ _ _ _ _ _ _ _
   | exact impl_CrashLog.mono _ _ _ _ _ _
   | exact impl_IsValidLog.mono _ _ _ _
   | exact impl_LogRecords.mono _ _ _ _
   | exact impl_RecoverLog.mono _ _
   | exact spec_CrashLog.mono _ _ _ _ _ _
   | exact spec_DrawCrashLog.mono _ _
   | exact spec_LogRecords.mono _ _ _ _
   | exact LeO.none _
   | refine LeO.ite ?_ ?_
   | refine LeO.bind ?_ (fun _ => ?_)
  ·intro y0 y1 y2 y3 y4 y5 y6 y7
   unfold laws_FnCrashRecovery.l0
   repeat' first
   | (with_reducible exact ih0 _ _ _ _ _ _)
   | (with_reducible exact ih1 _ _ _ _ _ _ _ _)
   | (with_reducible exact ih2 _ _ _ _ _ _ _ _)
   | (with_reducible exact impl_CrashLog.mono _ _ _ _ _ _)
   | (with_reducible exact impl_IsValidLog.mono _ _ _ _)
   | (with_reducible exact impl_LogRecords.mono _ _ _ _)
   | (with_reducible exact impl_RecoverLog.mono _ _)
   | (with_reducible exact spec_CrashLog.mono _ _ _ _ _ _)
   | (with_reducible exact spec_DrawCrashLog.mono _ _)
   | (with_reducible exact spec_LogRecords.mono _ _ _ _)
   | (with_reducible exact LeO.refl _)
   | (with_reducible exact LeO.none _)
   | (with_reducible refine LeO.ite ?_ ?_)
   | (with_reducible refine LeO.bind ?_ (fun _ => ?_))
   | exact ih0 _ _ _ _ _ _
   | exact ih1 _ _ _ _ _ _ _ _
   | exact ih2 _ _ _ _ _ _ _ _
   | exact impl_CrashLog.mono _ _ _ _ _ _
   | exact impl_IsValidLog.mono _ _ _ _
   | exact impl_LogRecords.mono _ _ _ _
   | exact impl_RecoverLog.mono _ _
   | exact spec_CrashLog.mono _ _ _ _ _ _
   | exact spec_DrawCrashLog.mono _ _
   | exact spec_LogRecords.mono _ _ _ _
   | exact LeO.none _
   | refine LeO.ite ?_ ?_
   | refine LeO.bind ?_ (fun _ => ?_)
theorem laws_FnCrashRecovery.mono : ∀ a0 k,LeO (laws_FnCrashRecovery.f k a0) (laws_FnCrashRecovery.f (k + 1) a0) := by
 intro a0 k
 obtain ⟨ih0,ih1,ih2⟩ := laws_FnCrashRecovery.mono_l k
 unfold laws_FnCrashRecovery.f
 repeat' first
   | (with_reducible exact ih0 _ _ _ _ _ _)
   | (with_reducible exact ih1 _ _ _ _ _ _ _ _)
   | (with_reducible exact ih2 _ _ _ _ _ _ _ _)
   | (with_reducible exact impl_CrashLog.mono _ _ _ _ _ _)
   | (with_reducible exact impl_IsValidLog.mono _ _ _ _)
   | (with_reducible exact impl_LogRecords.mono _ _ _ _)
   | (with_reducible exact impl_RecoverLog.mono _ _)
   | (with_reducible exact spec_CrashLog.mono _ _ _ _ _ _)
   | (with_reducible exact spec_DrawCrashLog.mono _ _)
   | (with_reducible exact spec_LogRecords.mono _ _ _ _)
   | (with_reducible exact LeO.refl _)
   | (with_reducible exact LeO.none _)
   | (with_reducible refine LeO.ite ?_ ?_)
   | (with_reducible refine LeO.bind ?_ (fun _ => ?_))
   | exact ih0 _ _ _ _ _ _
   | exact ih1 _ _ _ _ _ _ _ _
   | exact ih2 _ _ _ _ _ _ _ _
   | exact impl_CrashLog.mono _ _ _ _ _ _
   | exact impl_IsValidLog.mono _ _ _ _
   | exact impl_LogRecords.mono _ _ _ _
   | exact impl_RecoverLog.mono _ _
   | exact spec_CrashLog.mono _ _ _ _ _ _
   | exact spec_DrawCrashLog.mono _ _
   | exact spec_LogRecords.mono _ _ _ _
   | exact LeO.none _
   | refine LeO.ite ?_ ?_
   | refine LeO.bind ?_ (fun _ => ?_)
def laws_FnCrashRecovery.T18 : Bool × List (List Nat × List Nat) := (true,[([],[]),([],[]),([0,1],[0,1]),([2],[2]),([],[]),([],[]),([4,5],[4,5]),([6],[6]),([3,7],[3,7])])
def laws_FnCrashRecovery.B18 : List Nat := [0,0,3,7,0,0,48,112,255]
theorem laws_FnCrashRecovery.tab18 : rtab .any (opsOf Tryd.f12 18) = laws_FnCrashRecovery.T18 := by kernel_rfl
theorem laws_FnCrashRecovery.bits18 : waitsOk laws_FnCrashRecovery.T18.2 laws_FnCrashRecovery.B18 = true := by kernel_rfl
def laws_FnCrashRecovery.T20 : Bool × List (List Nat × List Nat) := (true,[([],[]),([0],[0]),([1,1],[1]),([2],[2]),([3,2],[2,3]),([2],[2]),([2],[2]),([5,6,2],[2,5,6]),([4,7,2],[2,4,7]),([2,8],[2,8]),([9,2,0,1,2,3,4,5,6,7,8,9],[9])])
def laws_FnCrashRecovery.B20 : List Nat := [0,1,3,7,15,7,7,103,255,511,1023]
theorem laws_FnCrashRecovery.tab20 : rtab .any (opsOf Tryd.f12 20) = laws_FnCrashRecovery.T20 := by kernel_rfl
theorem laws_FnCrashRecovery.bits20 : waitsOk laws_FnCrashRecovery.T20.2 laws_FnCrashRecovery.B20 = true := by kernel_rfl
set_option maxHeartbeats 8000000 in
set_option maxRecDepth 100000 in
theorem laws_FnCrashRecovery.calls (k : Nat) (A0 : Option Addr) (c0 : Nat) (l0 : List Int) (r : Bool) (w : World) (hr0 : Kd.C (Kd.int .u8) w A0 l0.length l0) (hc0 : l0.length ≤ c0) (hG : Gw w) (hr_ : r = true) (h : laws_FnCrashRecovery.f k l0 = some r) :
  Calls Tryd.prog 12 #[.slice A0 l0.length c0] w fun e w' => e = .returned (.bool r) ∧ Below w.heap.size w w' := by
 have hu31 := Tryd.underlying31
 have hu27 := Tryd.underlying27
 have HR0 := Aside0.mk hr0
 have HC0 := Aside0.mk hc0
 clear hr0 hc0
 have HB := Aside0.mk (Below.refl w.heap.size w)
 have HG := Aside0.mk hG
 clear hG
 have H : ((laws_vBig.f l0).bind fun t371 => (if t371 = true then (some true) else ((spec_DrawCrashLog.f k l0).bind fun bt372 => ((impl_CrashLog.f k bt372.1 bt372.2.1 bt372.2.2.1 bt372.2.2.2.1 bt372.2.2.2.2).bind fun bt378 => ((spec_CrashLog.f k bt372.1 bt372.2.1 bt372.2.2.1 bt372.2.2.2.1 bt372.2.2.2.2).bind fun bt380 => (if bt378.1.toList = bt380.1.toList then (laws_FnCrashRecovery.j0 k bt378.1 bt378.2 (bt378.2 != bt380.2) bt372.1 bt372.2.1 bt372.2.2.1) else (laws_FnCrashRecovery.j0 k bt378.1 bt378.2 true bt372.1 bt372.2.1 bt372.2.2.1))))))) = some r := h
 clear h
 replace H := Option.bind_eq_some_iff.mp H
 obtain ⟨t371,A20,H⟩ := H
 replace H : (if t371 = true then (some true) else ((spec_DrawCrashLog.f k l0).bind fun bt372 => ((impl_CrashLog.f k bt372.1 bt372.2.1 bt372.2.2.1 bt372.2.2.2.1 bt372.2.2.2.2).bind fun bt378 => ((spec_CrashLog.f k bt372.1 bt372.2.1 bt372.2.2.1 bt372.2.2.2.1 bt372.2.2.2.2).bind fun bt380 => (if bt378.1.toList = bt380.1.toList then (laws_FnCrashRecovery.j0 k bt378.1 bt378.2 (bt378.2 != bt380.2) bt372.1 bt372.2.1 bt372.2.2.1) else (laws_FnCrashRecovery.j0 k bt378.1 bt378.2 true bt372.1 bt372.2.1 bt372.2.2.1)))))) = some r := H
 have A2 := Aside0.mk A20
 clear A20
 by_cases c3 : t371 = true
 ·subst c3
  have H1 : (some true) = some r := by rw [if_pos rfl] at H;exact H
  clear H
  have H := H1
  clear H1
  obtain rfl := Option.some.inj H
  try clear hr_
  go_enter Tryd.func12,Tryd.ntmps12
  go_wp2_with (first|((with_reducible refine gate_callee (f := 35) rfl ?_);refine goesL_ (some 19) rfl rfl Tryd.func35 (by kernel_rfl) rfl #[.slice A0 l0.length c0] rfl (by (try simp only [List.map_toArray,List.map_cons,List.map_nil]);first|done|rfl|(simp only [List.length_drop,List.length_take];rfl)) ?_;(with_reducible refine (laws_vBig.calls _ _ l0 true _ ?side1 ?side2 A2.out).mono ?_);(case side1 => repeat (first|exact HR0.out|(with_reducible refine Kd.C_alloc ?_ _)|(with_reducible refine Kd.C_drewN ?_ _)|(with_reducible refine Kd.C_drew ?_)));(case side2 => exact HC0.out);rintro e w' ⟨rfl,⟨nd,rfl⟩⟩;refine ⟨_,rfl,?_⟩))
  go_ret
  exact ⟨by first|rfl|(simp [errW_none,errW_some] <;> rfl)|(simp [*,errW_none,errW_some] <;> rfl),by repeat (first|(with_reducible first|exact HB.out|apply lA|apply lN|apply lD)|exact HB.out)⟩
 ·replace c3 := Bool.eq_false_iff.mpr c3
  subst c3
  have H1 : ((spec_DrawCrashLog.f k l0).bind fun bt372 => ((impl_CrashLog.f k bt372.1 bt372.2.1 bt372.2.2.1 bt372.2.2.2.1 bt372.2.2.2.2).bind fun bt378 => ((spec_CrashLog.f k bt372.1 bt372.2.1 bt372.2.2.1 bt372.2.2.2.1 bt372.2.2.2.2).bind fun bt380 => (if bt378.1.toList = bt380.1.toList then (laws_FnCrashRecovery.j0 k bt378.1 bt378.2 (bt378.2 != bt380.2) bt372.1 bt372.2.1 bt372.2.2.1) else (laws_FnCrashRecovery.j0 k bt378.1 bt378.2 true bt372.1 bt372.2.1 bt372.2.2.1))))) = some r := by rw [if_neg (show ¬ (false = true) by decide)] at H;exact H
  clear H
  have H := H1
  clear H1
  replace H := Option.bind_eq_some_iff.mp H
  obtain ⟨⟨t372,t373,t374,t375,t376⟩,A40,H⟩ := H
  replace H : ((impl_CrashLog.f k t372 t373 t374 t375 t376).bind fun bt378 => ((spec_CrashLog.f k t372 t373 t374 t375 t376).bind fun bt380 => (if bt378.1.toList = bt380.1.toList then (laws_FnCrashRecovery.j0 k bt378.1 bt378.2 (bt378.2 != bt380.2) t372 t373 t374) else (laws_FnCrashRecovery.j0 k bt378.1 bt378.2 true t372 t373 t374)))) = some r := H
  have A4 := Aside0.mk A40
  clear A40
  replace H := Option.bind_eq_some_iff.mp H
  obtain ⟨⟨t378,t379⟩,A50,H⟩ := H
  replace H : ((spec_CrashLog.f k t372 t373 t374 t375 t376).bind fun bt380 => (if t378.toList = bt380.1.toList then (laws_FnCrashRecovery.j0 k t378 t379 (t379 != bt380.2) t372 t373 t374) else (laws_FnCrashRecovery.j0 k t378 t379 true t372 t373 t374))) = some r := H
  have A5 := Aside0.mk A50
  clear A50
  replace H := Option.bind_eq_some_iff.mp H
  obtain ⟨⟨t380,t381⟩,A60,H⟩ := H
  replace H : (if t378.toList = t380.toList then (laws_FnCrashRecovery.j0 k t378 t379 (t379 != t381) t372 t373 t374) else (laws_FnCrashRecovery.j0 k t378 t379 true t372 t373 t374)) = some r := H
  have A6 := Aside0.mk A60
  clear A60
  have HC7 := Aside0.mk H
  clear H
  go_enter Tryd.func12,Tryd.ntmps12
  go_upto_region 6 with (first|((with_reducible refine gate_callee (f := 35) rfl ?_);refine goesL_ (some 19) rfl rfl Tryd.func35 (by kernel_rfl) rfl #[.slice A0 l0.length c0] rfl (by (try simp only [List.map_toArray,List.map_cons,List.map_nil]);first|done|rfl|(simp only [List.length_drop,List.length_take];rfl)) ?_;(with_reducible refine (laws_vBig.calls _ _ l0 false _ ?side1 ?side2 A2.out).mono ?_);(case side1 => repeat (first|exact HR0.out|(with_reducible refine Kd.C_alloc ?_ _)|(with_reducible refine Kd.C_drewN ?_ _)|(with_reducible refine Kd.C_drew ?_)));(case side2 => exact HC0.out);rintro e w' ⟨rfl,⟨nd,rfl⟩⟩;refine ⟨_,rfl,?_⟩)|((with_reducible refine gate_callee (f := 41) rfl ?_);refine goesL_ (some 22) rfl rfl Tryd.func41 (by kernel_rfl) rfl #[.slice A0 l0.length c0] rfl (by (try simp only [List.map_toArray,List.map_cons,List.map_nil]);first|done|rfl|(simp only [List.length_drop,List.length_take];rfl)) ?_;(with_reducible refine (spec_DrawCrashLog.calls k _ _ l0 t372 t373 t374 t375 t376 _ ?side1 ?side2 A4.out).mono ?_);(case side1 => repeat (first|exact HR0.out|(with_reducible refine Kd.C_alloc ?_ _)|(with_reducible refine Kd.C_drewN ?_ _)|(with_reducible refine Kd.C_drew ?_)));(case side2 => exact HC0.out);rintro e w8 ⟨rfl,hb⟩;refine ⟨_,rfl,?_⟩;have n0_ := Aside0.mk (below_step (by repeat (first|(with_reducible first|exact HB.out|apply lA|apply lN|apply lD)|exact HB.out)) hb);clear HB;have HB := n0_;clear n0_;(try clear hb);(try clear hb2);(try clear hk);(try clear hi))|((with_reducible refine gate_dst (N := 3) rfl ?_);(try (refine gate_guard (by rfl) ?_;dsimp only));refine box_event ?hg (N := 3) ?hd (cs := #[.string (⟨#[]⟩ : ByteArray),.string (⟨#[]⟩ : ByteArray),.int .i64 0]) (t := 31) ?hr ?_;(case hd => rfl);(case hg => rfl);(case hr => first|(go_simp;done)|(go_simp;rfl));intro gb377 hg w9 hbox hb;have n0_ := Aside0.mk (below_step (by repeat (first|(with_reducible first|exact HB.out|apply lA|apply lN|apply lD)|exact HB.out)) hb);have n1_ := Aside0.mk (hbox);have n2_ := Aside0.mk ((by rw [hg];exact (below_size (by repeat (first|(with_reducible first|exact HB.out|apply lA|apply lN|apply lD)|exact HB.out))) : w.heap.size ≤ gb377));have n3_ := Aside0.mk ((by rw [hg];exact (below_size (by repeat (first|(with_reducible first|exact HB.out|apply lA|apply lN|apply lD)|exact HB.out))) : w.heap.size ≤ gb377));clear HB;have HB := n0_;have BK377 := n1_;have GW377 := n2_;have GE377 := n3_;clear n0_ n1_ n2_ n3_;clear hb hbox hg;have hcz10_0 : w9.cell? ⟨gb377,0,none⟩ = some (.string (⟨#[]⟩ : ByteArray)) := (blk_cell BK377.out 0).trans rfl;have hcz10_1 : w9.cell? ⟨gb377,1,none⟩ = some (.string (⟨#[]⟩ : ByteArray)) := (blk_cell BK377.out 1).trans rfl;have hcz10_2 : w9.cell? ⟨gb377,2,none⟩ = some (.int .i64 0) := (blk_cell BK377.out 2).trans rfl;have hfz10_0 := blk_frozen BK377.out 0;have hfz10_1 := blk_frozen BK377.out 1;have hfz10_2 := blk_frozen BK377.out 2)|((with_reducible refine gate_callee (f := 25) rfl ?_);refine goesL_ (some 30) rfl rfl Tryd.func25 (by kernel_rfl) rfl #[.agg #[.string t372,.string t373,.int .i64 t374],.int .i64 t375,.bool t376] rfl (by (try simp only [List.map_toArray,List.map_cons,List.map_nil]);first|done|rfl|(simp only [List.length_drop,List.length_take];rfl)) ?_;(with_reducible refine (impl_CrashLog.calls k t372 t373 t374 t375 t376 t378 t379 _ ?side1 A5.out).mono ?_);(case side1 => exact Gw.below HG.out (by repeat (first|(with_reducible first|exact HB.out|apply lA|apply lN|apply lD|refine below_set ?_ GE377.out)|exact HB.out)));rintro e w11 ⟨rfl,hb⟩;refine ⟨_,rfl,?_⟩;have n0_ := Aside0.mk (blk_below (g := gb377) (o := .cells #[.string t372,.string t373,.int .i64 t374] 31 (0,0)) (by (with_reducible repeat (first|refine bN ?_ _|refine bD ?_|refine bA ?_ _));refine blk_put (cs := #[.string t372,.string t373,.int .i64 0]) ?_ 2 _ rfl;(with_reducible repeat (first|refine bN ?_ _|refine bD ?_|refine bA ?_ _));refine blk_put (cs := #[.string t372,.string (⟨#[]⟩ : ByteArray),.int .i64 0]) ?_ 1 _ rfl;(with_reducible repeat (first|refine bN ?_ _|refine bD ?_|refine bA ?_ _));refine blk_put (cs := #[.string (⟨#[]⟩ : ByteArray),.string (⟨#[]⟩ : ByteArray),.int .i64 0]) ?_ 0 _ rfl;(with_reducible repeat (first|refine bN ?_ _|refine bD ?_|refine bA ?_ _));exact BK377.out) hb);have n1_ := Aside0.mk (below_step (by repeat (first|(with_reducible first|exact HB.out|apply lA|apply lN|apply lD|refine below_set ?_ GE377.out)|exact HB.out)) hb);clear BK377;clear HB;have BK377 := n0_;have HB := n1_;clear n0_ n1_;(try clear hb);(try clear hb2);(try clear hk);(try clear hi);have hcz12_0 : w11.cell? ⟨gb377,0,none⟩ = some (.string t372) := (blk_cell BK377.out 0).trans rfl;have hcz12_1 : w11.cell? ⟨gb377,1,none⟩ = some (.string t373) := (blk_cell BK377.out 1).trans rfl;have hcz12_2 : w11.cell? ⟨gb377,2,none⟩ = some (.int .i64 t374) := (blk_cell BK377.out 2).trans rfl;have hfz12_0 := blk_frozen BK377.out 0;have hfz12_1 := blk_frozen BK377.out 1;have hfz12_2 := blk_frozen BK377.out 2)|((with_reducible refine gate_callee (f := 24) rfl ?_);refine goesL_ (some 37) rfl rfl Tryd.func24 (by kernel_rfl) rfl #[.agg #[.string t372,.string t373,.int .i64 t374],.int .i64 t375,.bool t376] rfl (by (try simp only [List.map_toArray,List.map_cons,List.map_nil]);first|done|rfl|(simp only [List.length_drop,List.length_take];rfl)) ?_;(with_reducible refine (spec_CrashLog.calls k t372 t373 t374 t375 t376 t380 t381 _ A6.out).mono ?_);rintro e w13 ⟨rfl,hb⟩;refine ⟨_,rfl,?_⟩;have n0_ := Aside0.mk (blk_below (g := gb377) (o := .cells #[.string t372,.string t373,.int .i64 t374] 31 (0,0)) (by (with_reducible repeat (first|refine bN ?_ _|refine bD ?_|refine bA ?_ _));exact BK377.out) hb);have n1_ := Aside0.mk (below_step (by repeat (first|(with_reducible first|exact HB.out|apply lA|apply lN|apply lD|refine below_set ?_ GE377.out)|exact HB.out)) hb);clear BK377;clear HB;have BK377 := n0_;have HB := n1_;clear n0_ n1_;(try clear hb);(try clear hb2);(try clear hk);(try clear hi)))
  (try simp only [Act.put,List.setIfInBounds_toArray,List.set_cons_zero,List.set_cons_succ])
  go_cut [47] (fun v47 wc => ∃ (kq : Nat) (x47_6 : Bool),v47 = .bool x47_6 ∧ Aside0 (laws_FnCrashRecovery.j0 kq t378 t379 x47_6 t372 t373 t374 = some r) ∧ Aside0 (kq ≤ k) ∧ Aside0 (wc.heap[gb377]? = some (.cells #[.string t372,.string t373,.int .i64 t374] 31 (0,0))) ∧ Aside0 (Below w.heap.size w wc))
  case first =>
   have H := HC7.out
   clear HC7
   by_cases c14 : t378.toList = t380.toList
   ·rw [if_pos c14] at H
    have c14b0 : (t378.toList == t380.toList) = true := beq_iff_eq.mpr c14
    have c14b1 : (t378.toList != t380.toList) = false := bne_eq_false_iff_eq.mpr c14
    clear c14
    (first|rw [c14b0]|(simp only [i64_w,i32_w];rw [c14b0])|skip)
    have H' := Aside0.mk H
    clear H
    go_wp2
    go_meet
    case rel => exact ⟨_,((t379 != t381)),(by first|rfl|(simp;done)|(simp [my_isEmpty];done)|(simp [*];done)),H',⟨by first|omega|exact Nat.le_refl _⟩,⟨by (with_reducible repeat (first|refine bN ?_ _|refine bD ?_|refine bA ?_ _));exact BK377.out⟩,⟨by repeat (first|(with_reducible first|exact HB.out|apply lA|apply lN|apply lD|refine below_set ?_ GE377.out)|exact HB.out)⟩⟩
   ·rw [if_neg c14] at H
    have c14b0 : (t378.toList == t380.toList) = false := beq_eq_false_iff_ne.mpr c14
    have c14b1 : (t378.toList != t380.toList) = true := bne_iff_ne.mpr c14
    (first|rw [c14b0]|(simp only [i64_w,i32_w];rw [c14b0])|skip)
    have H' := Aside0.mk H
    clear H
    go_wp2
    go_meet
    case rel => exact ⟨_,(true),(by first|rfl|(simp;done)|(simp [my_isEmpty];done)|(simp [*];done)),H',⟨by first|omega|exact Nat.le_refl _⟩,⟨by (with_reducible repeat (first|refine bN ?_ _|refine bD ?_|refine bA ?_ _));exact BK377.out⟩,⟨by repeat (first|(with_reducible first|exact HB.out|apply lA|apply lN|apply lD|refine below_set ?_ GE377.out)|exact HB.out)⟩⟩
  case rest =>
   clear HC7
   try clear c1
   try clear c2
   try clear p2
   try clear c3
   try clear c4
   try clear c12
   try clear c14
   try clear c14b0
   try clear c14b1
   try clear hcz10_0
   try clear hcz10_1
   try clear hcz10_2
   try clear hcz12_0
   try clear hcz12_1
   try clear hcz12_2
   try clear hfz10_0
   try clear hfz10_1
   try clear hfz10_2
   try clear hfz12_0
   try clear hfz12_1
   try clear hfz12_2
   obtain ⟨kq,x47_6,rfl,HA,HJ6,BK377,HB⟩ := hcut
   cases kq with
   | zero => exact absurd HA.out (by simp [laws_FnCrashRecovery.j0])
   | succ kj6 =>
    have H := HA.out
    clear HA
    simp only [laws_FnCrashRecovery.j0] at H
    by_cases c15 : x47_6 = true
    ·subst c15
     have H1 : (some false) = some r := by rw [if_pos rfl] at H;exact H
     clear H
     have H := H1
     clear H1
     exact absurd ((Option.some.inj H).trans hr_) (by decide)
    ·replace c15 := Bool.eq_false_iff.mpr c15
     subst c15
     have H1 : (if t379 = true then ((impl_RecoverLog.f kj6 t378).bind fun bt382 => ((impl_LogRecords.f kj6 bt382.1 bt382.2.1 bt382.2.2.1).bind fun bt388 => ((spec_LogRecords.f kj6 t372 t373 t374).bind fun bt392 => (if bt382.2.2.2.2 = true then (if bt382.2.2.2.1 > (t378.size : Int) then (laws_FnCrashRecovery.j1 kj6 t378 bt382.2.2.2.1 bt388.1 bt392.1 true bt382.1 bt382.2.1 bt382.2.2.1) else (if bt382.2.2.2.1 < (t372.size : Int) then (laws_FnCrashRecovery.j1 kj6 t378 bt382.2.2.2.1 bt388.1 bt392.1 true bt382.1 bt382.2.1 bt382.2.2.1) else (laws_FnCrashRecovery.j1 kj6 t378 bt382.2.2.2.1 bt388.1 bt392.1 (decide ((bt388.1.length : Int) > (bt392.1.length : Int))) bt382.1 bt382.2.1 bt382.2.2.1))) else (laws_FnCrashRecovery.j1 kj6 t378 bt382.2.2.2.1 bt388.1 bt392.1 true bt382.1 bt382.2.1 bt382.2.2.1))))) else (some (t378.toList == ([] : List UInt8)))) = some r := by rw [if_neg (show ¬ (false = true) by decide)] at H;exact H
     clear H
     have H := H1
     clear H1
     by_cases c16 : t379 = true
     ·subst c16
      have H1 : ((impl_RecoverLog.f kj6 t378).bind fun bt382 => ((impl_LogRecords.f kj6 bt382.1 bt382.2.1 bt382.2.2.1).bind fun bt388 => ((spec_LogRecords.f kj6 t372 t373 t374).bind fun bt392 => (if bt382.2.2.2.2 = true then (if bt382.2.2.2.1 > (t378.size : Int) then (laws_FnCrashRecovery.j1 kj6 t378 bt382.2.2.2.1 bt388.1 bt392.1 true bt382.1 bt382.2.1 bt382.2.2.1) else (if bt382.2.2.2.1 < (t372.size : Int) then (laws_FnCrashRecovery.j1 kj6 t378 bt382.2.2.2.1 bt388.1 bt392.1 true bt382.1 bt382.2.1 bt382.2.2.1) else (laws_FnCrashRecovery.j1 kj6 t378 bt382.2.2.2.1 bt388.1 bt392.1 (decide ((bt388.1.length : Int) > (bt392.1.length : Int))) bt382.1 bt382.2.1 bt382.2.2.1))) else (laws_FnCrashRecovery.j1 kj6 t378 bt382.2.2.2.1 bt388.1 bt392.1 true bt382.1 bt382.2.1 bt382.2.2.1))))) = some r := by rw [if_pos rfl] at H;exact H
      clear H
      have H := H1
      clear H1
      replace H := Option.bind_eq_some_iff.mp H
      obtain ⟨⟨t382,t383,t384,t385,t386⟩,A170,H⟩ := H
      replace H : ((impl_LogRecords.f kj6 t382 t383 t384).bind fun bt388 => ((spec_LogRecords.f kj6 t372 t373 t374).bind fun bt392 => (if t386 = true then (if t385 > (t378.size : Int) then (laws_FnCrashRecovery.j1 kj6 t378 t385 bt388.1 bt392.1 true t382 t383 t384) else (if t385 < (t372.size : Int) then (laws_FnCrashRecovery.j1 kj6 t378 t385 bt388.1 bt392.1 true t382 t383 t384) else (laws_FnCrashRecovery.j1 kj6 t378 t385 bt388.1 bt392.1 (decide ((bt388.1.length : Int) > (bt392.1.length : Int))) t382 t383 t384))) else (laws_FnCrashRecovery.j1 kj6 t378 t385 bt388.1 bt392.1 true t382 t383 t384)))) = some r := H
      have A17 := Aside0.mk A170
      clear A170
      replace H := Option.bind_eq_some_iff.mp H
      obtain ⟨⟨t388,t391⟩,A180,H⟩ := H
      replace H : ((spec_LogRecords.f kj6 t372 t373 t374).bind fun bt392 => (if t386 = true then (if t385 > (t378.size : Int) then (laws_FnCrashRecovery.j1 kj6 t378 t385 t388 bt392.1 true t382 t383 t384) else (if t385 < (t372.size : Int) then (laws_FnCrashRecovery.j1 kj6 t378 t385 t388 bt392.1 true t382 t383 t384) else (laws_FnCrashRecovery.j1 kj6 t378 t385 t388 bt392.1 (decide ((t388.length : Int) > (bt392.1.length : Int))) t382 t383 t384))) else (laws_FnCrashRecovery.j1 kj6 t378 t385 t388 bt392.1 true t382 t383 t384))) = some r := H
      have A18 := Aside0.mk A180
      clear A180
      replace H := Option.bind_eq_some_iff.mp H
      obtain ⟨⟨t392,t395⟩,A190,H⟩ := H
      replace H : (if t386 = true then (if t385 > (t378.size : Int) then (laws_FnCrashRecovery.j1 kj6 t378 t385 t388 t392 true t382 t383 t384) else (if t385 < (t372.size : Int) then (laws_FnCrashRecovery.j1 kj6 t378 t385 t388 t392 true t382 t383 t384) else (laws_FnCrashRecovery.j1 kj6 t378 t385 t388 t392 (decide ((t388.length : Int) > (t392.length : Int))) t382 t383 t384))) else (laws_FnCrashRecovery.j1 kj6 t378 t385 t388 t392 true t382 t383 t384)) = some r := H
      have A19 := Aside0.mk A190
      clear A190
      have HC20 := Aside0.mk H
      clear H
      go_upto_region 13 with (first|((with_reducible refine gate_callee (f := 18) rfl ?_);refine goesL_ (some 54) rfl rfl Tryd.func18 (by kernel_rfl) rfl #[.string t378] rfl (by (try simp only [List.map_toArray,List.map_cons,List.map_nil]);first|done|rfl|(simp only [List.length_drop,List.length_take];rfl)) ?_;(with_reducible refine (impl_RecoverLog.calls kj6 t378 t382 t383 t384 t385 t386 _ ?side1 A17.out).mono ?_);(case side1 => exact Gw.below HG.out (by repeat (first|(with_reducible first|exact HB.out|apply lA|apply lN|apply lD|refine below_set ?_ GE377.out)|exact HB.out)));rintro e w21 ⟨rfl,hb⟩;refine ⟨_,rfl,?_⟩;have n0_ := Aside0.mk (blk_below (g := gb377) (o := .cells #[.string t372,.string t373,.int .i64 t374] 31 (0,0)) (by (with_reducible repeat (first|refine bN ?_ _|refine bD ?_|refine bA ?_ _));exact BK377.out) hb);have n1_ := Aside0.mk (below_step (by repeat (first|(with_reducible first|exact HB.out|apply lA|apply lN|apply lD|refine below_set ?_ GE377.out)|exact HB.out)) hb);clear BK377;clear HB;have BK377 := n0_;have HB := n1_;clear n0_ n1_;(try clear hb);(try clear hb2);(try clear hk);(try clear hi))|((with_reducible refine gate_dst (N := 10) rfl ?_);(try (refine gate_guard (by rfl) ?_;dsimp only));refine box_event ?hg (N := 10) ?hd (cs := #[.string (⟨#[]⟩ : ByteArray),.string (⟨#[]⟩ : ByteArray),.int .i64 0]) (t := 31) ?hr ?_;(case hd => rfl);(case hg => rfl);(case hr => first|(go_simp;done)|(go_simp;rfl));intro gb387 hg w22 hbox hb;have n0_ := Aside0.mk (blk_below (g := gb377) (o := .cells #[.string t372,.string t373,.int .i64 t374] 31 (0,0)) (by (with_reducible repeat (first|refine bN ?_ _|refine bD ?_|refine bA ?_ _));exact BK377.out) hb);have n1_ := Aside0.mk (below_step (by repeat (first|(with_reducible first|exact HB.out|apply lA|apply lN|apply lD|refine below_set ?_ GE377.out)|exact HB.out)) hb);have n2_ := Aside0.mk (hbox);have n3_ := Aside0.mk ((by rw [hg];exact (below_size (by repeat (first|(with_reducible first|exact HB.out|apply lA|apply lN|apply lD|refine below_set ?_ GE377.out)|exact HB.out))) : w.heap.size ≤ gb387));have n4_ := Aside0.mk ((by rw [hg];exact (below_size (by repeat (first|(with_reducible first|exact HB.out|apply lA|apply lN|apply lD|refine below_set ?_ GE377.out)|exact HB.out))) : w.heap.size ≤ gb387));have n5_ := Aside0.mk ((by rw [hg];exact Nat.ne_of_lt (blk_lt (g := gb377) (o := .cells #[.string t372,.string t373,.int .i64 t374] 31 (0,0)) (by (with_reducible repeat (first|refine bN ?_ _|refine bD ?_|refine bA ?_ _));exact BK377.out)) : gb377 ≠ gb387));have n6_ := Aside0.mk ((by rw [hg];exact Nat.ne_of_gt (blk_lt (g := gb377) (o := .cells #[.string t372,.string t373,.int .i64 t374] 31 (0,0)) (by (with_reducible repeat (first|refine bN ?_ _|refine bD ?_|refine bA ?_ _));exact BK377.out)) : gb387 ≠ gb377));clear BK377;clear HB;have BK377 := n0_;have HB := n1_;have BK387 := n2_;have GW387 := n3_;have GE387 := n4_;have NB377_387 := n5_;have NB387_377 := n6_;clear n0_ n1_ n2_ n3_ n4_ n5_ n6_;clear hb hbox hg;have hnb23 := NB387_377.out;have hnc23 := NB377_387.out;have hcz24_0 : w22.cell? ⟨gb387,0,none⟩ = some (.string (⟨#[]⟩ : ByteArray)) := (blk_cell BK387.out 0).trans rfl;have hcz24_1 : w22.cell? ⟨gb387,1,none⟩ = some (.string (⟨#[]⟩ : ByteArray)) := (blk_cell BK387.out 1).trans rfl;have hcz24_2 : w22.cell? ⟨gb387,2,none⟩ = some (.int .i64 0) := (blk_cell BK387.out 2).trans rfl;have hfz24_0 := blk_frozen BK387.out 0;have hfz24_1 := blk_frozen BK387.out 1;have hfz24_2 := blk_frozen BK387.out 2)|((with_reducible refine gate_callee (f := 31) rfl ?_);refine goesL_ (some 60) rfl rfl Tryd.func31 (by kernel_rfl) rfl #[.agg #[.string t382,.string t383,.int .i64 t384]] rfl (by (try simp only [List.map_toArray,List.map_cons,List.map_nil]);first|done|rfl|(simp only [List.length_drop,List.length_take];rfl)) ?_;(with_reducible refine (impl_LogRecords.calls kj6 t382 t383 t384 t388 t391 _ ?side1 A18.out).mono ?_);(case side1 => exact Gw.below HG.out (by repeat (first|(with_reducible first|exact HB.out|apply lA|apply lN|apply lD|refine below_set ?_ GE377.out|refine below_set ?_ GE387.out)|exact HB.out)));rintro e w25 ⟨v389,rfl,ho0,hb⟩;refine ⟨_,rfl,?_⟩;have n0_ := Aside0.mk (Kd.R_lower ho0 (below_size (by repeat (first|(with_reducible first|exact HB.out|apply lA|apply lN|apply lD|refine below_set ?_ GE377.out|refine below_set ?_ GE387.out)|exact HB.out))));have n1_ := Aside0.mk (blk_below (g := gb377) (o := .cells #[.string t372,.string t373,.int .i64 t374] 31 (0,0)) (by (with_reducible repeat (first|refine bN ?_ _|refine bD ?_|refine bA ?_ _));refine blk_far ?_ NB377_387.out _;(with_reducible repeat (first|refine bN ?_ _|refine bD ?_|refine bA ?_ _));refine blk_far ?_ NB377_387.out _;(with_reducible repeat (first|refine bN ?_ _|refine bD ?_|refine bA ?_ _));refine blk_far ?_ NB377_387.out _;(with_reducible repeat (first|refine bN ?_ _|refine bD ?_|refine bA ?_ _));exact BK377.out) hb);have n2_ := Aside0.mk (blk_below (g := gb387) (o := .cells #[.string t382,.string t383,.int .i64 t384] 31 (0,0)) (by (with_reducible repeat (first|refine bN ?_ _|refine bD ?_|refine bA ?_ _));refine blk_put (cs := #[.string t382,.string t383,.int .i64 0]) ?_ 2 _ rfl;(with_reducible repeat (first|refine bN ?_ _|refine bD ?_|refine bA ?_ _));refine blk_put (cs := #[.string t382,.string (⟨#[]⟩ : ByteArray),.int .i64 0]) ?_ 1 _ rfl;(with_reducible repeat (first|refine bN ?_ _|refine bD ?_|refine bA ?_ _));refine blk_put (cs := #[.string (⟨#[]⟩ : ByteArray),.string (⟨#[]⟩ : ByteArray),.int .i64 0]) ?_ 0 _ rfl;(with_reducible repeat (first|refine bN ?_ _|refine bD ?_|refine bA ?_ _));exact BK387.out) hb);have n3_ := Aside0.mk (below_step (by repeat (first|(with_reducible first|exact HB.out|apply lA|apply lN|apply lD|refine below_set ?_ GE377.out|refine below_set ?_ GE387.out)|exact HB.out)) hb);clear BK377;clear BK387;clear HB;have HO390 := n0_;have BK377 := n1_;have BK387 := n2_;have HB := n3_;clear n0_ n1_ n2_ n3_;(try clear hb);(try clear hb2);(try clear hk);(try clear hi);(try clear ho0);have hcz26_0 : w25.cell? ⟨gb377,0,none⟩ = some (.string t372) := (blk_cell BK377.out 0).trans rfl;have hcz26_1 : w25.cell? ⟨gb377,1,none⟩ = some (.string t373) := (blk_cell BK377.out 1).trans rfl;have hcz26_2 : w25.cell? ⟨gb377,2,none⟩ = some (.int .i64 t374) := (blk_cell BK377.out 2).trans rfl;have hfz26_0 := blk_frozen BK377.out 0;have hfz26_1 := blk_frozen BK377.out 1;have hfz26_2 := blk_frozen BK377.out 2)|((with_reducible refine gate_callee (f := 30) rfl ?_);refine goesL_ (some 65) rfl rfl Tryd.func30 (by kernel_rfl) rfl #[.agg #[.string t372,.string t373,.int .i64 t374]] rfl (by (try simp only [List.map_toArray,List.map_cons,List.map_nil]);first|done|rfl|(simp only [List.length_drop,List.length_take];rfl)) ?_;(with_reducible refine (spec_LogRecords.calls kj6 t372 t373 t374 t392 t395 _ A19.out).mono ?_);rintro e w27 ⟨v393,rfl,ho0,hb⟩;refine ⟨_,rfl,?_⟩;have n0_ := Aside0.mk (Kd.R_elder' (by (with_reducible repeat (first|apply Kd.R_alloc|apply Kd.R_drewN|apply Kd.R_drew));exact HO390.out) (Kd.R_base ho0) hb);have n1_ := Aside0.mk (Kd.R_lower (Kd.R_new' ho0 (Kd.R_lt (by (with_reducible repeat (first|apply Kd.R_alloc|apply Kd.R_drewN|apply Kd.R_drew));exact HO390.out))) (below_size (by repeat (first|(with_reducible first|exact HB.out|apply lA|apply lN|apply lD|refine below_set ?_ GE377.out|refine below_set ?_ GE387.out)|exact HB.out))));have n2_ := Aside0.mk (blk_below (g := gb377) (o := .cells #[.string t372,.string t373,.int .i64 t374] 31 (0,0)) (by (with_reducible repeat (first|refine bN ?_ _|refine bD ?_|refine bA ?_ _));exact BK377.out) hb);have n3_ := Aside0.mk (blk_below (g := gb387) (o := .cells #[.string t382,.string t383,.int .i64 t384] 31 (0,0)) (by (with_reducible repeat (first|refine bN ?_ _|refine bD ?_|refine bA ?_ _));exact BK387.out) hb);have n4_ := Aside0.mk (below_step (by repeat (first|(with_reducible first|exact HB.out|apply lA|apply lN|apply lD|refine below_set ?_ GE377.out|refine below_set ?_ GE387.out)|exact HB.out)) hb);clear HO390;clear BK377;clear BK387;clear HB;have HO390 := n0_;have HO394 := n1_;have BK377 := n2_;have BK387 := n3_;have HB := n4_;clear n0_ n1_ n2_ n3_ n4_;(try clear hb);(try clear hb2);(try clear hk);(try clear hi);(try clear ho0)))
      (try simp only [Act.put,List.setIfInBounds_toArray,List.set_cons_zero,List.set_cons_succ])
      go_cut [89] (fun v89 wc => ∃ (kq : Nat) (x89_19 : Bool),v89 = .bool x89_19 ∧ Aside0 (laws_FnCrashRecovery.j1 kq t378 t385 t388 t392 x89_19 t382 t383 t384 = some r) ∧ Aside0 (kq ≤ kj6) ∧ Aside0 (Kd.R k27 27 wc w.heap.size (fun k_ => some k_ ≠ (v393 : Value).ownBlock) v389 t388) ∧ Aside0 (Kd.R k27 27 wc w.heap.size (fun k_ => some k_ ≠ (v389 : Value).ownBlock) v393 t392) ∧ Aside0 (wc.heap[gb377]? = some (.cells #[.string t372,.string t373,.int .i64 t374] 31 (0,0))) ∧ Aside0 (wc.heap[gb387]? = some (.cells #[.string t382,.string t383,.int .i64 t384] 31 (0,0))) ∧ Aside0 (Below w.heap.size w wc))
      case first =>
       have H := HC20.out
       clear HC20
       by_cases c28 : t386 = true
       ·subst c28
        have H1 : (if t385 > (t378.size : Int) then (laws_FnCrashRecovery.j1 kj6 t378 t385 t388 t392 true t382 t383 t384) else (if t385 < (t372.size : Int) then (laws_FnCrashRecovery.j1 kj6 t378 t385 t388 t392 true t382 t383 t384) else (laws_FnCrashRecovery.j1 kj6 t378 t385 t388 t392 (decide ((t388.length : Int) > (t392.length : Int))) t382 t383 t384))) = some r := by rw [if_pos rfl] at H;exact H
        clear H
        have H := H1
        clear H1
        by_cases c29 : t385 > (t378.size : Int)
        ·rw [if_pos c29] at H
         have c29b0 : decide ((t378.size : Int) < t385) = true := decide_eq_true c29
         clear c29
         (first|rw [c29b0]|(simp only [i64_w,i32_w];rw [c29b0])|skip)
         have H' := Aside0.mk H
         clear H
         go_wp2
         go_meet
         case rel => exact ⟨_,(true),(by first|rfl|(simp;done)|(simp [my_isEmpty];done)|(simp [*];done)),H',⟨by have := HJ6.out;first|omega|exact Nat.le_refl _⟩,⟨by (with_reducible repeat (first|apply Kd.R_alloc|apply Kd.R_drewN|apply Kd.R_drew));exact Kd.R_mono HO390.out (fun _ hk => hk.2)⟩,⟨by (with_reducible repeat (first|apply Kd.R_alloc|apply Kd.R_drewN|apply Kd.R_drew));exact Kd.R_mono HO394.out (fun _ hk => hk.2)⟩,⟨by (with_reducible repeat (first|refine bN ?_ _|refine bD ?_|refine bA ?_ _));exact BK377.out⟩,⟨by (with_reducible repeat (first|refine bN ?_ _|refine bD ?_|refine bA ?_ _));exact BK387.out⟩,⟨by repeat (first|(with_reducible first|exact HB.out|apply lA|apply lN|apply lD|refine below_set ?_ GE377.out|refine below_set ?_ GE387.out)|exact HB.out)⟩⟩
        ·rw [if_neg c29] at H
         have c29b0 : decide ((t378.size : Int) < t385) = false := decide_eq_false c29
         clear c29
         (first|rw [c29b0]|(simp only [i64_w,i32_w];rw [c29b0])|skip)
         by_cases c30 : t385 < (t372.size : Int)
         ·rw [if_pos c30] at H
          have c30b0 : decide (t385 < (t372.size : Int)) = true := decide_eq_true c30
          clear c30
          have H' := Aside0.mk H
          clear H
          have hnb31 := NB377_387.out
          have hnc31 := NB387_377.out
          have hcz32_0 : w27.cell? ⟨gb377,0,none⟩ = some (.string t372) := (blk_cell BK377.out 0).trans rfl
          have hcz32_1 : w27.cell? ⟨gb377,1,none⟩ = some (.string t373) := (blk_cell BK377.out 1).trans rfl
          have hcz32_2 : w27.cell? ⟨gb377,2,none⟩ = some (.int .i64 t374) := (blk_cell BK377.out 2).trans rfl
          have hfz32_0 := blk_frozen BK377.out 0
          have hfz32_1 := blk_frozen BK377.out 1
          have hfz32_2 := blk_frozen BK377.out 2
          go_wp2
          go_meet
          case rel => exact ⟨_,(true),(by first|rfl|(simp;done)|(simp [my_isEmpty];done)|(simp [*];done)),H',⟨by have := HJ6.out;first|omega|exact Nat.le_refl _⟩,⟨by (with_reducible repeat (first|apply Kd.R_alloc|apply Kd.R_drewN|apply Kd.R_drew));exact Kd.R_mono HO390.out (fun _ hk => hk.2)⟩,⟨by (with_reducible repeat (first|apply Kd.R_alloc|apply Kd.R_drewN|apply Kd.R_drew));exact Kd.R_mono HO394.out (fun _ hk => hk.2)⟩,⟨by (with_reducible repeat (first|refine bN ?_ _|refine bD ?_|refine bA ?_ _));exact BK377.out⟩,⟨by (with_reducible repeat (first|refine bN ?_ _|refine bD ?_|refine bA ?_ _));exact BK387.out⟩,⟨by repeat (first|(with_reducible first|exact HB.out|apply lA|apply lN|apply lD|refine below_set ?_ GE377.out|refine below_set ?_ GE387.out)|exact HB.out)⟩⟩
         ·rw [if_neg c30] at H
          have c30b0 : decide (t385 < (t372.size : Int)) = false := decide_eq_false c30
          clear c30
          have H' := Aside0.mk H
          clear H
          have hnb33 := NB377_387.out
          have hnc33 := NB387_377.out
          have hcz34_0 : w27.cell? ⟨gb377,0,none⟩ = some (.string t372) := (blk_cell BK377.out 0).trans rfl
          have hcz34_1 : w27.cell? ⟨gb377,1,none⟩ = some (.string t373) := (blk_cell BK377.out 1).trans rfl
          have hcz34_2 : w27.cell? ⟨gb377,2,none⟩ = some (.int .i64 t374) := (blk_cell BK377.out 2).trans rfl
          have hfz34_0 := blk_frozen BK377.out 0
          have hfz34_1 := blk_frozen BK377.out 1
          have hfz34_2 := blk_frozen BK377.out 2
          obtain ⟨Ao35,co35,eo35⟩ := Kd.R_slice HO390.out
          subst eo35
          obtain ⟨Ao36,co36,eo36⟩ := Kd.R_slice HO394.out
          subst eo36
          go_wp2
          go_meet
          case rel => exact ⟨_,(decide ((t388.length : Int) > (t392.length : Int))),(by first|rfl|(simp;done)|(simp [my_isEmpty];done)|(simp [*];done)),H',⟨by have := HJ6.out;first|omega|exact Nat.le_refl _⟩,⟨by (with_reducible repeat (first|apply Kd.R_alloc|apply Kd.R_drewN|apply Kd.R_drew));exact Kd.R_mono HO390.out (fun _ hk => hk.2)⟩,⟨by (with_reducible repeat (first|apply Kd.R_alloc|apply Kd.R_drewN|apply Kd.R_drew));exact Kd.R_mono HO394.out (fun _ hk => hk.2)⟩,⟨by (with_reducible repeat (first|refine bN ?_ _|refine bD ?_|refine bA ?_ _));exact BK377.out⟩,⟨by (with_reducible repeat (first|refine bN ?_ _|refine bD ?_|refine bA ?_ _));exact BK387.out⟩,⟨by repeat (first|(with_reducible first|exact HB.out|apply lA|apply lN|apply lD|refine below_set ?_ GE377.out|refine below_set ?_ GE387.out)|exact HB.out)⟩⟩
       ·replace c28 := Bool.eq_false_iff.mpr c28
        subst c28
        have H1 : (laws_FnCrashRecovery.j1 kj6 t378 t385 t388 t392 true t382 t383 t384) = some r := by rw [if_neg (show ¬ (false = true) by decide)] at H;exact H
        clear H
        have H := H1
        clear H1
        have H' := Aside0.mk H
        clear H
        go_wp2
        go_meet
        case rel => exact ⟨_,(true),(by first|rfl|(simp;done)|(simp [my_isEmpty];done)|(simp [*];done)),H',⟨by have := HJ6.out;first|omega|exact Nat.le_refl _⟩,⟨by (with_reducible repeat (first|apply Kd.R_alloc|apply Kd.R_drewN|apply Kd.R_drew));exact Kd.R_mono HO390.out (fun _ hk => hk.2)⟩,⟨by (with_reducible repeat (first|apply Kd.R_alloc|apply Kd.R_drewN|apply Kd.R_drew));exact Kd.R_mono HO394.out (fun _ hk => hk.2)⟩,⟨by (with_reducible repeat (first|refine bN ?_ _|refine bD ?_|refine bA ?_ _));exact BK377.out⟩,⟨by (with_reducible repeat (first|refine bN ?_ _|refine bD ?_|refine bA ?_ _));exact BK387.out⟩,⟨by repeat (first|(with_reducible first|exact HB.out|apply lA|apply lN|apply lD|refine below_set ?_ GE377.out|refine below_set ?_ GE387.out)|exact HB.out)⟩⟩
      case rest =>
       clear HC20
       try clear c1
       try clear c2
       try clear p2
       try clear c3
       try clear c4
       try clear c12
       try clear c14
       try clear c14b0
       try clear c14b1
       try clear c15
       try clear c16
       try clear c18
       try clear c23
       try clear c24
       try clear c25
       try clear c28
       try clear c29
       try clear c29b0
       try clear c30
       try clear c30b0
       try clear c31
       try clear c33
       try clear c35
       try clear hcz10_0
       try clear hcz10_1
       try clear hcz10_2
       try clear hcz12_0
       try clear hcz12_1
       try clear hcz12_2
       try clear hcz24_0
       try clear hcz24_1
       try clear hcz24_2
       try clear hcz26_0
       try clear hcz26_1
       try clear hcz26_2
       try clear hcz32_0
       try clear hcz32_1
       try clear hcz32_2
       try clear hcz34_0
       try clear hcz34_1
       try clear hcz34_2
       try clear hfz10_0
       try clear hfz10_1
       try clear hfz10_2
       try clear hfz12_0
       try clear hfz12_1
       try clear hfz12_2
       try clear hfz24_0
       try clear hfz24_1
       try clear hfz24_2
       try clear hfz26_0
       try clear hfz26_1
       try clear hfz26_2
       try clear hfz32_0
       try clear hfz32_1
       try clear hfz32_2
       try clear hfz34_0
       try clear hfz34_1
       try clear hfz34_2
       try clear p2
       obtain ⟨kq,x89_19,rfl,HA,HJ19,HO_13,HO_15,BK377,BK387,HB⟩ := hcut
       cases kq with
       | zero => exact absurd HA.out (by simp [laws_FnCrashRecovery.j1])
       | succ kj19 =>
        have H := HA.out
        clear HA
        simp only [laws_FnCrashRecovery.j1] at H
        by_cases c37 : x89_19 = true
        ·subst c37
         have H1 : (some false) = some r := by rw [if_pos rfl] at H;exact H
         clear H
         have H := H1
         clear H1
         exact absurd ((Option.some.inj H).trans hr_) (by decide)
        ·replace c37 := Bool.eq_false_iff.mpr c37
         subst c37
         have H1 : (laws_FnCrashRecovery.l0 kj19 t378 t385 t388 t392 0 t382 t383 t384) = some r := by rw [if_neg (show ¬ (false = true) by decide)] at H;exact H
         clear H
         have H := H1
         clear H1
         have H' := Aside0.mk H
         clear H
         go_wp2
         go_loopg [17] kj19 (fun kq v17 w' => ∃ (x17_3 : Int),v17 = .int .i64 x17_3 ∧ Aside0 (laws_FnCrashRecovery.l0 kq t378 t385 t388 t392 x17_3 t382 t383 t384 = some r) ∧ Aside0 (kq ≤ kj19) ∧ Aside0 (Kd.R k27 27 w' w.heap.size (fun k_ => some k_ ≠ (v393 : Value).ownBlock) v389 t388) ∧ Aside0 (Kd.R k27 27 w' w.heap.size (fun k_ => some k_ ≠ (v389 : Value).ownBlock) v393 t392) ∧ Aside0 (w'.heap[gb377]? = some (.cells #[.string t372,.string t373,.int .i64 t374] 31 (0,0))) ∧ Aside0 (w'.heap[gb387]? = some (.cells #[.string t382,.string t383,.int .i64 t384] 31 (0,0))) ∧ Aside0 (Below w.heap.size w w'))
         case atStart => exact ⟨(0),(by first|rfl|(simp;done)|(simp [my_isEmpty];done)|(simp [*];done)),H',⟨Nat.le_refl _⟩,⟨by (with_reducible repeat (first|apply Kd.R_alloc|apply Kd.R_drewN|apply Kd.R_drew));exact HO_13.out⟩,⟨by (with_reducible repeat (first|apply Kd.R_alloc|apply Kd.R_drewN|apply Kd.R_drew));exact HO_15.out⟩,⟨by (with_reducible repeat (first|refine bN ?_ _|refine bD ?_|refine bA ?_ _));exact BK377.out⟩,⟨by (with_reducible repeat (first|refine bN ?_ _|refine bD ?_|refine bA ?_ _));exact BK387.out⟩,⟨by repeat (first|(with_reducible first|exact HB.out|apply lA|apply lN|apply lD|refine below_set ?_ GE377.out|refine below_set ?_ GE387.out)|exact HB.out)⟩⟩
         case round =>
          clear H'
          try clear c1
          try clear c2
          try clear p2
          try clear c3
          try clear c4
          try clear c12
          try clear c14
          try clear c14b0
          try clear c14b1
          try clear c15
          try clear c16
          try clear c18
          try clear c23
          try clear c24
          try clear c25
          try clear c28
          try clear c29
          try clear c29b0
          try clear c30
          try clear c30b0
          try clear c31
          try clear c33
          try clear c35
          try clear c37
          try clear hcz10_0
          try clear hcz10_1
          try clear hcz10_2
          try clear hcz12_0
          try clear hcz12_1
          try clear hcz12_2
          try clear hcz24_0
          try clear hcz24_1
          try clear hcz24_2
          try clear hcz26_0
          try clear hcz26_1
          try clear hcz26_2
          try clear hcz32_0
          try clear hcz32_1
          try clear hcz32_2
          try clear hcz34_0
          try clear hcz34_1
          try clear hcz34_2
          try clear hfz10_0
          try clear hfz10_1
          try clear hfz10_2
          try clear hfz12_0
          try clear hfz12_1
          try clear hfz12_2
          try clear hfz24_0
          try clear hfz24_1
          try clear hfz24_2
          try clear hfz26_0
          try clear hfz26_1
          try clear hfz26_2
          try clear hfz32_0
          try clear hfz32_1
          try clear hfz32_2
          try clear hfz34_0
          try clear hfz34_1
          try clear hfz34_2
          try clear p2
          obtain ⟨x17_3,rfl,HA,HK3,HO_13,HO_15,BK377,BK387,HB⟩ := hrel
          cases gk with
          | zero => exact absurd HA.out (by simp [laws_FnCrashRecovery.l0])
          | succ k3 =>
           have H := HA.out
           clear HA
           simp only [laws_FnCrashRecovery.l0] at H
           by_cases c38 : x17_3 < (t388.length : Int)
           ·rw [if_pos c38] at H
            have c38b0 : decide (x17_3 < (t388.length : Int)) = true := decide_eq_true c38
            clear c38
            by_cases c39 : 0 ≤ x17_3
            ·rw [if_pos c39] at H
             have c39b0 : decide (0 ≤ x17_3) = true := decide_eq_true c39
             clear c39
             by_cases c40 : x17_3 < (t392.length : Int)
             ·rw [if_pos c40] at H
              have c40b0 : decide (x17_3 < (t392.length : Int)) = true := decide_eq_true c40
              clear c40
              by_cases c41 : (!((((rd_T27 t388 x17_3).f0).toList) == (((rd_T27 t392 x17_3).f0).toList)) || (!((((rd_T27 t388 x17_3).f1).toList) == (((rd_T27 t392 x17_3).f1).toList)))) = true
              ·rw [if_pos c41] at H
               have c41b0 : (!((((rd_T27 t388 x17_3).f0).toList) == (((rd_T27 t392 x17_3).f0).toList)) || (!((((rd_T27 t388 x17_3).f1).toList) == (((rd_T27 t392 x17_3).f1).toList)))) = true := c41
               clear c41
               exact absurd ((Option.some.inj H).trans hr_) (by decide)
              ·rw [if_neg c41] at H
               have c41b0 : (!((((rd_T27 t388 x17_3).f0).toList) == (((rd_T27 t392 x17_3).f0).toList)) || (!((((rd_T27 t388 x17_3).f1).toList) == (((rd_T27 t392 x17_3).f1).toList)))) = false := by simpa using c41
               clear c41
               have H' := Aside0.mk H
               clear H
               obtain ⟨Ao42,co42,eo42⟩ := Kd.R_slice HO_13.out
               subst eo42
               try go_wp2
               have n0_ := Aside0.mk (Kd.R_drew HO_13.out)
               have n1_ := Aside0.mk (Kd.R_drew HO_15.out)
               have n2_ := Aside0.mk (bD BK377.out)
               have n3_ := Aside0.mk (bD BK387.out)
               have n4_ := Aside0.mk (lD HB.out)
               clear HO_13
               clear HO_15
               clear BK377
               clear BK387
               clear HB
               have HO_13 := n0_
               have HO_15 := n1_
               have BK377 := n2_
               have BK387 := n3_
               have HB := n4_
               clear n0_ n1_ n2_ n3_ n4_
               have p396 : 0 ≤ (x17_3 : Int) := of_decide_eq_true (by first|(with_reducible assumption)|assumption)
               have q396 : x17_3 < (t388.length : Int) := of_decide_eq_true (by first|(with_reducible assumption)|assumption)
               obtain ⟨ad396,e396,hx396_0,hx396_1⟩ := at_T27 (Kd.R_reads' HO_13.out).2.2 x17_3 p396 q396
               cases e396
               replace p396 := eq_true p396
               replace q396 := eq_true q396
               obtain ⟨Ao44,co44,eo44⟩ := Kd.R_slice HO_15.out
               (first|subst eo44|(injection eo44 with f1_ f2_ f3_;have f4_ := f1_.symm;have f5_ := f3_.symm;clear f1_ f2_ f3_;subst f4_;subst f5_))
               have p397 : 0 ≤ (x17_3 : Int) := of_decide_eq_true (by first|(with_reducible assumption)|assumption)
               have q397 : x17_3 < (t392.length : Int) := of_decide_eq_true (by first|(with_reducible assumption)|assumption)
               obtain ⟨ad397,e397,hx397_0,hx397_1⟩ := at_T27 (Kd.R_reads' HO_15.out).2.2 x17_3 p397 q397
               cases e397
               replace p397 := eq_true p397
               replace q397 := eq_true q397
               refine start_ (n := 9) (S := fun w' => w'.cell? (ad396.add ((x17_3).toNat * 2)) = some (.string ((rd_T27 t388 x17_3).f0)) ∧ w'.cell? ⟨(ad396.add ((x17_3).toNat * 2)).block,(ad396.add ((x17_3).toNat * 2)).off + 1,none⟩ = some (.string ((rd_T27 t388 x17_3).f1)) ∧ w'.cell? (ad397.add ((x17_3).toNat * 2)) = some (.string ((rd_T27 t392 x17_3).f0)) ∧ w'.cell? ⟨(ad397.add ((x17_3).toNat * 2)).block,(ad397.add ((x17_3).toNat * 2)).off + 1,none⟩ = some (.string ((rd_T27 t392 x17_3).f1))) (ds := []) #[false,false,false,false,false,false,false,false,false] (by kernel_rfl) rfl rfl ⟨hx396_0,hx396_1,hx397_0,hx397_1⟩ (fun hHeld => ?_);refine with_tabW laws_FnCrashRecovery.tab18 laws_FnCrashRecovery.bits18 (fun HT_ HW_ => ?_)
               generalize wr.drew = w43 at HO_13 HO_15 BK377 BK387 HB hx396_0 hx396_1 hx397_0 hx397_1 hHeld ⊢
               refine pure_ (i := 0) (N := some 96) (v := ?_) (a' := ?_) #[true,false,false,false,false,false,false,false,false] rfl rfl (any_of HT_.out (by kernel_rfl)) (fun _ _ _ h => h) (Or.inl ⟨by rfl,?_⟩) ?_ ?_
               rotate_left
               ·intro w'
                go_simp
                with_reducible rfl
               rotate_left
               ·simp only [Act.put,List.setIfInBounds_toArray,List.set_cons_zero,List.set_cons_succ,i64_w,i32_w]
                rfl
               refine pure_ (i := 1) (N := some 97) (v := ?_) (a' := ?_) #[true,true,false,false,false,false,false,false,false] rfl rfl (any_of HT_.out (by kernel_rfl)) (fun _ _ _ h => h) (Or.inl ⟨by rfl,?_⟩) ?_ ?_
               rotate_left
               ·intro w'
                go_simp
                with_reducible rfl
               rotate_left
               ·simp only [Act.put,List.setIfInBounds_toArray,List.set_cons_zero,List.set_cons_succ,i64_w,i32_w]
                rfl
               refine pure_ (i := 2) (N := some 98) (v := ?_) (a' := ?_) #[true,true,true,false,false,false,false,false,false] rfl rfl (any_of HT_.out (by kernel_rfl)) (fun _ _ _ h => h) (Or.inl ⟨by rfl,?_⟩) ?_ ?_
               rotate_left
               ·intro w'
                go_simp
                with_reducible rfl
               rotate_left
               ·simp only [Act.put,List.setIfInBounds_toArray,List.set_cons_zero,List.set_cons_succ,i64_w,i32_w]
                rfl
               refine pure_ (i := 4) (N := some 100) (v := ?_) (a' := ?_) #[true,true,true,false,true,false,false,false,false] rfl rfl (any_of HT_.out (by kernel_rfl)) (fun _ _ _ h => h) (Or.inl ⟨by rfl,?_⟩) ?_ ?_
               rotate_left
               ·intro w'
                go_simp
                with_reducible rfl
               rotate_left
               ·simp only [Act.put,List.setIfInBounds_toArray,List.set_cons_zero,List.set_cons_succ,i64_w,i32_w]
                rfl
               refine pure_ (i := 5) (N := some 101) (v := ?_) (a' := ?_) #[true,true,true,false,true,true,false,false,false] rfl rfl (any_of HT_.out (by kernel_rfl)) (fun _ _ _ h => h) (Or.inl ⟨by rfl,?_⟩) ?_ ?_
               rotate_left
               ·intro w'
                go_simp
                with_reducible rfl
               rotate_left
               ·simp only [Act.put,List.setIfInBounds_toArray,List.set_cons_zero,List.set_cons_succ,i64_w,i32_w]
                rfl
               refine pure_ (i := 6) (N := some 102) (v := ?_) (a' := ?_) #[true,true,true,false,true,true,true,false,false] rfl rfl (any_of HT_.out (by kernel_rfl)) (fun _ _ _ h => h) (Or.inl ⟨by rfl,?_⟩) ?_ ?_
               rotate_left
               ·intro w'
                go_simp
                with_reducible rfl
               rotate_left
               ·simp only [Act.put,List.setIfInBounds_toArray,List.set_cons_zero,List.set_cons_succ,i64_w,i32_w]
                rfl
               refine take_ (i := 3) (N := some 99) (v := ?_) (a' := ?_) #[true,true,true,true,true,true,true,false,false] rfl rfl (take_ofW HT_.out HW_.out (by kernel_rfl)) (fun _ _ _ h => h) (Or.inl ⟨by rfl,?_⟩) hHeld ?_ ?_
               rotate_left
               ·rintro w' ⟨s0,s1,s2,s3⟩
                go_simp
                with_reducible rfl
               rotate_left
               ·simp only [Act.put,List.setIfInBounds_toArray,List.set_cons_zero,List.set_cons_succ,i64_w,i32_w]
                rfl
               refine take_ (i := 7) (N := some 103) (v := ?_) (a' := ?_) #[true,true,true,true,true,true,true,true,false] rfl rfl (take_ofW HT_.out HW_.out (by kernel_rfl)) (fun _ _ _ h => h) (Or.inl ⟨by rfl,?_⟩) hHeld ?_ ?_
               rotate_left
               ·rintro w' ⟨s0,s1,s2,s3⟩
                go_simp
                with_reducible rfl
               rotate_left
               ·simp only [Act.put,List.setIfInBounds_toArray,List.set_cons_zero,List.set_cons_succ,i64_w,i32_w]
                rfl
               refine pure_ (i := 8) (N := some 104) (v := ?_) (a' := ?_) #[true,true,true,true,true,true,true,true,true] rfl rfl (any_of HT_.out (by kernel_rfl)) (fun _ _ _ h => h) (Or.inl ⟨by rfl,?_⟩) ?_ ?_
               rotate_left
               ·intro w'
                go_simp
                with_reducible rfl
               rotate_left
               ·simp only [Act.put,List.setIfInBounds_toArray,List.set_cons_zero,List.set_cons_succ,i64_w,i32_w]
                rfl
               refine done_ (done_of HT_.out (by kernel_rfl)) ?_
               try go_wp2
               go_roundg k3
               case measure => have := HJ6.out;have := HJ19.out;have := HK3.out;omega
               case rel => exact ⟨(wrap64 (x17_3 + 1)),(by first|rfl|(simp;done)|(simp [my_isEmpty];done)|(simp [*];done)),H',⟨by have := HJ6.out;have := HJ19.out;have := HK3.out;omega⟩,⟨by (with_reducible repeat (first|apply Kd.R_alloc|apply Kd.R_drewN|apply Kd.R_drew));exact HO_13.out⟩,⟨by (with_reducible repeat (first|apply Kd.R_alloc|apply Kd.R_drewN|apply Kd.R_drew));exact HO_15.out⟩,⟨by (with_reducible repeat (first|refine bN ?_ _|refine bD ?_|refine bA ?_ _));exact BK377.out⟩,⟨by (with_reducible repeat (first|refine bN ?_ _|refine bD ?_|refine bA ?_ _));exact BK387.out⟩,⟨by repeat (first|(with_reducible first|exact HB.out|apply lA|apply lN|apply lD|refine below_set ?_ GE377.out|refine below_set ?_ GE387.out)|exact HB.out)⟩⟩
             ·rw [if_neg c40] at H
              exact absurd H (by simp)
            ·rw [if_neg c39] at H
             exact absurd H (by simp)
           ·rw [if_neg c38] at H
            have c38b0 : decide (x17_3 < (t388.length : Int)) = false := decide_eq_false c38
            clear c38
            replace H := Option.bind_eq_some_iff.mp H
            obtain ⟨t398,A450,H⟩ := H
            replace H : (if t398 = true then (if 0 ≤ t385 then (if t385 ≤ (t378.size : Int) then (some (t382.toList == (t378.extract 0 (t385 : Int).toNat).toList)) else (none)) else (none)) else (some false)) = some r := H
            have A45 := Aside0.mk A450
            clear A450
            by_cases c46 : t398 = true
            ·subst c46
             have H1 : (if 0 ≤ t385 then (if t385 ≤ (t378.size : Int) then (some (t382.toList == (t378.extract 0 (t385 : Int).toNat).toList)) else (none)) else (none)) = some r := by rw [if_pos rfl] at H;exact H
             clear H
             have H := H1
             clear H1
             by_cases c47 : 0 ≤ t385
             ·rw [if_pos c47] at H
              have c47b0 := eq_true c47
              have c47b1 : decide (0 ≤ t385) = true := decide_eq_true c47
              clear c47
              by_cases c48 : t385 ≤ (t378.size : Int)
              ·rw [if_pos c48] at H
               have c48b0 := eq_true c48
               have c48b1 : decide (t385 ≤ (t378.size : Int)) = true := decide_eq_true c48
               clear c48
               obtain rfl := Option.some.inj H
               try clear hr_
               obtain ⟨Ao49,co49,eo49⟩ := Kd.R_slice HO_13.out
               subst eo49
               try go_wp2
               have n0_ := Aside0.mk (Kd.R_drew HO_13.out)
               have n1_ := Aside0.mk (Kd.R_drew HO_15.out)
               have n2_ := Aside0.mk (bD BK377.out)
               have n3_ := Aside0.mk (bD BK387.out)
               have n4_ := Aside0.mk (lD HB.out)
               clear HO_13
               clear HO_15
               clear BK377
               clear BK387
               clear HB
               have HO_13 := n0_
               have HO_15 := n1_
               have BK377 := n2_
               have BK387 := n3_
               have HB := n4_
               clear n0_ n1_ n2_ n3_ n4_
               refine start_ (n := 11) (S := fun w' => w'.cell? ⟨gb387,0,none⟩ = some (.string t382) ∧ w'.cell? ⟨gb387,1,none⟩ = some (.string t383) ∧ w'.cell? ⟨gb387,2,none⟩ = some (.int .i64 t384)) (ds := []) #[false,false,false,false,false,false,false,false,false,false,false] (by kernel_rfl) rfl rfl ⟨(blk_cell BK387.out 0).trans rfl,(blk_cell BK387.out 1).trans rfl,(blk_cell BK387.out 2).trans rfl⟩ (fun hHeld => ?_);refine with_tabW laws_FnCrashRecovery.tab20 laws_FnCrashRecovery.bits20 (fun HT_ HW_ => ?_)
               generalize wr.drew = w50 at HO_13 HO_15 BK377 BK387 HB hHeld ⊢
               refine take_ (i := 0) (N := some 105) (v := ?_) (a' := ?_) #[true,false,false,false,false,false,false,false,false,false,false] rfl rfl (take_ofW HT_.out HW_.out (by kernel_rfl)) (fun _ _ _ h => h) (Or.inl ⟨by rfl,?_⟩) hHeld ?_ ?_
               rotate_left
               ·rintro w' ⟨s0,s1,s2⟩
                go_simp
                with_reducible rfl
               rotate_left
               ·simp only [Act.put,List.setIfInBounds_toArray,List.set_cons_zero,List.set_cons_succ,i64_w,i32_w]
                rfl
               refine one_ (i := 1) (N := some 106) #[true,true,false,false,false,false,false,false,false,false,false] rfl rfl (one_of HT_.out (by kernel_rfl)) (by decide) (fun K hK => ?_)
               refine goes_ Tryd.func23 (by kernel_rfl) rfl #[.agg #[.string t382,.string t383,.int .i64 t384]] (by rfl) rfl rfl (by (try simp only [List.map_toArray,List.map_cons,List.map_nil]);first|done|rfl|(simp only [List.length_drop,List.length_take];rfl)) ?_
               with_reducible refine (impl_IsValidLog.calls k3 t382 t383 t384 true _ ?side1 A45.out).mono ?_
               (case side1 => exact Gw.below HG.out (by repeat (first|(with_reducible first|exact HB.out|apply lA|apply lN|apply lD|refine below_set ?_ GE377.out|refine below_set ?_ GE387.out)|exact HB.out)))
               rintro e w51 ⟨rfl,hb⟩
               refine ⟨_,rfl,?_⟩
               have n0_ := Aside0.mk (Kd.R_below (by (with_reducible repeat (first|apply Kd.R_alloc|apply Kd.R_drewN|apply Kd.R_drew));exact HO_13.out) hb)
               have n1_ := Aside0.mk (Kd.R_below (by (with_reducible repeat (first|apply Kd.R_alloc|apply Kd.R_drewN|apply Kd.R_drew));exact HO_15.out) hb)
               have n2_ := Aside0.mk (blk_below (g := gb377) (o := .cells #[.string t372,.string t373,.int .i64 t374] 31 (0,0)) (by (with_reducible repeat (first|refine bN ?_ _|refine bD ?_|refine bA ?_ _));exact BK377.out) hb)
               have n3_ := Aside0.mk (blk_below (g := gb387) (o := .cells #[.string t382,.string t383,.int .i64 t384] 31 (0,0)) (by (with_reducible repeat (first|refine bN ?_ _|refine bD ?_|refine bA ?_ _));exact BK387.out) hb)
               have n4_ := Aside0.mk (below_step (by repeat (first|(with_reducible first|exact HB.out|apply lA|apply lN|apply lD|refine below_set ?_ GE377.out|refine below_set ?_ GE387.out)|exact HB.out)) hb)
               clear HO_13
               clear HO_15
               clear BK377
               clear BK387
               clear HB
               have HO_13 := n0_
               have HO_15 := n1_
               have BK377 := n2_
               have BK387 := n3_
               have HB := n4_
               clear n0_ n1_ n2_ n3_ n4_
               (try clear hb)
               (try clear hb2)
               (try clear hk)
               (try clear hi)
               refine hK.out _ _ ⟨(blk_cell BK387.out 0).trans rfl,(blk_cell BK387.out 1).trans rfl,(blk_cell BK387.out 2).trans rfl⟩ (fun hHeld => ?_)
               clear hK K
               refine norm_ (a' := ?_) ?_ ?_
               rotate_left
               ·show Act.put _ (some 106) _ = _
                simp only [Act.put,List.setIfInBounds_toArray,List.set_cons_zero,List.set_cons_succ,i64_w,i32_w]
                rfl
               refine pure_ (i := 2) (N := some 107) (v := ?_) (a' := ?_) #[true,true,true,false,false,false,false,false,false,false,false] rfl rfl (any_of HT_.out (by kernel_rfl)) (fun _ _ _ h => h) (Or.inl ⟨by rfl,?_⟩) ?_ ?_
               rotate_left
               ·intro w'
                go_simp
                with_reducible rfl
               rotate_left
               ·simp only [Act.put,List.setIfInBounds_toArray,List.set_cons_zero,List.set_cons_succ,i64_w,i32_w]
                rfl
               refine pure_ (i := 3) (N := some 108) (v := ?_) (a' := ?_) #[true,true,true,true,false,false,false,false,false,false,false] rfl rfl (any_of HT_.out (by kernel_rfl)) (fun _ _ _ h => h) (Or.inl ⟨by rfl,?_⟩) ?_ ?_
               rotate_left
               ·intro w'
                go_simp
                with_reducible rfl
               rotate_left
               ·simp only [Act.put,List.setIfInBounds_toArray,List.set_cons_zero,List.set_cons_succ,i64_w,i32_w]
                rfl
               refine pure_ (i := 5) (N := some 110) (v := ?_) (a' := ?_) #[true,true,true,true,false,true,false,false,false,false,false] rfl rfl (any_of HT_.out (by kernel_rfl)) (fun _ _ _ h => h) (Or.inl ⟨by rfl,?_⟩) ?_ ?_
               rotate_left
               ·intro w'
                go_simp
                with_reducible rfl
               rotate_left
               ·simp only [Act.put,List.setIfInBounds_toArray,List.set_cons_zero,List.set_cons_succ,i64_w,i32_w]
                rfl
               refine pure_ (i := 6) (N := some 111) (v := ?_) (a' := ?_) #[true,true,true,true,false,true,true,false,false,false,false] rfl rfl (any_of HT_.out (by kernel_rfl)) (fun _ _ _ h => h) (Or.inl ⟨by rfl,?_⟩) ?_ ?_
               rotate_left
               ·intro w'
                go_simp
                with_reducible rfl
               rotate_left
               ·simp only [Act.put,List.setIfInBounds_toArray,List.set_cons_zero,List.set_cons_succ,i64_w,i32_w]
                rfl
               refine pure_ (i := 7) (N := some 112) (v := ?_) (a' := ?_) #[true,true,true,true,false,true,true,true,false,false,false] rfl rfl (any_of HT_.out (by kernel_rfl)) (fun _ _ _ h => h) (Or.inl ⟨by rfl,?_⟩) ?_ ?_
               rotate_left
               ·intro w'
                go_simp
                with_reducible rfl
               rotate_left
               ·simp only [Act.put,List.setIfInBounds_toArray,List.set_cons_zero,List.set_cons_succ,i64_w,i32_w]
                rfl
               refine take_ (i := 4) (N := some 109) (v := ?_) (a' := ?_) #[true,true,true,true,true,true,true,true,false,false,false] rfl rfl (take_ofW HT_.out HW_.out (by kernel_rfl)) (fun _ _ _ h => h) (Or.inl ⟨by rfl,?_⟩) hHeld ?_ ?_
               rotate_left
               ·rintro w' ⟨s0,s1,s2⟩
                go_simp
                with_reducible rfl
               rotate_left
               ·simp only [Act.put,List.setIfInBounds_toArray,List.set_cons_zero,List.set_cons_succ,i64_w,i32_w]
                rfl
               refine pure_ (i := 8) (N := some 113) (v := ?_) (a' := ?_) #[true,true,true,true,true,true,true,true,true,false,false] rfl rfl (any_of HT_.out (by kernel_rfl)) (fun _ _ _ h => h) (Or.inl ⟨by rfl,?_⟩) ?_ ?_
               rotate_left
               ·intro w'
                go_simp
                with_reducible rfl
               rotate_left
               ·simp only [Act.put,List.setIfInBounds_toArray,List.set_cons_zero,List.set_cons_succ,i64_w,i32_w]
                rfl
               refine pure_ (i := 9) (N := some 114) (v := ?_) (a' := ?_) #[true,true,true,true,true,true,true,true,true,true,false] rfl rfl (any_of HT_.out (by kernel_rfl)) (fun _ _ _ h => h) (Or.inl ⟨by rfl,?_⟩) ?_ ?_
               rotate_left
               ·intro w'
                go_simp
                with_reducible rfl
               rotate_left
               ·simp only [Act.put,List.setIfInBounds_toArray,List.set_cons_zero,List.set_cons_succ,i64_w,i32_w]
                rfl
               refine pure_ (i := 10) (N := some 2) (v := ?_) (a' := ?_) #[true,true,true,true,true,true,true,true,true,true,true] rfl rfl (any_of HT_.out (by kernel_rfl)) (fun _ _ _ h => h) (Or.inl ⟨by rfl,?_⟩) ?_ ?_
               rotate_left
               ·intro w'
                go_simp
                with_reducible rfl
               rotate_left
               ·simp only [Act.put,List.setIfInBounds_toArray,List.set_cons_zero,List.set_cons_succ,i64_w,i32_w]
                rfl
               refine done_ (done_of HT_.out (by kernel_rfl)) ?_
               try go_wp2
               go_ret
               exact ⟨by first|rfl|(simp [errW_none,errW_some] <;> rfl)|(simp [*,errW_none,errW_some] <;> rfl),by repeat (first|(with_reducible first|exact HB.out|apply lA|apply lN|apply lD|refine below_set ?_ GE377.out|refine below_set ?_ GE387.out)|exact HB.out)⟩
              ·rw [if_neg c48] at H
               exact absurd H (by simp)
             ·rw [if_neg c47] at H
              exact absurd H (by simp)
            ·replace c46 := Bool.eq_false_iff.mpr c46
             subst c46
             have H1 : (some false) = some r := by rw [if_neg (show ¬ (false = true) by decide)] at H;exact H
             clear H
             have H := H1
             clear H1
             exact absurd ((Option.some.inj H).trans hr_) (by decide)
     ·replace c16 := Bool.eq_false_iff.mpr c16
      subst c16
      have H1 : (some (t378.toList == ([] : List UInt8))) = some r := by rw [if_neg (show ¬ (false = true) by decide)] at H;exact H
      clear H
      have H := H1
      clear H1
      obtain rfl := Option.some.inj H
      try clear hr_
      go_wp2
      go_ret
      exact ⟨by first|rfl|(simp [errW_none,errW_some] <;> rfl)|(simp [*,errW_none,errW_some] <;> rfl),by repeat (first|(with_reducible first|exact HB.out|apply lA|apply lN|apply lD|refine below_set ?_ GE377.out)|exact HB.out)⟩
def laws_FnCrashRecovery.Pure : Prop := ∀ (l0 : List Int),(l0.length * 1 ≤ 140737488351232 ∧ l0.length ≤ maxLen ∧ ∀ a_ ∈ l0,(Lit.int .u8 a_).wf = true) → ∃ k,laws_FnCrashRecovery.f k l0 = some true
end Go.Proofs.YtinbbjfnebhlkaaDoor.P
