/- Written by a program in this session: each theorem here says that a Go function computes the Lean function beside it, or that a law's row holds, under the conditions that the theorem itself states. -/
import Derived.Test.YtpnjnlcjofaglaaDoorZPx0
import Derived.Test.YtpnjnlcjofaglaaDoorZPx2
import Derived.Test.YtpnjnlcjofaglaaDoorZPx3
import Derived.Test.YtpnjnlcjofaglaaDoorZPx4
import Derived.Test.YtpnjnlcjofaglaaDoorZPx6
import Derived.Test.YtpnjnlcjofaglaaDoorZPx7
import Derived.Test.YtpnjnlcjofaglaaDoorZPx8
namespace Go.Proofs.YtpnjnlcjofaglaaDoor.P
open Go.RowKit Go.Proofs.YtpnjnlcjofaglaaDoorW.PrintWords Go.Proofs.YtpnjnlcjofaglaaDoorW.PrintLast Go.Proofs.YtpnjnlcjofaglaaDoorW.PrintMore
attribute [local go_sem] max2_int min2_int max_two min_two max_three min_three max_four min_four   -- for this text's walks alone
set_option linter.unusedVariables false
set_option linter.unusedSimpArgs false
mutual
def laws_FnIdentifiers.j0 : Nat → List Int → Int → ByteArray → Bool → Bool → Option (Bool)
 | 0,_,_,_,_,_ => none
 | k + 1,x0,x3,x5,x6,x64 => if x64 = true then (some false) else (if x6 = true then ((impl_CheckIdentifier.f k x5).bind fun bt299 => ((impl_WrittenForm.f k x5).bind fun bt301 => ((impl_CompactForm.f k bt301.1).bind fun bt303 => ((impl_RepairDigit.f k x3 x5 (wrap64 ((x5.size : Int) - 1))).bind fun bt306 => (if bt299.2 = true then (if bt301.2 = true then (if bt303.2.2 = true then (if bt306.2 = true then (if bt299.1 = x3 then (if bt303.2.1 = x3 then (if bt303.1.toList = x5.toList then (if bt306.1.toList = x5.toList then (laws_FnIdentifiers.j1 k x0) else (some false)) else (some false)) else (some false)) else (some false)) else (some false)) else (some false)) else (some false)) else (some false)))))) else (laws_FnIdentifiers.j1 k x0))
def laws_FnIdentifiers.j1 : Nat → List Int → Option (Bool)
 | 0,_ => none
 | k + 1,x0 => (spec_DrawCompactForm.f k x0).bind fun t308 => ((impl_CompactForm.f k t308).bind fun bt309 => ((spec_CompactForm.f k t308).bind fun bt312 => (if bt309.1.toList = bt312.1.toList then (if bt309.2.1 = bt312.2.1 then (laws_FnIdentifiers.j2 k x0 (bt309.2.2 != bt312.2.2)) else (laws_FnIdentifiers.j2 k x0 true)) else (laws_FnIdentifiers.j2 k x0 true))))
def laws_FnIdentifiers.j2 : Nat → List Int → Bool → Option (Bool)
 | 0,_,_ => none
 | k + 1,x0,x151 => if x151 = true then (some false) else ((spec_DrawRepairDigit.f k x0).bind fun bt315 => ((impl_RepairDigit.f k bt315.1 bt315.2.1 bt315.2.2).bind fun bt318 => ((spec_RepairDigit.f k bt315.1 bt315.2.1 bt315.2.2).bind fun bt320 => (if bt318.1.toList = bt320.1.toList then (laws_FnIdentifiers.j3 k x0 (bt318.2 != bt320.2)) else (laws_FnIdentifiers.j3 k x0 true)))))
def laws_FnIdentifiers.j3 : Nat → List Int → Bool → Option (Bool)
 | 0,_,_ => none
 | k + 1,x0,x179 => if x179 = true then (some false) else ((spec_DrawSwapsOf.f k x0).bind fun bt322 => ((impl_SwapsOf.f k bt322.1 bt322.2).bind fun bt324 => ((spec_SwapsOf.f k bt322.1 bt322.2).bind fun bt328 => (if (bt324.2 == bt328.2) = true then ((laws_rInts.f k bt324.1 bt328.1).bind fun t332 => (some t332)) else (some false)))))
end
def laws_FnIdentifiers.f (k : Nat) (l0 : List Int) : Option (Bool) := (laws_rBig.f l0).bind fun t292 => (if t292 = true then (some true) else ((spec_DrawCompleteIdentifier.f k l0).bind fun bt293 => ((impl_CompleteIdentifier.f k bt293.1 bt293.2).bind fun bt295 => ((spec_CompleteIdentifier.f k bt293.1 bt293.2).bind fun bt297 => (if bt295.1.toList = bt297.1.toList then (laws_FnIdentifiers.j0 k l0 bt293.1 bt295.1 bt295.2 (bt295.2 != bt297.2)) else (laws_FnIdentifiers.j0 k l0 bt293.1 bt295.1 bt295.2 true))))))
theorem laws_FnIdentifiers.mono_l : ∀ k,(∀ y0 y1 y2 y3 y4,LeO (laws_FnIdentifiers.j0 k y0 y1 y2 y3 y4) (laws_FnIdentifiers.j0 (k + 1) y0 y1 y2 y3 y4)) ∧ (∀ y0,LeO (laws_FnIdentifiers.j1 k y0) (laws_FnIdentifiers.j1 (k + 1) y0)) ∧ (∀ y0 y1,LeO (laws_FnIdentifiers.j2 k y0 y1) (laws_FnIdentifiers.j2 (k + 1) y0 y1)) ∧ (∀ y0 y1,LeO (laws_FnIdentifiers.j3 k y0 y1) (laws_FnIdentifiers.j3 (k + 1) y0 y1))
 | 0 => ⟨fun _ _ _ _ _ r h => by simp [laws_FnIdentifiers.j0] at h,fun _ r h => by simp [laws_FnIdentifiers.j1] at h,fun _ _ r h => by simp [laws_FnIdentifiers.j2] at h,fun _ _ r h => by simp [laws_FnIdentifiers.j3] at h⟩
 | k + 1 => by
  obtain ⟨ih0,ih1,ih2,ih3⟩ := laws_FnIdentifiers.mono_l k
  refine ⟨?_,?_,?_,?_⟩
  ·intro y0 y1 y2 y3 y4
   unfold laws_FnIdentifiers.j0
   repeat' first
   | (with_reducible exact ih0 _ _ _ _ _)
   | (with_reducible exact ih1 _)
   | (with_reducible exact ih2 _ _)
   | (with_reducible exact ih3 _ _)
   | (with_reducible exact impl_CheckIdentifier.mono _ _)
   | (with_reducible exact impl_CompactForm.mono _ _)
   | (with_reducible exact impl_CompleteIdentifier.mono _ _ _)
   | (with_reducible exact impl_RepairDigit.mono _ _ _ _)
   | (with_reducible exact impl_SwapsOf.mono _ _ _)
   | (with_reducible exact impl_WrittenForm.mono _ _)
   | (with_reducible exact laws_rInts.mono _ _ _)
   | (with_reducible exact spec_CompactForm.mono _ _)
   | (with_reducible exact spec_CompleteIdentifier.mono _ _ _)
   | (with_reducible exact spec_DrawCompactForm.mono _ _)
   | (with_reducible exact spec_DrawCompleteIdentifier.mono _ _)
   | (with_reducible exact spec_DrawRepairDigit.mono _ _)
   | (with_reducible exact spec_DrawSwapsOf.mono _ _)
   | (with_reducible exact spec_RepairDigit.mono _ _ _ _)
   | (with_reducible exact spec_SwapsOf.mono _ _ _)
   | (with_reducible exact LeO.refl _)
   | (with_reducible exact LeO.none _)
   | (with_reducible refine LeO.ite ?_ ?_)
   | (with_reducible refine LeO.bind ?_ (fun _ => ?_))
   | exact ih0 _ _ _ _ _
   | exact ih1 _
   | exact ih2 _ _
   | exact ih3 _ _
   | exact impl_CheckIdentifier.mono _ _
   | exact impl_CompactForm.mono _ _
   | exact impl_CompleteIdentifier.mono _ _ _
   | exact impl_RepairDigit.mono _ _ _ _
   | exact impl_SwapsOf.mono _ _ _
   | exact impl_WrittenForm.mono _ _
   | exact laws_rInts.mono _ _ _
   | exact spec_CompactForm.mono _ _
   | exact spec_CompleteIdentifier.mono _ _ _
   | exact spec_DrawCompactForm.mono _ _
   | exact spec_DrawCompleteIdentifier.mono _ _
   | exact spec_DrawRepairDigit.mono _ _
   | exact spec_DrawSwapsOf.mono _ _
   | exact spec_RepairDigit.mono _ _ _ _
   | exact spec_SwapsOf.mono _ _ _
   | exact LeO.none _
   | refine LeO.ite ?_ ?_
   | refine LeO.bind ?_ (fun _ => ?_)
  ·intro y0
   unfold laws_FnIdentifiers.j1
   repeat' first
   | (with_reducible exact ih0 _ _ _ _ _)
   | (with_reducible exact ih1 _)
   | (with_reducible exact ih2 _ _)
   | (with_reducible exact ih3 _ _)
   | (with_reducible exact impl_CheckIdentifier.mono _ _)
   | (with_reducible exact impl_CompactForm.mono _ _)
   | (with_reducible exact impl_CompleteIdentifier.mono _ _ _)
   | (with_reducible exact impl_RepairDigit.mono _ _ _ _)
   | (with_reducible exact impl_SwapsOf.mono _ _ _)
   | (with_reducible exact impl_WrittenForm.mono _ _)
   | (with_reducible exact laws_rInts.mono _ _ _)
   | (with_reducible exact spec_CompactForm.mono _ _)
   | (with_reducible exact spec_CompleteIdentifier.mono _ _ _)
   | (with_reducible exact spec_DrawCompactForm.mono _ _)
   | (with_reducible exact spec_DrawCompleteIdentifier.mono _ _)
   | (with_reducible exact spec_DrawRepairDigit.mono _ _)
   | (with_reducible exact spec_DrawSwapsOf.mono _ _)
   | (with_reducible exact spec_RepairDigit.mono _ _ _ _)
   | (with_reducible exact spec_SwapsOf.mono _ _ _)
   | (with_reducible exact LeO.refl _)
   | (with_reducible exact LeO.none _)
   | (with_reducible refine LeO.ite ?_ ?_)
   | (with_reducible refine LeO.bind ?_ (fun _ => ?_))
   | exact ih0 _ _ _ _ _
   | exact ih1 _
   | exact ih2 _ _
   | exact ih3 _ _
   | exact impl_CheckIdentifier.mono _ _
   | exact impl_CompactForm.mono _ _
   | exact impl_CompleteIdentifier.mono _ _ _
   | exact impl_RepairDigit.mono _ _ _ _
   | exact impl_SwapsOf.mono _ _ _
   | exact impl_WrittenForm.mono _ _
   | exact laws_rInts.mono _ _ _
   | exact spec_CompactForm.mono _ _
   | exact spec_CompleteIdentifier.mono _ _ _
   | exact spec_DrawCompactForm.mono _ _
   | exact spec_DrawCompleteIdentifier.mono _ _
   | exact spec_DrawRepairDigit.mono _ _
   | exact spec_DrawSwapsOf.mono _ _
   | exact spec_RepairDigit.mono _ _ _ _
   | exact spec_SwapsOf.mono _ _ _
   | exact LeO.none _
   | refine LeO.ite ?_ ?_
   | refine LeO.bind ?_ (fun _ => ?_)
  ·intro y0 y1
   unfold laws_FnIdentifiers.j2
   repeat' first
   | (with_reducible exact ih0 _ _ _ _ _)
   | (with_reducible exact ih1 _)
   | (with_reducible exact ih2 _ _)
   | (with_reducible exact ih3 _ _)
   | (with_reducible exact impl_CheckIdentifier.mono _ _)
   | (with_reducible exact impl_CompactForm.mono _ _)
   | (with_reducible exact impl_CompleteIdentifier.mono _ _ _)
   | (with_reducible exact impl_RepairDigit.mono _ _ _ _)
   | (with_reducible exact impl_SwapsOf.mono _ _ _)
   | (with_reducible exact impl_WrittenForm.mono _ _)
   | (with_reducible exact laws_rInts.mono _ _ _)
   | (with_reducible exact spec_CompactForm.mono _ _)
   | (with_reducible exact spec_CompleteIdentifier.mono _ _ _)
   | (with_reducible exact spec_DrawCompactForm.mono _ _)
   | (with_reducible exact spec_DrawCompleteIdentifier.mono _ _)
   | (with_reducible exact spec_DrawRepairDigit.mono _ _)
   | (with_reducible exact spec_DrawSwapsOf.mono _ _)
   | (with_reducible exact spec_RepairDigit.mono _ _ _ _)
   | (with_reducible exact spec_SwapsOf.mono _ _ _)
   | (with_reducible exact LeO.refl _)
   | (with_reducible exact LeO.none _)
   | (with_reducible refine LeO.ite ?_ ?_)
   | (with_reducible refine LeO.bind ?_ (fun _ => ?_))
   | exact ih0 _ _ _ _ _
   | exact ih1 _
   | exact ih2 _ _
   | exact ih3 _ _
   | exact impl_CheckIdentifier.mono _ _
   | exact impl_CompactForm.mono _ _
   | exact impl_CompleteIdentifier.mono _ _ _
   | exact impl_RepairDigit.mono _ _ _ _
   | exact impl_SwapsOf.mono _ _ _
   | exact impl_WrittenForm.mono _ _
   | exact laws_rInts.mono _ _ _
   | exact spec_CompactForm.mono _ _
   | exact spec_CompleteIdentifier.mono _ _ _
   | exact spec_DrawCompactForm.mono _ _
   | exact spec_DrawCompleteIdentifier.mono _ _
   | exact spec_DrawRepairDigit.mono _ _
   | exact spec_DrawSwapsOf.mono _ _
   | exact spec_RepairDigit.mono _ _ _ _
   | exact spec_SwapsOf.mono _ _ _
   | exact LeO.none _
   | refine LeO.ite ?_ ?_
   | refine LeO.bind ?_ (fun _ => ?_)
  ·intro y0 y1
   unfold laws_FnIdentifiers.j3
   repeat' first
   | (with_reducible exact ih0 _ _ _ _ _)
   | (with_reducible exact ih1 _)
   | (with_reducible exact ih2 _ _)
   | (with_reducible exact ih3 _ _)
   | (with_reducible exact impl_CheckIdentifier.mono _ _)
   | (with_reducible exact impl_CompactForm.mono _ _)
   | (with_reducible exact impl_CompleteIdentifier.mono _ _ _)
   | (with_reducible exact impl_RepairDigit.mono _ _ _ _)
   | (with_reducible exact impl_SwapsOf.mono _ _ _)
   | (with_reducible exact impl_WrittenForm.mono _ _)
   | (with_reducible exact laws_rInts.mono _ _ _)
   | (with_reducible exact spec_CompactForm.mono _ _)
   | (with_reducible exact spec_CompleteIdentifier.mono _ _ _)
   | (with_reducible exact spec_DrawCompactForm.mono _ _)
   | (with_reducible exact spec_DrawCompleteIdentifier.mono _ _)
   | (with_reducible exact spec_DrawRepairDigit.mono _ _)
   | (with_reducible exact spec_DrawSwapsOf.mono _ _)
   | (with_reducible exact spec_RepairDigit.mono _ _ _ _)
   | (with_reducible exact spec_SwapsOf.mono _ _ _)
   | (with_reducible exact LeO.refl _)
   | (with_reducible exact LeO.none _)
   | (with_reducible refine LeO.ite ?_ ?_)
   | (with_reducible refine LeO.bind ?_ (fun _ => ?_))
   | exact ih0 _ _ _ _ _
   | exact ih1 _
   | exact ih2 _ _
   | exact ih3 _ _
   | exact impl_CheckIdentifier.mono _ _
   | exact impl_CompactForm.mono _ _
   | exact impl_CompleteIdentifier.mono _ _ _
   | exact impl_RepairDigit.mono _ _ _ _
   | exact impl_SwapsOf.mono _ _ _
   | exact impl_WrittenForm.mono _ _
   | exact laws_rInts.mono _ _ _
   | exact spec_CompactForm.mono _ _
   | exact spec_CompleteIdentifier.mono _ _ _
   | exact spec_DrawCompactForm.mono _ _
   | exact spec_DrawCompleteIdentifier.mono _ _
   | exact spec_DrawRepairDigit.mono _ _
   | exact spec_DrawSwapsOf.mono _ _
   | exact spec_RepairDigit.mono _ _ _ _
   | exact spec_SwapsOf.mono _ _ _
   | exact LeO.none _
   | refine LeO.ite ?_ ?_
   | refine LeO.bind ?_ (fun _ => ?_)
theorem laws_FnIdentifiers.mono : ∀ a0 k,LeO (laws_FnIdentifiers.f k a0) (laws_FnIdentifiers.f (k + 1) a0) := by
 intro a0 k
 obtain ⟨ih0,ih1,ih2,ih3⟩ := laws_FnIdentifiers.mono_l k
 unfold laws_FnIdentifiers.f
 repeat' first
   | (with_reducible exact ih0 _ _ _ _ _)
   | (with_reducible exact ih1 _)
   | (with_reducible exact ih2 _ _)
   | (with_reducible exact ih3 _ _)
   | (with_reducible exact impl_CheckIdentifier.mono _ _)
   | (with_reducible exact impl_CompactForm.mono _ _)
   | (with_reducible exact impl_CompleteIdentifier.mono _ _ _)
   | (with_reducible exact impl_RepairDigit.mono _ _ _ _)
   | (with_reducible exact impl_SwapsOf.mono _ _ _)
   | (with_reducible exact impl_WrittenForm.mono _ _)
   | (with_reducible exact laws_rInts.mono _ _ _)
   | (with_reducible exact spec_CompactForm.mono _ _)
   | (with_reducible exact spec_CompleteIdentifier.mono _ _ _)
   | (with_reducible exact spec_DrawCompactForm.mono _ _)
   | (with_reducible exact spec_DrawCompleteIdentifier.mono _ _)
   | (with_reducible exact spec_DrawRepairDigit.mono _ _)
   | (with_reducible exact spec_DrawSwapsOf.mono _ _)
   | (with_reducible exact spec_RepairDigit.mono _ _ _ _)
   | (with_reducible exact spec_SwapsOf.mono _ _ _)
   | (with_reducible exact LeO.refl _)
   | (with_reducible exact LeO.none _)
   | (with_reducible refine LeO.ite ?_ ?_)
   | (with_reducible refine LeO.bind ?_ (fun _ => ?_))
   | exact ih0 _ _ _ _ _
   | exact ih1 _
   | exact ih2 _ _
   | exact ih3 _ _
   | exact impl_CheckIdentifier.mono _ _
   | exact impl_CompactForm.mono _ _
   | exact impl_CompleteIdentifier.mono _ _ _
   | exact impl_RepairDigit.mono _ _ _ _
   | exact impl_SwapsOf.mono _ _ _
   | exact impl_WrittenForm.mono _ _
   | exact laws_rInts.mono _ _ _
   | exact spec_CompactForm.mono _ _
   | exact spec_CompleteIdentifier.mono _ _ _
   | exact spec_DrawCompactForm.mono _ _
   | exact spec_DrawCompleteIdentifier.mono _ _
   | exact spec_DrawRepairDigit.mono _ _
   | exact spec_DrawSwapsOf.mono _ _
   | exact spec_RepairDigit.mono _ _ _ _
   | exact spec_SwapsOf.mono _ _ _
   | exact LeO.none _
   | refine LeO.ite ?_ ?_
   | refine LeO.bind ?_ (fun _ => ?_)
set_option maxHeartbeats 8000000 in
set_option maxRecDepth 100000 in
theorem laws_FnIdentifiers.calls (k : Nat) (A0 : Option Addr) (c0 : Nat) (l0 : List Int) (r : Bool) (w : World) (hr0 : Kd.C (Kd.int .u8) w A0 l0.length l0) (hc0 : l0.length ≤ c0) (hG : Gb w) (hr_ : r = true) (h : laws_FnIdentifiers.f k l0 = some r) :
  Calls Tryd.prog 8 #[.slice A0 l0.length c0] w fun e w' => e = .returned (.bool r) ∧ Below w.heap.size w w' := by
 have HR0 := Aside0.mk hr0
 have HC0 := Aside0.mk hc0
 clear hr0 hc0
 have HB := Aside0.mk (Below.refl w.heap.size w)
 have HG := Aside0.mk hG
 clear hG
 have H : ((laws_rBig.f l0).bind fun t292 => (if t292 = true then (some true) else ((spec_DrawCompleteIdentifier.f k l0).bind fun bt293 => ((impl_CompleteIdentifier.f k bt293.1 bt293.2).bind fun bt295 => ((spec_CompleteIdentifier.f k bt293.1 bt293.2).bind fun bt297 => (if bt295.1.toList = bt297.1.toList then (laws_FnIdentifiers.j0 k l0 bt293.1 bt295.1 bt295.2 (bt295.2 != bt297.2)) else (laws_FnIdentifiers.j0 k l0 bt293.1 bt295.1 bt295.2 true))))))) = some r := h
 clear h
 replace H := Option.bind_eq_some_iff.mp H
 obtain ⟨t292,A20,H⟩ := H
 replace H : (if t292 = true then (some true) else ((spec_DrawCompleteIdentifier.f k l0).bind fun bt293 => ((impl_CompleteIdentifier.f k bt293.1 bt293.2).bind fun bt295 => ((spec_CompleteIdentifier.f k bt293.1 bt293.2).bind fun bt297 => (if bt295.1.toList = bt297.1.toList then (laws_FnIdentifiers.j0 k l0 bt293.1 bt295.1 bt295.2 (bt295.2 != bt297.2)) else (laws_FnIdentifiers.j0 k l0 bt293.1 bt295.1 bt295.2 true)))))) = some r := H
 have A2 := Aside0.mk A20
 clear A20
 by_cases c3 : t292 = true
 ·subst c3
  have H1 : (some true) = some r := by rw [if_pos rfl] at H;exact H
  clear H
  have H := H1
  clear H1
  obtain rfl := Option.some.inj H
  try clear hr_
  go_enter Tryd.func8,Tryd.ntmps8
  go_wp2_with (first|((with_reducible refine gate_callee (f := 17) rfl ?_);refine goesL_ (some 39) rfl rfl Tryd.func17 (by kernel_rfl) rfl #[.slice A0 l0.length c0] rfl (by (try simp only [List.map_toArray,List.map_cons,List.map_nil]);first|done|rfl|(simp only [List.length_drop,List.length_take];rfl)) ?_;(with_reducible refine (laws_rBig.calls _ _ l0 true _ ?side1 ?side2 A2.out).mono ?_);(case side1 => repeat (first|exact HR0.out|(with_reducible refine Kd.C_alloc ?_ _)|(with_reducible refine Kd.C_drewN ?_ _)|(with_reducible refine Kd.C_drew ?_)));(case side2 => exact HC0.out);rintro e w' ⟨rfl,⟨nd,rfl⟩⟩;refine ⟨_,rfl,?_⟩))
  go_ret
  exact ⟨by first|rfl|(simp [errW_none,errW_some] <;> rfl)|(simp [*,errW_none,errW_some] <;> rfl),by repeat (first|(with_reducible first|exact HB.out|apply lA|apply lN|apply lD)|exact HB.out)⟩
 ·replace c3 := Bool.eq_false_iff.mpr c3
  subst c3
  have H1 : ((spec_DrawCompleteIdentifier.f k l0).bind fun bt293 => ((impl_CompleteIdentifier.f k bt293.1 bt293.2).bind fun bt295 => ((spec_CompleteIdentifier.f k bt293.1 bt293.2).bind fun bt297 => (if bt295.1.toList = bt297.1.toList then (laws_FnIdentifiers.j0 k l0 bt293.1 bt295.1 bt295.2 (bt295.2 != bt297.2)) else (laws_FnIdentifiers.j0 k l0 bt293.1 bt295.1 bt295.2 true))))) = some r := by rw [if_neg (show ¬ (false = true) by decide)] at H;exact H
  clear H
  have H := H1
  clear H1
  replace H := Option.bind_eq_some_iff.mp H
  obtain ⟨⟨t293,t294⟩,A40,H⟩ := H
  replace H : ((impl_CompleteIdentifier.f k t293 t294).bind fun bt295 => ((spec_CompleteIdentifier.f k t293 t294).bind fun bt297 => (if bt295.1.toList = bt297.1.toList then (laws_FnIdentifiers.j0 k l0 t293 bt295.1 bt295.2 (bt295.2 != bt297.2)) else (laws_FnIdentifiers.j0 k l0 t293 bt295.1 bt295.2 true)))) = some r := H
  have A4 := Aside0.mk A40
  clear A40
  replace H := Option.bind_eq_some_iff.mp H
  obtain ⟨⟨t295,t296⟩,A50,H⟩ := H
  replace H : ((spec_CompleteIdentifier.f k t293 t294).bind fun bt297 => (if t295.toList = bt297.1.toList then (laws_FnIdentifiers.j0 k l0 t293 t295 t296 (t296 != bt297.2)) else (laws_FnIdentifiers.j0 k l0 t293 t295 t296 true))) = some r := H
  have A5 := Aside0.mk A50
  clear A50
  replace H := Option.bind_eq_some_iff.mp H
  obtain ⟨⟨t297,t298⟩,A60,H⟩ := H
  replace H : (if t295.toList = t297.toList then (laws_FnIdentifiers.j0 k l0 t293 t295 t296 (t296 != t298)) else (laws_FnIdentifiers.j0 k l0 t293 t295 t296 true)) = some r := H
  have A6 := Aside0.mk A60
  clear A60
  have HC7 := Aside0.mk H
  clear H
  go_enter Tryd.func8,Tryd.ntmps8
  go_upto_region 6 with (first|((with_reducible refine gate_callee (f := 17) rfl ?_);refine goesL_ (some 39) rfl rfl Tryd.func17 (by kernel_rfl) rfl #[.slice A0 l0.length c0] rfl (by (try simp only [List.map_toArray,List.map_cons,List.map_nil]);first|done|rfl|(simp only [List.length_drop,List.length_take];rfl)) ?_;(with_reducible refine (laws_rBig.calls _ _ l0 false _ ?side1 ?side2 A2.out).mono ?_);(case side1 => repeat (first|exact HR0.out|(with_reducible refine Kd.C_alloc ?_ _)|(with_reducible refine Kd.C_drewN ?_ _)|(with_reducible refine Kd.C_drew ?_)));(case side2 => exact HC0.out);rintro e w' ⟨rfl,⟨nd,rfl⟩⟩;refine ⟨_,rfl,?_⟩)|((with_reducible refine gate_callee (f := 23) rfl ?_);refine goesL_ (some 42) rfl rfl Tryd.func23 (by kernel_rfl) rfl #[.slice A0 l0.length c0] rfl (by (try simp only [List.map_toArray,List.map_cons,List.map_nil]);first|done|rfl|(simp only [List.length_drop,List.length_take];rfl)) ?_;(with_reducible refine (spec_DrawCompleteIdentifier.calls k _ _ l0 t293 t294 _ ?side1 ?side2 A4.out).mono ?_);(case side1 => repeat (first|exact HR0.out|(with_reducible refine Kd.C_alloc ?_ _)|(with_reducible refine Kd.C_drewN ?_ _)|(with_reducible refine Kd.C_drew ?_)));(case side2 => exact HC0.out);rintro e w8 ⟨rfl,hb⟩;refine ⟨_,rfl,?_⟩;have n0_ := Aside0.mk (below_step (by repeat (first|(with_reducible first|exact HB.out|apply lA|apply lN|apply lD)|exact HB.out)) hb);clear HB;have HB := n0_;clear n0_;(try clear hb);(try clear hb2);(try clear hk);(try clear hi))|((with_reducible refine gate_callee (f := 14) rfl ?_);refine goesL_ (some 48) rfl rfl Tryd.func14 (by kernel_rfl) rfl #[.int .i64 t293,.string t294] rfl (by (try simp only [List.map_toArray,List.map_cons,List.map_nil]);first|done|rfl|(simp only [List.length_drop,List.length_take];rfl)) ?_;(with_reducible refine (impl_CompleteIdentifier.calls k t293 t294 t295 t296 _ ?side1 A5.out).mono ?_);(case side1 => exact Gw.below HG.out.toGw (by repeat (first|(with_reducible first|exact HB.out|apply lA|apply lN|apply lD)|exact HB.out)));rintro e w9 ⟨rfl,hb⟩;refine ⟨_,rfl,?_⟩;have n0_ := Aside0.mk (below_step (by repeat (first|(with_reducible first|exact HB.out|apply lA|apply lN|apply lD)|exact HB.out)) hb);clear HB;have HB := n0_;clear n0_;(try clear hb);(try clear hb2);(try clear hk);(try clear hi))|((with_reducible refine gate_callee (f := 13) rfl ?_);refine goesL_ (some 54) rfl rfl Tryd.func13 (by kernel_rfl) rfl #[.int .i64 t293,.string t294] rfl (by (try simp only [List.map_toArray,List.map_cons,List.map_nil]);first|done|rfl|(simp only [List.length_drop,List.length_take];rfl)) ?_;(with_reducible refine (spec_CompleteIdentifier.calls k t293 t294 t297 t298 _ A6.out).mono ?_);rintro e w' ⟨rfl,⟨nd,rfl⟩⟩;refine ⟨_,rfl,?_⟩))
  (try simp only [Act.put,List.setIfInBounds_toArray,List.set_cons_zero,List.set_cons_succ])
  go_cut [64] (fun v64 wc => ∃ (kq : Nat) (x64_6 : Bool),v64 = .bool x64_6 ∧ Aside0 (laws_FnIdentifiers.j0 kq l0 t293 t295 t296 x64_6 = some r) ∧ Aside0 (kq ≤ k) ∧ Aside0 (Below w.heap.size w wc))
  case first =>
   have H := HC7.out
   clear HC7
   by_cases c10 : t295.toList = t297.toList
   ·rw [if_pos c10] at H
    have c10b0 : (t295.toList == t297.toList) = true := beq_iff_eq.mpr c10
    have c10b1 : (t295.toList != t297.toList) = false := bne_eq_false_iff_eq.mpr c10
    clear c10
    (first|rw [c10b0]|(simp only [i64_w,i32_w];rw [c10b0])|skip)
    have H' := Aside0.mk H
    clear H
    go_wp2
    go_meet
    case rel => exact ⟨_,((t296 != t298)),(by first|rfl|(simp;done)|(simp [my_isEmpty];done)|(simp [*];done)),H',⟨by first|omega|exact Nat.le_refl _⟩,⟨by repeat (first|(with_reducible first|exact HB.out|apply lA|apply lN|apply lD)|exact HB.out)⟩⟩
   ·rw [if_neg c10] at H
    have c10b0 : (t295.toList == t297.toList) = false := beq_eq_false_iff_ne.mpr c10
    have c10b1 : (t295.toList != t297.toList) = true := bne_iff_ne.mpr c10
    (first|rw [c10b0]|(simp only [i64_w,i32_w];rw [c10b0])|skip)
    have H' := Aside0.mk H
    clear H
    go_wp2
    go_meet
    case rel => exact ⟨_,(true),(by first|rfl|(simp;done)|(simp [my_isEmpty];done)|(simp [*];done)),H',⟨by first|omega|exact Nat.le_refl _⟩,⟨by repeat (first|(with_reducible first|exact HB.out|apply lA|apply lN|apply lD)|exact HB.out)⟩⟩
  case rest =>
   clear HC7
   try clear c1
   try clear c2
   try clear p2
   try clear c3
   try clear c8
   try clear c10
   try clear c10b0
   try clear c10b1
   obtain ⟨kq,x64_6,rfl,HA,HJ6,HB⟩ := hcut
   cases kq with
   | zero => exact absurd HA.out (by simp [laws_FnIdentifiers.j0])
   | succ kj6 =>
    have H := HA.out
    clear HA
    simp only [laws_FnIdentifiers.j0] at H
    by_cases c11 : x64_6 = true
    ·subst c11
     have H1 : (some false) = some r := by rw [if_pos rfl] at H;exact H
     clear H
     have H := H1
     clear H1
     exact absurd ((Option.some.inj H).trans hr_) (by decide)
    ·replace c11 := Bool.eq_false_iff.mpr c11
     subst c11
     have H1 : (if t296 = true then ((impl_CheckIdentifier.f kj6 t295).bind fun bt299 => ((impl_WrittenForm.f kj6 t295).bind fun bt301 => ((impl_CompactForm.f kj6 bt301.1).bind fun bt303 => ((impl_RepairDigit.f kj6 t293 t295 (wrap64 ((t295.size : Int) - 1))).bind fun bt306 => (if bt299.2 = true then (if bt301.2 = true then (if bt303.2.2 = true then (if bt306.2 = true then (if bt299.1 = t293 then (if bt303.2.1 = t293 then (if bt303.1.toList = t295.toList then (if bt306.1.toList = t295.toList then (laws_FnIdentifiers.j1 kj6 l0) else (some false)) else (some false)) else (some false)) else (some false)) else (some false)) else (some false)) else (some false)) else (some false)))))) else (laws_FnIdentifiers.j1 kj6 l0)) = some r := by rw [if_neg (show ¬ (false = true) by decide)] at H;exact H
     clear H
     have H := H1
     clear H1
     have HC12 := Aside0.mk H
     clear H
     go_upto_if 65 with (fail)
     go_cut [] (fun wc => ∃ (kq : Nat),Aside0 (laws_FnIdentifiers.j1 kq l0 = some r) ∧ Aside0 (kq ≤ kj6) ∧ Aside0 (Below w.heap.size w wc))
     case first =>
      have H := HC12.out
      clear HC12
      by_cases c13 : t296 = true
      ·subst c13
       have H1 : ((impl_CheckIdentifier.f kj6 t295).bind fun bt299 => ((impl_WrittenForm.f kj6 t295).bind fun bt301 => ((impl_CompactForm.f kj6 bt301.1).bind fun bt303 => ((impl_RepairDigit.f kj6 t293 t295 (wrap64 ((t295.size : Int) - 1))).bind fun bt306 => (if bt299.2 = true then (if bt301.2 = true then (if bt303.2.2 = true then (if bt306.2 = true then (if bt299.1 = t293 then (if bt303.2.1 = t293 then (if bt303.1.toList = t295.toList then (if bt306.1.toList = t295.toList then (laws_FnIdentifiers.j1 kj6 l0) else (some false)) else (some false)) else (some false)) else (some false)) else (some false)) else (some false)) else (some false)) else (some false)))))) = some r := by rw [if_pos rfl] at H;exact H
       clear H
       have H := H1
       clear H1
       replace H := Option.bind_eq_some_iff.mp H
       obtain ⟨⟨t299,t300⟩,A140,H⟩ := H
       replace H : ((impl_WrittenForm.f kj6 t295).bind fun bt301 => ((impl_CompactForm.f kj6 bt301.1).bind fun bt303 => ((impl_RepairDigit.f kj6 t293 t295 (wrap64 ((t295.size : Int) - 1))).bind fun bt306 => (if t300 = true then (if bt301.2 = true then (if bt303.2.2 = true then (if bt306.2 = true then (if t299 = t293 then (if bt303.2.1 = t293 then (if bt303.1.toList = t295.toList then (if bt306.1.toList = t295.toList then (laws_FnIdentifiers.j1 kj6 l0) else (some false)) else (some false)) else (some false)) else (some false)) else (some false)) else (some false)) else (some false)) else (some false))))) = some r := H
       have A14 := Aside0.mk A140
       clear A140
       replace H := Option.bind_eq_some_iff.mp H
       obtain ⟨⟨t301,t302⟩,A150,H⟩ := H
       replace H : ((impl_CompactForm.f kj6 t301).bind fun bt303 => ((impl_RepairDigit.f kj6 t293 t295 (wrap64 ((t295.size : Int) - 1))).bind fun bt306 => (if t300 = true then (if t302 = true then (if bt303.2.2 = true then (if bt306.2 = true then (if t299 = t293 then (if bt303.2.1 = t293 then (if bt303.1.toList = t295.toList then (if bt306.1.toList = t295.toList then (laws_FnIdentifiers.j1 kj6 l0) else (some false)) else (some false)) else (some false)) else (some false)) else (some false)) else (some false)) else (some false)) else (some false)))) = some r := H
       have A15 := Aside0.mk A150
       clear A150
       replace H := Option.bind_eq_some_iff.mp H
       obtain ⟨⟨t303,t304,t305⟩,A160,H⟩ := H
       replace H : ((impl_RepairDigit.f kj6 t293 t295 (wrap64 ((t295.size : Int) - 1))).bind fun bt306 => (if t300 = true then (if t302 = true then (if t305 = true then (if bt306.2 = true then (if t299 = t293 then (if t304 = t293 then (if t303.toList = t295.toList then (if bt306.1.toList = t295.toList then (laws_FnIdentifiers.j1 kj6 l0) else (some false)) else (some false)) else (some false)) else (some false)) else (some false)) else (some false)) else (some false)) else (some false))) = some r := H
       have A16 := Aside0.mk A160
       clear A160
       replace H := Option.bind_eq_some_iff.mp H
       obtain ⟨⟨t306,t307⟩,A170,H⟩ := H
       replace H : (if t300 = true then (if t302 = true then (if t305 = true then (if t307 = true then (if t299 = t293 then (if t304 = t293 then (if t303.toList = t295.toList then (if t306.toList = t295.toList then (laws_FnIdentifiers.j1 kj6 l0) else (some false)) else (some false)) else (some false)) else (some false)) else (some false)) else (some false)) else (some false)) else (some false)) = some r := H
       have A17 := Aside0.mk A170
       clear A170
       by_cases c18 : t300 = true
       ·subst c18
        have H1 : (if t302 = true then (if t305 = true then (if t307 = true then (if t299 = t293 then (if t304 = t293 then (if t303.toList = t295.toList then (if t306.toList = t295.toList then (laws_FnIdentifiers.j1 kj6 l0) else (some false)) else (some false)) else (some false)) else (some false)) else (some false)) else (some false)) else (some false)) = some r := by rw [if_pos rfl] at H;exact H
        clear H
        have H := H1
        clear H1
        by_cases c19 : t302 = true
        ·subst c19
         have H1 : (if t305 = true then (if t307 = true then (if t299 = t293 then (if t304 = t293 then (if t303.toList = t295.toList then (if t306.toList = t295.toList then (laws_FnIdentifiers.j1 kj6 l0) else (some false)) else (some false)) else (some false)) else (some false)) else (some false)) else (some false)) = some r := by rw [if_pos rfl] at H;exact H
         clear H
         have H := H1
         clear H1
         by_cases c20 : t305 = true
         ·subst c20
          have H1 : (if t307 = true then (if t299 = t293 then (if t304 = t293 then (if t303.toList = t295.toList then (if t306.toList = t295.toList then (laws_FnIdentifiers.j1 kj6 l0) else (some false)) else (some false)) else (some false)) else (some false)) else (some false)) = some r := by rw [if_pos rfl] at H;exact H
          clear H
          have H := H1
          clear H1
          by_cases c21 : t307 = true
          ·subst c21
           have H1 : (if t299 = t293 then (if t304 = t293 then (if t303.toList = t295.toList then (if t306.toList = t295.toList then (laws_FnIdentifiers.j1 kj6 l0) else (some false)) else (some false)) else (some false)) else (some false)) = some r := by rw [if_pos rfl] at H;exact H
           clear H
           have H := H1
           clear H1
           by_cases c22 : t299 = t293
           ·rw [if_pos c22] at H
            have c22b0 : (t299 == t293) = true := beq_iff_eq.mpr c22
            have c22b1 : (t299 != t293) = false := bne_eq_false_iff_eq.mpr c22
            clear c22
            (first|rw [c22b0]|(simp only [i64_w,i32_w];rw [c22b0])|skip)
            by_cases c23 : t304 = t293
            ·rw [if_pos c23] at H
             have c23b0 : (t304 == t293) = true := beq_iff_eq.mpr c23
             have c23b1 : (t304 != t293) = false := bne_eq_false_iff_eq.mpr c23
             clear c23
             by_cases c24 : t303.toList = t295.toList
             ·rw [if_pos c24] at H
              have c24b0 : (t303.toList == t295.toList) = true := beq_iff_eq.mpr c24
              have c24b1 : (t303.toList != t295.toList) = false := bne_eq_false_iff_eq.mpr c24
              clear c24
              by_cases c25 : t306.toList = t295.toList
              ·rw [if_pos c25] at H
               have c25b0 : (t306.toList == t295.toList) = true := beq_iff_eq.mpr c25
               have c25b1 : (t306.toList != t295.toList) = false := bne_eq_false_iff_eq.mpr c25
               clear c25
               have H' := Aside0.mk H
               clear H
               go_wp2_with (first|((with_reducible refine gate_callee (f := 21) rfl ?_);refine goesL_ (some 68) rfl rfl Tryd.func21 (by kernel_rfl) rfl #[.string t295] rfl (by (try simp only [List.map_toArray,List.map_cons,List.map_nil]);first|done|rfl|(simp only [List.length_drop,List.length_take];rfl)) ?_;(with_reducible refine (impl_CheckIdentifier.calls kj6 t295 t299 true _ A14.out).mono ?_);rintro e w' ⟨rfl,⟨nd,rfl⟩⟩;refine ⟨_,rfl,?_⟩)|((with_reducible refine gate_callee (f := 24) rfl ?_);refine goesL_ (some 73) rfl rfl Tryd.func24 (by kernel_rfl) rfl #[.string t295] rfl (by (try simp only [List.map_toArray,List.map_cons,List.map_nil]);first|done|rfl|(simp only [List.length_drop,List.length_take];rfl)) ?_;(with_reducible refine (impl_WrittenForm.calls kj6 t295 t301 true _ A15.out).mono ?_);rintro e w' ⟨rfl,⟨nd,rfl⟩⟩;refine ⟨_,rfl,?_⟩)|((with_reducible refine gate_callee (f := 16) rfl ?_);refine goesL_ (some 78) rfl rfl Tryd.func16 (by kernel_rfl) rfl #[.string t301] rfl (by (try simp only [List.map_toArray,List.map_cons,List.map_nil]);first|done|rfl|(simp only [List.length_drop,List.length_take];rfl)) ?_;(with_reducible refine (impl_CompactForm.calls kj6 t301 t303 t304 true _ ?side1 A16.out).mono ?_);(case side1 => exact Gm.below HG.out.toGm (by repeat (first|(with_reducible first|exact HB.out|apply lA|apply lN|apply lD)|exact HB.out)));rintro e w26 ⟨rfl,hb⟩;refine ⟨_,rfl,?_⟩;have n0_ := Aside0.mk (below_step (by repeat (first|(with_reducible first|exact HB.out|apply lA|apply lN|apply lD)|exact HB.out)) hb);clear HB;have HB := n0_;clear n0_;(try clear hb);(try clear hb2);(try clear hk);(try clear hi))|((with_reducible refine gate_callee (f := 25) rfl ?_);refine goesL_ (some 88) rfl rfl Tryd.func25 (by kernel_rfl) rfl #[.int .i64 t293,.string t295,.int .i64 (wrap64 ((t295.size : Int) - 1))] rfl (by (try simp only [List.map_toArray,List.map_cons,List.map_nil]);first|done|rfl|(simp only [List.length_drop,List.length_take];rfl)) ?_;(with_reducible refine (impl_RepairDigit.calls kj6 t293 t295 (wrap64 ((t295.size : Int) - 1)) t306 true _ A17.out).mono ?_);rintro e w27 ⟨rfl,hb⟩;refine ⟨_,rfl,?_⟩;have n0_ := Aside0.mk (below_step (by repeat (first|(with_reducible first|exact HB.out|apply lA|apply lN|apply lD)|exact HB.out)) hb);clear HB;have HB := n0_;clear n0_;(try clear hb);(try clear hb2);(try clear hk);(try clear hi)))
               go_meet
               case rel => exact ⟨_,H',⟨by have := HJ6.out;first|omega|exact Nat.le_refl _⟩,⟨by repeat (first|(with_reducible first|exact HB.out|apply lA|apply lN|apply lD)|exact HB.out)⟩⟩
              ·rw [if_neg c25] at H
               have c25b0 : (t306.toList == t295.toList) = false := beq_eq_false_iff_ne.mpr c25
               have c25b1 : (t306.toList != t295.toList) = true := bne_iff_ne.mpr c25
               exact absurd ((Option.some.inj H).trans hr_) (by decide)
             ·rw [if_neg c24] at H
              have c24b0 : (t303.toList == t295.toList) = false := beq_eq_false_iff_ne.mpr c24
              have c24b1 : (t303.toList != t295.toList) = true := bne_iff_ne.mpr c24
              exact absurd ((Option.some.inj H).trans hr_) (by decide)
            ·rw [if_neg c23] at H
             have c23b0 : (t304 == t293) = false := beq_eq_false_iff_ne.mpr c23
             have c23b1 : (t304 != t293) = true := bne_iff_ne.mpr c23
             exact absurd ((Option.some.inj H).trans hr_) (by decide)
           ·rw [if_neg c22] at H
            have c22b0 : (t299 == t293) = false := beq_eq_false_iff_ne.mpr c22
            have c22b1 : (t299 != t293) = true := bne_iff_ne.mpr c22
            (first|rw [c22b0]|(simp only [i64_w,i32_w];rw [c22b0])|skip)
            exact absurd ((Option.some.inj H).trans hr_) (by decide)
          ·replace c21 := Bool.eq_false_iff.mpr c21
           subst c21
           have H1 : (some false) = some r := by rw [if_neg (show ¬ (false = true) by decide)] at H;exact H
           clear H
           have H := H1
           clear H1
           exact absurd ((Option.some.inj H).trans hr_) (by decide)
         ·replace c20 := Bool.eq_false_iff.mpr c20
          subst c20
          have H1 : (some false) = some r := by rw [if_neg (show ¬ (false = true) by decide)] at H;exact H
          clear H
          have H := H1
          clear H1
          exact absurd ((Option.some.inj H).trans hr_) (by decide)
        ·replace c19 := Bool.eq_false_iff.mpr c19
         subst c19
         have H1 : (some false) = some r := by rw [if_neg (show ¬ (false = true) by decide)] at H;exact H
         clear H
         have H := H1
         clear H1
         exact absurd ((Option.some.inj H).trans hr_) (by decide)
       ·replace c18 := Bool.eq_false_iff.mpr c18
        subst c18
        have H1 : (some false) = some r := by rw [if_neg (show ¬ (false = true) by decide)] at H;exact H
        clear H
        have H := H1
        clear H1
        exact absurd ((Option.some.inj H).trans hr_) (by decide)
      ·replace c13 := Bool.eq_false_iff.mpr c13
       subst c13
       have H1 : (laws_FnIdentifiers.j1 kj6 l0) = some r := by rw [if_neg (show ¬ (false = true) by decide)] at H;exact H
       clear H
       have H := H1
       clear H1
       have H' := Aside0.mk H
       clear H
       go_wp2
       go_meet
       case rel => exact ⟨_,H',⟨by have := HJ6.out;first|omega|exact Nat.le_refl _⟩,⟨by repeat (first|(with_reducible first|exact HB.out|apply lA|apply lN|apply lD)|exact HB.out)⟩⟩
     case rest =>
      clear HC12
      try clear c1
      try clear c2
      try clear p2
      try clear c3
      try clear p6
      try clear c8
      try clear c10
      try clear c10b0
      try clear c10b1
      try clear c11
      try clear c13
      try clear c14
      try clear c16
      try clear c17
      try clear c18
      try clear c19
      try clear c20
      try clear c21
      try clear c22
      try clear c22b0
      try clear c22b1
      try clear c23
      try clear c23b0
      try clear c23b1
      try clear c24
      try clear c24b0
      try clear c24b1
      try clear c25
      try clear c25b0
      try clear c25b1
      try clear p2
      obtain ⟨kq,HA,HJ11,HB⟩ := hcut
      cases kq with
      | zero => exact absurd HA.out (by simp [laws_FnIdentifiers.j1])
      | succ kj11 =>
       have H := HA.out
       clear HA
       simp only [laws_FnIdentifiers.j1] at H
       replace H := Option.bind_eq_some_iff.mp H
       obtain ⟨t308,A280,H⟩ := H
       replace H : ((impl_CompactForm.f kj11 t308).bind fun bt309 => ((spec_CompactForm.f kj11 t308).bind fun bt312 => (if bt309.1.toList = bt312.1.toList then (if bt309.2.1 = bt312.2.1 then (laws_FnIdentifiers.j2 kj11 l0 (bt309.2.2 != bt312.2.2)) else (laws_FnIdentifiers.j2 kj11 l0 true)) else (laws_FnIdentifiers.j2 kj11 l0 true)))) = some r := H
       have A28 := Aside0.mk A280
       clear A280
       replace H := Option.bind_eq_some_iff.mp H
       obtain ⟨⟨t309,t310,t311⟩,A290,H⟩ := H
       replace H : ((spec_CompactForm.f kj11 t308).bind fun bt312 => (if t309.toList = bt312.1.toList then (if t310 = bt312.2.1 then (laws_FnIdentifiers.j2 kj11 l0 (t311 != bt312.2.2)) else (laws_FnIdentifiers.j2 kj11 l0 true)) else (laws_FnIdentifiers.j2 kj11 l0 true))) = some r := H
       have A29 := Aside0.mk A290
       clear A290
       replace H := Option.bind_eq_some_iff.mp H
       obtain ⟨⟨t312,t313,t314⟩,A300,H⟩ := H
       replace H : (if t309.toList = t312.toList then (if t310 = t313 then (laws_FnIdentifiers.j2 kj11 l0 (t311 != t314)) else (laws_FnIdentifiers.j2 kj11 l0 true)) else (laws_FnIdentifiers.j2 kj11 l0 true)) = some r := H
       have A30 := Aside0.mk A300
       clear A300
       have HC31 := Aside0.mk H
       clear H
       go_upto_region 18 with (first|((with_reducible refine gate_callee (f := 26) rfl ?_);refine goesL_ (some 126) rfl rfl Tryd.func26 (by kernel_rfl) rfl #[.slice A0 l0.length c0] rfl (by (try simp only [List.map_toArray,List.map_cons,List.map_nil]);first|done|rfl|(simp only [List.length_drop,List.length_take];rfl)) ?_;(with_reducible refine (spec_DrawCompactForm.calls kj11 _ _ l0 t308 _ ?side1 ?side2 A28.out).mono ?_);(case side1 => repeat (first|exact (Kd.C_below HR0.out HB.out)|(with_reducible refine Kd.C_alloc ?_ _)|(with_reducible refine Kd.C_drewN ?_ _)|(with_reducible refine Kd.C_drew ?_)));(case side2 => exact HC0.out);rintro e w32 ⟨rfl,hb⟩;refine ⟨_,rfl,?_⟩;have n0_ := Aside0.mk (below_step (by repeat (first|(with_reducible first|exact HB.out|apply lA|apply lN|apply lD)|exact HB.out)) hb);clear HB;have HB := n0_;clear n0_;(try clear hb);(try clear hb2);(try clear hk);(try clear hi))|((with_reducible refine gate_callee (f := 16) rfl ?_);refine goesL_ (some 129) rfl rfl Tryd.func16 (by kernel_rfl) rfl #[.string t308] rfl (by (try simp only [List.map_toArray,List.map_cons,List.map_nil]);first|done|rfl|(simp only [List.length_drop,List.length_take];rfl)) ?_;(with_reducible refine (impl_CompactForm.calls kj11 t308 t309 t310 t311 _ ?side1 A29.out).mono ?_);(case side1 => exact Gm.below HG.out.toGm (by repeat (first|(with_reducible first|exact HB.out|apply lA|apply lN|apply lD)|exact HB.out)));rintro e w33 ⟨rfl,hb⟩;refine ⟨_,rfl,?_⟩;have n0_ := Aside0.mk (below_step (by repeat (first|(with_reducible first|exact HB.out|apply lA|apply lN|apply lD)|exact HB.out)) hb);clear HB;have HB := n0_;clear n0_;(try clear hb);(try clear hb2);(try clear hk);(try clear hi))|((with_reducible refine gate_callee (f := 15) rfl ?_);refine goesL_ (some 135) rfl rfl Tryd.func15 (by kernel_rfl) rfl #[.string t308] rfl (by (try simp only [List.map_toArray,List.map_cons,List.map_nil]);first|done|rfl|(simp only [List.length_drop,List.length_take];rfl)) ?_;(with_reducible refine (spec_CompactForm.calls kj11 t308 t312 t313 t314 _ A30.out).mono ?_);rintro e w' ⟨rfl,⟨nd,rfl⟩⟩;refine ⟨_,rfl,?_⟩))
       (try simp only [Act.put,List.setIfInBounds_toArray,List.set_cons_zero,List.set_cons_succ])
       go_cut [151] (fun v151 wc => ∃ (kq : Nat) (x151_30 : Bool),v151 = .bool x151_30 ∧ Aside0 (laws_FnIdentifiers.j2 kq l0 x151_30 = some r) ∧ Aside0 (kq ≤ kj11) ∧ Aside0 (Below w.heap.size w wc))
       case first =>
        have H := HC31.out
        clear HC31
        by_cases c34 : t309.toList = t312.toList
        ·rw [if_pos c34] at H
         have c34b0 : (t309.toList == t312.toList) = true := beq_iff_eq.mpr c34
         have c34b1 : (t309.toList != t312.toList) = false := bne_eq_false_iff_eq.mpr c34
         clear c34
         (first|rw [c34b0]|(simp only [i64_w,i32_w];rw [c34b0])|skip)
         by_cases c35 : t310 = t313
         ·rw [if_pos c35] at H
          have c35b0 : (t310 == t313) = true := beq_iff_eq.mpr c35
          have c35b1 : (t310 != t313) = false := bne_eq_false_iff_eq.mpr c35
          clear c35
          have H' := Aside0.mk H
          clear H
          go_wp2
          go_meet
          case rel => exact ⟨_,((t311 != t314)),(by first|rfl|(simp;done)|(simp [my_isEmpty];done)|(simp [*];done)),H',⟨by have := HJ6.out;have := HJ11.out;first|omega|exact Nat.le_refl _⟩,⟨by repeat (first|(with_reducible first|exact HB.out|apply lA|apply lN|apply lD)|exact HB.out)⟩⟩
         ·rw [if_neg c35] at H
          have c35b0 : (t310 == t313) = false := beq_eq_false_iff_ne.mpr c35
          have c35b1 : (t310 != t313) = true := bne_iff_ne.mpr c35
          have H' := Aside0.mk H
          clear H
          go_wp2
          go_meet
          case rel => exact ⟨_,(true),(by first|rfl|(simp;done)|(simp [my_isEmpty];done)|(simp [*];done)),H',⟨by have := HJ6.out;have := HJ11.out;first|omega|exact Nat.le_refl _⟩,⟨by repeat (first|(with_reducible first|exact HB.out|apply lA|apply lN|apply lD)|exact HB.out)⟩⟩
        ·rw [if_neg c34] at H
         have c34b0 : (t309.toList == t312.toList) = false := beq_eq_false_iff_ne.mpr c34
         have c34b1 : (t309.toList != t312.toList) = true := bne_iff_ne.mpr c34
         (first|rw [c34b0]|(simp only [i64_w,i32_w];rw [c34b0])|skip)
         have H' := Aside0.mk H
         clear H
         go_wp2
         go_meet
         case rel => exact ⟨_,(true),(by first|rfl|(simp;done)|(simp [my_isEmpty];done)|(simp [*];done)),H',⟨by have := HJ6.out;have := HJ11.out;first|omega|exact Nat.le_refl _⟩,⟨by repeat (first|(with_reducible first|exact HB.out|apply lA|apply lN|apply lD)|exact HB.out)⟩⟩
       case rest =>
        clear HC31
        try clear c1
        try clear c2
        try clear p2
        try clear c3
        try clear p6
        try clear c8
        try clear c10
        try clear c10b0
        try clear c10b1
        try clear c11
        try clear c13
        try clear c14
        try clear c15
        try clear c16
        try clear c17
        try clear c18
        try clear c19
        try clear c20
        try clear c21
        try clear c22
        try clear c22b0
        try clear c22b1
        try clear c23
        try clear c23b0
        try clear c23b1
        try clear c24
        try clear c24b0
        try clear c24b1
        try clear c25
        try clear c25b0
        try clear c25b1
        try clear c26
        try clear c34
        try clear c34b0
        try clear c34b1
        try clear c35
        try clear c35b0
        try clear c35b1
        try clear p2
        try clear p6
        obtain ⟨kq,x151_30,rfl,HA,HJ30,HB⟩ := hcut
        cases kq with
        | zero => exact absurd HA.out (by simp [laws_FnIdentifiers.j2])
        | succ kj30 =>
         have H := HA.out
         clear HA
         simp only [laws_FnIdentifiers.j2] at H
         by_cases c36 : x151_30 = true
         ·subst c36
          have H1 : (some false) = some r := by rw [if_pos rfl] at H;exact H
          clear H
          have H := H1
          clear H1
          exact absurd ((Option.some.inj H).trans hr_) (by decide)
         ·replace c36 := Bool.eq_false_iff.mpr c36
          subst c36
          have H1 : ((spec_DrawRepairDigit.f kj30 l0).bind fun bt315 => ((impl_RepairDigit.f kj30 bt315.1 bt315.2.1 bt315.2.2).bind fun bt318 => ((spec_RepairDigit.f kj30 bt315.1 bt315.2.1 bt315.2.2).bind fun bt320 => (if bt318.1.toList = bt320.1.toList then (laws_FnIdentifiers.j3 kj30 l0 (bt318.2 != bt320.2)) else (laws_FnIdentifiers.j3 kj30 l0 true))))) = some r := by rw [if_neg (show ¬ (false = true) by decide)] at H;exact H
          clear H
          have H := H1
          clear H1
          replace H := Option.bind_eq_some_iff.mp H
          obtain ⟨⟨t315,t316,t317⟩,A370,H⟩ := H
          replace H : ((impl_RepairDigit.f kj30 t315 t316 t317).bind fun bt318 => ((spec_RepairDigit.f kj30 t315 t316 t317).bind fun bt320 => (if bt318.1.toList = bt320.1.toList then (laws_FnIdentifiers.j3 kj30 l0 (bt318.2 != bt320.2)) else (laws_FnIdentifiers.j3 kj30 l0 true)))) = some r := H
          have A37 := Aside0.mk A370
          clear A370
          replace H := Option.bind_eq_some_iff.mp H
          obtain ⟨⟨t318,t319⟩,A380,H⟩ := H
          replace H : ((spec_RepairDigit.f kj30 t315 t316 t317).bind fun bt320 => (if t318.toList = bt320.1.toList then (laws_FnIdentifiers.j3 kj30 l0 (t319 != bt320.2)) else (laws_FnIdentifiers.j3 kj30 l0 true))) = some r := H
          have A38 := Aside0.mk A380
          clear A380
          replace H := Option.bind_eq_some_iff.mp H
          obtain ⟨⟨t320,t321⟩,A390,H⟩ := H
          replace H : (if t318.toList = t320.toList then (laws_FnIdentifiers.j3 kj30 l0 (t319 != t321)) else (laws_FnIdentifiers.j3 kj30 l0 true)) = some r := H
          have A39 := Aside0.mk A390
          clear A390
          have HC40 := Aside0.mk H
          clear H
          go_upto_region 23 with (first|((with_reducible refine gate_callee (f := 27) rfl ?_);refine goesL_ (some 154) rfl rfl Tryd.func27 (by kernel_rfl) rfl #[.slice A0 l0.length c0] rfl (by (try simp only [List.map_toArray,List.map_cons,List.map_nil]);first|done|rfl|(simp only [List.length_drop,List.length_take];rfl)) ?_;(with_reducible refine (spec_DrawRepairDigit.calls kj30 _ _ l0 t315 t316 t317 _ ?side1 ?side2 A37.out).mono ?_);(case side1 => repeat (first|exact (Kd.C_below HR0.out HB.out)|(with_reducible refine Kd.C_alloc ?_ _)|(with_reducible refine Kd.C_drewN ?_ _)|(with_reducible refine Kd.C_drew ?_)));(case side2 => exact HC0.out);rintro e w41 ⟨rfl,hb⟩;refine ⟨_,rfl,?_⟩;have n0_ := Aside0.mk (below_step (by repeat (first|(with_reducible first|exact HB.out|apply lA|apply lN|apply lD)|exact HB.out)) hb);clear HB;have HB := n0_;clear n0_;(try clear hb);(try clear hb2);(try clear hk);(try clear hi))|((with_reducible refine gate_callee (f := 25) rfl ?_);refine goesL_ (some 162) rfl rfl Tryd.func25 (by kernel_rfl) rfl #[.int .i64 t315,.string t316,.int .i64 t317] rfl (by (try simp only [List.map_toArray,List.map_cons,List.map_nil]);first|done|rfl|(simp only [List.length_drop,List.length_take];rfl)) ?_;(with_reducible refine (impl_RepairDigit.calls kj30 t315 t316 t317 t318 t319 _ A38.out).mono ?_);rintro e w42 ⟨rfl,hb⟩;refine ⟨_,rfl,?_⟩;have n0_ := Aside0.mk (below_step (by repeat (first|(with_reducible first|exact HB.out|apply lA|apply lN|apply lD)|exact HB.out)) hb);clear HB;have HB := n0_;clear n0_;(try clear hb);(try clear hb2);(try clear hk);(try clear hi))|((with_reducible refine gate_callee (f := 28) rfl ?_);refine goesL_ (some 169) rfl rfl Tryd.func28 (by kernel_rfl) rfl #[.int .i64 t315,.string t316,.int .i64 t317] rfl (by (try simp only [List.map_toArray,List.map_cons,List.map_nil]);first|done|rfl|(simp only [List.length_drop,List.length_take];rfl)) ?_;(with_reducible refine (spec_RepairDigit.calls kj30 t315 t316 t317 t320 t321 _ A39.out).mono ?_);rintro e w' ⟨rfl,⟨nd,rfl⟩⟩;refine ⟨_,rfl,?_⟩))
          (try simp only [Act.put,List.setIfInBounds_toArray,List.set_cons_zero,List.set_cons_succ])
          go_cut [179] (fun v179 wc => ∃ (kq : Nat) (x179_39 : Bool),v179 = .bool x179_39 ∧ Aside0 (laws_FnIdentifiers.j3 kq l0 x179_39 = some r) ∧ Aside0 (kq ≤ kj30) ∧ Aside0 (Below w.heap.size w wc))
          case first =>
           have H := HC40.out
           clear HC40
           by_cases c43 : t318.toList = t320.toList
           ·rw [if_pos c43] at H
            have c43b0 : (t318.toList == t320.toList) = true := beq_iff_eq.mpr c43
            have c43b1 : (t318.toList != t320.toList) = false := bne_eq_false_iff_eq.mpr c43
            clear c43
            (first|rw [c43b0]|(simp only [i64_w,i32_w];rw [c43b0])|skip)
            have H' := Aside0.mk H
            clear H
            go_wp2
            go_meet
            case rel => exact ⟨_,((t319 != t321)),(by first|rfl|(simp;done)|(simp [my_isEmpty];done)|(simp [*];done)),H',⟨by have := HJ6.out;have := HJ11.out;have := HJ30.out;first|omega|exact Nat.le_refl _⟩,⟨by repeat (first|(with_reducible first|exact HB.out|apply lA|apply lN|apply lD)|exact HB.out)⟩⟩
           ·rw [if_neg c43] at H
            have c43b0 : (t318.toList == t320.toList) = false := beq_eq_false_iff_ne.mpr c43
            have c43b1 : (t318.toList != t320.toList) = true := bne_iff_ne.mpr c43
            (first|rw [c43b0]|(simp only [i64_w,i32_w];rw [c43b0])|skip)
            have H' := Aside0.mk H
            clear H
            go_wp2
            go_meet
            case rel => exact ⟨_,(true),(by first|rfl|(simp;done)|(simp [my_isEmpty];done)|(simp [*];done)),H',⟨by have := HJ6.out;have := HJ11.out;have := HJ30.out;first|omega|exact Nat.le_refl _⟩,⟨by repeat (first|(with_reducible first|exact HB.out|apply lA|apply lN|apply lD)|exact HB.out)⟩⟩
          case rest =>
           clear HC40
           try clear c1
           try clear c2
           try clear p2
           try clear c3
           try clear c4
           try clear p6
           try clear c8
           try clear c10
           try clear c10b0
           try clear c10b1
           try clear c11
           try clear c13
           try clear c14
           try clear c15
           try clear c16
           try clear c17
           try clear c18
           try clear c19
           try clear c20
           try clear c21
           try clear c22
           try clear c22b0
           try clear c22b1
           try clear c23
           try clear c23b0
           try clear c23b1
           try clear c24
           try clear c24b0
           try clear c24b1
           try clear c25
           try clear c25b0
           try clear c25b1
           try clear c26
           try clear c27
           try clear c28
           try clear c34
           try clear c34b0
           try clear c34b1
           try clear c35
           try clear c35b0
           try clear c35b1
           try clear c36
           try clear c43
           try clear c43b0
           try clear c43b1
           try clear p2
           try clear p6
           obtain ⟨kq,x179_39,rfl,HA,HJ39,HB⟩ := hcut
           cases kq with
           | zero => exact absurd HA.out (by simp [laws_FnIdentifiers.j3])
           | succ kj39 =>
            have H := HA.out
            clear HA
            simp only [laws_FnIdentifiers.j3] at H
            by_cases c44 : x179_39 = true
            ·subst c44
             have H1 : (some false) = some r := by rw [if_pos rfl] at H;exact H
             clear H
             have H := H1
             clear H1
             exact absurd ((Option.some.inj H).trans hr_) (by decide)
            ·replace c44 := Bool.eq_false_iff.mpr c44
             subst c44
             have H1 : ((spec_DrawSwapsOf.f kj39 l0).bind fun bt322 => ((impl_SwapsOf.f kj39 bt322.1 bt322.2).bind fun bt324 => ((spec_SwapsOf.f kj39 bt322.1 bt322.2).bind fun bt328 => (if (bt324.2 == bt328.2) = true then ((laws_rInts.f kj39 bt324.1 bt328.1).bind fun t332 => (some t332)) else (some false))))) = some r := by rw [if_neg (show ¬ (false = true) by decide)] at H;exact H
             clear H
             have H := H1
             clear H1
             replace H := Option.bind_eq_some_iff.mp H
             obtain ⟨⟨t322,t323⟩,A450,H⟩ := H
             replace H : ((impl_SwapsOf.f kj39 t322 t323).bind fun bt324 => ((spec_SwapsOf.f kj39 t322 t323).bind fun bt328 => (if (bt324.2 == bt328.2) = true then ((laws_rInts.f kj39 bt324.1 bt328.1).bind fun t332 => (some t332)) else (some false)))) = some r := H
             have A45 := Aside0.mk A450
             clear A450
             replace H := Option.bind_eq_some_iff.mp H
             obtain ⟨⟨t324,t325⟩,A460,H⟩ := H
             replace H : ((spec_SwapsOf.f kj39 t322 t323).bind fun bt328 => (if (t325 == bt328.2) = true then ((laws_rInts.f kj39 t324 bt328.1).bind fun t332 => (some t332)) else (some false))) = some r := H
             have A46 := Aside0.mk A460
             clear A460
             replace H := Option.bind_eq_some_iff.mp H
             obtain ⟨⟨t328,t329⟩,A470,H⟩ := H
             replace H : (if (t325 == t329) = true then ((laws_rInts.f kj39 t324 t328).bind fun t332 => (some t332)) else (some false)) = some r := H
             have A47 := Aside0.mk A470
             clear A470
             by_cases c48 : (t325 == t329) = true
             ·rw [if_pos c48] at H
              have c48b0 : (t325 == t329) = true := c48
              (try (have c48b1 : decide (t325 = t329) = true := by simpa using c48))
              (try (have c48b2 : (t325 == t329) = true := by simpa using c48))
              clear c48
              replace H := Option.bind_eq_some_iff.mp H
              obtain ⟨t332,A490,H⟩ := H
              replace H : (some t332) = some r := H
              have A49 := Aside0.mk A490
              clear A490
              obtain rfl := Option.some.inj H
              try clear hr_
              go_wp2_with (first|((with_reducible refine gate_callee (f := 29) rfl ?_);refine goesL_ (some 182) rfl rfl Tryd.func29 (by kernel_rfl) rfl #[.slice A0 l0.length c0] rfl (by (try simp only [List.map_toArray,List.map_cons,List.map_nil]);first|done|rfl|(simp only [List.length_drop,List.length_take];rfl)) ?_;(with_reducible refine (spec_DrawSwapsOf.calls kj39 _ _ l0 t322 t323 _ ?side1 ?side2 A45.out).mono ?_);(case side1 => repeat (first|exact (Kd.C_below HR0.out HB.out)|(with_reducible refine Kd.C_alloc ?_ _)|(with_reducible refine Kd.C_drewN ?_ _)|(with_reducible refine Kd.C_drew ?_)));(case side2 => exact HC0.out);rintro e w50 ⟨rfl,hb⟩;refine ⟨_,rfl,?_⟩;have n0_ := Aside0.mk (below_step (by repeat (first|(with_reducible first|exact HB.out|apply lA|apply lN|apply lD)|exact HB.out)) hb);clear HB;have HB := n0_;clear n0_;(try clear hb);(try clear hb2);(try clear hk);(try clear hi))|((with_reducible refine gate_callee (f := 30) rfl ?_);refine goesL_ (some 188) rfl rfl Tryd.func30 (by kernel_rfl) rfl #[.int .i64 t322,.string t323] rfl (by (try simp only [List.map_toArray,List.map_cons,List.map_nil]);first|done|rfl|(simp only [List.length_drop,List.length_take];rfl)) ?_;(with_reducible refine (impl_SwapsOf.calls kj39 t322 t323 t324 t325 _ A46.out).mono ?_);rintro e w51 ⟨v326,rfl,ho0,hb⟩;refine ⟨_,rfl,?_⟩;have n0_ := Aside0.mk (Kd.R_lower ho0 (below_size (by repeat (first|(with_reducible first|exact HB.out|apply lA|apply lN|apply lD)|exact HB.out))));have n1_ := Aside0.mk (below_step (by repeat (first|(with_reducible first|exact HB.out|apply lA|apply lN|apply lD)|exact HB.out)) hb);clear HB;have HO327 := n0_;have HB := n1_;clear n0_ n1_;(try clear hb);(try clear hb2);(try clear hk);(try clear hi);(try clear ho0))|((with_reducible refine gate_callee (f := 31) rfl ?_);refine goesL_ (some 194) rfl rfl Tryd.func31 (by kernel_rfl) rfl #[.int .i64 t322,.string t323] rfl (by (try simp only [List.map_toArray,List.map_cons,List.map_nil]);first|done|rfl|(simp only [List.length_drop,List.length_take];rfl)) ?_;(with_reducible refine (spec_SwapsOf.calls kj39 t322 t323 t328 t329 _ A47.out).mono ?_);rintro e w52 ⟨v330,rfl,ho0,hb⟩;refine ⟨_,rfl,?_⟩;have n0_ := Aside0.mk (Kd.R_elder' (by (with_reducible repeat (first|apply Kd.R_alloc|apply Kd.R_drewN|apply Kd.R_drew));exact HO327.out) (Kd.R_base ho0) hb);have n1_ := Aside0.mk (Kd.R_lower (Kd.R_new' ho0 (Kd.R_lt (by (with_reducible repeat (first|apply Kd.R_alloc|apply Kd.R_drewN|apply Kd.R_drew));exact HO327.out))) (below_size (by repeat (first|(with_reducible first|exact HB.out|apply lA|apply lN|apply lD)|exact HB.out))));have n2_ := Aside0.mk (below_step (by repeat (first|(with_reducible first|exact HB.out|apply lA|apply lN|apply lD)|exact HB.out)) hb);clear HO327;clear HB;have HO327 := n0_;have HO331 := n1_;have HB := n2_;clear n0_ n1_ n2_;(try clear hb);(try clear hb2);(try clear hk);(try clear hi);(try clear ho0);obtain ⟨Ao53,co53,eo53⟩ := Kd.R_slice HO327.out;subst eo53;obtain ⟨Ao54,co54,eo54⟩ := Kd.R_slice HO331.out;subst eo54)|(go_at_call 32;(with_reducible refine (laws_rInts.calls kj39 _ _ t324 _ _ t328 t332 _ ?side1 ?side2 ?side3 ?side4 A49.out).mono ?_);(case side1 => repeat (first|exact (Kd.R_reads' HO327.out).2.2|(with_reducible refine Kd.C_alloc ?_ _)|(with_reducible refine Kd.C_drewN ?_ _)|(with_reducible refine Kd.C_drew ?_)));(case side2 => exact (Kd.R_reads' HO327.out).2.1);(case side3 => repeat (first|exact (Kd.R_reads' HO331.out).2.2|(with_reducible refine Kd.C_alloc ?_ _)|(with_reducible refine Kd.C_drewN ?_ _)|(with_reducible refine Kd.C_drew ?_)));(case side4 => exact (Kd.R_reads' HO331.out).2.1);rintro e w' ⟨rfl,⟨nd,rfl⟩⟩))
              go_ret
              exact ⟨by first|rfl|(simp [errW_none,errW_some] <;> rfl)|(simp [*,errW_none,errW_some] <;> rfl),by repeat (first|(with_reducible first|exact HB.out|apply lA|apply lN|apply lD)|exact HB.out)⟩
             ·rw [if_neg c48] at H
              have c48b0 : (t325 == t329) = false := by simpa using c48
              (try (have c48b1 : decide (t325 = t329) = false := by simpa using c48))
              (try (have c48b2 : (t325 == t329) = false := by simpa using c48))
              (try (have c48b3 : ¬ (t325 = t329) := by simpa using c48))
              clear c48
              exact absurd ((Option.some.inj H).trans hr_) (by decide)
def laws_FnIdentifiers.Pure : Prop := ∀ (l0 : List Int),(l0.length * 1 ≤ 140737488351232 ∧ l0.length ≤ maxLen ∧ ∀ a_ ∈ l0,(Lit.int .u8 a_).wf = true) → ∃ k,laws_FnIdentifiers.f k l0 = some true
end Go.Proofs.YtpnjnlcjofaglaaDoor.P
