/- Written by a program in this session: each theorem here says that a Go function computes the Lean function beside it, or that a law's row holds, under the conditions that the theorem itself states. -/
import Derived.Test.YtinbbjfnebhlkaaDoorZPx0
import Derived.Test.YtinbbjfnebhlkaaDoorZPx2
import Derived.Test.YtinbbjfnebhlkaaDoorZPx4
import Derived.Test.YtinbbjfnebhlkaaDoorZPx7
import Derived.Test.YtinbbjfnebhlkaaDoorZPx8
import Derived.Test.YtinbbjfnebhlkaaDoorZPx13
namespace Go.Proofs.YtinbbjfnebhlkaaDoor.P
open Go.RowKit Go.Proofs.YtinbbjfnebhlkaaDoorW.PrintWords Go.Proofs.YtinbbjfnebhlkaaDoorW.PrintLast Go.Proofs.YtinbbjfnebhlkaaDoorW.PrintMore
attribute [local go_sem] max2_int min2_int max_two min_two max_three min_three max_four min_four   -- for this text's walks alone
set_option linter.unusedVariables false
set_option linter.unusedSimpArgs false
attribute [local go_sem high] eqA31
mutual
def laws_FnLogLines.j0 : Nat → Int → ByteArray → Bool → Bool → Bool → ByteArray → ByteArray → Int → Option (Bool)
 | 0,_,_,_,_,_,_,_,_ => none
 | k + 1,x3,x5,x6,x12,x76,x495000,x495001,x495002 => if x76 = true then (some false) else ((impl_RecoverLog.f k x5).bind fun bt501 => (if x6 = true then (if ((decide (bt501.2.2.2.1 > 0)) != (x3 == 0)) = true then (laws_FnLogLines.j1 k x5 x6 x12 true x495000 x495001 x495002) else (if x3 = 0 then (laws_FnLogLines.j1 k x5 x6 x12 (bt501.2.2.1 != 1) x495000 x495001 x495002) else (laws_FnLogLines.j1 k x5 x6 x12 false x495000 x495001 x495002))) else (laws_FnLogLines.j1 k x5 x6 x12 false x495000 x495001 x495002)))
def laws_FnLogLines.j1 : Nat → ByteArray → Bool → Bool → Bool → ByteArray → ByteArray → Int → Option (Bool)
 | 0,_,_,_,_,_,_,_ => none
 | k + 1,x5,x6,x12,x102,x495000,x495001,x495002 => if x102 = true then (some false) else ((impl_SyncLog.f k x495000 x495001 x495002).bind fun bt507 => (if x12 = true then (if bt507.2.2.2 = true then (if (bt507.1.toList == x495000.toList && (bt507.2.1.toList == x495001.toList && (bt507.2.2.1 == x495002))) = true then ((impl_IsValidLog.f k x495000 x495001 x495002).bind fun t512 => (if t512 = true then (if x6 = true then (some true) else (some (x5.toList == ([] : List UInt8)))) else (some false))) else (some false)) else (some false)) else (some true)))
end
def laws_FnLogLines.f (k : Nat) (l0 : List Int) : Option (Bool) := (laws_vBig.f l0).bind fun t479 => (if t479 = true then (some true) else ((spec_DrawEncodeRecord.f l0).bind fun bt480 => ((impl_EncodeRecord.f k bt480.1 bt480.2.1 bt480.2.2).bind fun bt484 => ((spec_EncodeRecord.f k bt480.1 bt480.2.1 bt480.2.2).bind fun bt486 => ((spec_DrawRecoverLog.f k l0).bind fun t488 => ((impl_RecoverLog.f k t488).bind fun bt489 => ((spec_RecoverLog.f k t488).bind fun bt495 => (if bt484.1.toList = bt486.1.toList then (if (bt484.2 != bt486.2) = true then (laws_FnLogLines.j0 k bt480.1 bt484.1 bt484.2 bt489.2.2.2.2 true bt489.1 bt489.2.1 bt489.2.2.1) else (if (!(bt489.1.toList == bt495.1.toList) || (!(bt489.2.1.toList == bt495.2.1.toList) || (!(bt489.2.2.1 == bt495.2.2.1)))) = true then (laws_FnLogLines.j0 k bt480.1 bt484.1 bt484.2 bt489.2.2.2.2 true bt489.1 bt489.2.1 bt489.2.2.1) else (if bt489.2.2.2.1 = bt495.2.2.2.1 then (laws_FnLogLines.j0 k bt480.1 bt484.1 bt484.2 bt489.2.2.2.2 (bt489.2.2.2.2 != bt495.2.2.2.2) bt489.1 bt489.2.1 bt489.2.2.1) else (laws_FnLogLines.j0 k bt480.1 bt484.1 bt484.2 bt489.2.2.2.2 true bt489.1 bt489.2.1 bt489.2.2.1)))) else (laws_FnLogLines.j0 k bt480.1 bt484.1 bt484.2 bt489.2.2.2.2 true bt489.1 bt489.2.1 bt489.2.2.1)))))))))
theorem laws_FnLogLines.mono_l : ∀ k,(∀ y0 y1 y2 y3 y4 y5 y6 y7,LeO (laws_FnLogLines.j0 k y0 y1 y2 y3 y4 y5 y6 y7) (laws_FnLogLines.j0 (k + 1) y0 y1 y2 y3 y4 y5 y6 y7)) ∧ (∀ y0 y1 y2 y3 y4 y5 y6,LeO (laws_FnLogLines.j1 k y0 y1 y2 y3 y4 y5 y6) (laws_FnLogLines.j1 (k + 1) y0 y1 y2 y3 y4 y5 y6))
 | 0 => ⟨fun _ _ _ _ _ _ _ _ r h => by simp [laws_FnLogLines.j0] at h,fun _ _ _ _ _ _ _ r h => by simp [laws_FnLogLines.j1] at h⟩
 | k + 1 => by
  obtain ⟨ih0,ih1⟩ := laws_FnLogLines.mono_l k
  refine ⟨?_,?_⟩
  ·intro y0 y1 y2 y3 y4 y5 y6 y7
   unfold laws_FnLogLines.j0
   repeat' first
   | (with_reducible exact ih0 _ _ _ _ _ _ _ _)
   | (with_reducible exact ih1 _ _ _ _ _ _ _)
   | (with_reducible exact impl_EncodeRecord.mono _ _ _ _)
   | (with_reducible exact impl_IsValidLog.mono _ _ _ _)
   | (with_reducible exact impl_RecoverLog.mono _ _)
   | (with_reducible exact impl_SyncLog.mono _ _ _ _)
   | (with_reducible exact spec_DrawRecoverLog.mono _ _)
   | (with_reducible exact spec_EncodeRecord.mono _ _ _ _)
   | (with_reducible exact spec_RecoverLog.mono _ _)
   | (with_reducible exact LeO.refl _)
   | (with_reducible exact LeO.none _)
   | (with_reducible refine LeO.ite ?_ ?_)
   | (with_reducible refine LeO.bind ?_ (fun _ => ?_))
   | exact ih0 _ _ _ _ _ _ _ _
   | exact ih1 _ _ _ _ _ _ _
   | exact impl_EncodeRecord.mono _ _ _ _
   | exact impl_IsValidLog.mono _ _ _ _
   | exact impl_RecoverLog.mono _ _
   | exact impl_SyncLog.mono _ _ _ _
   | exact spec_DrawRecoverLog.mono _ _
   | exact spec_EncodeRecord.mono _ _ _ _
   | exact spec_RecoverLog.mono _ _
   | exact LeO.none _
   | refine LeO.ite ?_ ?_
   | refine LeO.bind ?_ (fun _ => ?_)
  ·intro y0 y1 y2 y3 y4 y5 y6
   unfold laws_FnLogLines.j1
   repeat' first
   | (with_reducible exact ih0 _ _ _ _ _ _ _ _)
   | (with_reducible exact ih1 _ _ _ _ _ _ _)
   | (with_reducible exact impl_EncodeRecord.mono _ _ _ _)
   | (with_reducible exact impl_IsValidLog.mono _ _ _ _)
   | (with_reducible exact impl_RecoverLog.mono _ _)
   | (with_reducible exact impl_SyncLog.mono _ _ _ _)
   | (with_reducible exact spec_DrawRecoverLog.mono _ _)
   | (with_reducible exact spec_EncodeRecord.mono _ _ _ _)
   | (with_reducible exact spec_RecoverLog.mono _ _)
   | (with_reducible exact LeO.refl _)
   | (with_reducible exact LeO.none _)
   | (with_reducible refine LeO.ite ?_ ?_)
   | (with_reducible refine LeO.bind ?_ (fun _ => ?_))
   | exact ih0 _ _ _ _ _ _ _ _
   | exact ih1 _ _ _ _ _ _ _
   | exact impl_EncodeRecord.mono _ _ _ _
   | exact impl_IsValidLog.mono _ _ _ _
   | exact impl_RecoverLog.mono _ _
   | exact impl_SyncLog.mono _ _ _ _
   | exact spec_DrawRecoverLog.mono _ _
   | exact spec_EncodeRecord.mono _ _ _ _
   | exact spec_RecoverLog.mono _ _
   | exact LeO.none _
   | refine LeO.ite ?_ ?_
   | refine LeO.bind ?_ (fun _ => ?_)
theorem laws_FnLogLines.mono : ∀ a0 k,LeO (laws_FnLogLines.f k a0) (laws_FnLogLines.f (k + 1) a0) := by
 intro a0 k
 obtain ⟨ih0,ih1⟩ := laws_FnLogLines.mono_l k
 unfold laws_FnLogLines.f
 repeat' first
   | (with_reducible exact ih0 _ _ _ _ _ _ _ _)
   | (with_reducible exact ih1 _ _ _ _ _ _ _)
   | (with_reducible exact impl_EncodeRecord.mono _ _ _ _)
   | (with_reducible exact impl_IsValidLog.mono _ _ _ _)
   | (with_reducible exact impl_RecoverLog.mono _ _)
   | (with_reducible exact impl_SyncLog.mono _ _ _ _)
   | (with_reducible exact spec_DrawRecoverLog.mono _ _)
   | (with_reducible exact spec_EncodeRecord.mono _ _ _ _)
   | (with_reducible exact spec_RecoverLog.mono _ _)
   | (with_reducible exact LeO.refl _)
   | (with_reducible exact LeO.none _)
   | (with_reducible refine LeO.ite ?_ ?_)
   | (with_reducible refine LeO.bind ?_ (fun _ => ?_))
   | exact ih0 _ _ _ _ _ _ _ _
   | exact ih1 _ _ _ _ _ _ _
   | exact impl_EncodeRecord.mono _ _ _ _
   | exact impl_IsValidLog.mono _ _ _ _
   | exact impl_RecoverLog.mono _ _
   | exact impl_SyncLog.mono _ _ _ _
   | exact spec_DrawRecoverLog.mono _ _
   | exact spec_EncodeRecord.mono _ _ _ _
   | exact spec_RecoverLog.mono _ _
   | exact LeO.none _
   | refine LeO.ite ?_ ?_
   | refine LeO.bind ?_ (fun _ => ?_)
set_option maxHeartbeats 8000000 in
set_option maxRecDepth 100000 in
theorem laws_FnLogLines.calls (k : Nat) (A0 : Option Addr) (c0 : Nat) (l0 : List Int) (r : Bool) (w : World) (hr0 : Kd.C (Kd.int .u8) w A0 l0.length l0) (hc0 : l0.length ≤ c0) (hG : Gw w) (hr_ : r = true) (h : laws_FnLogLines.f k l0 = some r) :
  Calls Tryd.prog 11 #[.slice A0 l0.length c0] w fun e w' => e = .returned (.bool r) ∧ Below w.heap.size w w' := by
 have hu27 := Tryd.underlying27
 have hu31 := Tryd.underlying31
 have HR0 := Aside0.mk hr0
 have HC0 := Aside0.mk hc0
 clear hr0 hc0
 have HB := Aside0.mk (Below.refl w.heap.size w)
 have HG := Aside0.mk hG
 clear hG
 have H : ((laws_vBig.f l0).bind fun t479 => (if t479 = true then (some true) else ((spec_DrawEncodeRecord.f l0).bind fun bt480 => ((impl_EncodeRecord.f k bt480.1 bt480.2.1 bt480.2.2).bind fun bt484 => ((spec_EncodeRecord.f k bt480.1 bt480.2.1 bt480.2.2).bind fun bt486 => ((spec_DrawRecoverLog.f k l0).bind fun t488 => ((impl_RecoverLog.f k t488).bind fun bt489 => ((spec_RecoverLog.f k t488).bind fun bt495 => (if bt484.1.toList = bt486.1.toList then (if (bt484.2 != bt486.2) = true then (laws_FnLogLines.j0 k bt480.1 bt484.1 bt484.2 bt489.2.2.2.2 true bt489.1 bt489.2.1 bt489.2.2.1) else (if (!(bt489.1.toList == bt495.1.toList) || (!(bt489.2.1.toList == bt495.2.1.toList) || (!(bt489.2.2.1 == bt495.2.2.1)))) = true then (laws_FnLogLines.j0 k bt480.1 bt484.1 bt484.2 bt489.2.2.2.2 true bt489.1 bt489.2.1 bt489.2.2.1) else (if bt489.2.2.2.1 = bt495.2.2.2.1 then (laws_FnLogLines.j0 k bt480.1 bt484.1 bt484.2 bt489.2.2.2.2 (bt489.2.2.2.2 != bt495.2.2.2.2) bt489.1 bt489.2.1 bt489.2.2.1) else (laws_FnLogLines.j0 k bt480.1 bt484.1 bt484.2 bt489.2.2.2.2 true bt489.1 bt489.2.1 bt489.2.2.1)))) else (laws_FnLogLines.j0 k bt480.1 bt484.1 bt484.2 bt489.2.2.2.2 true bt489.1 bt489.2.1 bt489.2.2.1)))))))))) = some r := h
 clear h
 replace H := Option.bind_eq_some_iff.mp H
 obtain ⟨t479,A20,H⟩ := H
 replace H : (if t479 = true then (some true) else ((spec_DrawEncodeRecord.f l0).bind fun bt480 => ((impl_EncodeRecord.f k bt480.1 bt480.2.1 bt480.2.2).bind fun bt484 => ((spec_EncodeRecord.f k bt480.1 bt480.2.1 bt480.2.2).bind fun bt486 => ((spec_DrawRecoverLog.f k l0).bind fun t488 => ((impl_RecoverLog.f k t488).bind fun bt489 => ((spec_RecoverLog.f k t488).bind fun bt495 => (if bt484.1.toList = bt486.1.toList then (if (bt484.2 != bt486.2) = true then (laws_FnLogLines.j0 k bt480.1 bt484.1 bt484.2 bt489.2.2.2.2 true bt489.1 bt489.2.1 bt489.2.2.1) else (if (!(bt489.1.toList == bt495.1.toList) || (!(bt489.2.1.toList == bt495.2.1.toList) || (!(bt489.2.2.1 == bt495.2.2.1)))) = true then (laws_FnLogLines.j0 k bt480.1 bt484.1 bt484.2 bt489.2.2.2.2 true bt489.1 bt489.2.1 bt489.2.2.1) else (if bt489.2.2.2.1 = bt495.2.2.2.1 then (laws_FnLogLines.j0 k bt480.1 bt484.1 bt484.2 bt489.2.2.2.2 (bt489.2.2.2.2 != bt495.2.2.2.2) bt489.1 bt489.2.1 bt489.2.2.1) else (laws_FnLogLines.j0 k bt480.1 bt484.1 bt484.2 bt489.2.2.2.2 true bt489.1 bt489.2.1 bt489.2.2.1)))) else (laws_FnLogLines.j0 k bt480.1 bt484.1 bt484.2 bt489.2.2.2.2 true bt489.1 bt489.2.1 bt489.2.2.1))))))))) = some r := H
 have A2 := Aside0.mk A20
 clear A20
 by_cases c3 : t479 = true
 ·subst c3
  have H1 : (some true) = some r := by rw [if_pos rfl] at H;exact H
  clear H
  have H := H1
  clear H1
  obtain rfl := Option.some.inj H
  try clear hr_
  go_enter Tryd.func11,Tryd.ntmps11
  go_wp2_with (first|((with_reducible refine gate_callee (f := 35) rfl ?_);refine goesL_ (some 22) rfl rfl Tryd.func35 (by kernel_rfl) rfl #[.slice A0 l0.length c0] rfl (by (try simp only [List.map_toArray,List.map_cons,List.map_nil]);first|done|rfl|(simp only [List.length_drop,List.length_take];rfl)) ?_;(with_reducible refine (laws_vBig.calls _ _ l0 true _ ?side1 ?side2 A2.out).mono ?_);(case side1 => repeat (first|exact HR0.out|(with_reducible refine Kd.C_alloc ?_ _)|(with_reducible refine Kd.C_drewN ?_ _)|(with_reducible refine Kd.C_drew ?_)));(case side2 => exact HC0.out);rintro e w' ⟨rfl,⟨nd,rfl⟩⟩;refine ⟨_,rfl,?_⟩))
  go_ret
  exact ⟨by first|rfl|(simp [errW_none,errW_some] <;> rfl)|(simp [*,errW_none,errW_some] <;> rfl),by repeat (first|(with_reducible first|exact HB.out|apply lA|apply lN|apply lD)|exact HB.out)⟩
 ·replace c3 := Bool.eq_false_iff.mpr c3
  subst c3
  have H1 : ((spec_DrawEncodeRecord.f l0).bind fun bt480 => ((impl_EncodeRecord.f k bt480.1 bt480.2.1 bt480.2.2).bind fun bt484 => ((spec_EncodeRecord.f k bt480.1 bt480.2.1 bt480.2.2).bind fun bt486 => ((spec_DrawRecoverLog.f k l0).bind fun t488 => ((impl_RecoverLog.f k t488).bind fun bt489 => ((spec_RecoverLog.f k t488).bind fun bt495 => (if bt484.1.toList = bt486.1.toList then (if (bt484.2 != bt486.2) = true then (laws_FnLogLines.j0 k bt480.1 bt484.1 bt484.2 bt489.2.2.2.2 true bt489.1 bt489.2.1 bt489.2.2.1) else (if (!(bt489.1.toList == bt495.1.toList) || (!(bt489.2.1.toList == bt495.2.1.toList) || (!(bt489.2.2.1 == bt495.2.2.1)))) = true then (laws_FnLogLines.j0 k bt480.1 bt484.1 bt484.2 bt489.2.2.2.2 true bt489.1 bt489.2.1 bt489.2.2.1) else (if bt489.2.2.2.1 = bt495.2.2.2.1 then (laws_FnLogLines.j0 k bt480.1 bt484.1 bt484.2 bt489.2.2.2.2 (bt489.2.2.2.2 != bt495.2.2.2.2) bt489.1 bt489.2.1 bt489.2.2.1) else (laws_FnLogLines.j0 k bt480.1 bt484.1 bt484.2 bt489.2.2.2.2 true bt489.1 bt489.2.1 bt489.2.2.1)))) else (laws_FnLogLines.j0 k bt480.1 bt484.1 bt484.2 bt489.2.2.2.2 true bt489.1 bt489.2.1 bt489.2.2.1)))))))) = some r := by rw [if_neg (show ¬ (false = true) by decide)] at H;exact H
  clear H
  have H := H1
  clear H1
  replace H := Option.bind_eq_some_iff.mp H
  obtain ⟨⟨t480,t481,t482⟩,A40,H⟩ := H
  replace H : ((impl_EncodeRecord.f k t480 t481 t482).bind fun bt484 => ((spec_EncodeRecord.f k t480 t481 t482).bind fun bt486 => ((spec_DrawRecoverLog.f k l0).bind fun t488 => ((impl_RecoverLog.f k t488).bind fun bt489 => ((spec_RecoverLog.f k t488).bind fun bt495 => (if bt484.1.toList = bt486.1.toList then (if (bt484.2 != bt486.2) = true then (laws_FnLogLines.j0 k t480 bt484.1 bt484.2 bt489.2.2.2.2 true bt489.1 bt489.2.1 bt489.2.2.1) else (if (!(bt489.1.toList == bt495.1.toList) || (!(bt489.2.1.toList == bt495.2.1.toList) || (!(bt489.2.2.1 == bt495.2.2.1)))) = true then (laws_FnLogLines.j0 k t480 bt484.1 bt484.2 bt489.2.2.2.2 true bt489.1 bt489.2.1 bt489.2.2.1) else (if bt489.2.2.2.1 = bt495.2.2.2.1 then (laws_FnLogLines.j0 k t480 bt484.1 bt484.2 bt489.2.2.2.2 (bt489.2.2.2.2 != bt495.2.2.2.2) bt489.1 bt489.2.1 bt489.2.2.1) else (laws_FnLogLines.j0 k t480 bt484.1 bt484.2 bt489.2.2.2.2 true bt489.1 bt489.2.1 bt489.2.2.1)))) else (laws_FnLogLines.j0 k t480 bt484.1 bt484.2 bt489.2.2.2.2 true bt489.1 bt489.2.1 bt489.2.2.1))))))) = some r := H
  have A4 := Aside0.mk A40
  clear A40
  replace H := Option.bind_eq_some_iff.mp H
  obtain ⟨⟨t484,t485⟩,A50,H⟩ := H
  replace H : ((spec_EncodeRecord.f k t480 t481 t482).bind fun bt486 => ((spec_DrawRecoverLog.f k l0).bind fun t488 => ((impl_RecoverLog.f k t488).bind fun bt489 => ((spec_RecoverLog.f k t488).bind fun bt495 => (if t484.toList = bt486.1.toList then (if (t485 != bt486.2) = true then (laws_FnLogLines.j0 k t480 t484 t485 bt489.2.2.2.2 true bt489.1 bt489.2.1 bt489.2.2.1) else (if (!(bt489.1.toList == bt495.1.toList) || (!(bt489.2.1.toList == bt495.2.1.toList) || (!(bt489.2.2.1 == bt495.2.2.1)))) = true then (laws_FnLogLines.j0 k t480 t484 t485 bt489.2.2.2.2 true bt489.1 bt489.2.1 bt489.2.2.1) else (if bt489.2.2.2.1 = bt495.2.2.2.1 then (laws_FnLogLines.j0 k t480 t484 t485 bt489.2.2.2.2 (bt489.2.2.2.2 != bt495.2.2.2.2) bt489.1 bt489.2.1 bt489.2.2.1) else (laws_FnLogLines.j0 k t480 t484 t485 bt489.2.2.2.2 true bt489.1 bt489.2.1 bt489.2.2.1)))) else (laws_FnLogLines.j0 k t480 t484 t485 bt489.2.2.2.2 true bt489.1 bt489.2.1 bt489.2.2.1)))))) = some r := H
  have A5 := Aside0.mk A50
  clear A50
  replace H := Option.bind_eq_some_iff.mp H
  obtain ⟨⟨t486,t487⟩,A60,H⟩ := H
  replace H : ((spec_DrawRecoverLog.f k l0).bind fun t488 => ((impl_RecoverLog.f k t488).bind fun bt489 => ((spec_RecoverLog.f k t488).bind fun bt495 => (if t484.toList = t486.toList then (if (t485 != t487) = true then (laws_FnLogLines.j0 k t480 t484 t485 bt489.2.2.2.2 true bt489.1 bt489.2.1 bt489.2.2.1) else (if (!(bt489.1.toList == bt495.1.toList) || (!(bt489.2.1.toList == bt495.2.1.toList) || (!(bt489.2.2.1 == bt495.2.2.1)))) = true then (laws_FnLogLines.j0 k t480 t484 t485 bt489.2.2.2.2 true bt489.1 bt489.2.1 bt489.2.2.1) else (if bt489.2.2.2.1 = bt495.2.2.2.1 then (laws_FnLogLines.j0 k t480 t484 t485 bt489.2.2.2.2 (bt489.2.2.2.2 != bt495.2.2.2.2) bt489.1 bt489.2.1 bt489.2.2.1) else (laws_FnLogLines.j0 k t480 t484 t485 bt489.2.2.2.2 true bt489.1 bt489.2.1 bt489.2.2.1)))) else (laws_FnLogLines.j0 k t480 t484 t485 bt489.2.2.2.2 true bt489.1 bt489.2.1 bt489.2.2.1))))) = some r := H
  have A6 := Aside0.mk A60
  clear A60
  replace H := Option.bind_eq_some_iff.mp H
  obtain ⟨t488,A70,H⟩ := H
  replace H : ((impl_RecoverLog.f k t488).bind fun bt489 => ((spec_RecoverLog.f k t488).bind fun bt495 => (if t484.toList = t486.toList then (if (t485 != t487) = true then (laws_FnLogLines.j0 k t480 t484 t485 bt489.2.2.2.2 true bt489.1 bt489.2.1 bt489.2.2.1) else (if (!(bt489.1.toList == bt495.1.toList) || (!(bt489.2.1.toList == bt495.2.1.toList) || (!(bt489.2.2.1 == bt495.2.2.1)))) = true then (laws_FnLogLines.j0 k t480 t484 t485 bt489.2.2.2.2 true bt489.1 bt489.2.1 bt489.2.2.1) else (if bt489.2.2.2.1 = bt495.2.2.2.1 then (laws_FnLogLines.j0 k t480 t484 t485 bt489.2.2.2.2 (bt489.2.2.2.2 != bt495.2.2.2.2) bt489.1 bt489.2.1 bt489.2.2.1) else (laws_FnLogLines.j0 k t480 t484 t485 bt489.2.2.2.2 true bt489.1 bt489.2.1 bt489.2.2.1)))) else (laws_FnLogLines.j0 k t480 t484 t485 bt489.2.2.2.2 true bt489.1 bt489.2.1 bt489.2.2.1)))) = some r := H
  have A7 := Aside0.mk A70
  clear A70
  replace H := Option.bind_eq_some_iff.mp H
  obtain ⟨⟨t489,t490,t491,t492,t493⟩,A80,H⟩ := H
  replace H : ((spec_RecoverLog.f k t488).bind fun bt495 => (if t484.toList = t486.toList then (if (t485 != t487) = true then (laws_FnLogLines.j0 k t480 t484 t485 t493 true t489 t490 t491) else (if (!(t489.toList == bt495.1.toList) || (!(t490.toList == bt495.2.1.toList) || (!(t491 == bt495.2.2.1)))) = true then (laws_FnLogLines.j0 k t480 t484 t485 t493 true t489 t490 t491) else (if t492 = bt495.2.2.2.1 then (laws_FnLogLines.j0 k t480 t484 t485 t493 (t493 != bt495.2.2.2.2) t489 t490 t491) else (laws_FnLogLines.j0 k t480 t484 t485 t493 true t489 t490 t491)))) else (laws_FnLogLines.j0 k t480 t484 t485 t493 true t489 t490 t491))) = some r := H
  have A8 := Aside0.mk A80
  clear A80
  replace H := Option.bind_eq_some_iff.mp H
  obtain ⟨⟨t495,t496,t497,t498,t499⟩,A90,H⟩ := H
  replace H : (if t484.toList = t486.toList then (if (t485 != t487) = true then (laws_FnLogLines.j0 k t480 t484 t485 t493 true t489 t490 t491) else (if (!(t489.toList == t495.toList) || (!(t490.toList == t496.toList) || (!(t491 == t497)))) = true then (laws_FnLogLines.j0 k t480 t484 t485 t493 true t489 t490 t491) else (if t492 = t498 then (laws_FnLogLines.j0 k t480 t484 t485 t493 (t493 != t499) t489 t490 t491) else (laws_FnLogLines.j0 k t480 t484 t485 t493 true t489 t490 t491)))) else (laws_FnLogLines.j0 k t480 t484 t485 t493 true t489 t490 t491)) = some r := H
  have A9 := Aside0.mk A90
  clear A90
  have HC10 := Aside0.mk H
  clear H
  go_enter Tryd.func11,Tryd.ntmps11
  go_upto_region 9 with (first|((with_reducible refine gate_callee (f := 35) rfl ?_);refine goesL_ (some 22) rfl rfl Tryd.func35 (by kernel_rfl) rfl #[.slice A0 l0.length c0] rfl (by (try simp only [List.map_toArray,List.map_cons,List.map_nil]);first|done|rfl|(simp only [List.length_drop,List.length_take];rfl)) ?_;(with_reducible refine (laws_vBig.calls _ _ l0 false _ ?side1 ?side2 A2.out).mono ?_);(case side1 => repeat (first|exact HR0.out|(with_reducible refine Kd.C_alloc ?_ _)|(with_reducible refine Kd.C_drewN ?_ _)|(with_reducible refine Kd.C_drew ?_)));(case side2 => exact HC0.out);rintro e w' ⟨rfl,⟨nd,rfl⟩⟩;refine ⟨_,rfl,?_⟩)|((with_reducible refine gate_callee (f := 39) rfl ?_);refine goesL_ (some 25) rfl rfl Tryd.func39 (by kernel_rfl) rfl #[.slice A0 l0.length c0] rfl (by (try simp only [List.map_toArray,List.map_cons,List.map_nil]);first|done|rfl|(simp only [List.length_drop,List.length_take];rfl)) ?_;(with_reducible refine (spec_DrawEncodeRecord.calls _ _ l0 t480 t481 t482 _ ?side1 ?side2 A4.out).mono ?_);(case side1 => repeat (first|exact HR0.out|(with_reducible refine Kd.C_alloc ?_ _)|(with_reducible refine Kd.C_drewN ?_ _)|(with_reducible refine Kd.C_drew ?_)));(case side2 => exact HC0.out);rintro e w11 ⟨rfl,hb⟩;refine ⟨_,rfl,?_⟩;have n0_ := Aside0.mk (below_step (by repeat (first|(with_reducible first|exact HB.out|apply lA|apply lN|apply lD)|exact HB.out)) hb);clear HB;have HB := n0_;clear n0_;(try clear hb);(try clear hb2);(try clear hk);(try clear hi))|((with_reducible refine gate_dst (N := 4) rfl ?_);refine box_event ?hg (N := 4) ?hd (cs := #[.string (⟨#[]⟩ : ByteArray),.string (⟨#[]⟩ : ByteArray)]) (t := 27) ?hr ?_;(case hd => rfl);(case hg => rfl);(case hr => first|(go_simp;done)|(go_simp;rfl));intro gb483 hg w12 hbox hb;have n0_ := Aside0.mk (below_step (by repeat (first|(with_reducible first|exact HB.out|apply lA|apply lN|apply lD)|exact HB.out)) hb);have n1_ := Aside0.mk (hbox);have n2_ := Aside0.mk ((by rw [hg];exact (below_size (by repeat (first|(with_reducible first|exact HB.out|apply lA|apply lN|apply lD)|exact HB.out))) : w.heap.size ≤ gb483));have n3_ := Aside0.mk ((by rw [hg];exact (below_size (by repeat (first|(with_reducible first|exact HB.out|apply lA|apply lN|apply lD)|exact HB.out))) : w.heap.size ≤ gb483));clear HB;have HB := n0_;have BK483 := n1_;have GW483 := n2_;have GE483 := n3_;clear n0_ n1_ n2_ n3_;clear hb hbox hg;have hcz13_0 : w12.cell? ⟨gb483,0,none⟩ = some (.string (⟨#[]⟩ : ByteArray)) := (blk_cell BK483.out 0).trans rfl;have hcz13_1 : w12.cell? ⟨gb483,1,none⟩ = some (.string (⟨#[]⟩ : ByteArray)) := (blk_cell BK483.out 1).trans rfl;have hfz13_0 := blk_frozen BK483.out 0;have hfz13_1 := blk_frozen BK483.out 1)|((with_reducible refine gate_callee (f := 16) rfl ?_);refine goesL_ (some 31) rfl rfl Tryd.func16 (by kernel_rfl) rfl #[.int .i64 t480,.agg #[.string t481,.string t482]] rfl (by (try simp only [List.map_toArray,List.map_cons,List.map_nil]);first|done|rfl|(simp only [List.length_drop,List.length_take];rfl)) ?_;(with_reducible refine (impl_EncodeRecord.calls k t480 t481 t482 t484 t485 _ ?side1 A5.out).mono ?_);(case side1 => exact Gw.below HG.out (by repeat (first|(with_reducible first|exact HB.out|apply lA|apply lN|apply lD|refine below_set ?_ GE483.out)|exact HB.out)));rintro e w14 ⟨rfl,hb⟩;refine ⟨_,rfl,?_⟩;have n0_ := Aside0.mk (blk_below (g := gb483) (o := .cells #[.string t481,.string t482] 27 (0,0)) (by (with_reducible repeat (first|refine bN ?_ _|refine bD ?_|refine bA ?_ _));refine blk_put (cs := #[.string t481,.string (⟨#[]⟩ : ByteArray)]) ?_ 1 _ rfl;(with_reducible repeat (first|refine bN ?_ _|refine bD ?_|refine bA ?_ _));refine blk_put (cs := #[.string (⟨#[]⟩ : ByteArray),.string (⟨#[]⟩ : ByteArray)]) ?_ 0 _ rfl;(with_reducible repeat (first|refine bN ?_ _|refine bD ?_|refine bA ?_ _));exact BK483.out) hb);have n1_ := Aside0.mk (below_step (by repeat (first|(with_reducible first|exact HB.out|apply lA|apply lN|apply lD|refine below_set ?_ GE483.out)|exact HB.out)) hb);clear BK483;clear HB;have BK483 := n0_;have HB := n1_;clear n0_ n1_;(try clear hb);(try clear hb2);(try clear hk);(try clear hi);have hcz15_0 : w14.cell? ⟨gb483,0,none⟩ = some (.string t481) := (blk_cell BK483.out 0).trans rfl;have hcz15_1 : w14.cell? ⟨gb483,1,none⟩ = some (.string t482) := (blk_cell BK483.out 1).trans rfl;have hfz15_0 := blk_frozen BK483.out 0;have hfz15_1 := blk_frozen BK483.out 1)|((with_reducible refine gate_callee (f := 14) rfl ?_);refine goesL_ (some 37) rfl rfl Tryd.func14 (by kernel_rfl) rfl #[.int .i64 t480,.agg #[.string t481,.string t482]] rfl (by (try simp only [List.map_toArray,List.map_cons,List.map_nil]);first|done|rfl|(simp only [List.length_drop,List.length_take];rfl)) ?_;(with_reducible refine (spec_EncodeRecord.calls k t480 t481 t482 t486 t487 _ A6.out).mono ?_);rintro e w16 ⟨rfl,hb⟩;refine ⟨_,rfl,?_⟩;have n0_ := Aside0.mk (blk_below (g := gb483) (o := .cells #[.string t481,.string t482] 27 (0,0)) (by (with_reducible repeat (first|refine bN ?_ _|refine bD ?_|refine bA ?_ _));exact BK483.out) hb);have n1_ := Aside0.mk (below_step (by repeat (first|(with_reducible first|exact HB.out|apply lA|apply lN|apply lD|refine below_set ?_ GE483.out)|exact HB.out)) hb);clear BK483;clear HB;have BK483 := n0_;have HB := n1_;clear n0_ n1_;(try clear hb);(try clear hb2);(try clear hk);(try clear hi))|((with_reducible refine gate_callee (f := 40) rfl ?_);refine goesL_ (some 41) rfl rfl Tryd.func40 (by kernel_rfl) rfl #[.slice A0 l0.length c0] rfl (by (try simp only [List.map_toArray,List.map_cons,List.map_nil]);first|done|rfl|(simp only [List.length_drop,List.length_take];rfl)) ?_;(with_reducible refine (spec_DrawRecoverLog.calls k _ _ l0 t488 _ ?side1 ?side2 A7.out).mono ?_);(case side1 => repeat (first|exact (Kd.C_below HR0.out HB.out)|(with_reducible refine Kd.C_alloc ?_ _)|(with_reducible refine Kd.C_drewN ?_ _)|(with_reducible refine Kd.C_drew ?_)));(case side2 => exact HC0.out);rintro e w17 ⟨rfl,hb⟩;refine ⟨_,rfl,?_⟩;have n0_ := Aside0.mk (blk_below (g := gb483) (o := .cells #[.string t481,.string t482] 27 (0,0)) (by (with_reducible repeat (first|refine bN ?_ _|refine bD ?_|refine bA ?_ _));exact BK483.out) hb);have n1_ := Aside0.mk (below_step (by repeat (first|(with_reducible first|exact HB.out|apply lA|apply lN|apply lD|refine below_set ?_ GE483.out)|exact HB.out)) hb);clear BK483;clear HB;have BK483 := n0_;have HB := n1_;clear n0_ n1_;(try clear hb);(try clear hb2);(try clear hk);(try clear hi))|((with_reducible refine gate_callee (f := 18) rfl ?_);refine goesL_ (some 44) rfl rfl Tryd.func18 (by kernel_rfl) rfl #[.string t488] rfl (by (try simp only [List.map_toArray,List.map_cons,List.map_nil]);first|done|rfl|(simp only [List.length_drop,List.length_take];rfl)) ?_;(with_reducible refine (impl_RecoverLog.calls k t488 t489 t490 t491 t492 t493 _ ?side1 A8.out).mono ?_);(case side1 => exact Gw.below HG.out (by repeat (first|(with_reducible first|exact HB.out|apply lA|apply lN|apply lD|refine below_set ?_ GE483.out)|exact HB.out)));rintro e w18 ⟨rfl,hb⟩;refine ⟨_,rfl,?_⟩;have n0_ := Aside0.mk (blk_below (g := gb483) (o := .cells #[.string t481,.string t482] 27 (0,0)) (by (with_reducible repeat (first|refine bN ?_ _|refine bD ?_|refine bA ?_ _));exact BK483.out) hb);have n1_ := Aside0.mk (below_step (by repeat (first|(with_reducible first|exact HB.out|apply lA|apply lN|apply lD|refine below_set ?_ GE483.out)|exact HB.out)) hb);clear BK483;clear HB;have BK483 := n0_;have HB := n1_;clear n0_ n1_;(try clear hb);(try clear hb2);(try clear hk);(try clear hi))|((with_reducible refine gate_dst (N := 10) rfl ?_);refine box_event ?hg (N := 10) ?hd (cs := #[.string (⟨#[]⟩ : ByteArray),.string (⟨#[]⟩ : ByteArray),.int .i64 0]) (t := 31) ?hr ?_;(case hd => rfl);(case hg => rfl);(case hr => first|(go_simp;done)|(go_simp;rfl));intro gb494 hg w19 hbox hb;have n0_ := Aside0.mk (blk_below (g := gb483) (o := .cells #[.string t481,.string t482] 27 (0,0)) (by (with_reducible repeat (first|refine bN ?_ _|refine bD ?_|refine bA ?_ _));exact BK483.out) hb);have n1_ := Aside0.mk (below_step (by repeat (first|(with_reducible first|exact HB.out|apply lA|apply lN|apply lD|refine below_set ?_ GE483.out)|exact HB.out)) hb);have n2_ := Aside0.mk (hbox);have n3_ := Aside0.mk ((by rw [hg];exact (below_size (by repeat (first|(with_reducible first|exact HB.out|apply lA|apply lN|apply lD|refine below_set ?_ GE483.out)|exact HB.out))) : w.heap.size ≤ gb494));have n4_ := Aside0.mk ((by rw [hg];exact (below_size (by repeat (first|(with_reducible first|exact HB.out|apply lA|apply lN|apply lD|refine below_set ?_ GE483.out)|exact HB.out))) : w.heap.size ≤ gb494));have n5_ := Aside0.mk ((by rw [hg];exact Nat.ne_of_lt (blk_lt (g := gb483) (o := .cells #[.string t481,.string t482] 27 (0,0)) (by (with_reducible repeat (first|refine bN ?_ _|refine bD ?_|refine bA ?_ _));exact BK483.out)) : gb483 ≠ gb494));have n6_ := Aside0.mk ((by rw [hg];exact Nat.ne_of_gt (blk_lt (g := gb483) (o := .cells #[.string t481,.string t482] 27 (0,0)) (by (with_reducible repeat (first|refine bN ?_ _|refine bD ?_|refine bA ?_ _));exact BK483.out)) : gb494 ≠ gb483));clear BK483;clear HB;have BK483 := n0_;have HB := n1_;have BK494 := n2_;have GW494 := n3_;have GE494 := n4_;have NB483_494 := n5_;have NB494_483 := n6_;clear n0_ n1_ n2_ n3_ n4_ n5_ n6_;clear hb hbox hg;have hnb20 := NB494_483.out;have hnc20 := NB483_494.out;have hcz21_0 : w19.cell? ⟨gb494,0,none⟩ = some (.string (⟨#[]⟩ : ByteArray)) := (blk_cell BK494.out 0).trans rfl;have hcz21_1 : w19.cell? ⟨gb494,1,none⟩ = some (.string (⟨#[]⟩ : ByteArray)) := (blk_cell BK494.out 1).trans rfl;have hcz21_2 : w19.cell? ⟨gb494,2,none⟩ = some (.int .i64 0) := (blk_cell BK494.out 2).trans rfl;have hfz21_0 := blk_frozen BK494.out 0;have hfz21_1 := blk_frozen BK494.out 1;have hfz21_2 := blk_frozen BK494.out 2)|((with_reducible refine gate_callee (f := 17) rfl ?_);refine goesL_ (some 50) rfl rfl Tryd.func17 (by kernel_rfl) rfl #[.string t488] rfl (by (try simp only [List.map_toArray,List.map_cons,List.map_nil]);first|done|rfl|(simp only [List.length_drop,List.length_take];rfl)) ?_;(with_reducible refine (spec_RecoverLog.calls k t488 t495 t496 t497 t498 t499 _ A9.out).mono ?_);rintro e w22 ⟨rfl,hb⟩;refine ⟨_,rfl,?_⟩;have n0_ := Aside0.mk (blk_below (g := gb483) (o := .cells #[.string t481,.string t482] 27 (0,0)) (by (with_reducible repeat (first|refine bN ?_ _|refine bD ?_|refine bA ?_ _));refine blk_far ?_ NB483_494.out _;(with_reducible repeat (first|refine bN ?_ _|refine bD ?_|refine bA ?_ _));refine blk_far ?_ NB483_494.out _;(with_reducible repeat (first|refine bN ?_ _|refine bD ?_|refine bA ?_ _));refine blk_far ?_ NB483_494.out _;(with_reducible repeat (first|refine bN ?_ _|refine bD ?_|refine bA ?_ _));exact BK483.out) hb);have n1_ := Aside0.mk (blk_below (g := gb494) (o := .cells #[.string t489,.string t490,.int .i64 t491] 31 (0,0)) (by (with_reducible repeat (first|refine bN ?_ _|refine bD ?_|refine bA ?_ _));refine blk_put (cs := #[.string t489,.string t490,.int .i64 0]) ?_ 2 _ rfl;(with_reducible repeat (first|refine bN ?_ _|refine bD ?_|refine bA ?_ _));refine blk_put (cs := #[.string t489,.string (⟨#[]⟩ : ByteArray),.int .i64 0]) ?_ 1 _ rfl;(with_reducible repeat (first|refine bN ?_ _|refine bD ?_|refine bA ?_ _));refine blk_put (cs := #[.string (⟨#[]⟩ : ByteArray),.string (⟨#[]⟩ : ByteArray),.int .i64 0]) ?_ 0 _ rfl;(with_reducible repeat (first|refine bN ?_ _|refine bD ?_|refine bA ?_ _));exact BK494.out) hb);have n2_ := Aside0.mk (below_step (by repeat (first|(with_reducible first|exact HB.out|apply lA|apply lN|apply lD|refine below_set ?_ GE483.out|refine below_set ?_ GE494.out)|exact HB.out)) hb);clear BK483;clear BK494;clear HB;have BK483 := n0_;have BK494 := n1_;have HB := n2_;clear n0_ n1_ n2_;(try clear hb);(try clear hb2);(try clear hk);(try clear hi))|((with_reducible refine gate_dst (N := 13) rfl ?_);refine box_event ?hg (N := 13) ?hd (cs := #[.string (⟨#[]⟩ : ByteArray),.string (⟨#[]⟩ : ByteArray),.int .i64 0]) (t := 31) ?hr ?_;(case hd => rfl);(case hg => rfl);(case hr => first|(go_simp;done)|(go_simp;rfl));intro gb500 hg w23 hbox hb;have n0_ := Aside0.mk (blk_below (g := gb483) (o := .cells #[.string t481,.string t482] 27 (0,0)) (by (with_reducible repeat (first|refine bN ?_ _|refine bD ?_|refine bA ?_ _));exact BK483.out) hb);have n1_ := Aside0.mk (blk_below (g := gb494) (o := .cells #[.string t489,.string t490,.int .i64 t491] 31 (0,0)) (by (with_reducible repeat (first|refine bN ?_ _|refine bD ?_|refine bA ?_ _));exact BK494.out) hb);have n2_ := Aside0.mk (below_step (by repeat (first|(with_reducible first|exact HB.out|apply lA|apply lN|apply lD|refine below_set ?_ GE483.out|refine below_set ?_ GE494.out)|exact HB.out)) hb);have n3_ := Aside0.mk (hbox);have n4_ := Aside0.mk ((by rw [hg];exact (below_size (by repeat (first|(with_reducible first|exact HB.out|apply lA|apply lN|apply lD|refine below_set ?_ GE483.out|refine below_set ?_ GE494.out)|exact HB.out))) : w.heap.size ≤ gb500));have n5_ := Aside0.mk ((by rw [hg];exact (below_size (by repeat (first|(with_reducible first|exact HB.out|apply lA|apply lN|apply lD|refine below_set ?_ GE483.out|refine below_set ?_ GE494.out)|exact HB.out))) : w.heap.size ≤ gb500));have n6_ := Aside0.mk ((by rw [hg];exact Nat.ne_of_lt (blk_lt (g := gb483) (o := .cells #[.string t481,.string t482] 27 (0,0)) (by (with_reducible repeat (first|refine bN ?_ _|refine bD ?_|refine bA ?_ _));exact BK483.out)) : gb483 ≠ gb500));have n7_ := Aside0.mk ((by rw [hg];exact Nat.ne_of_gt (blk_lt (g := gb483) (o := .cells #[.string t481,.string t482] 27 (0,0)) (by (with_reducible repeat (first|refine bN ?_ _|refine bD ?_|refine bA ?_ _));exact BK483.out)) : gb500 ≠ gb483));have n8_ := Aside0.mk ((by rw [hg];exact Nat.ne_of_lt (blk_lt (g := gb494) (o := .cells #[.string t489,.string t490,.int .i64 t491] 31 (0,0)) (by (with_reducible repeat (first|refine bN ?_ _|refine bD ?_|refine bA ?_ _));exact BK494.out)) : gb494 ≠ gb500));have n9_ := Aside0.mk ((by rw [hg];exact Nat.ne_of_gt (blk_lt (g := gb494) (o := .cells #[.string t489,.string t490,.int .i64 t491] 31 (0,0)) (by (with_reducible repeat (first|refine bN ?_ _|refine bD ?_|refine bA ?_ _));exact BK494.out)) : gb500 ≠ gb494));clear BK483;clear BK494;clear HB;have BK483 := n0_;have BK494 := n1_;have HB := n2_;have BK500 := n3_;have GW500 := n4_;have GE500 := n5_;have NB483_500 := n6_;have NB500_483 := n7_;have NB494_500 := n8_;have NB500_494 := n9_;clear n0_ n1_ n2_ n3_ n4_ n5_ n6_ n7_ n8_ n9_;clear hb hbox hg;have hnb24 := NB500_483.out;have hnc24 := NB483_500.out;have hnb25 := NB500_494.out;have hnc25 := NB494_500.out;have hcz26_0 : w23.cell? ⟨gb500,0,none⟩ = some (.string (⟨#[]⟩ : ByteArray)) := (blk_cell BK500.out 0).trans rfl;have hcz26_1 : w23.cell? ⟨gb500,1,none⟩ = some (.string (⟨#[]⟩ : ByteArray)) := (blk_cell BK500.out 1).trans rfl;have hcz26_2 : w23.cell? ⟨gb500,2,none⟩ = some (.int .i64 0) := (blk_cell BK500.out 2).trans rfl;have hfz26_0 := blk_frozen BK500.out 0;have hfz26_1 := blk_frozen BK500.out 1;have hfz26_2 := blk_frozen BK500.out 2))
  (try simp only [Act.put,List.setIfInBounds_toArray,List.set_cons_zero,List.set_cons_succ])
  go_cut [76] (fun v76 wc => ∃ (kq : Nat) (x76_9 : Bool),v76 = .bool x76_9 ∧ Aside0 (laws_FnLogLines.j0 kq t480 t484 t485 t493 x76_9 t489 t490 t491 = some r) ∧ Aside0 (kq ≤ k) ∧ Aside0 (wc.heap[gb483]? = some (.cells #[.string t481,.string t482] 27 (0,0))) ∧ Aside0 (wc.heap[gb494]? = some (.cells #[.string t489,.string t490,.int .i64 t491] 31 (0,0))) ∧ Aside0 (wc.heap[gb500]? = some (.cells #[.string t495,.string t496,.int .i64 t497] 31 (0,0))) ∧ Aside0 (Below w.heap.size w wc))
  case first =>
   have H := HC10.out
   clear HC10
   by_cases c27 : t484.toList = t486.toList
   ·rw [if_pos c27] at H
    have c27b0 : (t484.toList == t486.toList) = true := beq_iff_eq.mpr c27
    have c27b1 : (t484.toList != t486.toList) = false := bne_eq_false_iff_eq.mpr c27
    clear c27
    (first|rw [c27b0]|(simp only [i64_w,i32_w];rw [c27b0])|skip)
    by_cases c28 : (t485 != t487) = true
    ·rw [if_pos c28] at H
     have c28b0 : (t485 != t487) = true := c28
     (try (have c28b1 : decide (t485 = t487) = false := by simpa using c28))
     (try (have c28b2 : (t485 == t487) = false := by simpa using c28))
     (try (have c28b3 : ¬ (t485 = t487) := by simpa using c28))
     clear c28
     have H' := Aside0.mk H
     clear H
     go_wp2
     go_meet
     case rel => exact ⟨_,(true),(by first|rfl|(simp;done)|(simp [my_isEmpty];done)|(simp [*];done)),H',⟨by first|omega|exact Nat.le_refl _⟩,⟨by (with_reducible repeat (first|refine bN ?_ _|refine bD ?_|refine bA ?_ _));refine blk_far ?_ NB483_500.out _;(with_reducible repeat (first|refine bN ?_ _|refine bD ?_|refine bA ?_ _));refine blk_far ?_ NB483_500.out _;(with_reducible repeat (first|refine bN ?_ _|refine bD ?_|refine bA ?_ _));refine blk_far ?_ NB483_500.out _;(with_reducible repeat (first|refine bN ?_ _|refine bD ?_|refine bA ?_ _));exact BK483.out⟩,⟨by (with_reducible repeat (first|refine bN ?_ _|refine bD ?_|refine bA ?_ _));refine blk_far ?_ NB494_500.out _;(with_reducible repeat (first|refine bN ?_ _|refine bD ?_|refine bA ?_ _));refine blk_far ?_ NB494_500.out _;(with_reducible repeat (first|refine bN ?_ _|refine bD ?_|refine bA ?_ _));refine blk_far ?_ NB494_500.out _;(with_reducible repeat (first|refine bN ?_ _|refine bD ?_|refine bA ?_ _));exact BK494.out⟩,⟨by (with_reducible repeat (first|refine bN ?_ _|refine bD ?_|refine bA ?_ _));refine blk_put (cs := #[.string t495,.string t496,.int .i64 0]) ?_ 2 _ rfl;(with_reducible repeat (first|refine bN ?_ _|refine bD ?_|refine bA ?_ _));refine blk_put (cs := #[.string t495,.string (⟨#[]⟩ : ByteArray),.int .i64 0]) ?_ 1 _ rfl;(with_reducible repeat (first|refine bN ?_ _|refine bD ?_|refine bA ?_ _));refine blk_put (cs := #[.string (⟨#[]⟩ : ByteArray),.string (⟨#[]⟩ : ByteArray),.int .i64 0]) ?_ 0 _ rfl;(with_reducible repeat (first|refine bN ?_ _|refine bD ?_|refine bA ?_ _));exact BK500.out⟩,⟨by repeat (first|(with_reducible first|exact HB.out|apply lA|apply lN|apply lD|refine below_set ?_ GE483.out|refine below_set ?_ GE494.out|refine below_set ?_ GE500.out)|exact HB.out)⟩⟩
    ·rw [if_neg c28] at H
     have c28b0 : (t485 != t487) = false := by simpa using c28
     (try (have c28b1 : decide (t485 = t487) = true := by simpa using c28))
     (try (have c28b2 : (t485 == t487) = true := by simpa using c28))
     clear c28
     by_cases c29 : (!(t489.toList == t495.toList) || (!(t490.toList == t496.toList) || (!(t491 == t497)))) = true
     ·rw [if_pos c29] at H
      have c29b0 : (!(t489.toList == t495.toList) || (!(t490.toList == t496.toList) || (!(t491 == t497)))) = true := c29
      clear c29
      have H' := Aside0.mk H
      clear H
      have hnb30 := NB494_483.out
      have hnc30 := NB483_494.out
      have hnb31 := NB494_500.out
      have hnc31 := NB500_494.out
      have hcz32_0 : w23.cell? ⟨gb494,0,none⟩ = some (.string t489) := (blk_cell BK494.out 0).trans rfl
      have hcz32_1 : w23.cell? ⟨gb494,1,none⟩ = some (.string t490) := (blk_cell BK494.out 1).trans rfl
      have hcz32_2 : w23.cell? ⟨gb494,2,none⟩ = some (.int .i64 t491) := (blk_cell BK494.out 2).trans rfl
      have hfz32_0 := blk_frozen BK494.out 0
      have hfz32_1 := blk_frozen BK494.out 1
      have hfz32_2 := blk_frozen BK494.out 2
      have hnb33 := NB500_483.out
      have hnc33 := NB483_500.out
      have hcz34_0 : w23.cell? ⟨gb500,0,none⟩ = some (.string (⟨#[]⟩ : ByteArray)) := (blk_cell BK500.out 0).trans rfl
      have hcz34_1 : w23.cell? ⟨gb500,1,none⟩ = some (.string (⟨#[]⟩ : ByteArray)) := (blk_cell BK500.out 1).trans rfl
      have hcz34_2 : w23.cell? ⟨gb500,2,none⟩ = some (.int .i64 0) := (blk_cell BK500.out 2).trans rfl
      have hfz34_0 := blk_frozen BK500.out 0
      have hfz34_1 := blk_frozen BK500.out 1
      have hfz34_2 := blk_frozen BK500.out 2
      go_wp2
      go_meet
      case rel => exact ⟨_,(true),(by first|rfl|(simp;done)|(simp [my_isEmpty];done)|(simp [*];done)),H',⟨by first|omega|exact Nat.le_refl _⟩,⟨by (with_reducible repeat (first|refine bN ?_ _|refine bD ?_|refine bA ?_ _));refine blk_far ?_ NB483_500.out _;(with_reducible repeat (first|refine bN ?_ _|refine bD ?_|refine bA ?_ _));refine blk_far ?_ NB483_500.out _;(with_reducible repeat (first|refine bN ?_ _|refine bD ?_|refine bA ?_ _));refine blk_far ?_ NB483_500.out _;(with_reducible repeat (first|refine bN ?_ _|refine bD ?_|refine bA ?_ _));exact BK483.out⟩,⟨by (with_reducible repeat (first|refine bN ?_ _|refine bD ?_|refine bA ?_ _));refine blk_far ?_ NB494_500.out _;(with_reducible repeat (first|refine bN ?_ _|refine bD ?_|refine bA ?_ _));refine blk_far ?_ NB494_500.out _;(with_reducible repeat (first|refine bN ?_ _|refine bD ?_|refine bA ?_ _));refine blk_far ?_ NB494_500.out _;(with_reducible repeat (first|refine bN ?_ _|refine bD ?_|refine bA ?_ _));exact BK494.out⟩,⟨by (with_reducible repeat (first|refine bN ?_ _|refine bD ?_|refine bA ?_ _));refine blk_put (cs := #[.string t495,.string t496,.int .i64 0]) ?_ 2 _ rfl;(with_reducible repeat (first|refine bN ?_ _|refine bD ?_|refine bA ?_ _));refine blk_put (cs := #[.string t495,.string (⟨#[]⟩ : ByteArray),.int .i64 0]) ?_ 1 _ rfl;(with_reducible repeat (first|refine bN ?_ _|refine bD ?_|refine bA ?_ _));refine blk_put (cs := #[.string (⟨#[]⟩ : ByteArray),.string (⟨#[]⟩ : ByteArray),.int .i64 0]) ?_ 0 _ rfl;(with_reducible repeat (first|refine bN ?_ _|refine bD ?_|refine bA ?_ _));exact BK500.out⟩,⟨by repeat (first|(with_reducible first|exact HB.out|apply lA|apply lN|apply lD|refine below_set ?_ GE483.out|refine below_set ?_ GE494.out|refine below_set ?_ GE500.out)|exact HB.out)⟩⟩
     ·rw [if_neg c29] at H
      have c29b0 : (!(t489.toList == t495.toList) || (!(t490.toList == t496.toList) || (!(t491 == t497)))) = false := by simpa using c29
      clear c29
      by_cases c35 : t492 = t498
      ·rw [if_pos c35] at H
       have c35b0 : (t492 == t498) = true := beq_iff_eq.mpr c35
       have c35b1 : (t492 != t498) = false := bne_eq_false_iff_eq.mpr c35
       clear c35
       have H' := Aside0.mk H
       clear H
       have hnb36 := NB494_483.out
       have hnc36 := NB483_494.out
       have hnb37 := NB494_500.out
       have hnc37 := NB500_494.out
       have hcz38_0 : w23.cell? ⟨gb494,0,none⟩ = some (.string t489) := (blk_cell BK494.out 0).trans rfl
       have hcz38_1 : w23.cell? ⟨gb494,1,none⟩ = some (.string t490) := (blk_cell BK494.out 1).trans rfl
       have hcz38_2 : w23.cell? ⟨gb494,2,none⟩ = some (.int .i64 t491) := (blk_cell BK494.out 2).trans rfl
       have hfz38_0 := blk_frozen BK494.out 0
       have hfz38_1 := blk_frozen BK494.out 1
       have hfz38_2 := blk_frozen BK494.out 2
       have hnb39 := NB500_483.out
       have hnc39 := NB483_500.out
       have hcz40_0 : w23.cell? ⟨gb500,0,none⟩ = some (.string (⟨#[]⟩ : ByteArray)) := (blk_cell BK500.out 0).trans rfl
       have hcz40_1 : w23.cell? ⟨gb500,1,none⟩ = some (.string (⟨#[]⟩ : ByteArray)) := (blk_cell BK500.out 1).trans rfl
       have hcz40_2 : w23.cell? ⟨gb500,2,none⟩ = some (.int .i64 0) := (blk_cell BK500.out 2).trans rfl
       have hfz40_0 := blk_frozen BK500.out 0
       have hfz40_1 := blk_frozen BK500.out 1
       have hfz40_2 := blk_frozen BK500.out 2
       go_wp2
       go_meet
       case rel => exact ⟨_,((t493 != t499)),(by first|rfl|(simp;done)|(simp [my_isEmpty];done)|(simp [*];done)),H',⟨by first|omega|exact Nat.le_refl _⟩,⟨by (with_reducible repeat (first|refine bN ?_ _|refine bD ?_|refine bA ?_ _));refine blk_far ?_ NB483_500.out _;(with_reducible repeat (first|refine bN ?_ _|refine bD ?_|refine bA ?_ _));refine blk_far ?_ NB483_500.out _;(with_reducible repeat (first|refine bN ?_ _|refine bD ?_|refine bA ?_ _));refine blk_far ?_ NB483_500.out _;(with_reducible repeat (first|refine bN ?_ _|refine bD ?_|refine bA ?_ _));exact BK483.out⟩,⟨by (with_reducible repeat (first|refine bN ?_ _|refine bD ?_|refine bA ?_ _));refine blk_far ?_ NB494_500.out _;(with_reducible repeat (first|refine bN ?_ _|refine bD ?_|refine bA ?_ _));refine blk_far ?_ NB494_500.out _;(with_reducible repeat (first|refine bN ?_ _|refine bD ?_|refine bA ?_ _));refine blk_far ?_ NB494_500.out _;(with_reducible repeat (first|refine bN ?_ _|refine bD ?_|refine bA ?_ _));exact BK494.out⟩,⟨by (with_reducible repeat (first|refine bN ?_ _|refine bD ?_|refine bA ?_ _));refine blk_put (cs := #[.string t495,.string t496,.int .i64 0]) ?_ 2 _ rfl;(with_reducible repeat (first|refine bN ?_ _|refine bD ?_|refine bA ?_ _));refine blk_put (cs := #[.string t495,.string (⟨#[]⟩ : ByteArray),.int .i64 0]) ?_ 1 _ rfl;(with_reducible repeat (first|refine bN ?_ _|refine bD ?_|refine bA ?_ _));refine blk_put (cs := #[.string (⟨#[]⟩ : ByteArray),.string (⟨#[]⟩ : ByteArray),.int .i64 0]) ?_ 0 _ rfl;(with_reducible repeat (first|refine bN ?_ _|refine bD ?_|refine bA ?_ _));exact BK500.out⟩,⟨by repeat (first|(with_reducible first|exact HB.out|apply lA|apply lN|apply lD|refine below_set ?_ GE483.out|refine below_set ?_ GE494.out|refine below_set ?_ GE500.out)|exact HB.out)⟩⟩
      ·rw [if_neg c35] at H
       have c35b0 : (t492 == t498) = false := beq_eq_false_iff_ne.mpr c35
       have c35b1 : (t492 != t498) = true := bne_iff_ne.mpr c35
       have H' := Aside0.mk H
       clear H
       have hnb41 := NB494_483.out
       have hnc41 := NB483_494.out
       have hnb42 := NB494_500.out
       have hnc42 := NB500_494.out
       have hcz43_0 : w23.cell? ⟨gb494,0,none⟩ = some (.string t489) := (blk_cell BK494.out 0).trans rfl
       have hcz43_1 : w23.cell? ⟨gb494,1,none⟩ = some (.string t490) := (blk_cell BK494.out 1).trans rfl
       have hcz43_2 : w23.cell? ⟨gb494,2,none⟩ = some (.int .i64 t491) := (blk_cell BK494.out 2).trans rfl
       have hfz43_0 := blk_frozen BK494.out 0
       have hfz43_1 := blk_frozen BK494.out 1
       have hfz43_2 := blk_frozen BK494.out 2
       have hnb44 := NB500_483.out
       have hnc44 := NB483_500.out
       have hcz45_0 : w23.cell? ⟨gb500,0,none⟩ = some (.string (⟨#[]⟩ : ByteArray)) := (blk_cell BK500.out 0).trans rfl
       have hcz45_1 : w23.cell? ⟨gb500,1,none⟩ = some (.string (⟨#[]⟩ : ByteArray)) := (blk_cell BK500.out 1).trans rfl
       have hcz45_2 : w23.cell? ⟨gb500,2,none⟩ = some (.int .i64 0) := (blk_cell BK500.out 2).trans rfl
       have hfz45_0 := blk_frozen BK500.out 0
       have hfz45_1 := blk_frozen BK500.out 1
       have hfz45_2 := blk_frozen BK500.out 2
       go_wp2
       go_meet
       case rel => exact ⟨_,(true),(by first|rfl|(simp;done)|(simp [my_isEmpty];done)|(simp [*];done)),H',⟨by first|omega|exact Nat.le_refl _⟩,⟨by (with_reducible repeat (first|refine bN ?_ _|refine bD ?_|refine bA ?_ _));refine blk_far ?_ NB483_500.out _;(with_reducible repeat (first|refine bN ?_ _|refine bD ?_|refine bA ?_ _));refine blk_far ?_ NB483_500.out _;(with_reducible repeat (first|refine bN ?_ _|refine bD ?_|refine bA ?_ _));refine blk_far ?_ NB483_500.out _;(with_reducible repeat (first|refine bN ?_ _|refine bD ?_|refine bA ?_ _));exact BK483.out⟩,⟨by (with_reducible repeat (first|refine bN ?_ _|refine bD ?_|refine bA ?_ _));refine blk_far ?_ NB494_500.out _;(with_reducible repeat (first|refine bN ?_ _|refine bD ?_|refine bA ?_ _));refine blk_far ?_ NB494_500.out _;(with_reducible repeat (first|refine bN ?_ _|refine bD ?_|refine bA ?_ _));refine blk_far ?_ NB494_500.out _;(with_reducible repeat (first|refine bN ?_ _|refine bD ?_|refine bA ?_ _));exact BK494.out⟩,⟨by (with_reducible repeat (first|refine bN ?_ _|refine bD ?_|refine bA ?_ _));refine blk_put (cs := #[.string t495,.string t496,.int .i64 0]) ?_ 2 _ rfl;(with_reducible repeat (first|refine bN ?_ _|refine bD ?_|refine bA ?_ _));refine blk_put (cs := #[.string t495,.string (⟨#[]⟩ : ByteArray),.int .i64 0]) ?_ 1 _ rfl;(with_reducible repeat (first|refine bN ?_ _|refine bD ?_|refine bA ?_ _));refine blk_put (cs := #[.string (⟨#[]⟩ : ByteArray),.string (⟨#[]⟩ : ByteArray),.int .i64 0]) ?_ 0 _ rfl;(with_reducible repeat (first|refine bN ?_ _|refine bD ?_|refine bA ?_ _));exact BK500.out⟩,⟨by repeat (first|(with_reducible first|exact HB.out|apply lA|apply lN|apply lD|refine below_set ?_ GE483.out|refine below_set ?_ GE494.out|refine below_set ?_ GE500.out)|exact HB.out)⟩⟩
   ·rw [if_neg c27] at H
    have c27b0 : (t484.toList == t486.toList) = false := beq_eq_false_iff_ne.mpr c27
    have c27b1 : (t484.toList != t486.toList) = true := bne_iff_ne.mpr c27
    (first|rw [c27b0]|(simp only [i64_w,i32_w];rw [c27b0])|skip)
    have H' := Aside0.mk H
    clear H
    go_wp2
    go_meet
    case rel => exact ⟨_,(true),(by first|rfl|(simp;done)|(simp [my_isEmpty];done)|(simp [*];done)),H',⟨by first|omega|exact Nat.le_refl _⟩,⟨by (with_reducible repeat (first|refine bN ?_ _|refine bD ?_|refine bA ?_ _));refine blk_far ?_ NB483_500.out _;(with_reducible repeat (first|refine bN ?_ _|refine bD ?_|refine bA ?_ _));refine blk_far ?_ NB483_500.out _;(with_reducible repeat (first|refine bN ?_ _|refine bD ?_|refine bA ?_ _));refine blk_far ?_ NB483_500.out _;(with_reducible repeat (first|refine bN ?_ _|refine bD ?_|refine bA ?_ _));exact BK483.out⟩,⟨by (with_reducible repeat (first|refine bN ?_ _|refine bD ?_|refine bA ?_ _));refine blk_far ?_ NB494_500.out _;(with_reducible repeat (first|refine bN ?_ _|refine bD ?_|refine bA ?_ _));refine blk_far ?_ NB494_500.out _;(with_reducible repeat (first|refine bN ?_ _|refine bD ?_|refine bA ?_ _));refine blk_far ?_ NB494_500.out _;(with_reducible repeat (first|refine bN ?_ _|refine bD ?_|refine bA ?_ _));exact BK494.out⟩,⟨by (with_reducible repeat (first|refine bN ?_ _|refine bD ?_|refine bA ?_ _));refine blk_put (cs := #[.string t495,.string t496,.int .i64 0]) ?_ 2 _ rfl;(with_reducible repeat (first|refine bN ?_ _|refine bD ?_|refine bA ?_ _));refine blk_put (cs := #[.string t495,.string (⟨#[]⟩ : ByteArray),.int .i64 0]) ?_ 1 _ rfl;(with_reducible repeat (first|refine bN ?_ _|refine bD ?_|refine bA ?_ _));refine blk_put (cs := #[.string (⟨#[]⟩ : ByteArray),.string (⟨#[]⟩ : ByteArray),.int .i64 0]) ?_ 0 _ rfl;(with_reducible repeat (first|refine bN ?_ _|refine bD ?_|refine bA ?_ _));exact BK500.out⟩,⟨by repeat (first|(with_reducible first|exact HB.out|apply lA|apply lN|apply lD|refine below_set ?_ GE483.out|refine below_set ?_ GE494.out|refine below_set ?_ GE500.out)|exact HB.out)⟩⟩
  case rest =>
   clear HC10
   try clear c1
   try clear c2
   try clear p2
   try clear c3
   try clear c4
   try clear c11
   try clear c14
   try clear c16
   try clear c17
   try clear c18
   try clear c20
   try clear c24
   try clear c25
   try clear c27
   try clear c27b0
   try clear c27b1
   try clear c28
   try clear c28b0
   try clear c28b1
   try clear c28b2
   try clear c29
   try clear c29b0
   try clear c30
   try clear c31
   try clear c33
   try clear c35
   try clear c35b0
   try clear c35b1
   try clear c36
   try clear c37
   try clear c39
   try clear c40
   try clear c41
   try clear c42
   try clear c44
   try clear hcz13_0
   try clear hcz13_1
   try clear hcz15_0
   try clear hcz15_1
   try clear hcz21_0
   try clear hcz21_1
   try clear hcz21_2
   try clear hcz26_0
   try clear hcz26_1
   try clear hcz26_2
   try clear hcz32_0
   try clear hcz32_1
   try clear hcz32_2
   try clear hcz34_0
   try clear hcz34_1
   try clear hcz34_2
   try clear hcz38_0
   try clear hcz38_1
   try clear hcz38_2
   try clear hcz40_0
   try clear hcz40_1
   try clear hcz40_2
   try clear hcz43_0
   try clear hcz43_1
   try clear hcz43_2
   try clear hcz45_0
   try clear hcz45_1
   try clear hcz45_2
   try clear hfz13_0
   try clear hfz13_1
   try clear hfz15_0
   try clear hfz15_1
   try clear hfz21_0
   try clear hfz21_1
   try clear hfz21_2
   try clear hfz26_0
   try clear hfz26_1
   try clear hfz26_2
   try clear hfz32_0
   try clear hfz32_1
   try clear hfz32_2
   try clear hfz34_0
   try clear hfz34_1
   try clear hfz34_2
   try clear hfz38_0
   try clear hfz38_1
   try clear hfz38_2
   try clear hfz40_0
   try clear hfz40_1
   try clear hfz40_2
   try clear hfz43_0
   try clear hfz43_1
   try clear hfz43_2
   try clear hfz45_0
   try clear hfz45_1
   try clear hfz45_2
   obtain ⟨kq,x76_9,rfl,HA,HJ9,BK483,BK494,BK500,HB⟩ := hcut
   cases kq with
   | zero => exact absurd HA.out (by simp [laws_FnLogLines.j0])
   | succ kj9 =>
    have H := HA.out
    clear HA
    simp only [laws_FnLogLines.j0] at H
    by_cases c46 : x76_9 = true
    ·subst c46
     have H1 : (some false) = some r := by rw [if_pos rfl] at H;exact H
     clear H
     have H := H1
     clear H1
     exact absurd ((Option.some.inj H).trans hr_) (by decide)
    ·replace c46 := Bool.eq_false_iff.mpr c46
     subst c46
     have H1 : ((impl_RecoverLog.f kj9 t484).bind fun bt501 => (if t485 = true then (if ((decide (bt501.2.2.2.1 > 0)) != (t480 == 0)) = true then (laws_FnLogLines.j1 kj9 t484 t485 t493 true t489 t490 t491) else (if t480 = 0 then (laws_FnLogLines.j1 kj9 t484 t485 t493 (bt501.2.2.1 != 1) t489 t490 t491) else (laws_FnLogLines.j1 kj9 t484 t485 t493 false t489 t490 t491))) else (laws_FnLogLines.j1 kj9 t484 t485 t493 false t489 t490 t491))) = some r := by rw [if_neg (show ¬ (false = true) by decide)] at H;exact H
     clear H
     have H := H1
     clear H1
     replace H := Option.bind_eq_some_iff.mp H
     obtain ⟨⟨t501,t502,t503,t504,t505⟩,A470,H⟩ := H
     replace H : (if t485 = true then (if ((decide (t504 > 0)) != (t480 == 0)) = true then (laws_FnLogLines.j1 kj9 t484 t485 t493 true t489 t490 t491) else (if t480 = 0 then (laws_FnLogLines.j1 kj9 t484 t485 t493 (t503 != 1) t489 t490 t491) else (laws_FnLogLines.j1 kj9 t484 t485 t493 false t489 t490 t491))) else (laws_FnLogLines.j1 kj9 t484 t485 t493 false t489 t490 t491)) = some r := H
     have A47 := Aside0.mk A470
     clear A470
     have HC48 := Aside0.mk H
     clear H
     go_upto_region 12 with (first|((with_reducible refine gate_callee (f := 18) rfl ?_);refine goesL_ (some 79) rfl rfl Tryd.func18 (by kernel_rfl) rfl #[.string t484] rfl (by (try simp only [List.map_toArray,List.map_cons,List.map_nil]);first|done|rfl|(simp only [List.length_drop,List.length_take];rfl)) ?_;(with_reducible refine (impl_RecoverLog.calls kj9 t484 t501 t502 t503 t504 t505 _ ?side1 A47.out).mono ?_);(case side1 => exact Gw.below HG.out (by repeat (first|(with_reducible first|exact HB.out|apply lA|apply lN|apply lD|refine below_set ?_ GE483.out|refine below_set ?_ GE494.out|refine below_set ?_ GE500.out)|exact HB.out)));rintro e w49 ⟨rfl,hb⟩;refine ⟨_,rfl,?_⟩;have n0_ := Aside0.mk (blk_below (g := gb483) (o := .cells #[.string t481,.string t482] 27 (0,0)) (by (with_reducible repeat (first|refine bN ?_ _|refine bD ?_|refine bA ?_ _));exact BK483.out) hb);have n1_ := Aside0.mk (blk_below (g := gb494) (o := .cells #[.string t489,.string t490,.int .i64 t491] 31 (0,0)) (by (with_reducible repeat (first|refine bN ?_ _|refine bD ?_|refine bA ?_ _));exact BK494.out) hb);have n2_ := Aside0.mk (blk_below (g := gb500) (o := .cells #[.string t495,.string t496,.int .i64 t497] 31 (0,0)) (by (with_reducible repeat (first|refine bN ?_ _|refine bD ?_|refine bA ?_ _));exact BK500.out) hb);have n3_ := Aside0.mk (below_step (by repeat (first|(with_reducible first|exact HB.out|apply lA|apply lN|apply lD|refine below_set ?_ GE483.out|refine below_set ?_ GE494.out|refine below_set ?_ GE500.out)|exact HB.out)) hb);clear BK483;clear BK494;clear BK500;clear HB;have BK483 := n0_;have BK494 := n1_;have BK500 := n2_;have HB := n3_;clear n0_ n1_ n2_ n3_;(try clear hb);(try clear hb2);(try clear hk);(try clear hi))|((with_reducible refine gate_dst (N := 16) rfl ?_);refine box_event ?hg (N := 16) ?hd (cs := #[.string (⟨#[]⟩ : ByteArray),.string (⟨#[]⟩ : ByteArray),.int .i64 0]) (t := 31) ?hr ?_;(case hd => rfl);(case hg => rfl);(case hr => first|(go_simp;done)|(go_simp;rfl));intro gb506 hg w50 hbox hb;have n0_ := Aside0.mk (blk_below (g := gb483) (o := .cells #[.string t481,.string t482] 27 (0,0)) (by (with_reducible repeat (first|refine bN ?_ _|refine bD ?_|refine bA ?_ _));exact BK483.out) hb);have n1_ := Aside0.mk (blk_below (g := gb494) (o := .cells #[.string t489,.string t490,.int .i64 t491] 31 (0,0)) (by (with_reducible repeat (first|refine bN ?_ _|refine bD ?_|refine bA ?_ _));exact BK494.out) hb);have n2_ := Aside0.mk (blk_below (g := gb500) (o := .cells #[.string t495,.string t496,.int .i64 t497] 31 (0,0)) (by (with_reducible repeat (first|refine bN ?_ _|refine bD ?_|refine bA ?_ _));exact BK500.out) hb);have n3_ := Aside0.mk (below_step (by repeat (first|(with_reducible first|exact HB.out|apply lA|apply lN|apply lD|refine below_set ?_ GE483.out|refine below_set ?_ GE494.out|refine below_set ?_ GE500.out)|exact HB.out)) hb);have n4_ := Aside0.mk (hbox);have n5_ := Aside0.mk ((by rw [hg];exact (below_size (by repeat (first|(with_reducible first|exact HB.out|apply lA|apply lN|apply lD|refine below_set ?_ GE483.out|refine below_set ?_ GE494.out|refine below_set ?_ GE500.out)|exact HB.out))) : w.heap.size ≤ gb506));have n6_ := Aside0.mk ((by rw [hg];exact (below_size (by repeat (first|(with_reducible first|exact HB.out|apply lA|apply lN|apply lD|refine below_set ?_ GE483.out|refine below_set ?_ GE494.out|refine below_set ?_ GE500.out)|exact HB.out))) : w.heap.size ≤ gb506));have n7_ := Aside0.mk ((by rw [hg];exact Nat.ne_of_lt (blk_lt (g := gb483) (o := .cells #[.string t481,.string t482] 27 (0,0)) (by (with_reducible repeat (first|refine bN ?_ _|refine bD ?_|refine bA ?_ _));exact BK483.out)) : gb483 ≠ gb506));have n8_ := Aside0.mk ((by rw [hg];exact Nat.ne_of_gt (blk_lt (g := gb483) (o := .cells #[.string t481,.string t482] 27 (0,0)) (by (with_reducible repeat (first|refine bN ?_ _|refine bD ?_|refine bA ?_ _));exact BK483.out)) : gb506 ≠ gb483));have n9_ := Aside0.mk ((by rw [hg];exact Nat.ne_of_lt (blk_lt (g := gb494) (o := .cells #[.string t489,.string t490,.int .i64 t491] 31 (0,0)) (by (with_reducible repeat (first|refine bN ?_ _|refine bD ?_|refine bA ?_ _));exact BK494.out)) : gb494 ≠ gb506));have n10_ := Aside0.mk ((by rw [hg];exact Nat.ne_of_gt (blk_lt (g := gb494) (o := .cells #[.string t489,.string t490,.int .i64 t491] 31 (0,0)) (by (with_reducible repeat (first|refine bN ?_ _|refine bD ?_|refine bA ?_ _));exact BK494.out)) : gb506 ≠ gb494));have n11_ := Aside0.mk ((by rw [hg];exact Nat.ne_of_lt (blk_lt (g := gb500) (o := .cells #[.string t495,.string t496,.int .i64 t497] 31 (0,0)) (by (with_reducible repeat (first|refine bN ?_ _|refine bD ?_|refine bA ?_ _));exact BK500.out)) : gb500 ≠ gb506));have n12_ := Aside0.mk ((by rw [hg];exact Nat.ne_of_gt (blk_lt (g := gb500) (o := .cells #[.string t495,.string t496,.int .i64 t497] 31 (0,0)) (by (with_reducible repeat (first|refine bN ?_ _|refine bD ?_|refine bA ?_ _));exact BK500.out)) : gb506 ≠ gb500));clear BK483;clear BK494;clear BK500;clear HB;have BK483 := n0_;have BK494 := n1_;have BK500 := n2_;have HB := n3_;have BK506 := n4_;have GW506 := n5_;have GE506 := n6_;have NB483_506 := n7_;have NB506_483 := n8_;have NB494_506 := n9_;have NB506_494 := n10_;have NB500_506 := n11_;have NB506_500 := n12_;clear n0_ n1_ n2_ n3_ n4_ n5_ n6_ n7_ n8_ n9_ n10_ n11_ n12_;clear hb hbox hg;have hnb51 := NB506_483.out;have hnc51 := NB483_506.out;have hnb52 := NB506_494.out;have hnc52 := NB494_506.out;have hnb53 := NB506_500.out;have hnc53 := NB500_506.out;have hcz54_0 : w50.cell? ⟨gb506,0,none⟩ = some (.string (⟨#[]⟩ : ByteArray)) := (blk_cell BK506.out 0).trans rfl;have hcz54_1 : w50.cell? ⟨gb506,1,none⟩ = some (.string (⟨#[]⟩ : ByteArray)) := (blk_cell BK506.out 1).trans rfl;have hcz54_2 : w50.cell? ⟨gb506,2,none⟩ = some (.int .i64 0) := (blk_cell BK506.out 2).trans rfl;have hfz54_0 := blk_frozen BK506.out 0;have hfz54_1 := blk_frozen BK506.out 1;have hfz54_2 := blk_frozen BK506.out 2))
     (try simp only [Act.put,List.setIfInBounds_toArray,List.set_cons_zero,List.set_cons_succ])
     go_cut [102] (fun v102 wc => ∃ (kq : Nat) (x102_47 : Bool),v102 = .bool x102_47 ∧ Aside0 (laws_FnLogLines.j1 kq t484 t485 t493 x102_47 t489 t490 t491 = some r) ∧ Aside0 (kq ≤ kj9) ∧ Aside0 (wc.heap[gb483]? = some (.cells #[.string t481,.string t482] 27 (0,0))) ∧ Aside0 (wc.heap[gb494]? = some (.cells #[.string t489,.string t490,.int .i64 t491] 31 (0,0))) ∧ Aside0 (wc.heap[gb500]? = some (.cells #[.string t495,.string t496,.int .i64 t497] 31 (0,0))) ∧ Aside0 (wc.heap[gb506]? = some (.cells #[.string t501,.string t502,.int .i64 t503] 31 (0,0))) ∧ Aside0 (Below w.heap.size w wc))
     case first =>
      have H := HC48.out
      clear HC48
      by_cases c55 : t485 = true
      ·subst c55
       have H1 : (if ((decide (t504 > 0)) != (t480 == 0)) = true then (laws_FnLogLines.j1 kj9 t484 true t493 true t489 t490 t491) else (if t480 = 0 then (laws_FnLogLines.j1 kj9 t484 true t493 (t503 != 1) t489 t490 t491) else (laws_FnLogLines.j1 kj9 t484 true t493 false t489 t490 t491))) = some r := by rw [if_pos rfl] at H;exact H
       clear H
       have H := H1
       clear H1
       by_cases c56 : ((decide (t504 > 0)) != (t480 == 0)) = true
       ·rw [if_pos c56] at H
        have c56b0 : ((decide (t504 > 0)) != (t480 == 0)) = true := c56
        (try (have c56b1 : decide ((decide (t504 > 0)) = (t480 == 0)) = false := by simpa using c56))
        (try (have c56b2 : ((decide (t504 > 0)) == (t480 == 0)) = false := by simpa using c56))
        (try (have c56b3 : ¬ ((decide (t504 > 0)) = (t480 == 0)) := by simpa using c56))
        clear c56
        (first|rw [c56b0]|(simp only [i64_w,i32_w];rw [c56b0])|skip)
        have H' := Aside0.mk H
        clear H
        go_wp2
        go_meet
        case rel => exact ⟨_,(true),(by first|rfl|(simp;done)|(simp [my_isEmpty];done)|(simp [*];done)),H',⟨by have := HJ9.out;first|omega|exact Nat.le_refl _⟩,⟨by (with_reducible repeat (first|refine bN ?_ _|refine bD ?_|refine bA ?_ _));refine blk_far ?_ NB483_506.out _;(with_reducible repeat (first|refine bN ?_ _|refine bD ?_|refine bA ?_ _));refine blk_far ?_ NB483_506.out _;(with_reducible repeat (first|refine bN ?_ _|refine bD ?_|refine bA ?_ _));refine blk_far ?_ NB483_506.out _;(with_reducible repeat (first|refine bN ?_ _|refine bD ?_|refine bA ?_ _));exact BK483.out⟩,⟨by (with_reducible repeat (first|refine bN ?_ _|refine bD ?_|refine bA ?_ _));refine blk_far ?_ NB494_506.out _;(with_reducible repeat (first|refine bN ?_ _|refine bD ?_|refine bA ?_ _));refine blk_far ?_ NB494_506.out _;(with_reducible repeat (first|refine bN ?_ _|refine bD ?_|refine bA ?_ _));refine blk_far ?_ NB494_506.out _;(with_reducible repeat (first|refine bN ?_ _|refine bD ?_|refine bA ?_ _));exact BK494.out⟩,⟨by (with_reducible repeat (first|refine bN ?_ _|refine bD ?_|refine bA ?_ _));refine blk_far ?_ NB500_506.out _;(with_reducible repeat (first|refine bN ?_ _|refine bD ?_|refine bA ?_ _));refine blk_far ?_ NB500_506.out _;(with_reducible repeat (first|refine bN ?_ _|refine bD ?_|refine bA ?_ _));refine blk_far ?_ NB500_506.out _;(with_reducible repeat (first|refine bN ?_ _|refine bD ?_|refine bA ?_ _));exact BK500.out⟩,⟨by (with_reducible repeat (first|refine bN ?_ _|refine bD ?_|refine bA ?_ _));refine blk_put (cs := #[.string t501,.string t502,.int .i64 0]) ?_ 2 _ rfl;(with_reducible repeat (first|refine bN ?_ _|refine bD ?_|refine bA ?_ _));refine blk_put (cs := #[.string t501,.string (⟨#[]⟩ : ByteArray),.int .i64 0]) ?_ 1 _ rfl;(with_reducible repeat (first|refine bN ?_ _|refine bD ?_|refine bA ?_ _));refine blk_put (cs := #[.string (⟨#[]⟩ : ByteArray),.string (⟨#[]⟩ : ByteArray),.int .i64 0]) ?_ 0 _ rfl;(with_reducible repeat (first|refine bN ?_ _|refine bD ?_|refine bA ?_ _));exact BK506.out⟩,⟨by repeat (first|(with_reducible first|exact HB.out|apply lA|apply lN|apply lD|refine below_set ?_ GE483.out|refine below_set ?_ GE494.out|refine below_set ?_ GE500.out|refine below_set ?_ GE506.out)|exact HB.out)⟩⟩
       ·rw [if_neg c56] at H
        have c56b0 : ((decide (t504 > 0)) != (t480 == 0)) = false := by simpa using c56
        (try (have c56b1 : decide ((decide (t504 > 0)) = (t480 == 0)) = true := by simpa using c56))
        (try (have c56b2 : ((decide (t504 > 0)) == (t480 == 0)) = true := by simpa using c56))
        clear c56
        (first|rw [c56b0]|(simp only [i64_w,i32_w];rw [c56b0])|skip)
        by_cases c57 : t480 = 0
        ·rw [if_pos c57] at H
         have c57b0 : (t480 == 0) = true := beq_iff_eq.mpr c57
         have c57b1 : (t480 != 0) = false := bne_eq_false_iff_eq.mpr c57
         have c57b9 : decide (0 < t504) = true := by have h_ := c56b0;rw [c57b0] at h_;simpa using h_
         clear c57
         have H' := Aside0.mk H
         clear H
         have hnb58 := NB506_483.out
         have hnc58 := NB483_506.out
         have hnb59 := NB506_494.out
         have hnc59 := NB494_506.out
         have hnb60 := NB506_500.out
         have hnc60 := NB500_506.out
         have hcz61_0 : w50.cell? ⟨gb506,0,none⟩ = some (.string (⟨#[]⟩ : ByteArray)) := (blk_cell BK506.out 0).trans rfl
         have hcz61_1 : w50.cell? ⟨gb506,1,none⟩ = some (.string (⟨#[]⟩ : ByteArray)) := (blk_cell BK506.out 1).trans rfl
         have hcz61_2 : w50.cell? ⟨gb506,2,none⟩ = some (.int .i64 0) := (blk_cell BK506.out 2).trans rfl
         have hfz61_0 := blk_frozen BK506.out 0
         have hfz61_1 := blk_frozen BK506.out 1
         have hfz61_2 := blk_frozen BK506.out 2
         go_wp2
         go_meet
         case rel => exact ⟨_,((t503 != 1)),(by first|rfl|(simp;done)|(simp [my_isEmpty];done)|(simp [*];done)),H',⟨by have := HJ9.out;first|omega|exact Nat.le_refl _⟩,⟨by (with_reducible repeat (first|refine bN ?_ _|refine bD ?_|refine bA ?_ _));refine blk_far ?_ NB483_506.out _;(with_reducible repeat (first|refine bN ?_ _|refine bD ?_|refine bA ?_ _));refine blk_far ?_ NB483_506.out _;(with_reducible repeat (first|refine bN ?_ _|refine bD ?_|refine bA ?_ _));refine blk_far ?_ NB483_506.out _;(with_reducible repeat (first|refine bN ?_ _|refine bD ?_|refine bA ?_ _));exact BK483.out⟩,⟨by (with_reducible repeat (first|refine bN ?_ _|refine bD ?_|refine bA ?_ _));refine blk_far ?_ NB494_506.out _;(with_reducible repeat (first|refine bN ?_ _|refine bD ?_|refine bA ?_ _));refine blk_far ?_ NB494_506.out _;(with_reducible repeat (first|refine bN ?_ _|refine bD ?_|refine bA ?_ _));refine blk_far ?_ NB494_506.out _;(with_reducible repeat (first|refine bN ?_ _|refine bD ?_|refine bA ?_ _));exact BK494.out⟩,⟨by (with_reducible repeat (first|refine bN ?_ _|refine bD ?_|refine bA ?_ _));refine blk_far ?_ NB500_506.out _;(with_reducible repeat (first|refine bN ?_ _|refine bD ?_|refine bA ?_ _));refine blk_far ?_ NB500_506.out _;(with_reducible repeat (first|refine bN ?_ _|refine bD ?_|refine bA ?_ _));refine blk_far ?_ NB500_506.out _;(with_reducible repeat (first|refine bN ?_ _|refine bD ?_|refine bA ?_ _));exact BK500.out⟩,⟨by (with_reducible repeat (first|refine bN ?_ _|refine bD ?_|refine bA ?_ _));refine blk_put (cs := #[.string t501,.string t502,.int .i64 0]) ?_ 2 _ rfl;(with_reducible repeat (first|refine bN ?_ _|refine bD ?_|refine bA ?_ _));refine blk_put (cs := #[.string t501,.string (⟨#[]⟩ : ByteArray),.int .i64 0]) ?_ 1 _ rfl;(with_reducible repeat (first|refine bN ?_ _|refine bD ?_|refine bA ?_ _));refine blk_put (cs := #[.string (⟨#[]⟩ : ByteArray),.string (⟨#[]⟩ : ByteArray),.int .i64 0]) ?_ 0 _ rfl;(with_reducible repeat (first|refine bN ?_ _|refine bD ?_|refine bA ?_ _));exact BK506.out⟩,⟨by repeat (first|(with_reducible first|exact HB.out|apply lA|apply lN|apply lD|refine below_set ?_ GE483.out|refine below_set ?_ GE494.out|refine below_set ?_ GE500.out|refine below_set ?_ GE506.out)|exact HB.out)⟩⟩
        ·rw [if_neg c57] at H
         have c57b0 : (t480 == 0) = false := beq_eq_false_iff_ne.mpr c57
         have c57b1 : (t480 != 0) = true := bne_iff_ne.mpr c57
         have c57b9 : decide (0 < t504) = false := by have h_ := c56b0;rw [c57b0] at h_;simpa using h_
         have H' := Aside0.mk H
         clear H
         go_wp2
         go_meet
         case rel => exact ⟨_,(false),(by first|rfl|(simp;done)|(simp [my_isEmpty];done)|(simp [*];done)),H',⟨by have := HJ9.out;first|omega|exact Nat.le_refl _⟩,⟨by (with_reducible repeat (first|refine bN ?_ _|refine bD ?_|refine bA ?_ _));refine blk_far ?_ NB483_506.out _;(with_reducible repeat (first|refine bN ?_ _|refine bD ?_|refine bA ?_ _));refine blk_far ?_ NB483_506.out _;(with_reducible repeat (first|refine bN ?_ _|refine bD ?_|refine bA ?_ _));refine blk_far ?_ NB483_506.out _;(with_reducible repeat (first|refine bN ?_ _|refine bD ?_|refine bA ?_ _));exact BK483.out⟩,⟨by (with_reducible repeat (first|refine bN ?_ _|refine bD ?_|refine bA ?_ _));refine blk_far ?_ NB494_506.out _;(with_reducible repeat (first|refine bN ?_ _|refine bD ?_|refine bA ?_ _));refine blk_far ?_ NB494_506.out _;(with_reducible repeat (first|refine bN ?_ _|refine bD ?_|refine bA ?_ _));refine blk_far ?_ NB494_506.out _;(with_reducible repeat (first|refine bN ?_ _|refine bD ?_|refine bA ?_ _));exact BK494.out⟩,⟨by (with_reducible repeat (first|refine bN ?_ _|refine bD ?_|refine bA ?_ _));refine blk_far ?_ NB500_506.out _;(with_reducible repeat (first|refine bN ?_ _|refine bD ?_|refine bA ?_ _));refine blk_far ?_ NB500_506.out _;(with_reducible repeat (first|refine bN ?_ _|refine bD ?_|refine bA ?_ _));refine blk_far ?_ NB500_506.out _;(with_reducible repeat (first|refine bN ?_ _|refine bD ?_|refine bA ?_ _));exact BK500.out⟩,⟨by (with_reducible repeat (first|refine bN ?_ _|refine bD ?_|refine bA ?_ _));refine blk_put (cs := #[.string t501,.string t502,.int .i64 0]) ?_ 2 _ rfl;(with_reducible repeat (first|refine bN ?_ _|refine bD ?_|refine bA ?_ _));refine blk_put (cs := #[.string t501,.string (⟨#[]⟩ : ByteArray),.int .i64 0]) ?_ 1 _ rfl;(with_reducible repeat (first|refine bN ?_ _|refine bD ?_|refine bA ?_ _));refine blk_put (cs := #[.string (⟨#[]⟩ : ByteArray),.string (⟨#[]⟩ : ByteArray),.int .i64 0]) ?_ 0 _ rfl;(with_reducible repeat (first|refine bN ?_ _|refine bD ?_|refine bA ?_ _));exact BK506.out⟩,⟨by repeat (first|(with_reducible first|exact HB.out|apply lA|apply lN|apply lD|refine below_set ?_ GE483.out|refine below_set ?_ GE494.out|refine below_set ?_ GE500.out|refine below_set ?_ GE506.out)|exact HB.out)⟩⟩
      ·replace c55 := Bool.eq_false_iff.mpr c55
       subst c55
       have H1 : (laws_FnLogLines.j1 kj9 t484 false t493 false t489 t490 t491) = some r := by rw [if_neg (show ¬ (false = true) by decide)] at H;exact H
       clear H
       have H := H1
       clear H1
       have H' := Aside0.mk H
       clear H
       go_wp2
       go_meet
       case rel => exact ⟨_,(false),(by first|rfl|(simp;done)|(simp [my_isEmpty];done)|(simp [*];done)),H',⟨by have := HJ9.out;first|omega|exact Nat.le_refl _⟩,⟨by (with_reducible repeat (first|refine bN ?_ _|refine bD ?_|refine bA ?_ _));refine blk_far ?_ NB483_506.out _;(with_reducible repeat (first|refine bN ?_ _|refine bD ?_|refine bA ?_ _));refine blk_far ?_ NB483_506.out _;(with_reducible repeat (first|refine bN ?_ _|refine bD ?_|refine bA ?_ _));refine blk_far ?_ NB483_506.out _;(with_reducible repeat (first|refine bN ?_ _|refine bD ?_|refine bA ?_ _));exact BK483.out⟩,⟨by (with_reducible repeat (first|refine bN ?_ _|refine bD ?_|refine bA ?_ _));refine blk_far ?_ NB494_506.out _;(with_reducible repeat (first|refine bN ?_ _|refine bD ?_|refine bA ?_ _));refine blk_far ?_ NB494_506.out _;(with_reducible repeat (first|refine bN ?_ _|refine bD ?_|refine bA ?_ _));refine blk_far ?_ NB494_506.out _;(with_reducible repeat (first|refine bN ?_ _|refine bD ?_|refine bA ?_ _));exact BK494.out⟩,⟨by (with_reducible repeat (first|refine bN ?_ _|refine bD ?_|refine bA ?_ _));refine blk_far ?_ NB500_506.out _;(with_reducible repeat (first|refine bN ?_ _|refine bD ?_|refine bA ?_ _));refine blk_far ?_ NB500_506.out _;(with_reducible repeat (first|refine bN ?_ _|refine bD ?_|refine bA ?_ _));refine blk_far ?_ NB500_506.out _;(with_reducible repeat (first|refine bN ?_ _|refine bD ?_|refine bA ?_ _));exact BK500.out⟩,⟨by (with_reducible repeat (first|refine bN ?_ _|refine bD ?_|refine bA ?_ _));refine blk_put (cs := #[.string t501,.string t502,.int .i64 0]) ?_ 2 _ rfl;(with_reducible repeat (first|refine bN ?_ _|refine bD ?_|refine bA ?_ _));refine blk_put (cs := #[.string t501,.string (⟨#[]⟩ : ByteArray),.int .i64 0]) ?_ 1 _ rfl;(with_reducible repeat (first|refine bN ?_ _|refine bD ?_|refine bA ?_ _));refine blk_put (cs := #[.string (⟨#[]⟩ : ByteArray),.string (⟨#[]⟩ : ByteArray),.int .i64 0]) ?_ 0 _ rfl;(with_reducible repeat (first|refine bN ?_ _|refine bD ?_|refine bA ?_ _));exact BK506.out⟩,⟨by repeat (first|(with_reducible first|exact HB.out|apply lA|apply lN|apply lD|refine below_set ?_ GE483.out|refine below_set ?_ GE494.out|refine below_set ?_ GE500.out|refine below_set ?_ GE506.out)|exact HB.out)⟩⟩
     case rest =>
      clear HC48
      try clear c1
      try clear c2
      try clear p2
      try clear c3
      try clear c4
      try clear c5
      try clear c6
      try clear c11
      try clear c14
      try clear c16
      try clear c17
      try clear c18
      try clear c20
      try clear c24
      try clear c25
      try clear c27
      try clear c27b0
      try clear c27b1
      try clear c28
      try clear c28b0
      try clear c28b1
      try clear c28b2
      try clear c29
      try clear c29b0
      try clear c30
      try clear c31
      try clear c33
      try clear c35
      try clear c35b0
      try clear c35b1
      try clear c36
      try clear c37
      try clear c39
      try clear c40
      try clear c41
      try clear c42
      try clear c44
      try clear c46
      try clear c51
      try clear c52
      try clear c53
      try clear c55
      try clear c56
      try clear c56b0
      try clear c56b1
      try clear c56b2
      try clear c57
      try clear c57b0
      try clear c57b1
      try clear c58
      try clear c59
      try clear c60
      try clear hcz13_0
      try clear hcz13_1
      try clear hcz15_0
      try clear hcz15_1
      try clear hcz21_0
      try clear hcz21_1
      try clear hcz21_2
      try clear hcz26_0
      try clear hcz26_1
      try clear hcz26_2
      try clear hcz32_0
      try clear hcz32_1
      try clear hcz32_2
      try clear hcz34_0
      try clear hcz34_1
      try clear hcz34_2
      try clear hcz38_0
      try clear hcz38_1
      try clear hcz38_2
      try clear hcz40_0
      try clear hcz40_1
      try clear hcz40_2
      try clear hcz43_0
      try clear hcz43_1
      try clear hcz43_2
      try clear hcz45_0
      try clear hcz45_1
      try clear hcz45_2
      try clear hcz54_0
      try clear hcz54_1
      try clear hcz54_2
      try clear hcz61_0
      try clear hcz61_1
      try clear hcz61_2
      try clear hfz13_0
      try clear hfz13_1
      try clear hfz15_0
      try clear hfz15_1
      try clear hfz21_0
      try clear hfz21_1
      try clear hfz21_2
      try clear hfz26_0
      try clear hfz26_1
      try clear hfz26_2
      try clear hfz32_0
      try clear hfz32_1
      try clear hfz32_2
      try clear hfz34_0
      try clear hfz34_1
      try clear hfz34_2
      try clear hfz38_0
      try clear hfz38_1
      try clear hfz38_2
      try clear hfz40_0
      try clear hfz40_1
      try clear hfz40_2
      try clear hfz43_0
      try clear hfz43_1
      try clear hfz43_2
      try clear hfz45_0
      try clear hfz45_1
      try clear hfz45_2
      try clear hfz54_0
      try clear hfz54_1
      try clear hfz54_2
      try clear hfz61_0
      try clear hfz61_1
      try clear hfz61_2
      try clear p2
      obtain ⟨kq,x102_47,rfl,HA,HJ47,BK483,BK494,BK500,BK506,HB⟩ := hcut
      cases kq with
      | zero => exact absurd HA.out (by simp [laws_FnLogLines.j1])
      | succ kj47 =>
       have H := HA.out
       clear HA
       simp only [laws_FnLogLines.j1] at H
       by_cases c62 : x102_47 = true
       ·subst c62
        have H1 : (some false) = some r := by rw [if_pos rfl] at H;exact H
        clear H
        have H := H1
        clear H1
        exact absurd ((Option.some.inj H).trans hr_) (by decide)
       ·replace c62 := Bool.eq_false_iff.mpr c62
        subst c62
        have H1 : ((impl_SyncLog.f kj47 t489 t490 t491).bind fun bt507 => (if t493 = true then (if bt507.2.2.2 = true then (if (bt507.1.toList == t489.toList && (bt507.2.1.toList == t490.toList && (bt507.2.2.1 == t491))) = true then ((impl_IsValidLog.f kj47 t489 t490 t491).bind fun t512 => (if t512 = true then (if t485 = true then (some true) else (some (t484.toList == ([] : List UInt8)))) else (some false))) else (some false)) else (some false)) else (some true))) = some r := by rw [if_neg (show ¬ (false = true) by decide)] at H;exact H
        clear H
        have H := H1
        clear H1
        replace H := Option.bind_eq_some_iff.mp H
        obtain ⟨⟨t507,t508,t509,t510⟩,A630,H⟩ := H
        replace H : (if t493 = true then (if t510 = true then (if (t507.toList == t489.toList && (t508.toList == t490.toList && (t509 == t491))) = true then ((impl_IsValidLog.f kj47 t489 t490 t491).bind fun t512 => (if t512 = true then (if t485 = true then (some true) else (some (t484.toList == ([] : List UInt8)))) else (some false))) else (some false)) else (some false)) else (some true)) = some r := H
        have A63 := Aside0.mk A630
        clear A630
        by_cases c64 : t493 = true
        ·subst c64
         have H1 : (if t510 = true then (if (t507.toList == t489.toList && (t508.toList == t490.toList && (t509 == t491))) = true then ((impl_IsValidLog.f kj47 t489 t490 t491).bind fun t512 => (if t512 = true then (if t485 = true then (some true) else (some (t484.toList == ([] : List UInt8)))) else (some false))) else (some false)) else (some false)) = some r := by rw [if_pos rfl] at H;exact H
         clear H
         have H := H1
         clear H1
         by_cases c65 : t510 = true
         ·subst c65
          have H1 : (if (t507.toList == t489.toList && (t508.toList == t490.toList && (t509 == t491))) = true then ((impl_IsValidLog.f kj47 t489 t490 t491).bind fun t512 => (if t512 = true then (if t485 = true then (some true) else (some (t484.toList == ([] : List UInt8)))) else (some false))) else (some false)) = some r := by rw [if_pos rfl] at H;exact H
          clear H
          have H := H1
          clear H1
          by_cases c66 : (t507.toList == t489.toList && (t508.toList == t490.toList && (t509 == t491))) = true
          ·rw [if_pos c66] at H
           have c66b0 : (t507.toList == t489.toList && (t508.toList == t490.toList && (t509 == t491))) = true := c66
           (try (have c66b1 : decide (t507.toList = t489.toList && (t508.toList == t490.toList && (t509 == t491))) = true := by simpa using c66))
           (try (have c66b2 : (t507.toList == t489.toList && (t508.toList == t490.toList && (t509 == t491))) = true := by simpa using c66))
           clear c66
           replace H := Option.bind_eq_some_iff.mp H
           obtain ⟨t512,A670,H⟩ := H
           replace H : (if t512 = true then (if t485 = true then (some true) else (some (t484.toList == ([] : List UInt8)))) else (some false)) = some r := H
           have A67 := Aside0.mk A670
           clear A670
           by_cases c68 : t512 = true
           ·subst c68
            have H1 : (if t485 = true then (some true) else (some (t484.toList == ([] : List UInt8)))) = some r := by rw [if_pos rfl] at H;exact H
            clear H
            have H := H1
            clear H1
            by_cases c69 : t485 = true
            ·subst c69
             have H1 : (some true) = some r := by rw [if_pos rfl] at H;exact H
             clear H
             have H := H1
             clear H1
             obtain rfl := Option.some.inj H
             try clear hr_
             have hnb70 := NB494_483.out
             have hnc70 := NB483_494.out
             have hnb71 := NB494_500.out
             have hnc71 := NB500_494.out
             have hnb72 := NB494_506.out
             have hnc72 := NB506_494.out
             have hcz73_0 : wc.cell? ⟨gb494,0,none⟩ = some (.string t489) := (blk_cell BK494.out 0).trans rfl
             have hcz73_1 : wc.cell? ⟨gb494,1,none⟩ = some (.string t490) := (blk_cell BK494.out 1).trans rfl
             have hcz73_2 : wc.cell? ⟨gb494,2,none⟩ = some (.int .i64 t491) := (blk_cell BK494.out 2).trans rfl
             have hfz73_0 := blk_frozen BK494.out 0
             have hfz73_1 := blk_frozen BK494.out 1
             have hfz73_2 := blk_frozen BK494.out 2
             go_wp2_with (first|((with_reducible refine gate_callee (f := 27) rfl ?_);refine goesL_ (some 105) rfl rfl Tryd.func27 (by kernel_rfl) rfl #[.agg #[.string t489,.string t490,.int .i64 t491]] rfl (by (try simp only [List.map_toArray,List.map_cons,List.map_nil]);first|done|rfl|(simp only [List.length_drop,List.length_take];rfl)) ?_;(with_reducible refine (impl_SyncLog.calls kj47 t489 t490 t491 t507 t508 t509 true _ ?side1 A63.out).mono ?_);(case side1 => exact Gw.below HG.out (by repeat (first|(with_reducible first|exact HB.out|apply lA|apply lN|apply lD|refine below_set ?_ GE483.out|refine below_set ?_ GE494.out|refine below_set ?_ GE500.out|refine below_set ?_ GE506.out)|exact HB.out)));rintro e w74 ⟨rfl,hb⟩;refine ⟨_,rfl,?_⟩;have n0_ := Aside0.mk (blk_below (g := gb483) (o := .cells #[.string t481,.string t482] 27 (0,0)) (by (with_reducible repeat (first|refine bN ?_ _|refine bD ?_|refine bA ?_ _));exact BK483.out) hb);have n1_ := Aside0.mk (blk_below (g := gb494) (o := .cells #[.string t489,.string t490,.int .i64 t491] 31 (0,0)) (by (with_reducible repeat (first|refine bN ?_ _|refine bD ?_|refine bA ?_ _));exact BK494.out) hb);have n2_ := Aside0.mk (blk_below (g := gb500) (o := .cells #[.string t495,.string t496,.int .i64 t497] 31 (0,0)) (by (with_reducible repeat (first|refine bN ?_ _|refine bD ?_|refine bA ?_ _));exact BK500.out) hb);have n3_ := Aside0.mk (blk_below (g := gb506) (o := .cells #[.string t501,.string t502,.int .i64 t503] 31 (0,0)) (by (with_reducible repeat (first|refine bN ?_ _|refine bD ?_|refine bA ?_ _));exact BK506.out) hb);have n4_ := Aside0.mk (below_step (by repeat (first|(with_reducible first|exact HB.out|apply lA|apply lN|apply lD|refine below_set ?_ GE483.out|refine below_set ?_ GE494.out|refine below_set ?_ GE500.out|refine below_set ?_ GE506.out)|exact HB.out)) hb);clear BK483;clear BK494;clear BK500;clear BK506;clear HB;have BK483 := n0_;have BK494 := n1_;have BK500 := n2_;have BK506 := n3_;have HB := n4_;clear n0_ n1_ n2_ n3_ n4_;(try clear hb);(try clear hb2);(try clear hk);(try clear hi))|((with_reducible refine gate_dst (N := 19) rfl ?_);refine box_event ?hg (N := 19) ?hd (cs := #[.string (⟨#[]⟩ : ByteArray),.string (⟨#[]⟩ : ByteArray),.int .i64 0]) (t := 31) ?hr ?_;(case hd => rfl);(case hg => rfl);(case hr => first|(go_simp;done)|(go_simp;rfl));intro gb511 hg w75 hbox hb;have n0_ := Aside0.mk (blk_below (g := gb483) (o := .cells #[.string t481,.string t482] 27 (0,0)) (by (with_reducible repeat (first|refine bN ?_ _|refine bD ?_|refine bA ?_ _));exact BK483.out) hb);have n1_ := Aside0.mk (blk_below (g := gb494) (o := .cells #[.string t489,.string t490,.int .i64 t491] 31 (0,0)) (by (with_reducible repeat (first|refine bN ?_ _|refine bD ?_|refine bA ?_ _));exact BK494.out) hb);have n2_ := Aside0.mk (blk_below (g := gb500) (o := .cells #[.string t495,.string t496,.int .i64 t497] 31 (0,0)) (by (with_reducible repeat (first|refine bN ?_ _|refine bD ?_|refine bA ?_ _));exact BK500.out) hb);have n3_ := Aside0.mk (blk_below (g := gb506) (o := .cells #[.string t501,.string t502,.int .i64 t503] 31 (0,0)) (by (with_reducible repeat (first|refine bN ?_ _|refine bD ?_|refine bA ?_ _));exact BK506.out) hb);have n4_ := Aside0.mk (below_step (by repeat (first|(with_reducible first|exact HB.out|apply lA|apply lN|apply lD|refine below_set ?_ GE483.out|refine below_set ?_ GE494.out|refine below_set ?_ GE500.out|refine below_set ?_ GE506.out)|exact HB.out)) hb);have n5_ := Aside0.mk (hbox);have n6_ := Aside0.mk ((by rw [hg];exact (below_size (by repeat (first|(with_reducible first|exact HB.out|apply lA|apply lN|apply lD|refine below_set ?_ GE483.out|refine below_set ?_ GE494.out|refine below_set ?_ GE500.out|refine below_set ?_ GE506.out)|exact HB.out))) : w.heap.size ≤ gb511));have n7_ := Aside0.mk ((by rw [hg];exact (below_size (by repeat (first|(with_reducible first|exact HB.out|apply lA|apply lN|apply lD|refine below_set ?_ GE483.out|refine below_set ?_ GE494.out|refine below_set ?_ GE500.out|refine below_set ?_ GE506.out)|exact HB.out))) : w.heap.size ≤ gb511));have n8_ := Aside0.mk ((by rw [hg];exact Nat.ne_of_lt (blk_lt (g := gb483) (o := .cells #[.string t481,.string t482] 27 (0,0)) (by (with_reducible repeat (first|refine bN ?_ _|refine bD ?_|refine bA ?_ _));exact BK483.out)) : gb483 ≠ gb511));have n9_ := Aside0.mk ((by rw [hg];exact Nat.ne_of_gt (blk_lt (g := gb483) (o := .cells #[.string t481,.string t482] 27 (0,0)) (by (with_reducible repeat (first|refine bN ?_ _|refine bD ?_|refine bA ?_ _));exact BK483.out)) : gb511 ≠ gb483));have n10_ := Aside0.mk ((by rw [hg];exact Nat.ne_of_lt (blk_lt (g := gb494) (o := .cells #[.string t489,.string t490,.int .i64 t491] 31 (0,0)) (by (with_reducible repeat (first|refine bN ?_ _|refine bD ?_|refine bA ?_ _));exact BK494.out)) : gb494 ≠ gb511));have n11_ := Aside0.mk ((by rw [hg];exact Nat.ne_of_gt (blk_lt (g := gb494) (o := .cells #[.string t489,.string t490,.int .i64 t491] 31 (0,0)) (by (with_reducible repeat (first|refine bN ?_ _|refine bD ?_|refine bA ?_ _));exact BK494.out)) : gb511 ≠ gb494));have n12_ := Aside0.mk ((by rw [hg];exact Nat.ne_of_lt (blk_lt (g := gb500) (o := .cells #[.string t495,.string t496,.int .i64 t497] 31 (0,0)) (by (with_reducible repeat (first|refine bN ?_ _|refine bD ?_|refine bA ?_ _));exact BK500.out)) : gb500 ≠ gb511));have n13_ := Aside0.mk ((by rw [hg];exact Nat.ne_of_gt (blk_lt (g := gb500) (o := .cells #[.string t495,.string t496,.int .i64 t497] 31 (0,0)) (by (with_reducible repeat (first|refine bN ?_ _|refine bD ?_|refine bA ?_ _));exact BK500.out)) : gb511 ≠ gb500));have n14_ := Aside0.mk ((by rw [hg];exact Nat.ne_of_lt (blk_lt (g := gb506) (o := .cells #[.string t501,.string t502,.int .i64 t503] 31 (0,0)) (by (with_reducible repeat (first|refine bN ?_ _|refine bD ?_|refine bA ?_ _));exact BK506.out)) : gb506 ≠ gb511));have n15_ := Aside0.mk ((by rw [hg];exact Nat.ne_of_gt (blk_lt (g := gb506) (o := .cells #[.string t501,.string t502,.int .i64 t503] 31 (0,0)) (by (with_reducible repeat (first|refine bN ?_ _|refine bD ?_|refine bA ?_ _));exact BK506.out)) : gb511 ≠ gb506));clear BK483;clear BK494;clear BK500;clear BK506;clear HB;have BK483 := n0_;have BK494 := n1_;have BK500 := n2_;have BK506 := n3_;have HB := n4_;have BK511 := n5_;have GW511 := n6_;have GE511 := n7_;have NB483_511 := n8_;have NB511_483 := n9_;have NB494_511 := n10_;have NB511_494 := n11_;have NB500_511 := n12_;have NB511_500 := n13_;have NB506_511 := n14_;have NB511_506 := n15_;clear n0_ n1_ n2_ n3_ n4_ n5_ n6_ n7_ n8_ n9_ n10_ n11_ n12_ n13_ n14_ n15_;clear hb hbox hg;have hnb76 := NB511_483.out;have hnc76 := NB483_511.out;have hnb77 := NB511_494.out;have hnc77 := NB494_511.out;have hnb78 := NB511_500.out;have hnc78 := NB500_511.out;have hnb79 := NB511_506.out;have hnc79 := NB506_511.out;have hcz80_0 : w75.cell? ⟨gb511,0,none⟩ = some (.string (⟨#[]⟩ : ByteArray)) := (blk_cell BK511.out 0).trans rfl;have hcz80_1 : w75.cell? ⟨gb511,1,none⟩ = some (.string (⟨#[]⟩ : ByteArray)) := (blk_cell BK511.out 1).trans rfl;have hcz80_2 : w75.cell? ⟨gb511,2,none⟩ = some (.int .i64 0) := (blk_cell BK511.out 2).trans rfl;have hfz80_0 := blk_frozen BK511.out 0;have hfz80_1 := blk_frozen BK511.out 1;have hfz80_2 := blk_frozen BK511.out 2;have hcz81_0 : w75.cell? ⟨gb494,0,none⟩ = some (.string t489) := (blk_cell BK494.out 0).trans rfl;have hcz81_1 : w75.cell? ⟨gb494,1,none⟩ = some (.string t490) := (blk_cell BK494.out 1).trans rfl;have hcz81_2 : w75.cell? ⟨gb494,2,none⟩ = some (.int .i64 t491) := (blk_cell BK494.out 2).trans rfl;have hfz81_0 := blk_frozen BK494.out 0;have hfz81_1 := blk_frozen BK494.out 1;have hfz81_2 := blk_frozen BK494.out 2)|(go_at_call 23;(with_reducible refine (impl_IsValidLog.calls kj47 t489 t490 t491 true _ ?side1 A67.out).mono ?_);(case side1 => exact Gw.below HG.out (by repeat (first|(with_reducible first|exact HB.out|apply lA|apply lN|apply lD|refine below_set ?_ GE483.out|refine below_set ?_ GE494.out|refine below_set ?_ GE500.out|refine below_set ?_ GE506.out|refine below_set ?_ GE511.out)|exact HB.out)));rintro e w82 ⟨rfl,hb⟩;have n0_ := Aside0.mk (blk_below (g := gb483) (o := .cells #[.string t481,.string t482] 27 (0,0)) (by (with_reducible repeat (first|refine bN ?_ _|refine bD ?_|refine bA ?_ _));refine blk_far ?_ NB483_511.out _;(with_reducible repeat (first|refine bN ?_ _|refine bD ?_|refine bA ?_ _));refine blk_far ?_ NB483_511.out _;(with_reducible repeat (first|refine bN ?_ _|refine bD ?_|refine bA ?_ _));refine blk_far ?_ NB483_511.out _;(with_reducible repeat (first|refine bN ?_ _|refine bD ?_|refine bA ?_ _));exact BK483.out) hb);have n1_ := Aside0.mk (blk_below (g := gb494) (o := .cells #[.string t489,.string t490,.int .i64 t491] 31 (0,0)) (by (with_reducible repeat (first|refine bN ?_ _|refine bD ?_|refine bA ?_ _));refine blk_far ?_ NB494_511.out _;(with_reducible repeat (first|refine bN ?_ _|refine bD ?_|refine bA ?_ _));refine blk_far ?_ NB494_511.out _;(with_reducible repeat (first|refine bN ?_ _|refine bD ?_|refine bA ?_ _));refine blk_far ?_ NB494_511.out _;(with_reducible repeat (first|refine bN ?_ _|refine bD ?_|refine bA ?_ _));exact BK494.out) hb);have n2_ := Aside0.mk (blk_below (g := gb500) (o := .cells #[.string t495,.string t496,.int .i64 t497] 31 (0,0)) (by (with_reducible repeat (first|refine bN ?_ _|refine bD ?_|refine bA ?_ _));refine blk_far ?_ NB500_511.out _;(with_reducible repeat (first|refine bN ?_ _|refine bD ?_|refine bA ?_ _));refine blk_far ?_ NB500_511.out _;(with_reducible repeat (first|refine bN ?_ _|refine bD ?_|refine bA ?_ _));refine blk_far ?_ NB500_511.out _;(with_reducible repeat (first|refine bN ?_ _|refine bD ?_|refine bA ?_ _));exact BK500.out) hb);have n3_ := Aside0.mk (blk_below (g := gb506) (o := .cells #[.string t501,.string t502,.int .i64 t503] 31 (0,0)) (by (with_reducible repeat (first|refine bN ?_ _|refine bD ?_|refine bA ?_ _));refine blk_far ?_ NB506_511.out _;(with_reducible repeat (first|refine bN ?_ _|refine bD ?_|refine bA ?_ _));refine blk_far ?_ NB506_511.out _;(with_reducible repeat (first|refine bN ?_ _|refine bD ?_|refine bA ?_ _));refine blk_far ?_ NB506_511.out _;(with_reducible repeat (first|refine bN ?_ _|refine bD ?_|refine bA ?_ _));exact BK506.out) hb);have n4_ := Aside0.mk (blk_below (g := gb511) (o := .cells #[.string t507,.string t508,.int .i64 t509] 31 (0,0)) (by (with_reducible repeat (first|refine bN ?_ _|refine bD ?_|refine bA ?_ _));refine blk_put (cs := #[.string t507,.string t508,.int .i64 0]) ?_ 2 _ rfl;(with_reducible repeat (first|refine bN ?_ _|refine bD ?_|refine bA ?_ _));refine blk_put (cs := #[.string t507,.string (⟨#[]⟩ : ByteArray),.int .i64 0]) ?_ 1 _ rfl;(with_reducible repeat (first|refine bN ?_ _|refine bD ?_|refine bA ?_ _));refine blk_put (cs := #[.string (⟨#[]⟩ : ByteArray),.string (⟨#[]⟩ : ByteArray),.int .i64 0]) ?_ 0 _ rfl;(with_reducible repeat (first|refine bN ?_ _|refine bD ?_|refine bA ?_ _));exact BK511.out) hb);have n5_ := Aside0.mk (below_step (by repeat (first|(with_reducible first|exact HB.out|apply lA|apply lN|apply lD|refine below_set ?_ GE483.out|refine below_set ?_ GE494.out|refine below_set ?_ GE500.out|refine below_set ?_ GE506.out|refine below_set ?_ GE511.out)|exact HB.out)) hb);clear BK483;clear BK494;clear BK500;clear BK506;clear BK511;clear HB;have BK483 := n0_;have BK494 := n1_;have BK500 := n2_;have BK506 := n3_;have BK511 := n4_;have HB := n5_;clear n0_ n1_ n2_ n3_ n4_ n5_;(try clear hb);(try clear hb2);(try clear hk);(try clear hi)))
             go_ret
             exact ⟨by first|rfl|(simp [errW_none,errW_some] <;> rfl)|(simp [*,errW_none,errW_some] <;> rfl),by repeat (first|(with_reducible first|exact HB.out|apply lA|apply lN|apply lD|refine below_set ?_ GE483.out|refine below_set ?_ GE494.out|refine below_set ?_ GE500.out|refine below_set ?_ GE506.out|refine below_set ?_ GE511.out)|exact HB.out)⟩
            ·replace c69 := Bool.eq_false_iff.mpr c69
             subst c69
             have H1 : (some (t484.toList == ([] : List UInt8))) = some r := by rw [if_neg (show ¬ (false = true) by decide)] at H;exact H
             clear H
             have H := H1
             clear H1
             obtain rfl := Option.some.inj H
             try clear hr_
             have hnb83 := NB494_483.out
             have hnc83 := NB483_494.out
             have hnb84 := NB494_500.out
             have hnc84 := NB500_494.out
             have hnb85 := NB494_506.out
             have hnc85 := NB506_494.out
             have hcz86_0 : wc.cell? ⟨gb494,0,none⟩ = some (.string t489) := (blk_cell BK494.out 0).trans rfl
             have hcz86_1 : wc.cell? ⟨gb494,1,none⟩ = some (.string t490) := (blk_cell BK494.out 1).trans rfl
             have hcz86_2 : wc.cell? ⟨gb494,2,none⟩ = some (.int .i64 t491) := (blk_cell BK494.out 2).trans rfl
             have hfz86_0 := blk_frozen BK494.out 0
             have hfz86_1 := blk_frozen BK494.out 1
             have hfz86_2 := blk_frozen BK494.out 2
             go_wp2_with (first|((with_reducible refine gate_callee (f := 27) rfl ?_);refine goesL_ (some 105) rfl rfl Tryd.func27 (by kernel_rfl) rfl #[.agg #[.string t489,.string t490,.int .i64 t491]] rfl (by (try simp only [List.map_toArray,List.map_cons,List.map_nil]);first|done|rfl|(simp only [List.length_drop,List.length_take];rfl)) ?_;(with_reducible refine (impl_SyncLog.calls kj47 t489 t490 t491 t507 t508 t509 true _ ?side1 A63.out).mono ?_);(case side1 => exact Gw.below HG.out (by repeat (first|(with_reducible first|exact HB.out|apply lA|apply lN|apply lD|refine below_set ?_ GE483.out|refine below_set ?_ GE494.out|refine below_set ?_ GE500.out|refine below_set ?_ GE506.out)|exact HB.out)));rintro e w87 ⟨rfl,hb⟩;refine ⟨_,rfl,?_⟩;have n0_ := Aside0.mk (blk_below (g := gb483) (o := .cells #[.string t481,.string t482] 27 (0,0)) (by (with_reducible repeat (first|refine bN ?_ _|refine bD ?_|refine bA ?_ _));exact BK483.out) hb);have n1_ := Aside0.mk (blk_below (g := gb494) (o := .cells #[.string t489,.string t490,.int .i64 t491] 31 (0,0)) (by (with_reducible repeat (first|refine bN ?_ _|refine bD ?_|refine bA ?_ _));exact BK494.out) hb);have n2_ := Aside0.mk (blk_below (g := gb500) (o := .cells #[.string t495,.string t496,.int .i64 t497] 31 (0,0)) (by (with_reducible repeat (first|refine bN ?_ _|refine bD ?_|refine bA ?_ _));exact BK500.out) hb);have n3_ := Aside0.mk (blk_below (g := gb506) (o := .cells #[.string t501,.string t502,.int .i64 t503] 31 (0,0)) (by (with_reducible repeat (first|refine bN ?_ _|refine bD ?_|refine bA ?_ _));exact BK506.out) hb);have n4_ := Aside0.mk (below_step (by repeat (first|(with_reducible first|exact HB.out|apply lA|apply lN|apply lD|refine below_set ?_ GE483.out|refine below_set ?_ GE494.out|refine below_set ?_ GE500.out|refine below_set ?_ GE506.out)|exact HB.out)) hb);clear BK483;clear BK494;clear BK500;clear BK506;clear HB;have BK483 := n0_;have BK494 := n1_;have BK500 := n2_;have BK506 := n3_;have HB := n4_;clear n0_ n1_ n2_ n3_ n4_;(try clear hb);(try clear hb2);(try clear hk);(try clear hi))|((with_reducible refine gate_dst (N := 19) rfl ?_);refine box_event ?hg (N := 19) ?hd (cs := #[.string (⟨#[]⟩ : ByteArray),.string (⟨#[]⟩ : ByteArray),.int .i64 0]) (t := 31) ?hr ?_;(case hd => rfl);(case hg => rfl);(case hr => first|(go_simp;done)|(go_simp;rfl));intro gb511 hg w88 hbox hb;have n0_ := Aside0.mk (blk_below (g := gb483) (o := .cells #[.string t481,.string t482] 27 (0,0)) (by (with_reducible repeat (first|refine bN ?_ _|refine bD ?_|refine bA ?_ _));exact BK483.out) hb);have n1_ := Aside0.mk (blk_below (g := gb494) (o := .cells #[.string t489,.string t490,.int .i64 t491] 31 (0,0)) (by (with_reducible repeat (first|refine bN ?_ _|refine bD ?_|refine bA ?_ _));exact BK494.out) hb);have n2_ := Aside0.mk (blk_below (g := gb500) (o := .cells #[.string t495,.string t496,.int .i64 t497] 31 (0,0)) (by (with_reducible repeat (first|refine bN ?_ _|refine bD ?_|refine bA ?_ _));exact BK500.out) hb);have n3_ := Aside0.mk (blk_below (g := gb506) (o := .cells #[.string t501,.string t502,.int .i64 t503] 31 (0,0)) (by (with_reducible repeat (first|refine bN ?_ _|refine bD ?_|refine bA ?_ _));exact BK506.out) hb);have n4_ := Aside0.mk (below_step (by repeat (first|(with_reducible first|exact HB.out|apply lA|apply lN|apply lD|refine below_set ?_ GE483.out|refine below_set ?_ GE494.out|refine below_set ?_ GE500.out|refine below_set ?_ GE506.out)|exact HB.out)) hb);have n5_ := Aside0.mk (hbox);have n6_ := Aside0.mk ((by rw [hg];exact (below_size (by repeat (first|(with_reducible first|exact HB.out|apply lA|apply lN|apply lD|refine below_set ?_ GE483.out|refine below_set ?_ GE494.out|refine below_set ?_ GE500.out|refine below_set ?_ GE506.out)|exact HB.out))) : w.heap.size ≤ gb511));have n7_ := Aside0.mk ((by rw [hg];exact (below_size (by repeat (first|(with_reducible first|exact HB.out|apply lA|apply lN|apply lD|refine below_set ?_ GE483.out|refine below_set ?_ GE494.out|refine below_set ?_ GE500.out|refine below_set ?_ GE506.out)|exact HB.out))) : w.heap.size ≤ gb511));have n8_ := Aside0.mk ((by rw [hg];exact Nat.ne_of_lt (blk_lt (g := gb483) (o := .cells #[.string t481,.string t482] 27 (0,0)) (by (with_reducible repeat (first|refine bN ?_ _|refine bD ?_|refine bA ?_ _));exact BK483.out)) : gb483 ≠ gb511));have n9_ := Aside0.mk ((by rw [hg];exact Nat.ne_of_gt (blk_lt (g := gb483) (o := .cells #[.string t481,.string t482] 27 (0,0)) (by (with_reducible repeat (first|refine bN ?_ _|refine bD ?_|refine bA ?_ _));exact BK483.out)) : gb511 ≠ gb483));have n10_ := Aside0.mk ((by rw [hg];exact Nat.ne_of_lt (blk_lt (g := gb494) (o := .cells #[.string t489,.string t490,.int .i64 t491] 31 (0,0)) (by (with_reducible repeat (first|refine bN ?_ _|refine bD ?_|refine bA ?_ _));exact BK494.out)) : gb494 ≠ gb511));have n11_ := Aside0.mk ((by rw [hg];exact Nat.ne_of_gt (blk_lt (g := gb494) (o := .cells #[.string t489,.string t490,.int .i64 t491] 31 (0,0)) (by (with_reducible repeat (first|refine bN ?_ _|refine bD ?_|refine bA ?_ _));exact BK494.out)) : gb511 ≠ gb494));have n12_ := Aside0.mk ((by rw [hg];exact Nat.ne_of_lt (blk_lt (g := gb500) (o := .cells #[.string t495,.string t496,.int .i64 t497] 31 (0,0)) (by (with_reducible repeat (first|refine bN ?_ _|refine bD ?_|refine bA ?_ _));exact BK500.out)) : gb500 ≠ gb511));have n13_ := Aside0.mk ((by rw [hg];exact Nat.ne_of_gt (blk_lt (g := gb500) (o := .cells #[.string t495,.string t496,.int .i64 t497] 31 (0,0)) (by (with_reducible repeat (first|refine bN ?_ _|refine bD ?_|refine bA ?_ _));exact BK500.out)) : gb511 ≠ gb500));have n14_ := Aside0.mk ((by rw [hg];exact Nat.ne_of_lt (blk_lt (g := gb506) (o := .cells #[.string t501,.string t502,.int .i64 t503] 31 (0,0)) (by (with_reducible repeat (first|refine bN ?_ _|refine bD ?_|refine bA ?_ _));exact BK506.out)) : gb506 ≠ gb511));have n15_ := Aside0.mk ((by rw [hg];exact Nat.ne_of_gt (blk_lt (g := gb506) (o := .cells #[.string t501,.string t502,.int .i64 t503] 31 (0,0)) (by (with_reducible repeat (first|refine bN ?_ _|refine bD ?_|refine bA ?_ _));exact BK506.out)) : gb511 ≠ gb506));clear BK483;clear BK494;clear BK500;clear BK506;clear HB;have BK483 := n0_;have BK494 := n1_;have BK500 := n2_;have BK506 := n3_;have HB := n4_;have BK511 := n5_;have GW511 := n6_;have GE511 := n7_;have NB483_511 := n8_;have NB511_483 := n9_;have NB494_511 := n10_;have NB511_494 := n11_;have NB500_511 := n12_;have NB511_500 := n13_;have NB506_511 := n14_;have NB511_506 := n15_;clear n0_ n1_ n2_ n3_ n4_ n5_ n6_ n7_ n8_ n9_ n10_ n11_ n12_ n13_ n14_ n15_;clear hb hbox hg;have hnb89 := NB511_483.out;have hnc89 := NB483_511.out;have hnb90 := NB511_494.out;have hnc90 := NB494_511.out;have hnb91 := NB511_500.out;have hnc91 := NB500_511.out;have hnb92 := NB511_506.out;have hnc92 := NB506_511.out;have hcz93_0 : w88.cell? ⟨gb511,0,none⟩ = some (.string (⟨#[]⟩ : ByteArray)) := (blk_cell BK511.out 0).trans rfl;have hcz93_1 : w88.cell? ⟨gb511,1,none⟩ = some (.string (⟨#[]⟩ : ByteArray)) := (blk_cell BK511.out 1).trans rfl;have hcz93_2 : w88.cell? ⟨gb511,2,none⟩ = some (.int .i64 0) := (blk_cell BK511.out 2).trans rfl;have hfz93_0 := blk_frozen BK511.out 0;have hfz93_1 := blk_frozen BK511.out 1;have hfz93_2 := blk_frozen BK511.out 2;have hcz94_0 : w88.cell? ⟨gb494,0,none⟩ = some (.string t489) := (blk_cell BK494.out 0).trans rfl;have hcz94_1 : w88.cell? ⟨gb494,1,none⟩ = some (.string t490) := (blk_cell BK494.out 1).trans rfl;have hcz94_2 : w88.cell? ⟨gb494,2,none⟩ = some (.int .i64 t491) := (blk_cell BK494.out 2).trans rfl;have hfz94_0 := blk_frozen BK494.out 0;have hfz94_1 := blk_frozen BK494.out 1;have hfz94_2 := blk_frozen BK494.out 2)|(go_at_call 23;(with_reducible refine (impl_IsValidLog.calls kj47 t489 t490 t491 true _ ?side1 A67.out).mono ?_);(case side1 => exact Gw.below HG.out (by repeat (first|(with_reducible first|exact HB.out|apply lA|apply lN|apply lD|refine below_set ?_ GE483.out|refine below_set ?_ GE494.out|refine below_set ?_ GE500.out|refine below_set ?_ GE506.out|refine below_set ?_ GE511.out)|exact HB.out)));rintro e w95 ⟨rfl,hb⟩;have n0_ := Aside0.mk (blk_below (g := gb483) (o := .cells #[.string t481,.string t482] 27 (0,0)) (by (with_reducible repeat (first|refine bN ?_ _|refine bD ?_|refine bA ?_ _));refine blk_far ?_ NB483_511.out _;(with_reducible repeat (first|refine bN ?_ _|refine bD ?_|refine bA ?_ _));refine blk_far ?_ NB483_511.out _;(with_reducible repeat (first|refine bN ?_ _|refine bD ?_|refine bA ?_ _));refine blk_far ?_ NB483_511.out _;(with_reducible repeat (first|refine bN ?_ _|refine bD ?_|refine bA ?_ _));exact BK483.out) hb);have n1_ := Aside0.mk (blk_below (g := gb494) (o := .cells #[.string t489,.string t490,.int .i64 t491] 31 (0,0)) (by (with_reducible repeat (first|refine bN ?_ _|refine bD ?_|refine bA ?_ _));refine blk_far ?_ NB494_511.out _;(with_reducible repeat (first|refine bN ?_ _|refine bD ?_|refine bA ?_ _));refine blk_far ?_ NB494_511.out _;(with_reducible repeat (first|refine bN ?_ _|refine bD ?_|refine bA ?_ _));refine blk_far ?_ NB494_511.out _;(with_reducible repeat (first|refine bN ?_ _|refine bD ?_|refine bA ?_ _));exact BK494.out) hb);have n2_ := Aside0.mk (blk_below (g := gb500) (o := .cells #[.string t495,.string t496,.int .i64 t497] 31 (0,0)) (by (with_reducible repeat (first|refine bN ?_ _|refine bD ?_|refine bA ?_ _));refine blk_far ?_ NB500_511.out _;(with_reducible repeat (first|refine bN ?_ _|refine bD ?_|refine bA ?_ _));refine blk_far ?_ NB500_511.out _;(with_reducible repeat (first|refine bN ?_ _|refine bD ?_|refine bA ?_ _));refine blk_far ?_ NB500_511.out _;(with_reducible repeat (first|refine bN ?_ _|refine bD ?_|refine bA ?_ _));exact BK500.out) hb);have n3_ := Aside0.mk (blk_below (g := gb506) (o := .cells #[.string t501,.string t502,.int .i64 t503] 31 (0,0)) (by (with_reducible repeat (first|refine bN ?_ _|refine bD ?_|refine bA ?_ _));refine blk_far ?_ NB506_511.out _;(with_reducible repeat (first|refine bN ?_ _|refine bD ?_|refine bA ?_ _));refine blk_far ?_ NB506_511.out _;(with_reducible repeat (first|refine bN ?_ _|refine bD ?_|refine bA ?_ _));refine blk_far ?_ NB506_511.out _;(with_reducible repeat (first|refine bN ?_ _|refine bD ?_|refine bA ?_ _));exact BK506.out) hb);have n4_ := Aside0.mk (blk_below (g := gb511) (o := .cells #[.string t507,.string t508,.int .i64 t509] 31 (0,0)) (by (with_reducible repeat (first|refine bN ?_ _|refine bD ?_|refine bA ?_ _));refine blk_put (cs := #[.string t507,.string t508,.int .i64 0]) ?_ 2 _ rfl;(with_reducible repeat (first|refine bN ?_ _|refine bD ?_|refine bA ?_ _));refine blk_put (cs := #[.string t507,.string (⟨#[]⟩ : ByteArray),.int .i64 0]) ?_ 1 _ rfl;(with_reducible repeat (first|refine bN ?_ _|refine bD ?_|refine bA ?_ _));refine blk_put (cs := #[.string (⟨#[]⟩ : ByteArray),.string (⟨#[]⟩ : ByteArray),.int .i64 0]) ?_ 0 _ rfl;(with_reducible repeat (first|refine bN ?_ _|refine bD ?_|refine bA ?_ _));exact BK511.out) hb);have n5_ := Aside0.mk (below_step (by repeat (first|(with_reducible first|exact HB.out|apply lA|apply lN|apply lD|refine below_set ?_ GE483.out|refine below_set ?_ GE494.out|refine below_set ?_ GE500.out|refine below_set ?_ GE506.out|refine below_set ?_ GE511.out)|exact HB.out)) hb);clear BK483;clear BK494;clear BK500;clear BK506;clear BK511;clear HB;have BK483 := n0_;have BK494 := n1_;have BK500 := n2_;have BK506 := n3_;have BK511 := n4_;have HB := n5_;clear n0_ n1_ n2_ n3_ n4_ n5_;(try clear hb);(try clear hb2);(try clear hk);(try clear hi)))
             go_ret
             exact ⟨by first|rfl|(simp [errW_none,errW_some] <;> rfl)|(simp [*,errW_none,errW_some] <;> rfl),by repeat (first|(with_reducible first|exact HB.out|apply lA|apply lN|apply lD|refine below_set ?_ GE483.out|refine below_set ?_ GE494.out|refine below_set ?_ GE500.out|refine below_set ?_ GE506.out|refine below_set ?_ GE511.out)|exact HB.out)⟩
           ·replace c68 := Bool.eq_false_iff.mpr c68
            subst c68
            have H1 : (some false) = some r := by rw [if_neg (show ¬ (false = true) by decide)] at H;exact H
            clear H
            have H := H1
            clear H1
            exact absurd ((Option.some.inj H).trans hr_) (by decide)
          ·rw [if_neg c66] at H
           have c66b0 : (t507.toList == t489.toList && (t508.toList == t490.toList && (t509 == t491))) = false := by simpa using c66
           (try (have c66b1 : decide (t507.toList = t489.toList && (t508.toList == t490.toList && (t509 == t491))) = false := by simpa using c66))
           (try (have c66b2 : (t507.toList == t489.toList && (t508.toList == t490.toList && (t509 == t491))) = false := by simpa using c66))
           (try (have c66b3 : ¬ (t507.toList = t489.toList && (t508.toList == t490.toList && (t509 == t491))) := by simpa using c66))
           clear c66
           exact absurd ((Option.some.inj H).trans hr_) (by decide)
         ·replace c65 := Bool.eq_false_iff.mpr c65
          subst c65
          have H1 : (some false) = some r := by rw [if_neg (show ¬ (false = true) by decide)] at H;exact H
          clear H
          have H := H1
          clear H1
          exact absurd ((Option.some.inj H).trans hr_) (by decide)
        ·replace c64 := Bool.eq_false_iff.mpr c64
         subst c64
         have H1 : (some true) = some r := by rw [if_neg (show ¬ (false = true) by decide)] at H;exact H
         clear H
         have H := H1
         clear H1
         obtain rfl := Option.some.inj H
         try clear hr_
         have hnb96 := NB494_483.out
         have hnc96 := NB483_494.out
         have hnb97 := NB494_500.out
         have hnc97 := NB500_494.out
         have hnb98 := NB494_506.out
         have hnc98 := NB506_494.out
         have hcz99_0 : wc.cell? ⟨gb494,0,none⟩ = some (.string t489) := (blk_cell BK494.out 0).trans rfl
         have hcz99_1 : wc.cell? ⟨gb494,1,none⟩ = some (.string t490) := (blk_cell BK494.out 1).trans rfl
         have hcz99_2 : wc.cell? ⟨gb494,2,none⟩ = some (.int .i64 t491) := (blk_cell BK494.out 2).trans rfl
         have hfz99_0 := blk_frozen BK494.out 0
         have hfz99_1 := blk_frozen BK494.out 1
         have hfz99_2 := blk_frozen BK494.out 2
         go_wp2_with (first|((with_reducible refine gate_callee (f := 27) rfl ?_);refine goesL_ (some 105) rfl rfl Tryd.func27 (by kernel_rfl) rfl #[.agg #[.string t489,.string t490,.int .i64 t491]] rfl (by (try simp only [List.map_toArray,List.map_cons,List.map_nil]);first|done|rfl|(simp only [List.length_drop,List.length_take];rfl)) ?_;(with_reducible refine (impl_SyncLog.calls kj47 t489 t490 t491 t507 t508 t509 t510 _ ?side1 A63.out).mono ?_);(case side1 => exact Gw.below HG.out (by repeat (first|(with_reducible first|exact HB.out|apply lA|apply lN|apply lD|refine below_set ?_ GE483.out|refine below_set ?_ GE494.out|refine below_set ?_ GE500.out|refine below_set ?_ GE506.out)|exact HB.out)));rintro e w100 ⟨rfl,hb⟩;refine ⟨_,rfl,?_⟩;have n0_ := Aside0.mk (blk_below (g := gb483) (o := .cells #[.string t481,.string t482] 27 (0,0)) (by (with_reducible repeat (first|refine bN ?_ _|refine bD ?_|refine bA ?_ _));exact BK483.out) hb);have n1_ := Aside0.mk (blk_below (g := gb494) (o := .cells #[.string t489,.string t490,.int .i64 t491] 31 (0,0)) (by (with_reducible repeat (first|refine bN ?_ _|refine bD ?_|refine bA ?_ _));exact BK494.out) hb);have n2_ := Aside0.mk (blk_below (g := gb500) (o := .cells #[.string t495,.string t496,.int .i64 t497] 31 (0,0)) (by (with_reducible repeat (first|refine bN ?_ _|refine bD ?_|refine bA ?_ _));exact BK500.out) hb);have n3_ := Aside0.mk (blk_below (g := gb506) (o := .cells #[.string t501,.string t502,.int .i64 t503] 31 (0,0)) (by (with_reducible repeat (first|refine bN ?_ _|refine bD ?_|refine bA ?_ _));exact BK506.out) hb);have n4_ := Aside0.mk (below_step (by repeat (first|(with_reducible first|exact HB.out|apply lA|apply lN|apply lD|refine below_set ?_ GE483.out|refine below_set ?_ GE494.out|refine below_set ?_ GE500.out|refine below_set ?_ GE506.out)|exact HB.out)) hb);clear BK483;clear BK494;clear BK500;clear BK506;clear HB;have BK483 := n0_;have BK494 := n1_;have BK500 := n2_;have BK506 := n3_;have HB := n4_;clear n0_ n1_ n2_ n3_ n4_;(try clear hb);(try clear hb2);(try clear hk);(try clear hi))|((with_reducible refine gate_dst (N := 19) rfl ?_);refine box_event ?hg (N := 19) ?hd (cs := #[.string (⟨#[]⟩ : ByteArray),.string (⟨#[]⟩ : ByteArray),.int .i64 0]) (t := 31) ?hr ?_;(case hd => rfl);(case hg => rfl);(case hr => first|(go_simp;done)|(go_simp;rfl));intro gb511 hg w101 hbox hb;have n0_ := Aside0.mk (blk_below (g := gb483) (o := .cells #[.string t481,.string t482] 27 (0,0)) (by (with_reducible repeat (first|refine bN ?_ _|refine bD ?_|refine bA ?_ _));exact BK483.out) hb);have n1_ := Aside0.mk (blk_below (g := gb494) (o := .cells #[.string t489,.string t490,.int .i64 t491] 31 (0,0)) (by (with_reducible repeat (first|refine bN ?_ _|refine bD ?_|refine bA ?_ _));exact BK494.out) hb);have n2_ := Aside0.mk (blk_below (g := gb500) (o := .cells #[.string t495,.string t496,.int .i64 t497] 31 (0,0)) (by (with_reducible repeat (first|refine bN ?_ _|refine bD ?_|refine bA ?_ _));exact BK500.out) hb);have n3_ := Aside0.mk (blk_below (g := gb506) (o := .cells #[.string t501,.string t502,.int .i64 t503] 31 (0,0)) (by (with_reducible repeat (first|refine bN ?_ _|refine bD ?_|refine bA ?_ _));exact BK506.out) hb);have n4_ := Aside0.mk (below_step (by repeat (first|(with_reducible first|exact HB.out|apply lA|apply lN|apply lD|refine below_set ?_ GE483.out|refine below_set ?_ GE494.out|refine below_set ?_ GE500.out|refine below_set ?_ GE506.out)|exact HB.out)) hb);have n5_ := Aside0.mk (hbox);have n6_ := Aside0.mk ((by rw [hg];exact (below_size (by repeat (first|(with_reducible first|exact HB.out|apply lA|apply lN|apply lD|refine below_set ?_ GE483.out|refine below_set ?_ GE494.out|refine below_set ?_ GE500.out|refine below_set ?_ GE506.out)|exact HB.out))) : w.heap.size ≤ gb511));have n7_ := Aside0.mk ((by rw [hg];exact (below_size (by repeat (first|(with_reducible first|exact HB.out|apply lA|apply lN|apply lD|refine below_set ?_ GE483.out|refine below_set ?_ GE494.out|refine below_set ?_ GE500.out|refine below_set ?_ GE506.out)|exact HB.out))) : w.heap.size ≤ gb511));have n8_ := Aside0.mk ((by rw [hg];exact Nat.ne_of_lt (blk_lt (g := gb483) (o := .cells #[.string t481,.string t482] 27 (0,0)) (by (with_reducible repeat (first|refine bN ?_ _|refine bD ?_|refine bA ?_ _));exact BK483.out)) : gb483 ≠ gb511));have n9_ := Aside0.mk ((by rw [hg];exact Nat.ne_of_gt (blk_lt (g := gb483) (o := .cells #[.string t481,.string t482] 27 (0,0)) (by (with_reducible repeat (first|refine bN ?_ _|refine bD ?_|refine bA ?_ _));exact BK483.out)) : gb511 ≠ gb483));have n10_ := Aside0.mk ((by rw [hg];exact Nat.ne_of_lt (blk_lt (g := gb494) (o := .cells #[.string t489,.string t490,.int .i64 t491] 31 (0,0)) (by (with_reducible repeat (first|refine bN ?_ _|refine bD ?_|refine bA ?_ _));exact BK494.out)) : gb494 ≠ gb511));have n11_ := Aside0.mk ((by rw [hg];exact Nat.ne_of_gt (blk_lt (g := gb494) (o := .cells #[.string t489,.string t490,.int .i64 t491] 31 (0,0)) (by (with_reducible repeat (first|refine bN ?_ _|refine bD ?_|refine bA ?_ _));exact BK494.out)) : gb511 ≠ gb494));have n12_ := Aside0.mk ((by rw [hg];exact Nat.ne_of_lt (blk_lt (g := gb500) (o := .cells #[.string t495,.string t496,.int .i64 t497] 31 (0,0)) (by (with_reducible repeat (first|refine bN ?_ _|refine bD ?_|refine bA ?_ _));exact BK500.out)) : gb500 ≠ gb511));have n13_ := Aside0.mk ((by rw [hg];exact Nat.ne_of_gt (blk_lt (g := gb500) (o := .cells #[.string t495,.string t496,.int .i64 t497] 31 (0,0)) (by (with_reducible repeat (first|refine bN ?_ _|refine bD ?_|refine bA ?_ _));exact BK500.out)) : gb511 ≠ gb500));have n14_ := Aside0.mk ((by rw [hg];exact Nat.ne_of_lt (blk_lt (g := gb506) (o := .cells #[.string t501,.string t502,.int .i64 t503] 31 (0,0)) (by (with_reducible repeat (first|refine bN ?_ _|refine bD ?_|refine bA ?_ _));exact BK506.out)) : gb506 ≠ gb511));have n15_ := Aside0.mk ((by rw [hg];exact Nat.ne_of_gt (blk_lt (g := gb506) (o := .cells #[.string t501,.string t502,.int .i64 t503] 31 (0,0)) (by (with_reducible repeat (first|refine bN ?_ _|refine bD ?_|refine bA ?_ _));exact BK506.out)) : gb511 ≠ gb506));clear BK483;clear BK494;clear BK500;clear BK506;clear HB;have BK483 := n0_;have BK494 := n1_;have BK500 := n2_;have BK506 := n3_;have HB := n4_;have BK511 := n5_;have GW511 := n6_;have GE511 := n7_;have NB483_511 := n8_;have NB511_483 := n9_;have NB494_511 := n10_;have NB511_494 := n11_;have NB500_511 := n12_;have NB511_500 := n13_;have NB506_511 := n14_;have NB511_506 := n15_;clear n0_ n1_ n2_ n3_ n4_ n5_ n6_ n7_ n8_ n9_ n10_ n11_ n12_ n13_ n14_ n15_;clear hb hbox hg;have hnb102 := NB511_483.out;have hnc102 := NB483_511.out;have hnb103 := NB511_494.out;have hnc103 := NB494_511.out;have hnb104 := NB511_500.out;have hnc104 := NB500_511.out;have hnb105 := NB511_506.out;have hnc105 := NB506_511.out;have hcz106_0 : w101.cell? ⟨gb511,0,none⟩ = some (.string (⟨#[]⟩ : ByteArray)) := (blk_cell BK511.out 0).trans rfl;have hcz106_1 : w101.cell? ⟨gb511,1,none⟩ = some (.string (⟨#[]⟩ : ByteArray)) := (blk_cell BK511.out 1).trans rfl;have hcz106_2 : w101.cell? ⟨gb511,2,none⟩ = some (.int .i64 0) := (blk_cell BK511.out 2).trans rfl;have hfz106_0 := blk_frozen BK511.out 0;have hfz106_1 := blk_frozen BK511.out 1;have hfz106_2 := blk_frozen BK511.out 2))
         go_ret
         exact ⟨by first|rfl|(simp [errW_none,errW_some] <;> rfl)|(simp [*,errW_none,errW_some] <;> rfl),by repeat (first|(with_reducible first|exact HB.out|apply lA|apply lN|apply lD|refine below_set ?_ GE483.out|refine below_set ?_ GE494.out|refine below_set ?_ GE500.out|refine below_set ?_ GE506.out|refine below_set ?_ GE511.out)|exact HB.out)⟩
def laws_FnLogLines.Pure : Prop := ∀ (l0 : List Int),(l0.length * 1 ≤ 140737488351232 ∧ l0.length ≤ maxLen ∧ ∀ a_ ∈ l0,(Lit.int .u8 a_).wf = true) → ∃ k,laws_FnLogLines.f k l0 = some true
end Go.Proofs.YtinbbjfnebhlkaaDoor.P
