/- Written by a program in this session: each theorem here says that a Go function computes the Lean function beside it, or that a law's row holds, under the conditions that the theorem itself states. -/
import Derived.Test.YtpnjnlcjofaglaaDoorZPx0
import Derived.Test.YtpnjnlcjofaglaaDoorZPx1
import Derived.Test.YtpnjnlcjofaglaaDoorZPx2
import Derived.Test.YtpnjnlcjofaglaaDoorZPx3
import Derived.Test.YtpnjnlcjofaglaaDoorZPx4
import Derived.Test.YtpnjnlcjofaglaaDoorZPx5
namespace Go.Proofs.YtpnjnlcjofaglaaDoor.P
open Go.RowKit Go.Proofs.YtpnjnlcjofaglaaDoorW.PrintWords Go.Proofs.YtpnjnlcjofaglaaDoorW.PrintLast Go.Proofs.YtpnjnlcjofaglaaDoorW.PrintMore
attribute [local go_sem] max2_int min2_int max_two min_two max_three min_three max_four min_four   -- for this text's walks alone
set_option linter.unusedVariables false
set_option linter.unusedSimpArgs false
mutual
def laws_FnBooks.j0 : Nat → List Int → ByteArray → ByteArray → Bool → Bool → Option (Bool)
 | 0,_,_,_,_,_ => none
 | k + 1,x0,x3,x4,x5,x43 => if x43 = true then (some false) else (if x5 = true then ((impl_ToBook10.f k x4).bind fun bt235 => (if bt235.2 = true then (if bt235.1.toList = x3.toList then (laws_FnBooks.j1 k x0) else (some false)) else (some false))) else (laws_FnBooks.j1 k x0))
def laws_FnBooks.j1 : Nat → List Int → Option (Bool)
 | 0,_ => none
 | k + 1,x0 => (spec_DrawToBook10.f k x0).bind fun t237 => ((impl_ToBook10.f k t237).bind fun bt238 => ((spec_ToBook10.f k t237).bind fun bt240 => (if bt238.1.toList = bt240.1.toList then (laws_FnBooks.j2 k x0 t237 bt238.1 bt238.2 (bt238.2 != bt240.2)) else (laws_FnBooks.j2 k x0 t237 bt238.1 bt238.2 true))))
def laws_FnBooks.j2 : Nat → List Int → ByteArray → ByteArray → Bool → Bool → Option (Bool)
 | 0,_,_,_,_,_ => none
 | k + 1,x0,x10,x11,x12,x76 => if x76 = true then (some false) else (if x12 = true then ((impl_ToBook13.f k x11).bind fun bt242 => (if bt242.2 = true then (laws_FnBooks.j3 k x0 (bt242.1.toList != x10.toList)) else (laws_FnBooks.j3 k x0 true))) else ((spec_DrawCheckIdentifier.f k x0).bind fun t249 => ((impl_CheckIdentifier.f k t249).bind fun bt250 => ((spec_CheckIdentifier.f k t249).bind fun bt252 => (if bt250.1 = bt252.1 then (some (bt250.2 == bt252.2)) else (some false))))))
def laws_FnBooks.j3 : Nat → List Int → Bool → Option (Bool)
 | 0,_,_ => none
 | k + 1,x0,x89 => if x89 = true then (some false) else ((spec_DrawCheckIdentifier.f k x0).bind fun t244 => ((impl_CheckIdentifier.f k t244).bind fun bt245 => ((spec_CheckIdentifier.f k t244).bind fun bt247 => (if bt245.1 = bt247.1 then (some (bt245.2 == bt247.2)) else (some false)))))
end
def laws_FnBooks.f (k : Nat) (l0 : List Int) : Option (Bool) := (laws_rBig.f l0).bind fun t229 => (if t229 = true then (some true) else ((spec_DrawToBook13.f k l0).bind fun t230 => ((impl_ToBook13.f k t230).bind fun bt231 => ((spec_ToBook13.f k t230).bind fun bt233 => (if bt231.1.toList = bt233.1.toList then (laws_FnBooks.j0 k l0 t230 bt231.1 bt231.2 (bt231.2 != bt233.2)) else (laws_FnBooks.j0 k l0 t230 bt231.1 bt231.2 true))))))
theorem laws_FnBooks.mono_l : ∀ k,(∀ y0 y1 y2 y3 y4,LeO (laws_FnBooks.j0 k y0 y1 y2 y3 y4) (laws_FnBooks.j0 (k + 1) y0 y1 y2 y3 y4)) ∧ (∀ y0,LeO (laws_FnBooks.j1 k y0) (laws_FnBooks.j1 (k + 1) y0)) ∧ (∀ y0 y1 y2 y3 y4,LeO (laws_FnBooks.j2 k y0 y1 y2 y3 y4) (laws_FnBooks.j2 (k + 1) y0 y1 y2 y3 y4)) ∧ (∀ y0 y1,LeO (laws_FnBooks.j3 k y0 y1) (laws_FnBooks.j3 (k + 1) y0 y1))
 | 0 => ⟨fun _ _ _ _ _ r h => by simp [laws_FnBooks.j0] at h,fun _ r h => by simp [laws_FnBooks.j1] at h,fun _ _ _ _ _ r h => by simp [laws_FnBooks.j2] at h,fun _ _ r h => by simp [laws_FnBooks.j3] at h⟩
 | k + 1 => by
  obtain ⟨ih0,ih1,ih2,ih3⟩ := laws_FnBooks.mono_l k
  refine ⟨?_,?_,?_,?_⟩
  ·intro y0 y1 y2 y3 y4
   unfold laws_FnBooks.j0
   repeat' first
   | (with_reducible exact ih0 _ _ _ _ _)
   | (with_reducible exact ih1 _)
   | (with_reducible exact ih2 _ _ _ _ _)
   | (with_reducible exact ih3 _ _)
   | (with_reducible exact impl_CheckIdentifier.mono _ _)
   | (with_reducible exact impl_ToBook10.mono _ _)
   | (with_reducible exact impl_ToBook13.mono _ _)
   | (with_reducible exact spec_CheckIdentifier.mono _ _)
   | (with_reducible exact spec_DrawCheckIdentifier.mono _ _)
   | (with_reducible exact spec_DrawToBook10.mono _ _)
   | (with_reducible exact spec_DrawToBook13.mono _ _)
   | (with_reducible exact spec_ToBook10.mono _ _)
   | (with_reducible exact spec_ToBook13.mono _ _)
   | (with_reducible exact LeO.refl _)
   | (with_reducible exact LeO.none _)
   | (with_reducible refine LeO.ite ?_ ?_)
   | (with_reducible refine LeO.bind ?_ (fun _ => ?_))
   | exact ih0 _ _ _ _ _
   | exact ih1 _
   | exact ih2 _ _ _ _ _
   | exact ih3 _ _
   | exact impl_CheckIdentifier.mono _ _
   | exact impl_ToBook10.mono _ _
   | exact impl_ToBook13.mono _ _
   | exact spec_CheckIdentifier.mono _ _
   | exact spec_DrawCheckIdentifier.mono _ _
   | exact spec_DrawToBook10.mono _ _
   | exact spec_DrawToBook13.mono _ _
   | exact spec_ToBook10.mono _ _
   | exact spec_ToBook13.mono _ _
   | exact LeO.none _
   | refine LeO.ite ?_ ?_
   | refine LeO.bind ?_ (fun _ => ?_)
  ·intro y0
   unfold laws_FnBooks.j1
   repeat' first
   | (with_reducible exact ih0 _ _ _ _ _)
   | (with_reducible exact ih1 _)
   | (with_reducible exact ih2 _ _ _ _ _)
   | (with_reducible exact ih3 _ _)
   | (with_reducible exact impl_CheckIdentifier.mono _ _)
   | (with_reducible exact impl_ToBook10.mono _ _)
   | (with_reducible exact impl_ToBook13.mono _ _)
   | (with_reducible exact spec_CheckIdentifier.mono _ _)
   | (with_reducible exact spec_DrawCheckIdentifier.mono _ _)
   | (with_reducible exact spec_DrawToBook10.mono _ _)
   | (with_reducible exact spec_DrawToBook13.mono _ _)
   | (with_reducible exact spec_ToBook10.mono _ _)
   | (with_reducible exact spec_ToBook13.mono _ _)
   | (with_reducible exact LeO.refl _)
   | (with_reducible exact LeO.none _)
   | (with_reducible refine LeO.ite ?_ ?_)
   | (with_reducible refine LeO.bind ?_ (fun _ => ?_))
   | exact ih0 _ _ _ _ _
   | exact ih1 _
   | exact ih2 _ _ _ _ _
   | exact ih3 _ _
   | exact impl_CheckIdentifier.mono _ _
   | exact impl_ToBook10.mono _ _
   | exact impl_ToBook13.mono _ _
   | exact spec_CheckIdentifier.mono _ _
   | exact spec_DrawCheckIdentifier.mono _ _
   | exact spec_DrawToBook10.mono _ _
   | exact spec_DrawToBook13.mono _ _
   | exact spec_ToBook10.mono _ _
   | exact spec_ToBook13.mono _ _
   | exact LeO.none _
   | refine LeO.ite ?_ ?_
   | refine LeO.bind ?_ (fun _ => ?_)
  ·intro y0 y1 y2 y3 y4
   unfold laws_FnBooks.j2
   repeat' first
   | (with_reducible exact ih0 _ _ _ _ _)
   | (with_reducible exact ih1 _)
   | (with_reducible exact ih2 _ _ _ _ _)
   | (with_reducible exact ih3 _ _)
   | (with_reducible exact impl_CheckIdentifier.mono _ _)
   | (with_reducible exact impl_ToBook10.mono _ _)
   | (with_reducible exact impl_ToBook13.mono _ _)
   | (with_reducible exact spec_CheckIdentifier.mono _ _)
   | (with_reducible exact spec_DrawCheckIdentifier.mono _ _)
   | (with_reducible exact spec_DrawToBook10.mono _ _)
   | (with_reducible exact spec_DrawToBook13.mono _ _)
   | (with_reducible exact spec_ToBook10.mono _ _)
   | (with_reducible exact spec_ToBook13.mono _ _)
   | (with_reducible exact LeO.refl _)
   | (with_reducible exact LeO.none _)
   | (with_reducible refine LeO.ite ?_ ?_)
   | (with_reducible refine LeO.bind ?_ (fun _ => ?_))
   | exact ih0 _ _ _ _ _
   | exact ih1 _
   | exact ih2 _ _ _ _ _
   | exact ih3 _ _
   | exact impl_CheckIdentifier.mono _ _
   | exact impl_ToBook10.mono _ _
   | exact impl_ToBook13.mono _ _
   | exact spec_CheckIdentifier.mono _ _
   | exact spec_DrawCheckIdentifier.mono _ _
   | exact spec_DrawToBook10.mono _ _
   | exact spec_DrawToBook13.mono _ _
   | exact spec_ToBook10.mono _ _
   | exact spec_ToBook13.mono _ _
   | exact LeO.none _
   | refine LeO.ite ?_ ?_
   | refine LeO.bind ?_ (fun _ => ?_)
  ·intro y0 y1
   unfold laws_FnBooks.j3
   repeat' first
   | (with_reducible exact ih0 _ _ _ _ _)
   | (with_reducible exact ih1 _)
   | (with_reducible exact ih2 _ _ _ _ _)
   | (with_reducible exact ih3 _ _)
   | (with_reducible exact impl_CheckIdentifier.mono _ _)
   | (with_reducible exact impl_ToBook10.mono _ _)
   | (with_reducible exact impl_ToBook13.mono _ _)
   | (with_reducible exact spec_CheckIdentifier.mono _ _)
   | (with_reducible exact spec_DrawCheckIdentifier.mono _ _)
   | (with_reducible exact spec_DrawToBook10.mono _ _)
   | (with_reducible exact spec_DrawToBook13.mono _ _)
   | (with_reducible exact spec_ToBook10.mono _ _)
   | (with_reducible exact spec_ToBook13.mono _ _)
   | (with_reducible exact LeO.refl _)
   | (with_reducible exact LeO.none _)
   | (with_reducible refine LeO.ite ?_ ?_)
   | (with_reducible refine LeO.bind ?_ (fun _ => ?_))
   | exact ih0 _ _ _ _ _
   | exact ih1 _
   | exact ih2 _ _ _ _ _
   | exact ih3 _ _
   | exact impl_CheckIdentifier.mono _ _
   | exact impl_ToBook10.mono _ _
   | exact impl_ToBook13.mono _ _
   | exact spec_CheckIdentifier.mono _ _
   | exact spec_DrawCheckIdentifier.mono _ _
   | exact spec_DrawToBook10.mono _ _
   | exact spec_DrawToBook13.mono _ _
   | exact spec_ToBook10.mono _ _
   | exact spec_ToBook13.mono _ _
   | exact LeO.none _
   | refine LeO.ite ?_ ?_
   | refine LeO.bind ?_ (fun _ => ?_)
theorem laws_FnBooks.mono : ∀ a0 k,LeO (laws_FnBooks.f k a0) (laws_FnBooks.f (k + 1) a0) := by
 intro a0 k
 obtain ⟨ih0,ih1,ih2,ih3⟩ := laws_FnBooks.mono_l k
 unfold laws_FnBooks.f
 repeat' first
   | (with_reducible exact ih0 _ _ _ _ _)
   | (with_reducible exact ih1 _)
   | (with_reducible exact ih2 _ _ _ _ _)
   | (with_reducible exact ih3 _ _)
   | (with_reducible exact impl_CheckIdentifier.mono _ _)
   | (with_reducible exact impl_ToBook10.mono _ _)
   | (with_reducible exact impl_ToBook13.mono _ _)
   | (with_reducible exact spec_CheckIdentifier.mono _ _)
   | (with_reducible exact spec_DrawCheckIdentifier.mono _ _)
   | (with_reducible exact spec_DrawToBook10.mono _ _)
   | (with_reducible exact spec_DrawToBook13.mono _ _)
   | (with_reducible exact spec_ToBook10.mono _ _)
   | (with_reducible exact spec_ToBook13.mono _ _)
   | (with_reducible exact LeO.refl _)
   | (with_reducible exact LeO.none _)
   | (with_reducible refine LeO.ite ?_ ?_)
   | (with_reducible refine LeO.bind ?_ (fun _ => ?_))
   | exact ih0 _ _ _ _ _
   | exact ih1 _
   | exact ih2 _ _ _ _ _
   | exact ih3 _ _
   | exact impl_CheckIdentifier.mono _ _
   | exact impl_ToBook10.mono _ _
   | exact impl_ToBook13.mono _ _
   | exact spec_CheckIdentifier.mono _ _
   | exact spec_DrawCheckIdentifier.mono _ _
   | exact spec_DrawToBook10.mono _ _
   | exact spec_DrawToBook13.mono _ _
   | exact spec_ToBook10.mono _ _
   | exact spec_ToBook13.mono _ _
   | exact LeO.none _
   | refine LeO.ite ?_ ?_
   | refine LeO.bind ?_ (fun _ => ?_)
set_option maxHeartbeats 8000000 in
set_option maxRecDepth 100000 in
theorem laws_FnBooks.calls (k : Nat) (A0 : Option Addr) (c0 : Nat) (l0 : List Int) (r : Bool) (w : World) (hr0 : Kd.C (Kd.int .u8) w A0 l0.length l0) (hc0 : l0.length ≤ c0) (hG : Gw w) (hr_ : r = true) (h : laws_FnBooks.f k l0 = some r) :
  Calls Tryd.prog 7 #[.slice A0 l0.length c0] w fun e w' => e = .returned (.bool r) ∧ Below w.heap.size w w' := by
 have HR0 := Aside0.mk hr0
 have HC0 := Aside0.mk hc0
 clear hr0 hc0
 have HB := Aside0.mk (Below.refl w.heap.size w)
 have HG := Aside0.mk hG
 clear hG
 have H : ((laws_rBig.f l0).bind fun t229 => (if t229 = true then (some true) else ((spec_DrawToBook13.f k l0).bind fun t230 => ((impl_ToBook13.f k t230).bind fun bt231 => ((spec_ToBook13.f k t230).bind fun bt233 => (if bt231.1.toList = bt233.1.toList then (laws_FnBooks.j0 k l0 t230 bt231.1 bt231.2 (bt231.2 != bt233.2)) else (laws_FnBooks.j0 k l0 t230 bt231.1 bt231.2 true))))))) = some r := h
 clear h
 replace H := Option.bind_eq_some_iff.mp H
 obtain ⟨t229,A20,H⟩ := H
 replace H : (if t229 = true then (some true) else ((spec_DrawToBook13.f k l0).bind fun t230 => ((impl_ToBook13.f k t230).bind fun bt231 => ((spec_ToBook13.f k t230).bind fun bt233 => (if bt231.1.toList = bt233.1.toList then (laws_FnBooks.j0 k l0 t230 bt231.1 bt231.2 (bt231.2 != bt233.2)) else (laws_FnBooks.j0 k l0 t230 bt231.1 bt231.2 true)))))) = some r := H
 have A2 := Aside0.mk A20
 clear A20
 by_cases c3 : t229 = true
 ·subst c3
  have H1 : (some true) = some r := by rw [if_pos rfl] at H;exact H
  clear H
  have H := H1
  clear H1
  obtain rfl := Option.some.inj H
  try clear hr_
  go_enter Tryd.func7,Tryd.ntmps7
  go_wp2_with (first|((with_reducible refine gate_callee (f := 17) rfl ?_);refine goesL_ (some 23) rfl rfl Tryd.func17 (by kernel_rfl) rfl #[.slice A0 l0.length c0] rfl (by (try simp only [List.map_toArray,List.map_cons,List.map_nil]);first|done|rfl|(simp only [List.length_drop,List.length_take];rfl)) ?_;(with_reducible refine (laws_rBig.calls _ _ l0 true _ ?side1 ?side2 A2.out).mono ?_);(case side1 => repeat (first|exact HR0.out|(with_reducible refine Kd.C_alloc ?_ _)|(with_reducible refine Kd.C_drewN ?_ _)|(with_reducible refine Kd.C_drew ?_)));(case side2 => exact HC0.out);rintro e w' ⟨rfl,⟨nd,rfl⟩⟩;refine ⟨_,rfl,?_⟩))
  go_ret
  exact ⟨by first|rfl|(simp [errW_none,errW_some] <;> rfl)|(simp [*,errW_none,errW_some] <;> rfl),by repeat (first|(with_reducible first|exact HB.out|apply lA|apply lN|apply lD)|exact HB.out)⟩
 ·replace c3 := Bool.eq_false_iff.mpr c3
  subst c3
  have H1 : ((spec_DrawToBook13.f k l0).bind fun t230 => ((impl_ToBook13.f k t230).bind fun bt231 => ((spec_ToBook13.f k t230).bind fun bt233 => (if bt231.1.toList = bt233.1.toList then (laws_FnBooks.j0 k l0 t230 bt231.1 bt231.2 (bt231.2 != bt233.2)) else (laws_FnBooks.j0 k l0 t230 bt231.1 bt231.2 true))))) = some r := by rw [if_neg (show ¬ (false = true) by decide)] at H;exact H
  clear H
  have H := H1
  clear H1
  replace H := Option.bind_eq_some_iff.mp H
  obtain ⟨t230,A40,H⟩ := H
  replace H : ((impl_ToBook13.f k t230).bind fun bt231 => ((spec_ToBook13.f k t230).bind fun bt233 => (if bt231.1.toList = bt233.1.toList then (laws_FnBooks.j0 k l0 t230 bt231.1 bt231.2 (bt231.2 != bt233.2)) else (laws_FnBooks.j0 k l0 t230 bt231.1 bt231.2 true)))) = some r := H
  have A4 := Aside0.mk A40
  clear A40
  replace H := Option.bind_eq_some_iff.mp H
  obtain ⟨⟨t231,t232⟩,A50,H⟩ := H
  replace H : ((spec_ToBook13.f k t230).bind fun bt233 => (if t231.toList = bt233.1.toList then (laws_FnBooks.j0 k l0 t230 t231 t232 (t232 != bt233.2)) else (laws_FnBooks.j0 k l0 t230 t231 t232 true))) = some r := H
  have A5 := Aside0.mk A50
  clear A50
  replace H := Option.bind_eq_some_iff.mp H
  obtain ⟨⟨t233,t234⟩,A60,H⟩ := H
  replace H : (if t231.toList = t233.toList then (laws_FnBooks.j0 k l0 t230 t231 t232 (t232 != t234)) else (laws_FnBooks.j0 k l0 t230 t231 t232 true)) = some r := H
  have A6 := Aside0.mk A60
  clear A60
  have HC7 := Aside0.mk H
  clear H
  go_enter Tryd.func7,Tryd.ntmps7
  go_upto_region 6 with (first|((with_reducible refine gate_callee (f := 17) rfl ?_);refine goesL_ (some 23) rfl rfl Tryd.func17 (by kernel_rfl) rfl #[.slice A0 l0.length c0] rfl (by (try simp only [List.map_toArray,List.map_cons,List.map_nil]);first|done|rfl|(simp only [List.length_drop,List.length_take];rfl)) ?_;(with_reducible refine (laws_rBig.calls _ _ l0 false _ ?side1 ?side2 A2.out).mono ?_);(case side1 => repeat (first|exact HR0.out|(with_reducible refine Kd.C_alloc ?_ _)|(with_reducible refine Kd.C_drewN ?_ _)|(with_reducible refine Kd.C_drew ?_)));(case side2 => exact HC0.out);rintro e w' ⟨rfl,⟨nd,rfl⟩⟩;refine ⟨_,rfl,?_⟩)|((with_reducible refine gate_callee (f := 18) rfl ?_);refine goesL_ (some 25) rfl rfl Tryd.func18 (by kernel_rfl) rfl #[.slice A0 l0.length c0] rfl (by (try simp only [List.map_toArray,List.map_cons,List.map_nil]);first|done|rfl|(simp only [List.length_drop,List.length_take];rfl)) ?_;(with_reducible refine (spec_DrawToBook13.calls k _ _ l0 t230 _ ?side1 ?side2 A4.out).mono ?_);(case side1 => repeat (first|exact HR0.out|(with_reducible refine Kd.C_alloc ?_ _)|(with_reducible refine Kd.C_drewN ?_ _)|(with_reducible refine Kd.C_drew ?_)));(case side2 => exact HC0.out);rintro e w8 ⟨rfl,hb⟩;refine ⟨_,rfl,?_⟩;have n0_ := Aside0.mk (below_step (by repeat (first|(with_reducible first|exact HB.out|apply lA|apply lN|apply lD)|exact HB.out)) hb);clear HB;have HB := n0_;clear n0_;(try clear hb);(try clear hb2);(try clear hk);(try clear hi))|((with_reducible refine gate_callee (f := 12) rfl ?_);refine goesL_ (some 28) rfl rfl Tryd.func12 (by kernel_rfl) rfl #[.string t230] rfl (by (try simp only [List.map_toArray,List.map_cons,List.map_nil]);first|done|rfl|(simp only [List.length_drop,List.length_take];rfl)) ?_;(with_reducible refine (impl_ToBook13.calls k t230 t231 t232 _ ?side1 A5.out).mono ?_);(case side1 => exact Gw.below HG.out (by repeat (first|(with_reducible first|exact HB.out|apply lA|apply lN|apply lD)|exact HB.out)));rintro e w9 ⟨rfl,hb⟩;refine ⟨_,rfl,?_⟩;have n0_ := Aside0.mk (below_step (by repeat (first|(with_reducible first|exact HB.out|apply lA|apply lN|apply lD)|exact HB.out)) hb);clear HB;have HB := n0_;clear n0_;(try clear hb);(try clear hb2);(try clear hk);(try clear hi))|((with_reducible refine gate_callee (f := 11) rfl ?_);refine goesL_ (some 33) rfl rfl Tryd.func11 (by kernel_rfl) rfl #[.string t230] rfl (by (try simp only [List.map_toArray,List.map_cons,List.map_nil]);first|done|rfl|(simp only [List.length_drop,List.length_take];rfl)) ?_;(with_reducible refine (spec_ToBook13.calls k t230 t233 t234 _ A6.out).mono ?_);rintro e w' ⟨rfl,⟨nd,rfl⟩⟩;refine ⟨_,rfl,?_⟩))
  (try simp only [Act.put,List.setIfInBounds_toArray,List.set_cons_zero,List.set_cons_succ])
  go_cut [43] (fun v43 wc => ∃ (kq : Nat) (x43_6 : Bool),v43 = .bool x43_6 ∧ Aside0 (laws_FnBooks.j0 kq l0 t230 t231 t232 x43_6 = some r) ∧ Aside0 (kq ≤ k) ∧ Aside0 (Below w.heap.size w wc))
  case first =>
   have H := HC7.out
   clear HC7
   by_cases c10 : t231.toList = t233.toList
   ·rw [if_pos c10] at H
    have c10b0 : (t231.toList == t233.toList) = true := beq_iff_eq.mpr c10
    have c10b1 : (t231.toList != t233.toList) = false := bne_eq_false_iff_eq.mpr c10
    clear c10
    (first|rw [c10b0]|(simp only [i64_w,i32_w];rw [c10b0])|skip)
    have H' := Aside0.mk H
    clear H
    go_wp2
    go_meet
    case rel => exact ⟨_,((t232 != t234)),(by first|rfl|(simp;done)|(simp [my_isEmpty];done)|(simp [*];done)),H',⟨by first|omega|exact Nat.le_refl _⟩,⟨by repeat (first|(with_reducible first|exact HB.out|apply lA|apply lN|apply lD)|exact HB.out)⟩⟩
   ·rw [if_neg c10] at H
    have c10b0 : (t231.toList == t233.toList) = false := beq_eq_false_iff_ne.mpr c10
    have c10b1 : (t231.toList != t233.toList) = true := bne_iff_ne.mpr c10
    (first|rw [c10b0]|(simp only [i64_w,i32_w];rw [c10b0])|skip)
    have H' := Aside0.mk H
    clear H
    go_wp2
    go_meet
    case rel => exact ⟨_,(true),(by first|rfl|(simp;done)|(simp [my_isEmpty];done)|(simp [*];done)),H',⟨by first|omega|exact Nat.le_refl _⟩,⟨by repeat (first|(with_reducible first|exact HB.out|apply lA|apply lN|apply lD)|exact HB.out)⟩⟩
  case rest =>
   clear HC7
   try clear c1
   try clear p2
   try clear c3
   try clear c7
   try clear c10
   try clear c10b0
   try clear c10b1
   obtain ⟨kq,x43_6,rfl,HA,HJ6,HB⟩ := hcut
   cases kq with
   | zero => exact absurd HA.out (by simp [laws_FnBooks.j0])
   | succ kj6 =>
    have H := HA.out
    clear HA
    simp only [laws_FnBooks.j0] at H
    by_cases c11 : x43_6 = true
    ·subst c11
     have H1 : (some false) = some r := by rw [if_pos rfl] at H;exact H
     clear H
     have H := H1
     clear H1
     exact absurd ((Option.some.inj H).trans hr_) (by decide)
    ·replace c11 := Bool.eq_false_iff.mpr c11
     subst c11
     have H1 : (if t232 = true then ((impl_ToBook10.f kj6 t231).bind fun bt235 => (if bt235.2 = true then (if bt235.1.toList = t230.toList then (laws_FnBooks.j1 kj6 l0) else (some false)) else (some false))) else (laws_FnBooks.j1 kj6 l0)) = some r := by rw [if_neg (show ¬ (false = true) by decide)] at H;exact H
     clear H
     have H := H1
     clear H1
     have HC12 := Aside0.mk H
     clear H
     go_upto_if 44 with (fail)
     go_cut [] (fun wc => ∃ (kq : Nat),Aside0 (laws_FnBooks.j1 kq l0 = some r) ∧ Aside0 (kq ≤ kj6) ∧ Aside0 (Below w.heap.size w wc))
     case first =>
      have H := HC12.out
      clear HC12
      by_cases c13 : t232 = true
      ·subst c13
       have H1 : ((impl_ToBook10.f kj6 t231).bind fun bt235 => (if bt235.2 = true then (if bt235.1.toList = t230.toList then (laws_FnBooks.j1 kj6 l0) else (some false)) else (some false))) = some r := by rw [if_pos rfl] at H;exact H
       clear H
       have H := H1
       clear H1
       replace H := Option.bind_eq_some_iff.mp H
       obtain ⟨⟨t235,t236⟩,A140,H⟩ := H
       replace H : (if t236 = true then (if t235.toList = t230.toList then (laws_FnBooks.j1 kj6 l0) else (some false)) else (some false)) = some r := H
       have A14 := Aside0.mk A140
       clear A140
       by_cases c15 : t236 = true
       ·subst c15
        have H1 : (if t235.toList = t230.toList then (laws_FnBooks.j1 kj6 l0) else (some false)) = some r := by rw [if_pos rfl] at H;exact H
        clear H
        have H := H1
        clear H1
        by_cases c16 : t235.toList = t230.toList
        ·rw [if_pos c16] at H
         have c16b0 : (t235.toList == t230.toList) = true := beq_iff_eq.mpr c16
         have c16b1 : (t235.toList != t230.toList) = false := bne_eq_false_iff_eq.mpr c16
         clear c16
         (first|rw [c16b0]|(simp only [i64_w,i32_w];rw [c16b0])|skip)
         have H' := Aside0.mk H
         clear H
         go_wp2_with (first|((with_reducible refine gate_callee (f := 10) rfl ?_);refine goesL_ (some 47) rfl rfl Tryd.func10 (by kernel_rfl) rfl #[.string t231] rfl (by (try simp only [List.map_toArray,List.map_cons,List.map_nil]);first|done|rfl|(simp only [List.length_drop,List.length_take];rfl)) ?_;(with_reducible refine (impl_ToBook10.calls kj6 t231 t235 true _ ?side1 A14.out).mono ?_);(case side1 => exact Gw.below HG.out (by repeat (first|(with_reducible first|exact HB.out|apply lA|apply lN|apply lD)|exact HB.out)));rintro e w17 ⟨rfl,hb⟩;refine ⟨_,rfl,?_⟩;have n0_ := Aside0.mk (below_step (by repeat (first|(with_reducible first|exact HB.out|apply lA|apply lN|apply lD)|exact HB.out)) hb);clear HB;have HB := n0_;clear n0_;(try clear hb);(try clear hb2);(try clear hk);(try clear hi)))
         go_meet
         case rel => exact ⟨_,H',⟨by have := HJ6.out;first|omega|exact Nat.le_refl _⟩,⟨by repeat (first|(with_reducible first|exact HB.out|apply lA|apply lN|apply lD)|exact HB.out)⟩⟩
        ·rw [if_neg c16] at H
         have c16b0 : (t235.toList == t230.toList) = false := beq_eq_false_iff_ne.mpr c16
         have c16b1 : (t235.toList != t230.toList) = true := bne_iff_ne.mpr c16
         (first|rw [c16b0]|(simp only [i64_w,i32_w];rw [c16b0])|skip)
         exact absurd ((Option.some.inj H).trans hr_) (by decide)
       ·replace c15 := Bool.eq_false_iff.mpr c15
        subst c15
        have H1 : (some false) = some r := by rw [if_neg (show ¬ (false = true) by decide)] at H;exact H
        clear H
        have H := H1
        clear H1
        exact absurd ((Option.some.inj H).trans hr_) (by decide)
      ·replace c13 := Bool.eq_false_iff.mpr c13
       subst c13
       have H1 : (laws_FnBooks.j1 kj6 l0) = some r := by rw [if_neg (show ¬ (false = true) by decide)] at H;exact H
       clear H
       have H := H1
       clear H1
       have H' := Aside0.mk H
       clear H
       go_wp2
       go_meet
       case rel => exact ⟨_,H',⟨by have := HJ6.out;first|omega|exact Nat.le_refl _⟩,⟨by repeat (first|(with_reducible first|exact HB.out|apply lA|apply lN|apply lD)|exact HB.out)⟩⟩
     case rest =>
      clear HC12
      try clear c1
      try clear p2
      try clear c3
      try clear c7
      try clear c10
      try clear c10b0
      try clear c10b1
      try clear c11
      try clear c12
      try clear c13
      try clear c15
      try clear c16
      try clear c16b0
      try clear c16b1
      try clear c17
      try clear p2
      obtain ⟨kq,HA,HJ11,HB⟩ := hcut
      cases kq with
      | zero => exact absurd HA.out (by simp [laws_FnBooks.j1])
      | succ kj11 =>
       have H := HA.out
       clear HA
       simp only [laws_FnBooks.j1] at H
       replace H := Option.bind_eq_some_iff.mp H
       obtain ⟨t237,A180,H⟩ := H
       replace H : ((impl_ToBook10.f kj11 t237).bind fun bt238 => ((spec_ToBook10.f kj11 t237).bind fun bt240 => (if bt238.1.toList = bt240.1.toList then (laws_FnBooks.j2 kj11 l0 t237 bt238.1 bt238.2 (bt238.2 != bt240.2)) else (laws_FnBooks.j2 kj11 l0 t237 bt238.1 bt238.2 true)))) = some r := H
       have A18 := Aside0.mk A180
       clear A180
       replace H := Option.bind_eq_some_iff.mp H
       obtain ⟨⟨t238,t239⟩,A190,H⟩ := H
       replace H : ((spec_ToBook10.f kj11 t237).bind fun bt240 => (if t238.toList = bt240.1.toList then (laws_FnBooks.j2 kj11 l0 t237 t238 t239 (t239 != bt240.2)) else (laws_FnBooks.j2 kj11 l0 t237 t238 t239 true))) = some r := H
       have A19 := Aside0.mk A190
       clear A190
       replace H := Option.bind_eq_some_iff.mp H
       obtain ⟨⟨t240,t241⟩,A200,H⟩ := H
       replace H : (if t238.toList = t240.toList then (laws_FnBooks.j2 kj11 l0 t237 t238 t239 (t239 != t241)) else (laws_FnBooks.j2 kj11 l0 t237 t238 t239 true)) = some r := H
       have A20 := Aside0.mk A200
       clear A200
       have HC21 := Aside0.mk H
       clear H
       go_upto_region 15 with (first|((with_reducible refine gate_callee (f := 19) rfl ?_);refine goesL_ (some 58) rfl rfl Tryd.func19 (by kernel_rfl) rfl #[.slice A0 l0.length c0] rfl (by (try simp only [List.map_toArray,List.map_cons,List.map_nil]);first|done|rfl|(simp only [List.length_drop,List.length_take];rfl)) ?_;(with_reducible refine (spec_DrawToBook10.calls kj11 _ _ l0 t237 _ ?side1 ?side2 A18.out).mono ?_);(case side1 => repeat (first|exact (Kd.C_below HR0.out HB.out)|(with_reducible refine Kd.C_alloc ?_ _)|(with_reducible refine Kd.C_drewN ?_ _)|(with_reducible refine Kd.C_drew ?_)));(case side2 => exact HC0.out);rintro e w22 ⟨rfl,hb⟩;refine ⟨_,rfl,?_⟩;have n0_ := Aside0.mk (below_step (by repeat (first|(with_reducible first|exact HB.out|apply lA|apply lN|apply lD)|exact HB.out)) hb);clear HB;have HB := n0_;clear n0_;(try clear hb);(try clear hb2);(try clear hk);(try clear hi))|((with_reducible refine gate_callee (f := 10) rfl ?_);refine goesL_ (some 61) rfl rfl Tryd.func10 (by kernel_rfl) rfl #[.string t237] rfl (by (try simp only [List.map_toArray,List.map_cons,List.map_nil]);first|done|rfl|(simp only [List.length_drop,List.length_take];rfl)) ?_;(with_reducible refine (impl_ToBook10.calls kj11 t237 t238 t239 _ ?side1 A19.out).mono ?_);(case side1 => exact Gw.below HG.out (by repeat (first|(with_reducible first|exact HB.out|apply lA|apply lN|apply lD)|exact HB.out)));rintro e w23 ⟨rfl,hb⟩;refine ⟨_,rfl,?_⟩;have n0_ := Aside0.mk (below_step (by repeat (first|(with_reducible first|exact HB.out|apply lA|apply lN|apply lD)|exact HB.out)) hb);clear HB;have HB := n0_;clear n0_;(try clear hb);(try clear hb2);(try clear hk);(try clear hi))|((with_reducible refine gate_callee (f := 9) rfl ?_);refine goesL_ (some 66) rfl rfl Tryd.func9 (by kernel_rfl) rfl #[.string t237] rfl (by (try simp only [List.map_toArray,List.map_cons,List.map_nil]);first|done|rfl|(simp only [List.length_drop,List.length_take];rfl)) ?_;(with_reducible refine (spec_ToBook10.calls kj11 t237 t240 t241 _ A20.out).mono ?_);rintro e w' ⟨rfl,⟨nd,rfl⟩⟩;refine ⟨_,rfl,?_⟩))
       (try simp only [Act.put,List.setIfInBounds_toArray,List.set_cons_zero,List.set_cons_succ])
       go_cut [76] (fun v76 wc => ∃ (kq : Nat) (x76_20 : Bool),v76 = .bool x76_20 ∧ Aside0 (laws_FnBooks.j2 kq l0 t237 t238 t239 x76_20 = some r) ∧ Aside0 (kq ≤ kj11) ∧ Aside0 (Below w.heap.size w wc))
       case first =>
        have H := HC21.out
        clear HC21
        by_cases c24 : t238.toList = t240.toList
        ·rw [if_pos c24] at H
         have c24b0 : (t238.toList == t240.toList) = true := beq_iff_eq.mpr c24
         have c24b1 : (t238.toList != t240.toList) = false := bne_eq_false_iff_eq.mpr c24
         clear c24
         (first|rw [c24b0]|(simp only [i64_w,i32_w];rw [c24b0])|skip)
         have H' := Aside0.mk H
         clear H
         go_wp2
         go_meet
         case rel => exact ⟨_,((t239 != t241)),(by first|rfl|(simp;done)|(simp [my_isEmpty];done)|(simp [*];done)),H',⟨by have := HJ6.out;have := HJ11.out;first|omega|exact Nat.le_refl _⟩,⟨by repeat (first|(with_reducible first|exact HB.out|apply lA|apply lN|apply lD)|exact HB.out)⟩⟩
        ·rw [if_neg c24] at H
         have c24b0 : (t238.toList == t240.toList) = false := beq_eq_false_iff_ne.mpr c24
         have c24b1 : (t238.toList != t240.toList) = true := bne_iff_ne.mpr c24
         (first|rw [c24b0]|(simp only [i64_w,i32_w];rw [c24b0])|skip)
         have H' := Aside0.mk H
         clear H
         go_wp2
         go_meet
         case rel => exact ⟨_,(true),(by first|rfl|(simp;done)|(simp [my_isEmpty];done)|(simp [*];done)),H',⟨by have := HJ6.out;have := HJ11.out;first|omega|exact Nat.le_refl _⟩,⟨by repeat (first|(with_reducible first|exact HB.out|apply lA|apply lN|apply lD)|exact HB.out)⟩⟩
       case rest =>
        clear HC21
        try clear c1
        try clear c2
        try clear p2
        try clear c3
        try clear c7
        try clear c9
        try clear c10
        try clear c10b0
        try clear c10b1
        try clear c11
        try clear c12
        try clear c13
        try clear c15
        try clear c16
        try clear c16b0
        try clear c16b1
        try clear c17
        try clear c18
        try clear c19
        try clear c24
        try clear c24b0
        try clear c24b1
        try clear p2
        obtain ⟨kq,x76_20,rfl,HA,HJ20,HB⟩ := hcut
        cases kq with
        | zero => exact absurd HA.out (by simp [laws_FnBooks.j2])
        | succ kj20 =>
         have H := HA.out
         clear HA
         simp only [laws_FnBooks.j2] at H
         by_cases c25 : x76_20 = true
         ·subst c25
          have H1 : (some false) = some r := by rw [if_pos rfl] at H;exact H
          clear H
          have H := H1
          clear H1
          exact absurd ((Option.some.inj H).trans hr_) (by decide)
         ·replace c25 := Bool.eq_false_iff.mpr c25
          subst c25
          have H1 : (if t239 = true then ((impl_ToBook13.f kj20 t238).bind fun bt242 => (if bt242.2 = true then (laws_FnBooks.j3 kj20 l0 (bt242.1.toList != t237.toList)) else (laws_FnBooks.j3 kj20 l0 true))) else ((spec_DrawCheckIdentifier.f kj20 l0).bind fun t249 => ((impl_CheckIdentifier.f kj20 t249).bind fun bt250 => ((spec_CheckIdentifier.f kj20 t249).bind fun bt252 => (if bt250.1 = bt252.1 then (some (bt250.2 == bt252.2)) else (some false)))))) = some r := by rw [if_neg (show ¬ (false = true) by decide)] at H;exact H
          clear H
          have H := H1
          clear H1
          by_cases c26 : t239 = true
          ·subst c26
           have H1 : ((impl_ToBook13.f kj20 t238).bind fun bt242 => (if bt242.2 = true then (laws_FnBooks.j3 kj20 l0 (bt242.1.toList != t237.toList)) else (laws_FnBooks.j3 kj20 l0 true))) = some r := by rw [if_pos rfl] at H;exact H
           clear H
           have H := H1
           clear H1
           replace H := Option.bind_eq_some_iff.mp H
           obtain ⟨⟨t242,t243⟩,A270,H⟩ := H
           replace H : (if t243 = true then (laws_FnBooks.j3 kj20 l0 (t242.toList != t237.toList)) else (laws_FnBooks.j3 kj20 l0 true)) = some r := H
           have A27 := Aside0.mk A270
           clear A270
           have HC28 := Aside0.mk H
           clear H
           go_upto_region 19 with (first|((with_reducible refine gate_callee (f := 12) rfl ?_);refine goesL_ (some 80) rfl rfl Tryd.func12 (by kernel_rfl) rfl #[.string t238] rfl (by (try simp only [List.map_toArray,List.map_cons,List.map_nil]);first|done|rfl|(simp only [List.length_drop,List.length_take];rfl)) ?_;(with_reducible refine (impl_ToBook13.calls kj20 t238 t242 t243 _ ?side1 A27.out).mono ?_);(case side1 => exact Gw.below HG.out (by repeat (first|(with_reducible first|exact HB.out|apply lA|apply lN|apply lD)|exact HB.out)));rintro e w29 ⟨rfl,hb⟩;refine ⟨_,rfl,?_⟩;have n0_ := Aside0.mk (below_step (by repeat (first|(with_reducible first|exact HB.out|apply lA|apply lN|apply lD)|exact HB.out)) hb);clear HB;have HB := n0_;clear n0_;(try clear hb);(try clear hb2);(try clear hk);(try clear hi)))
           (try simp only [Act.put,List.setIfInBounds_toArray,List.set_cons_zero,List.set_cons_succ])
           go_cut [89] (fun v89 wc => ∃ (kq : Nat) (x89_27 : Bool),v89 = .bool x89_27 ∧ Aside0 (laws_FnBooks.j3 kq l0 x89_27 = some r) ∧ Aside0 (kq ≤ kj20) ∧ Aside0 (Below w.heap.size w wc))
           case first =>
            have H := HC28.out
            clear HC28
            by_cases c30 : t243 = true
            ·subst c30
             have H1 : (laws_FnBooks.j3 kj20 l0 (t242.toList != t237.toList)) = some r := by rw [if_pos rfl] at H;exact H
             clear H
             have H := H1
             clear H1
             have H' := Aside0.mk H
             clear H
             go_wp2
             go_meet
             case rel => exact ⟨_,((t242.toList != t237.toList)),(by first|rfl|(simp;done)|(simp [my_isEmpty];done)|(simp [*];done)),H',⟨by have := HJ6.out;have := HJ11.out;have := HJ20.out;first|omega|exact Nat.le_refl _⟩,⟨by repeat (first|(with_reducible first|exact HB.out|apply lA|apply lN|apply lD)|exact HB.out)⟩⟩
            ·replace c30 := Bool.eq_false_iff.mpr c30
             subst c30
             have H1 : (laws_FnBooks.j3 kj20 l0 true) = some r := by rw [if_neg (show ¬ (false = true) by decide)] at H;exact H
             clear H
             have H := H1
             clear H1
             have H' := Aside0.mk H
             clear H
             go_wp2
             go_meet
             case rel => exact ⟨_,(true),(by first|rfl|(simp;done)|(simp [my_isEmpty];done)|(simp [*];done)),H',⟨by have := HJ6.out;have := HJ11.out;have := HJ20.out;first|omega|exact Nat.le_refl _⟩,⟨by repeat (first|(with_reducible first|exact HB.out|apply lA|apply lN|apply lD)|exact HB.out)⟩⟩
           case rest =>
            clear HC28
            try clear c1
            try clear c2
            try clear p2
            try clear c3
            try clear c7
            try clear c9
            try clear c10
            try clear c10b0
            try clear c10b1
            try clear c11
            try clear c12
            try clear c13
            try clear c15
            try clear c16
            try clear c16b0
            try clear c16b1
            try clear c17
            try clear c18
            try clear c19
            try clear c24
            try clear c24b0
            try clear c24b1
            try clear c25
            try clear c26
            try clear c30
            try clear p2
            obtain ⟨kq,x89_27,rfl,HA,HJ27,HB⟩ := hcut
            cases kq with
            | zero => exact absurd HA.out (by simp [laws_FnBooks.j3])
            | succ kj27 =>
             have H := HA.out
             clear HA
             simp only [laws_FnBooks.j3] at H
             by_cases c31 : x89_27 = true
             ·subst c31
              have H1 : (some false) = some r := by rw [if_pos rfl] at H;exact H
              clear H
              have H := H1
              clear H1
              exact absurd ((Option.some.inj H).trans hr_) (by decide)
             ·replace c31 := Bool.eq_false_iff.mpr c31
              subst c31
              have H1 : ((spec_DrawCheckIdentifier.f kj27 l0).bind fun t244 => ((impl_CheckIdentifier.f kj27 t244).bind fun bt245 => ((spec_CheckIdentifier.f kj27 t244).bind fun bt247 => (if bt245.1 = bt247.1 then (some (bt245.2 == bt247.2)) else (some false))))) = some r := by rw [if_neg (show ¬ (false = true) by decide)] at H;exact H
              clear H
              have H := H1
              clear H1
              replace H := Option.bind_eq_some_iff.mp H
              obtain ⟨t244,A320,H⟩ := H
              replace H : ((impl_CheckIdentifier.f kj27 t244).bind fun bt245 => ((spec_CheckIdentifier.f kj27 t244).bind fun bt247 => (if bt245.1 = bt247.1 then (some (bt245.2 == bt247.2)) else (some false)))) = some r := H
              have A32 := Aside0.mk A320
              clear A320
              replace H := Option.bind_eq_some_iff.mp H
              obtain ⟨⟨t245,t246⟩,A330,H⟩ := H
              replace H : ((spec_CheckIdentifier.f kj27 t244).bind fun bt247 => (if t245 = bt247.1 then (some (t246 == bt247.2)) else (some false))) = some r := H
              have A33 := Aside0.mk A330
              clear A330
              replace H := Option.bind_eq_some_iff.mp H
              obtain ⟨⟨t247,t248⟩,A340,H⟩ := H
              replace H : (if t245 = t247 then (some (t246 == t248)) else (some false)) = some r := H
              have A34 := Aside0.mk A340
              clear A340
              by_cases c35 : t245 = t247
              ·rw [if_pos c35] at H
               have c35b0 : (t245 == t247) = true := beq_iff_eq.mpr c35
               have c35b1 : (t245 != t247) = false := bne_eq_false_iff_eq.mpr c35
               clear c35
               obtain rfl := Option.some.inj H
               try clear hr_
               go_wp2_with (first|((with_reducible refine gate_callee (f := 20) rfl ?_);refine goesL_ (some 91) rfl rfl Tryd.func20 (by kernel_rfl) rfl #[.slice A0 l0.length c0] rfl (by (try simp only [List.map_toArray,List.map_cons,List.map_nil]);first|done|rfl|(simp only [List.length_drop,List.length_take];rfl)) ?_;(with_reducible refine (spec_DrawCheckIdentifier.calls kj27 _ _ l0 t244 _ ?side1 ?side2 A32.out).mono ?_);(case side1 => repeat (first|exact (Kd.C_below HR0.out HB.out)|(with_reducible refine Kd.C_alloc ?_ _)|(with_reducible refine Kd.C_drewN ?_ _)|(with_reducible refine Kd.C_drew ?_)));(case side2 => exact HC0.out);rintro e w36 ⟨rfl,hb⟩;refine ⟨_,rfl,?_⟩;have n0_ := Aside0.mk (below_step (by repeat (first|(with_reducible first|exact HB.out|apply lA|apply lN|apply lD)|exact HB.out)) hb);clear HB;have HB := n0_;clear n0_;(try clear hb);(try clear hb2);(try clear hk);(try clear hi))|((with_reducible refine gate_callee (f := 21) rfl ?_);refine goesL_ (some 94) rfl rfl Tryd.func21 (by kernel_rfl) rfl #[.string t244] rfl (by (try simp only [List.map_toArray,List.map_cons,List.map_nil]);first|done|rfl|(simp only [List.length_drop,List.length_take];rfl)) ?_;(with_reducible refine (impl_CheckIdentifier.calls kj27 t244 t245 t246 _ A33.out).mono ?_);rintro e w' ⟨rfl,⟨nd,rfl⟩⟩;refine ⟨_,rfl,?_⟩)|((with_reducible refine gate_callee (f := 22) rfl ?_);refine goesL_ (some 99) rfl rfl Tryd.func22 (by kernel_rfl) rfl #[.string t244] rfl (by (try simp only [List.map_toArray,List.map_cons,List.map_nil]);first|done|rfl|(simp only [List.length_drop,List.length_take];rfl)) ?_;(with_reducible refine (spec_CheckIdentifier.calls kj27 t244 t247 t248 _ A34.out).mono ?_);rintro e w' ⟨rfl,⟨nd,rfl⟩⟩;refine ⟨_,rfl,?_⟩))
               go_ret
               exact ⟨by first|rfl|(simp [errW_none,errW_some] <;> rfl)|(simp [*,errW_none,errW_some] <;> rfl),by repeat (first|(with_reducible first|exact HB.out|apply lA|apply lN|apply lD)|exact HB.out)⟩
              ·rw [if_neg c35] at H
               have c35b0 : (t245 == t247) = false := beq_eq_false_iff_ne.mpr c35
               have c35b1 : (t245 != t247) = true := bne_iff_ne.mpr c35
               exact absurd ((Option.some.inj H).trans hr_) (by decide)
          ·replace c26 := Bool.eq_false_iff.mpr c26
           subst c26
           have H1 : ((spec_DrawCheckIdentifier.f kj20 l0).bind fun t249 => ((impl_CheckIdentifier.f kj20 t249).bind fun bt250 => ((spec_CheckIdentifier.f kj20 t249).bind fun bt252 => (if bt250.1 = bt252.1 then (some (bt250.2 == bt252.2)) else (some false))))) = some r := by rw [if_neg (show ¬ (false = true) by decide)] at H;exact H
           clear H
           have H := H1
           clear H1
           replace H := Option.bind_eq_some_iff.mp H
           obtain ⟨t249,A370,H⟩ := H
           replace H : ((impl_CheckIdentifier.f kj20 t249).bind fun bt250 => ((spec_CheckIdentifier.f kj20 t249).bind fun bt252 => (if bt250.1 = bt252.1 then (some (bt250.2 == bt252.2)) else (some false)))) = some r := H
           have A37 := Aside0.mk A370
           clear A370
           replace H := Option.bind_eq_some_iff.mp H
           obtain ⟨⟨t250,t251⟩,A380,H⟩ := H
           replace H : ((spec_CheckIdentifier.f kj20 t249).bind fun bt252 => (if t250 = bt252.1 then (some (t251 == bt252.2)) else (some false))) = some r := H
           have A38 := Aside0.mk A380
           clear A380
           replace H := Option.bind_eq_some_iff.mp H
           obtain ⟨⟨t252,t253⟩,A390,H⟩ := H
           replace H : (if t250 = t252 then (some (t251 == t253)) else (some false)) = some r := H
           have A39 := Aside0.mk A390
           clear A390
           by_cases c40 : t250 = t252
           ·rw [if_pos c40] at H
            have c40b0 : (t250 == t252) = true := beq_iff_eq.mpr c40
            have c40b1 : (t250 != t252) = false := bne_eq_false_iff_eq.mpr c40
            clear c40
            obtain rfl := Option.some.inj H
            try clear hr_
            go_wp2_with (first|((with_reducible refine gate_callee (f := 20) rfl ?_);refine goesL_ (some 91) rfl rfl Tryd.func20 (by kernel_rfl) rfl #[.slice A0 l0.length c0] rfl (by (try simp only [List.map_toArray,List.map_cons,List.map_nil]);first|done|rfl|(simp only [List.length_drop,List.length_take];rfl)) ?_;(with_reducible refine (spec_DrawCheckIdentifier.calls kj20 _ _ l0 t249 _ ?side1 ?side2 A37.out).mono ?_);(case side1 => repeat (first|exact (Kd.C_below HR0.out HB.out)|(with_reducible refine Kd.C_alloc ?_ _)|(with_reducible refine Kd.C_drewN ?_ _)|(with_reducible refine Kd.C_drew ?_)));(case side2 => exact HC0.out);rintro e w41 ⟨rfl,hb⟩;refine ⟨_,rfl,?_⟩;have n0_ := Aside0.mk (below_step (by repeat (first|(with_reducible first|exact HB.out|apply lA|apply lN|apply lD)|exact HB.out)) hb);clear HB;have HB := n0_;clear n0_;(try clear hb);(try clear hb2);(try clear hk);(try clear hi))|((with_reducible refine gate_callee (f := 21) rfl ?_);refine goesL_ (some 94) rfl rfl Tryd.func21 (by kernel_rfl) rfl #[.string t249] rfl (by (try simp only [List.map_toArray,List.map_cons,List.map_nil]);first|done|rfl|(simp only [List.length_drop,List.length_take];rfl)) ?_;(with_reducible refine (impl_CheckIdentifier.calls kj20 t249 t250 t251 _ A38.out).mono ?_);rintro e w' ⟨rfl,⟨nd,rfl⟩⟩;refine ⟨_,rfl,?_⟩)|((with_reducible refine gate_callee (f := 22) rfl ?_);refine goesL_ (some 99) rfl rfl Tryd.func22 (by kernel_rfl) rfl #[.string t249] rfl (by (try simp only [List.map_toArray,List.map_cons,List.map_nil]);first|done|rfl|(simp only [List.length_drop,List.length_take];rfl)) ?_;(with_reducible refine (spec_CheckIdentifier.calls kj20 t249 t252 t253 _ A39.out).mono ?_);rintro e w' ⟨rfl,⟨nd,rfl⟩⟩;refine ⟨_,rfl,?_⟩))
            go_ret
            exact ⟨by first|rfl|(simp [errW_none,errW_some] <;> rfl)|(simp [*,errW_none,errW_some] <;> rfl),by repeat (first|(with_reducible first|exact HB.out|apply lA|apply lN|apply lD)|exact HB.out)⟩
           ·rw [if_neg c40] at H
            have c40b0 : (t250 == t252) = false := beq_eq_false_iff_ne.mpr c40
            have c40b1 : (t250 != t252) = true := bne_iff_ne.mpr c40
            exact absurd ((Option.some.inj H).trans hr_) (by decide)
def laws_FnBooks.Pure : Prop := ∀ (l0 : List Int),(l0.length * 1 ≤ 140737488351232 ∧ l0.length ≤ maxLen ∧ ∀ a_ ∈ l0,(Lit.int .u8 a_).wf = true) → ∃ k,laws_FnBooks.f k l0 = some true
def spec_CompleteIdentifier.l0 : Nat → Int → ByteArray → Int → Option (ByteArray × Bool)
 | 0,_,_,_ => none
 | k + 1,x0,x1,x6 => if x6 < (x1.size : Int) then (if 0 ≤ x6 then ((spec_l6Digit.f (bt x1 x6)).bind fun t254 => (if t254 = true then (spec_CompleteIdentifier.l0 k x0 x1 (wrap64 (x6 + 1))) else (some ((⟨#[]⟩ : ByteArray),false)))) else (none)) else ((spec_l24Complete.f k x0 x1).bind fun t255 => (some (t255,(t255.toList != ([] : List UInt8)))))
def spec_CompleteIdentifier.f (k : Nat) (a0 : Int) (a1 : ByteArray) : Option (ByteArray × Bool) := spec_CompleteIdentifier.l0 k a0 a1 0
theorem spec_CompleteIdentifier.mono_l : ∀ k,(∀ y0 y1 y2,LeO (spec_CompleteIdentifier.l0 k y0 y1 y2) (spec_CompleteIdentifier.l0 (k + 1) y0 y1 y2))
 | 0 => fun _ _ _ r h => by simp [spec_CompleteIdentifier.l0] at h
 | k + 1 => by
  have ih0 := spec_CompleteIdentifier.mono_l k
  ·intro y0 y1 y2
   unfold spec_CompleteIdentifier.l0
   repeat' first
   | (with_reducible exact ih0 _ _ _)
   | (with_reducible exact spec_l24Complete.mono _ _ _)
   | (with_reducible exact LeO.refl _)
   | (with_reducible exact LeO.none _)
   | (with_reducible refine LeO.ite ?_ ?_)
   | (with_reducible refine LeO.bind ?_ (fun _ => ?_))
   | exact ih0 _ _ _
   | exact spec_l24Complete.mono _ _ _
   | exact LeO.none _
   | refine LeO.ite ?_ ?_
   | refine LeO.bind ?_ (fun _ => ?_)
theorem spec_CompleteIdentifier.mono : ∀ a0 a1 k,LeO (spec_CompleteIdentifier.f k a0 a1) (spec_CompleteIdentifier.f (k + 1) a0 a1) := by
 intro a0 a1 k
 have ih0 := spec_CompleteIdentifier.mono_l k
 unfold spec_CompleteIdentifier.f
 repeat' first
   | (with_reducible exact ih0 _ _ _)
   | (with_reducible exact spec_l24Complete.mono _ _ _)
   | (with_reducible exact LeO.refl _)
   | (with_reducible exact LeO.none _)
   | (with_reducible refine LeO.ite ?_ ?_)
   | (with_reducible refine LeO.bind ?_ (fun _ => ?_))
   | exact ih0 _ _ _
   | exact spec_l24Complete.mono _ _ _
   | exact LeO.none _
   | refine LeO.ite ?_ ?_
   | refine LeO.bind ?_ (fun _ => ?_)
set_option maxHeartbeats 8000000 in
set_option maxRecDepth 100000 in
theorem spec_CompleteIdentifier.calls (k : Nat) (a0 : Int) (a1 : ByteArray) (r1 : ByteArray) (r2 : Bool) (w : World) (h : spec_CompleteIdentifier.f k a0 a1 = some (r1,r2)) :
  Calls Tryd.prog 13 #[.int .i64 a0,.string a1] w fun e w' => e = .returned (.tuple #[.string r1,.bool r2]) ∧ Drawn0 w w' := by
 have H : (spec_CompleteIdentifier.l0 k a0 a1 0) = some (r1,r2) := h
 clear h
 have H' := Aside0.mk H
 clear H
 go_enter Tryd.func13,Tryd.ntmps13
 go_wp2
 go_loopg [6] k (fun kq v6 w' => ∃ (x6_1 : Int),v6 = .int .i64 x6_1 ∧ Aside0 (spec_CompleteIdentifier.l0 kq a0 a1 x6_1 = some (r1,r2)) ∧ Aside0 (kq ≤ k) ∧ Drawn0 w w')
 case atStart => exact ⟨(0),(by first|rfl|(simp;done)|(simp [my_isEmpty];done)|(simp [*];done)),H',⟨Nat.le_refl _⟩,by repeat (first|exact Drawn0.refl _|apply Drawn0.step)⟩
 case round =>
  clear H'
  try clear c1
  try clear p2
  obtain ⟨x6_1,rfl,HA,HK1,⟨m1,rfl⟩⟩ := hrel
  cases gk with
  | zero => exact absurd HA.out (by simp [spec_CompleteIdentifier.l0])
  | succ k1 =>
   have H := HA.out
   clear HA
   simp only [spec_CompleteIdentifier.l0] at H
   by_cases c3 : x6_1 < (a1.size : Int)
   ·rw [if_pos c3] at H
    have c3b0 : decide (x6_1 < (a1.size : Int)) = true := decide_eq_true c3
    clear c3
    by_cases c4 : 0 ≤ x6_1
    ·rw [if_pos c4] at H
     have c4b0 : decide (0 ≤ x6_1) = true := decide_eq_true c4
     clear c4
     replace H := Option.bind_eq_some_iff.mp H
     obtain ⟨t254,A60,H⟩ := H
     replace H : (if t254 = true then (spec_CompleteIdentifier.l0 k1 a0 a1 (wrap64 (x6_1 + 1))) else (some ((⟨#[]⟩ : ByteArray),false))) = some (r1,r2) := H
     have A6 := Aside0.mk A60
     clear A60
     by_cases c7 : t254 = true
     ·subst c7
      have H1 : (spec_CompleteIdentifier.l0 k1 a0 a1 (wrap64 (x6_1 + 1))) = some (r1,r2) := by rw [if_pos rfl] at H;exact H
      clear H
      have H := H1
      clear H1
      have H' := Aside0.mk H
      clear H
      have p5 : 0 ≤ (x6_1 : Int) := of_decide_eq_true (by first|(with_reducible assumption)|assumption)
      have q5 : x6_1 < (a1.size : Int) := of_decide_eq_true (by first|(with_reducible assumption)|assumption)
      have hx5 := bt_at a1 x6_1
      replace p5 := eq_true p5
      replace q5 := eq_true q5
      go_wp2_with (first|((with_reducible refine gate_callee (f := 38) rfl ?_);refine goesL_ (some 17) rfl rfl Tryd.func38 (by kernel_rfl) rfl #[.int .u8 (bt a1 x6_1)] rfl (by (try simp only [List.map_toArray,List.map_cons,List.map_nil]);first|done|rfl|(simp only [List.length_drop,List.length_take];rfl)) ?_;(with_reducible refine (spec_l6Digit.calls (bt a1 x6_1) true _ A6.out).mono ?_);rintro e w' ⟨rfl,⟨nd,rfl⟩⟩;refine ⟨_,rfl,?_⟩))
      go_roundg k1
      case measure => have := HK1.out;omega
      case rel => exact ⟨(wrap64 (x6_1 + 1)),(by first|rfl|(simp;done)|(simp [my_isEmpty];done)|(simp [*];done)),H',⟨by have := HK1.out;omega⟩,by repeat (first|exact Drawn0.refl _|apply Drawn0.step)⟩
     ·replace c7 := Bool.eq_false_iff.mpr c7
      subst c7
      have H1 : (some ((⟨#[]⟩ : ByteArray),false)) = some (r1,r2) := by rw [if_neg (show ¬ (false = true) by decide)] at H;exact H
      clear H
      have H := H1
      clear H1
      simp only [Option.some.injEq,Prod.mk.injEq] at H
      obtain ⟨rfl,rfl⟩ := H
      have p5 : 0 ≤ (x6_1 : Int) := of_decide_eq_true (by first|(with_reducible assumption)|assumption)
      have q5 : x6_1 < (a1.size : Int) := of_decide_eq_true (by first|(with_reducible assumption)|assumption)
      have hx5 := bt_at a1 x6_1
      replace p5 := eq_true p5
      replace q5 := eq_true q5
      go_wp2_with (first|((with_reducible refine gate_callee (f := 38) rfl ?_);refine goesL_ (some 17) rfl rfl Tryd.func38 (by kernel_rfl) rfl #[.int .u8 (bt a1 x6_1)] rfl (by (try simp only [List.map_toArray,List.map_cons,List.map_nil]);first|done|rfl|(simp only [List.length_drop,List.length_take];rfl)) ?_;(with_reducible refine (spec_l6Digit.calls (bt a1 x6_1) false _ A6.out).mono ?_);rintro e w' ⟨rfl,⟨nd,rfl⟩⟩;refine ⟨_,rfl,?_⟩))
      go_ret2
      exact ⟨by first|rfl|(simp;done)|(simp [my_isEmpty];done)|(simp [*];done),by repeat (first|exact Drawn0.refl _|apply Drawn0.step)⟩
    ·rw [if_neg c4] at H
     exact absurd H (by simp)
   ·rw [if_neg c3] at H
    have c3b0 : decide (x6_1 < (a1.size : Int)) = false := decide_eq_false c3
    clear c3
    replace H := Option.bind_eq_some_iff.mp H
    obtain ⟨t255,A80,H⟩ := H
    replace H : (some (t255,(t255.toList != ([] : List UInt8)))) = some (r1,r2) := H
    have A8 := Aside0.mk A80
    clear A80
    simp only [Option.some.injEq,Prod.mk.injEq] at H
    obtain ⟨rfl,rfl⟩ := H
    go_wp2_with (first|((with_reducible refine gate_callee (f := 34) rfl ?_);refine goesL_ (some 21) rfl rfl Tryd.func34 (by kernel_rfl) rfl #[.int .i64 a0,.string a1] rfl (by (try simp only [List.map_toArray,List.map_cons,List.map_nil]);first|done|rfl|(simp only [List.length_drop,List.length_take];rfl)) ?_;(with_reducible refine (spec_l24Complete.calls k1 a0 a1 t255 _ A8.out).mono ?_);rintro e w' ⟨rfl,⟨nd,rfl⟩⟩;refine ⟨_,rfl,?_⟩))
    go_ret2
    exact ⟨by first|rfl|(simp;done)|(simp [my_isEmpty];done)|(simp [*];done),by repeat (first|exact Drawn0.refl _|apply Drawn0.step)⟩
def impl_inside.f (a0 : Int) (a1 : Int) (a2 : Int) : Option (Bool) := if a0 ≥ a1 then (some (decide (a0 ≤ a2))) else (some false)
set_option maxHeartbeats 8000000 in
set_option maxRecDepth 100000 in
theorem impl_inside.calls (a0 : Int) (a1 : Int) (a2 : Int) (r : Bool) (w : World) (h : impl_inside.f a0 a1 a2 = some r) :
  Calls Tryd.prog 54 #[.int .i64 a0,.int .i64 a1,.int .i64 a2] w fun e w' => e = .returned (.bool r) ∧ Drawn0 w w' := by
 have H : (if a0 ≥ a1 then (some (decide (a0 ≤ a2))) else (some false)) = some r := h
 clear h
 by_cases c4 : a0 ≥ a1
 ·rw [if_pos c4] at H
  have c4b0 : decide (a1 ≤ a0) = true := decide_eq_true c4
  clear c4
  obtain rfl := Option.some.inj H
  simp only [Option.some.injEq,Prod.mk.injEq] at H
  obtain ⟨rfl⟩ := H
  go_enter Tryd.func54,Tryd.ntmps54
  go_wp2
  go_ret
  exact ⟨by first|rfl|(simp;done)|(simp [my_isEmpty];done)|(simp [*];done),by repeat (first|exact Drawn0.refl _|apply Drawn0.step)⟩
 ·rw [if_neg c4] at H
  have c4b0 : decide (a1 ≤ a0) = false := decide_eq_false c4
  clear c4
  obtain rfl := Option.some.inj H
  simp only [Option.some.injEq,Prod.mk.injEq] at H
  obtain ⟨rfl⟩ := H
  go_enter Tryd.func54,Tryd.ntmps54
  go_wp2
  go_ret
  exact ⟨by first|rfl|(simp;done)|(simp [my_isEmpty];done)|(simp [*];done),by repeat (first|exact Drawn0.refl _|apply Drawn0.step)⟩
def impl_isIdKind.f (a0 : Int) : Option (Bool) := (impl_inside.f a0 1 4).bind fun t256 => (some t256)
set_option maxHeartbeats 8000000 in
set_option maxRecDepth 100000 in
theorem impl_isIdKind.calls (a0 : Int) (r : Bool) (w : World) (h : impl_isIdKind.f a0 = some r) :
  Calls Tryd.prog 39 #[.int .i64 a0] w fun e w' => e = .returned (.bool r) ∧ Drawn0 w w' := by
 have H : ((impl_inside.f a0 1 4).bind fun t256 => (some t256)) = some r := h
 clear h
 replace H := Option.bind_eq_some_iff.mp H
 obtain ⟨t256,A20,H⟩ := H
 replace H : (some t256) = some r := H
 have A2 := Aside0.mk A20
 clear A20
 obtain rfl := Option.some.inj H
 simp only [Option.some.injEq,Prod.mk.injEq] at H
 obtain ⟨rfl⟩ := H
 go_enter Tryd.func39,Tryd.ntmps39
 go_wp2_with (first|((with_reducible refine gate_callee (f := 54) rfl ?_);refine goesL_ (some 4) rfl rfl Tryd.func54 (by kernel_rfl) rfl #[.int .i64 a0,.int .i64 1,.int .i64 4] rfl (by (try simp only [List.map_toArray,List.map_cons,List.map_nil]);first|done|rfl|(simp only [List.length_drop,List.length_take];rfl)) ?_;(with_reducible refine (impl_inside.calls a0 1 4 t256 _ A2.out).mono ?_);rintro e w' ⟨rfl,⟨nd,rfl⟩⟩;refine ⟨_,rfl,?_⟩))
 go_ret
 exact ⟨by first|rfl|(simp;done)|(simp [my_isEmpty];done)|(simp [*];done),by repeat (first|exact Drawn0.refl _|apply Drawn0.step)⟩
def impl_CompleteIdentifier.f (k : Nat) (a0 : Int) (a1 : ByteArray) : Option (ByteArray × Bool) := (impl_isIdKind.f a0).bind fun t257 => (if t257 = true then ((impl_idLength.f a0).bind fun t258 => (if (a1.size : Int) = (wrap64 (t258 - 1)) then ((impl_completeIdentifier.f k a0 a1).bind fun bt259 => (some (bt259.1,bt259.2))) else (some ((⟨#[]⟩ : ByteArray),false)))) else (some ((⟨#[]⟩ : ByteArray),false)))
theorem impl_CompleteIdentifier.mono : ∀ a0 a1 k,LeO (impl_CompleteIdentifier.f k a0 a1) (impl_CompleteIdentifier.f (k + 1) a0 a1) := by
 intro a0 a1 k
 unfold impl_CompleteIdentifier.f
 repeat' first
   | (with_reducible exact impl_completeIdentifier.mono _ _ _)
   | (with_reducible exact LeO.refl _)
   | (with_reducible exact LeO.none _)
   | (with_reducible refine LeO.ite ?_ ?_)
   | (with_reducible refine LeO.bind ?_ (fun _ => ?_))
   | exact impl_completeIdentifier.mono _ _ _
   | exact LeO.none _
   | refine LeO.ite ?_ ?_
   | refine LeO.bind ?_ (fun _ => ?_)
set_option maxHeartbeats 8000000 in
set_option maxRecDepth 100000 in
theorem impl_CompleteIdentifier.calls (k : Nat) (a0 : Int) (a1 : ByteArray) (r1 : ByteArray) (r2 : Bool) (w : World) (hG : Gw w) (h : impl_CompleteIdentifier.f k a0 a1 = some (r1,r2)) :
  Calls Tryd.prog 14 #[.int .i64 a0,.string a1] w fun e w' => e = .returned (.tuple #[.string r1,.bool r2]) ∧ Below w.heap.size w w' := by
 have HB := Aside0.mk (Below.refl w.heap.size w)
 have HG := Aside0.mk hG
 clear hG
 have H : ((impl_isIdKind.f a0).bind fun t257 => (if t257 = true then ((impl_idLength.f a0).bind fun t258 => (if (a1.size : Int) = (wrap64 (t258 - 1)) then ((impl_completeIdentifier.f k a0 a1).bind fun bt259 => (some (bt259.1,bt259.2))) else (some ((⟨#[]⟩ : ByteArray),false)))) else (some ((⟨#[]⟩ : ByteArray),false)))) = some (r1,r2) := h
 clear h
 replace H := Option.bind_eq_some_iff.mp H
 obtain ⟨t257,A30,H⟩ := H
 replace H : (if t257 = true then ((impl_idLength.f a0).bind fun t258 => (if (a1.size : Int) = (wrap64 (t258 - 1)) then ((impl_completeIdentifier.f k a0 a1).bind fun bt259 => (some (bt259.1,bt259.2))) else (some ((⟨#[]⟩ : ByteArray),false)))) else (some ((⟨#[]⟩ : ByteArray),false))) = some (r1,r2) := H
 have A3 := Aside0.mk A30
 clear A30
 by_cases c4 : t257 = true
 ·subst c4
  have H1 : ((impl_idLength.f a0).bind fun t258 => (if (a1.size : Int) = (wrap64 (t258 - 1)) then ((impl_completeIdentifier.f k a0 a1).bind fun bt259 => (some (bt259.1,bt259.2))) else (some ((⟨#[]⟩ : ByteArray),false)))) = some (r1,r2) := by rw [if_pos rfl] at H;exact H
  clear H
  have H := H1
  clear H1
  replace H := Option.bind_eq_some_iff.mp H
  obtain ⟨t258,A50,H⟩ := H
  replace H : (if (a1.size : Int) = (wrap64 (t258 - 1)) then ((impl_completeIdentifier.f k a0 a1).bind fun bt259 => (some (bt259.1,bt259.2))) else (some ((⟨#[]⟩ : ByteArray),false))) = some (r1,r2) := H
  have A5 := Aside0.mk A50
  clear A50
  by_cases c6 : (a1.size : Int) = (wrap64 (t258 - 1))
  ·rw [if_pos c6] at H
   have c6b0 : ((a1.size : Int) == (wrap64 (t258 - 1))) = true := beq_iff_eq.mpr c6
   have c6b1 : ((a1.size : Int) != (wrap64 (t258 - 1))) = false := bne_eq_false_iff_eq.mpr c6
   clear c6
   replace H := Option.bind_eq_some_iff.mp H
   obtain ⟨⟨t259,t260⟩,A70,H⟩ := H
   replace H : (some (t259,t260)) = some (r1,r2) := H
   have A7 := Aside0.mk A70
   clear A70
   simp only [Option.some.injEq,Prod.mk.injEq] at H
   obtain ⟨rfl,rfl⟩ := H
   go_enter Tryd.func14,Tryd.ntmps14
   go_wp2_with (first|((with_reducible refine gate_callee (f := 39) rfl ?_);refine goesL_ (some 7) rfl rfl Tryd.func39 (by kernel_rfl) rfl #[.int .i64 a0] rfl (by (try simp only [List.map_toArray,List.map_cons,List.map_nil]);first|done|rfl|(simp only [List.length_drop,List.length_take];rfl)) ?_;(with_reducible refine (impl_isIdKind.calls a0 true _ A3.out).mono ?_);rintro e w' ⟨rfl,⟨nd,rfl⟩⟩;refine ⟨_,rfl,?_⟩)|(go_at_call 40;(with_reducible refine (impl_idLength.calls a0 t258 _ A5.out).mono ?_);rintro e w' ⟨rfl,⟨nd,rfl⟩⟩)|((with_reducible refine gate_callee (f := 37) rfl ?_);refine goesL_ (some 19) rfl rfl Tryd.func37 (by kernel_rfl) rfl #[.int .i64 a0,.string a1] rfl (by (try simp only [List.map_toArray,List.map_cons,List.map_nil]);first|done|rfl|(simp only [List.length_drop,List.length_take];rfl)) ?_;(with_reducible refine (impl_completeIdentifier.calls k a0 a1 t259 t260 _ ?side1 A7.out).mono ?_);(case side1 => exact Gw.below HG.out (by repeat (first|(with_reducible first|exact HB.out|apply lA|apply lN|apply lD)|exact HB.out)));rintro e w8 ⟨rfl,hb⟩;refine ⟨_,rfl,?_⟩;have n0_ := Aside0.mk (below_step (by repeat (first|(with_reducible first|exact HB.out|apply lA|apply lN|apply lD)|exact HB.out)) hb);clear HB;have HB := n0_;clear n0_;(try clear hb);(try clear hb2);(try clear hk);(try clear hi)))
   go_ret2
   exact ⟨by first|rfl|(simp [errW_none,errW_some] <;> rfl)|(simp [*,errW_none,errW_some] <;> rfl),by repeat (first|(with_reducible first|exact HB.out|apply lA|apply lN|apply lD)|exact HB.out)⟩
  ·rw [if_neg c6] at H
   have c6b0 : ((a1.size : Int) == (wrap64 (t258 - 1))) = false := beq_eq_false_iff_ne.mpr c6
   have c6b1 : ((a1.size : Int) != (wrap64 (t258 - 1))) = true := bne_iff_ne.mpr c6
   simp only [Option.some.injEq,Prod.mk.injEq] at H
   obtain ⟨rfl,rfl⟩ := H
   go_enter Tryd.func14,Tryd.ntmps14
   go_wp2_with (first|((with_reducible refine gate_callee (f := 39) rfl ?_);refine goesL_ (some 7) rfl rfl Tryd.func39 (by kernel_rfl) rfl #[.int .i64 a0] rfl (by (try simp only [List.map_toArray,List.map_cons,List.map_nil]);first|done|rfl|(simp only [List.length_drop,List.length_take];rfl)) ?_;(with_reducible refine (impl_isIdKind.calls a0 true _ A3.out).mono ?_);rintro e w' ⟨rfl,⟨nd,rfl⟩⟩;refine ⟨_,rfl,?_⟩)|(go_at_call 40;(with_reducible refine (impl_idLength.calls a0 t258 _ A5.out).mono ?_);rintro e w' ⟨rfl,⟨nd,rfl⟩⟩))
   go_ret2
   exact ⟨by first|rfl|(simp [errW_none,errW_some] <;> rfl)|(simp [*,errW_none,errW_some] <;> rfl),by repeat (first|(with_reducible first|exact HB.out|apply lA|apply lN|apply lD)|exact HB.out)⟩
 ·replace c4 := Bool.eq_false_iff.mpr c4
  subst c4
  have H1 : (some ((⟨#[]⟩ : ByteArray),false)) = some (r1,r2) := by rw [if_neg (show ¬ (false = true) by decide)] at H;exact H
  clear H
  have H := H1
  clear H1
  simp only [Option.some.injEq,Prod.mk.injEq] at H
  obtain ⟨rfl,rfl⟩ := H
  go_enter Tryd.func14,Tryd.ntmps14
  go_wp2_with (first|((with_reducible refine gate_callee (f := 39) rfl ?_);refine goesL_ (some 7) rfl rfl Tryd.func39 (by kernel_rfl) rfl #[.int .i64 a0] rfl (by (try simp only [List.map_toArray,List.map_cons,List.map_nil]);first|done|rfl|(simp only [List.length_drop,List.length_take];rfl)) ?_;(with_reducible refine (impl_isIdKind.calls a0 false _ A3.out).mono ?_);rintro e w' ⟨rfl,⟨nd,rfl⟩⟩;refine ⟨_,rfl,?_⟩))
  go_ret2
  exact ⟨by first|rfl|(simp [errW_none,errW_some] <;> rfl)|(simp [*,errW_none,errW_some] <;> rfl),by repeat (first|(with_reducible first|exact HB.out|apply lA|apply lN|apply lD)|exact HB.out)⟩
end Go.Proofs.YtpnjnlcjofaglaaDoor.P
