/- Written by a program in this session: each theorem here says that a Go function computes the Lean function beside it, or that a law's row holds, under the conditions that the theorem itself states. -/
import Derived.Test.YtbinfdheapjpnaaDoorZPx0
import Derived.Test.YtbinfdheapjpnaaDoorZPx3
import Derived.Test.YtbinfdheapjpnaaDoorZPx4
import Derived.Test.YtbinfdheapjpnaaDoorZPx5
namespace Go.Proofs.YtbinfdheapjpnaaDoor.P
open Go.RowKit Go.Proofs.YtbinfdheapjpnaaDoorW.PrintWords Go.Proofs.YtbinfdheapjpnaaDoorW.PrintLast Go.Proofs.YtbinfdheapjpnaaDoorW.PrintMore
attribute [local go_sem] max2_int min2_int max_two min_two max_three min_three max_four min_four   -- for this text's walks alone
set_option linter.unusedVariables false
set_option linter.unusedSimpArgs false
def laws_heldStringS.l0 : Nat → List ByteArray → Int → Int → Option (Int)
 | 0,_,_,_ => none
 | k + 1,x0,x1,x5 => if x5 < (x0.length : Int) then (if 0 ≤ x5 then ((laws_markText.f k x1).bind fun t217 => (if (rdOf ByteArray.empty x0 x5).toList = t217.toList then (laws_heldStringS.l0 k x0 (wrap64 (x1 + 1)) (wrap64 (x5 + 1))) else (some (-1)))) else (none)) else (some x1)
def laws_heldStringS.f (k : Nat) (l0 : List ByteArray) (a1 : Int) : Option (Int) := laws_heldStringS.l0 k l0 a1 0
theorem laws_heldStringS.mono_l : ∀ k,(∀ y0 y1 y2,LeO (laws_heldStringS.l0 k y0 y1 y2) (laws_heldStringS.l0 (k + 1) y0 y1 y2))
 | 0 => fun _ _ _ r h => by simp [laws_heldStringS.l0] at h
 | k + 1 => by
  have ih0 := laws_heldStringS.mono_l k
  ·intro y0 y1 y2
   unfold laws_heldStringS.l0
   repeat' first
   | (with_reducible exact ih0 _ _ _)
   | (with_reducible exact laws_markText.mono _ _)
   | (with_reducible exact LeO.refl _)
   | (with_reducible exact LeO.none _)
   | (with_reducible refine LeO.ite ?_ ?_)
   | (with_reducible refine LeO.bind ?_ (fun _ => ?_))
   | exact ih0 _ _ _
   | exact laws_markText.mono _ _
   | exact LeO.none _
   | refine LeO.ite ?_ ?_
   | refine LeO.bind ?_ (fun _ => ?_)
theorem laws_heldStringS.mono : ∀ a0 a1 k,LeO (laws_heldStringS.f k a0 a1) (laws_heldStringS.f (k + 1) a0 a1) := by
 intro a0 a1 k
 have ih0 := laws_heldStringS.mono_l k
 unfold laws_heldStringS.f
 repeat' first
   | (with_reducible exact ih0 _ _ _)
   | (with_reducible exact laws_markText.mono _ _)
   | (with_reducible exact LeO.refl _)
   | (with_reducible exact LeO.none _)
   | (with_reducible refine LeO.ite ?_ ?_)
   | (with_reducible refine LeO.bind ?_ (fun _ => ?_))
   | exact ih0 _ _ _
   | exact laws_markText.mono _ _
   | exact LeO.none _
   | refine LeO.ite ?_ ?_
   | refine LeO.bind ?_ (fun _ => ?_)
set_option maxHeartbeats 8000000 in
set_option maxRecDepth 100000 in
theorem laws_heldStringS.calls (k : Nat) (A0 : Option Addr) (c0 : Nat) (l0 : List ByteArray) (a1 : Int) (r : Int) (w : World) (hr0 : Kd.C Kd.string w A0 l0.length l0) (hc0 : l0.length ≤ c0) (h : laws_heldStringS.f k l0 a1 = some r) :
  Calls Tryd.prog 16 #[.slice A0 l0.length c0,.int .i64 a1] w fun e w' => e = .returned (.int .i64 r) ∧ Below w.heap.size w w' := by
 have HR0 := aM hr0;have HC0 := aM hc0;clear hr0 hc0;have HB := aM (Below.refl w.heap.size w);have H : (laws_heldStringS.l0 k l0 a1 0) = some r := h;clear h;have H' := aM H;clear H;go_enter Tryd.func16,Tryd.ntmps16;go_wp2;go_loopg [1,5] k (fun kq v1 v5 w' => ∃ (x1_1 : Int) (x5_1 : Int),v1 = .int .i64 x1_1 ∧ v5 = .int .i64 x5_1 ∧ Aside0 (laws_heldStringS.l0 kq l0 x1_1 x5_1 = some r) ∧ Aside0 (kq ≤ k) ∧ Aside0 (Below w.heap.size w w'))
 case atStart => exact ⟨(a1),(0),(by first|rfl|(simp [*];done)),(by first|rfl|(simp [*];done)),H',⟨Nat.le_refl _⟩,⟨by repeat (first|(with_reducible first|exact HB.out|apply lA|apply lN|apply lD)|exact HB.out)⟩⟩
 case round =>
  clear H';(try clear c1);(try clear p2);obtain ⟨x1_1,x5_1,rfl,rfl,HA,HK1,HB⟩ := hrel
  cases gk with
  | zero => exact absurd HA.out (by simp [laws_heldStringS.l0])
  | succ k1 =>
   have H := HA.out;clear HA;simp only [laws_heldStringS.l0] at H
   by_cases c3 : x5_1 < (l0.length : Int)
   focus
    rw [if_pos c3] at H;have c3b0 : decide (x5_1 < (l0.length : Int)) = true := dT c3;clear c3
    by_cases c4 : 0 ≤ x5_1
    rotate_left;rw [if_neg c4] at H;exact absurd H (by simp);rw [if_pos c4] at H;have c4b0 : decide (0 ≤ x5_1) = true := dT c4;clear c4;obtain ⟨t217,A5,H⟩ := bE_ H
    by_cases c6 : (rdOf ByteArray.empty l0 x5_1).toList = t217.toList
    focus
     rw [if_pos c6] at H;have c6b0 : ((rdOf ByteArray.empty l0 x5_1).toList == t217.toList) = true := beq_iff_eq.mpr c6;have c6b1 : ((rdOf ByteArray.empty l0 x5_1).toList != t217.toList) = false := bne_eq_false_iff_eq.mpr c6;clear c6;have H' := aM H;clear H
    rotate_left
    focus
     rw [if_neg c6] at H;have c6b0 : ((rdOf ByteArray.empty l0 x5_1).toList == t217.toList) = false := beq_eq_false_iff_ne.mpr c6;have c6b1 : ((rdOf ByteArray.empty l0 x5_1).toList != t217.toList) = true := bne_iff_ne.mpr c6;obtain rfl := Option.some.inj H;simp only [eS,eP] at H;obtain ⟨rfl⟩ := H
   rotate_left 2
   focus
    rw [if_neg c3] at H;have c3b0 : decide (x5_1 < (l0.length : Int)) = false := dF c3;clear c3;obtain rfl := Option.some.inj H;simp only [eS,eP] at H;obtain ⟨rfl⟩ := H
   all_goals
    (try go_wp2)
    first
     |
      go_ret;exact ⟨by first|rfl|(simp [*];done),by repeat (first|(with_reducible first|exact HB.out|apply lA|apply lN|apply lD)|exact HB.out)⟩
     |
      replace HB := aM (lD HB.out);have p01 : 0 ≤ (x5_1 : Int) := oD (by assumption);have q01 : x5_1 < (l0.length : Int) := oD (by assumption);obtain ⟨ad01,e01,hx01_0⟩ := Kd.at_string HR0.out x5_1 p01 q01;have hw01_0 := hx01_0;cases e01;replace hx01_0 := (HB.out.cell (wB w _ hx01_0)).trans hx01_0;replace p01 := eq_true p01;replace q01 := eq_true q01;refine start_ (n := 7) (S := fun w' => w'.cell? (ad01.add (x5_1).toNat) = some (.string (rdOf ByteArray.empty l0 x5_1))) (ds := []) (mk_ 7 0) (by kernel_rfl) rfl (by kernel_rfl) (((HB.out.cell (wB w _ hw01_0)).trans hw01_0)) (fun hHeld => ?_);generalize wr.drew = wk0 at HB hx01_0 hHeld ⊢;refine pure_ (i := 0) (N := some 12) (v := ?_) (a' := ?_) (mk_ 7 1) rfl rfl (by kernel_rfl) (fun _ _ _ h => h) (Or.inl ⟨by rfl,?_⟩) ?_ ?_;rotate_left;intro w';go_simp;(with_reducible rfl);rotate_left;simp only [Act.put,lI,sZ,sS,i64_w,i32_w];rfl;refine pure_ (i := 1) (N := some 13) (v := ?_) (a' := ?_) (mk_ 7 3) rfl rfl (by kernel_rfl) (fun _ _ _ h => h) (Or.inl ⟨by rfl,?_⟩) ?_ ?_;rotate_left;intro w';go_simp;(with_reducible rfl);rotate_left;simp only [Act.put,lI,sZ,sS,i64_w,i32_w];rfl;refine pure_ (i := 2) (N := some 14) (v := ?_) (a' := ?_) (mk_ 7 7) rfl rfl (by kernel_rfl) (fun _ _ _ h => h) (Or.inl ⟨by rfl,?_⟩) ?_ ?_;rotate_left;intro w';go_simp;(with_reducible rfl);rotate_left;simp only [Act.put,lI,sZ,sS,i64_w,i32_w];rfl;refine pure_ (i := 4) (N := some 16) (v := ?_) (a' := ?_) (mk_ 7 23) rfl rfl (by kernel_rfl) (fun _ _ _ h => h) (Or.inl ⟨by rfl,?_⟩) ?_ ?_;rotate_left;intro w';go_simp;(with_reducible rfl);rotate_left;simp only [Act.put,lI,sZ,sS,i64_w,i32_w];rfl;refine take_ (i := 3) (N := some 15) (v := ?_) (a' := ?_) (mk_ 7 31) rfl rfl (by kernel_rfl) (fun _ _ _ h => h) (Or.inl ⟨by rfl,?_⟩) hHeld ?_ ?_;rotate_left;intro w' s0;go_simp;(with_reducible rfl);rotate_left;simp only [Act.put,lI,sZ,sS,i64_w,i32_w];rfl;refine one_ (i := 5) (N := some 17) (mk_ 7 63) rfl rfl (by kernel_rfl) (by decide) (fun K hK => ?_);refine goes_ Tryd.func29 (by kernel_rfl) rfl #[.int .i64 x1_1] (by rfl) rfl rfl (by (try simp only [mT,mC,mN]);first|done|rfl|(simp only [xD,xT];rfl)) ?_;(with_reducible refine (laws_markText.calls _ _ _ _ A5.out).mono ?_);rintro e wk1 ⟨rfl,hb⟩;refine ⟨_,rfl,?_⟩;replace HB := aM (lT (by repeat (first|(with_reducible first|exact HB.out|apply lA|apply lN|apply lD)|exact HB.out)) hb);(try clear hb);(try clear hb2);(try clear hk);(try clear hi);refine hK.out _ _ (((HB.out.cell (wB w _ hw01_0)).trans hw01_0)) (fun hHeld => ?_);clear hK K;refine norm_ (a' := ?_) ?_ ?_;rotate_left;show Act.put _ (some 17) _ = _;simp only [Act.put,lI,sZ,sS,i64_w,i32_w];rfl;refine pure_ (i := 6) (N := some 18) (v := ?_) (a' := ?_) (mk_ 7 127) rfl rfl (by kernel_rfl) (fun _ _ _ h => h) (Or.inl ⟨by rfl,?_⟩) ?_ ?_;rotate_left;intro w';go_simp;(with_reducible rfl);rotate_left;simp only [Act.put,lI,sZ,sS,i64_w,i32_w];rfl;refine done_ (by kernel_rfl) ?_;(try go_wp2)
      first
       |
        go_ret;exact ⟨by first|rfl|(simp [*];done),by repeat (first|(with_reducible first|exact HB.out|apply lA|apply lN|apply lD)|exact HB.out)⟩
       |
        go_roundg k1
        case measure => have := HK1.out;omega
        case rel => exact ⟨(wrap64 (x1_1 + 1)),(wrap64 (x5_1 + 1)),(by first|rfl|(simp [*];done)),(by first|rfl|(simp [*];done)),H',⟨by have := HK1.out;omega⟩,⟨by repeat (first|(with_reducible first|exact HB.out|apply lA|apply lN|apply lD)|exact HB.out)⟩⟩
mutual
def laws_FnExactReadRow.j0 : Nat → ByteArray → List ByteArray → Bool → List ByteArray → Bool → Option (Bool)
 | 0,_,_,_,_,_ => none
 | k + 1,x0,x3,x4,x5,x32 => if x32 = true then (some false) else ((laws_markStringS.f k x5 1).bind fun bt227 => ((laws_heldStringS.f k bt227.2 1).bind fun t229 => (if t229 < 0 then (some false) else (if t229 = bt227.1 then ((impl_ReadRow.f k x0).bind fun bt230 => ((laws_eqStringS.f k bt230.1 x3).bind fun t234 => (if t234 = true then (laws_FnExactReadRow.j1 k bt227.2 bt227.1 (bt230.2 != x4)) else (laws_FnExactReadRow.j1 k bt227.2 bt227.1 true)))) else (some false)))))
def laws_FnExactReadRow.j1 : Nat → List ByteArray → Int → Bool → Option (Bool)
 | 0,_,_,_ => none
 | k + 1,x5,x7,x57 => if x57 = true then (some false) else ((laws_heldStringS.f k x5 1).bind fun t235 => (if t235 < 0 then (some false) else (if t235 = x7 then (some true) else (some false))))
end
def laws_FnExactReadRow.f (k : Nat) (a0 : ByteArray) : Option (Bool) := if (a0.size : Int) > 1048576 then (some true) else ((spec_ReadRow.f k a0).bind fun bt218 => ((impl_ReadRow.f k a0).bind fun bt222 => ((laws_eqStringS.f k bt222.1 bt218.1).bind fun t226 => (if t226 = true then (laws_FnExactReadRow.j0 k a0 bt218.1 bt218.2 bt222.1 (bt222.2 != bt218.2)) else (laws_FnExactReadRow.j0 k a0 bt218.1 bt218.2 bt222.1 true)))))
theorem laws_FnExactReadRow.mono_l : ∀ k,(∀ y0 y1 y2 y3 y4,LeO (laws_FnExactReadRow.j0 k y0 y1 y2 y3 y4) (laws_FnExactReadRow.j0 (k + 1) y0 y1 y2 y3 y4)) ∧ (∀ y0 y1 y2,LeO (laws_FnExactReadRow.j1 k y0 y1 y2) (laws_FnExactReadRow.j1 (k + 1) y0 y1 y2))
 | 0 => ⟨fun _ _ _ _ _ r h => by simp [laws_FnExactReadRow.j0] at h,fun _ _ _ r h => by simp [laws_FnExactReadRow.j1] at h⟩
 | k + 1 => by
  obtain ⟨ih0,ih1⟩ := laws_FnExactReadRow.mono_l k
  refine ⟨?_,?_⟩
  ·intro y0 y1 y2 y3 y4
   unfold laws_FnExactReadRow.j0
   repeat' first
   | (with_reducible exact ih0 _ _ _ _ _)
   | (with_reducible exact ih1 _ _ _)
   | (with_reducible exact impl_ReadRow.mono _ _)
   | (with_reducible exact laws_eqStringS.mono _ _ _)
   | (with_reducible exact laws_heldStringS.mono _ _ _)
   | (with_reducible exact laws_markStringS.mono _ _ _)
   | (with_reducible exact spec_ReadRow.mono _ _)
   | (with_reducible exact LeO.refl _)
   | (with_reducible exact LeO.none _)
   | (with_reducible refine LeO.ite ?_ ?_)
   | (with_reducible refine LeO.bind ?_ (fun _ => ?_))
   | exact ih0 _ _ _ _ _
   | exact ih1 _ _ _
   | exact impl_ReadRow.mono _ _
   | exact laws_eqStringS.mono _ _ _
   | exact laws_heldStringS.mono _ _ _
   | exact laws_markStringS.mono _ _ _
   | exact spec_ReadRow.mono _ _
   | exact LeO.none _
   | refine LeO.ite ?_ ?_
   | refine LeO.bind ?_ (fun _ => ?_)
  ·intro y0 y1 y2
   unfold laws_FnExactReadRow.j1
   repeat' first
   | (with_reducible exact ih0 _ _ _ _ _)
   | (with_reducible exact ih1 _ _ _)
   | (with_reducible exact impl_ReadRow.mono _ _)
   | (with_reducible exact laws_eqStringS.mono _ _ _)
   | (with_reducible exact laws_heldStringS.mono _ _ _)
   | (with_reducible exact laws_markStringS.mono _ _ _)
   | (with_reducible exact spec_ReadRow.mono _ _)
   | (with_reducible exact LeO.refl _)
   | (with_reducible exact LeO.none _)
   | (with_reducible refine LeO.ite ?_ ?_)
   | (with_reducible refine LeO.bind ?_ (fun _ => ?_))
   | exact ih0 _ _ _ _ _
   | exact ih1 _ _ _
   | exact impl_ReadRow.mono _ _
   | exact laws_eqStringS.mono _ _ _
   | exact laws_heldStringS.mono _ _ _
   | exact laws_markStringS.mono _ _ _
   | exact spec_ReadRow.mono _ _
   | exact LeO.none _
   | refine LeO.ite ?_ ?_
   | refine LeO.bind ?_ (fun _ => ?_)
theorem laws_FnExactReadRow.mono : ∀ a0 k,LeO (laws_FnExactReadRow.f k a0) (laws_FnExactReadRow.f (k + 1) a0) := by
 intro a0 k
 obtain ⟨ih0,ih1⟩ := laws_FnExactReadRow.mono_l k
 unfold laws_FnExactReadRow.f
 repeat' first
   | (with_reducible exact ih0 _ _ _ _ _)
   | (with_reducible exact ih1 _ _ _)
   | (with_reducible exact impl_ReadRow.mono _ _)
   | (with_reducible exact laws_eqStringS.mono _ _ _)
   | (with_reducible exact laws_heldStringS.mono _ _ _)
   | (with_reducible exact laws_markStringS.mono _ _ _)
   | (with_reducible exact spec_ReadRow.mono _ _)
   | (with_reducible exact LeO.refl _)
   | (with_reducible exact LeO.none _)
   | (with_reducible refine LeO.ite ?_ ?_)
   | (with_reducible refine LeO.bind ?_ (fun _ => ?_))
   | exact ih0 _ _ _ _ _
   | exact ih1 _ _ _
   | exact impl_ReadRow.mono _ _
   | exact laws_eqStringS.mono _ _ _
   | exact laws_heldStringS.mono _ _ _
   | exact laws_markStringS.mono _ _ _
   | exact spec_ReadRow.mono _ _
   | exact LeO.none _
   | refine LeO.ite ?_ ?_
   | refine LeO.bind ?_ (fun _ => ?_)
set_option maxHeartbeats 8000000 in
set_option maxRecDepth 100000 in
theorem laws_FnExactReadRow.calls (k : Nat) (a0 : ByteArray) (r : Bool) (w : World) (hG : Gm w) (hr_ : r = true) (h : laws_FnExactReadRow.f k a0 = some r) :
  Calls Tryd.prog 5 #[.string a0] w fun e w' => e = .returned (.bool r) ∧ Below w.heap.size w w' := by
 have HB := aM (Below.refl w.heap.size w);have HG := aM hG;clear hG;have H : (if (a0.size : Int) > 1048576 then (some true) else ((spec_ReadRow.f k a0).bind fun bt218 => ((impl_ReadRow.f k a0).bind fun bt222 => ((laws_eqStringS.f k bt222.1 bt218.1).bind fun t226 => (if t226 = true then (laws_FnExactReadRow.j0 k a0 bt218.1 bt218.2 bt222.1 (bt222.2 != bt218.2)) else (laws_FnExactReadRow.j0 k a0 bt218.1 bt218.2 bt222.1 true)))))) = some r := h;clear h
 by_cases c2 : (a0.size : Int) > 1048576
 ·rw [if_pos c2] at H;have c2b0 : decide (1048576 < (a0.size : Int)) = true := dT c2;have c2b1 : decide (1048576 < a0.size) = true := dT (by omega);clear c2;obtain rfl := Option.some.inj H;(try clear hr_);go_enter Tryd.func5,Tryd.ntmps5;go_wp2;go_ret;exact ⟨by first|rfl|(simp [*];done),by repeat (first|(with_reducible first|exact HB.out|apply lA|apply lN|apply lD)|exact HB.out)⟩
 ·rw [if_neg c2] at H;have c2b0 : decide (1048576 < (a0.size : Int)) = false := dF c2;have c2b1 : decide (1048576 < a0.size) = false := dF (by omega);clear c2;replace H := Option.bind_eq_some_iff.mp H;obtain ⟨⟨t218,t219⟩,A30,H⟩ := H;replace H : ((impl_ReadRow.f k a0).bind fun bt222 => ((laws_eqStringS.f k bt222.1 t218).bind fun t226 => (if t226 = true then (laws_FnExactReadRow.j0 k a0 t218 t219 bt222.1 (bt222.2 != t219)) else (laws_FnExactReadRow.j0 k a0 t218 t219 bt222.1 true)))) = some r := H;have A3 := aM A30;clear A30;replace H := Option.bind_eq_some_iff.mp H;obtain ⟨⟨t222,t223⟩,A40,H⟩ := H;replace H : ((laws_eqStringS.f k t222 t218).bind fun t226 => (if t226 = true then (laws_FnExactReadRow.j0 k a0 t218 t219 t222 (t223 != t219)) else (laws_FnExactReadRow.j0 k a0 t218 t219 t222 true))) = some r := H;have A4 := aM A40;clear A40;have HC5 := aM H;clear H;go_enter Tryd.func5,Tryd.ntmps5;go_upto_region 5 with (first|((with_reducible refine gate_callee (f := 13) rfl ?_);refine goesL_ (some 16) rfl rfl Tryd.func13 (by kernel_rfl) rfl #[.string a0] rfl (by (try simp only [mT,mC,mN]);first|done|rfl|(simp only [xD,xT];rfl)) ?_;(with_reducible refine (spec_ReadRow.calls k a0 t218 t219 _ A3.out).mono ?_);rintro e w6 ⟨v220,rfl,ho0,hb⟩;refine ⟨_,rfl,?_⟩;have HO221 := aM (Kd.R_lower ho0 (lZ (by repeat (first|(with_reducible first|exact HB.out|apply lA|apply lN|apply lD)|exact HB.out))));replace HB := aM (lT (by repeat (first|(with_reducible first|exact HB.out|apply lA|apply lN|apply lD)|exact HB.out)) hb);(try clear hb);(try clear ho0))|((with_reducible refine gate_callee (f := 14) rfl ?_);refine goesL_ (some 21) rfl rfl Tryd.func14 (by kernel_rfl) rfl #[.string a0] rfl (by (try simp only [mT,mC,mN]);first|done|rfl|(simp only [xD,xT];rfl)) ?_;(with_reducible refine (impl_ReadRow.calls k a0 t222 t223 _ ?side1 A4.out).mono ?_);(case side1 => exact Gm.below HG.out (by repeat (first|(with_reducible first|exact HB.out|apply lA|apply lN|apply lD)|exact HB.out)));rintro e w7 ⟨v224,rfl,ho0,hb⟩;refine ⟨_,rfl,?_⟩;have HO225 := aM (Kd.R_lower (Kd.R_new' ho0 (Kd.R_lt (by (with_reducible repeat (first|apply rA|apply rN|apply rD));exact HO221.out))) (lZ (by repeat (first|(with_reducible first|exact HB.out|apply lA|apply lN|apply lD)|exact HB.out))));replace HO221 := aM (Kd.R_elder' (by (with_reducible repeat (first|apply rA|apply rN|apply rD));exact HO221.out) (Kd.R_base ho0) hb);replace HB := aM (lT (by repeat (first|(with_reducible first|exact HB.out|apply lA|apply lN|apply lD)|exact HB.out)) hb);(try clear hb);(try clear ho0)));(try simp only [Act.put,lI,sZ,sS]);go_cut [32] (fun v32 wc => ∃ (kq : Nat) (x32_4 : Bool),v32 = .bool x32_4 ∧ Aside0 (laws_FnExactReadRow.j0 kq a0 t218 t219 t222 x32_4 = some r) ∧ Aside0 (kq ≤ k) ∧ Aside0 (Kd.R Kd.string 9 wc w.heap.size (fun k_ => some k_ ≠ (v224 : Value).ownBlock) v220 t218) ∧ Aside0 (Kd.R Kd.string 9 wc w.heap.size (fun k_ => some k_ ≠ (v220 : Value).ownBlock) v224 t222) ∧ Aside0 (Below w.heap.size w wc))
  case first =>
   have H := HC5.out;clear HC5;obtain ⟨t226,A8,H⟩ := bE_ H
   by_cases c9 : t226 = true
   ·subst c9;rw [if_pos rfl] at H;have H' := aM H;clear H;obtain ⟨Ao10,co10,eo10⟩ := Kd.R_slice HO225.out;subst eo10;obtain ⟨Ao11,co11,eo11⟩ := Kd.R_slice HO221.out;subst eo11;go_wp2_with (first|((with_reducible refine gate_callee (f := 12) rfl ?_);refine goesL_ (some 26) rfl rfl Tryd.func12 (by kernel_rfl) rfl #[.slice Ao10 t222.length co10,.slice Ao11 t218.length co11] rfl (by (try simp only [mT,mC,mN]);first|done|rfl|(simp only [xD,xT];rfl)) ?_;(with_reducible refine (laws_eqStringS.calls k _ _ t222 _ _ t218 true _ ?side1 ?side2 ?side3 ?side4 A8.out).mono ?_);(case side1 => repeat (first|exact (rR HO225.out).2.2|(with_reducible first|refine cA ?_ _|refine cN ?_ _|refine cD ?_)));(case side2 => exact (rR HO225.out).2.1);(case side3 => repeat (first|exact (rR HO221.out).2.2|(with_reducible first|refine cA ?_ _|refine cN ?_ _|refine cD ?_)));(case side4 => exact (rR HO221.out).2.1);rintro e w' ⟨rfl,⟨nd,rfl⟩⟩;refine ⟨_,rfl,?_⟩));go_meet
    case rel => exact ⟨_,((t223 != t219)),(by first|rfl|(simp [*];done)),H',⟨by first|omega|exact Nat.le_refl _⟩,⟨by (with_reducible repeat (first|apply rA|apply rN|apply rD));exact Kd.R_mono HO221.out (fun _ hk => hk.2)⟩,⟨by (with_reducible repeat (first|apply rA|apply rN|apply rD));exact Kd.R_mono HO225.out (fun _ hk => hk.2)⟩,⟨by repeat (first|(with_reducible first|exact HB.out|apply lA|apply lN|apply lD)|exact HB.out)⟩⟩
   ·replace c9 := Bool.eq_false_iff.mpr c9;subst c9;rw [if_neg Bool.false_ne_true] at H;have H' := aM H;clear H;obtain ⟨Ao12,co12,eo12⟩ := Kd.R_slice HO225.out;subst eo12;obtain ⟨Ao13,co13,eo13⟩ := Kd.R_slice HO221.out;subst eo13;go_wp2_with (first|((with_reducible refine gate_callee (f := 12) rfl ?_);refine goesL_ (some 26) rfl rfl Tryd.func12 (by kernel_rfl) rfl #[.slice Ao12 t222.length co12,.slice Ao13 t218.length co13] rfl (by (try simp only [mT,mC,mN]);first|done|rfl|(simp only [xD,xT];rfl)) ?_;(with_reducible refine (laws_eqStringS.calls k _ _ t222 _ _ t218 false _ ?side1 ?side2 ?side3 ?side4 A8.out).mono ?_);(case side1 => repeat (first|exact (rR HO225.out).2.2|(with_reducible first|refine cA ?_ _|refine cN ?_ _|refine cD ?_)));(case side2 => exact (rR HO225.out).2.1);(case side3 => repeat (first|exact (rR HO221.out).2.2|(with_reducible first|refine cA ?_ _|refine cN ?_ _|refine cD ?_)));(case side4 => exact (rR HO221.out).2.1);rintro e w' ⟨rfl,⟨nd,rfl⟩⟩;refine ⟨_,rfl,?_⟩));go_meet
    case rel => exact ⟨_,(true),(by first|rfl|(simp [*];done)),H',⟨by first|omega|exact Nat.le_refl _⟩,⟨by (with_reducible repeat (first|apply rA|apply rN|apply rD));exact Kd.R_mono HO221.out (fun _ hk => hk.2)⟩,⟨by (with_reducible repeat (first|apply rA|apply rN|apply rD));exact Kd.R_mono HO225.out (fun _ hk => hk.2)⟩,⟨by repeat (first|(with_reducible first|exact HB.out|apply lA|apply lN|apply lD)|exact HB.out)⟩⟩
  case rest =>
   clear HC5;(try clear c1);(try clear c2);(try clear c2b0);(try clear c2b1);(try clear p2);(try clear c5);(try clear c9);(try clear c12);(try clear c13);obtain ⟨kq,x32_4,rfl,HA,HJ4,HO_3,HO_5,HB⟩ := hcut
   cases kq with
   | zero => exact absurd HA.out (by simp [laws_FnExactReadRow.j0])
   | succ kj4 =>
    have H := HA.out;clear HA;simp only [laws_FnExactReadRow.j0] at H
    by_cases c14 : x32_4 = true
    ·subst c14;rw [if_pos rfl] at H;exact absurd ((Option.some.inj H).trans hr_) (by decide)
    ·replace c14 := Bool.eq_false_iff.mpr c14;subst c14;rw [if_neg Bool.false_ne_true] at H;replace H := Option.bind_eq_some_iff.mp H;obtain ⟨⟨t227,t228⟩,A150,H⟩ := H;replace H : ((laws_heldStringS.f kj4 t228 1).bind fun t229 => (if t229 < 0 then (some false) else (if t229 = t227 then ((impl_ReadRow.f kj4 a0).bind fun bt230 => ((laws_eqStringS.f kj4 bt230.1 t218).bind fun t234 => (if t234 = true then (laws_FnExactReadRow.j1 kj4 t228 t227 (bt230.2 != t219)) else (laws_FnExactReadRow.j1 kj4 t228 t227 true)))) else (some false)))) = some r := H;have A15 := aM A150;clear A150;obtain ⟨t229,A16,H⟩ := bE_ H
     by_cases c17 : t229 < 0
     ·rw [if_pos c17] at H;have c17b0 : decide (t229 < 0) = true := dT c17;clear c17;exact absurd ((Option.some.inj H).trans hr_) (by decide)
     ·rw [if_neg c17] at H;have c17b0 : decide (t229 < 0) = false := dF c17;clear c17
      by_cases c18 : t229 = t227
      ·rw [if_pos c18] at H;have c18b0 : (t229 == t227) = true := beq_iff_eq.mpr c18;have c18b1 : (t229 != t227) = false := bne_eq_false_iff_eq.mpr c18;clear c18;replace H := Option.bind_eq_some_iff.mp H;obtain ⟨⟨t230,t231⟩,A190,H⟩ := H;replace H : ((laws_eqStringS.f kj4 t230 t218).bind fun t234 => (if t234 = true then (laws_FnExactReadRow.j1 kj4 t228 t227 (t231 != t219)) else (laws_FnExactReadRow.j1 kj4 t228 t227 true))) = some r := H;have A19 := aM A190;clear A190;have HC20 := aM H;clear H;obtain ⟨Ao21,co21,eo21⟩ := Kd.R_slice HO_5.out;subst eo21;go_upto_region 16 with (first|((with_reducible refine gate_callee (f := 15) rfl ?_);refine goesL_ (some 35) rfl rfl Tryd.func15 (by kernel_rfl) rfl #[.slice Ao21 t222.length co21,.int .i64 1] rfl (by (try simp only [mT,mC,mN]);first|done|rfl|(simp only [xD,xT];rfl)) ?_;(with_reducible refine (laws_markStringS.calls kj4 (fun k_ => some k_ = (.slice Ao21 t222.length co21 : Value).ownBlock) (.slice Ao21 t222.length co21) t222 1 t227 t228 w _ ?side1 ?side2 A15.out).mono ?_);(case side1 => repeat (first|(with_reducible first|exact HB.out|apply lA|apply lN|apply lD)|exact HB.out));(case side2 => exact Kd.R_tight rfl HO_5.out);rintro e w22 ⟨rfl,hy0,hb,hkp⟩;refine ⟨_,rfl,?_⟩;replace HO_3 := aM (Kd.R_mono (ok' := fun k_ => some k_ ≠ (.slice Ao21 t222.length co21 : Value).ownBlock) (Kd.R_keptB (HO_3.out) hkp (fun k_ hk_ hs_ => (hk_) hs_)) (fun k_ hk_ => hk_.1));replace HO_5 := aM (Kd.R_reok rfl hy0 (fun k_ e_ => HO_5.out.1 k_ e_));replace HB := aM (hb);(try clear hb);(try clear hkp);(try clear hy0))|((with_reducible refine gate_callee (f := 16) rfl ?_);refine goesL_ (some 38) rfl rfl Tryd.func16 (by kernel_rfl) rfl #[.slice Ao21 t228.length co21,.int .i64 1] rfl (by (try simp only [mT,mC,mN]);first|done|(rw [show t228.length = t222.length from (rR HO_5.out).1.symm] <;> rfl)|rfl|(simp only [xD,xT];rfl)) ?_;(with_reducible refine (laws_heldStringS.calls kj4 _ _ t228 1 t229 _ ?side1 ?side2 A16.out).mono ?_);(case side1 => repeat (first|exact (rR HO_5.out).2.2|(with_reducible first|refine cA ?_ _|refine cN ?_ _|refine cD ?_)));(case side2 => rw [show t228.length = t222.length from (rR HO_5.out).1.symm];exact (rR HO_5.out).2.1);rintro e w23 ⟨rfl,hb⟩;refine ⟨_,rfl,?_⟩;replace HO_3 := aM (rB (by (with_reducible repeat (first|apply rA|apply rN|apply rD));exact HO_3.out) hb);replace HO_5 := aM (rB (by (with_reducible repeat (first|apply rA|apply rN|apply rD));exact HO_5.out) hb);replace HB := aM (lT (by repeat (first|(with_reducible first|exact HB.out|apply lA|apply lN|apply lD)|exact HB.out)) hb);(try clear hb))|((with_reducible refine gate_callee (f := 14) rfl ?_);refine goesL_ (some 46) rfl rfl Tryd.func14 (by kernel_rfl) rfl #[.string a0] rfl (by (try simp only [mT,mC,mN]);first|done|rfl|(simp only [xD,xT];rfl)) ?_;(with_reducible refine (impl_ReadRow.calls kj4 a0 t230 t231 _ ?side1 A19.out).mono ?_);(case side1 => exact Gm.below HG.out (by repeat (first|(with_reducible first|exact HB.out|apply lA|apply lN|apply lD)|exact HB.out)));rintro e w24 ⟨v232,rfl,ho0,hb⟩;refine ⟨_,rfl,?_⟩;have HO233 := aM (Kd.R_lower (Kd.R_new' (Kd.R_new' ho0 (Kd.R_lt (by (with_reducible repeat (first|apply rA|apply rN|apply rD));exact HO_3.out))) (Kd.R_lt (by (with_reducible repeat (first|apply rA|apply rN|apply rD));exact HO_5.out))) (lZ (by repeat (first|(with_reducible first|exact HB.out|apply lA|apply lN|apply lD)|exact HB.out))));replace HO_3 := aM (Kd.R_elder' (by (with_reducible repeat (first|apply rA|apply rN|apply rD));exact HO_3.out) (Kd.R_base ho0) hb);replace HO_5 := aM (Kd.R_elder' (by (with_reducible repeat (first|apply rA|apply rN|apply rD));exact HO_5.out) (Kd.R_base ho0) hb);replace HB := aM (lT (by repeat (first|(with_reducible first|exact HB.out|apply lA|apply lN|apply lD)|exact HB.out)) hb);(try clear hb);(try clear ho0)));(try simp only [Act.put,lI,sZ,sS]);go_cut [57] (fun v57 wc => ∃ (kq : Nat) (x57_19 : Bool),v57 = .bool x57_19 ∧ Aside0 (laws_FnExactReadRow.j1 kq t228 t227 x57_19 = some r) ∧ Aside0 (kq ≤ kj4) ∧ Aside0 (Kd.R Kd.string 9 wc w.heap.size (fun _ => True) (.slice Ao21 t222.length co21) t228) ∧ Aside0 (Below w.heap.size w wc))
       case first =>
        have H := HC20.out;clear HC20;obtain ⟨t234,A25,H⟩ := bE_ H
        by_cases c26 : t234 = true
        ·subst c26;rw [if_pos rfl] at H;have H' := aM H;clear H;obtain ⟨Ao27,co27,eo27⟩ := Kd.R_slice HO233.out;subst eo27;obtain ⟨Ao28,co28,eo28⟩ := Kd.R_slice HO_3.out;subst eo28;go_wp2_with (first|((with_reducible refine gate_callee (f := 12) rfl ?_);refine goesL_ (some 51) rfl rfl Tryd.func12 (by kernel_rfl) rfl #[.slice Ao27 t230.length co27,.slice Ao28 t218.length co28] rfl (by (try simp only [mT,mC,mN]);first|done|rfl|(simp only [xD,xT];rfl)) ?_;(with_reducible refine (laws_eqStringS.calls kj4 _ _ t230 _ _ t218 true _ ?side1 ?side2 ?side3 ?side4 A25.out).mono ?_);(case side1 => repeat (first|exact (rR HO233.out).2.2|(with_reducible first|refine cA ?_ _|refine cN ?_ _|refine cD ?_)));(case side2 => exact (rR HO233.out).2.1);(case side3 => repeat (first|exact (rR HO_3.out).2.2|(with_reducible first|refine cA ?_ _|refine cN ?_ _|refine cD ?_)));(case side4 => exact (rR HO_3.out).2.1);rintro e w' ⟨rfl,⟨nd,rfl⟩⟩;refine ⟨_,rfl,?_⟩));go_meet
         case rel => exact ⟨_,((t231 != t219)),(by first|rfl|(simp [*];done)),H',⟨by have := HJ4.out;first|omega|exact Nat.le_refl _⟩,⟨by (with_reducible repeat (first|apply rA|apply rN|apply rD));exact Kd.R_mono HO_5.out (fun _ hk => trivial)⟩,⟨by repeat (first|(with_reducible first|exact HB.out|apply lA|apply lN|apply lD)|exact HB.out)⟩⟩
        ·replace c26 := Bool.eq_false_iff.mpr c26;subst c26;rw [if_neg Bool.false_ne_true] at H;have H' := aM H;clear H;obtain ⟨Ao29,co29,eo29⟩ := Kd.R_slice HO233.out;subst eo29;obtain ⟨Ao30,co30,eo30⟩ := Kd.R_slice HO_3.out;subst eo30;go_wp2_with (first|((with_reducible refine gate_callee (f := 12) rfl ?_);refine goesL_ (some 51) rfl rfl Tryd.func12 (by kernel_rfl) rfl #[.slice Ao29 t230.length co29,.slice Ao30 t218.length co30] rfl (by (try simp only [mT,mC,mN]);first|done|rfl|(simp only [xD,xT];rfl)) ?_;(with_reducible refine (laws_eqStringS.calls kj4 _ _ t230 _ _ t218 false _ ?side1 ?side2 ?side3 ?side4 A25.out).mono ?_);(case side1 => repeat (first|exact (rR HO233.out).2.2|(with_reducible first|refine cA ?_ _|refine cN ?_ _|refine cD ?_)));(case side2 => exact (rR HO233.out).2.1);(case side3 => repeat (first|exact (rR HO_3.out).2.2|(with_reducible first|refine cA ?_ _|refine cN ?_ _|refine cD ?_)));(case side4 => exact (rR HO_3.out).2.1);rintro e w' ⟨rfl,⟨nd,rfl⟩⟩;refine ⟨_,rfl,?_⟩));go_meet
         case rel => exact ⟨_,(true),(by first|rfl|(simp [*];done)),H',⟨by have := HJ4.out;first|omega|exact Nat.le_refl _⟩,⟨by (with_reducible repeat (first|apply rA|apply rN|apply rD));exact Kd.R_mono HO_5.out (fun _ hk => trivial)⟩,⟨by repeat (first|(with_reducible first|exact HB.out|apply lA|apply lN|apply lD)|exact HB.out)⟩⟩
       case rest =>
        clear HC20;(try clear c1);(try clear c2);(try clear c2b0);(try clear c2b1);(try clear p2);(try clear c5);(try clear c9);(try clear c12);(try clear c13);(try clear c14);(try clear c15);(try clear c16);(try clear c17);(try clear c17b0);(try clear c18);(try clear c18b0);(try clear c18b1);(try clear c26);(try clear p2);obtain ⟨kq,x57_19,rfl,HA,HJ19,HO_5,HB⟩ := hcut;have hl5_19 := (rR HO_5.out).1;rw [hl5_19] at HO_5;(try simp only [hl5_19])
        cases kq with
        | zero => exact absurd HA.out (by simp [laws_FnExactReadRow.j1])
        | succ kj19 =>
         have H := HA.out;clear HA;simp only [laws_FnExactReadRow.j1] at H
         by_cases c31 : x57_19 = true
         ·subst c31;rw [if_pos rfl] at H;exact absurd ((Option.some.inj H).trans hr_) (by decide)
         ·replace c31 := Bool.eq_false_iff.mpr c31;subst c31;rw [if_neg Bool.false_ne_true] at H;obtain ⟨t235,A32,H⟩ := bE_ H
          by_cases c33 : t235 < 0
          ·rw [if_pos c33] at H;have c33b0 : decide (t235 < 0) = true := dT c33;clear c33;exact absurd ((Option.some.inj H).trans hr_) (by decide)
          ·rw [if_neg c33] at H;have c33b0 : decide (t235 < 0) = false := dF c33;clear c33
           by_cases c34 : t235 = t227
           ·rw [if_pos c34] at H;have c34b0 : (t235 == t227) = true := beq_iff_eq.mpr c34;have c34b1 : (t235 != t227) = false := bne_eq_false_iff_eq.mpr c34;clear c34;obtain rfl := Option.some.inj H;(try clear hr_);go_wp2_with (first|((with_reducible refine gate_callee (f := 16) rfl ?_);refine goesL_ (some 60) rfl rfl Tryd.func16 (by kernel_rfl) rfl #[.slice Ao21 t228.length co21,.int .i64 1] rfl (by (try simp only [mT,mC,mN]);first|done|rfl|(simp only [xD,xT];rfl)) ?_;(with_reducible refine (laws_heldStringS.calls kj19 _ _ t228 1 t235 _ ?side1 ?side2 A32.out).mono ?_);(case side1 => repeat (first|exact (rR HO_5.out).2.2|(with_reducible first|refine cA ?_ _|refine cN ?_ _|refine cD ?_)));(case side2 => exact (rR HO_5.out).2.1);rintro e w35 ⟨rfl,hb⟩;refine ⟨_,rfl,?_⟩;replace HO_5 := aM (rB (by (with_reducible repeat (first|apply rA|apply rN|apply rD));exact HO_5.out) hb);replace HB := aM (lT (by repeat (first|(with_reducible first|exact HB.out|apply lA|apply lN|apply lD)|exact HB.out)) hb);(try clear hb)));go_ret;exact ⟨by first|rfl|(simp [*];done),by repeat (first|(with_reducible first|exact HB.out|apply lA|apply lN|apply lD)|exact HB.out)⟩
           ·rw [if_neg c34] at H;have c34b0 : (t235 == t227) = false := beq_eq_false_iff_ne.mpr c34;have c34b1 : (t235 != t227) = true := bne_iff_ne.mpr c34;exact absurd ((Option.some.inj H).trans hr_) (by decide)
      ·rw [if_neg c18] at H;have c18b0 : (t229 == t227) = false := beq_eq_false_iff_ne.mpr c18;have c18b1 : (t229 != t227) = true := bne_iff_ne.mpr c18;exact absurd ((Option.some.inj H).trans hr_) (by decide)
def laws_FnExactReadRow.Pure : Prop := ∀ (a0 : ByteArray),(a0.size ≤ 140737488351232) → ∃ k,laws_FnExactReadRow.f k a0 = some true
end Go.Proofs.YtbinfdheapjpnaaDoor.P
