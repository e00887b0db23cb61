/- Written by a program in this session: each theorem here says that a Go function computes the Lean function beside it, or that a law's row holds, under the conditions that the theorem itself states. -/
import Derived.Test.YtbinfdheapjpnaaDoorZPx0
import Derived.Test.YtbinfdheapjpnaaDoorZPx1
import Derived.Test.YtbinfdheapjpnaaDoorZPx3
namespace Go.Proofs.YtbinfdheapjpnaaDoor.P
open Go.RowKit Go.Proofs.YtbinfdheapjpnaaDoorW.PrintWords Go.Proofs.YtbinfdheapjpnaaDoorW.PrintLast Go.Proofs.YtbinfdheapjpnaaDoorW.PrintMore
attribute [local go_sem] max2_int min2_int max_two min_two max_three min_three max_four min_four   -- for this text's walks alone
set_option linter.unusedVariables false
set_option linter.unusedSimpArgs false
mutual
def impl_readRow.l0 : Nat → ByteArray → List ByteArray → List Int → Bool → Int → Option (List ByteArray × Bool)
 | 0,_,_,_,_,_ => none
 | k + 1,x0,x4,x5,x6,x7 => if x7 < (x0.size : Int) then (if 0 ≤ x7 then (if (bt x0 x7) = 34 then (if x6 = true then (if (wrap64 (x7 + 1)) < (x0.size : Int) then (if 0 ≤ (wrap64 (x7 + 1)) then (impl_readRow.j1 k x0 x4 x5 x6 x7 ((bt x0 (wrap64 (x7 + 1))) == 34)) else (none)) else (impl_readRow.j1 k x0 x4 x5 x6 x7 false)) else (impl_readRow.j1 k x0 x4 x5 x6 x7 false)) else (impl_readRow.j1 k x0 x4 x5 x6 x7 false)) else (none)) else (if x4.length < 8796093022208 then ((some (x4 ++ [strOfNums x5] : List ByteArray)).bind fun y188 => ((impl_writeRow.f k y188).bind fun t191 => (some (y188,(t191.toList == x0.toList))))) else (none))
def impl_readRow.j1 : Nat → ByteArray → List ByteArray → List Int → Bool → Int → Bool → Option (List ByteArray × Bool)
 | 0,_,_,_,_,_,_ => none
 | k + 1,x0,x4,x5,x6,x7,x25 => if x25 = true then (if x5.length < 140737488355328 then (impl_readRow.l0 k x0 x4 (x5 ++ [34]) x6 (wrap64 ((wrap64 (x7 + 1)) + 1))) else (none)) else (if 0 ≤ x7 then (if x7 < (x0.size : Int) then (if (bt x0 x7) = 34 then (impl_readRow.l0 k x0 x4 x5 (!x6) (wrap64 (x7 + 1))) else (if (bt x0 x7) = 44 then (if x6 = true then (if x5.length < 140737488355328 then (impl_readRow.l0 k x0 x4 (x5 ++ [bt x0 x7]) x6 (wrap64 (x7 + 1))) else (none)) else (if x4.length < 8796093022208 then (impl_readRow.l0 k x0 (x4 ++ [strOfNums x5]) (([] : List Int)) x6 (wrap64 (x7 + 1))) else (none))) else (if x5.length < 140737488355328 then (impl_readRow.l0 k x0 x4 (x5 ++ [bt x0 x7]) x6 (wrap64 (x7 + 1))) else (none)))) else (none)) else (none))
end
def impl_readRow.f (k : Nat) (a0 : ByteArray) : Option (List ByteArray × Bool) := (impl_arePrintable.f k a0).bind fun t181 => (if t181 = true then (impl_readRow.l0 k a0 (([] : List ByteArray)) (([] : List Int)) false 0) else (some (([] : List ByteArray),false)))
theorem impl_readRow.mono_l : ∀ k,(∀ y0 y1 y2 y3 y4,LeO (impl_readRow.l0 k y0 y1 y2 y3 y4) (impl_readRow.l0 (k + 1) y0 y1 y2 y3 y4)) ∧ (∀ y0 y1 y2 y3 y4 y5,LeO (impl_readRow.j1 k y0 y1 y2 y3 y4 y5) (impl_readRow.j1 (k + 1) y0 y1 y2 y3 y4 y5))
 | 0 => ⟨fun _ _ _ _ _ r h => by simp [impl_readRow.l0] at h,fun _ _ _ _ _ _ r h => by simp [impl_readRow.j1] at h⟩
 | k + 1 => by
  obtain ⟨ih0,ih1⟩ := impl_readRow.mono_l k
  refine ⟨?_,?_⟩
  ·intro y0 y1 y2 y3 y4
   unfold impl_readRow.l0
   repeat' first
   | (with_reducible exact ih0 _ _ _ _ _)
   | (with_reducible exact ih1 _ _ _ _ _ _)
   | (with_reducible exact impl_arePrintable.mono _ _)
   | (with_reducible exact impl_writeRow.mono _ _)
   | (with_reducible exact LeO.refl _)
   | (with_reducible exact LeO.none _)
   | (with_reducible refine LeO.ite ?_ ?_)
   | (with_reducible refine LeO.bind ?_ (fun _ => ?_))
   | exact ih0 _ _ _ _ _
   | exact ih1 _ _ _ _ _ _
   | exact impl_arePrintable.mono _ _
   | exact impl_writeRow.mono _ _
   | exact LeO.none _
   | refine LeO.ite ?_ ?_
   | refine LeO.bind ?_ (fun _ => ?_)
  ·intro y0 y1 y2 y3 y4 y5
   unfold impl_readRow.j1
   repeat' first
   | (with_reducible exact ih0 _ _ _ _ _)
   | (with_reducible exact ih1 _ _ _ _ _ _)
   | (with_reducible exact impl_arePrintable.mono _ _)
   | (with_reducible exact impl_writeRow.mono _ _)
   | (with_reducible exact LeO.refl _)
   | (with_reducible exact LeO.none _)
   | (with_reducible refine LeO.ite ?_ ?_)
   | (with_reducible refine LeO.bind ?_ (fun _ => ?_))
   | exact ih0 _ _ _ _ _
   | exact ih1 _ _ _ _ _ _
   | exact impl_arePrintable.mono _ _
   | exact impl_writeRow.mono _ _
   | exact LeO.none _
   | refine LeO.ite ?_ ?_
   | refine LeO.bind ?_ (fun _ => ?_)
theorem impl_readRow.mono : ∀ a0 k,LeO (impl_readRow.f k a0) (impl_readRow.f (k + 1) a0) := by
 intro a0 k
 obtain ⟨ih0,ih1⟩ := impl_readRow.mono_l k
 unfold impl_readRow.f
 repeat' first
   | (with_reducible exact ih0 _ _ _ _ _)
   | (with_reducible exact ih1 _ _ _ _ _ _)
   | (with_reducible exact impl_arePrintable.mono _ _)
   | (with_reducible exact impl_writeRow.mono _ _)
   | (with_reducible exact LeO.refl _)
   | (with_reducible exact LeO.none _)
   | (with_reducible refine LeO.ite ?_ ?_)
   | (with_reducible refine LeO.bind ?_ (fun _ => ?_))
   | exact ih0 _ _ _ _ _
   | exact ih1 _ _ _ _ _ _
   | exact impl_arePrintable.mono _ _
   | exact impl_writeRow.mono _ _
   | exact LeO.none _
   | refine LeO.ite ?_ ?_
   | refine LeO.bind ?_ (fun _ => ?_)
set_option maxHeartbeats 8000000 in
set_option maxRecDepth 100000 in
theorem impl_readRow.calls (k : Nat) (a0 : ByteArray) (r1 : List ByteArray) (r2 : Bool) (w : World) (hG : Gm w) (h : impl_readRow.f k a0 = some (r1,r2)) :
  Calls Tryd.prog 28 #[.string a0] w fun e w' => ∃ v0_ : Value,e = .returned (.tuple #[v0_,.bool r2]) ∧ Kd.R Kd.string 9 w' w.heap.size (fun _ => True) v0_ r1 ∧ Below w.heap.size w w' := by
 have HB := aM (Below.refl w.heap.size w);have HG := aM hG;clear hG;have H : ((impl_arePrintable.f k a0).bind fun t181 => (if t181 = true then (impl_readRow.l0 k a0 (([] : List ByteArray)) (([] : List Int)) false 0) else (some (([] : List ByteArray),false)))) = some (r1,r2) := h;clear h;obtain ⟨t181,A2,H⟩ := bE_ H
 by_cases c3 : t181 = true
 ·subst c3;rw [if_pos rfl] at H;obtain ⟨y182,hy182⟩ : ∃ y_ : List ByteArray,y_ = (([] : List ByteArray)) := ⟨_,rfl⟩;replace H : (impl_readRow.l0 k a0 y182 (([] : List Int)) false 0) = some (r1,r2) := (by first|(rw [hy182];with_reducible exact H)|(have H2_ := (Option.bind_some _ _).symm.trans H;rw [hy182];with_reducible exact H2_)|(have H2_ := (Option.bind_some _ _).symm.trans H;with_reducible exact H2_)|with_reducible exact H|(rw [hy182];exact H)|exact H);have Ny182 := aM hy182;clear hy182;obtain ⟨y185,hy185⟩ : ∃ y_ : List Int,y_ = (([] : List Int)) := ⟨_,rfl⟩;replace H : (impl_readRow.l0 k a0 y182 y185 false 0) = some (r1,r2) := (by first|(rw [hy185];with_reducible exact H)|(have H2_ := (Option.bind_some _ _).symm.trans H;rw [hy185];with_reducible exact H2_)|(have H2_ := (Option.bind_some _ _).symm.trans H;with_reducible exact H2_)|with_reducible exact H|(rw [hy185];exact H)|exact H);have Ny185 := aM hy185;clear hy185;have H' := aM H;clear H;go_enter Tryd.func28,Tryd.ntmps28;go_wp2_with (first|((with_reducible refine gate_callee (f := 30) rfl ?_);refine goesL_ (some 9) rfl rfl Tryd.func30 (by kernel_rfl) rfl #[.string a0] rfl (by (try simp only [mT,mC,mN]);first|done|rfl|(simp only [xD,xT];rfl)) ?_;(with_reducible refine (impl_arePrintable.calls k a0 true _ A2.out).mono ?_);rintro e w' ⟨rfl,⟨nd,rfl⟩⟩;refine ⟨_,rfl,?_⟩)|((with_reducible refine gate_dst (N := 11) rfl ?_);(try (refine gate_guard (by rfl) ?_;dsimp only));refine Kd.R_lit Kd.string _ 9 ?hg (N := 11) ?hd (xs := ([] : List ByteArray)) (inner := []) (ok := fun _ => True) (okp := fun _ => True) ?hr ?hp (fun _ hk => hk) trivial (Below.refl _ _) (Nat.le_refl _) (by simp) ?_;(case hd => rfl);(case hg => rfl);(case hr => first|(go_simp;done)|(go_simp;rfl));(case hp => exact (Reps.none _ _));intro v183 w4 ho5 hb hg_ hnew_;clear hg_ hnew_;(first|rw [← Ny182.out] at ho5|(simp only [Int.reduceToNat] at ho5;rw [← Ny182.out] at ho5));have HO184 := aM (Kd.R_lower ho5 (lZ (by repeat (first|(with_reducible first|exact HB.out|apply lA|apply lN|apply lD)|exact HB.out))));replace HB := aM (lT (by repeat (first|(with_reducible first|exact HB.out|apply lA|apply lN|apply lD)|exact HB.out)) hb);clear hb ho5)|((with_reducible refine gate_dst (N := 12) rfl ?_);(try (refine gate_guard (by rfl) ?_;dsimp only));refine Kd.R_lit (Kd.int .u8) _ 5 ?hg (N := 12) ?hd (xs := ([] : List Int)) (inner := []) (ok := fun _ => True) (okp := fun _ => True) ?hr ?hp (fun _ hk => hk) trivial (Below.refl _ _) (Nat.le_refl _) (by simp) ?_;(case hd => rfl);(case hg => rfl);(case hr => first|(go_simp;done)|(go_simp;rfl));(case hp => exact (Reps.none _ _));intro v186 w6 ho7 hb hg_ hnew_;clear hg_ hnew_;(first|rw [← Ny185.out] at ho7|(simp only [Int.reduceToNat] at ho7;rw [← Ny185.out] at ho7));have HO187 := aM (Kd.R_lower ho7 (lZ (by repeat (first|(with_reducible first|exact HB.out|apply lA|apply lN|apply lD)|exact HB.out))));replace HO184 := aM (rB (by (with_reducible repeat (first|apply rA|apply rN|apply rD));exact HO184.out) hb);replace HB := aM (lT (by repeat (first|(with_reducible first|exact HB.out|apply lA|apply lN|apply lD)|exact HB.out)) hb);clear hb ho7));go_loopg [4,5,6,7] k (fun kq v4 v5 v6 v7 w' => ∃ (x4_1 : List ByteArray) (x5_1 : List Int) (x6_1 : Bool) (x7_1 : Int),v6 = .bool x6_1 ∧ v7 = .int .i64 x7_1 ∧ Aside0 (impl_readRow.l0 kq a0 x4_1 x5_1 x6_1 x7_1 = some (r1,r2)) ∧ Aside0 (kq ≤ k) ∧ Aside0 (Kd.R Kd.string 9 w' w.heap.size (fun _ => True) v4 x4_1) ∧ Aside0 (Kd.R (Kd.int .u8) 5 w' w.heap.size (fun _ => True) v5 x5_1) ∧ Aside0 (Below w.heap.size w w'))
  case atStart => exact ⟨(y182),(y185),(false),(0),(by first|rfl|(simp [*];done)),(by first|rfl|(simp [*];done)),H',⟨Nat.le_refl _⟩,⟨by (with_reducible repeat (first|apply rA|apply rN|apply rD));exact HO184.out⟩,⟨by (with_reducible repeat (first|apply rA|apply rN|apply rD));exact HO187.out⟩,⟨by repeat (first|(with_reducible first|exact HB.out|apply lA|apply lN|apply lD)|exact HB.out)⟩⟩
  case round =>
   clear H';(try clear c2);(try clear p2);(try clear c3);obtain ⟨x4_1,x5_1,x6_1,x7_1,rfl,rfl,HA,HK1,HO_4,HO_5,HB⟩ := hrel
   cases gk with
   | zero => exact absurd HA.out (by simp [impl_readRow.l0])
   | succ k1 =>
    have H := HA.out;clear HA;simp only [impl_readRow.l0] at H
    by_cases c8 : x7_1 < (a0.size : Int)
    ·rw [if_pos c8] at H;have c8b0 : decide (x7_1 < (a0.size : Int)) = true := dT c8;clear c8;have HC9 := aM H;clear H;go_upto_region 8 with (fail);go_cut [25] (fun v25 wc => ∃ (kq : Nat) (x25_8 : Bool),v25 = .bool x25_8 ∧ Aside0 (impl_readRow.j1 kq a0 x4_1 x5_1 x6_1 x7_1 x25_8 = some (r1,r2)) ∧ Aside0 (kq ≤ k1) ∧ Aside0 (Kd.R Kd.string 9 wc w.heap.size (fun _ => True) u4 x4_1) ∧ Aside0 (Kd.R (Kd.int .u8) 5 wc w.heap.size (fun _ => True) u5 x5_1) ∧ Aside0 (Below w.heap.size w wc))
     case first =>
      have H := HC9.out;clear HC9
      by_cases c10 : 0 ≤ x7_1
      rotate_left;rw [if_neg c10] at H;exact absurd H (by simp);rw [if_pos c10] at H;have c10b0 : decide (0 ≤ x7_1) = true := dT c10;clear c10;(first|rw [c10b0]|(simp only [i64_w,i32_w];rw [c10b0])|skip)
      by_cases c12 : (bt a0 x7_1) = 34
      focus
       rw [if_pos c12] at H;have c12b0 : ((bt a0 x7_1) == 34) = true := beq_iff_eq.mpr c12;have c12b1 : ((bt a0 x7_1) != 34) = false := bne_eq_false_iff_eq.mpr c12;clear c12
       by_cases c13 : x6_1 = true
       focus
        subst c13;rw [if_pos rfl] at H
        by_cases c14 : (wrap64 (x7_1 + 1)) < (a0.size : Int)
        focus
         rw [if_pos c14] at H;have c14b0 : decide ((wrap64 (x7_1 + 1)) < (a0.size : Int)) = true := dT c14;clear c14;obtain ⟨ji15,hji15⟩ : ∃ j_ : Int,(wrap64 (x7_1 + 1)) = j_ := ⟨_,rfl⟩;replace H : (if 0 ≤ (ji15) then (impl_readRow.j1 k1 a0 x4_1 x5_1 true x7_1 ((bt a0 (ji15)) == 34)) else (none)) = some (r1,r2) := (by first|(rw [hji15] at H;exact H)|(simp only [hji15] at H ⊢;exact H));(try rw [hji15] at c14b0);have hji15w : (IntKind.i64.wrap (x7_1 + 1)) = ji15 := (i64_w _).trans hji15
         by_cases c16 : 0 ≤ (ji15)
         rotate_left;rw [if_neg c16] at H;exact absurd H (by simp);rw [if_pos c16] at H;have c16b0 : decide (0 ≤ (ji15)) = true := dT c16;clear c16;have H' := aM H;clear H
        rotate_left
        focus
         rw [if_neg c14] at H;have c14b0 : decide ((wrap64 (x7_1 + 1)) < (a0.size : Int)) = false := dF c14;clear c14;have H' := aM H;clear H
       rotate_left 2
       focus
        replace c13 := Bool.eq_false_iff.mpr c13;subst c13;rw [if_neg Bool.false_ne_true] at H;have H' := aM H;clear H
      rotate_left 3
      focus
       rw [if_neg c12] at H;have c12b0 : ((bt a0 x7_1) == 34) = false := beq_eq_false_iff_ne.mpr c12;have c12b1 : ((bt a0 x7_1) != 34) = true := bne_iff_ne.mpr c12;have H' := aM H;clear H
      all_goals
       (try (have p01 : 0 ≤ (x7_1 : Int) := oD (by assumption);have q01 : x7_1 < (a0.size : Int) := oD (by assumption);have hx01 := bt_at a0 x7_1;replace p01 := eq_true p01;replace q01 := eq_true q01));(try (have p02 : 0 ≤ ((ji15) : Int) := oD (by assumption);have q02 : (ji15) < (a0.size : Int) := oD (by assumption);have hx02 := bt_at a0 (ji15);replace p02 := eq_true p02;replace q02 := eq_true q02));go_wp2;go_meet
       case rel => first|(exact ⟨_,(((bt a0 (ji15)) == 34)),(by first|rfl|(simp;done)|(simp [my_isEmpty];done)|(simp only [← hji15] <;> (first|rfl|simp))|(simp [*];done)),H',⟨by have := HK1.out;first|omega|exact Nat.le_refl _⟩,⟨by (with_reducible repeat (first|apply rA|apply rN|apply rD));exact HO_4.out⟩,⟨by (with_reducible repeat (first|apply rA|apply rN|apply rD));exact HO_5.out⟩,⟨by repeat (first|(with_reducible first|exact HB.out|apply lA|apply lN|apply lD)|exact HB.out)⟩⟩)|(exact ⟨_,(false),(by first|rfl|(simp [*];done)),H',⟨by have := HK1.out;first|omega|exact Nat.le_refl _⟩,⟨by (with_reducible repeat (first|apply rA|apply rN|apply rD));exact HO_4.out⟩,⟨by (with_reducible repeat (first|apply rA|apply rN|apply rD));exact HO_5.out⟩,⟨by repeat (first|(with_reducible first|exact HB.out|apply lA|apply lN|apply lD)|exact HB.out)⟩⟩)
     case rest =>
      clear HC9;(try clear c1);(try clear p1);(try clear q1);(try clear hx1);(try clear c2);(try clear p2);(try clear c3);(try clear p6);(try clear c8);(try clear c8b0);(try clear c10);(try clear c10b0);(try clear p11);(try clear q11);(try clear hx11);(try clear c12);(try clear c12b0);(try clear c12b1);(try clear c13);(try clear c14);(try clear c14b0);(try clear c16);(try clear c16b0);(try clear p17);(try clear q17);(try clear hx17);(try clear p11);(try clear p17);(try clear p2);(try clear q11);(try clear q17);obtain ⟨kq,x25_8,rfl,HA,HJ8,HO_4,HO_5,HB⟩ := hcut
      cases kq with
      | zero => exact absurd HA.out (by simp [impl_readRow.j1])
      | succ kj8 =>
       have H := HA.out;clear HA;simp only [impl_readRow.j1] at H
       by_cases c18 : x25_8 = true
       focus
        subst c18;rw [if_pos rfl] at H
        by_cases c19 : x5_1.length < 140737488355328
        rotate_left;rw [if_neg c19] at H;exact absurd H (by simp);rw [if_pos c19] at H;have LMc19 := aM c19;clear c19;obtain ⟨y192,hy192⟩ : ∃ y_ : List Int,y_ = (x5_1 ++ [34]) := ⟨_,rfl⟩;replace H : (impl_readRow.l0 kj8 a0 x4_1 y192 x6_1 (wrap64 ((wrap64 (x7_1 + 1)) + 1))) = some (r1,r2) := (by first|(rw [hy192];with_reducible exact H)|(have H2_ := (Option.bind_some _ _).symm.trans H;rw [hy192];with_reducible exact H2_)|(have H2_ := (Option.bind_some _ _).symm.trans H;with_reducible exact H2_)|with_reducible exact H|(rw [hy192];exact H)|exact H);have Ny192 := aM hy192;clear hy192;have H' := aM H;clear H
       rotate_left
       focus
        replace c18 := Bool.eq_false_iff.mpr c18;subst c18;rw [if_neg Bool.false_ne_true] at H
        by_cases c21 : 0 ≤ x7_1
        rotate_left;rw [if_neg c21] at H;exact absurd H (by simp);rw [if_pos c21] at H;have c21b0 : decide (0 ≤ x7_1) = true := dT c21;clear c21
        by_cases c22 : x7_1 < (a0.size : Int)
        rotate_left;rw [if_neg c22] at H;exact absurd H (by simp);rw [if_pos c22] at H;have c22b0 : decide (x7_1 < (a0.size : Int)) = true := dT c22;clear c22
        by_cases c24 : (bt a0 x7_1) = 34
        focus
         rw [if_pos c24] at H;have c24b0 : ((bt a0 x7_1) == 34) = true := beq_iff_eq.mpr c24;have c24b1 : ((bt a0 x7_1) != 34) = false := bne_eq_false_iff_eq.mpr c24;clear c24;have H' := aM H;clear H
        rotate_left
        focus
         rw [if_neg c24] at H;have c24b0 : ((bt a0 x7_1) == 34) = false := beq_eq_false_iff_ne.mpr c24;have c24b1 : ((bt a0 x7_1) != 34) = true := bne_iff_ne.mpr c24
         by_cases c26 : (bt a0 x7_1) = 44
         focus
          rw [if_pos c26] at H;have c26b0 : ((bt a0 x7_1) == 44) = true := beq_iff_eq.mpr c26;have c26b1 : ((bt a0 x7_1) != 44) = false := bne_eq_false_iff_eq.mpr c26;clear c26
          by_cases c27 : x6_1 = true
          focus
           subst c27;rw [if_pos rfl] at H
           by_cases c29 : x5_1.length < 140737488355328
           rotate_left;rw [if_neg c29] at H;exact absurd H (by simp);rw [if_pos c29] at H;have LMc29 := aM c29;clear c29;obtain ⟨y195,hy195⟩ : ∃ y_ : List Int,y_ = (x5_1 ++ [bt a0 x7_1]) := ⟨_,rfl⟩;replace H : (impl_readRow.l0 kj8 a0 x4_1 y195 true (wrap64 (x7_1 + 1))) = some (r1,r2) := (by first|(rw [hy195];with_reducible exact H)|(have H2_ := (Option.bind_some _ _).symm.trans H;rw [hy195];with_reducible exact H2_)|(have H2_ := (Option.bind_some _ _).symm.trans H;with_reducible exact H2_)|with_reducible exact H|(rw [hy195];exact H)|exact H);have Ny195 := aM hy195;clear hy195;have H' := aM H;clear H
          rotate_left
          focus
           replace c27 := Bool.eq_false_iff.mpr c27;subst c27;rw [if_neg Bool.false_ne_true] at H
           by_cases c31 : x4_1.length < 8796093022208
           rotate_left;rw [if_neg c31] at H;exact absurd H (by simp);rw [if_pos c31] at H;have LMc31 := aM c31;clear c31;obtain ⟨y198,hy198⟩ : ∃ y_ : List ByteArray,y_ = (x4_1 ++ [strOfNums x5_1]) := ⟨_,rfl⟩;replace H : (impl_readRow.l0 kj8 a0 y198 (([] : List Int)) false (wrap64 (x7_1 + 1))) = some (r1,r2) := (by first|(rw [hy198];with_reducible exact H)|(have H2_ := (Option.bind_some _ _).symm.trans H;rw [hy198];with_reducible exact H2_)|(have H2_ := (Option.bind_some _ _).symm.trans H;with_reducible exact H2_)|with_reducible exact H|(rw [hy198];exact H)|exact H);have Ny198 := aM hy198;clear hy198;obtain ⟨y201,hy201⟩ : ∃ y_ : List Int,y_ = (([] : List Int)) := ⟨_,rfl⟩;replace H : (impl_readRow.l0 kj8 a0 y198 y201 false (wrap64 (x7_1 + 1))) = some (r1,r2) := (by first|(rw [hy201];with_reducible exact H)|(have H2_ := (Option.bind_some _ _).symm.trans H;rw [hy201];with_reducible exact H2_)|(have H2_ := (Option.bind_some _ _).symm.trans H;with_reducible exact H2_)|with_reducible exact H|(rw [hy201];exact H)|exact H);have Ny201 := aM hy201;clear hy201;have H' := aM H;clear H
         rotate_left 2
         focus
          rw [if_neg c26] at H;have c26b0 : ((bt a0 x7_1) == 44) = false := beq_eq_false_iff_ne.mpr c26;have c26b1 : ((bt a0 x7_1) != 44) = true := bne_iff_ne.mpr c26
          by_cases c37 : x5_1.length < 140737488355328
          rotate_left;rw [if_neg c37] at H;exact absurd H (by simp);rw [if_pos c37] at H;have LMc37 := aM c37;clear c37;obtain ⟨y204,hy204⟩ : ∃ y_ : List Int,y_ = (x5_1 ++ [bt a0 x7_1]) := ⟨_,rfl⟩;replace H : (impl_readRow.l0 kj8 a0 x4_1 y204 x6_1 (wrap64 (x7_1 + 1))) = some (r1,r2) := (by first|(rw [hy204];with_reducible exact H)|(have H2_ := (Option.bind_some _ _).symm.trans H;rw [hy204];with_reducible exact H2_)|(have H2_ := (Option.bind_some _ _).symm.trans H;with_reducible exact H2_)|with_reducible exact H|(rw [hy204];exact H)|exact H);have Ny204 := aM hy204;clear hy204;have H' := aM H;clear H
       all_goals
        first
         |
          have p01 : 0 ≤ (x7_1 : Int) := oD (by assumption);have q01 : x7_1 < (a0.size : Int) := oD (by assumption);have hx01 := bt_at a0 x7_1;replace p01 := eq_true p01;replace q01 := eq_true q01;have p01 : 0 ≤ (x7_1 : Int) := oD (by assumption);have q01 : x7_1 < (a0.size : Int) := oD (by assumption);have hx01 := bt_at a0 x7_1;replace p01 := eq_true p01;replace q01 := eq_true q01;have hcv32 := own_string (P := Tryd.prog) Tryd.underlying43 Tryd.underlying5 Tryd.underlying9 (Kd.own_of_R HO_5.out);go_wp2_with (first|((with_reducible refine gate_builtin (b := .append) (xs := #[.tmp 68,.tmp 71]) rfl ?_);(try (refine gate_guard (by rfl) ?_;dsimp only));at_builtin;refine Kd.R_append Kd.string (w0 := w) w.heap.size rfl (.tmp 68) (.tmp 71) 25 9 (.string ⟨#[]⟩) 16 rfl Tryd.underlying25 info9 rfl (by decide) (by omega) u4 x4_1 (strOfNums x5_1) [.string (strOfNums x5_1)] (fun _ => True) (fun _ => False) rfl rfl ?aP (fun _ hk => hk.elim) ?aF ?aO ?aB ?aS ?aL ?_;(case aP => exact rfl);(case aB => exact (by repeat (first|(with_reducible first|exact HB.out|apply lA|apply lN|apply lD)|exact HB.out)));(case aF => exact (fun _ _ => trivial));(case aO => exact (by (with_reducible repeat (first|apply rA|apply rN|apply rD));exact HO_4.out));(case aS => exact (lZ (by repeat (first|(with_reducible first|exact HB.out|apply lA|apply lN|apply lD)|exact HB.out))));(case aL => have := LMc31.out;omega);intro v199 w33 ho hb hg hat;rw [← Ny198.out] at ho;have n0_ := aM (Kd.R_over' (by (with_reducible repeat (first|apply rA|apply rN|apply rD));exact HO_5.out) (Kd.R_typed (by (with_reducible repeat (first|apply rA|apply rN|apply rD));exact HO_4.out)) (by decide) hg);have n1_ := aM (hb);have n2_ := aM (ho);clear HO_5;clear HB;clear HO_4;have HO_5 := n0_;have HB := n1_;have HO200 := n2_;clear n0_ n1_ n2_;clear ho hb hg hat)|((with_reducible refine gate_dst (N := 73) rfl ?_);(try (refine gate_guard (by rfl) ?_;dsimp only));refine Kd.R_lit (Kd.int .u8) _ 5 ?hg (N := 73) ?hd (xs := ([] : List Int)) (inner := []) (ok := fun _ => True) (okp := fun _ => True) ?hr ?hp (fun _ hk => hk) trivial (Below.refl _ _) (Nat.le_refl _) (by simp) ?_;(case hd => rfl);(case hg => rfl);(case hr => first|(go_simp;done)|(go_simp;rfl));(case hp => exact (Reps.none _ _));intro v202 w34 ho35 hb hg_ hnew_;clear hg_ hnew_;(first|rw [← Ny201.out] at ho35|(simp only [Int.reduceToNat] at ho35;rw [← Ny201.out] at ho35));have HO203 := aM (Kd.R_lower (Kd.R_new' ho35 (Kd.R_lt (by (with_reducible repeat (first|apply rA|apply rN|apply rD));exact HO_5.out))) (lZ (by repeat (first|(with_reducible first|exact HB.out|apply lA|apply lN|apply lD)|exact HB.out))));replace HO_5 := aM (Kd.R_elder' (by (with_reducible repeat (first|apply rA|apply rN|apply rD));exact HO_5.out) (Kd.R_base ho35) hb);replace HO200 := aM (rB (by (with_reducible repeat (first|apply rA|apply rN|apply rD));exact HO200.out) hb);replace HB := aM (lT (by repeat (first|(with_reducible first|exact HB.out|apply lA|apply lN|apply lD)|exact HB.out)) hb);clear hb ho35));go_roundg kj8
          case measure => have := HK1.out;have := HJ8.out;omega
          case rel => exact ⟨(y198),(y201),(false),(wrap64 (x7_1 + 1)),(by first|rfl|(simp [*];done)),(by first|rfl|(simp [*];done)),H',⟨by have := HK1.out;have := HJ8.out;omega⟩,⟨by (with_reducible repeat (first|apply rA|apply rN|apply rD));exact HO200.out⟩,⟨by (with_reducible repeat (first|apply rA|apply rN|apply rD));exact Kd.R_mono HO203.out (fun _ hk => trivial)⟩,⟨by repeat (first|(with_reducible first|exact HB.out|apply lA|apply lN|apply lD)|exact HB.out)⟩⟩
         |
          (try (have p01 : 0 ≤ (x7_1 : Int) := oD (by assumption);have q01 : x7_1 < (a0.size : Int) := oD (by assumption);have hx01 := bt_at a0 x7_1;replace p01 := eq_true p01;replace q01 := eq_true q01));go_wp2_with (first|((with_reducible refine gate_builtin (b := .append) (xs := #[.tmp 19,.tmp 23]) rfl ?_);(try (refine gate_guard (by rfl) ?_;dsimp only));at_builtin;refine Kd.R_append (Kd.int .u8) (w0 := w) w.heap.size rfl (.tmp 19) (.tmp 23) 43 5 (.int .u8 0) 1 rfl Tryd.underlying43 info5 rfl (by decide) (by omega) u5 x5_1 (bt a0 x7_1) [.int .u8 (bt a0 x7_1)] (fun _ => True) (fun _ => False) rfl rfl ?aP (fun _ hk => hk.elim) ?aF ?aO ?aB ?aS ?aL ?_;(case aP => exact rfl);(case aB => exact (by repeat (first|(with_reducible first|exact HB.out|apply lA|apply lN|apply lD)|exact HB.out)));(case aF => exact (fun _ _ => trivial));(case aO => exact (by (with_reducible repeat (first|apply rA|apply rN|apply rD));exact HO_5.out));(case aS => exact (lZ (by repeat (first|(with_reducible first|exact HB.out|apply lA|apply lN|apply lD)|exact HB.out))));(case aL => have := LMc37.out;omega);intro v205 w38 ho hb hg hat;rw [← Ny204.out] at ho;have n0_ := aM (Kd.R_over' (by (with_reducible repeat (first|apply rA|apply rN|apply rD));exact HO_4.out) (Kd.R_typed (by (with_reducible repeat (first|apply rA|apply rN|apply rD));exact HO_5.out)) (by decide) hg);have n1_ := aM (hb);have n2_ := aM (ho);clear HO_4;clear HB;clear HO_5;have HO_4 := n0_;have HB := n1_;have HO206 := n2_;clear n0_ n1_ n2_;clear ho hb hg hat)|((with_reducible refine gate_builtin (b := .append) (xs := #[.tmp 19,.tmp 23]) rfl ?_);(try (refine gate_guard (by rfl) ?_;dsimp only));at_builtin;refine Kd.R_append (Kd.int .u8) (w0 := w) w.heap.size rfl (.tmp 19) (.tmp 23) 43 5 (.int .u8 0) 1 rfl Tryd.underlying43 info5 rfl (by decide) (by omega) u5 x5_1 (bt a0 x7_1) [.int .u8 (bt a0 x7_1)] (fun _ => True) (fun _ => False) rfl rfl ?aP (fun _ hk => hk.elim) ?aF ?aO ?aB ?aS ?aL ?_;(case aP => exact rfl);(case aB => exact (by repeat (first|(with_reducible first|exact HB.out|apply lA|apply lN|apply lD)|exact HB.out)));(case aF => exact (fun _ _ => trivial));(case aO => exact (by (with_reducible repeat (first|apply rA|apply rN|apply rD));exact HO_5.out));(case aS => exact (lZ (by repeat (first|(with_reducible first|exact HB.out|apply lA|apply lN|apply lD)|exact HB.out))));(case aL => have := LMc29.out;omega);intro v196 w30 ho hb hg hat;rw [← Ny195.out] at ho;have n0_ := aM (Kd.R_over' (by (with_reducible repeat (first|apply rA|apply rN|apply rD));exact HO_4.out) (Kd.R_typed (by (with_reducible repeat (first|apply rA|apply rN|apply rD));exact HO_5.out)) (by decide) hg);have n1_ := aM (hb);have n2_ := aM (ho);clear HO_4;clear HB;clear HO_5;have HO_4 := n0_;have HB := n1_;have HO197 := n2_;clear n0_ n1_ n2_;clear ho hb hg hat)|((with_reducible refine gate_builtin (b := .append) (xs := #[.tmp 47,.tmp 48]) rfl ?_);(try (refine gate_guard (by rfl) ?_;dsimp only));at_builtin;refine Kd.R_append (Kd.int .u8) (w0 := w) w.heap.size rfl (.tmp 47) (.tmp 48) 43 5 (.int .u8 0) 1 rfl Tryd.underlying43 info5 rfl (by decide) (by omega) u5 x5_1 34 [.int .u8 34] (fun _ => True) (fun _ => False) rfl rfl ?aP (fun _ hk => hk.elim) ?aF ?aO ?aB ?aS ?aL ?_;(case aP => exact rfl);(case aB => exact (by repeat (first|(with_reducible first|exact HB.out|apply lA|apply lN|apply lD)|exact HB.out)));(case aF => exact (fun _ _ => trivial));(case aO => exact (by (with_reducible repeat (first|apply rA|apply rN|apply rD));exact HO_5.out));(case aS => exact (lZ (by repeat (first|(with_reducible first|exact HB.out|apply lA|apply lN|apply lD)|exact HB.out))));(case aL => have := LMc19.out;omega);intro v193 w20 ho hb hg hat;rw [← Ny192.out] at ho;have n0_ := aM (Kd.R_over' (by (with_reducible repeat (first|apply rA|apply rN|apply rD));exact HO_4.out) (Kd.R_typed (by (with_reducible repeat (first|apply rA|apply rN|apply rD));exact HO_5.out)) (by decide) hg);have n1_ := aM (hb);have n2_ := aM (ho);clear HO_4;clear HB;clear HO_5;have HO_4 := n0_;have HB := n1_;have HO194 := n2_;clear n0_ n1_ n2_;clear ho hb hg hat));go_roundg kj8
          case measure => have := HK1.out;have := HJ8.out;omega
          case rel => first|(exact ⟨(x4_1),(y192),(x6_1),(wrap64 ((wrap64 (x7_1 + 1)) + 1)),(by first|rfl|(simp [*];done)),(by first|rfl|(simp [*];done)),H',⟨by have := HK1.out;have := HJ8.out;omega⟩,⟨by (with_reducible repeat (first|apply rA|apply rN|apply rD));exact HO_4.out⟩,⟨by (with_reducible repeat (first|apply rA|apply rN|apply rD));exact HO194.out⟩,⟨by repeat (first|(with_reducible first|exact HB.out|apply lA|apply lN|apply lD)|exact HB.out)⟩⟩)|(exact ⟨(x4_1),(x5_1),(!x6_1),(wrap64 (x7_1 + 1)),(by first|rfl|(simp [*];done)),(by first|rfl|(simp [*];done)),H',⟨by have := HK1.out;have := HJ8.out;omega⟩,⟨by (with_reducible repeat (first|apply rA|apply rN|apply rD));exact HO_4.out⟩,⟨by (with_reducible repeat (first|apply rA|apply rN|apply rD));exact HO_5.out⟩,⟨by repeat (first|(with_reducible first|exact HB.out|apply lA|apply lN|apply lD)|exact HB.out)⟩⟩)|(exact ⟨(x4_1),(y195),(true),(wrap64 (x7_1 + 1)),(by first|rfl|(simp [*];done)),(by first|rfl|(simp [*];done)),H',⟨by have := HK1.out;have := HJ8.out;omega⟩,⟨by (with_reducible repeat (first|apply rA|apply rN|apply rD));exact HO_4.out⟩,⟨by (with_reducible repeat (first|apply rA|apply rN|apply rD));exact HO197.out⟩,⟨by repeat (first|(with_reducible first|exact HB.out|apply lA|apply lN|apply lD)|exact HB.out)⟩⟩)|(exact ⟨(x4_1),(y204),(x6_1),(wrap64 (x7_1 + 1)),(by first|rfl|(simp [*];done)),(by first|rfl|(simp [*];done)),H',⟨by have := HK1.out;have := HJ8.out;omega⟩,⟨by (with_reducible repeat (first|apply rA|apply rN|apply rD));exact HO_4.out⟩,⟨by (with_reducible repeat (first|apply rA|apply rN|apply rD));exact HO206.out⟩,⟨by repeat (first|(with_reducible first|exact HB.out|apply lA|apply lN|apply lD)|exact HB.out)⟩⟩)
    ·rw [if_neg c8] at H;have c8b0 : decide (x7_1 < (a0.size : Int)) = false := dF c8;clear c8
     by_cases c39 : x4_1.length < 8796093022208
     ·rw [if_pos c39] at H;have LMc39 := aM c39;clear c39;obtain ⟨y188,hy188⟩ : ∃ y_ : List ByteArray,y_ = (x4_1 ++ [strOfNums x5_1]) := ⟨_,rfl⟩;replace H : ((impl_writeRow.f k1 y188).bind fun t191 => (some (y188,(t191.toList == a0.toList)))) = some (r1,r2) := (by first|(rw [hy188];with_reducible exact H)|(have H2_ := (Option.bind_some _ _).symm.trans H;rw [hy188];with_reducible exact H2_)|(have H2_ := (Option.bind_some _ _).symm.trans H;with_reducible exact H2_)|with_reducible exact H|(rw [hy188];exact H)|exact H);have Ny188 := aM hy188;clear hy188;obtain ⟨t191,A40,H⟩ := bE_ H;simp only [eS,eP] at H;obtain ⟨rfl,rfl⟩ := H;have hcv41 := own_string (P := Tryd.prog) Tryd.underlying43 Tryd.underlying5 Tryd.underlying9 (Kd.own_of_R HO_5.out);go_wp2_with (first|((with_reducible refine gate_builtin (b := .append) (xs := #[.tmp 74,.tmp 77]) rfl ?_);(try (refine gate_guard (by rfl) ?_;dsimp only));at_builtin;refine Kd.R_append Kd.string (w0 := w) w.heap.size rfl (.tmp 74) (.tmp 77) 25 9 (.string ⟨#[]⟩) 16 rfl Tryd.underlying25 info9 rfl (by decide) (by omega) u4 x4_1 (strOfNums x5_1) [.string (strOfNums x5_1)] (fun _ => True) (fun _ => False) rfl rfl ?aP (fun _ hk => hk.elim) ?aF ?aO ?aB ?aS ?aL ?_;(case aP => exact rfl);(case aB => exact (by repeat (first|(with_reducible first|exact HB.out|apply lA|apply lN|apply lD)|exact HB.out)));(case aF => exact (fun _ _ => trivial));(case aO => exact (by (with_reducible repeat (first|apply rA|apply rN|apply rD));exact HO_4.out));(case aS => exact (lZ (by repeat (first|(with_reducible first|exact HB.out|apply lA|apply lN|apply lD)|exact HB.out))));(case aL => have := LMc39.out;omega);intro v189 w42 ho hb hg hat;rw [← Ny188.out] at ho;have n0_ := aM (Kd.R_over' (by (with_reducible repeat (first|apply rA|apply rN|apply rD));exact HO_5.out) (Kd.R_typed (by (with_reducible repeat (first|apply rA|apply rN|apply rD));exact HO_4.out)) (by decide) hg);have n1_ := aM (hb);have n2_ := aM (ho);clear HO_5;clear HB;clear HO_4;have HO_5 := n0_;have HB := n1_;have HO190 := n2_;clear n0_ n1_ n2_;clear ho hb hg hat;obtain ⟨Ao43,co43,eo43⟩ := Kd.R_slice HO190.out;subst eo43)|((with_reducible refine gate_callee (f := 26) rfl ?_);refine goesL_ (some 81) rfl rfl Tryd.func26 (by kernel_rfl) rfl #[.slice Ao43 y188.length co43] rfl (by (try simp only [mT,mC,mN]);first|done|rfl|(simp only [xD,xT];rfl)) ?_;(with_reducible refine (impl_writeRow.calls k1 _ _ y188 t191 _ ?side1 ?side2 ?side3 A40.out).mono ?_);(case side1 => repeat (first|exact (rR HO190.out).2.2|(with_reducible first|refine cA ?_ _|refine cN ?_ _|refine cD ?_)));(case side2 => exact (rR HO190.out).2.1);(case side3 => exact Gm.below HG.out (by repeat (first|(with_reducible first|exact HB.out|apply lA|apply lN|apply lD)|exact HB.out)));rintro e w44 ⟨rfl,hb⟩;refine ⟨_,rfl,?_⟩;replace HO_5 := aM (rB (by (with_reducible repeat (first|apply rA|apply rN|apply rD));exact HO_5.out) hb);replace HO190 := aM (rB (by (with_reducible repeat (first|apply rA|apply rN|apply rD));exact HO190.out) hb);replace HB := aM (lT (by repeat (first|(with_reducible first|exact HB.out|apply lA|apply lN|apply lD)|exact HB.out)) hb);(try clear hb)));go_ret2;exact ⟨_,by first|rfl|(simp [*];done),by (with_reducible repeat (first|apply rA|apply rN|apply rD));exact HO190.out,by repeat (first|(with_reducible first|exact HB.out|apply lA|apply lN|apply lD)|exact HB.out)⟩
     ·rw [if_neg c39] at H;exact absurd H (by simp)
 ·replace c3 := Bool.eq_false_iff.mpr c3;subst c3;rw [if_neg Bool.false_ne_true] at H;simp only [eS,eP] at H;obtain ⟨rfl,rfl⟩ := H;go_enter Tryd.func28,Tryd.ntmps28;go_wp2_with (first|((with_reducible refine gate_callee (f := 30) rfl ?_);refine goesL_ (some 9) rfl rfl Tryd.func30 (by kernel_rfl) rfl #[.string a0] rfl (by (try simp only [mT,mC,mN]);first|done|rfl|(simp only [xD,xT];rfl)) ?_;(with_reducible refine (impl_arePrintable.calls k a0 false _ A2.out).mono ?_);rintro e w' ⟨rfl,⟨nd,rfl⟩⟩;refine ⟨_,rfl,?_⟩));go_ret2;exact ⟨_,by first|rfl|(simp [*];done),by first|exact Kd.R_nil _ _ _ _ _|exact Kd.N_nil _ _ _ _ _|exact Kd.V_nil _ _ _ _ _|exact Kd.Q_nil _ _ _ _ _|exact Kd.S_nil _ _ _ _ _,by repeat (first|(with_reducible first|exact HB.out|apply lA|apply lN|apply lD)|exact HB.out)⟩
def impl_ReadRow.f (k : Nat) (a0 : ByteArray) : Option (List ByteArray × Bool) := if (a0.size : Int) > 1000 then (some (([] : List ByteArray),false)) else ((impl_readRow.f k a0).bind fun bt207 => (if bt207.2 = true then (some (bt207.1,true)) else (some (([] : List ByteArray),false))))
theorem impl_ReadRow.mono : ∀ a0 k,LeO (impl_ReadRow.f k a0) (impl_ReadRow.f (k + 1) a0) := by
 intro a0 k
 unfold impl_ReadRow.f
 repeat' first
   | (with_reducible exact impl_readRow.mono _ _)
   | (with_reducible exact LeO.refl _)
   | (with_reducible exact LeO.none _)
   | (with_reducible refine LeO.ite ?_ ?_)
   | (with_reducible refine LeO.bind ?_ (fun _ => ?_))
   | exact impl_readRow.mono _ _
   | exact LeO.none _
   | refine LeO.ite ?_ ?_
   | refine LeO.bind ?_ (fun _ => ?_)
set_option maxHeartbeats 8000000 in
set_option maxRecDepth 100000 in
theorem impl_ReadRow.calls (k : Nat) (a0 : ByteArray) (r1 : List ByteArray) (r2 : Bool) (w : World) (hG : Gm w) (h : impl_ReadRow.f k a0 = some (r1,r2)) :
  Calls Tryd.prog 14 #[.string a0] w fun e w' => ∃ v0_ : Value,e = .returned (.tuple #[v0_,.bool r2]) ∧ Kd.R Kd.string 9 w' w.heap.size (fun _ => True) v0_ r1 ∧ Below w.heap.size w w' := by
 have HB := aM (Below.refl w.heap.size w);have HG := aM hG;clear hG;have H : (if (a0.size : Int) > 1000 then (some (([] : List ByteArray),false)) else ((impl_readRow.f k a0).bind fun bt207 => (if bt207.2 = true then (some (bt207.1,true)) else (some (([] : List ByteArray),false))))) = some (r1,r2) := h;clear h
 by_cases c2 : (a0.size : Int) > 1000
 focus
  rw [if_pos c2] at H;have c2b0 : decide (1000 < (a0.size : Int)) = true := dT c2;have c2b1 : decide (1000 < a0.size) = true := dT (by omega);clear c2;simp only [eS,eP] at H;obtain ⟨rfl,rfl⟩ := H
 rotate_left
 focus
  rw [if_neg c2] at H;have c2b0 : decide (1000 < (a0.size : Int)) = false := dF c2;have c2b1 : decide (1000 < a0.size) = false := dF (by omega);clear c2;replace H := Option.bind_eq_some_iff.mp H;obtain ⟨⟨t207,t208⟩,A30,H⟩ := H;replace H : (if t208 = true then (some (t207,true)) else (some (([] : List ByteArray),false))) = some (r1,r2) := H;have A3 := aM A30;clear A30
  by_cases c4 : t208 = true
  focus
   subst c4;rw [if_pos rfl] at H;simp only [eS,eP] at H;obtain ⟨rfl,rfl⟩ := H
  rotate_left
  focus
   replace c4 := Bool.eq_false_iff.mpr c4;subst c4;rw [if_neg Bool.false_ne_true] at H;simp only [eS,eP] at H;obtain ⟨rfl,rfl⟩ := H
 all_goals
  go_enter Tryd.func14,Tryd.ntmps14;go_wp2_with (first|((with_reducible refine gate_callee (f := 28) rfl ?_);refine goesL_ (some 11) rfl rfl Tryd.func28 (by kernel_rfl) rfl #[.string a0] rfl (by (try simp only [mT,mC,mN]);first|done|rfl|(simp only [xD,xT];rfl)) ?_;(with_reducible refine (impl_readRow.calls _ _ _ _ _ ?side1 A3.out).mono ?_);(case side1 => exact Gm.below HG.out (by repeat (first|(with_reducible first|exact HB.out|apply lA|apply lN|apply lD)|exact HB.out)));rintro e WA3 ⟨v209,rfl,ho0,hb⟩;refine ⟨_,rfl,?_⟩;have HO210 := aM (Kd.R_lower ho0 (lZ (by repeat (first|(with_reducible first|exact HB.out|apply lA|apply lN|apply lD)|exact HB.out))));replace HB := aM (lT (by repeat (first|(with_reducible first|exact HB.out|apply lA|apply lN|apply lD)|exact HB.out)) hb);(try clear hb);(try clear ho0)));go_ret2;(first|exact ⟨_,by first|rfl|(simp [*];done),by first|exact Kd.R_nil _ _ _ _ _|exact Kd.N_nil _ _ _ _ _|exact Kd.V_nil _ _ _ _ _|exact Kd.Q_nil _ _ _ _ _|exact Kd.S_nil _ _ _ _ _,by repeat (first|(with_reducible first|exact HB.out|apply lA|apply lN|apply lD)|exact HB.out)⟩|exact ⟨_,by first|rfl|(simp [*];done),by (with_reducible repeat (first|apply rA|apply rN|apply rD));exact HO210.out,by repeat (first|(with_reducible first|exact HB.out|apply lA|apply lN|apply lD)|exact HB.out)⟩)
def laws_markText.l0 : Nat → Int → ByteArray → Option (ByteArray)
 | 0,_,_ => none
 | k + 1,x0,x3 => if x0 > 0 then ((some (([(wrap64 (48 + (Int.tmod x0 10))) % 256] : List Int) : List Int)).bind fun y211 => (if (strOfNums y211).size + x3.size ≤ 9223372036854775807 then (laws_markText.l0 k (wrap64 (Int.tdiv x0 10)) ((strOfNums y211) ++ x3)) else (none))) else (if 1 + x3.size ≤ 9223372036854775807 then (some ((⟨#[109]⟩ : ByteArray) ++ x3)) else (none))
def laws_markText.f (k : Nat) (a0 : Int) : Option (ByteArray) := if a0 ≤ 0 then (some (⟨#[109,48]⟩ : ByteArray)) else (laws_markText.l0 k a0 (⟨#[]⟩ : ByteArray))
theorem laws_markText.mono_l : ∀ k,(∀ y0 y1,LeO (laws_markText.l0 k y0 y1) (laws_markText.l0 (k + 1) y0 y1))
 | 0 => fun _ _ r h => by simp [laws_markText.l0] at h
 | k + 1 => by
  have ih0 := laws_markText.mono_l k
  ·intro y0 y1
   unfold laws_markText.l0
   repeat' first
   | (with_reducible exact ih0 _ _)
   | (with_reducible exact LeO.refl _)
   | (with_reducible exact LeO.none _)
   | (with_reducible refine LeO.ite ?_ ?_)
   | (with_reducible refine LeO.bind ?_ (fun _ => ?_))
   | exact ih0 _ _
   | exact LeO.none _
   | refine LeO.ite ?_ ?_
   | refine LeO.bind ?_ (fun _ => ?_)
theorem laws_markText.mono : ∀ a0 k,LeO (laws_markText.f k a0) (laws_markText.f (k + 1) a0) := by
 intro a0 k
 have ih0 := laws_markText.mono_l k
 unfold laws_markText.f
 repeat' first
   | (with_reducible exact ih0 _ _)
   | (with_reducible exact LeO.refl _)
   | (with_reducible exact LeO.none _)
   | (with_reducible refine LeO.ite ?_ ?_)
   | (with_reducible refine LeO.bind ?_ (fun _ => ?_))
   | exact ih0 _ _
   | exact LeO.none _
   | refine LeO.ite ?_ ?_
   | refine LeO.bind ?_ (fun _ => ?_)
set_option maxHeartbeats 8000000 in
set_option maxRecDepth 100000 in
theorem laws_markText.calls (k : Nat) (a0 : Int) (r : ByteArray) (w : World) (h : laws_markText.f k a0 = some r) :
  Calls Tryd.prog 29 #[.int .i64 a0] w fun e w' => e = .returned (.string r) ∧ Below w.heap.size w w' := by
 have HB := aM (Below.refl w.heap.size w);have H : (if a0 ≤ 0 then (some (⟨#[109,48]⟩ : ByteArray)) else (laws_markText.l0 k a0 (⟨#[]⟩ : ByteArray))) = some r := h;clear h
 by_cases c2 : a0 ≤ 0
 ·rw [if_pos c2] at H;have c2b0 : decide (a0 ≤ 0) = true := dT c2;clear c2;obtain rfl := Option.some.inj H;simp only [eS,eP] at H;obtain ⟨rfl⟩ := H;go_enter Tryd.func29,Tryd.ntmps29;go_wp2;go_ret;exact ⟨by first|rfl|(simp [*];done),by repeat (first|(with_reducible first|exact HB.out|apply lA|apply lN|apply lD)|exact HB.out)⟩
 ·rw [if_neg c2] at H;have c2b0 : decide (a0 ≤ 0) = false := dF c2;clear c2;have H' := aM H;clear H;go_enter Tryd.func29,Tryd.ntmps29;go_wp2;go_loopg [0,3] k (fun kq v0 v3 w' => ∃ (x0_1 : Int) (x3_1 : ByteArray),v0 = .int .i64 x0_1 ∧ v3 = .string x3_1 ∧ Aside0 (laws_markText.l0 kq x0_1 x3_1 = some r) ∧ Aside0 (kq ≤ k) ∧ Aside0 (Below w.heap.size w w'))
  case atStart => exact ⟨(a0),((⟨#[]⟩ : ByteArray)),(by first|rfl|(simp [*];done)),(by first|rfl|(simp [*];done)),H',⟨Nat.le_refl _⟩,⟨by repeat (first|(with_reducible first|exact HB.out|apply lA|apply lN|apply lD)|exact HB.out)⟩⟩
  case round =>
   clear H';(try clear c2);(try clear c2b0);(try clear p2);obtain ⟨x0_1,x3_1,rfl,rfl,HA,HK1,HB⟩ := hrel
   cases gk with
   | zero => exact absurd HA.out (by simp [laws_markText.l0])
   | succ k1 =>
    have H := HA.out;clear HA;simp only [laws_markText.l0] at H
    by_cases c3 : x0_1 > 0
    ·rw [if_pos c3] at H;have c3b0 : decide (0 < x0_1) = true := dT c3;clear c3;obtain ⟨y211,hy211⟩ : ∃ y_ : List Int,y_ = (([(wrap64 (48 + (Int.tmod x0_1 10))) % 256] : List Int)) := ⟨_,rfl⟩;replace H : (if (strOfNums y211).size + x3_1.size ≤ 9223372036854775807 then (laws_markText.l0 k1 (wrap64 (Int.tdiv x0_1 10)) ((strOfNums y211) ++ x3_1)) else (none)) = some r := (by first|(rw [hy211];with_reducible exact H)|(have H2_ := (Option.bind_some _ _).symm.trans H;rw [hy211];with_reducible exact H2_)|(have H2_ := (Option.bind_some _ _).symm.trans H;with_reducible exact H2_)|with_reducible exact H|(rw [hy211];exact H)|exact H);have Ny211 := aM hy211;clear hy211
     by_cases c4 : (strOfNums y211).size + x3_1.size ≤ 9223372036854775807
     ·rw [if_pos c4] at H;have c4b0 := eq_true c4;have c4b1 : decide ((strOfNums y211).size + x3_1.size ≤ 9223372036854775807) = true := dT c4;(try have c4b2 : (9223372036854775807 < (strOfNums y211).size + x3_1.size) = False := eq_false (Nat.not_lt.2 c4));have H' := aM H;clear H;go_wp2_with (first|((with_reducible refine gate_dst (N := 12) rfl ?_);refine Kd.R_lit (Kd.int .u8) _ 5 ?hg (N := 12) ?hd (xs := ([(wrap64 (48 + (Int.tmod x0_1 10))) % 256] : List Int)) (inner := [.int .u8 ((wrap64 (48 + (Int.tmod x0_1 10))) % 256)]) (ok := fun _ => True) (okp := fun _ => True) ?hr ?hp (fun _ hk => hk) trivial (Below.refl _ _) (Nat.le_refl _) (by simp) ?_;(case hd => rfl);(case hg => rfl);(case hr => first|(go_simp;done)|(go_simp;rfl));(case hp => exact (Reps.one (show Kd.M (Kd.int .u8) _ _ _ ((wrap64 (48 + (Int.tmod x0_1 10))) % 256) [.int .u8 ((wrap64 (48 + (Int.tmod x0_1 10))) % 256)] from rfl) (Reps.none _ _)));intro v212 w5 ho6 hb hg_ hnew_;clear hg_ hnew_;(first|rw [← Ny211.out] at ho6|(simp only [Int.reduceToNat] at ho6;rw [← Ny211.out] at ho6));have HO213 := aM (Kd.R_lower ho6 (lZ (by repeat (first|(with_reducible first|exact HB.out|apply lA|apply lN|apply lD)|exact HB.out))));replace HB := aM (lT (by repeat (first|(with_reducible first|exact HB.out|apply lA|apply lN|apply lD)|exact HB.out)) hb);clear hb ho6;have hcv7 := own_string (P := Tryd.prog) Tryd.underlying43 Tryd.underlying5 Tryd.underlying9 (Kd.own_of_R HO213.out)));go_roundg k1
      case measure => have := HK1.out;omega
      case rel => exact ⟨(wrap64 (Int.tdiv x0_1 10)),((strOfNums y211) ++ x3_1),(by first|rfl|(simp [*];done)),(by first|rfl|(simp [*];done)),H',⟨by have := HK1.out;omega⟩,⟨by repeat (first|(with_reducible first|exact HB.out|apply lA|apply lN|apply lD)|exact HB.out)⟩⟩
     ·rw [if_neg c4] at H;exact absurd H (by simp)
    ·rw [if_neg c3] at H;have c3b0 : decide (0 < x0_1) = false := dF c3;clear c3
     by_cases c8 : 1 + x3_1.size ≤ 9223372036854775807
     ·rw [if_pos c8] at H;have c8b0 := eq_true c8;have c8b1 : decide (1 + x3_1.size ≤ 9223372036854775807) = true := dT c8;(try have c8b2 : (9223372036854775807 < 1 + x3_1.size) = False := eq_false (Nat.not_lt.2 c8));obtain rfl := Option.some.inj H;simp only [eS,eP] at H;obtain ⟨rfl⟩ := H;go_wp2;go_ret;exact ⟨by first|rfl|(simp [*];done),by repeat (first|(with_reducible first|exact HB.out|apply lA|apply lN|apply lD)|exact HB.out)⟩
     ·rw [if_neg c8] at H;exact absurd H (by simp)
def laws_markStringS.l0 : Nat → List ByteArray → Int → Int → Option (Int × List ByteArray)
 | 0,_,_,_ => none
 | k + 1,x0,x1,x5 => if x5 < (x0.length : Int) then ((laws_markText.f k x1).bind fun t214 => (if 0 ≤ x5 then (laws_markStringS.l0 k (x0.set (x5 : Int).toNat t214) (wrap64 (x1 + 1)) (wrap64 (x5 + 1))) else (none))) else (some (x1,x0))
def laws_markStringS.f (k : Nat) (l0 : List ByteArray) (a1 : Int) : Option (Int × List ByteArray) := laws_markStringS.l0 k l0 a1 0
theorem laws_markStringS.mono_l : ∀ k,(∀ y0 y1 y2,LeO (laws_markStringS.l0 k y0 y1 y2) (laws_markStringS.l0 (k + 1) y0 y1 y2))
 | 0 => fun _ _ _ r h => by simp [laws_markStringS.l0] at h
 | k + 1 => by
  have ih0 := laws_markStringS.mono_l k
  ·intro y0 y1 y2
   unfold laws_markStringS.l0
   repeat' first
   | (with_reducible exact ih0 _ _ _)
   | (with_reducible exact laws_markText.mono _ _)
   | (with_reducible exact LeO.refl _)
   | (with_reducible exact LeO.none _)
   | (with_reducible refine LeO.ite ?_ ?_)
   | (with_reducible refine LeO.bind ?_ (fun _ => ?_))
   | exact ih0 _ _ _
   | exact laws_markText.mono _ _
   | exact LeO.none _
   | refine LeO.ite ?_ ?_
   | refine LeO.bind ?_ (fun _ => ?_)
theorem laws_markStringS.mono : ∀ a0 a1 k,LeO (laws_markStringS.f k a0 a1) (laws_markStringS.f (k + 1) a0 a1) := by
 intro a0 a1 k
 have ih0 := laws_markStringS.mono_l k
 unfold laws_markStringS.f
 repeat' first
   | (with_reducible exact ih0 _ _ _)
   | (with_reducible exact laws_markText.mono _ _)
   | (with_reducible exact LeO.refl _)
   | (with_reducible exact LeO.none _)
   | (with_reducible refine LeO.ite ?_ ?_)
   | (with_reducible refine LeO.bind ?_ (fun _ => ?_))
   | exact ih0 _ _ _
   | exact laws_markText.mono _ _
   | exact LeO.none _
   | refine LeO.ite ?_ ?_
   | refine LeO.bind ?_ (fun _ => ?_)
set_option maxHeartbeats 8000000 in
set_option maxRecDepth 100000 in
theorem laws_markStringS.calls (k : Nat) (P0_ : Nat → Prop) (u9000_ : Value) (l0 : List ByteArray) (a1 : Int) (r1 : Int) (r2 : List ByteArray) (w0 w : World) (hB : Below w0.heap.size w0 w) (ho0 : Kd.R Kd.string 9 w w0.heap.size P0_ u9000_ l0) (h : laws_markStringS.f k l0 a1 = some (r1,r2)) :
  Calls Tryd.prog 15 #[u9000_,.int .i64 a1] w fun e w' => e = .returned (.int .i64 r1) ∧ Kd.R Kd.string 9 w' w0.heap.size (fun k_ => (P0_ k_ ∨ w.heap.size ≤ k_)) u9000_ r2 ∧ Below w0.heap.size w0 w' ∧ Kept w w' (fun k_ => P0_ k_) := by
 have HO0 := aM (show Kd.R Kd.string 9 w w0.heap.size (fun k_ => (P0_ k_ ∨ w.heap.size ≤ k_)) u9000_ l0 from Kd.R_mono ho0 (fun k_ hk => (.inl hk)));have HK := aM (Kept.refl w (fun k_ => P0_ k_));have HW0 := aM hB.size;have HB := aM hB;clear hB;have H : (laws_markStringS.l0 k l0 a1 0) = some (r1,r2) := h;clear h;have H' := aM H;clear H;go_enter Tryd.func15,Tryd.ntmps15;go_wp2;go_loopg [1,5] k (fun kq v1 v5 w' => ∃ (x0_1 : List ByteArray) (x1_1 : Int) (x5_1 : Int),v1 = .int .i64 x1_1 ∧ v5 = .int .i64 x5_1 ∧ Aside0 (laws_markStringS.l0 kq x0_1 x1_1 x5_1 = some (r1,r2)) ∧ Aside0 (kq ≤ k) ∧ Aside0 (Kd.R Kd.string 9 w' w0.heap.size (fun k_ => (P0_ k_ ∨ w.heap.size ≤ k_)) u9000_ x0_1) ∧ Aside0 (Kept w w' (fun k_ => P0_ k_)) ∧ Aside0 (Below w0.heap.size w0 w'))
 case atStart => exact ⟨(l0),(a1),(0),(by first|rfl|(simp [*];done)),(by first|rfl|(simp [*];done)),H',⟨Nat.le_refl _⟩,⟨by (with_reducible repeat (first|apply rA|apply rN|apply rD));exact HO0.out⟩,⟨by repeat (first|(with_reducible first|exact HK.out|apply Kept.alloc|apply Kept.drewN|apply Kept.drew)|exact HK.out)⟩,⟨by repeat (first|(with_reducible first|exact HB.out|apply lA|apply lN|apply lD)|exact HB.out)⟩⟩
 case round =>
  clear H';(try clear c1);(try clear p2);obtain ⟨x0_1,x1_1,x5_1,rfl,rfl,HA,HK1,HO_0,HK,HB⟩ := hrel
  cases gk with
  | zero => exact absurd HA.out (by simp [laws_markStringS.l0])
  | succ k1 =>
   have H := HA.out;clear HA;simp only [laws_markStringS.l0] at H
   by_cases c3 : x5_1 < (x0_1.length : Int)
   ·rw [if_pos c3] at H;have c3b0 : decide (x5_1 < (x0_1.length : Int)) = true := dT c3;clear c3;obtain ⟨t214,A4,H⟩ := bE_ H
    by_cases c5 : 0 ≤ x5_1
    ·rw [if_pos c5] at H;have c5b0 : decide (0 ≤ x5_1) = true := dT c5;clear c5;obtain ⟨y215,hy215⟩ : ∃ y_ : List ByteArray,y_ = (x0_1.set (x5_1 : Int).toNat t214) := ⟨_,rfl⟩;replace H : (laws_markStringS.l0 k1 y215 (wrap64 (x1_1 + 1)) (wrap64 (x5_1 + 1))) = some (r1,r2) := (by first|(rw [hy215];with_reducible exact H)|(have H2_ := (Option.bind_some _ _).symm.trans H;rw [hy215];with_reducible exact H2_)|(have H2_ := (Option.bind_some _ _).symm.trans H;with_reducible exact H2_)|with_reducible exact H|(rw [hy215];exact H)|exact H);have Ny215 := aM hy215;clear hy215;have H' := aM H;clear H;obtain ⟨Ao7,co7,eo7⟩ := Kd.R_slice HO_0.out;subst eo7;go_wp2_with (first|((with_reducible refine gate_callee (f := 29) rfl ?_);refine goesL_ (some 15) rfl rfl Tryd.func29 (by kernel_rfl) rfl #[.int .i64 x1_1] rfl (by (try simp only [mT,mC,mN]);first|done|rfl|(simp only [xD,xT];rfl)) ?_;(with_reducible refine (laws_markText.calls k1 x1_1 t214 _ A4.out).mono ?_);rintro e w8 ⟨rfl,hb⟩;refine ⟨_,rfl,?_⟩;replace HO_0 := aM (rB (by (with_reducible repeat (first|apply rA|apply rN|apply rD));exact HO_0.out) hb);replace HK := aM (Kept.below (S := (fun k_ => P0_ k_)) (by repeat (first|(with_reducible first|exact HK.out|apply Kept.alloc|apply Kept.drewN|apply Kept.drew)|exact HK.out)) hb);replace HB := aM (lT (by repeat (first|(with_reducible first|exact HB.out|apply lA|apply lN|apply lD)|exact HB.out)) hb);(try clear hb);have p6 : 0 ≤ (x5_1 : Int) := oD (by assumption);have q6 : (x5_1 : Int) < ((x0_1.length : Int) : Int) := oD (by assumption);obtain ⟨go6,co6,eo6,gb6,gl6,cl6,HG6⟩ := Kd.R_form HO_0.out (by omega);(first|cases eo6|(injection eo6 with ea_ en_ ec_;(first|subst ea_|(injection ea_ with ea_;subst ea_));subst ec_;clear en_));have GB6 := aM gb6;have GG6 := aM HG6;clear gb6 gl6 HG6;have HMgo6 := aM (show (P0_ go6 ∨ w.heap.size ≤ go6) from (HO_0.out.1 _ rfl));obtain ⟨hx6_0,hf6_0⟩ := Kd.R_celln (⟨#[]⟩ : ByteArray) HO_0.out (x5_1 : Int) p6 q6;replace p6 := eq_true p6;replace q6 := eq_true q6;obtain ⟨hy9_,hz9_⟩ := Kd.R_celln (⟨#[]⟩ : ByteArray) HO_0.out (x5_1 : Int) (oD (by assumption)) (oD (by assumption));have HP9 := Kd.R_putg HO_0.out (x5_1 : Int) t214)|((with_reducible refine gate_store (t := 9) (p := 16) rfl ?_);refine store_event (t := 9) (p := 16) (v := ?vo_w10) (w1 := (w8.setCell ⟨go6,(x5_1 : Int).toNat,none⟩ (.string t214))) ?hg ?ho ?hn ?hr ?_;(case ho => rfl);(case hg => rfl);(case hn => rfl);(case hr => first|(go_simp;done)|(go_simp;rfl));intro w10 hw;have hg : w8.grownBy w10 (some go6) := (by rw [hw];exact HP9.2);have hp_ : Kd.R Kd.string 9 w10 w0.heap.size (fun k_ => (P0_ k_ ∨ w.heap.size ≤ k_)) (.slice (some ⟨go6,0,none⟩) x0_1.length co7) y215 := (by rw [hw,Ny215.out];exact HP9.1);clear HP9;replace HB := aM ((by rw [hw];exact lS (HB.out) GB6.out : Below w0.heap.size w0 w10));replace HK := aM (Kept.of_grown (S := (fun k_ => P0_ k_)) hg (by repeat (first|(with_reducible first|exact HK.out|apply Kept.alloc|apply Kept.drewN|apply Kept.drew)|exact HK.out)) (fun k_ e_ => (HO_0.out.1 k_ e_)));replace HO_0 := aM (hp_);clear hg hw hp_));go_roundg k1
     case measure => have := HK1.out;omega
     case rel => exact ⟨(y215),(wrap64 (x1_1 + 1)),(wrap64 (x5_1 + 1)),(by first|rfl|(simp [*];done)),(by first|rfl|(simp [*];done)),H',⟨by have := HK1.out;omega⟩,⟨by (with_reducible repeat (first|apply rA|apply rN|apply rD));exact HO_0.out⟩,⟨by repeat (first|(with_reducible first|exact HK.out|apply Kept.alloc|apply Kept.drewN|apply Kept.drew)|exact HK.out)⟩,⟨by repeat (first|(with_reducible first|exact HB.out|apply lA|apply lN|apply lD)|exact HB.out)⟩⟩
    ·rw [if_neg c5] at H;exact absurd H (by simp)
   ·rw [if_neg c3] at H;have c3b0 : decide (x5_1 < (x0_1.length : Int)) = false := dF c3;clear c3;simp only [eS,eP] at H;obtain ⟨rfl,rfl⟩ := H;obtain ⟨Ao11,co11,eo11⟩ := Kd.R_slice HO_0.out;subst eo11;go_wp2;go_ret;exact ⟨by first|rfl|(simp [*];done),by (with_reducible repeat (first|apply rA|apply rN|apply rD));exact HO_0.out,by repeat (first|(with_reducible first|exact HB.out|apply lA|apply lN|apply lD)|exact HB.out),by repeat (first|(with_reducible first|exact HK.out|apply Kept.alloc|apply Kept.drewN|apply Kept.drew)|exact HK.out)⟩
end Go.Proofs.YtbinfdheapjpnaaDoor.P
