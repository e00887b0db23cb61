/- Written by a program in this session: each theorem here says that a Go function computes the Lean function beside it, or that a law's row holds, under the conditions that the theorem itself states. -/
import Derived.Test.YtbinfdheapjpnaaDoorZPx0
import Derived.Test.YtbinfdheapjpnaaDoorZPx1
import Derived.Test.YtbinfdheapjpnaaDoorZPx2
namespace Go.Proofs.YtbinfdheapjpnaaDoor.P
open Go.RowKit Go.Proofs.YtbinfdheapjpnaaDoorW.PrintWords Go.Proofs.YtbinfdheapjpnaaDoorW.PrintLast Go.Proofs.YtbinfdheapjpnaaDoorW.PrintMore
attribute [local go_sem] max2_int min2_int max_two min_two max_three min_three max_four min_four   -- for this text's walks alone
set_option linter.unusedVariables false
set_option linter.unusedSimpArgs false
mutual
def spec_l25Read.l0 : Nat → ByteArray → List ByteArray → ByteArray → Bool → Int → Option (List ByteArray × Bool)
 | 0,_,_,_,_,_ => none
 | k + 1,x0,x4,x5,x6,x7 => if x7 < (x0.size : Int) then (if 0 ≤ x7 then (if (bt x0 x7) = 34 then (if x6 = true then (if (wrap64 (x7 + 1)) < (x0.size : Int) then (if 0 ≤ (wrap64 (x7 + 1)) then (spec_l25Read.j1 k x0 x4 x5 x6 x7 ((bt x0 (wrap64 (x7 + 1))) == 34)) else (none)) else (spec_l25Read.j1 k x0 x4 x5 x6 x7 false)) else (spec_l25Read.j1 k x0 x4 x5 x6 x7 false)) else (spec_l25Read.j1 k x0 x4 x5 x6 x7 false)) else (none)) else (if x4.length < 8796093022208 then ((some (x4 ++ [x5] : List ByteArray)).bind fun y163 => (if x6 = true then (some (y163,false)) else ((spec_l25Row.f k y163).bind fun t166 => (some (y163,(t166.toList == x0.toList)))))) else (none))
def spec_l25Read.j1 : Nat → ByteArray → List ByteArray → ByteArray → Bool → Int → Bool → Option (List ByteArray × Bool)
 | 0,_,_,_,_,_,_ => none
 | k + 1,x0,x4,x5,x6,x7,x22 => if x22 = true then (if x5.size + 1 ≤ 9223372036854775807 then (spec_l25Read.l0 k x0 x4 (x5 ++ (⟨#[34]⟩ : ByteArray)) x6 (wrap64 ((wrap64 (x7 + 1)) + 1))) else (none)) else (if 0 ≤ x7 then (if x7 < (x0.size : Int) then (if (bt x0 x7) = 34 then (spec_l25Read.l0 k x0 x4 x5 (!x6) (wrap64 (x7 + 1))) else (if (bt x0 x7) = 44 then (if x6 = true then (if x7 ≤ (wrap64 (x7 + 1)) then (if (wrap64 (x7 + 1)) ≤ (x0.size : Int) then (if x5.size + (x0.extract (x7 : Int).toNat ((wrap64 (x7 + 1)) : Int).toNat).size ≤ 9223372036854775807 then (spec_l25Read.l0 k x0 x4 (x5 ++ (x0.extract (x7 : Int).toNat ((wrap64 (x7 + 1)) : Int).toNat)) x6 (wrap64 (x7 + 1))) else (none)) else (none)) else (none)) else (if x4.length < 8796093022208 then (spec_l25Read.l0 k x0 (x4 ++ [x5]) (⟨#[]⟩ : ByteArray) x6 (wrap64 (x7 + 1))) else (none))) else (if x7 ≤ (wrap64 (x7 + 1)) then (if (wrap64 (x7 + 1)) ≤ (x0.size : Int) then (if x5.size + (x0.extract (x7 : Int).toNat ((wrap64 (x7 + 1)) : Int).toNat).size ≤ 9223372036854775807 then (spec_l25Read.l0 k x0 x4 (x5 ++ (x0.extract (x7 : Int).toNat ((wrap64 (x7 + 1)) : Int).toNat)) x6 (wrap64 (x7 + 1))) else (none)) else (none)) else (none)))) else (none)) else (none))
end
def spec_l25Read.f (k : Nat) (a0 : ByteArray) : Option (List ByteArray × Bool) := spec_l25Read.l0 k a0 (([] : List ByteArray)) (⟨#[]⟩ : ByteArray) false 0
theorem spec_l25Read.mono_l : ∀ k,(∀ y0 y1 y2 y3 y4,LeO (spec_l25Read.l0 k y0 y1 y2 y3 y4) (spec_l25Read.l0 (k + 1) y0 y1 y2 y3 y4)) ∧ (∀ y0 y1 y2 y3 y4 y5,LeO (spec_l25Read.j1 k y0 y1 y2 y3 y4 y5) (spec_l25Read.j1 (k + 1) y0 y1 y2 y3 y4 y5))
 | 0 => ⟨fun _ _ _ _ _ r h => by simp [spec_l25Read.l0] at h,fun _ _ _ _ _ _ r h => by simp [spec_l25Read.j1] at h⟩
 | k + 1 => by
  obtain ⟨ih0,ih1⟩ := spec_l25Read.mono_l k
  refine ⟨?_,?_⟩
  ·intro y0 y1 y2 y3 y4
   unfold spec_l25Read.l0
   repeat' first
   | (with_reducible exact ih0 _ _ _ _ _)
   | (with_reducible exact ih1 _ _ _ _ _ _)
   | (with_reducible exact spec_l25Row.mono _ _)
   | (with_reducible exact LeO.refl _)
   | (with_reducible exact LeO.none _)
   | (with_reducible refine LeO.ite ?_ ?_)
   | (with_reducible refine LeO.bind ?_ (fun _ => ?_))
   | exact ih0 _ _ _ _ _
   | exact ih1 _ _ _ _ _ _
   | exact spec_l25Row.mono _ _
   | exact LeO.none _
   | refine LeO.ite ?_ ?_
   | refine LeO.bind ?_ (fun _ => ?_)
  ·intro y0 y1 y2 y3 y4 y5
   unfold spec_l25Read.j1
   repeat' first
   | (with_reducible exact ih0 _ _ _ _ _)
   | (with_reducible exact ih1 _ _ _ _ _ _)
   | (with_reducible exact spec_l25Row.mono _ _)
   | (with_reducible exact LeO.refl _)
   | (with_reducible exact LeO.none _)
   | (with_reducible refine LeO.ite ?_ ?_)
   | (with_reducible refine LeO.bind ?_ (fun _ => ?_))
   | exact ih0 _ _ _ _ _
   | exact ih1 _ _ _ _ _ _
   | exact spec_l25Row.mono _ _
   | exact LeO.none _
   | refine LeO.ite ?_ ?_
   | refine LeO.bind ?_ (fun _ => ?_)
theorem spec_l25Read.mono : ∀ a0 k,LeO (spec_l25Read.f k a0) (spec_l25Read.f (k + 1) a0) := by
 intro a0 k
 obtain ⟨ih0,ih1⟩ := spec_l25Read.mono_l k
 unfold spec_l25Read.f
 repeat' first
   | (with_reducible exact ih0 _ _ _ _ _)
   | (with_reducible exact ih1 _ _ _ _ _ _)
   | (with_reducible exact spec_l25Row.mono _ _)
   | (with_reducible exact LeO.refl _)
   | (with_reducible exact LeO.none _)
   | (with_reducible refine LeO.ite ?_ ?_)
   | (with_reducible refine LeO.bind ?_ (fun _ => ?_))
   | exact ih0 _ _ _ _ _
   | exact ih1 _ _ _ _ _ _
   | exact spec_l25Row.mono _ _
   | exact LeO.none _
   | refine LeO.ite ?_ ?_
   | refine LeO.bind ?_ (fun _ => ?_)
set_option maxHeartbeats 8000000 in
set_option maxRecDepth 100000 in
theorem spec_l25Read.calls (k : Nat) (a0 : ByteArray) (r1 : List ByteArray) (r2 : Bool) (w : World) (h : spec_l25Read.f k a0 = some (r1,r2)) :
  Calls Tryd.prog 27 #[.string a0] w fun e w' => ∃ v0_ : Value,e = .returned (.tuple #[v0_,.bool r2]) ∧ Kd.R Kd.string 9 w' w.heap.size (fun _ => True) v0_ r1 ∧ Below w.heap.size w w' := by
 have HB := aM (Below.refl w.heap.size w);have H : (spec_l25Read.l0 k a0 (([] : List ByteArray)) (⟨#[]⟩ : ByteArray) false 0) = some (r1,r2) := h;clear h;obtain ⟨y160,hy160⟩ : ∃ y_ : List ByteArray,y_ = (([] : List ByteArray)) := ⟨_,rfl⟩;replace H : (spec_l25Read.l0 k a0 y160 (⟨#[]⟩ : ByteArray) false 0) = some (r1,r2) := (by first|(rw [hy160];with_reducible exact H)|(have H2_ := (Option.bind_some _ _).symm.trans H;rw [hy160];with_reducible exact H2_)|(have H2_ := (Option.bind_some _ _).symm.trans H;with_reducible exact H2_)|with_reducible exact H|(rw [hy160];exact H)|exact H);have Ny160 := aM hy160;clear hy160;have H' := aM H;clear H;go_enter Tryd.func27,Tryd.ntmps27;go_wp2_with (first|((with_reducible refine gate_dst (N := 8) rfl ?_);(try (refine gate_guard (by rfl) ?_;dsimp only));refine Kd.R_lit Kd.string _ 9 ?hg (N := 8) ?hd (xs := ([] : List ByteArray)) (inner := []) (ok := fun _ => True) (okp := fun _ => True) ?hr ?hp (fun _ hk => hk) trivial (Below.refl _ _) (Nat.le_refl _) (by simp) ?_;(case hd => rfl);(case hg => rfl);(case hr => first|(go_simp;done)|(go_simp;rfl));(case hp => exact (Reps.none _ _));intro v161 w2 ho3 hb hg_ hnew_;clear hg_ hnew_;(first|rw [← Ny160.out] at ho3|(simp only [Int.reduceToNat] at ho3;rw [← Ny160.out] at ho3));have HO162 := aM (Kd.R_lower ho3 (lZ (by repeat (first|(with_reducible first|exact HB.out|apply lA|apply lN|apply lD)|exact HB.out))));replace HB := aM (lT (by repeat (first|(with_reducible first|exact HB.out|apply lA|apply lN|apply lD)|exact HB.out)) hb);clear hb ho3));go_loopg [4,5,6,7] k (fun kq v4 v5 v6 v7 w' => ∃ (x4_1 : List ByteArray) (x5_1 : ByteArray) (x6_1 : Bool) (x7_1 : Int),v5 = .string x5_1 ∧ v6 = .bool x6_1 ∧ v7 = .int .i64 x7_1 ∧ Aside0 (spec_l25Read.l0 kq a0 x4_1 x5_1 x6_1 x7_1 = some (r1,r2)) ∧ Aside0 (kq ≤ k) ∧ Aside0 (Kd.R Kd.string 9 w' w.heap.size (fun _ => True) v4 x4_1) ∧ Aside0 (Below w.heap.size w w'))
 case atStart => exact ⟨(y160),((⟨#[]⟩ : ByteArray)),(false),(0),(by first|rfl|(simp [*];done)),(by first|rfl|(simp [*];done)),(by first|rfl|(simp [*];done)),H',⟨Nat.le_refl _⟩,⟨by (with_reducible repeat (first|apply rA|apply rN|apply rD));exact HO162.out⟩,⟨by repeat (first|(with_reducible first|exact HB.out|apply lA|apply lN|apply lD)|exact HB.out)⟩⟩
 case round =>
  clear H';(try clear c2);(try clear p2);obtain ⟨x4_1,x5_1,x6_1,x7_1,rfl,rfl,rfl,HA,HK1,HO_4,HB⟩ := hrel
  cases gk with
  | zero => exact absurd HA.out (by simp [spec_l25Read.l0])
  | succ k1 =>
   have H := HA.out;clear HA;simp only [spec_l25Read.l0] at H
   by_cases c4 : x7_1 < (a0.size : Int)
   ·rw [if_pos c4] at H;have c4b0 : decide (x7_1 < (a0.size : Int)) = true := dT c4;clear c4;have HC5 := aM H;clear H;go_upto_region 8 with (fail);go_cut [22] (fun v22 wc => ∃ (kq : Nat) (x22_4 : Bool),v22 = .bool x22_4 ∧ Aside0 (spec_l25Read.j1 kq a0 x4_1 x5_1 x6_1 x7_1 x22_4 = some (r1,r2)) ∧ Aside0 (kq ≤ k1) ∧ Aside0 (Kd.R Kd.string 9 wc w.heap.size (fun _ => True) u4 x4_1) ∧ Aside0 (Below w.heap.size w wc))
    case first =>
     have H := HC5.out;clear HC5
     by_cases c6 : 0 ≤ x7_1
     rotate_left;rw [if_neg c6] at H;exact absurd H (by simp);rw [if_pos c6] at H;have c6b0 : decide (0 ≤ x7_1) = true := dT c6;clear c6;(first|rw [c6b0]|(simp only [i64_w,i32_w];rw [c6b0])|skip)
     by_cases c8 : (bt a0 x7_1) = 34
     focus
      rw [if_pos c8] at H;have c8b0 : ((bt a0 x7_1) == 34) = true := beq_iff_eq.mpr c8;have c8b1 : ((bt a0 x7_1) != 34) = false := bne_eq_false_iff_eq.mpr c8;clear c8
      by_cases c9 : x6_1 = true
      focus
       subst c9;rw [if_pos rfl] at H
       by_cases c10 : (wrap64 (x7_1 + 1)) < (a0.size : Int)
       focus
        rw [if_pos c10] at H;have c10b0 : decide ((wrap64 (x7_1 + 1)) < (a0.size : Int)) = true := dT c10;clear c10;obtain ⟨ji11,hji11⟩ : ∃ j_ : Int,(wrap64 (x7_1 + 1)) = j_ := ⟨_,rfl⟩;replace H : (if 0 ≤ (ji11) then (spec_l25Read.j1 k1 a0 x4_1 x5_1 true x7_1 ((bt a0 (ji11)) == 34)) else (none)) = some (r1,r2) := (by first|(rw [hji11] at H;exact H)|(simp only [hji11] at H ⊢;exact H));(try rw [hji11] at c10b0);have hji11w : (IntKind.i64.wrap (x7_1 + 1)) = ji11 := (i64_w _).trans hji11
        by_cases c12 : 0 ≤ (ji11)
        rotate_left;rw [if_neg c12] at H;exact absurd H (by simp);rw [if_pos c12] at H;have c12b0 : decide (0 ≤ (ji11)) = true := dT c12;clear c12;have H' := aM H;clear H
       rotate_left
       focus
        rw [if_neg c10] at H;have c10b0 : decide ((wrap64 (x7_1 + 1)) < (a0.size : Int)) = false := dF c10;clear c10;have H' := aM H;clear H
      rotate_left 2
      focus
       replace c9 := Bool.eq_false_iff.mpr c9;subst c9;rw [if_neg Bool.false_ne_true] at H;have H' := aM H;clear H
     rotate_left 3
     focus
      rw [if_neg c8] at H;have c8b0 : ((bt a0 x7_1) == 34) = false := beq_eq_false_iff_ne.mpr c8;have c8b1 : ((bt a0 x7_1) != 34) = true := bne_iff_ne.mpr c8;have H' := aM H;clear H
     all_goals
      (try (have p01 : 0 ≤ (x7_1 : Int) := oD (by assumption);have q01 : x7_1 < (a0.size : Int) := oD (by assumption);have hx01 := bt_at a0 x7_1;replace p01 := eq_true p01;replace q01 := eq_true q01));(try (have p02 : 0 ≤ ((ji11) : Int) := oD (by assumption);have q02 : (ji11) < (a0.size : Int) := oD (by assumption);have hx02 := bt_at a0 (ji11);replace p02 := eq_true p02;replace q02 := eq_true q02));go_wp2;go_meet
      case rel => first|(exact ⟨_,(((bt a0 (ji11)) == 34)),(by first|rfl|(simp;done)|(simp [my_isEmpty];done)|(simp only [← hji11] <;> (first|rfl|simp))|(simp [*];done)),H',⟨by have := HK1.out;first|omega|exact Nat.le_refl _⟩,⟨by (with_reducible repeat (first|apply rA|apply rN|apply rD));exact HO_4.out⟩,⟨by repeat (first|(with_reducible first|exact HB.out|apply lA|apply lN|apply lD)|exact HB.out)⟩⟩)|(exact ⟨_,(false),(by first|rfl|(simp [*];done)),H',⟨by have := HK1.out;first|omega|exact Nat.le_refl _⟩,⟨by (with_reducible repeat (first|apply rA|apply rN|apply rD));exact HO_4.out⟩,⟨by repeat (first|(with_reducible first|exact HB.out|apply lA|apply lN|apply lD)|exact HB.out)⟩⟩)
    case rest =>
     clear HC5;(try clear c1);(try clear p1);(try clear q1);(try clear hx1);(try clear c2);(try clear p2);(try clear c4);(try clear c4b0);(try clear c6);(try clear c6b0);(try clear p6);(try clear p7);(try clear q7);(try clear hx7);(try clear c8);(try clear c8b0);(try clear c8b1);(try clear c9);(try clear c10);(try clear c10b0);(try clear c12);(try clear c12b0);(try clear p13);(try clear q13);(try clear hx13);(try clear p13);(try clear p2);(try clear p7);(try clear q13);(try clear q7);obtain ⟨kq,x22_4,rfl,HA,HJ4,HO_4,HB⟩ := hcut
     cases kq with
     | zero => exact absurd HA.out (by simp [spec_l25Read.j1])
     | succ kj4 =>
      have H := HA.out;clear HA;simp only [spec_l25Read.j1] at H
      by_cases c14 : x22_4 = true
      focus
       subst c14;rw [if_pos rfl] at H
       by_cases c15 : x5_1.size + 1 ≤ 9223372036854775807
       rotate_left;rw [if_neg c15] at H;exact absurd H (by simp);rw [if_pos c15] at H;have c15b0 := eq_true c15;have c15b1 : decide (x5_1.size + 1 ≤ 9223372036854775807) = true := dT c15;(try have c15b2 : (9223372036854775807 < x5_1.size + 1) = False := eq_false (Nat.not_lt.2 c15));have H' := aM H;clear H
      rotate_left
      focus
       replace c14 := Bool.eq_false_iff.mpr c14;subst c14;rw [if_neg Bool.false_ne_true] at H
       by_cases c16 : 0 ≤ x7_1
       rotate_left;rw [if_neg c16] at H;exact absurd H (by simp);rw [if_pos c16] at H;have c16b0 : decide (0 ≤ x7_1) = true := dT c16;clear c16
       by_cases c17 : x7_1 < (a0.size : Int)
       rotate_left;rw [if_neg c17] at H;exact absurd H (by simp);rw [if_pos c17] at H;have c17b0 : decide (x7_1 < (a0.size : Int)) = true := dT c17;clear c17
       by_cases c19 : (bt a0 x7_1) = 34
       focus
        rw [if_pos c19] at H;have c19b0 : ((bt a0 x7_1) == 34) = true := beq_iff_eq.mpr c19;have c19b1 : ((bt a0 x7_1) != 34) = false := bne_eq_false_iff_eq.mpr c19;clear c19;have H' := aM H;clear H
       rotate_left
       focus
        rw [if_neg c19] at H;have c19b0 : ((bt a0 x7_1) == 34) = false := beq_eq_false_iff_ne.mpr c19;have c19b1 : ((bt a0 x7_1) != 34) = true := bne_iff_ne.mpr c19
        by_cases c21 : (bt a0 x7_1) = 44
        focus
         rw [if_pos c21] at H;have c21b0 : ((bt a0 x7_1) == 44) = true := beq_iff_eq.mpr c21;have c21b1 : ((bt a0 x7_1) != 44) = false := bne_eq_false_iff_eq.mpr c21;clear c21
         by_cases c22 : x6_1 = true
         focus
          subst c22;rw [if_pos rfl] at H;have c23b0 := eq_true (oD (by assumption) : 0 ≤ x7_1)
          by_cases c24 : x7_1 ≤ (wrap64 (x7_1 + 1))
          rotate_left;rw [if_neg c24] at H;exact absurd H (by simp);rw [if_pos c24] at H;have c24b0 := eq_true c24;have c24b1 : decide (x7_1 ≤ (wrap64 (x7_1 + 1))) = true := dT c24
          by_cases c25 : (wrap64 (x7_1 + 1)) ≤ (a0.size : Int)
          rotate_left;rw [if_neg c25] at H;exact absurd H (by simp);rw [if_pos c25] at H;have c25b0 := eq_true c25;have c25b1 : decide ((wrap64 (x7_1 + 1)) ≤ (a0.size : Int)) = true := dT c25
          by_cases c26 : x5_1.size + (a0.extract (x7_1 : Int).toNat ((wrap64 (x7_1 + 1)) : Int).toNat).size ≤ 9223372036854775807
          rotate_left;rw [if_neg c26] at H;exact absurd H (by simp);rw [if_pos c26] at H;have c26b0 := eq_true c26;have c26b1 : decide (x5_1.size + (a0.extract (x7_1 : Int).toNat ((wrap64 (x7_1 + 1)) : Int).toNat).size ≤ 9223372036854775807) = true := dT c26;(try have c26b3 : (9223372036854775807 < x5_1.size + ((a0.extract (x7_1 : Int).toNat ((wrap64 (x7_1 + 1)) : Int).toNat).size)) = False := eq_false (by have h_ := c26;simp only [ByteArray.size_append,ByteArray.size_extract] at h_;omega));(try have c26b4 : (9223372036854775807 < x5_1.size + ((min ((wrap64 (x7_1 + 1)) : Int).toNat a0.size - (x7_1 : Int).toNat))) = False := eq_false (by have h_ := c26;simp only [ByteArray.size_append,ByteArray.size_extract] at h_;omega));(try have c26b2 : (9223372036854775807 < x5_1.size + (a0.extract (x7_1 : Int).toNat ((wrap64 (x7_1 + 1)) : Int).toNat).size) = False := eq_false (Nat.not_lt.2 c26));have H' := aM H;clear H
         rotate_left
         focus
          replace c22 := Bool.eq_false_iff.mpr c22;subst c22;rw [if_neg Bool.false_ne_true] at H
          by_cases c27 : x4_1.length < 8796093022208
          rotate_left;rw [if_neg c27] at H;exact absurd H (by simp);rw [if_pos c27] at H;have LMc27 := aM c27;clear c27;obtain ⟨y167,hy167⟩ : ∃ y_ : List ByteArray,y_ = (x4_1 ++ [x5_1]) := ⟨_,rfl⟩;replace H : (spec_l25Read.l0 kj4 a0 y167 (⟨#[]⟩ : ByteArray) false (wrap64 (x7_1 + 1))) = some (r1,r2) := (by first|(rw [hy167];with_reducible exact H)|(have H2_ := (Option.bind_some _ _).symm.trans H;rw [hy167];with_reducible exact H2_)|(have H2_ := (Option.bind_some _ _).symm.trans H;with_reducible exact H2_)|with_reducible exact H|(rw [hy167];exact H)|exact H);have Ny167 := aM hy167;clear hy167;have H' := aM H;clear H
        rotate_left 2
        focus
         rw [if_neg c21] at H;have c21b0 : ((bt a0 x7_1) == 44) = false := beq_eq_false_iff_ne.mpr c21;have c21b1 : ((bt a0 x7_1) != 44) = true := bne_iff_ne.mpr c21;have c29b0 := eq_true (oD (by assumption) : 0 ≤ x7_1)
         by_cases c30 : x7_1 ≤ (wrap64 (x7_1 + 1))
         rotate_left;rw [if_neg c30] at H;exact absurd H (by simp);rw [if_pos c30] at H;have c30b0 := eq_true c30;have c30b1 : decide (x7_1 ≤ (wrap64 (x7_1 + 1))) = true := dT c30
         by_cases c31 : (wrap64 (x7_1 + 1)) ≤ (a0.size : Int)
         rotate_left;rw [if_neg c31] at H;exact absurd H (by simp);rw [if_pos c31] at H;have c31b0 := eq_true c31;have c31b1 : decide ((wrap64 (x7_1 + 1)) ≤ (a0.size : Int)) = true := dT c31
         by_cases c32 : x5_1.size + (a0.extract (x7_1 : Int).toNat ((wrap64 (x7_1 + 1)) : Int).toNat).size ≤ 9223372036854775807
         rotate_left;rw [if_neg c32] at H;exact absurd H (by simp);rw [if_pos c32] at H;have c32b0 := eq_true c32;have c32b1 : decide (x5_1.size + (a0.extract (x7_1 : Int).toNat ((wrap64 (x7_1 + 1)) : Int).toNat).size ≤ 9223372036854775807) = true := dT c32;(try have c32b3 : (9223372036854775807 < x5_1.size + ((a0.extract (x7_1 : Int).toNat ((wrap64 (x7_1 + 1)) : Int).toNat).size)) = False := eq_false (by have h_ := c32;simp only [ByteArray.size_append,ByteArray.size_extract] at h_;omega));(try have c32b4 : (9223372036854775807 < x5_1.size + ((min ((wrap64 (x7_1 + 1)) : Int).toNat a0.size - (x7_1 : Int).toNat))) = False := eq_false (by have h_ := c32;simp only [ByteArray.size_append,ByteArray.size_extract] at h_;omega));(try have c32b2 : (9223372036854775807 < x5_1.size + (a0.extract (x7_1 : Int).toNat ((wrap64 (x7_1 + 1)) : Int).toNat).size) = False := eq_false (Nat.not_lt.2 c32));have H' := aM H;clear H
      all_goals
       (try (have p01 : 0 ≤ (x7_1 : Int) := oD (by assumption);have q01 : x7_1 < (a0.size : Int) := oD (by assumption);have hx01 := bt_at a0 x7_1;replace p01 := eq_true p01;replace q01 := eq_true q01));go_wp2_with (first|((with_reducible refine gate_builtin (b := .append) (xs := #[.tmp 64,.tmp 66]) rfl ?_);(try (refine gate_guard (by rfl) ?_;dsimp only));at_builtin;refine Kd.R_append Kd.string (w0 := w) w.heap.size rfl (.tmp 64) (.tmp 66) 25 9 (.string ⟨#[]⟩) 16 rfl Tryd.underlying25 info9 rfl (by decide) (by omega) u4 x4_1 x5_1 [.string x5_1] (fun _ => True) (fun _ => False) rfl rfl ?aP (fun _ hk => hk.elim) ?aF ?aO ?aB ?aS ?aL ?_;(case aP => exact rfl);(case aB => exact (by repeat (first|(with_reducible first|exact HB.out|apply lA|apply lN|apply lD)|exact HB.out)));(case aF => exact (fun _ _ => trivial));(case aO => exact (by (with_reducible repeat (first|apply rA|apply rN|apply rD));exact HO_4.out));(case aS => exact (lZ (by repeat (first|(with_reducible first|exact HB.out|apply lA|apply lN|apply lD)|exact HB.out))));(case aL => have := LMc27.out;omega);intro v168 w28 ho hb hg hat;rw [← Ny167.out] at ho;have n0_ := aM (hb);have n1_ := aM (ho);clear HB;clear HO_4;have HB := n0_;have HO169 := n1_;clear n0_ n1_;clear ho hb hg hat));go_roundg kj4
       case measure => have := HK1.out;have := HJ4.out;omega
       case rel => first|(exact ⟨(x4_1),(x5_1 ++ (⟨#[34]⟩ : ByteArray)),(x6_1),(wrap64 ((wrap64 (x7_1 + 1)) + 1)),(by first|rfl|(simp [*];done)),(by first|rfl|(simp [*];done)),(by first|rfl|(simp [*];done)),H',⟨by have := HK1.out;have := HJ4.out;omega⟩,⟨by (with_reducible repeat (first|apply rA|apply rN|apply rD));exact HO_4.out⟩,⟨by repeat (first|(with_reducible first|exact HB.out|apply lA|apply lN|apply lD)|exact HB.out)⟩⟩)|(exact ⟨(x4_1),(x5_1),(!x6_1),(wrap64 (x7_1 + 1)),(by first|rfl|(simp [*];done)),(by first|rfl|(simp [*];done)),(by first|rfl|(simp [*];done)),H',⟨by have := HK1.out;have := HJ4.out;omega⟩,⟨by (with_reducible repeat (first|apply rA|apply rN|apply rD));exact HO_4.out⟩,⟨by repeat (first|(with_reducible first|exact HB.out|apply lA|apply lN|apply lD)|exact HB.out)⟩⟩)|(exact ⟨(x4_1),(x5_1 ++ (a0.extract (x7_1 : Int).toNat ((wrap64 (x7_1 + 1)) : Int).toNat)),(true),(wrap64 (x7_1 + 1)),(by first|rfl|(simp [*];done)),(by first|rfl|(simp [*];done)),(by first|rfl|(simp [*];done)),H',⟨by have := HK1.out;have := HJ4.out;omega⟩,⟨by (with_reducible repeat (first|apply rA|apply rN|apply rD));exact HO_4.out⟩,⟨by repeat (first|(with_reducible first|exact HB.out|apply lA|apply lN|apply lD)|exact HB.out)⟩⟩)|(exact ⟨(y167),((⟨#[]⟩ : ByteArray)),(false),(wrap64 (x7_1 + 1)),(by first|rfl|(simp [*];done)),(by first|rfl|(simp [*];done)),(by first|rfl|(simp [*];done)),H',⟨by have := HK1.out;have := HJ4.out;omega⟩,⟨by (with_reducible repeat (first|apply rA|apply rN|apply rD));exact HO169.out⟩,⟨by repeat (first|(with_reducible first|exact HB.out|apply lA|apply lN|apply lD)|exact HB.out)⟩⟩)|(exact ⟨(x4_1),(x5_1 ++ (a0.extract (x7_1 : Int).toNat ((wrap64 (x7_1 + 1)) : Int).toNat)),(x6_1),(wrap64 (x7_1 + 1)),(by first|rfl|(simp [*];done)),(by first|rfl|(simp [*];done)),(by first|rfl|(simp [*];done)),H',⟨by have := HK1.out;have := HJ4.out;omega⟩,⟨by (with_reducible repeat (first|apply rA|apply rN|apply rD));exact HO_4.out⟩,⟨by repeat (first|(with_reducible first|exact HB.out|apply lA|apply lN|apply lD)|exact HB.out)⟩⟩)
   ·rw [if_neg c4] at H;have c4b0 : decide (x7_1 < (a0.size : Int)) = false := dF c4;clear c4
    by_cases c33 : x4_1.length < 8796093022208
    ·rw [if_pos c33] at H;have LMc33 := aM c33;clear c33;obtain ⟨y163,hy163⟩ : ∃ y_ : List ByteArray,y_ = (x4_1 ++ [x5_1]) := ⟨_,rfl⟩;replace H : (if x6_1 = true then (some (y163,false)) else ((spec_l25Row.f k1 y163).bind fun t166 => (some (y163,(t166.toList == a0.toList))))) = some (r1,r2) := (by first|(rw [hy163];with_reducible exact H)|(have H2_ := (Option.bind_some _ _).symm.trans H;rw [hy163];with_reducible exact H2_)|(have H2_ := (Option.bind_some _ _).symm.trans H;with_reducible exact H2_)|with_reducible exact H|(rw [hy163];exact H)|exact H);have Ny163 := aM hy163;clear hy163
     by_cases c34 : x6_1 = true
     ·subst c34;rw [if_pos rfl] at H;simp only [eS,eP] at H;obtain ⟨rfl,rfl⟩ := H;go_wp2_with (first|((with_reducible refine gate_builtin (b := .append) (xs := #[.tmp 68,.tmp 70]) rfl ?_);(try (refine gate_guard (by rfl) ?_;dsimp only));at_builtin;refine Kd.R_append Kd.string (w0 := w) w.heap.size rfl (.tmp 68) (.tmp 70) 25 9 (.string ⟨#[]⟩) 16 rfl Tryd.underlying25 info9 rfl (by decide) (by omega) u4 x4_1 x5_1 [.string x5_1] (fun _ => True) (fun _ => False) rfl rfl ?aP (fun _ hk => hk.elim) ?aF ?aO ?aB ?aS ?aL ?_;(case aP => exact rfl);(case aB => exact (by repeat (first|(with_reducible first|exact HB.out|apply lA|apply lN|apply lD)|exact HB.out)));(case aF => exact (fun _ _ => trivial));(case aO => exact (by (with_reducible repeat (first|apply rA|apply rN|apply rD));exact HO_4.out));(case aS => exact (lZ (by repeat (first|(with_reducible first|exact HB.out|apply lA|apply lN|apply lD)|exact HB.out))));(case aL => have := LMc33.out;omega);intro v164 w35 ho hb hg hat;rw [← Ny163.out] at ho;have n0_ := aM (hb);have n1_ := aM (ho);clear HB;clear HO_4;have HB := n0_;have HO165 := n1_;clear n0_ n1_;clear ho hb hg hat));go_ret2;exact ⟨_,by first|rfl|(simp [*];done),by (with_reducible repeat (first|apply rA|apply rN|apply rD));exact HO165.out,by repeat (first|(with_reducible first|exact HB.out|apply lA|apply lN|apply lD)|exact HB.out)⟩
     ·replace c34 := Bool.eq_false_iff.mpr c34;subst c34;rw [if_neg Bool.false_ne_true] at H;obtain ⟨t166,A36,H⟩ := bE_ H;simp only [eS,eP] at H;obtain ⟨rfl,rfl⟩ := H;go_wp2_with (first|((with_reducible refine gate_builtin (b := .append) (xs := #[.tmp 68,.tmp 70]) rfl ?_);(try (refine gate_guard (by rfl) ?_;dsimp only));at_builtin;refine Kd.R_append Kd.string (w0 := w) w.heap.size rfl (.tmp 68) (.tmp 70) 25 9 (.string ⟨#[]⟩) 16 rfl Tryd.underlying25 info9 rfl (by decide) (by omega) u4 x4_1 x5_1 [.string x5_1] (fun _ => True) (fun _ => False) rfl rfl ?aP (fun _ hk => hk.elim) ?aF ?aO ?aB ?aS ?aL ?_;(case aP => exact rfl);(case aB => exact (by repeat (first|(with_reducible first|exact HB.out|apply lA|apply lN|apply lD)|exact HB.out)));(case aF => exact (fun _ _ => trivial));(case aO => exact (by (with_reducible repeat (first|apply rA|apply rN|apply rD));exact HO_4.out));(case aS => exact (lZ (by repeat (first|(with_reducible first|exact HB.out|apply lA|apply lN|apply lD)|exact HB.out))));(case aL => have := LMc33.out;omega);intro v164 w37 ho hb hg hat;rw [← Ny163.out] at ho;have n0_ := aM (hb);have n1_ := aM (ho);clear HB;clear HO_4;have HB := n0_;have HO165 := n1_;clear n0_ n1_;clear ho hb hg hat;obtain ⟨Ao38,co38,eo38⟩ := Kd.R_slice HO165.out;subst eo38)|(go_at_call 22;(with_reducible refine (spec_l25Row.calls k1 _ _ y163 t166 _ ?side1 ?side2 A36.out).mono ?_);(case side1 => repeat (first|exact (rR HO165.out).2.2|(with_reducible first|refine cA ?_ _|refine cN ?_ _|refine cD ?_)));(case side2 => exact (rR HO165.out).2.1);rintro e w' ⟨rfl,⟨nd,rfl⟩⟩));go_ret2;exact ⟨_,by first|rfl|(simp [*];done),by (with_reducible repeat (first|apply rA|apply rN|apply rD));exact HO165.out,by repeat (first|(with_reducible first|exact HB.out|apply lA|apply lN|apply lD)|exact HB.out)⟩
    ·rw [if_neg c33] at H;exact absurd H (by simp)
def spec_ReadRow.f (k : Nat) (a0 : ByteArray) : Option (List ByteArray × Bool) := (spec_l23Bytes.f k a0 0 1000 32).bind fun t170 => (if t170 = true then ((spec_l25Read.f k a0).bind fun bt171 => (if bt171.2 = true then (some (bt171.1,true)) else (some ((([] : List ByteArray)),false)))) else (some ((([] : List ByteArray)),false)))
theorem spec_ReadRow.mono : ∀ a0 k,LeO (spec_ReadRow.f k a0) (spec_ReadRow.f (k + 1) a0) := by
 intro a0 k
 unfold spec_ReadRow.f
 repeat' first
   | (with_reducible exact spec_l23Bytes.mono _ _ _ _ _)
   | (with_reducible exact spec_l25Read.mono _ _)
   | (with_reducible exact LeO.refl _)
   | (with_reducible exact LeO.none _)
   | (with_reducible refine LeO.ite ?_ ?_)
   | (with_reducible refine LeO.bind ?_ (fun _ => ?_))
   | exact spec_l23Bytes.mono _ _ _ _ _
   | exact spec_l25Read.mono _ _
   | exact LeO.none _
   | refine LeO.ite ?_ ?_
   | refine LeO.bind ?_ (fun _ => ?_)
set_option maxHeartbeats 8000000 in
set_option maxRecDepth 100000 in
theorem spec_ReadRow.calls (k : Nat) (a0 : ByteArray) (r1 : List ByteArray) (r2 : Bool) (w : World) (h : spec_ReadRow.f k a0 = some (r1,r2)) :
  Calls Tryd.prog 13 #[.string a0] w fun e w' => ∃ v0_ : Value,e = .returned (.tuple #[v0_,.bool r2]) ∧ Kd.R Kd.string 9 w' w.heap.size (fun _ => True) v0_ r1 ∧ Below w.heap.size w w' := by
 have HB := aM (Below.refl w.heap.size w);have H : ((spec_l23Bytes.f k a0 0 1000 32).bind fun t170 => (if t170 = true then ((spec_l25Read.f k a0).bind fun bt171 => (if bt171.2 = true then (some (bt171.1,true)) else (some ((([] : List ByteArray)),false)))) else (some ((([] : List ByteArray)),false)))) = some (r1,r2) := h;clear h;obtain ⟨t170,A2,H⟩ := bE_ H
 by_cases c3 : t170 = true
 focus
  subst c3;rw [if_pos rfl] at H;replace H := Option.bind_eq_some_iff.mp H;obtain ⟨⟨t171,t172⟩,A40,H⟩ := H;replace H : (if t172 = true then (some (t171,true)) else (some ((([] : List ByteArray)),false))) = some (r1,r2) := H;have A4 := aM A40;clear A40
  by_cases c5 : t172 = true
  focus
   subst c5;rw [if_pos rfl] at H;simp only [eS,eP] at H;obtain ⟨rfl,rfl⟩ := H
  rotate_left
  focus
   replace c5 := Bool.eq_false_iff.mpr c5;subst c5;rw [if_neg Bool.false_ne_true] at H;obtain ⟨y175,hy175⟩ : ∃ y_ : List ByteArray,y_ = (([] : List ByteArray)) := ⟨_,rfl⟩;replace H : (some (y175,false)) = some (r1,r2) := (by first|(rw [hy175];with_reducible exact H)|(have H2_ := (Option.bind_some _ _).symm.trans H;rw [hy175];with_reducible exact H2_)|(have H2_ := (Option.bind_some _ _).symm.trans H;with_reducible exact H2_)|with_reducible exact H|(rw [hy175];exact H)|exact H);have Ny175 := aM hy175;clear hy175;simp only [eS,eP] at H;obtain ⟨rfl,rfl⟩ := H
 rotate_left 2
 focus
  replace c3 := Bool.eq_false_iff.mpr c3;subst c3;rw [if_neg Bool.false_ne_true] at H;obtain ⟨y178,hy178⟩ : ∃ y_ : List ByteArray,y_ = (([] : List ByteArray)) := ⟨_,rfl⟩;replace H : (some (y178,false)) = some (r1,r2) := (by first|(rw [hy178];with_reducible exact H)|(have H2_ := (Option.bind_some _ _).symm.trans H;rw [hy178];with_reducible exact H2_)|(have H2_ := (Option.bind_some _ _).symm.trans H;with_reducible exact H2_)|with_reducible exact H|(rw [hy178];exact H)|exact H);have Ny178 := aM hy178;clear hy178;simp only [eS,eP] at H;obtain ⟨rfl,rfl⟩ := H
 all_goals
  go_enter Tryd.func13,Tryd.ntmps13;go_wp2_with (first|((with_reducible refine gate_callee (f := 17) rfl ?_);refine goesL_ (some 7) rfl rfl Tryd.func17 (by kernel_rfl) rfl #[.string a0,.int .i64 0,.int .i64 1000,.int .u8 32] rfl (by (try simp only [mT,mC,mN]);first|done|rfl|(simp only [xD,xT];rfl)) ?_;(with_reducible refine (spec_l23Bytes.calls _ _ _ _ _ _ _ A2.out).mono ?_);rintro e w' ⟨rfl,⟨nd,rfl⟩⟩;refine ⟨_,rfl,?_⟩)|((with_reducible refine gate_dst (N := 9) rfl ?_);refine Kd.R_lit Kd.string _ 9 ?hg (N := 9) ?hd (xs := ([] : List ByteArray)) (inner := []) (ok := fun _ => True) (okp := fun _ => True) ?hr ?hp (fun _ hk => hk) trivial (Below.refl _ _) (Nat.le_refl _) (by simp) ?_;(case hd => rfl);(case hg => rfl);(case hr => first|(go_simp;done)|(go_simp;rfl));(case hp => exact (Reps.none _ _));intro v179 w10 ho11 hb hg_ hnew_;clear hg_ hnew_;(first|rw [← Ny178.out] at ho11|(simp only [Int.reduceToNat] at ho11;rw [← Ny178.out] at ho11));have HO180 := aM (Kd.R_lower ho11 (lZ (by repeat (first|(with_reducible first|exact HB.out|apply lA|apply lN|apply lD)|exact HB.out))));replace HB := aM (lT (by repeat (first|(with_reducible first|exact HB.out|apply lA|apply lN|apply lD)|exact HB.out)) hb);clear hb ho11)|((with_reducible refine gate_callee (f := 27) rfl ?_);refine goesL_ (some 12) rfl rfl Tryd.func27 (by kernel_rfl) rfl #[.string a0] rfl (by (try simp only [mT,mC,mN]);first|done|rfl|(simp only [xD,xT];rfl)) ?_;(with_reducible refine (spec_l25Read.calls _ _ _ _ _ A4.out).mono ?_);rintro e WA4 ⟨v173,rfl,ho0,hb⟩;refine ⟨_,rfl,?_⟩;have HO174 := aM (Kd.R_lower ho0 (lZ (by repeat (first|(with_reducible first|exact HB.out|apply lA|apply lN|apply lD)|exact HB.out))));replace HB := aM (lT (by repeat (first|(with_reducible first|exact HB.out|apply lA|apply lN|apply lD)|exact HB.out)) hb);(try clear hb);(try clear ho0))|((with_reducible refine gate_dst (N := 17) rfl ?_);refine Kd.R_lit Kd.string _ 9 ?hg (N := 17) ?hd (xs := ([] : List ByteArray)) (inner := []) (ok := fun _ => True) (okp := fun _ => True) ?hr ?hp (fun _ hk => hk) trivial (Below.refl _ _) (Nat.le_refl _) (by simp) ?_;(case hd => rfl);(case hg => rfl);(case hr => first|(go_simp;done)|(go_simp;rfl));(case hp => exact (Reps.none _ _));intro v176 w8 ho9 hb hg_ hnew_;clear hg_ hnew_;(first|rw [← Ny175.out] at ho9|(simp only [Int.reduceToNat] at ho9;rw [← Ny175.out] at ho9));have HO177 := aM (Kd.R_lower (Kd.R_new' ho9 (Kd.R_lt (by (with_reducible repeat (first|apply rA|apply rN|apply rD));exact HO174.out))) (lZ (by repeat (first|(with_reducible first|exact HB.out|apply lA|apply lN|apply lD)|exact HB.out))));replace HO174 := aM (Kd.R_elder' (by (with_reducible repeat (first|apply rA|apply rN|apply rD));exact HO174.out) (Kd.R_base ho9) hb);replace HB := aM (lT (by repeat (first|(with_reducible first|exact HB.out|apply lA|apply lN|apply lD)|exact HB.out)) hb);clear hb ho9));go_ret2;(first|exact ⟨_,by first|rfl|(simp [*];done),by (with_reducible repeat (first|apply rA|apply rN|apply rD));exact HO174.out,by repeat (first|(with_reducible first|exact HB.out|apply lA|apply lN|apply lD)|exact HB.out)⟩|exact ⟨_,by first|rfl|(simp [*];done),by (with_reducible repeat (first|apply rA|apply rN|apply rD));exact Kd.R_mono HO177.out (fun _ hk => trivial),by repeat (first|(with_reducible first|exact HB.out|apply lA|apply lN|apply lD)|exact HB.out)⟩|exact ⟨_,by first|rfl|(simp [*];done),by (with_reducible repeat (first|apply rA|apply rN|apply rD));exact HO180.out,by repeat (first|(with_reducible first|exact HB.out|apply lA|apply lN|apply lD)|exact HB.out)⟩)
end Go.Proofs.YtbinfdheapjpnaaDoor.P
