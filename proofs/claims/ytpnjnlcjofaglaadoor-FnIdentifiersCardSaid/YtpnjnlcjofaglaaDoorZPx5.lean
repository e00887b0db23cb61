/- Written by a program in this session: each theorem here says that a Go function computes the Lean function beside it, or that a law's row holds, under the conditions that the theorem itself states. -/
import Derived.Test.YtpnjnlcjofaglaaDoorZPx0
import Derived.Test.YtpnjnlcjofaglaaDoorZPx1
import Derived.Test.YtpnjnlcjofaglaaDoorZPx4
namespace Go.Proofs.YtpnjnlcjofaglaaDoor.P
open Go.RowKit Go.Proofs.YtpnjnlcjofaglaaDoorW.PrintWords Go.Proofs.YtpnjnlcjofaglaaDoorW.PrintLast Go.Proofs.YtpnjnlcjofaglaaDoorW.PrintMore
attribute [local go_sem] max2_int min2_int max_two min_two max_three min_three max_four min_four   -- for this text's walks alone
set_option linter.unusedVariables false
set_option linter.unusedSimpArgs false
def spec_l1Num.f : Nat → Int → Option (ByteArray)
 | 0,_ => none
 | k + 1,a0 => if a0 < 0 then ((spec_l1Num.f k (wrap64 (-a0))).bind fun t160 => (if 1 + t160.size ≤ 9223372036854775807 then (some ((⟨#[45]⟩ : ByteArray) ++ t160)) else (none))) else (if a0 < 10 then (if 0 ≤ a0 then (if a0 ≤ (wrap64 (a0 + 1)) then (if (wrap64 (a0 + 1)) ≤ 10 then (some ((⟨#[48,49,50,51,52,53,54,55,56,57]⟩ : ByteArray).extract (a0 : Int).toNat ((wrap64 (a0 + 1)) : Int).toNat)) else (none)) else (none)) else (none)) else ((spec_l1Num.f k (wrap64 (Int.tdiv a0 10))).bind fun t161 => (if 0 ≤ (Int.tmod a0 10) then (if (Int.tmod a0 10) ≤ (wrap64 ((Int.tmod a0 10) + 1)) then (if (wrap64 ((Int.tmod a0 10) + 1)) ≤ 10 then (if t161.size + ((⟨#[48,49,50,51,52,53,54,55,56,57]⟩ : ByteArray).extract ((Int.tmod a0 10) : Int).toNat ((wrap64 ((Int.tmod a0 10) + 1)) : Int).toNat).size ≤ 9223372036854775807 then (some (t161 ++ ((⟨#[48,49,50,51,52,53,54,55,56,57]⟩ : ByteArray).extract ((Int.tmod a0 10) : Int).toNat ((wrap64 ((Int.tmod a0 10) + 1)) : Int).toNat))) else (none)) else (none)) else (none)) else (none))))
theorem spec_l1Num.mono_l : ∀ k,(∀ y0,LeO (spec_l1Num.f k y0) (spec_l1Num.f (k + 1) y0))
 | 0 => fun _ r h => by simp [spec_l1Num.f] at h
 | k + 1 => by
  have ih0 := spec_l1Num.mono_l k
  ·intro y0
   unfold spec_l1Num.f
   repeat' first
   | (with_reducible exact ih0 _)
   | (with_reducible exact LeO.refl _)
   | (with_reducible exact LeO.none _)
   | (with_reducible refine LeO.ite ?_ ?_)
   | (with_reducible refine LeO.bind ?_ (fun _ => ?_))
   | exact ih0 _
   | exact LeO.none _
   | refine LeO.ite ?_ ?_
   | refine LeO.bind ?_ (fun _ => ?_)
theorem spec_l1Num.mono : ∀ a0 k,LeO (spec_l1Num.f k a0) (spec_l1Num.f (k + 1) a0) := by
 intro a0 k
 have ih0 := spec_l1Num.mono_l k
 exact ih0 a0
def spec_l1Num.T5 : Bool × List (List Nat × List Nat) := (true,[([],[]),([0],[0]),([1],[1]),([],[]),([3],[3]),([],[]),([5],[5]),([6],[6]),([4,7],[4,7]),([2,8],[2,8]),([9,2,0,1,2,3,4,5,6,7,8,9],[9])])
def spec_l1Num.B5 : List Nat := [0,1,3,0,8,0,32,96,248,511,1023]
theorem spec_l1Num.tab5 : rtab .any (opsOf Tryd.f72 5) = spec_l1Num.T5 := by kernel_rfl
theorem spec_l1Num.bits5 : waitsOk spec_l1Num.T5.2 spec_l1Num.B5 = true := by kernel_rfl
set_option maxHeartbeats 8000000 in
set_option maxRecDepth 100000 in
theorem spec_l1Num.calls (k : Nat) : ∀ (a0 : Int) (r : ByteArray) (w : World) (h : spec_l1Num.f k a0 = some r),
  Calls Tryd.prog 72 #[.int .i64 a0] w fun e w' => e = .returned (.string r) ∧ Below w.heap.size w w' := by
 induction k using Nat.strongRecOn with
 | _ k ih =>
 intro a0 r w h
 cases k with
 | zero => exact absurd h (by simp [spec_l1Num.f])
 | succ k =>
 simp only [spec_l1Num.f] at h
 have HB := Aside0.mk (Below.refl w.heap.size w)
 have H : (if a0 < 0 then ((spec_l1Num.f k (wrap64 (-a0))).bind fun t160 => (if 1 + t160.size ≤ 9223372036854775807 then (some ((⟨#[45]⟩ : ByteArray) ++ t160)) else (none))) else (if a0 < 10 then (if 0 ≤ a0 then (if a0 ≤ (wrap64 (a0 + 1)) then (if (wrap64 (a0 + 1)) ≤ 10 then (some ((⟨#[48,49,50,51,52,53,54,55,56,57]⟩ : ByteArray).extract (a0 : Int).toNat ((wrap64 (a0 + 1)) : Int).toNat)) else (none)) else (none)) else (none)) else ((spec_l1Num.f k (wrap64 (Int.tdiv a0 10))).bind fun t161 => (if 0 ≤ (Int.tmod a0 10) then (if (Int.tmod a0 10) ≤ (wrap64 ((Int.tmod a0 10) + 1)) then (if (wrap64 ((Int.tmod a0 10) + 1)) ≤ 10 then (if t161.size + ((⟨#[48,49,50,51,52,53,54,55,56,57]⟩ : ByteArray).extract ((Int.tmod a0 10) : Int).toNat ((wrap64 ((Int.tmod a0 10) + 1)) : Int).toNat).size ≤ 9223372036854775807 then (some (t161 ++ ((⟨#[48,49,50,51,52,53,54,55,56,57]⟩ : ByteArray).extract ((Int.tmod a0 10) : Int).toNat ((wrap64 ((Int.tmod a0 10) + 1)) : Int).toNat))) else (none)) else (none)) else (none)) else (none))))) = some r := h
 clear h
 by_cases c2 : a0 < 0
 ·rw [if_pos c2] at H
  have c2b0 : decide (a0 < 0) = true := decide_eq_true c2
  clear c2
  replace H := Option.bind_eq_some_iff.mp H
  obtain ⟨t160,A30,H⟩ := H
  replace H : (if 1 + t160.size ≤ 9223372036854775807 then (some ((⟨#[45]⟩ : ByteArray) ++ t160)) else (none)) = some r := H
  have A3 := Aside0.mk A30
  clear A30
  by_cases c4 : 1 + t160.size ≤ 9223372036854775807
  ·rw [if_pos c4] at H
   have c4b0 := eq_true c4
   have c4b1 : decide (1 + t160.size ≤ 9223372036854775807) = true := decide_eq_true c4
   try have c4b2 : (9223372036854775807 < 1 + t160.size) = False := eq_false (Nat.not_lt.2 c4)
   obtain rfl := Option.some.inj H
   simp only [Option.some.injEq,Prod.mk.injEq] at H
   obtain ⟨rfl⟩ := H
   go_enter Tryd.func72,Tryd.ntmps72
   go_wp2_with (first|((with_reducible refine gate_callee (f := 72) rfl ?_);refine goesL_ (some 7) rfl rfl Tryd.func72 (by kernel_rfl) rfl #[.int .i64 (wrap64 (-a0))] rfl (by (try simp only [List.map_toArray,List.map_cons,List.map_nil]);first|done|rfl|(simp only [List.length_drop,List.length_take];rfl)) ?_;(with_reducible refine (ih k (by omega) (wrap64 (-a0)) t160 _ A3.out).mono ?_);rintro e w5 ⟨rfl,hb⟩;refine ⟨_,rfl,?_⟩;have n0_ := Aside0.mk (below_step (by repeat (first|(with_reducible first|exact HB.out|apply lA|apply lN|apply lD)|exact HB.out)) hb);clear HB;have HB := n0_;clear n0_;(try clear hb);(try clear hb2);(try clear hk);(try clear hi)))
   go_ret
   exact ⟨by first|rfl|(simp [errW_none,errW_some] <;> rfl)|(simp [*,errW_none,errW_some] <;> rfl),by repeat (first|(with_reducible first|exact HB.out|apply lA|apply lN|apply lD)|exact HB.out)⟩
  ·rw [if_neg c4] at H
   exact absurd H (by simp)
 ·rw [if_neg c2] at H
  have c2b0 : decide (a0 < 0) = false := decide_eq_false c2
  clear c2
  by_cases c6 : a0 < 10
  ·rw [if_pos c6] at H
   have c6b0 : decide (a0 < 10) = true := decide_eq_true c6
   clear c6
   by_cases c7 : 0 ≤ a0
   ·rw [if_pos c7] at H
    have c7b0 := eq_true c7
    have c7b1 : decide (0 ≤ a0) = true := decide_eq_true c7
    clear c7
    by_cases c8 : a0 ≤ (wrap64 (a0 + 1))
    ·rw [if_pos c8] at H
     have c8b0 := eq_true c8
     have c8b1 : decide (a0 ≤ (wrap64 (a0 + 1))) = true := decide_eq_true c8
     by_cases c9 : (wrap64 (a0 + 1)) ≤ 10
     ·rw [if_pos c9] at H
      have c9b0 := eq_true c9
      have c9b1 : decide ((wrap64 (a0 + 1)) ≤ 10) = true := decide_eq_true c9
      obtain rfl := Option.some.inj H
      simp only [Option.some.injEq,Prod.mk.injEq] at H
      obtain ⟨rfl⟩ := H
      go_enter Tryd.func72,Tryd.ntmps72
      go_wp2
      go_ret
      exact ⟨by first|rfl|(simp [errW_none,errW_some] <;> rfl)|(simp [*,errW_none,errW_some] <;> rfl),by repeat (first|(with_reducible first|exact HB.out|apply lA|apply lN|apply lD)|exact HB.out)⟩
     ·rw [if_neg c9] at H
      exact absurd H (by simp)
    ·rw [if_neg c8] at H
     exact absurd H (by simp)
   ·rw [if_neg c7] at H
    exact absurd H (by simp)
  ·rw [if_neg c6] at H
   have c6b0 : decide (a0 < 10) = false := decide_eq_false c6
   clear c6
   replace H := Option.bind_eq_some_iff.mp H
   obtain ⟨t161,A100,H⟩ := H
   replace H : (if 0 ≤ (Int.tmod a0 10) then (if (Int.tmod a0 10) ≤ (wrap64 ((Int.tmod a0 10) + 1)) then (if (wrap64 ((Int.tmod a0 10) + 1)) ≤ 10 then (if t161.size + ((⟨#[48,49,50,51,52,53,54,55,56,57]⟩ : ByteArray).extract ((Int.tmod a0 10) : Int).toNat ((wrap64 ((Int.tmod a0 10) + 1)) : Int).toNat).size ≤ 9223372036854775807 then (some (t161 ++ ((⟨#[48,49,50,51,52,53,54,55,56,57]⟩ : ByteArray).extract ((Int.tmod a0 10) : Int).toNat ((wrap64 ((Int.tmod a0 10) + 1)) : Int).toNat))) else (none)) else (none)) else (none)) else (none)) = some r := H
   have A10 := Aside0.mk A100
   clear A100
   obtain ⟨ji11,hji11⟩ : ∃ j_ : Int,(Int.tmod a0 10) = j_ := ⟨_,rfl⟩
   replace H : (if 0 ≤ (ji11) then (if (ji11) ≤ (wrap64 ((ji11) + 1)) then (if (wrap64 ((ji11) + 1)) ≤ 10 then (if t161.size + ((⟨#[48,49,50,51,52,53,54,55,56,57]⟩ : ByteArray).extract ((ji11) : Int).toNat ((wrap64 ((ji11) + 1)) : Int).toNat).size ≤ 9223372036854775807 then (some (t161 ++ ((⟨#[48,49,50,51,52,53,54,55,56,57]⟩ : ByteArray).extract ((ji11) : Int).toNat ((wrap64 ((ji11) + 1)) : Int).toNat))) else (none)) else (none)) else (none)) else (none)) = some r := by first|(rw [hji11] at H;exact H)|(simp only [hji11] at H ⊢;exact H)
   (try rw [hji11] at A10)
   by_cases c12 : 0 ≤ (ji11)
   ·rw [if_pos c12] at H
    have c12b0 := eq_true c12
    have c12b1 : decide (0 ≤ (ji11)) = true := decide_eq_true c12
    clear c12
    by_cases c13 : (ji11) ≤ (wrap64 ((ji11) + 1))
    ·rw [if_pos c13] at H
     have c13b0 := eq_true c13
     have c13b1 : decide ((ji11) ≤ (wrap64 ((ji11) + 1))) = true := decide_eq_true c13
     by_cases c14 : (wrap64 ((ji11) + 1)) ≤ 10
     ·rw [if_pos c14] at H
      have c14b0 := eq_true c14
      have c14b1 : decide ((wrap64 ((ji11) + 1)) ≤ 10) = true := decide_eq_true c14
      by_cases c15 : t161.size + ((⟨#[48,49,50,51,52,53,54,55,56,57]⟩ : ByteArray).extract ((ji11) : Int).toNat ((wrap64 ((ji11) + 1)) : Int).toNat).size ≤ 9223372036854775807
      ·rw [if_pos c15] at H
       have c15b0 := eq_true c15
       have c15b1 : decide (t161.size + ((⟨#[48,49,50,51,52,53,54,55,56,57]⟩ : ByteArray).extract ((ji11) : Int).toNat ((wrap64 ((ji11) + 1)) : Int).toNat).size ≤ 9223372036854775807) = true := decide_eq_true c15
       try have c15b3 : (9223372036854775807 < t161.size + ((((wrap64 ((ji11) + 1)) : Int).toNat - ((ji11) : Int).toNat))) = False := eq_false (by have h_ := c15;simp only [ByteArray.size_append,ByteArray.size_extract] at h_;have hs0_ : (⟨#[48,49,50,51,52,53,54,55,56,57]⟩ : ByteArray).size = 10 := rfl;omega)
       try have c15b2 : (9223372036854775807 < t161.size + ((⟨#[48,49,50,51,52,53,54,55,56,57]⟩ : ByteArray).extract ((ji11) : Int).toNat ((wrap64 ((ji11) + 1)) : Int).toNat).size) = False := eq_false (Nat.not_lt.2 c15)
       obtain rfl := Option.some.inj H
       simp only [Option.some.injEq,Prod.mk.injEq] at H
       obtain ⟨rfl⟩ := H
       go_enter Tryd.func72,Tryd.ntmps72
       try go_wp2
       have n0_ := Aside0.mk (lD HB.out)
       clear HB
       have HB := n0_
       clear n0_
       refine start_ (n := 11) (S := fun w' => True) (ds := []) #[false,false,false,false,false,false,false,false,false,false,false] (by kernel_rfl) rfl rfl trivial (fun hHeld => ?_);refine with_tabW spec_l1Num.tab5 spec_l1Num.bits5 (fun HT_ HW_ => ?_)
       generalize w.drew = w16 at HB hHeld ⊢
       refine pure_ (i := 0) (N := some 15) (v := ?_) (a' := ?_) #[true,false,false,false,false,false,false,false,false,false,false] rfl rfl (any_of HT_.out (by kernel_rfl)) (fun _ _ _ h => h) (Or.inl ⟨by rfl,?_⟩) ?_ ?_
       rotate_left
       ·intro w'
        go_simp
        with_reducible rfl
       rotate_left
       ·simp only [Act.put,List.setIfInBounds_toArray,List.set_cons_zero,List.set_cons_succ,i64_w,i32_w]
        rfl
       refine pure_ (i := 1) (N := some 16) (v := ?_) (a' := ?_) #[true,true,false,false,false,false,false,false,false,false,false] rfl rfl (any_of HT_.out (by kernel_rfl)) (fun _ _ _ h => h) (Or.inl ⟨by rfl,?_⟩) ?_ ?_
       rotate_left
       ·intro w'
        go_simp
        with_reducible rfl
       rotate_left
       ·simp only [Act.put,List.setIfInBounds_toArray,List.set_cons_zero,List.set_cons_succ,i64_w,i32_w]
        rfl
       refine pure_ (i := 3) (N := some 18) (v := ?_) (a' := ?_) #[true,true,false,true,false,false,false,false,false,false,false] rfl rfl (any_of HT_.out (by kernel_rfl)) (fun _ _ _ h => h) (Or.inl ⟨by rfl,?_⟩) ?_ ?_
       rotate_left
       ·intro w'
        go_simp
        with_reducible rfl
       rotate_left
       ·simp only [Act.put,List.setIfInBounds_toArray,List.set_cons_zero,List.set_cons_succ,i64_w,i32_w]
        rfl
       refine pure_ (i := 4) (N := some 19) (v := ?_) (a' := ?_) #[true,true,false,true,true,false,false,false,false,false,false] rfl rfl (any_of HT_.out (by kernel_rfl)) (fun _ _ _ h => h) (Or.inl ⟨by rfl,?_⟩) ?_ ?_
       rotate_left
       ·intro w'
        go_simp
        with_reducible rfl
       rotate_left
       ·simp only [Act.put,List.setIfInBounds_toArray,List.set_cons_zero,List.set_cons_succ,i64_w,i32_w]
        rfl
       refine pure_ (i := 5) (N := some 20) (v := ?_) (a' := ?_) #[true,true,false,true,true,true,false,false,false,false,false] rfl rfl (any_of HT_.out (by kernel_rfl)) (fun _ _ _ h => h) (Or.inl ⟨by rfl,?_⟩) ?_ ?_
       rotate_left
       ·intro w'
        go_simp
        with_reducible rfl
       rotate_left
       ·simp only [Act.put,List.setIfInBounds_toArray,List.set_cons_zero,List.set_cons_succ,i64_w,i32_w]
        rfl
       refine pure_ (i := 6) (N := some 21) (v := ?_) (a' := ?_) #[true,true,false,true,true,true,true,false,false,false,false] rfl rfl (any_of HT_.out (by kernel_rfl)) (fun _ _ _ h => h) (Or.inl ⟨by rfl,?_⟩) ?_ ?_
       rotate_left
       ·intro w'
        go_simp
        with_reducible rfl
       rotate_left
       ·simp only [Act.put,List.setIfInBounds_toArray,List.set_cons_zero,List.set_cons_succ,i64_w,i32_w]
        rfl
       refine pure_ (i := 7) (N := some 22) (v := ?_) (a' := ?_) #[true,true,false,true,true,true,true,true,false,false,false] rfl rfl (any_of HT_.out (by kernel_rfl)) (fun _ _ _ h => h) (Or.inl ⟨by rfl,?_⟩) ?_ ?_
       rotate_left
       ·intro w'
        go_simp
        with_reducible rfl
       rotate_left
       ·simp only [Act.put,List.setIfInBounds_toArray,List.set_cons_zero,List.set_cons_succ,i64_w,i32_w]
        rfl
       refine pure_ (i := 8) (N := some 23) (v := ?_) (a' := ?_) #[true,true,false,true,true,true,true,true,true,false,false] rfl rfl (any_of HT_.out (by kernel_rfl)) (fun _ _ _ h => h) (Or.inl ⟨by rfl,?_⟩) ?_ ?_
       rotate_left
       ·intro w'
        go_simp
        with_reducible rfl
       rotate_left
       ·simp only [Act.put,List.setIfInBounds_toArray,List.set_cons_zero,List.set_cons_succ,i64_w,i32_w]
        rfl
       refine one_ (i := 2) (N := some 17) #[true,true,true,true,true,true,true,true,true,false,false] rfl rfl (one_of HT_.out (by kernel_rfl)) (by decide) (fun K hK => ?_)
       refine goes_ Tryd.func72 (by kernel_rfl) rfl #[.int .i64 (wrap64 (Int.tdiv a0 10))] (by rfl) rfl rfl (by (try simp only [List.map_toArray,List.map_cons,List.map_nil]);first|done|rfl|(simp only [List.length_drop,List.length_take];rfl)) ?_
       with_reducible refine (ih k (by omega) (wrap64 (Int.tdiv a0 10)) t161 _ A10.out).mono ?_
       rintro e w17 ⟨rfl,hb⟩
       refine ⟨_,rfl,?_⟩
       have n0_ := Aside0.mk (below_step (by repeat (first|(with_reducible first|exact HB.out|apply lA|apply lN|apply lD)|exact HB.out)) hb)
       clear HB
       have HB := n0_
       clear n0_
       (try clear hb)
       (try clear hb2)
       (try clear hk)
       (try clear hi)
       refine hK.out _ _ trivial (fun hHeld => ?_)
       clear hK K
       refine norm_ (a' := ?_) ?_ ?_
       rotate_left
       ·show Act.put _ (some 17) _ = _
        simp only [Act.put,List.setIfInBounds_toArray,List.set_cons_zero,List.set_cons_succ,i64_w,i32_w]
        rfl
       refine pure_ (i := 9) (N := some 24) (v := ?_) (a' := ?_) #[true,true,true,true,true,true,true,true,true,true,false] rfl rfl (any_of HT_.out (by kernel_rfl)) (fun _ _ _ h => h) (Or.inl ⟨by rfl,?_⟩) ?_ ?_
       rotate_left
       ·intro w'
        go_simp
        with_reducible rfl
       rotate_left
       ·simp only [Act.put,List.setIfInBounds_toArray,List.set_cons_zero,List.set_cons_succ,i64_w,i32_w]
        rfl
       refine pure_ (i := 10) (N := some 2) (v := ?_) (a' := ?_) #[true,true,true,true,true,true,true,true,true,true,true] rfl rfl (any_of HT_.out (by kernel_rfl)) (fun _ _ _ h => h) (Or.inl ⟨by rfl,?_⟩) ?_ ?_
       rotate_left
       ·intro w'
        go_simp
        with_reducible rfl
       rotate_left
       ·simp only [Act.put,List.setIfInBounds_toArray,List.set_cons_zero,List.set_cons_succ,i64_w,i32_w]
        rfl
       refine done_ (done_of HT_.out (by kernel_rfl)) ?_
       try go_wp2
       go_ret
       exact ⟨by first|rfl|(simp [errW_none,errW_some] <;> rfl)|(simp only [← hji11];first|rfl|(simp [errW_none,errW_some] <;> rfl))|(simp [*,errW_none,errW_some] <;> rfl),by repeat (first|(with_reducible first|exact HB.out|apply lA|apply lN|apply lD)|exact HB.out)⟩
      ·rw [if_neg c15] at H
       exact absurd H (by simp)
     ·rw [if_neg c14] at H
      exact absurd H (by simp)
    ·rw [if_neg c13] at H
     exact absurd H (by simp)
   ·rw [if_neg c12] at H
    exact absurd H (by simp)
def spec_l1Cur_digits24.l0 : Nat → Int → ByteArray → List Int → Int → Int → Option (ByteArray × Int × Int)
 | 0,_,_,_,_,_ => none
 | k + 1,x1,x5,x1000,x1001,x1002 => if x1 > 0 then ((spec_l1Cur_pick.f x1000 x1001 x1002 10).bind fun bt162 => ((spec_l1Num.f k bt162.1).bind fun t165 => (if x5.size + t165.size ≤ 9223372036854775807 then (spec_l1Cur_digits24.l0 k (wrap64 (x1 - 1)) (x5 ++ t165) x1000 bt162.2.1 bt162.2.2) else (none)))) else (some (x5,x1001,x1002))
def spec_l1Cur_digits24.f (k : Nat) (s0_0 : List Int) (s0_1 : Int) (s0_2 : Int) (a1 : Int) : Option (ByteArray × Int × Int) := spec_l1Cur_digits24.l0 k a1 (⟨#[]⟩ : ByteArray) s0_0 s0_1 s0_2
theorem spec_l1Cur_digits24.mono_l : ∀ k,(∀ y0 y1 y2 y3 y4,LeO (spec_l1Cur_digits24.l0 k y0 y1 y2 y3 y4) (spec_l1Cur_digits24.l0 (k + 1) y0 y1 y2 y3 y4))
 | 0 => fun _ _ _ _ _ r h => by simp [spec_l1Cur_digits24.l0] at h
 | k + 1 => by
  have ih0 := spec_l1Cur_digits24.mono_l k
  ·intro y0 y1 y2 y3 y4
   unfold spec_l1Cur_digits24.l0
   repeat' first
   | (with_reducible exact ih0 _ _ _ _ _)
   | (with_reducible exact spec_l1Num.mono _ _)
   | (with_reducible exact LeO.refl _)
   | (with_reducible exact LeO.none _)
   | (with_reducible refine LeO.ite ?_ ?_)
   | (with_reducible refine LeO.bind ?_ (fun _ => ?_))
   | exact ih0 _ _ _ _ _
   | exact spec_l1Num.mono _ _
   | exact LeO.none _
   | refine LeO.ite ?_ ?_
   | refine LeO.bind ?_ (fun _ => ?_)
theorem spec_l1Cur_digits24.mono : ∀ a0 a1 a2 a3 k,LeO (spec_l1Cur_digits24.f k a0 a1 a2 a3) (spec_l1Cur_digits24.f (k + 1) a0 a1 a2 a3) := by
 intro a0 a1 a2 a3 k
 have ih0 := spec_l1Cur_digits24.mono_l k
 unfold spec_l1Cur_digits24.f
 repeat' first
   | (with_reducible exact ih0 _ _ _ _ _)
   | (with_reducible exact spec_l1Num.mono _ _)
   | (with_reducible exact LeO.refl _)
   | (with_reducible exact LeO.none _)
   | (with_reducible refine LeO.ite ?_ ?_)
   | (with_reducible refine LeO.bind ?_ (fun _ => ?_))
   | exact ih0 _ _ _ _ _
   | exact spec_l1Num.mono _ _
   | exact LeO.none _
   | refine LeO.ite ?_ ?_
   | refine LeO.bind ?_ (fun _ => ?_)
set_option maxHeartbeats 8000000 in
set_option maxRecDepth 100000 in
theorem spec_l1Cur_digits24.calls (k : Nat) (g : Nat) (s0_0 : List Int) (s0_1 : Int) (s0_2 : Int) (a1 : Int) (r1 : ByteArray) (r2 : Int) (r3 : Int) (w0 w : World) (hI : IsS56 w0 w g s0_0 s0_1 s0_2) (hB : Below w0.heap.size w0 w) (h : spec_l1Cur_digits24.f k s0_0 s0_1 s0_2 a1 = some (r1,r2,r3)) :
  Calls Tryd.prog 51 #[.pointer (some ⟨g,0,none⟩),.int .i64 a1] w fun e w' => e = .returned (.string r1) ∧ IsS56 w0 w' g s0_0 r2 r3 ∧ Below w0.heap.size w0 w' ∧ KeepBut w w' g none := by
 have HI0 := Aside0.mk hI
 have HK := Aside0.mk (KeepBut.refl w g none)
 have HL := Aside0.mk hB.size
 clear hI
 have HW0 := Aside0.mk hB.size
 have HB := Aside0.mk hB
 clear hB
 have H : (spec_l1Cur_digits24.l0 k a1 (⟨#[]⟩ : ByteArray) s0_0 s0_1 s0_2) = some (r1,r2,r3) := h
 clear h
 have H' := Aside0.mk H
 clear H
 go_enter Tryd.func51,Tryd.ntmps51
 go_wp2
 go_loopg [1,5] k (fun kq v1 v5 w' => ∃ (x1_1 : Int) (x5_1 : ByteArray) (x1001_1 : Int) (x1002_1 : Int),v1 = .int .i64 x1_1 ∧ v5 = .string x5_1 ∧ Aside0 (spec_l1Cur_digits24.l0 kq x1_1 x5_1 s0_0 x1001_1 x1002_1 = some (r1,r2,r3)) ∧ Aside0 (kq ≤ k) ∧ Aside0 (IsS56 w0 w' g s0_0 x1001_1 x1002_1) ∧ Aside0 (KeepBut w w' g none) ∧ Aside0 (Below w0.heap.size w0 w'))
 case atStart => exact ⟨(a1),((⟨#[]⟩ : ByteArray)),(s0_1),(s0_2),(by first|rfl|(simp;done)|(simp [my_isEmpty];done)|(simp [*];done)),(by first|rfl|(simp;done)|(simp [my_isEmpty];done)|(simp [*];done)),H',⟨Nat.le_refl _⟩,⟨by repeat (first|(with_reducible first|exact HI0.out|apply IsS56.alloc|apply IsS56.drewN|apply IsS56.drew|apply IsS56.set_1|apply IsS56.set_2)|exact HI0.out)⟩,⟨by repeat (first|(with_reducible first|exact HK.out|apply KeepBut.set_|apply keep_drewN|apply keep_drew|apply keep_alloc)|exact HK.out)⟩,⟨by repeat (first|(with_reducible first|exact HB.out|apply lA|apply lN|apply lD|refine below_set ?_ (IsS56.ge HI0.out))|exact HB.out)⟩⟩
 case round =>
  clear H'
  try clear p2
  obtain ⟨x1_1,x5_1,x1001_1,x1002_1,rfl,rfl,HA,HK1,HI0,HK,HB⟩ := hrel
  cases gk with
  | zero => exact absurd HA.out (by simp [spec_l1Cur_digits24.l0])
  | succ k1 =>
   have H := HA.out
   clear HA
   simp only [spec_l1Cur_digits24.l0] at H
   by_cases c3 : x1_1 > 0
   ·rw [if_pos c3] at H
    have c3b0 : decide (0 < x1_1) = true := decide_eq_true c3
    clear c3
    replace H := Option.bind_eq_some_iff.mp H
    obtain ⟨⟨t162,t163,t164⟩,A40,H⟩ := H
    replace H : ((spec_l1Num.f k1 t162).bind fun t165 => (if x5_1.size + t165.size ≤ 9223372036854775807 then (spec_l1Cur_digits24.l0 k1 (wrap64 (x1_1 - 1)) (x5_1 ++ t165) s0_0 t163 t164) else (none))) = some (r1,r2,r3) := H
    have A4 := Aside0.mk A40
    clear A40
    replace H := Option.bind_eq_some_iff.mp H
    obtain ⟨t165,A50,H⟩ := H
    replace H : (if x5_1.size + t165.size ≤ 9223372036854775807 then (spec_l1Cur_digits24.l0 k1 (wrap64 (x1_1 - 1)) (x5_1 ++ t165) s0_0 t163 t164) else (none)) = some (r1,r2,r3) := H
    have A5 := Aside0.mk A50
    clear A50
    by_cases c6 : x5_1.size + t165.size ≤ 9223372036854775807
    ·rw [if_pos c6] at H
     have c6b0 := eq_true c6
     have c6b1 : decide (x5_1.size + t165.size ≤ 9223372036854775807) = true := decide_eq_true c6
     try have c6b2 : (9223372036854775807 < x5_1.size + t165.size) = False := eq_false (Nat.not_lt.2 c6)
     have H' := Aside0.mk H
     clear H
     go_wp2_with (first|((with_reducible refine gate_callee (f := 49) rfl ?_);refine goesL_ (some 12) rfl rfl Tryd.func49 (by kernel_rfl) rfl #[.pointer (some ⟨g,0,none⟩),.int .i64 10] rfl (by (try simp only [List.map_toArray,List.map_cons,List.map_nil]);first|done|rfl|(simp only [List.length_drop,List.length_take];rfl)) ?_;(with_reducible refine (spec_l1Cur_pick.calls g s0_0 x1001_1 x1002_1 10 t162 t163 t164 w0 _ ?side1 ?side2 A4.out).mono ?_);(case side1 => repeat (first|(with_reducible first|exact HI0.out|apply IsS56.alloc|apply IsS56.drewN|apply IsS56.drew|apply IsS56.set_1|apply IsS56.set_2)|exact HI0.out));(case side2 => repeat (first|(with_reducible first|exact HB.out|apply lA|apply lN|apply lD|refine below_set ?_ (IsS56.ge HI0.out))|exact HB.out));rintro e w7 ⟨rfl,hi,hb,hk⟩;refine ⟨_,rfl,?_⟩;have n0_ := Aside0.mk (KeepBut.trans (by repeat (first|(with_reducible first|exact HK.out|apply KeepBut.set_|apply keep_drewN|apply keep_drew|apply keep_alloc)|exact HK.out)) hk (.inl rfl));have n1_ := Aside0.mk (hb);have n2_ := Aside0.mk (hi);clear HK;clear HB;clear HI0;have HK := n0_;have HB := n1_;have HI0 := n2_;clear n0_ n1_ n2_;(try clear hb);(try clear hb2);(try clear hk);(try clear hi))|((with_reducible refine gate_callee (f := 72) rfl ?_);refine goesL_ (some 13) rfl rfl Tryd.func72 (by kernel_rfl) rfl #[.int .i64 t162] rfl (by (try simp only [List.map_toArray,List.map_cons,List.map_nil]);first|done|rfl|(simp only [List.length_drop,List.length_take];rfl)) ?_;(with_reducible refine (spec_l1Num.calls k1 t162 t165 _ A5.out).mono ?_);rintro e w8 ⟨rfl,hb⟩;refine ⟨_,rfl,?_⟩;have n0_ := Aside0.mk (IsS56.below (by repeat (first|(with_reducible first|exact HI0.out|apply IsS56.alloc|apply IsS56.drewN|apply IsS56.drew|apply IsS56.set_1|apply IsS56.set_2)|exact HI0.out)) hb);have n1_ := Aside0.mk (KeepBut.trans (by repeat (first|(with_reducible first|exact HK.out|apply KeepBut.set_|apply keep_drewN|apply keep_drew|apply keep_alloc)|exact HK.out)) (KeepBut.of_below hb g none) (.inl rfl));have n2_ := Aside0.mk (below_step (by repeat (first|(with_reducible first|exact HB.out|apply lA|apply lN|apply lD|refine below_set ?_ (IsS56.ge HI0.out))|exact HB.out)) hb);clear HI0;clear HK;clear HB;have HI0 := n0_;have HK := n1_;have HB := n2_;clear n0_ n1_ n2_;(try clear hb);(try clear hb2);(try clear hk);(try clear hi)))
     go_roundg k1
     case measure => have := HK1.out;omega
     case rel => exact ⟨(wrap64 (x1_1 - 1)),(x5_1 ++ t165),(t163),(t164),(by first|rfl|(simp;done)|(simp [my_isEmpty];done)|(simp [*];done)),(by first|rfl|(simp;done)|(simp [my_isEmpty];done)|(simp [*];done)),H',⟨by have := HK1.out;omega⟩,⟨by repeat (first|(with_reducible first|exact HI0.out|apply IsS56.alloc|apply IsS56.drewN|apply IsS56.drew|apply IsS56.set_1|apply IsS56.set_2)|exact HI0.out)⟩,⟨by repeat (first|(with_reducible first|exact HK.out|apply KeepBut.set_|apply keep_drewN|apply keep_drew|apply keep_alloc)|exact HK.out)⟩,⟨by repeat (first|(with_reducible first|exact HB.out|apply lA|apply lN|apply lD|refine below_set ?_ (IsS56.ge HI0.out))|exact HB.out)⟩⟩
    ·rw [if_neg c6] at H
     exact absurd H (by simp)
   ·rw [if_neg c3] at H
    have c3b0 : decide (0 < x1_1) = false := decide_eq_false c3
    clear c3
    simp only [Option.some.injEq,Prod.mk.injEq] at H
    obtain ⟨rfl,rfl,rfl⟩ := H
    go_wp2
    go_ret
    exact ⟨by first|rfl|(simp [errW_none,errW_some] <;> rfl)|(simp [*,errW_none,errW_some] <;> rfl),by repeat (first|(with_reducible first|exact HI0.out|apply IsS56.alloc|apply IsS56.drewN|apply IsS56.drew|apply IsS56.set_1|apply IsS56.set_2)|exact HI0.out),by repeat (first|(with_reducible first|exact HB.out|apply lA|apply lN|apply lD|refine below_set ?_ (IsS56.ge HI0.out))|exact HB.out),by repeat (first|(with_reducible first|exact HK.out|apply KeepBut.set_|apply keep_drewN|apply keep_drew|apply keep_alloc)|exact HK.out)⟩
def spec_l1Cur_of.f (s0_0 : List Int) (s0_1 : Int) (s0_2 : Int) (l1 : List ByteArray) : Option (ByteArray × Int × Int) := (spec_l1Cur_pick.f s0_0 s0_1 s0_2 (l1.length : Int)).bind fun bt166 => (if 0 ≤ bt166.1 then (if bt166.1 < (l1.length : Int) then (some (rdOf ByteArray.empty l1 bt166.1,bt166.2.1,bt166.2.2)) else (none)) else (none))
set_option maxHeartbeats 8000000 in
set_option maxRecDepth 100000 in
theorem spec_l1Cur_of.calls (g : Nat) (s0_0 : List Int) (s0_1 : Int) (s0_2 : Int) (A1 : Option Addr) (c1 : Nat) (l1 : List ByteArray) (r1 : ByteArray) (r2 : Int) (r3 : Int) (w0 w : World) (hI : IsS56 w0 w g s0_0 s0_1 s0_2) (hB : Below w0.heap.size w0 w) (hr1 : Kd.C Kd.string w A1 l1.length l1) (hc1 : l1.length ≤ c1) (hf1 : ∀ ad,A1 = some ad → 0 < l1.length → ad.block ≠ g) (h : spec_l1Cur_of.f s0_0 s0_1 s0_2 l1 = some (r1,r2,r3)) :
  Calls Tryd.prog 70 #[.pointer (some ⟨g,0,none⟩),.slice A1 l1.length c1] w fun e w' => e = .returned (.string r1) ∧ IsS56 w0 w' g s0_0 r2 r3 ∧ Below w0.heap.size w0 w' ∧ KeepBut w w' g none := by
 have HR1 := Aside0.mk hr1
 have HC1 := Aside0.mk hc1
 clear hr1 hc1
 have HI0 := Aside0.mk hI
 have HK := Aside0.mk (KeepBut.refl w g none)
 have HL := Aside0.mk hB.size
 clear hI
 have HW0 := Aside0.mk hB.size
 have HB := Aside0.mk hB
 clear hB
 have H : ((spec_l1Cur_pick.f s0_0 s0_1 s0_2 (l1.length : Int)).bind fun bt166 => (if 0 ≤ bt166.1 then (if bt166.1 < (l1.length : Int) then (some (rdOf ByteArray.empty l1 bt166.1,bt166.2.1,bt166.2.2)) else (none)) else (none))) = some (r1,r2,r3) := h
 clear h
 replace H := Option.bind_eq_some_iff.mp H
 obtain ⟨⟨t166,t167,t168⟩,A30,H⟩ := H
 replace H : (if 0 ≤ t166 then (if t166 < (l1.length : Int) then (some (rdOf ByteArray.empty l1 t166,t167,t168)) else (none)) else (none)) = some (r1,r2,r3) := H
 have A3 := Aside0.mk A30
 clear A30
 by_cases c4 : 0 ≤ t166
 ·rw [if_pos c4] at H
  have c4b0 : decide (0 ≤ t166) = true := decide_eq_true c4
  clear c4
  by_cases c5 : t166 < (l1.length : Int)
  ·rw [if_pos c5] at H
   have c5b0 : decide (t166 < (l1.length : Int)) = true := decide_eq_true c5
   clear c5
   simp only [Option.some.injEq,Prod.mk.injEq] at H
   obtain ⟨rfl,rfl,rfl⟩ := H
   go_enter Tryd.func70,Tryd.ntmps70
   go_wp2_with (first|((with_reducible refine gate_callee (f := 49) rfl ?_);refine goesL_ (some 9) rfl rfl Tryd.func49 (by kernel_rfl) rfl #[.pointer (some ⟨g,0,none⟩),.int .i64 (l1.length : Int)] rfl (by (try simp only [List.map_toArray,List.map_cons,List.map_nil]);first|done|rfl|(simp only [List.length_drop,List.length_take];rfl)) ?_;(with_reducible refine (spec_l1Cur_pick.calls g s0_0 s0_1 s0_2 (l1.length : Int) t166 t167 t168 w0 _ ?side1 ?side2 A3.out).mono ?_);(case side1 => repeat (first|(with_reducible first|exact HI0.out|apply IsS56.alloc|apply IsS56.drewN|apply IsS56.drew|apply IsS56.set_1|apply IsS56.set_2)|exact HI0.out));(case side2 => repeat (first|(with_reducible first|exact HB.out|apply lA|apply lN|apply lD|refine below_set ?_ (IsS56.ge HI0.out))|exact HB.out));rintro e w6 ⟨rfl,hi,hb,hk⟩;refine ⟨_,rfl,?_⟩;have n0_ := Aside0.mk (KeepBut.trans (by repeat (first|(with_reducible first|exact HK.out|apply KeepBut.set_|apply keep_drewN|apply keep_drew|apply keep_alloc)|exact HK.out)) hk (.inl rfl));have n1_ := Aside0.mk (hb);have n2_ := Aside0.mk (hi);clear HK;clear HB;clear HI0;have HK := n0_;have HB := n1_;have HI0 := n2_;clear n0_ n1_ n2_;(try clear hb);(try clear hb2);(try clear hk);(try clear hi);have p169 : 0 ≤ (t166 : Int) := of_decide_eq_true (by first|(with_reducible assumption)|assumption);have q169 : t166 < (l1.length : Int) := of_decide_eq_true (by first|(with_reducible assumption)|assumption);obtain ⟨ad169,e169,hx169_0⟩ := Kd.at_string HR1.out t166 p169 q169;cases e169;replace hx169_0 := keep_cell HK.out hx169_0 (by first|(rw [add_block];exact hf1 _ rfl (by omega))|exact hf1 _ rfl (by omega)|exact hf1 ad169 rfl (by omega));replace p169 := eq_true p169;replace q169 := eq_true q169))
   go_ret
   exact ⟨by first|rfl|(simp [errW_none,errW_some] <;> rfl)|(simp [*,errW_none,errW_some] <;> rfl),by repeat (first|(with_reducible first|exact HI0.out|apply IsS56.alloc|apply IsS56.drewN|apply IsS56.drew|apply IsS56.set_1|apply IsS56.set_2)|exact HI0.out),by repeat (first|(with_reducible first|exact HB.out|apply lA|apply lN|apply lD|refine below_set ?_ (IsS56.ge HI0.out))|exact HB.out),by repeat (first|(with_reducible first|exact HK.out|apply KeepBut.set_|apply keep_drewN|apply keep_drew|apply keep_alloc)|exact HK.out)⟩
  ·rw [if_neg c5] at H
   exact absurd H (by simp)
 ·rw [if_neg c4] at H
  exact absurd H (by simp)
def spec_l1Cur_id24.f (k : Nat) (s0_0 : List Int) (s0_1 : Int) (s0_2 : Int) (a1 : Int) : Option (ByteArray × Int × Int) := (spec_l24Length.f a1).bind fun t170 => ((spec_l1Cur_digits24.f k s0_0 s0_1 s0_2 (wrap64 (t170 - 1))).bind fun bt171 => (if a1 = 2 then ((spec_l1Cur_of.f s0_0 bt171.2.1 bt171.2.2 (([(⟨#[57,55,56]⟩ : ByteArray),(⟨#[57,55,56]⟩ : ByteArray),(⟨#[57,55,57]⟩ : ByteArray)] : List ByteArray))).bind fun bt177 => (if 3 ≤ (bt171.1.size : Int) then (if bt177.1.size + (bt171.1.extract 3 bt171.1.size).size ≤ 9223372036854775807 then ((spec_l24Complete.f k a1 (bt177.1 ++ (bt171.1.extract 3 bt171.1.size))).bind fun t180 => (some (t180,bt177.2.1,bt177.2.2))) else (none)) else (none))) else ((spec_l24Complete.f k a1 bt171.1).bind fun t181 => (some (t181,bt171.2.1,bt171.2.2)))))
theorem spec_l1Cur_id24.mono : ∀ a0 a1 a2 a3 k,LeO (spec_l1Cur_id24.f k a0 a1 a2 a3) (spec_l1Cur_id24.f (k + 1) a0 a1 a2 a3) := by
 intro a0 a1 a2 a3 k
 unfold spec_l1Cur_id24.f
 repeat' first
   | (with_reducible exact spec_l1Cur_digits24.mono _ _ _ _ _)
   | (with_reducible exact spec_l24Complete.mono _ _ _)
   | (with_reducible exact LeO.refl _)
   | (with_reducible exact LeO.none _)
   | (with_reducible refine LeO.ite ?_ ?_)
   | (with_reducible refine LeO.bind ?_ (fun _ => ?_))
   | exact spec_l1Cur_digits24.mono _ _ _ _ _
   | exact spec_l24Complete.mono _ _ _
   | exact LeO.none _
   | refine LeO.ite ?_ ?_
   | refine LeO.bind ?_ (fun _ => ?_)
set_option maxHeartbeats 8000000 in
set_option maxRecDepth 100000 in
theorem spec_l1Cur_id24.calls (k : Nat) (g : Nat) (s0_0 : List Int) (s0_1 : Int) (s0_2 : Int) (a1 : Int) (r1 : ByteArray) (r2 : Int) (r3 : Int) (w0 w : World) (hI : IsS56 w0 w g s0_0 s0_1 s0_2) (hB : Below w0.heap.size w0 w) (h : spec_l1Cur_id24.f k s0_0 s0_1 s0_2 a1 = some (r1,r2,r3)) :
  Calls Tryd.prog 47 #[.pointer (some ⟨g,0,none⟩),.int .i64 a1] w fun e w' => e = .returned (.string r1) ∧ IsS56 w0 w' g s0_0 r2 r3 ∧ Below w0.heap.size w0 w' ∧ KeepBut w w' g none := by
 have HI0 := Aside0.mk hI
 have HK := Aside0.mk (KeepBut.refl w g none)
 have HL := Aside0.mk hB.size
 clear hI
 have HW0 := Aside0.mk hB.size
 have HB := Aside0.mk hB
 clear hB
 have H : ((spec_l24Length.f a1).bind fun t170 => ((spec_l1Cur_digits24.f k s0_0 s0_1 s0_2 (wrap64 (t170 - 1))).bind fun bt171 => (if a1 = 2 then ((spec_l1Cur_of.f s0_0 bt171.2.1 bt171.2.2 (([(⟨#[57,55,56]⟩ : ByteArray),(⟨#[57,55,56]⟩ : ByteArray),(⟨#[57,55,57]⟩ : ByteArray)] : List ByteArray))).bind fun bt177 => (if 3 ≤ (bt171.1.size : Int) then (if bt177.1.size + (bt171.1.extract 3 bt171.1.size).size ≤ 9223372036854775807 then ((spec_l24Complete.f k a1 (bt177.1 ++ (bt171.1.extract 3 bt171.1.size))).bind fun t180 => (some (t180,bt177.2.1,bt177.2.2))) else (none)) else (none))) else ((spec_l24Complete.f k a1 bt171.1).bind fun t181 => (some (t181,bt171.2.1,bt171.2.2)))))) = some (r1,r2,r3) := h
 clear h
 replace H := Option.bind_eq_some_iff.mp H
 obtain ⟨t170,A30,H⟩ := H
 replace H : ((spec_l1Cur_digits24.f k s0_0 s0_1 s0_2 (wrap64 (t170 - 1))).bind fun bt171 => (if a1 = 2 then ((spec_l1Cur_of.f s0_0 bt171.2.1 bt171.2.2 (([(⟨#[57,55,56]⟩ : ByteArray),(⟨#[57,55,56]⟩ : ByteArray),(⟨#[57,55,57]⟩ : ByteArray)] : List ByteArray))).bind fun bt177 => (if 3 ≤ (bt171.1.size : Int) then (if bt177.1.size + (bt171.1.extract 3 bt171.1.size).size ≤ 9223372036854775807 then ((spec_l24Complete.f k a1 (bt177.1 ++ (bt171.1.extract 3 bt171.1.size))).bind fun t180 => (some (t180,bt177.2.1,bt177.2.2))) else (none)) else (none))) else ((spec_l24Complete.f k a1 bt171.1).bind fun t181 => (some (t181,bt171.2.1,bt171.2.2))))) = some (r1,r2,r3) := H
 have A3 := Aside0.mk A30
 clear A30
 replace H := Option.bind_eq_some_iff.mp H
 obtain ⟨⟨t171,t172,t173⟩,A40,H⟩ := H
 replace H : (if a1 = 2 then ((spec_l1Cur_of.f s0_0 t172 t173 (([(⟨#[57,55,56]⟩ : ByteArray),(⟨#[57,55,56]⟩ : ByteArray),(⟨#[57,55,57]⟩ : ByteArray)] : List ByteArray))).bind fun bt177 => (if 3 ≤ (t171.size : Int) then (if bt177.1.size + (t171.extract 3 t171.size).size ≤ 9223372036854775807 then ((spec_l24Complete.f k a1 (bt177.1 ++ (t171.extract 3 t171.size))).bind fun t180 => (some (t180,bt177.2.1,bt177.2.2))) else (none)) else (none))) else ((spec_l24Complete.f k a1 t171).bind fun t181 => (some (t181,t172,t173)))) = some (r1,r2,r3) := H
 have A4 := Aside0.mk A40
 clear A40
 by_cases c5 : a1 = 2
 ·rw [if_pos c5] at H
  have c5b0 : (a1 == 2) = true := beq_iff_eq.mpr c5
  have c5b1 : (a1 != 2) = false := bne_eq_false_iff_eq.mpr c5
  clear c5
  obtain ⟨y174,hy174⟩ : ∃ y_ : List ByteArray,y_ = (([(⟨#[57,55,56]⟩ : ByteArray),(⟨#[57,55,56]⟩ : ByteArray),(⟨#[57,55,57]⟩ : ByteArray)] : List ByteArray)) := ⟨_,rfl⟩
  replace H : ((spec_l1Cur_of.f s0_0 t172 t173 y174).bind fun bt177 => (if 3 ≤ (t171.size : Int) then (if bt177.1.size + (t171.extract 3 t171.size).size ≤ 9223372036854775807 then ((spec_l24Complete.f k a1 (bt177.1 ++ (t171.extract 3 t171.size))).bind fun t180 => (some (t180,bt177.2.1,bt177.2.2))) else (none)) else (none))) = some (r1,r2,r3) := by first|(rw [hy174];with_reducible exact H)|(have H2_ := (Option.bind_some _ _).symm.trans H;rw [hy174];with_reducible exact H2_)|(have H2_ := (Option.bind_some _ _).symm.trans H;with_reducible exact H2_)|with_reducible exact H|(rw [hy174];exact H)|exact H
  have Ny174 := Aside0.mk hy174
  clear hy174
  replace H := Option.bind_eq_some_iff.mp H
  obtain ⟨⟨t177,t178,t179⟩,A60,H⟩ := H
  replace H : (if 3 ≤ (t171.size : Int) then (if t177.size + (t171.extract 3 t171.size).size ≤ 9223372036854775807 then ((spec_l24Complete.f k a1 (t177 ++ (t171.extract 3 t171.size))).bind fun t180 => (some (t180,t178,t179))) else (none)) else (none)) = some (r1,r2,r3) := H
  have A6 := Aside0.mk A60
  clear A60
  by_cases c7 : 3 ≤ (t171.size : Int)
  ·rw [if_pos c7] at H
   have c7b0 := eq_true c7
   have c7b1 : decide (3 ≤ (t171.size : Int)) = true := decide_eq_true c7
   clear c7
   by_cases c8 : t177.size + (t171.extract 3 t171.size).size ≤ 9223372036854775807
   ·rw [if_pos c8] at H
    have c8b0 := eq_true c8
    have c8b1 : decide (t177.size + (t171.extract 3 t171.size).size ≤ 9223372036854775807) = true := decide_eq_true c8
    try have c8b3 : (9223372036854775807 < t177.size + (t171.size - 3)) = False := eq_false (by have h_ := c8;simp only [ByteArray.size_append,ByteArray.size_extract] at h_;omega)
    try have c8b2 : (9223372036854775807 < t177.size + (t171.extract 3 t171.size).size) = False := eq_false (Nat.not_lt.2 c8)
    replace H := Option.bind_eq_some_iff.mp H
    obtain ⟨t180,A90,H⟩ := H
    replace H : (some (t180,t178,t179)) = some (r1,r2,r3) := H
    have A9 := Aside0.mk A90
    clear A90
    simp only [Option.some.injEq,Prod.mk.injEq] at H
    obtain ⟨rfl,rfl,rfl⟩ := H
    go_enter Tryd.func47,Tryd.ntmps47
    try go_wp2_with (first|((with_reducible refine gate_callee (f := 69) rfl ?_);refine goesL_ (some 8) rfl rfl Tryd.func69 (by kernel_rfl) rfl #[.int .i64 a1] rfl (by (try simp only [List.map_toArray,List.map_cons,List.map_nil]);first|done|rfl|(simp only [List.length_drop,List.length_take];rfl)) ?_;(with_reducible refine (spec_l24Length.calls a1 t170 _ A3.out).mono ?_);rintro e w' ⟨rfl,⟨nd,rfl⟩⟩;refine ⟨_,rfl,?_⟩)|((with_reducible refine gate_callee (f := 51) rfl ?_);refine goesL_ (some 10) rfl rfl Tryd.func51 (by kernel_rfl) rfl #[.pointer (some ⟨g,0,none⟩),.int .i64 (wrap64 (t170 - 1))] rfl (by (try simp only [List.map_toArray,List.map_cons,List.map_nil]);first|done|rfl|(simp only [List.length_drop,List.length_take];rfl)) ?_;(with_reducible refine (spec_l1Cur_digits24.calls k g s0_0 s0_1 s0_2 (wrap64 (t170 - 1)) t171 t172 t173 w0 _ ?side1 ?side2 A4.out).mono ?_);(case side1 => repeat (first|(with_reducible first|exact HI0.out|apply IsS56.alloc|apply IsS56.drewN|apply IsS56.drew|apply IsS56.set_1|apply IsS56.set_2)|exact HI0.out));(case side2 => repeat (first|(with_reducible first|exact HB.out|apply lA|apply lN|apply lD|refine below_set ?_ (IsS56.ge HI0.out))|exact HB.out));rintro e w10 ⟨rfl,hi,hb,hk⟩;refine ⟨_,rfl,?_⟩;have n0_ := Aside0.mk (KeepBut.trans (by repeat (first|(with_reducible first|exact HK.out|apply KeepBut.set_|apply keep_drewN|apply keep_drew|apply keep_alloc)|exact HK.out)) hk (.inl rfl));have n1_ := Aside0.mk (hb);have n2_ := Aside0.mk (hi);clear HK;clear HB;clear HI0;have HK := n0_;have HB := n1_;have HI0 := n2_;clear n0_ n1_ n2_;(try clear hb);(try clear hb2);(try clear hk);(try clear hi)))
    have n0_ := Aside0.mk (IsS56.drew HI0.out)
    have n1_ := Aside0.mk (keep_drew HK.out)
    have n2_ := Aside0.mk (lD HB.out)
    clear HI0
    clear HK
    clear HB
    have HI0 := n0_
    have HK := n1_
    have HB := n2_
    clear n0_ n1_ n2_
    refine start_ (n := 7) (S := fun w' => True) (ds := []) #[false,false,false,false,false,false,false] (by kernel_rfl) rfl rfl trivial (fun hHeld => ?_)
    generalize w10.drew = w11 at HI0 HK HB hHeld ⊢
    refine pure_ (i := 0) (N := some 13) (v := ?_) (a' := ?_) #[true,false,false,false,false,false,false] rfl rfl (by kernel_rfl) (fun _ _ _ h => h) (Or.inl ⟨by rfl,?_⟩) ?_ ?_
    rotate_left
    ·intro w'
     go_simp
     with_reducible rfl
    rotate_left
    ·simp only [Act.put,List.setIfInBounds_toArray,List.set_cons_zero,List.set_cons_succ,i64_w,i32_w]
     rfl
    refine pure_ (i := 3) (N := some 16) (v := ?_) (a' := ?_) #[true,false,false,true,false,false,false] rfl rfl (by kernel_rfl) (fun _ _ _ h => h) (Or.inl ⟨by rfl,?_⟩) ?_ ?_
    rotate_left
    ·intro w'
     go_simp
     with_reducible rfl
    rotate_left
    ·simp only [Act.put,List.setIfInBounds_toArray,List.set_cons_zero,List.set_cons_succ,i64_w,i32_w]
     rfl
    refine pure_ (i := 4) (N := some 17) (v := ?_) (a' := ?_) #[true,false,false,true,true,false,false] rfl rfl (by kernel_rfl) (fun _ _ _ h => h) (Or.inl ⟨by rfl,?_⟩) ?_ ?_
    rotate_left
    ·intro w'
     go_simp
     with_reducible rfl
    rotate_left
    ·simp only [Act.put,List.setIfInBounds_toArray,List.set_cons_zero,List.set_cons_succ,i64_w,i32_w]
     rfl
    refine one_ (i := 1) (N := some 14) #[true,true,false,true,true,false,false] rfl rfl (by kernel_rfl) (by decide) (fun K hK => ?_)
    refine Kd.R_lit_step Kd.string _ 9 ?hg (N := 14) ?hd (xs := ([(⟨#[57,55,56]⟩ : ByteArray),(⟨#[57,55,56]⟩ : ByteArray),(⟨#[57,55,57]⟩ : ByteArray)] : List ByteArray)) (inner := [.string (⟨#[57,55,56]⟩ : ByteArray),.string (⟨#[57,55,56]⟩ : ByteArray),.string (⟨#[57,55,57]⟩ : ByteArray)]) (ok := fun _ => True) (okp := fun _ => True) ?hr ?hp (fun _ hk => hk) trivial (Below.refl _ _) (Nat.le_refl _) (by simp) ?_;(case hd => rfl);(case hg => rfl);(case hr => first|(go_simp;done)|(go_simp;rfl));(case hp => exact (Reps.one (show Kd.M Kd.string _ _ _ (⟨#[57,55,56]⟩ : ByteArray) [.string (⟨#[57,55,56]⟩ : ByteArray)] from rfl) (Reps.one (show Kd.M Kd.string _ _ _ (⟨#[57,55,56]⟩ : ByteArray) [.string (⟨#[57,55,56]⟩ : ByteArray)] from rfl) (Reps.one (show Kd.M Kd.string _ _ _ (⟨#[57,55,57]⟩ : ByteArray) [.string (⟨#[57,55,57]⟩ : ByteArray)] from rfl) (Reps.none _ _)))))
    intro v175 w12 ho13 hb hg_ hnew_
    clear hg_ hnew_
    (first|rw [← Ny174.out] at ho13|(simp only [Int.reduceToNat] at ho13;rw [← Ny174.out] at ho13))
    have n0_ := Aside0.mk (Kd.R_lower ho13 (keep_size (w := w) (g := g) (row := none) (by repeat (first|(with_reducible first|exact HK.out|apply KeepBut.set_|apply keep_drewN|apply keep_drew|apply keep_alloc)|exact HK.out))))
    have n1_ := Aside0.mk (IsS56.below (by repeat (first|(with_reducible first|exact HI0.out|apply IsS56.alloc|apply IsS56.drewN|apply IsS56.drew|apply IsS56.set_1|apply IsS56.set_2)|exact HI0.out)) hb)
    have n2_ := Aside0.mk (KeepBut.trans (by repeat (first|(with_reducible first|exact HK.out|apply KeepBut.set_|apply keep_drewN|apply keep_drew|apply keep_alloc)|exact HK.out)) (KeepBut.of_below hb g none) (.inl rfl))
    have n3_ := Aside0.mk (below_step (by repeat (first|(with_reducible first|exact HB.out|apply lA|apply lN|apply lD|refine below_set ?_ (IsS56.ge HI0.out))|exact HB.out)) hb)
    clear HI0
    clear HK
    clear HB
    have HO176 := n0_
    have HI0 := n1_
    have HK := n2_
    have HB := n3_
    clear n0_ n1_ n2_ n3_
    clear hb ho13
    obtain ⟨Ao14,co14,eo14⟩ := Kd.R_slice HO176.out
    (first|subst eo14|(injection eo14 with f1_ f2_ f3_;have f4_ := f1_.symm;have f5_ := f3_.symm;clear f1_ f2_ f3_;subst f4_;subst f5_))
    refine hK.out _ _ trivial (fun hHeld => ?_)
    clear hK K
    refine norm_ (a' := ?_) ?_ ?_
    rotate_left
    ·show Act.put _ (some 14) _ = _
     simp only [Act.put,List.setIfInBounds_toArray,List.set_cons_zero,List.set_cons_succ,i64_w,i32_w]
     rfl
    refine one_ (i := 2) (N := some 15) #[true,true,true,true,true,false,false] rfl rfl (by kernel_rfl) (by decide) (fun K hK => ?_)
    refine goes_ Tryd.func70 (by kernel_rfl) rfl #[.pointer (some ⟨g,0,none⟩),.slice Ao14 y174.length co14] (by rfl) rfl rfl (by (try simp only [List.map_toArray,List.map_cons,List.map_nil]);first|done|rfl|(simp only [List.length_drop,List.length_take];rfl)) ?_
    with_reducible refine (spec_l1Cur_of.calls g s0_0 t172 t173 _ _ y174 t177 t178 t179 w0 _ ?side1 ?side2 ?side3 ?side4 ?side5 A6.out).mono ?_
    (case side1 => repeat (first|(with_reducible first|exact HI0.out|apply IsS56.alloc|apply IsS56.drewN|apply IsS56.drew|apply IsS56.set_1|apply IsS56.set_2)|exact HI0.out))
    (case side2 => repeat (first|(with_reducible first|exact HB.out|apply lA|apply lN|apply lD|refine below_set ?_ (IsS56.ge HI0.out))|exact HB.out))
    (case side3 => repeat (first|exact (Kd.R_reads' HO176.out).2.2|(with_reducible refine Kd.C_alloc ?_ _)|(with_reducible refine Kd.C_drewN ?_ _)|(with_reducible refine Kd.C_drew ?_)))
    (case side4 => exact (Kd.R_reads' HO176.out).2.1)
    (case side5 => exact far_slice (IsS56.own_ne HI0.out HO176.out (by decide)))
    rintro e w15 ⟨rfl,hi,hb,hk⟩
    refine ⟨_,rfl,?_⟩
    have n0_ := Aside0.mk (Kd.R_mono (Kd.R_keep (IsS56.apart (show IsS56 w0 _ g s0_0 t172 t173 from by repeat (first|(with_reducible first|exact HI0.out|apply IsS56.alloc|apply IsS56.drewN|apply IsS56.drew|apply IsS56.set_1|apply IsS56.set_2)|exact HI0.out)) (by (with_reducible repeat (first|apply Kd.R_alloc|apply Kd.R_drewN|apply Kd.R_drew));exact HO176.out) (by decide)) hk (fun _ h => h.2)) (fun _ h => h.1))
    have n1_ := Aside0.mk (KeepBut.trans (by repeat (first|(with_reducible first|exact HK.out|apply KeepBut.set_|apply keep_drewN|apply keep_drew|apply keep_alloc)|exact HK.out)) hk (.inl rfl))
    have n2_ := Aside0.mk (hb)
    have n3_ := Aside0.mk (hi)
    clear HO176
    clear HK
    clear HB
    clear HI0
    have HO176 := n0_
    have HK := n1_
    have HB := n2_
    have HI0 := n3_
    clear n0_ n1_ n2_ n3_
    (try clear hb)
    (try clear hb2)
    (try clear hk)
    (try clear hi)
    refine hK.out _ _ trivial (fun hHeld => ?_)
    clear hK K
    refine norm_ (a' := ?_) ?_ ?_
    rotate_left
    ·show Act.put _ (some 15) _ = _
     simp only [Act.put,List.setIfInBounds_toArray,List.set_cons_zero,List.set_cons_succ,i64_w,i32_w]
     rfl
    refine pure_ (i := 5) (N := some 18) (v := ?_) (a' := ?_) #[true,true,true,true,true,true,false] rfl rfl (by kernel_rfl) (fun _ _ _ h => h) (Or.inl ⟨by rfl,?_⟩) ?_ ?_
    rotate_left
    ·intro w'
     go_simp
     with_reducible rfl
    rotate_left
    ·simp only [Act.put,List.setIfInBounds_toArray,List.set_cons_zero,List.set_cons_succ,i64_w,i32_w]
     rfl
    refine pure_ (i := 6) (N := some 5) (v := ?_) (a' := ?_) #[true,true,true,true,true,true,true] rfl rfl (by kernel_rfl) (fun _ _ _ h => h) (Or.inl ⟨by rfl,?_⟩) ?_ ?_
    rotate_left
    ·intro w'
     go_simp
     with_reducible rfl
    rotate_left
    ·simp only [Act.put,List.setIfInBounds_toArray,List.set_cons_zero,List.set_cons_succ,i64_w,i32_w]
     rfl
    refine done_ (by kernel_rfl) ?_
    try go_wp2_with (first|((with_reducible refine gate_callee (f := 34) rfl ?_);refine goesL_ (some 21) rfl rfl Tryd.func34 (by kernel_rfl) rfl #[.int .i64 a1,.string (t177 ++ (t171.extract 3 t171.size))] rfl (by (try simp only [List.map_toArray,List.map_cons,List.map_nil]);first|done|rfl|(simp only [List.length_drop,List.length_take];rfl)) ?_;(with_reducible refine (spec_l24Complete.calls k a1 (t177 ++ (t171.extract 3 t171.size)) t180 _ A9.out).mono ?_);rintro e w' ⟨rfl,⟨nd,rfl⟩⟩;refine ⟨_,rfl,?_⟩))
    go_ret
    exact ⟨by first|rfl|(simp [errW_none,errW_some] <;> rfl)|(simp [*,errW_none,errW_some] <;> rfl),by repeat (first|(with_reducible first|exact HI0.out|apply IsS56.alloc|apply IsS56.drewN|apply IsS56.drew|apply IsS56.set_1|apply IsS56.set_2)|exact HI0.out),by repeat (first|(with_reducible first|exact HB.out|apply lA|apply lN|apply lD|refine below_set ?_ (IsS56.ge HI0.out))|exact HB.out),by repeat (first|(with_reducible first|exact HK.out|apply KeepBut.set_|apply keep_drewN|apply keep_drew|apply keep_alloc)|exact HK.out)⟩
   ·rw [if_neg c8] at H
    exact absurd H (by simp)
  ·rw [if_neg c7] at H
   exact absurd H (by simp)
 ·rw [if_neg c5] at H
  have c5b0 : (a1 == 2) = false := beq_eq_false_iff_ne.mpr c5
  have c5b1 : (a1 != 2) = true := bne_iff_ne.mpr c5
  replace H := Option.bind_eq_some_iff.mp H
  obtain ⟨t181,A160,H⟩ := H
  replace H : (some (t181,t172,t173)) = some (r1,r2,r3) := H
  have A16 := Aside0.mk A160
  clear A160
  simp only [Option.some.injEq,Prod.mk.injEq] at H
  obtain ⟨rfl,rfl,rfl⟩ := H
  go_enter Tryd.func47,Tryd.ntmps47
  go_wp2_with (first|((with_reducible refine gate_callee (f := 69) rfl ?_);refine goesL_ (some 8) rfl rfl Tryd.func69 (by kernel_rfl) rfl #[.int .i64 a1] rfl (by (try simp only [List.map_toArray,List.map_cons,List.map_nil]);first|done|rfl|(simp only [List.length_drop,List.length_take];rfl)) ?_;(with_reducible refine (spec_l24Length.calls a1 t170 _ A3.out).mono ?_);rintro e w' ⟨rfl,⟨nd,rfl⟩⟩;refine ⟨_,rfl,?_⟩)|((with_reducible refine gate_callee (f := 51) rfl ?_);refine goesL_ (some 10) rfl rfl Tryd.func51 (by kernel_rfl) rfl #[.pointer (some ⟨g,0,none⟩),.int .i64 (wrap64 (t170 - 1))] rfl (by (try simp only [List.map_toArray,List.map_cons,List.map_nil]);first|done|rfl|(simp only [List.length_drop,List.length_take];rfl)) ?_;(with_reducible refine (spec_l1Cur_digits24.calls k g s0_0 s0_1 s0_2 (wrap64 (t170 - 1)) t171 t172 t173 w0 _ ?side1 ?side2 A4.out).mono ?_);(case side1 => repeat (first|(with_reducible first|exact HI0.out|apply IsS56.alloc|apply IsS56.drewN|apply IsS56.drew|apply IsS56.set_1|apply IsS56.set_2)|exact HI0.out));(case side2 => repeat (first|(with_reducible first|exact HB.out|apply lA|apply lN|apply lD|refine below_set ?_ (IsS56.ge HI0.out))|exact HB.out));rintro e w17 ⟨rfl,hi,hb,hk⟩;refine ⟨_,rfl,?_⟩;have n0_ := Aside0.mk (KeepBut.trans (by repeat (first|(with_reducible first|exact HK.out|apply KeepBut.set_|apply keep_drewN|apply keep_drew|apply keep_alloc)|exact HK.out)) hk (.inl rfl));have n1_ := Aside0.mk (hb);have n2_ := Aside0.mk (hi);clear HK;clear HB;clear HI0;have HK := n0_;have HB := n1_;have HI0 := n2_;clear n0_ n1_ n2_;(try clear hb);(try clear hb2);(try clear hk);(try clear hi))|((with_reducible refine gate_callee (f := 34) rfl ?_);refine goesL_ (some 21) rfl rfl Tryd.func34 (by kernel_rfl) rfl #[.int .i64 a1,.string t171] rfl (by (try simp only [List.map_toArray,List.map_cons,List.map_nil]);first|done|rfl|(simp only [List.length_drop,List.length_take];rfl)) ?_;(with_reducible refine (spec_l24Complete.calls k a1 t171 t181 _ A16.out).mono ?_);rintro e w' ⟨rfl,⟨nd,rfl⟩⟩;refine ⟨_,rfl,?_⟩))
  go_ret
  exact ⟨by first|rfl|(simp [errW_none,errW_some] <;> rfl)|(simp [*,errW_none,errW_some] <;> rfl),by repeat (first|(with_reducible first|exact HI0.out|apply IsS56.alloc|apply IsS56.drewN|apply IsS56.drew|apply IsS56.set_1|apply IsS56.set_2)|exact HI0.out),by repeat (first|(with_reducible first|exact HB.out|apply lA|apply lN|apply lD|refine below_set ?_ (IsS56.ge HI0.out))|exact HB.out),by repeat (first|(with_reducible first|exact HK.out|apply KeepBut.set_|apply keep_drewN|apply keep_drew|apply keep_alloc)|exact HK.out)⟩
def spec_l1Cur_kind24.f (s0_0 : List Int) (s0_1 : Int) (s0_2 : Int) : Option (Int × Int × Int) := (spec_l1Cur_pick.f s0_0 s0_1 s0_2 4).bind fun bt182 => (some (wrap64 (1 + bt182.1),bt182.2.1,bt182.2.2))
set_option maxHeartbeats 8000000 in
set_option maxRecDepth 100000 in
theorem spec_l1Cur_kind24.calls (g : Nat) (s0_0 : List Int) (s0_1 : Int) (s0_2 : Int) (r1 : Int) (r2 : Int) (r3 : Int) (w0 w : World) (hI : IsS56 w0 w g s0_0 s0_1 s0_2) (hB : Below w0.heap.size w0 w) (h : spec_l1Cur_kind24.f s0_0 s0_1 s0_2 = some (r1,r2,r3)) :
  Calls Tryd.prog 48 #[.pointer (some ⟨g,0,none⟩)] w fun e w' => e = .returned (.int .i64 r1) ∧ IsS56 w0 w' g s0_0 r2 r3 ∧ Below w0.heap.size w0 w' ∧ KeepBut w w' g none := by
 have HI0 := Aside0.mk hI
 have HK := Aside0.mk (KeepBut.refl w g none)
 have HL := Aside0.mk hB.size
 clear hI
 have HW0 := Aside0.mk hB.size
 have HB := Aside0.mk hB
 clear hB
 have H : ((spec_l1Cur_pick.f s0_0 s0_1 s0_2 4).bind fun bt182 => (some (wrap64 (1 + bt182.1),bt182.2.1,bt182.2.2))) = some (r1,r2,r3) := h
 clear h
 replace H := Option.bind_eq_some_iff.mp H
 obtain ⟨⟨t182,t183,t184⟩,A20,H⟩ := H
 replace H : (some (wrap64 (1 + t182),t183,t184)) = some (r1,r2,r3) := H
 have A2 := Aside0.mk A20
 clear A20
 simp only [Option.some.injEq,Prod.mk.injEq] at H
 obtain ⟨rfl,rfl,rfl⟩ := H
 go_enter Tryd.func48,Tryd.ntmps48
 go_wp2_with (first|((with_reducible refine gate_callee (f := 49) rfl ?_);refine goesL_ (some 4) rfl rfl Tryd.func49 (by kernel_rfl) rfl #[.pointer (some ⟨g,0,none⟩),.int .i64 4] rfl (by (try simp only [List.map_toArray,List.map_cons,List.map_nil]);first|done|rfl|(simp only [List.length_drop,List.length_take];rfl)) ?_;(with_reducible refine (spec_l1Cur_pick.calls g s0_0 s0_1 s0_2 4 t182 t183 t184 w0 _ ?side1 ?side2 A2.out).mono ?_);(case side1 => repeat (first|(with_reducible first|exact HI0.out|apply IsS56.alloc|apply IsS56.drewN|apply IsS56.drew|apply IsS56.set_1|apply IsS56.set_2)|exact HI0.out));(case side2 => repeat (first|(with_reducible first|exact HB.out|apply lA|apply lN|apply lD|refine below_set ?_ (IsS56.ge HI0.out))|exact HB.out));rintro e w3 ⟨rfl,hi,hb,hk⟩;refine ⟨_,rfl,?_⟩;have n0_ := Aside0.mk (KeepBut.trans (by repeat (first|(with_reducible first|exact HK.out|apply KeepBut.set_|apply keep_drewN|apply keep_drew|apply keep_alloc)|exact HK.out)) hk (.inl rfl));have n1_ := Aside0.mk (hb);have n2_ := Aside0.mk (hi);clear HK;clear HB;clear HI0;have HK := n0_;have HB := n1_;have HI0 := n2_;clear n0_ n1_ n2_;(try clear hb);(try clear hb2);(try clear hk);(try clear hi)))
 go_ret
 exact ⟨by first|rfl|(simp [errW_none,errW_some] <;> rfl)|(simp [*,errW_none,errW_some] <;> rfl),by repeat (first|(with_reducible first|exact HI0.out|apply IsS56.alloc|apply IsS56.drewN|apply IsS56.drew|apply IsS56.set_1|apply IsS56.set_2)|exact HI0.out),by repeat (first|(with_reducible first|exact HB.out|apply lA|apply lN|apply lD|refine below_set ?_ (IsS56.ge HI0.out))|exact HB.out),by repeat (first|(with_reducible first|exact HK.out|apply KeepBut.set_|apply keep_drewN|apply keep_drew|apply keep_alloc)|exact HK.out)⟩
def spec_l1Cur_spoilt.f (s0_0 : List Int) (s0_1 : Int) (s0_2 : Int) (a1 : ByteArray) (a2 : ByteArray) : Option (ByteArray × Int × Int) := if a1.toList = ([] : List UInt8) then (if 0 ≤ 1 then (if 1 ≤ (a2.size : Int) then (some (a2.extract 0 1,s0_1,s0_2)) else (none)) else (none)) else ((spec_l1Cur_pick.f s0_0 s0_1 s0_2 (a1.size : Int)).bind fun bt185 => ((spec_l1Cur_pick.f s0_0 bt185.2.1 bt185.2.2 (a2.size : Int)).bind fun bt188 => (if 0 ≤ bt188.1 then (if bt188.1 ≤ (a2.size : Int) then (if 0 ≤ 1 then (if 1 ≤ ((a2.extract (bt188.1 : Int).toNat a2.size).size : Int) then ((spec_l1Cur_pick.f s0_0 bt188.2.1 bt188.2.2 3).bind fun bt191 => (if bt191.1 = 0 then (if 0 ≤ bt185.1 then (if bt185.1 ≤ (a1.size : Int) then (if (a1.extract 0 (bt185.1 : Int).toNat).size + ((a2.extract (bt188.1 : Int).toNat a2.size).extract 0 1).size ≤ 9223372036854775807 then (if ((a1.extract 0 (bt185.1 : Int).toNat) ++ ((a2.extract (bt188.1 : Int).toNat a2.size).extract 0 1)).size + (a1.extract (bt185.1 : Int).toNat a1.size).size ≤ 9223372036854775807 then (some (((a1.extract 0 (bt185.1 : Int).toNat) ++ ((a2.extract (bt188.1 : Int).toNat a2.size).extract 0 1)) ++ (a1.extract (bt185.1 : Int).toNat a1.size),bt191.2.1,bt191.2.2)) else (none)) else (none)) else (none)) else (none)) else (if bt191.1 = 1 then (if 0 ≤ bt185.1 then (if bt185.1 ≤ (a1.size : Int) then (if (a1.extract 0 (bt185.1 : Int).toNat).size + ((a2.extract (bt188.1 : Int).toNat a2.size).extract 0 1).size ≤ 9223372036854775807 then (if 0 ≤ (wrap64 (bt185.1 + 1)) then (if (wrap64 (bt185.1 + 1)) ≤ (a1.size : Int) then (if ((a1.extract 0 (bt185.1 : Int).toNat) ++ ((a2.extract (bt188.1 : Int).toNat a2.size).extract 0 1)).size + (a1.extract ((wrap64 (bt185.1 + 1)) : Int).toNat a1.size).size ≤ 9223372036854775807 then (some (((a1.extract 0 (bt185.1 : Int).toNat) ++ ((a2.extract (bt188.1 : Int).toNat a2.size).extract 0 1)) ++ (a1.extract ((wrap64 (bt185.1 + 1)) : Int).toNat a1.size),bt191.2.1,bt191.2.2)) else (none)) else (none)) else (none)) else (none)) else (none)) else (none)) else (if 0 ≤ bt185.1 then (if bt185.1 ≤ (a1.size : Int) then (if 0 ≤ (wrap64 (bt185.1 + 1)) then (if (wrap64 (bt185.1 + 1)) ≤ (a1.size : Int) then (if (a1.extract 0 (bt185.1 : Int).toNat).size + (a1.extract ((wrap64 (bt185.1 + 1)) : Int).toNat a1.size).size ≤ 9223372036854775807 then (some ((a1.extract 0 (bt185.1 : Int).toNat) ++ (a1.extract ((wrap64 (bt185.1 + 1)) : Int).toNat a1.size),bt191.2.1,bt191.2.2)) else (none)) else (none)) else (none)) else (none)) else (none))))) else (none)) else (none)) else (none)) else (none))))
set_option maxHeartbeats 8000000 in
set_option maxRecDepth 100000 in
theorem spec_l1Cur_spoilt.calls (g : Nat) (s0_0 : List Int) (s0_1 : Int) (s0_2 : Int) (a1 : ByteArray) (a2 : ByteArray) (r1 : ByteArray) (r2 : Int) (r3 : Int) (w0 w : World) (hI : IsS56 w0 w g s0_0 s0_1 s0_2) (hB : Below w0.heap.size w0 w) (h : spec_l1Cur_spoilt.f s0_0 s0_1 s0_2 a1 a2 = some (r1,r2,r3)) :
  Calls Tryd.prog 50 #[.pointer (some ⟨g,0,none⟩),.string a1,.string a2] w fun e w' => e = .returned (.string r1) ∧ IsS56 w0 w' g s0_0 r2 r3 ∧ Below w0.heap.size w0 w' ∧ KeepBut w w' g none := by
 have HI0 := Aside0.mk hI
 have HK := Aside0.mk (KeepBut.refl w g none)
 have HL := Aside0.mk hB.size
 clear hI
 have HW0 := Aside0.mk hB.size
 have HB := Aside0.mk hB
 clear hB
 have H : (if a1.toList = ([] : List UInt8) then (if 0 ≤ 1 then (if 1 ≤ (a2.size : Int) then (some (a2.extract 0 1,s0_1,s0_2)) else (none)) else (none)) else ((spec_l1Cur_pick.f s0_0 s0_1 s0_2 (a1.size : Int)).bind fun bt185 => ((spec_l1Cur_pick.f s0_0 bt185.2.1 bt185.2.2 (a2.size : Int)).bind fun bt188 => (if 0 ≤ bt188.1 then (if bt188.1 ≤ (a2.size : Int) then (if 0 ≤ 1 then (if 1 ≤ ((a2.extract (bt188.1 : Int).toNat a2.size).size : Int) then ((spec_l1Cur_pick.f s0_0 bt188.2.1 bt188.2.2 3).bind fun bt191 => (if bt191.1 = 0 then (if 0 ≤ bt185.1 then (if bt185.1 ≤ (a1.size : Int) then (if (a1.extract 0 (bt185.1 : Int).toNat).size + ((a2.extract (bt188.1 : Int).toNat a2.size).extract 0 1).size ≤ 9223372036854775807 then (if ((a1.extract 0 (bt185.1 : Int).toNat) ++ ((a2.extract (bt188.1 : Int).toNat a2.size).extract 0 1)).size + (a1.extract (bt185.1 : Int).toNat a1.size).size ≤ 9223372036854775807 then (some (((a1.extract 0 (bt185.1 : Int).toNat) ++ ((a2.extract (bt188.1 : Int).toNat a2.size).extract 0 1)) ++ (a1.extract (bt185.1 : Int).toNat a1.size),bt191.2.1,bt191.2.2)) else (none)) else (none)) else (none)) else (none)) else (if bt191.1 = 1 then (if 0 ≤ bt185.1 then (if bt185.1 ≤ (a1.size : Int) then (if (a1.extract 0 (bt185.1 : Int).toNat).size + ((a2.extract (bt188.1 : Int).toNat a2.size).extract 0 1).size ≤ 9223372036854775807 then (if 0 ≤ (wrap64 (bt185.1 + 1)) then (if (wrap64 (bt185.1 + 1)) ≤ (a1.size : Int) then (if ((a1.extract 0 (bt185.1 : Int).toNat) ++ ((a2.extract (bt188.1 : Int).toNat a2.size).extract 0 1)).size + (a1.extract ((wrap64 (bt185.1 + 1)) : Int).toNat a1.size).size ≤ 9223372036854775807 then (some (((a1.extract 0 (bt185.1 : Int).toNat) ++ ((a2.extract (bt188.1 : Int).toNat a2.size).extract 0 1)) ++ (a1.extract ((wrap64 (bt185.1 + 1)) : Int).toNat a1.size),bt191.2.1,bt191.2.2)) else (none)) else (none)) else (none)) else (none)) else (none)) else (none)) else (if 0 ≤ bt185.1 then (if bt185.1 ≤ (a1.size : Int) then (if 0 ≤ (wrap64 (bt185.1 + 1)) then (if (wrap64 (bt185.1 + 1)) ≤ (a1.size : Int) then (if (a1.extract 0 (bt185.1 : Int).toNat).size + (a1.extract ((wrap64 (bt185.1 + 1)) : Int).toNat a1.size).size ≤ 9223372036854775807 then (some ((a1.extract 0 (bt185.1 : Int).toNat) ++ (a1.extract ((wrap64 (bt185.1 + 1)) : Int).toNat a1.size),bt191.2.1,bt191.2.2)) else (none)) else (none)) else (none)) else (none)) else (none))))) else (none)) else (none)) else (none)) else (none))))) = some (r1,r2,r3) := h
 clear h
 by_cases c4 : a1.toList = ([] : List UInt8)
 ·rw [if_pos c4] at H
  have c4b0 : (a1.toList == ([] : List UInt8)) = true := beq_iff_eq.mpr c4
  have c4b1 : (a1.toList != ([] : List UInt8)) = false := bne_eq_false_iff_eq.mpr c4
  clear c4
  by_cases c5 : 0 ≤ 1
  ·rw [if_pos c5] at H
   have c5b0 := eq_true c5
   have c5b1 : decide (0 ≤ 1) = true := decide_eq_true c5
   clear c5
   by_cases c6 : 1 ≤ (a2.size : Int)
   ·rw [if_pos c6] at H
    have c6b0 := eq_true c6
    have c6b1 : decide (1 ≤ (a2.size : Int)) = true := decide_eq_true c6
    clear c6
    simp only [Option.some.injEq,Prod.mk.injEq] at H
    obtain ⟨rfl,rfl,rfl⟩ := H
    go_enter Tryd.func50,Tryd.ntmps50
    go_wp2
    repeat (go_quiet (fail);try go_wp2)
    go_ret
    exact ⟨by first|rfl|(simp [errW_none,errW_some] <;> rfl)|(simp [*,errW_none,errW_some] <;> rfl),by repeat (first|(with_reducible first|exact HI0.out|apply IsS56.alloc|apply IsS56.drewN|apply IsS56.drew|apply IsS56.set_1|apply IsS56.set_2)|exact HI0.out),by repeat (first|(with_reducible first|exact HB.out|apply lA|apply lN|apply lD|refine below_set ?_ (IsS56.ge HI0.out))|exact HB.out),by repeat (first|(with_reducible first|exact HK.out|apply KeepBut.set_|apply keep_drewN|apply keep_drew|apply keep_alloc)|exact HK.out)⟩
   ·rw [if_neg c6] at H
    exact absurd H (by simp)
  ·rw [if_neg c5] at H
   exact absurd H (by simp)
 ·rw [if_neg c4] at H
  have c4b0 : (a1.toList == ([] : List UInt8)) = false := beq_eq_false_iff_ne.mpr c4
  have c4b1 : (a1.toList != ([] : List UInt8)) = true := bne_iff_ne.mpr c4
  replace H := Option.bind_eq_some_iff.mp H
  obtain ⟨⟨t185,t186,t187⟩,A70,H⟩ := H
  replace H : ((spec_l1Cur_pick.f s0_0 t186 t187 (a2.size : Int)).bind fun bt188 => (if 0 ≤ bt188.1 then (if bt188.1 ≤ (a2.size : Int) then (if 0 ≤ 1 then (if 1 ≤ ((a2.extract (bt188.1 : Int).toNat a2.size).size : Int) then ((spec_l1Cur_pick.f s0_0 bt188.2.1 bt188.2.2 3).bind fun bt191 => (if bt191.1 = 0 then (if 0 ≤ t185 then (if t185 ≤ (a1.size : Int) then (if (a1.extract 0 (t185 : Int).toNat).size + ((a2.extract (bt188.1 : Int).toNat a2.size).extract 0 1).size ≤ 9223372036854775807 then (if ((a1.extract 0 (t185 : Int).toNat) ++ ((a2.extract (bt188.1 : Int).toNat a2.size).extract 0 1)).size + (a1.extract (t185 : Int).toNat a1.size).size ≤ 9223372036854775807 then (some (((a1.extract 0 (t185 : Int).toNat) ++ ((a2.extract (bt188.1 : Int).toNat a2.size).extract 0 1)) ++ (a1.extract (t185 : Int).toNat a1.size),bt191.2.1,bt191.2.2)) else (none)) else (none)) else (none)) else (none)) else (if bt191.1 = 1 then (if 0 ≤ t185 then (if t185 ≤ (a1.size : Int) then (if (a1.extract 0 (t185 : Int).toNat).size + ((a2.extract (bt188.1 : Int).toNat a2.size).extract 0 1).size ≤ 9223372036854775807 then (if 0 ≤ (wrap64 (t185 + 1)) then (if (wrap64 (t185 + 1)) ≤ (a1.size : Int) then (if ((a1.extract 0 (t185 : Int).toNat) ++ ((a2.extract (bt188.1 : Int).toNat a2.size).extract 0 1)).size + (a1.extract ((wrap64 (t185 + 1)) : Int).toNat a1.size).size ≤ 9223372036854775807 then (some (((a1.extract 0 (t185 : Int).toNat) ++ ((a2.extract (bt188.1 : Int).toNat a2.size).extract 0 1)) ++ (a1.extract ((wrap64 (t185 + 1)) : Int).toNat a1.size),bt191.2.1,bt191.2.2)) else (none)) else (none)) else (none)) else (none)) else (none)) else (none)) else (if 0 ≤ t185 then (if t185 ≤ (a1.size : Int) then (if 0 ≤ (wrap64 (t185 + 1)) then (if (wrap64 (t185 + 1)) ≤ (a1.size : Int) then (if (a1.extract 0 (t185 : Int).toNat).size + (a1.extract ((wrap64 (t185 + 1)) : Int).toNat a1.size).size ≤ 9223372036854775807 then (some ((a1.extract 0 (t185 : Int).toNat) ++ (a1.extract ((wrap64 (t185 + 1)) : Int).toNat a1.size),bt191.2.1,bt191.2.2)) else (none)) else (none)) else (none)) else (none)) else (none))))) else (none)) else (none)) else (none)) else (none))) = some (r1,r2,r3) := H
  have A7 := Aside0.mk A70
  clear A70
  replace H := Option.bind_eq_some_iff.mp H
  obtain ⟨⟨t188,t189,t190⟩,A80,H⟩ := H
  replace H : (if 0 ≤ t188 then (if t188 ≤ (a2.size : Int) then (if 0 ≤ 1 then (if 1 ≤ ((a2.extract (t188 : Int).toNat a2.size).size : Int) then ((spec_l1Cur_pick.f s0_0 t189 t190 3).bind fun bt191 => (if bt191.1 = 0 then (if 0 ≤ t185 then (if t185 ≤ (a1.size : Int) then (if (a1.extract 0 (t185 : Int).toNat).size + ((a2.extract (t188 : Int).toNat a2.size).extract 0 1).size ≤ 9223372036854775807 then (if ((a1.extract 0 (t185 : Int).toNat) ++ ((a2.extract (t188 : Int).toNat a2.size).extract 0 1)).size + (a1.extract (t185 : Int).toNat a1.size).size ≤ 9223372036854775807 then (some (((a1.extract 0 (t185 : Int).toNat) ++ ((a2.extract (t188 : Int).toNat a2.size).extract 0 1)) ++ (a1.extract (t185 : Int).toNat a1.size),bt191.2.1,bt191.2.2)) else (none)) else (none)) else (none)) else (none)) else (if bt191.1 = 1 then (if 0 ≤ t185 then (if t185 ≤ (a1.size : Int) then (if (a1.extract 0 (t185 : Int).toNat).size + ((a2.extract (t188 : Int).toNat a2.size).extract 0 1).size ≤ 9223372036854775807 then (if 0 ≤ (wrap64 (t185 + 1)) then (if (wrap64 (t185 + 1)) ≤ (a1.size : Int) then (if ((a1.extract 0 (t185 : Int).toNat) ++ ((a2.extract (t188 : Int).toNat a2.size).extract 0 1)).size + (a1.extract ((wrap64 (t185 + 1)) : Int).toNat a1.size).size ≤ 9223372036854775807 then (some (((a1.extract 0 (t185 : Int).toNat) ++ ((a2.extract (t188 : Int).toNat a2.size).extract 0 1)) ++ (a1.extract ((wrap64 (t185 + 1)) : Int).toNat a1.size),bt191.2.1,bt191.2.2)) else (none)) else (none)) else (none)) else (none)) else (none)) else (none)) else (if 0 ≤ t185 then (if t185 ≤ (a1.size : Int) then (if 0 ≤ (wrap64 (t185 + 1)) then (if (wrap64 (t185 + 1)) ≤ (a1.size : Int) then (if (a1.extract 0 (t185 : Int).toNat).size + (a1.extract ((wrap64 (t185 + 1)) : Int).toNat a1.size).size ≤ 9223372036854775807 then (some ((a1.extract 0 (t185 : Int).toNat) ++ (a1.extract ((wrap64 (t185 + 1)) : Int).toNat a1.size),bt191.2.1,bt191.2.2)) else (none)) else (none)) else (none)) else (none)) else (none))))) else (none)) else (none)) else (none)) else (none)) = some (r1,r2,r3) := H
  have A8 := Aside0.mk A80
  clear A80
  by_cases c9 : 0 ≤ t188
  ·rw [if_pos c9] at H
   have c9b0 := eq_true c9
   have c9b1 : decide (0 ≤ t188) = true := decide_eq_true c9
   clear c9
   by_cases c10 : t188 ≤ (a2.size : Int)
   ·rw [if_pos c10] at H
    have c10b0 := eq_true c10
    have c10b1 : decide (t188 ≤ (a2.size : Int)) = true := decide_eq_true c10
    clear c10
    obtain ⟨sj11,hsj11⟩ : ∃ s_ : ByteArray,(a2.extract (t188 : Int).toNat a2.size) = s_ := ⟨_,rfl⟩
    replace H : (if 0 ≤ 1 then (if 1 ≤ (sj11.size : Int) then ((spec_l1Cur_pick.f s0_0 t189 t190 3).bind fun bt191 => (if bt191.1 = 0 then (if 0 ≤ t185 then (if t185 ≤ (a1.size : Int) then (if (a1.extract 0 (t185 : Int).toNat).size + (sj11.extract 0 1).size ≤ 9223372036854775807 then (if ((a1.extract 0 (t185 : Int).toNat) ++ (sj11.extract 0 1)).size + (a1.extract (t185 : Int).toNat a1.size).size ≤ 9223372036854775807 then (some (((a1.extract 0 (t185 : Int).toNat) ++ (sj11.extract 0 1)) ++ (a1.extract (t185 : Int).toNat a1.size),bt191.2.1,bt191.2.2)) else (none)) else (none)) else (none)) else (none)) else (if bt191.1 = 1 then (if 0 ≤ t185 then (if t185 ≤ (a1.size : Int) then (if (a1.extract 0 (t185 : Int).toNat).size + (sj11.extract 0 1).size ≤ 9223372036854775807 then (if 0 ≤ (wrap64 (t185 + 1)) then (if (wrap64 (t185 + 1)) ≤ (a1.size : Int) then (if ((a1.extract 0 (t185 : Int).toNat) ++ (sj11.extract 0 1)).size + (a1.extract ((wrap64 (t185 + 1)) : Int).toNat a1.size).size ≤ 9223372036854775807 then (some (((a1.extract 0 (t185 : Int).toNat) ++ (sj11.extract 0 1)) ++ (a1.extract ((wrap64 (t185 + 1)) : Int).toNat a1.size),bt191.2.1,bt191.2.2)) else (none)) else (none)) else (none)) else (none)) else (none)) else (none)) else (if 0 ≤ t185 then (if t185 ≤ (a1.size : Int) then (if 0 ≤ (wrap64 (t185 + 1)) then (if (wrap64 (t185 + 1)) ≤ (a1.size : Int) then (if (a1.extract 0 (t185 : Int).toNat).size + (a1.extract ((wrap64 (t185 + 1)) : Int).toNat a1.size).size ≤ 9223372036854775807 then (some ((a1.extract 0 (t185 : Int).toNat) ++ (a1.extract ((wrap64 (t185 + 1)) : Int).toNat a1.size),bt191.2.1,bt191.2.2)) else (none)) else (none)) else (none)) else (none)) else (none))))) else (none)) else (none)) = some (r1,r2,r3) := by (have he_ : (a2.extract (t188 : Int).toNat a2.size) = sj11 := hsj11);first|(rw [he_] at H;exact H)|(simp only [he_] at H ⊢;exact H)
    (try rw [hsj11] at A7)
    (try rw [hsj11] at A8)
    by_cases c12 : 0 ≤ 1
    ·rw [if_pos c12] at H
     have c12b0 := eq_true c12
     have c12b1 : decide (0 ≤ 1) = true := decide_eq_true c12
     clear c12
     by_cases c13 : 1 ≤ (sj11.size : Int)
     ·rw [if_pos c13] at H
      have c13b0 := eq_true c13
      have c13b1 : decide (1 ≤ (sj11.size : Int)) = true := decide_eq_true c13
      clear c13
      replace H := Option.bind_eq_some_iff.mp H
      obtain ⟨⟨t191,t192,t193⟩,A140,H⟩ := H
      replace H : (if t191 = 0 then (if 0 ≤ t185 then (if t185 ≤ (a1.size : Int) then (if (a1.extract 0 (t185 : Int).toNat).size + (sj11.extract 0 1).size ≤ 9223372036854775807 then (if ((a1.extract 0 (t185 : Int).toNat) ++ (sj11.extract 0 1)).size + (a1.extract (t185 : Int).toNat a1.size).size ≤ 9223372036854775807 then (some (((a1.extract 0 (t185 : Int).toNat) ++ (sj11.extract 0 1)) ++ (a1.extract (t185 : Int).toNat a1.size),t192,t193)) else (none)) else (none)) else (none)) else (none)) else (if t191 = 1 then (if 0 ≤ t185 then (if t185 ≤ (a1.size : Int) then (if (a1.extract 0 (t185 : Int).toNat).size + (sj11.extract 0 1).size ≤ 9223372036854775807 then (if 0 ≤ (wrap64 (t185 + 1)) then (if (wrap64 (t185 + 1)) ≤ (a1.size : Int) then (if ((a1.extract 0 (t185 : Int).toNat) ++ (sj11.extract 0 1)).size + (a1.extract ((wrap64 (t185 + 1)) : Int).toNat a1.size).size ≤ 9223372036854775807 then (some (((a1.extract 0 (t185 : Int).toNat) ++ (sj11.extract 0 1)) ++ (a1.extract ((wrap64 (t185 + 1)) : Int).toNat a1.size),t192,t193)) else (none)) else (none)) else (none)) else (none)) else (none)) else (none)) else (if 0 ≤ t185 then (if t185 ≤ (a1.size : Int) then (if 0 ≤ (wrap64 (t185 + 1)) then (if (wrap64 (t185 + 1)) ≤ (a1.size : Int) then (if (a1.extract 0 (t185 : Int).toNat).size + (a1.extract ((wrap64 (t185 + 1)) : Int).toNat a1.size).size ≤ 9223372036854775807 then (some ((a1.extract 0 (t185 : Int).toNat) ++ (a1.extract ((wrap64 (t185 + 1)) : Int).toNat a1.size),t192,t193)) else (none)) else (none)) else (none)) else (none)) else (none)))) = some (r1,r2,r3) := H
      have A14 := Aside0.mk A140
      clear A140
      by_cases c15 : t191 = 0
      ·rw [if_pos c15] at H
       have c15b0 : (t191 == 0) = true := beq_iff_eq.mpr c15
       have c15b1 : (t191 != 0) = false := bne_eq_false_iff_eq.mpr c15
       clear c15
       by_cases c16 : 0 ≤ t185
       ·rw [if_pos c16] at H
        have c16b0 := eq_true c16
        have c16b1 : decide (0 ≤ t185) = true := decide_eq_true c16
        clear c16
        by_cases c17 : t185 ≤ (a1.size : Int)
        ·rw [if_pos c17] at H
         have c17b0 := eq_true c17
         have c17b1 : decide (t185 ≤ (a1.size : Int)) = true := decide_eq_true c17
         clear c17
         obtain ⟨sj18,hsj18⟩ : ∃ s_ : ByteArray,(a1.extract (t185 : Int).toNat a1.size) = s_ := ⟨_,rfl⟩
         replace H : (if (a1.extract 0 (t185 : Int).toNat).size + (sj11.extract 0 1).size ≤ 9223372036854775807 then (if ((a1.extract 0 (t185 : Int).toNat) ++ (sj11.extract 0 1)).size + sj18.size ≤ 9223372036854775807 then (some (((a1.extract 0 (t185 : Int).toNat) ++ (sj11.extract 0 1)) ++ sj18,t192,t193)) else (none)) else (none)) = some (r1,r2,r3) := by (have he_ : (a1.extract (t185 : Int).toNat a1.size) = sj18 := hsj18);first|(rw [he_] at H;exact H)|(simp only [he_] at H ⊢;exact H)
         (try rw [hsj18] at A7)
         (try rw [hsj18] at A8)
         (try rw [hsj18] at A14)
         by_cases c19 : (a1.extract 0 (t185 : Int).toNat).size + (sj11.extract 0 1).size ≤ 9223372036854775807
         ·rw [if_pos c19] at H
          have c19b0 := eq_true c19
          have c19b1 : decide ((a1.extract 0 (t185 : Int).toNat).size + (sj11.extract 0 1).size ≤ 9223372036854775807) = true := decide_eq_true c19
          try have c19b3 : (9223372036854775807 < min (t185 : Int).toNat a1.size + min 1 sj11.size) = False := eq_false (by have h_ := c19;simp only [ByteArray.size_append,ByteArray.size_extract] at h_;omega)
          try have c19b2 : (9223372036854775807 < (a1.extract 0 (t185 : Int).toNat).size + (sj11.extract 0 1).size) = False := eq_false (Nat.not_lt.2 c19)
          have c20b0 := eq_true (of_decide_eq_true (by first|(with_reducible assumption)|assumption) : 0 ≤ t185)
          have c21b0 := eq_true (of_decide_eq_true (by first|(with_reducible assumption)|assumption) : t185 ≤ (a1.size : Int))
          by_cases c22 : ((a1.extract 0 (t185 : Int).toNat) ++ (sj11.extract 0 1)).size + sj18.size ≤ 9223372036854775807
          ·rw [if_pos c22] at H
           have c22b0 := eq_true c22
           have c22b1 : decide (((a1.extract 0 (t185 : Int).toNat) ++ (sj11.extract 0 1)).size + sj18.size ≤ 9223372036854775807) = true := decide_eq_true c22
           try have c22b3 : (9223372036854775807 < (a1.extract 0 (t185 : Int).toNat).size + (sj11.extract 0 1).size + sj18.size) = False := eq_false (by have h_ := c22;simp only [ByteArray.size_append,ByteArray.size_extract] at h_;omega)
           try have c22b4 : (9223372036854775807 < min (t185 : Int).toNat a1.size + min 1 sj11.size + sj18.size) = False := eq_false (by have h_ := c22;simp only [ByteArray.size_append,ByteArray.size_extract] at h_;omega)
           try have c22b2 : (9223372036854775807 < ((a1.extract 0 (t185 : Int).toNat) ++ (sj11.extract 0 1)).size + sj18.size) = False := eq_false (Nat.not_lt.2 c22)
           simp only [Option.some.injEq,Prod.mk.injEq] at H
           obtain ⟨rfl,rfl,rfl⟩ := H
           go_enter Tryd.func50,Tryd.ntmps50
           go_wp2_with (first|(go_at_call 49;(with_reducible refine (spec_l1Cur_pick.calls g s0_0 s0_1 s0_2 (a1.size : Int) t185 t186 t187 w0 _ ?side1 ?side2 A7.out).mono ?_);(case side1 => repeat (first|(with_reducible first|exact HI0.out|apply IsS56.alloc|apply IsS56.drewN|apply IsS56.drew|apply IsS56.set_1|apply IsS56.set_2)|exact HI0.out));(case side2 => repeat (first|(with_reducible first|exact HB.out|apply lA|apply lN|apply lD|refine below_set ?_ (IsS56.ge HI0.out))|exact HB.out));rintro e w23 ⟨rfl,hi,hb,hk⟩;have n0_ := Aside0.mk (KeepBut.trans (by repeat (first|(with_reducible first|exact HK.out|apply KeepBut.set_|apply keep_drewN|apply keep_drew|apply keep_alloc)|exact HK.out)) hk (.inl rfl));have n1_ := Aside0.mk (hb);have n2_ := Aside0.mk (hi);clear HK;clear HB;clear HI0;have HK := n0_;have HB := n1_;have HI0 := n2_;clear n0_ n1_ n2_;(try clear hb);(try clear hb2);(try clear hk);(try clear hi))|(go_at_call 49;(with_reducible refine (spec_l1Cur_pick.calls g s0_0 t186 t187 (a2.size : Int) t188 t189 t190 w0 _ ?side1 ?side2 A8.out).mono ?_);(case side1 => repeat (first|(with_reducible first|exact HI0.out|apply IsS56.alloc|apply IsS56.drewN|apply IsS56.drew|apply IsS56.set_1|apply IsS56.set_2)|exact HI0.out));(case side2 => repeat (first|(with_reducible first|exact HB.out|apply lA|apply lN|apply lD|refine below_set ?_ (IsS56.ge HI0.out))|exact HB.out));rintro e w24 ⟨rfl,hi,hb,hk⟩;have n0_ := Aside0.mk (KeepBut.trans (by repeat (first|(with_reducible first|exact HK.out|apply KeepBut.set_|apply keep_drewN|apply keep_drew|apply keep_alloc)|exact HK.out)) hk (.inl rfl));have n1_ := Aside0.mk (hb);have n2_ := Aside0.mk (hi);clear HK;clear HB;clear HI0;have HK := n0_;have HB := n1_;have HI0 := n2_;clear n0_ n1_ n2_;(try clear hb);(try clear hb2);(try clear hk);(try clear hi))|(go_at_call 49;(with_reducible refine (spec_l1Cur_pick.calls g s0_0 t189 t190 3 t191 t192 t193 w0 _ ?side1 ?side2 A14.out).mono ?_);(case side1 => repeat (first|(with_reducible first|exact HI0.out|apply IsS56.alloc|apply IsS56.drewN|apply IsS56.drew|apply IsS56.set_1|apply IsS56.set_2)|exact HI0.out));(case side2 => repeat (first|(with_reducible first|exact HB.out|apply lA|apply lN|apply lD|refine below_set ?_ (IsS56.ge HI0.out))|exact HB.out));rintro e w25 ⟨rfl,hi,hb,hk⟩;have n0_ := Aside0.mk (KeepBut.trans (by repeat (first|(with_reducible first|exact HK.out|apply KeepBut.set_|apply keep_drewN|apply keep_drew|apply keep_alloc)|exact HK.out)) hk (.inl rfl));have n1_ := Aside0.mk (hb);have n2_ := Aside0.mk (hi);clear HK;clear HB;clear HI0;have HK := n0_;have HB := n1_;have HI0 := n2_;clear n0_ n1_ n2_;(try clear hb);(try clear hb2);(try clear hk);(try clear hi)))
           repeat (go_quiet (first|(go_at_call 49;(with_reducible refine (spec_l1Cur_pick.calls g s0_0 s0_1 s0_2 (a1.size : Int) t185 t186 t187 w0 _ ?side1 ?side2 A7.out).mono ?_);(case side1 => repeat (first|(with_reducible first|exact HI0.out|apply IsS56.alloc|apply IsS56.drewN|apply IsS56.drew|apply IsS56.set_1|apply IsS56.set_2)|exact HI0.out));(case side2 => repeat (first|(with_reducible first|exact HB.out|apply lA|apply lN|apply lD|refine below_set ?_ (IsS56.ge HI0.out))|exact HB.out));rintro e w23 ⟨rfl,hi,hb,hk⟩;have n0_ := Aside0.mk (KeepBut.trans (by repeat (first|(with_reducible first|exact HK.out|apply KeepBut.set_|apply keep_drewN|apply keep_drew|apply keep_alloc)|exact HK.out)) hk (.inl rfl));have n1_ := Aside0.mk (hb);have n2_ := Aside0.mk (hi);clear HK;clear HB;clear HI0;have HK := n0_;have HB := n1_;have HI0 := n2_;clear n0_ n1_ n2_;(try clear hb);(try clear hb2);(try clear hk);(try clear hi))|(go_at_call 49;(with_reducible refine (spec_l1Cur_pick.calls g s0_0 t186 t187 (a2.size : Int) t188 t189 t190 w0 _ ?side1 ?side2 A8.out).mono ?_);(case side1 => repeat (first|(with_reducible first|exact HI0.out|apply IsS56.alloc|apply IsS56.drewN|apply IsS56.drew|apply IsS56.set_1|apply IsS56.set_2)|exact HI0.out));(case side2 => repeat (first|(with_reducible first|exact HB.out|apply lA|apply lN|apply lD|refine below_set ?_ (IsS56.ge HI0.out))|exact HB.out));rintro e w24 ⟨rfl,hi,hb,hk⟩;have n0_ := Aside0.mk (KeepBut.trans (by repeat (first|(with_reducible first|exact HK.out|apply KeepBut.set_|apply keep_drewN|apply keep_drew|apply keep_alloc)|exact HK.out)) hk (.inl rfl));have n1_ := Aside0.mk (hb);have n2_ := Aside0.mk (hi);clear HK;clear HB;clear HI0;have HK := n0_;have HB := n1_;have HI0 := n2_;clear n0_ n1_ n2_;(try clear hb);(try clear hb2);(try clear hk);(try clear hi))|(go_at_call 49;(with_reducible refine (spec_l1Cur_pick.calls g s0_0 t189 t190 3 t191 t192 t193 w0 _ ?side1 ?side2 A14.out).mono ?_);(case side1 => repeat (first|(with_reducible first|exact HI0.out|apply IsS56.alloc|apply IsS56.drewN|apply IsS56.drew|apply IsS56.set_1|apply IsS56.set_2)|exact HI0.out));(case side2 => repeat (first|(with_reducible first|exact HB.out|apply lA|apply lN|apply lD|refine below_set ?_ (IsS56.ge HI0.out))|exact HB.out));rintro e w25 ⟨rfl,hi,hb,hk⟩;have n0_ := Aside0.mk (KeepBut.trans (by repeat (first|(with_reducible first|exact HK.out|apply KeepBut.set_|apply keep_drewN|apply keep_drew|apply keep_alloc)|exact HK.out)) hk (.inl rfl));have n1_ := Aside0.mk (hb);have n2_ := Aside0.mk (hi);clear HK;clear HB;clear HI0;have HK := n0_;have HB := n1_;have HI0 := n2_;clear n0_ n1_ n2_;(try clear hb);(try clear hb2);(try clear hk);(try clear hi)));try go_wp2_with (first|(go_at_call 49;(with_reducible refine (spec_l1Cur_pick.calls g s0_0 s0_1 s0_2 (a1.size : Int) t185 t186 t187 w0 _ ?side1 ?side2 A7.out).mono ?_);(case side1 => repeat (first|(with_reducible first|exact HI0.out|apply IsS56.alloc|apply IsS56.drewN|apply IsS56.drew|apply IsS56.set_1|apply IsS56.set_2)|exact HI0.out));(case side2 => repeat (first|(with_reducible first|exact HB.out|apply lA|apply lN|apply lD|refine below_set ?_ (IsS56.ge HI0.out))|exact HB.out));rintro e w23 ⟨rfl,hi,hb,hk⟩;have n0_ := Aside0.mk (KeepBut.trans (by repeat (first|(with_reducible first|exact HK.out|apply KeepBut.set_|apply keep_drewN|apply keep_drew|apply keep_alloc)|exact HK.out)) hk (.inl rfl));have n1_ := Aside0.mk (hb);have n2_ := Aside0.mk (hi);clear HK;clear HB;clear HI0;have HK := n0_;have HB := n1_;have HI0 := n2_;clear n0_ n1_ n2_;(try clear hb);(try clear hb2);(try clear hk);(try clear hi))|(go_at_call 49;(with_reducible refine (spec_l1Cur_pick.calls g s0_0 t186 t187 (a2.size : Int) t188 t189 t190 w0 _ ?side1 ?side2 A8.out).mono ?_);(case side1 => repeat (first|(with_reducible first|exact HI0.out|apply IsS56.alloc|apply IsS56.drewN|apply IsS56.drew|apply IsS56.set_1|apply IsS56.set_2)|exact HI0.out));(case side2 => repeat (first|(with_reducible first|exact HB.out|apply lA|apply lN|apply lD|refine below_set ?_ (IsS56.ge HI0.out))|exact HB.out));rintro e w24 ⟨rfl,hi,hb,hk⟩;have n0_ := Aside0.mk (KeepBut.trans (by repeat (first|(with_reducible first|exact HK.out|apply KeepBut.set_|apply keep_drewN|apply keep_drew|apply keep_alloc)|exact HK.out)) hk (.inl rfl));have n1_ := Aside0.mk (hb);have n2_ := Aside0.mk (hi);clear HK;clear HB;clear HI0;have HK := n0_;have HB := n1_;have HI0 := n2_;clear n0_ n1_ n2_;(try clear hb);(try clear hb2);(try clear hk);(try clear hi))|(go_at_call 49;(with_reducible refine (spec_l1Cur_pick.calls g s0_0 t189 t190 3 t191 t192 t193 w0 _ ?side1 ?side2 A14.out).mono ?_);(case side1 => repeat (first|(with_reducible first|exact HI0.out|apply IsS56.alloc|apply IsS56.drewN|apply IsS56.drew|apply IsS56.set_1|apply IsS56.set_2)|exact HI0.out));(case side2 => repeat (first|(with_reducible first|exact HB.out|apply lA|apply lN|apply lD|refine below_set ?_ (IsS56.ge HI0.out))|exact HB.out));rintro e w25 ⟨rfl,hi,hb,hk⟩;have n0_ := Aside0.mk (KeepBut.trans (by repeat (first|(with_reducible first|exact HK.out|apply KeepBut.set_|apply keep_drewN|apply keep_drew|apply keep_alloc)|exact HK.out)) hk (.inl rfl));have n1_ := Aside0.mk (hb);have n2_ := Aside0.mk (hi);clear HK;clear HB;clear HI0;have HK := n0_;have HB := n1_;have HI0 := n2_;clear n0_ n1_ n2_;(try clear hb);(try clear hb2);(try clear hk);(try clear hi))))
           go_ret
           exact ⟨by first|rfl|(simp [errW_none,errW_some] <;> rfl)|(simp only [← hsj11,← hsj18];first|rfl|(simp [errW_none,errW_some] <;> rfl))|(simp [*,errW_none,errW_some] <;> rfl),by repeat (first|(with_reducible first|exact HI0.out|apply IsS56.alloc|apply IsS56.drewN|apply IsS56.drew|apply IsS56.set_1|apply IsS56.set_2)|exact HI0.out),by repeat (first|(with_reducible first|exact HB.out|apply lA|apply lN|apply lD|refine below_set ?_ (IsS56.ge HI0.out))|exact HB.out),by repeat (first|(with_reducible first|exact HK.out|apply KeepBut.set_|apply keep_drewN|apply keep_drew|apply keep_alloc)|exact HK.out)⟩
          ·rw [if_neg c22] at H
           exact absurd H (by simp)
         ·rw [if_neg c19] at H
          exact absurd H (by simp)
        ·rw [if_neg c17] at H
         exact absurd H (by simp)
       ·rw [if_neg c16] at H
        exact absurd H (by simp)
      ·rw [if_neg c15] at H
       have c15b0 : (t191 == 0) = false := beq_eq_false_iff_ne.mpr c15
       have c15b1 : (t191 != 0) = true := bne_iff_ne.mpr c15
       by_cases c26 : t191 = 1
       ·rw [if_pos c26] at H
        have c26b0 : (t191 == 1) = true := beq_iff_eq.mpr c26
        have c26b1 : (t191 != 1) = false := bne_eq_false_iff_eq.mpr c26
        clear c26
        by_cases c27 : 0 ≤ t185
        ·rw [if_pos c27] at H
         have c27b0 := eq_true c27
         have c27b1 : decide (0 ≤ t185) = true := decide_eq_true c27
         clear c27
         by_cases c28 : t185 ≤ (a1.size : Int)
         ·rw [if_pos c28] at H
          have c28b0 := eq_true c28
          have c28b1 : decide (t185 ≤ (a1.size : Int)) = true := decide_eq_true c28
          clear c28
          by_cases c29 : (a1.extract 0 (t185 : Int).toNat).size + (sj11.extract 0 1).size ≤ 9223372036854775807
          ·rw [if_pos c29] at H
           have c29b0 := eq_true c29
           have c29b1 : decide ((a1.extract 0 (t185 : Int).toNat).size + (sj11.extract 0 1).size ≤ 9223372036854775807) = true := decide_eq_true c29
           try have c29b3 : (9223372036854775807 < min (t185 : Int).toNat a1.size + min 1 sj11.size) = False := eq_false (by have h_ := c29;simp only [ByteArray.size_append,ByteArray.size_extract] at h_;omega)
           try have c29b2 : (9223372036854775807 < (a1.extract 0 (t185 : Int).toNat).size + (sj11.extract 0 1).size) = False := eq_false (Nat.not_lt.2 c29)
           obtain ⟨ji30,hji30⟩ : ∃ j_ : Int,(wrap64 (t185 + 1)) = j_ := ⟨_,rfl⟩
           (try rw [hji30] at hsj11)
           (try rw [hji30] at hsj18)
           replace H : (if 0 ≤ (ji30) then (if (ji30) ≤ (a1.size : Int) then (if ((a1.extract 0 (t185 : Int).toNat) ++ (sj11.extract 0 1)).size + (a1.extract ((ji30) : Int).toNat a1.size).size ≤ 9223372036854775807 then (some (((a1.extract 0 (t185 : Int).toNat) ++ (sj11.extract 0 1)) ++ (a1.extract ((ji30) : Int).toNat a1.size),t192,t193)) else (none)) else (none)) else (none)) = some (r1,r2,r3) := by first|(rw [hji30] at H;exact H)|(simp only [hji30] at H ⊢;exact H)
           (try rw [hji30] at A7)
           (try rw [hji30] at A8)
           (try rw [hji30] at A14)
           have hji30w : (IntKind.i64.wrap (t185 + 1)) = ji30 := (i64_w _).trans hji30
           by_cases c31 : 0 ≤ (ji30)
           ·rw [if_pos c31] at H
            have c31b0 := eq_true c31
            have c31b1 : decide (0 ≤ (ji30)) = true := decide_eq_true c31
            clear c31
            by_cases c32 : (ji30) ≤ (a1.size : Int)
            ·rw [if_pos c32] at H
             have c32b0 := eq_true c32
             have c32b1 : decide ((ji30) ≤ (a1.size : Int)) = true := decide_eq_true c32
             clear c32
             obtain ⟨sj33,hsj33⟩ : ∃ s_ : ByteArray,(a1.extract ((ji30) : Int).toNat a1.size) = s_ := ⟨_,rfl⟩
             replace H : (if ((a1.extract 0 (t185 : Int).toNat) ++ (sj11.extract 0 1)).size + sj33.size ≤ 9223372036854775807 then (some (((a1.extract 0 (t185 : Int).toNat) ++ (sj11.extract 0 1)) ++ sj33,t192,t193)) else (none)) = some (r1,r2,r3) := by (have he_ : (a1.extract ((ji30) : Int).toNat a1.size) = sj33 := hsj33);first|(rw [he_] at H;exact H)|(simp only [he_] at H ⊢;exact H)
             (try rw [hsj33] at A7)
             (try rw [hsj33] at A8)
             (try rw [hsj33] at A14)
             by_cases c34 : ((a1.extract 0 (t185 : Int).toNat) ++ (sj11.extract 0 1)).size + sj33.size ≤ 9223372036854775807
             ·rw [if_pos c34] at H
              have c34b0 := eq_true c34
              have c34b1 : decide (((a1.extract 0 (t185 : Int).toNat) ++ (sj11.extract 0 1)).size + sj33.size ≤ 9223372036854775807) = true := decide_eq_true c34
              try have c34b3 : (9223372036854775807 < (a1.extract 0 (t185 : Int).toNat).size + (sj11.extract 0 1).size + sj33.size) = False := eq_false (by have h_ := c34;simp only [ByteArray.size_append,ByteArray.size_extract] at h_;omega)
              try have c34b4 : (9223372036854775807 < min (t185 : Int).toNat a1.size + min 1 sj11.size + sj33.size) = False := eq_false (by have h_ := c34;simp only [ByteArray.size_append,ByteArray.size_extract] at h_;omega)
              try have c34b2 : (9223372036854775807 < ((a1.extract 0 (t185 : Int).toNat) ++ (sj11.extract 0 1)).size + sj33.size) = False := eq_false (Nat.not_lt.2 c34)
              simp only [Option.some.injEq,Prod.mk.injEq] at H
              obtain ⟨rfl,rfl,rfl⟩ := H
              go_enter Tryd.func50,Tryd.ntmps50
              go_wp2_with (first|(go_at_call 49;(with_reducible refine (spec_l1Cur_pick.calls g s0_0 s0_1 s0_2 (a1.size : Int) t185 t186 t187 w0 _ ?side1 ?side2 A7.out).mono ?_);(case side1 => repeat (first|(with_reducible first|exact HI0.out|apply IsS56.alloc|apply IsS56.drewN|apply IsS56.drew|apply IsS56.set_1|apply IsS56.set_2)|exact HI0.out));(case side2 => repeat (first|(with_reducible first|exact HB.out|apply lA|apply lN|apply lD|refine below_set ?_ (IsS56.ge HI0.out))|exact HB.out));rintro e w35 ⟨rfl,hi,hb,hk⟩;have n0_ := Aside0.mk (KeepBut.trans (by repeat (first|(with_reducible first|exact HK.out|apply KeepBut.set_|apply keep_drewN|apply keep_drew|apply keep_alloc)|exact HK.out)) hk (.inl rfl));have n1_ := Aside0.mk (hb);have n2_ := Aside0.mk (hi);clear HK;clear HB;clear HI0;have HK := n0_;have HB := n1_;have HI0 := n2_;clear n0_ n1_ n2_;(try clear hb);(try clear hb2);(try clear hk);(try clear hi))|(go_at_call 49;(with_reducible refine (spec_l1Cur_pick.calls g s0_0 t186 t187 (a2.size : Int) t188 t189 t190 w0 _ ?side1 ?side2 A8.out).mono ?_);(case side1 => repeat (first|(with_reducible first|exact HI0.out|apply IsS56.alloc|apply IsS56.drewN|apply IsS56.drew|apply IsS56.set_1|apply IsS56.set_2)|exact HI0.out));(case side2 => repeat (first|(with_reducible first|exact HB.out|apply lA|apply lN|apply lD|refine below_set ?_ (IsS56.ge HI0.out))|exact HB.out));rintro e w36 ⟨rfl,hi,hb,hk⟩;have n0_ := Aside0.mk (KeepBut.trans (by repeat (first|(with_reducible first|exact HK.out|apply KeepBut.set_|apply keep_drewN|apply keep_drew|apply keep_alloc)|exact HK.out)) hk (.inl rfl));have n1_ := Aside0.mk (hb);have n2_ := Aside0.mk (hi);clear HK;clear HB;clear HI0;have HK := n0_;have HB := n1_;have HI0 := n2_;clear n0_ n1_ n2_;(try clear hb);(try clear hb2);(try clear hk);(try clear hi))|(go_at_call 49;(with_reducible refine (spec_l1Cur_pick.calls g s0_0 t189 t190 3 t191 t192 t193 w0 _ ?side1 ?side2 A14.out).mono ?_);(case side1 => repeat (first|(with_reducible first|exact HI0.out|apply IsS56.alloc|apply IsS56.drewN|apply IsS56.drew|apply IsS56.set_1|apply IsS56.set_2)|exact HI0.out));(case side2 => repeat (first|(with_reducible first|exact HB.out|apply lA|apply lN|apply lD|refine below_set ?_ (IsS56.ge HI0.out))|exact HB.out));rintro e w37 ⟨rfl,hi,hb,hk⟩;have n0_ := Aside0.mk (KeepBut.trans (by repeat (first|(with_reducible first|exact HK.out|apply KeepBut.set_|apply keep_drewN|apply keep_drew|apply keep_alloc)|exact HK.out)) hk (.inl rfl));have n1_ := Aside0.mk (hb);have n2_ := Aside0.mk (hi);clear HK;clear HB;clear HI0;have HK := n0_;have HB := n1_;have HI0 := n2_;clear n0_ n1_ n2_;(try clear hb);(try clear hb2);(try clear hk);(try clear hi)))
              repeat (go_quiet (first|(go_at_call 49;(with_reducible refine (spec_l1Cur_pick.calls g s0_0 s0_1 s0_2 (a1.size : Int) t185 t186 t187 w0 _ ?side1 ?side2 A7.out).mono ?_);(case side1 => repeat (first|(with_reducible first|exact HI0.out|apply IsS56.alloc|apply IsS56.drewN|apply IsS56.drew|apply IsS56.set_1|apply IsS56.set_2)|exact HI0.out));(case side2 => repeat (first|(with_reducible first|exact HB.out|apply lA|apply lN|apply lD|refine below_set ?_ (IsS56.ge HI0.out))|exact HB.out));rintro e w35 ⟨rfl,hi,hb,hk⟩;have n0_ := Aside0.mk (KeepBut.trans (by repeat (first|(with_reducible first|exact HK.out|apply KeepBut.set_|apply keep_drewN|apply keep_drew|apply keep_alloc)|exact HK.out)) hk (.inl rfl));have n1_ := Aside0.mk (hb);have n2_ := Aside0.mk (hi);clear HK;clear HB;clear HI0;have HK := n0_;have HB := n1_;have HI0 := n2_;clear n0_ n1_ n2_;(try clear hb);(try clear hb2);(try clear hk);(try clear hi))|(go_at_call 49;(with_reducible refine (spec_l1Cur_pick.calls g s0_0 t186 t187 (a2.size : Int) t188 t189 t190 w0 _ ?side1 ?side2 A8.out).mono ?_);(case side1 => repeat (first|(with_reducible first|exact HI0.out|apply IsS56.alloc|apply IsS56.drewN|apply IsS56.drew|apply IsS56.set_1|apply IsS56.set_2)|exact HI0.out));(case side2 => repeat (first|(with_reducible first|exact HB.out|apply lA|apply lN|apply lD|refine below_set ?_ (IsS56.ge HI0.out))|exact HB.out));rintro e w36 ⟨rfl,hi,hb,hk⟩;have n0_ := Aside0.mk (KeepBut.trans (by repeat (first|(with_reducible first|exact HK.out|apply KeepBut.set_|apply keep_drewN|apply keep_drew|apply keep_alloc)|exact HK.out)) hk (.inl rfl));have n1_ := Aside0.mk (hb);have n2_ := Aside0.mk (hi);clear HK;clear HB;clear HI0;have HK := n0_;have HB := n1_;have HI0 := n2_;clear n0_ n1_ n2_;(try clear hb);(try clear hb2);(try clear hk);(try clear hi))|(go_at_call 49;(with_reducible refine (spec_l1Cur_pick.calls g s0_0 t189 t190 3 t191 t192 t193 w0 _ ?side1 ?side2 A14.out).mono ?_);(case side1 => repeat (first|(with_reducible first|exact HI0.out|apply IsS56.alloc|apply IsS56.drewN|apply IsS56.drew|apply IsS56.set_1|apply IsS56.set_2)|exact HI0.out));(case side2 => repeat (first|(with_reducible first|exact HB.out|apply lA|apply lN|apply lD|refine below_set ?_ (IsS56.ge HI0.out))|exact HB.out));rintro e w37 ⟨rfl,hi,hb,hk⟩;have n0_ := Aside0.mk (KeepBut.trans (by repeat (first|(with_reducible first|exact HK.out|apply KeepBut.set_|apply keep_drewN|apply keep_drew|apply keep_alloc)|exact HK.out)) hk (.inl rfl));have n1_ := Aside0.mk (hb);have n2_ := Aside0.mk (hi);clear HK;clear HB;clear HI0;have HK := n0_;have HB := n1_;have HI0 := n2_;clear n0_ n1_ n2_;(try clear hb);(try clear hb2);(try clear hk);(try clear hi)));try go_wp2_with (first|(go_at_call 49;(with_reducible refine (spec_l1Cur_pick.calls g s0_0 s0_1 s0_2 (a1.size : Int) t185 t186 t187 w0 _ ?side1 ?side2 A7.out).mono ?_);(case side1 => repeat (first|(with_reducible first|exact HI0.out|apply IsS56.alloc|apply IsS56.drewN|apply IsS56.drew|apply IsS56.set_1|apply IsS56.set_2)|exact HI0.out));(case side2 => repeat (first|(with_reducible first|exact HB.out|apply lA|apply lN|apply lD|refine below_set ?_ (IsS56.ge HI0.out))|exact HB.out));rintro e w35 ⟨rfl,hi,hb,hk⟩;have n0_ := Aside0.mk (KeepBut.trans (by repeat (first|(with_reducible first|exact HK.out|apply KeepBut.set_|apply keep_drewN|apply keep_drew|apply keep_alloc)|exact HK.out)) hk (.inl rfl));have n1_ := Aside0.mk (hb);have n2_ := Aside0.mk (hi);clear HK;clear HB;clear HI0;have HK := n0_;have HB := n1_;have HI0 := n2_;clear n0_ n1_ n2_;(try clear hb);(try clear hb2);(try clear hk);(try clear hi))|(go_at_call 49;(with_reducible refine (spec_l1Cur_pick.calls g s0_0 t186 t187 (a2.size : Int) t188 t189 t190 w0 _ ?side1 ?side2 A8.out).mono ?_);(case side1 => repeat (first|(with_reducible first|exact HI0.out|apply IsS56.alloc|apply IsS56.drewN|apply IsS56.drew|apply IsS56.set_1|apply IsS56.set_2)|exact HI0.out));(case side2 => repeat (first|(with_reducible first|exact HB.out|apply lA|apply lN|apply lD|refine below_set ?_ (IsS56.ge HI0.out))|exact HB.out));rintro e w36 ⟨rfl,hi,hb,hk⟩;have n0_ := Aside0.mk (KeepBut.trans (by repeat (first|(with_reducible first|exact HK.out|apply KeepBut.set_|apply keep_drewN|apply keep_drew|apply keep_alloc)|exact HK.out)) hk (.inl rfl));have n1_ := Aside0.mk (hb);have n2_ := Aside0.mk (hi);clear HK;clear HB;clear HI0;have HK := n0_;have HB := n1_;have HI0 := n2_;clear n0_ n1_ n2_;(try clear hb);(try clear hb2);(try clear hk);(try clear hi))|(go_at_call 49;(with_reducible refine (spec_l1Cur_pick.calls g s0_0 t189 t190 3 t191 t192 t193 w0 _ ?side1 ?side2 A14.out).mono ?_);(case side1 => repeat (first|(with_reducible first|exact HI0.out|apply IsS56.alloc|apply IsS56.drewN|apply IsS56.drew|apply IsS56.set_1|apply IsS56.set_2)|exact HI0.out));(case side2 => repeat (first|(with_reducible first|exact HB.out|apply lA|apply lN|apply lD|refine below_set ?_ (IsS56.ge HI0.out))|exact HB.out));rintro e w37 ⟨rfl,hi,hb,hk⟩;have n0_ := Aside0.mk (KeepBut.trans (by repeat (first|(with_reducible first|exact HK.out|apply KeepBut.set_|apply keep_drewN|apply keep_drew|apply keep_alloc)|exact HK.out)) hk (.inl rfl));have n1_ := Aside0.mk (hb);have n2_ := Aside0.mk (hi);clear HK;clear HB;clear HI0;have HK := n0_;have HB := n1_;have HI0 := n2_;clear n0_ n1_ n2_;(try clear hb);(try clear hb2);(try clear hk);(try clear hi))))
              go_ret
              exact ⟨by first|rfl|(simp [errW_none,errW_some] <;> rfl)|(simp only [← hsj11,← hji30,← hsj33];first|rfl|(simp [errW_none,errW_some] <;> rfl))|(simp [*,errW_none,errW_some] <;> rfl),by repeat (first|(with_reducible first|exact HI0.out|apply IsS56.alloc|apply IsS56.drewN|apply IsS56.drew|apply IsS56.set_1|apply IsS56.set_2)|exact HI0.out),by repeat (first|(with_reducible first|exact HB.out|apply lA|apply lN|apply lD|refine below_set ?_ (IsS56.ge HI0.out))|exact HB.out),by repeat (first|(with_reducible first|exact HK.out|apply KeepBut.set_|apply keep_drewN|apply keep_drew|apply keep_alloc)|exact HK.out)⟩
             ·rw [if_neg c34] at H
              exact absurd H (by simp)
            ·rw [if_neg c32] at H
             exact absurd H (by simp)
           ·rw [if_neg c31] at H
            exact absurd H (by simp)
          ·rw [if_neg c29] at H
           exact absurd H (by simp)
         ·rw [if_neg c28] at H
          exact absurd H (by simp)
        ·rw [if_neg c27] at H
         exact absurd H (by simp)
       ·rw [if_neg c26] at H
        have c26b0 : (t191 == 1) = false := beq_eq_false_iff_ne.mpr c26
        have c26b1 : (t191 != 1) = true := bne_iff_ne.mpr c26
        by_cases c38 : 0 ≤ t185
        ·rw [if_pos c38] at H
         have c38b0 := eq_true c38
         have c38b1 : decide (0 ≤ t185) = true := decide_eq_true c38
         clear c38
         by_cases c39 : t185 ≤ (a1.size : Int)
         ·rw [if_pos c39] at H
          have c39b0 := eq_true c39
          have c39b1 : decide (t185 ≤ (a1.size : Int)) = true := decide_eq_true c39
          clear c39
          obtain ⟨ji40,hji40⟩ : ∃ j_ : Int,(wrap64 (t185 + 1)) = j_ := ⟨_,rfl⟩
          (try rw [hji40] at hsj11)
          (try rw [hji40] at hsj18)
          (try rw [hji40] at hsj33)
          replace H : (if 0 ≤ (ji40) then (if (ji40) ≤ (a1.size : Int) then (if (a1.extract 0 (t185 : Int).toNat).size + (a1.extract ((ji40) : Int).toNat a1.size).size ≤ 9223372036854775807 then (some ((a1.extract 0 (t185 : Int).toNat) ++ (a1.extract ((ji40) : Int).toNat a1.size),t192,t193)) else (none)) else (none)) else (none)) = some (r1,r2,r3) := by first|(rw [hji40] at H;exact H)|(simp only [hji40] at H ⊢;exact H)
          (try rw [hji40] at A7)
          (try rw [hji40] at A8)
          (try rw [hji40] at A14)
          have hji40w : (IntKind.i64.wrap (t185 + 1)) = ji40 := (i64_w _).trans hji40
          by_cases c41 : 0 ≤ (ji40)
          ·rw [if_pos c41] at H
           have c41b0 := eq_true c41
           have c41b1 : decide (0 ≤ (ji40)) = true := decide_eq_true c41
           clear c41
           by_cases c42 : (ji40) ≤ (a1.size : Int)
           ·rw [if_pos c42] at H
            have c42b0 := eq_true c42
            have c42b1 : decide ((ji40) ≤ (a1.size : Int)) = true := decide_eq_true c42
            clear c42
            obtain ⟨sj43,hsj43⟩ : ∃ s_ : ByteArray,(a1.extract ((ji40) : Int).toNat a1.size) = s_ := ⟨_,rfl⟩
            replace H : (if (a1.extract 0 (t185 : Int).toNat).size + sj43.size ≤ 9223372036854775807 then (some ((a1.extract 0 (t185 : Int).toNat) ++ sj43,t192,t193)) else (none)) = some (r1,r2,r3) := by (have he_ : (a1.extract ((ji40) : Int).toNat a1.size) = sj43 := hsj43);first|(rw [he_] at H;exact H)|(simp only [he_] at H ⊢;exact H)
            (try rw [hsj43] at A7)
            (try rw [hsj43] at A8)
            (try rw [hsj43] at A14)
            by_cases c44 : (a1.extract 0 (t185 : Int).toNat).size + sj43.size ≤ 9223372036854775807
            ·rw [if_pos c44] at H
             have c44b0 := eq_true c44
             have c44b1 : decide ((a1.extract 0 (t185 : Int).toNat).size + sj43.size ≤ 9223372036854775807) = true := decide_eq_true c44
             try have c44b3 : (9223372036854775807 < min (t185 : Int).toNat a1.size + sj43.size) = False := eq_false (by have h_ := c44;simp only [ByteArray.size_append,ByteArray.size_extract] at h_;omega)
             try have c44b2 : (9223372036854775807 < (a1.extract 0 (t185 : Int).toNat).size + sj43.size) = False := eq_false (Nat.not_lt.2 c44)
             simp only [Option.some.injEq,Prod.mk.injEq] at H
             obtain ⟨rfl,rfl,rfl⟩ := H
             go_enter Tryd.func50,Tryd.ntmps50
             go_wp2_with (first|(go_at_call 49;(with_reducible refine (spec_l1Cur_pick.calls g s0_0 s0_1 s0_2 (a1.size : Int) t185 t186 t187 w0 _ ?side1 ?side2 A7.out).mono ?_);(case side1 => repeat (first|(with_reducible first|exact HI0.out|apply IsS56.alloc|apply IsS56.drewN|apply IsS56.drew|apply IsS56.set_1|apply IsS56.set_2)|exact HI0.out));(case side2 => repeat (first|(with_reducible first|exact HB.out|apply lA|apply lN|apply lD|refine below_set ?_ (IsS56.ge HI0.out))|exact HB.out));rintro e w45 ⟨rfl,hi,hb,hk⟩;have n0_ := Aside0.mk (KeepBut.trans (by repeat (first|(with_reducible first|exact HK.out|apply KeepBut.set_|apply keep_drewN|apply keep_drew|apply keep_alloc)|exact HK.out)) hk (.inl rfl));have n1_ := Aside0.mk (hb);have n2_ := Aside0.mk (hi);clear HK;clear HB;clear HI0;have HK := n0_;have HB := n1_;have HI0 := n2_;clear n0_ n1_ n2_;(try clear hb);(try clear hb2);(try clear hk);(try clear hi))|(go_at_call 49;(with_reducible refine (spec_l1Cur_pick.calls g s0_0 t186 t187 (a2.size : Int) t188 t189 t190 w0 _ ?side1 ?side2 A8.out).mono ?_);(case side1 => repeat (first|(with_reducible first|exact HI0.out|apply IsS56.alloc|apply IsS56.drewN|apply IsS56.drew|apply IsS56.set_1|apply IsS56.set_2)|exact HI0.out));(case side2 => repeat (first|(with_reducible first|exact HB.out|apply lA|apply lN|apply lD|refine below_set ?_ (IsS56.ge HI0.out))|exact HB.out));rintro e w46 ⟨rfl,hi,hb,hk⟩;have n0_ := Aside0.mk (KeepBut.trans (by repeat (first|(with_reducible first|exact HK.out|apply KeepBut.set_|apply keep_drewN|apply keep_drew|apply keep_alloc)|exact HK.out)) hk (.inl rfl));have n1_ := Aside0.mk (hb);have n2_ := Aside0.mk (hi);clear HK;clear HB;clear HI0;have HK := n0_;have HB := n1_;have HI0 := n2_;clear n0_ n1_ n2_;(try clear hb);(try clear hb2);(try clear hk);(try clear hi))|(go_at_call 49;(with_reducible refine (spec_l1Cur_pick.calls g s0_0 t189 t190 3 t191 t192 t193 w0 _ ?side1 ?side2 A14.out).mono ?_);(case side1 => repeat (first|(with_reducible first|exact HI0.out|apply IsS56.alloc|apply IsS56.drewN|apply IsS56.drew|apply IsS56.set_1|apply IsS56.set_2)|exact HI0.out));(case side2 => repeat (first|(with_reducible first|exact HB.out|apply lA|apply lN|apply lD|refine below_set ?_ (IsS56.ge HI0.out))|exact HB.out));rintro e w47 ⟨rfl,hi,hb,hk⟩;have n0_ := Aside0.mk (KeepBut.trans (by repeat (first|(with_reducible first|exact HK.out|apply KeepBut.set_|apply keep_drewN|apply keep_drew|apply keep_alloc)|exact HK.out)) hk (.inl rfl));have n1_ := Aside0.mk (hb);have n2_ := Aside0.mk (hi);clear HK;clear HB;clear HI0;have HK := n0_;have HB := n1_;have HI0 := n2_;clear n0_ n1_ n2_;(try clear hb);(try clear hb2);(try clear hk);(try clear hi)))
             repeat (go_quiet (first|(go_at_call 49;(with_reducible refine (spec_l1Cur_pick.calls g s0_0 s0_1 s0_2 (a1.size : Int) t185 t186 t187 w0 _ ?side1 ?side2 A7.out).mono ?_);(case side1 => repeat (first|(with_reducible first|exact HI0.out|apply IsS56.alloc|apply IsS56.drewN|apply IsS56.drew|apply IsS56.set_1|apply IsS56.set_2)|exact HI0.out));(case side2 => repeat (first|(with_reducible first|exact HB.out|apply lA|apply lN|apply lD|refine below_set ?_ (IsS56.ge HI0.out))|exact HB.out));rintro e w45 ⟨rfl,hi,hb,hk⟩;have n0_ := Aside0.mk (KeepBut.trans (by repeat (first|(with_reducible first|exact HK.out|apply KeepBut.set_|apply keep_drewN|apply keep_drew|apply keep_alloc)|exact HK.out)) hk (.inl rfl));have n1_ := Aside0.mk (hb);have n2_ := Aside0.mk (hi);clear HK;clear HB;clear HI0;have HK := n0_;have HB := n1_;have HI0 := n2_;clear n0_ n1_ n2_;(try clear hb);(try clear hb2);(try clear hk);(try clear hi))|(go_at_call 49;(with_reducible refine (spec_l1Cur_pick.calls g s0_0 t186 t187 (a2.size : Int) t188 t189 t190 w0 _ ?side1 ?side2 A8.out).mono ?_);(case side1 => repeat (first|(with_reducible first|exact HI0.out|apply IsS56.alloc|apply IsS56.drewN|apply IsS56.drew|apply IsS56.set_1|apply IsS56.set_2)|exact HI0.out));(case side2 => repeat (first|(with_reducible first|exact HB.out|apply lA|apply lN|apply lD|refine below_set ?_ (IsS56.ge HI0.out))|exact HB.out));rintro e w46 ⟨rfl,hi,hb,hk⟩;have n0_ := Aside0.mk (KeepBut.trans (by repeat (first|(with_reducible first|exact HK.out|apply KeepBut.set_|apply keep_drewN|apply keep_drew|apply keep_alloc)|exact HK.out)) hk (.inl rfl));have n1_ := Aside0.mk (hb);have n2_ := Aside0.mk (hi);clear HK;clear HB;clear HI0;have HK := n0_;have HB := n1_;have HI0 := n2_;clear n0_ n1_ n2_;(try clear hb);(try clear hb2);(try clear hk);(try clear hi))|(go_at_call 49;(with_reducible refine (spec_l1Cur_pick.calls g s0_0 t189 t190 3 t191 t192 t193 w0 _ ?side1 ?side2 A14.out).mono ?_);(case side1 => repeat (first|(with_reducible first|exact HI0.out|apply IsS56.alloc|apply IsS56.drewN|apply IsS56.drew|apply IsS56.set_1|apply IsS56.set_2)|exact HI0.out));(case side2 => repeat (first|(with_reducible first|exact HB.out|apply lA|apply lN|apply lD|refine below_set ?_ (IsS56.ge HI0.out))|exact HB.out));rintro e w47 ⟨rfl,hi,hb,hk⟩;have n0_ := Aside0.mk (KeepBut.trans (by repeat (first|(with_reducible first|exact HK.out|apply KeepBut.set_|apply keep_drewN|apply keep_drew|apply keep_alloc)|exact HK.out)) hk (.inl rfl));have n1_ := Aside0.mk (hb);have n2_ := Aside0.mk (hi);clear HK;clear HB;clear HI0;have HK := n0_;have HB := n1_;have HI0 := n2_;clear n0_ n1_ n2_;(try clear hb);(try clear hb2);(try clear hk);(try clear hi)));try go_wp2_with (first|(go_at_call 49;(with_reducible refine (spec_l1Cur_pick.calls g s0_0 s0_1 s0_2 (a1.size : Int) t185 t186 t187 w0 _ ?side1 ?side2 A7.out).mono ?_);(case side1 => repeat (first|(with_reducible first|exact HI0.out|apply IsS56.alloc|apply IsS56.drewN|apply IsS56.drew|apply IsS56.set_1|apply IsS56.set_2)|exact HI0.out));(case side2 => repeat (first|(with_reducible first|exact HB.out|apply lA|apply lN|apply lD|refine below_set ?_ (IsS56.ge HI0.out))|exact HB.out));rintro e w45 ⟨rfl,hi,hb,hk⟩;have n0_ := Aside0.mk (KeepBut.trans (by repeat (first|(with_reducible first|exact HK.out|apply KeepBut.set_|apply keep_drewN|apply keep_drew|apply keep_alloc)|exact HK.out)) hk (.inl rfl));have n1_ := Aside0.mk (hb);have n2_ := Aside0.mk (hi);clear HK;clear HB;clear HI0;have HK := n0_;have HB := n1_;have HI0 := n2_;clear n0_ n1_ n2_;(try clear hb);(try clear hb2);(try clear hk);(try clear hi))|(go_at_call 49;(with_reducible refine (spec_l1Cur_pick.calls g s0_0 t186 t187 (a2.size : Int) t188 t189 t190 w0 _ ?side1 ?side2 A8.out).mono ?_);(case side1 => repeat (first|(with_reducible first|exact HI0.out|apply IsS56.alloc|apply IsS56.drewN|apply IsS56.drew|apply IsS56.set_1|apply IsS56.set_2)|exact HI0.out));(case side2 => repeat (first|(with_reducible first|exact HB.out|apply lA|apply lN|apply lD|refine below_set ?_ (IsS56.ge HI0.out))|exact HB.out));rintro e w46 ⟨rfl,hi,hb,hk⟩;have n0_ := Aside0.mk (KeepBut.trans (by repeat (first|(with_reducible first|exact HK.out|apply KeepBut.set_|apply keep_drewN|apply keep_drew|apply keep_alloc)|exact HK.out)) hk (.inl rfl));have n1_ := Aside0.mk (hb);have n2_ := Aside0.mk (hi);clear HK;clear HB;clear HI0;have HK := n0_;have HB := n1_;have HI0 := n2_;clear n0_ n1_ n2_;(try clear hb);(try clear hb2);(try clear hk);(try clear hi))|(go_at_call 49;(with_reducible refine (spec_l1Cur_pick.calls g s0_0 t189 t190 3 t191 t192 t193 w0 _ ?side1 ?side2 A14.out).mono ?_);(case side1 => repeat (first|(with_reducible first|exact HI0.out|apply IsS56.alloc|apply IsS56.drewN|apply IsS56.drew|apply IsS56.set_1|apply IsS56.set_2)|exact HI0.out));(case side2 => repeat (first|(with_reducible first|exact HB.out|apply lA|apply lN|apply lD|refine below_set ?_ (IsS56.ge HI0.out))|exact HB.out));rintro e w47 ⟨rfl,hi,hb,hk⟩;have n0_ := Aside0.mk (KeepBut.trans (by repeat (first|(with_reducible first|exact HK.out|apply KeepBut.set_|apply keep_drewN|apply keep_drew|apply keep_alloc)|exact HK.out)) hk (.inl rfl));have n1_ := Aside0.mk (hb);have n2_ := Aside0.mk (hi);clear HK;clear HB;clear HI0;have HK := n0_;have HB := n1_;have HI0 := n2_;clear n0_ n1_ n2_;(try clear hb);(try clear hb2);(try clear hk);(try clear hi))))
             go_ret
             exact ⟨by first|rfl|(simp [errW_none,errW_some] <;> rfl)|(simp only [← hsj11,← hji40,← hsj43];first|rfl|(simp [errW_none,errW_some] <;> rfl))|(simp [*,errW_none,errW_some] <;> rfl),by repeat (first|(with_reducible first|exact HI0.out|apply IsS56.alloc|apply IsS56.drewN|apply IsS56.drew|apply IsS56.set_1|apply IsS56.set_2)|exact HI0.out),by repeat (first|(with_reducible first|exact HB.out|apply lA|apply lN|apply lD|refine below_set ?_ (IsS56.ge HI0.out))|exact HB.out),by repeat (first|(with_reducible first|exact HK.out|apply KeepBut.set_|apply keep_drewN|apply keep_drew|apply keep_alloc)|exact HK.out)⟩
            ·rw [if_neg c44] at H
             exact absurd H (by simp)
           ·rw [if_neg c42] at H
            exact absurd H (by simp)
          ·rw [if_neg c41] at H
           exact absurd H (by simp)
         ·rw [if_neg c39] at H
          exact absurd H (by simp)
        ·rw [if_neg c38] at H
         exact absurd H (by simp)
     ·rw [if_neg c13] at H
      exact absurd H (by simp)
    ·rw [if_neg c12] at H
     exact absurd H (by simp)
   ·rw [if_neg c10] at H
    exact absurd H (by simp)
  ·rw [if_neg c9] at H
   exact absurd H (by simp)
end Go.Proofs.YtpnjnlcjofaglaaDoor.P
