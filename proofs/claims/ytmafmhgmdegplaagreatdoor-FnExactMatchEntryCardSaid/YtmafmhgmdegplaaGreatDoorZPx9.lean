/- Written by a program in this session: each theorem here says that a Go function computes the Lean function beside it, or that a law's row holds, under the conditions that the theorem itself states. -/
import Derived.Test.YtmafmhgmdegplaaGreatDoorZPx0
namespace Go.Proofs.YtmafmhgmdegplaaGreatDoor.P
open Go.RowKit Go.Proofs.YtmafmhgmdegplaaGreatDoorW.PrintWords Go.Proofs.YtmafmhgmdegplaaGreatDoorW.PrintLast Go.Proofs.YtmafmhgmdegplaaGreatDoorW.PrintMore
attribute [local go_sem] max2_int min2_int max_two min_two max_three min_three max_four min_four   -- for this text's walks alone
set_option linter.unusedVariables false
set_option linter.unusedSimpArgs false
def spec_l1Num.f : Nat → Int → Option (ByteArray)
 | 0,_ => none
 | k + 1,a0 => if a0 < 0 then ((spec_l1Num.f k (wrap64 (-a0))).bind fun t193 => (if 1 + t193.size ≤ 9223372036854775807 then (some ((⟨#[45]⟩ : ByteArray) ++ t193)) else (none))) else (if a0 < 10 then (if 0 ≤ a0 then (if a0 ≤ (wrap64 (a0 + 1)) then (if (wrap64 (a0 + 1)) ≤ 10 then (some ((⟨#[48,49,50,51,52,53,54,55,56,57]⟩ : ByteArray).extract (a0 : Int).toNat ((wrap64 (a0 + 1)) : Int).toNat)) else (none)) else (none)) else (none)) else ((spec_l1Num.f k (wrap64 (Int.tdiv a0 10))).bind fun t194 => (if 0 ≤ (Int.tmod a0 10) then (if (Int.tmod a0 10) ≤ (wrap64 ((Int.tmod a0 10) + 1)) then (if (wrap64 ((Int.tmod a0 10) + 1)) ≤ 10 then (if t194.size + ((⟨#[48,49,50,51,52,53,54,55,56,57]⟩ : ByteArray).extract ((Int.tmod a0 10) : Int).toNat ((wrap64 ((Int.tmod a0 10) + 1)) : Int).toNat).size ≤ 9223372036854775807 then (some (t194 ++ ((⟨#[48,49,50,51,52,53,54,55,56,57]⟩ : ByteArray).extract ((Int.tmod a0 10) : Int).toNat ((wrap64 ((Int.tmod a0 10) + 1)) : Int).toNat))) else (none)) else (none)) else (none)) else (none))))
theorem spec_l1Num.mono_l : ∀ k,(∀ y0,LeO (spec_l1Num.f k y0) (spec_l1Num.f (k + 1) y0))
 | 0 => fun _ r h => by simp [spec_l1Num.f] at h
 | k + 1 => by
  have ih0 := spec_l1Num.mono_l k
  ·intro y0
   unfold spec_l1Num.f
   repeat' (first|with_reducible (first|exact ih0 _|exact LeO.refl _|exact LeO.none _|refine LeO.ite ?_ ?_|refine LeO.bind ?_ (fun _ => ?_))|exact LeO.none _|refine LeO.ite ?_ ?_|refine LeO.bind ?_ (fun _ => ?_))
theorem spec_l1Num.mono : ∀ a0 k,LeO (spec_l1Num.f k a0) (spec_l1Num.f (k + 1) a0) := by
 intro a0 k;have ih0 := spec_l1Num.mono_l k;exact ih0 a0
def spec_l1Num.T5 : Bool × List (List Nat × List Nat) := (true,[([],[]),([0],[0]),([1],[1]),([],[]),([3],[3]),([],[]),([5],[5]),([6],[6]),([4,7],[4,7]),([2,8],[2,8]),([9,2,0,1,2,3,4,5,6,7,8,9],[9])])
def spec_l1Num.B5 : List Nat := [0,1,3,0,8,0,32,96,248,511,1023]
theorem spec_l1Num.tab5 : rtab .any (opsOf Tryz.f142 5) = spec_l1Num.T5 := by kernel_rfl
theorem spec_l1Num.bits5 : waitsOk spec_l1Num.T5.2 spec_l1Num.B5 = true := by kernel_rfl
set_option maxHeartbeats 8000000 in
set_option maxRecDepth 100000 in
theorem spec_l1Num.calls (k : Nat) : ∀ (a0 : Int) (r : ByteArray) (w : World) (h : spec_l1Num.f k a0 = some r),
  Calls Tryz.prog 142 #[.int .i64 a0] w fun e w' => e = .returned (.string r) ∧ Below w.heap.size w w' := by
 induction k using Nat.strongRecOn with
 | _ k ih =>
 intro a0 r w h
 cases k with
 | zero => exact absurd h (by simp [spec_l1Num.f])
 | succ k =>
 simp only [spec_l1Num.f] at h;have HB := aM (Below.refl w.heap.size w);have H : (if a0 < 0 then ((spec_l1Num.f k (wrap64 (-a0))).bind fun t193 => (if 1 + t193.size ≤ 9223372036854775807 then (some ((⟨#[45]⟩ : ByteArray) ++ t193)) else (none))) else (if a0 < 10 then (if 0 ≤ a0 then (if a0 ≤ (wrap64 (a0 + 1)) then (if (wrap64 (a0 + 1)) ≤ 10 then (some ((⟨#[48,49,50,51,52,53,54,55,56,57]⟩ : ByteArray).extract (a0 : Int).toNat ((wrap64 (a0 + 1)) : Int).toNat)) else (none)) else (none)) else (none)) else ((spec_l1Num.f k (wrap64 (Int.tdiv a0 10))).bind fun t194 => (if 0 ≤ (Int.tmod a0 10) then (if (Int.tmod a0 10) ≤ (wrap64 ((Int.tmod a0 10) + 1)) then (if (wrap64 ((Int.tmod a0 10) + 1)) ≤ 10 then (if t194.size + ((⟨#[48,49,50,51,52,53,54,55,56,57]⟩ : ByteArray).extract ((Int.tmod a0 10) : Int).toNat ((wrap64 ((Int.tmod a0 10) + 1)) : Int).toNat).size ≤ 9223372036854775807 then (some (t194 ++ ((⟨#[48,49,50,51,52,53,54,55,56,57]⟩ : ByteArray).extract ((Int.tmod a0 10) : Int).toNat ((wrap64 ((Int.tmod a0 10) + 1)) : Int).toNat))) else (none)) else (none)) else (none)) else (none))))) = some r := h;clear h
 by_cases c2 : a0 < 0
 ·rw [if_pos c2] at H;have c2b0 : decide (a0 < 0) = true := dT c2;clear c2;obtain ⟨t193,A3,H⟩ := bE_ H
  by_cases c4 : 1 + t193.size ≤ 9223372036854775807
  ·rw [if_pos c4] at H;have c4b0 := eq_true c4;have c4b1 : decide (1 + t193.size ≤ 9223372036854775807) = true := dT c4;(try have c4b2 : (9223372036854775807 < 1 + t193.size) = False := eq_false (Nat.not_lt.2 c4));obtain rfl := Option.some.inj H;simp only [eS,eP] at H;obtain ⟨rfl⟩ := H;go_enter Tryz.func142,Tryz.ntmps142;go_wp2_with (first|((with_reducible refine gate_callee (f := 142) rfl ?_);refine gl_ (some 7) Tryz.func142 #[.int .i64 (wrap64 (-a0))] ?_;(with_reducible refine (ih k (by omega) (wrap64 (-a0)) t193 _ A3.out).mono ?_);rintro e w5 ⟨rfl,hb⟩;refine ⟨_,rfl,?_⟩;replace HB := aM (lT wB_ hb)));go_ret;exact ⟨vR_,wB_⟩
  ·rw [if_neg c4] at H;exact absurd H (by simp)
 ·rw [if_neg c2] at H;have c2b0 : decide (a0 < 0) = false := dF c2;clear c2
  by_cases c6 : a0 < 10
  ·rw [if_pos c6] at H;have c6b0 : decide (a0 < 10) = true := dT c6;clear c6
   by_cases c7 : 0 ≤ a0
   ·rw [if_pos c7] at H;have c7b0 := eq_true c7;have c7b1 : decide (0 ≤ a0) = true := dT c7;clear c7
    by_cases c8 : a0 ≤ (wrap64 (a0 + 1))
    ·rw [if_pos c8] at H;have c8b0 := eq_true c8;have c8b1 : decide (a0 ≤ (wrap64 (a0 + 1))) = true := dT c8
     by_cases c9 : (wrap64 (a0 + 1)) ≤ 10
     ·rw [if_pos c9] at H;have c9b0 := eq_true c9;have c9b1 : decide ((wrap64 (a0 + 1)) ≤ 10) = true := dT c9;obtain rfl := Option.some.inj H;simp only [eS,eP] at H;obtain ⟨rfl⟩ := H;go_enter Tryz.func142,Tryz.ntmps142;go_wp2;go_ret;exact ⟨vR_,wB_⟩
     ·rw [if_neg c9] at H;exact absurd H (by simp)
    ·rw [if_neg c8] at H;exact absurd H (by simp)
   ·rw [if_neg c7] at H;exact absurd H (by simp)
  ·rw [if_neg c6] at H;have c6b0 : decide (a0 < 10) = false := dF c6;clear c6;obtain ⟨t194,A10,H⟩ := bE_ H;obtain ⟨ji11,hji11⟩ : ∃ j_ : Int,(Int.tmod a0 10) = j_ := ⟨_,rfl⟩;replace H : (if 0 ≤ (ji11) then (if (ji11) ≤ (wrap64 ((ji11) + 1)) then (if (wrap64 ((ji11) + 1)) ≤ 10 then (if t194.size + ((⟨#[48,49,50,51,52,53,54,55,56,57]⟩ : ByteArray).extract ((ji11) : Int).toNat ((wrap64 ((ji11) + 1)) : Int).toNat).size ≤ 9223372036854775807 then (some (t194 ++ ((⟨#[48,49,50,51,52,53,54,55,56,57]⟩ : ByteArray).extract ((ji11) : Int).toNat ((wrap64 ((ji11) + 1)) : Int).toNat))) else (none)) else (none)) else (none)) else (none)) = some r := (by first|(rw [hji11] at H;exact H)|(simp only [hji11] at H ⊢;exact H));(try rw [hji11] at A10)
   by_cases c12 : 0 ≤ (ji11)
   ·rw [if_pos c12] at H;have c12b0 := eq_true c12;have c12b1 : decide (0 ≤ (ji11)) = true := dT c12;clear c12
    by_cases c13 : (ji11) ≤ (wrap64 ((ji11) + 1))
    ·rw [if_pos c13] at H;have c13b0 := eq_true c13;have c13b1 : decide ((ji11) ≤ (wrap64 ((ji11) + 1))) = true := dT c13
     by_cases c14 : (wrap64 ((ji11) + 1)) ≤ 10
     ·rw [if_pos c14] at H;have c14b0 := eq_true c14;have c14b1 : decide ((wrap64 ((ji11) + 1)) ≤ 10) = true := dT c14
      by_cases c15 : t194.size + ((⟨#[48,49,50,51,52,53,54,55,56,57]⟩ : ByteArray).extract ((ji11) : Int).toNat ((wrap64 ((ji11) + 1)) : Int).toNat).size ≤ 9223372036854775807
      ·rw [if_pos c15] at H;have c15b0 := eq_true c15;have c15b1 : decide (t194.size + ((⟨#[48,49,50,51,52,53,54,55,56,57]⟩ : ByteArray).extract ((ji11) : Int).toNat ((wrap64 ((ji11) + 1)) : Int).toNat).size ≤ 9223372036854775807) = true := dT c15;(try have c15b3 : (9223372036854775807 < t194.size + ((((wrap64 ((ji11) + 1)) : Int).toNat - ((ji11) : Int).toNat))) = False := eq_false (by have h_ := c15;simp only [ByteArray.size_append,ByteArray.size_extract] at h_;have hs0_ : (⟨#[48,49,50,51,52,53,54,55,56,57]⟩ : ByteArray).size = 10 := rfl;omega));(try have c15b2 : (9223372036854775807 < t194.size + ((⟨#[48,49,50,51,52,53,54,55,56,57]⟩ : ByteArray).extract ((ji11) : Int).toNat ((wrap64 ((ji11) + 1)) : Int).toNat).size) = False := eq_false (Nat.not_lt.2 c15));obtain rfl := Option.some.inj H;simp only [eS,eP] at H;obtain ⟨rfl⟩ := H;go_enter Tryz.func142,Tryz.ntmps142;(try go_wp2);replace HB := aM (lD HB.out);refine start_ (n := 11) (S := fun w' => True) (ds := []) (mk_ 11 0) (by kernel_rfl) rfl (by kernel_rfl) trivial (fun hHeld => ?_);refine with_tabW spec_l1Num.tab5 spec_l1Num.bits5 (fun HT_ HW_ => ?_);generalize w.drew = w16 at HB hHeld ⊢;refine pure_ (i := 0) (N := some 15) (v := ?_) (a' := ?_) (mk_ 11 1) rfl rfl (any_of HT_.out (by kernel_rfl)) (fun _ _ _ h => h) (Or.inl ⟨by rfl,?_⟩) ?_ ?_;rotate_left;intro w';go_simp;(with_reducible rfl);rotate_left;simp only [Act.put,lI,sZ,sS,i64_w,i32_w];rfl;refine pure_ (i := 1) (N := some 16) (v := ?_) (a' := ?_) (mk_ 11 3) rfl rfl (any_of HT_.out (by kernel_rfl)) (fun _ _ _ h => h) (Or.inl ⟨by rfl,?_⟩) ?_ ?_;rotate_left;intro w';go_simp;(with_reducible rfl);rotate_left;simp only [Act.put,lI,sZ,sS,i64_w,i32_w];rfl;refine pure_ (i := 3) (N := some 18) (v := ?_) (a' := ?_) (mk_ 11 11) rfl rfl (any_of HT_.out (by kernel_rfl)) (fun _ _ _ h => h) (Or.inl ⟨by rfl,?_⟩) ?_ ?_;rotate_left;intro w';go_simp;(with_reducible rfl);rotate_left;simp only [Act.put,lI,sZ,sS,i64_w,i32_w];rfl;refine pure_ (i := 4) (N := some 19) (v := ?_) (a' := ?_) (mk_ 11 27) rfl rfl (any_of HT_.out (by kernel_rfl)) (fun _ _ _ h => h) (Or.inl ⟨by rfl,?_⟩) ?_ ?_;rotate_left;intro w';go_simp;(with_reducible rfl);rotate_left;simp only [Act.put,lI,sZ,sS,i64_w,i32_w];rfl;refine pure_ (i := 5) (N := some 20) (v := ?_) (a' := ?_) (mk_ 11 59) rfl rfl (any_of HT_.out (by kernel_rfl)) (fun _ _ _ h => h) (Or.inl ⟨by rfl,?_⟩) ?_ ?_;rotate_left;intro w';go_simp;(with_reducible rfl);rotate_left;simp only [Act.put,lI,sZ,sS,i64_w,i32_w];rfl;refine pure_ (i := 6) (N := some 21) (v := ?_) (a' := ?_) (mk_ 11 123) rfl rfl (any_of HT_.out (by kernel_rfl)) (fun _ _ _ h => h) (Or.inl ⟨by rfl,?_⟩) ?_ ?_;rotate_left;intro w';go_simp;(with_reducible rfl);rotate_left;simp only [Act.put,lI,sZ,sS,i64_w,i32_w];rfl;refine pure_ (i := 7) (N := some 22) (v := ?_) (a' := ?_) (mk_ 11 251) rfl rfl (any_of HT_.out (by kernel_rfl)) (fun _ _ _ h => h) (Or.inl ⟨by rfl,?_⟩) ?_ ?_;rotate_left;intro w';go_simp;(with_reducible rfl);rotate_left;simp only [Act.put,lI,sZ,sS,i64_w,i32_w];rfl;refine pure_ (i := 8) (N := some 23) (v := ?_) (a' := ?_) (mk_ 11 507) rfl rfl (any_of HT_.out (by kernel_rfl)) (fun _ _ _ h => h) (Or.inl ⟨by rfl,?_⟩) ?_ ?_;rotate_left;intro w';go_simp;(with_reducible rfl);rotate_left;simp only [Act.put,lI,sZ,sS,i64_w,i32_w];rfl;refine one_ (i := 2) (N := some 17) (mk_ 11 511) rfl rfl (one_of HT_.out (by kernel_rfl)) (by decide) (fun K hK => ?_);refine gs_ Tryz.func142 #[.int .i64 (wrap64 (Int.tdiv a0 10))] ?_;(with_reducible refine (ih k (by omega) (wrap64 (Int.tdiv a0 10)) t194 _ A10.out).mono ?_);rintro e w17 ⟨rfl,hb⟩;refine ⟨_,rfl,?_⟩;replace HB := aM (lT wB_ hb);refine hK.out _ _ trivial (fun hHeld => ?_);clear hK K;refine norm_ (a' := ?_) ?_ ?_;rotate_left;show Act.put _ (some 17) _ = _;simp only [Act.put,lI,sZ,sS,i64_w,i32_w];rfl;refine pure_ (i := 9) (N := some 24) (v := ?_) (a' := ?_) (mk_ 11 1023) rfl rfl (any_of HT_.out (by kernel_rfl)) (fun _ _ _ h => h) (Or.inl ⟨by rfl,?_⟩) ?_ ?_;rotate_left;intro w';go_simp;(with_reducible rfl);rotate_left;simp only [Act.put,lI,sZ,sS,i64_w,i32_w];rfl;refine pure_ (i := 10) (N := some 2) (v := ?_) (a' := ?_) (mk_ 11 2047) rfl rfl (any_of HT_.out (by kernel_rfl)) (fun _ _ _ h => h) (Or.inl ⟨by rfl,?_⟩) ?_ ?_;rotate_left;intro w';go_simp;(with_reducible rfl);rotate_left;simp only [Act.put,lI,sZ,sS,i64_w,i32_w];rfl;refine done_ (done_of HT_.out (by kernel_rfl)) ?_;(try go_wp2);go_ret;exact ⟨by first|rfl|(simp [errW_none,errW_some] <;> rfl)|(simp only [← hji11];first|rfl|(simp [errW_none,errW_some] <;> rfl))|(simp [*,errW_none,errW_some] <;> rfl),wB_⟩
      ·rw [if_neg c15] at H;exact absurd H (by simp)
     ·rw [if_neg c14] at H;exact absurd H (by simp)
    ·rw [if_neg c13] at H;exact absurd H (by simp)
   ·rw [if_neg c12] at H;exact absurd H (by simp)
def spec_l2Join.l0 : Nat → List ByteArray → ByteArray → Int → Option (ByteArray)
 | 0,_,_,_ => none
 | k + 1,x0,x3,x4 => if x4 < (x0.length : Int) then (if x3.toList = ([] : List UInt8) then (if 0 ≤ x4 then (if x3.size + (rdOf ByteArray.empty x0 x4).size ≤ 9223372036854775807 then (spec_l2Join.l0 k x0 (x3 ++ (rdOf ByteArray.empty x0 x4)) (wrap64 (x4 + 1))) else (none)) else (none)) else (if 0 ≤ x4 then (if (rdOf ByteArray.empty x0 x4).toList = ([] : List UInt8) then (if x3.size + (rdOf ByteArray.empty x0 x4).size ≤ 9223372036854775807 then (spec_l2Join.l0 k x0 (x3 ++ (rdOf ByteArray.empty x0 x4)) (wrap64 (x4 + 1))) else (none)) else (if x3.size + 1 ≤ 9223372036854775807 then (if (x3 ++ (⟨#[32]⟩ : ByteArray)).size + (rdOf ByteArray.empty x0 x4).size ≤ 9223372036854775807 then (spec_l2Join.l0 k x0 ((x3 ++ (⟨#[32]⟩ : ByteArray)) ++ (rdOf ByteArray.empty x0 x4)) (wrap64 (x4 + 1))) else (none)) else (none))) else (none))) else (some x3)
def spec_l2Join.f (k : Nat) (l0 : List ByteArray) : Option (ByteArray) := spec_l2Join.l0 k l0 (⟨#[]⟩ : ByteArray) 0
theorem spec_l2Join.mono_l : ∀ k,(∀ y0 y1 y2,LeO (spec_l2Join.l0 k y0 y1 y2) (spec_l2Join.l0 (k + 1) y0 y1 y2))
 | 0 => fun _ _ _ r h => by simp [spec_l2Join.l0] at h
 | k + 1 => by
  have ih0 := spec_l2Join.mono_l k
  ·intro y0 y1 y2
   unfold spec_l2Join.l0
   repeat' (first|with_reducible (first|exact ih0 _ _ _|exact LeO.refl _|exact LeO.none _|refine LeO.ite ?_ ?_|refine LeO.bind ?_ (fun _ => ?_))|exact LeO.none _|refine LeO.ite ?_ ?_|refine LeO.bind ?_ (fun _ => ?_))
theorem spec_l2Join.mono : ∀ a0 k,LeO (spec_l2Join.f k a0) (spec_l2Join.f (k + 1) a0) := by
 intro a0 k
 have ih0 := spec_l2Join.mono_l k
 unfold spec_l2Join.f
 repeat' (first|with_reducible (first|exact ih0 _ _ _|exact LeO.refl _|exact LeO.none _|refine LeO.ite ?_ ?_|refine LeO.bind ?_ (fun _ => ?_))|exact LeO.none _|refine LeO.ite ?_ ?_|refine LeO.bind ?_ (fun _ => ?_))
set_option maxHeartbeats 8000000 in
set_option maxRecDepth 100000 in
theorem spec_l2Join.calls (k : Nat) (A0 : Option Addr) (c0 : Nat) (l0 : List ByteArray) (r : ByteArray) (w : World) (hr0 : Kd.C Kd.string w A0 l0.length l0) (hc0 : l0.length ≤ c0) (h : spec_l2Join.f k l0 = some r) :
  Calls Tryz.prog 255 #[.slice A0 l0.length c0] w fun e w' => e = .returned (.string r) ∧ Drawn0 w w' := by
 have HR0 := aM hr0;have HC0 := aM hc0;clear hr0 hc0;have H : (spec_l2Join.l0 k l0 (⟨#[]⟩ : ByteArray) 0) = some r := h;clear h;have H' := aM H;clear H;go_enter Tryz.func255,Tryz.ntmps255;go_wp2;go_loopg [3,4] k (fun kq v3 v4 w' => ∃ (x3_1 : ByteArray) (x4_1 : Int),v3 = .string x3_1 ∧ v4 = .int .i64 x4_1 ∧ Aside0 (spec_l2Join.l0 kq l0 x3_1 x4_1 = some r) ∧ Aside0 (kq ≤ k) ∧ Drawn0 w w')
 case atStart => exact ⟨((⟨#[]⟩ : ByteArray)),(0),vR_,vR_,H',⟨Nat.le_refl _⟩,dw_⟩
 case round =>
  clear H';obtain ⟨x3_1,x4_1,rfl,rfl,HA,HK1,⟨m1,rfl⟩⟩ := hrel
  cases gk with
  | zero => exact absurd HA.out (by simp [spec_l2Join.l0])
  | succ k1 =>
   have H := HA.out;clear HA;simp only [spec_l2Join.l0] at H
   by_cases c2 : x4_1 < (l0.length : Int)
   focus
    rw [if_pos c2] at H;have c2b0 : decide (x4_1 < (l0.length : Int)) = true := dT c2;clear c2
    by_cases c3 : x3_1.toList = ([] : List UInt8)
    focus
     rw [if_pos c3] at H;have c3b0 : (x3_1.toList == ([] : List UInt8)) = true := beq_iff_eq.mpr c3;have c3b1 : (x3_1.toList != ([] : List UInt8)) = false := bne_eq_false_iff_eq.mpr c3;clear c3
     by_cases c4 : 0 ≤ x4_1
     rotate_left;rw [if_neg c4] at H;exact absurd H (by simp);rw [if_pos c4] at H;have c4b0 : decide (0 ≤ x4_1) = true := dT c4;clear c4
     by_cases c5 : x3_1.size + (rdOf ByteArray.empty l0 x4_1).size ≤ 9223372036854775807
     rotate_left;rw [if_neg c5] at H;exact absurd H (by simp);rw [if_pos c5] at H;have c5b0 := eq_true c5;have c5b1 : decide (x3_1.size + (rdOf ByteArray.empty l0 x4_1).size ≤ 9223372036854775807) = true := dT c5;(try have c5b2 : (9223372036854775807 < x3_1.size + (rdOf ByteArray.empty l0 x4_1).size) = False := eq_false (Nat.not_lt.2 c5));have H' := aM H;clear H
    rotate_left
    focus
     rw [if_neg c3] at H;have c3b0 : (x3_1.toList == ([] : List UInt8)) = false := beq_eq_false_iff_ne.mpr c3;have c3b1 : (x3_1.toList != ([] : List UInt8)) = true := bne_iff_ne.mpr c3
     by_cases c6 : 0 ≤ x4_1
     rotate_left;rw [if_neg c6] at H;exact absurd H (by simp);rw [if_pos c6] at H;have c6b0 : decide (0 ≤ x4_1) = true := dT c6;clear c6
     by_cases c7 : (rdOf ByteArray.empty l0 x4_1).toList = ([] : List UInt8)
     focus
      rw [if_pos c7] at H;have c7b0 : ((rdOf ByteArray.empty l0 x4_1).toList == ([] : List UInt8)) = true := beq_iff_eq.mpr c7;have c7b1 : ((rdOf ByteArray.empty l0 x4_1).toList != ([] : List UInt8)) = false := bne_eq_false_iff_eq.mpr c7;clear c7
      by_cases c8 : x3_1.size + (rdOf ByteArray.empty l0 x4_1).size ≤ 9223372036854775807
      rotate_left;rw [if_neg c8] at H;exact absurd H (by simp);rw [if_pos c8] at H;have c8b0 := eq_true c8;have c8b1 : decide (x3_1.size + (rdOf ByteArray.empty l0 x4_1).size ≤ 9223372036854775807) = true := dT c8;(try have c8b2 : (9223372036854775807 < x3_1.size + (rdOf ByteArray.empty l0 x4_1).size) = False := eq_false (Nat.not_lt.2 c8));have H' := aM H;clear H
     rotate_left
     focus
      rw [if_neg c7] at H;have c7b0 : ((rdOf ByteArray.empty l0 x4_1).toList == ([] : List UInt8)) = false := beq_eq_false_iff_ne.mpr c7;have c7b1 : ((rdOf ByteArray.empty l0 x4_1).toList != ([] : List UInt8)) = true := bne_iff_ne.mpr c7
      by_cases c9 : x3_1.size + 1 ≤ 9223372036854775807
      rotate_left;rw [if_neg c9] at H;exact absurd H (by simp);rw [if_pos c9] at H;have c9b0 := eq_true c9;have c9b1 : decide (x3_1.size + 1 ≤ 9223372036854775807) = true := dT c9;(try have c9b2 : (9223372036854775807 < x3_1.size + 1) = False := eq_false (Nat.not_lt.2 c9))
      by_cases c10 : (x3_1 ++ (⟨#[32]⟩ : ByteArray)).size + (rdOf ByteArray.empty l0 x4_1).size ≤ 9223372036854775807
      rotate_left;rw [if_neg c10] at H;exact absurd H (by simp);rw [if_pos c10] at H;have c10b0 := eq_true c10;have c10b1 : decide ((x3_1 ++ (⟨#[32]⟩ : ByteArray)).size + (rdOf ByteArray.empty l0 x4_1).size ≤ 9223372036854775807) = true := dT c10;(try have c10b3 : (9223372036854775807 < x3_1.size + 1 + (rdOf ByteArray.empty l0 x4_1).size) = False := eq_false (by have h_ := c10;simp only [ByteArray.size_append,ByteArray.size_extract] at h_;have hs0_ : (⟨#[32]⟩ : ByteArray).size = 1 := rfl;omega));(try have c10b2 : (9223372036854775807 < (x3_1 ++ (⟨#[32]⟩ : ByteArray)).size + (rdOf ByteArray.empty l0 x4_1).size) = False := eq_false (Nat.not_lt.2 c10));have H' := aM H;clear H
   rotate_left 3
   focus
    rw [if_neg c2] at H;have c2b0 : decide (x4_1 < (l0.length : Int)) = false := dF c2;clear c2;obtain rfl := Option.some.inj H;simp only [eS,eP] at H;obtain ⟨rfl⟩ := H
   all_goals
    (try (have p01 : 0 ≤ (x4_1 : Int) := oD (by assumption);have q01 : x4_1 < (l0.length : Int) := oD (by assumption);obtain ⟨ad01,e01,hx01_0⟩ := Kd.at_string HR0.out x4_1 p01 q01;cases e01;replace p01 := eq_true p01;replace q01 := eq_true q01));(try (have p02 : 0 ≤ (x4_1 : Int) := oD (by assumption);have q02 : x4_1 < (l0.length : Int) := oD (by assumption);obtain ⟨ad02,e02,hx02_0⟩ := Kd.at_string HR0.out x4_1 p02 q02;obtain rfl : ad01 = ad02 := (by injection e02);replace p02 := eq_true p02;replace q02 := eq_true q02));go_wp2
    first
     |
      go_ret;exact ⟨vR_,dw_⟩
     |
      go_roundg k1
      case measure => have := HK1.out;omega
      case rel => first|(exact ⟨(x3_1 ++ (rdOf ByteArray.empty l0 x4_1)),(wrap64 (x4_1 + 1)),vR_,vR_,H',⟨by have := HK1.out;omega⟩,dw_⟩)|(exact ⟨((x3_1 ++ (⟨#[32]⟩ : ByteArray)) ++ (rdOf ByteArray.empty l0 x4_1)),(wrap64 (x4_1 + 1)),vR_,vR_,H',⟨by have := HK1.out;omega⟩,dw_⟩)
def spec_l2Given.f (k : Nat) (l0_0 : List ByteArray) (a0_1 : ByteArray) (a0_2 : ByteArray) (a0_3 : ByteArray) : Option (ByteArray) := (spec_l2Join.f k l0_0).bind fun t200 => (some t200)
theorem spec_l2Given.mono : ∀ a0 a1 a2 a3 k,LeO (spec_l2Given.f k a0 a1 a2 a3) (spec_l2Given.f (k + 1) a0 a1 a2 a3) := by
 intro a0 a1 a2 a3 k
 unfold spec_l2Given.f
 repeat' (first|with_reducible (first|exact spec_l2Join.mono _ _|exact LeO.refl _|exact LeO.none _|refine LeO.ite ?_ ?_|refine LeO.bind ?_ (fun _ => ?_))|exact LeO.none _|refine LeO.ite ?_ ?_|refine LeO.bind ?_ (fun _ => ?_))
set_option maxHeartbeats 8000000 in
set_option maxRecDepth 100000 in
theorem spec_l2Given.calls (k : Nat) (A0_0 : Option Addr) (c0_0 : Nat) (l0_0 : List ByteArray) (a0_1 : ByteArray) (a0_2 : ByteArray) (a0_3 : ByteArray) (r : ByteArray) (w : World) (hr0_0 : Kd.C Kd.string w A0_0 l0_0.length l0_0) (hc0_0 : l0_0.length ≤ c0_0) (h : spec_l2Given.f k l0_0 a0_1 a0_2 a0_3 = some r) :
  Calls Tryz.prog 256 #[.agg #[.slice A0_0 l0_0.length c0_0,.string a0_1,.string a0_2,.string a0_3]] w fun e w' => e = .returned (.string r) ∧ Below w.heap.size w w' := by
 have hu157 := Tryz.underlying157;have HR0_0 := aM hr0_0;have HC0_0 := aM hc0_0;clear hr0_0 hc0_0;have HB := aM (Below.refl w.heap.size w);have H : ((spec_l2Join.f k l0_0).bind fun t200 => (some t200)) = some r := h;clear h;obtain ⟨t200,A2,H⟩ := bE_ H;obtain rfl := Option.some.inj H;simp only [eS,eP] at H;obtain ⟨rfl⟩ := H;go_enter Tryz.func256,Tryz.ntmps256;go_wp2_with (first|((with_reducible refine gate_dst (N := 1) rfl ?_);refine bx_ (N := 1) (cs := #[.slice A0_0 l0_0.length c0_0,.string a0_1,.string a0_2,.string a0_3]) (t := 157) ?_;intro gb199 hg w3 hbox hb;have BK199 := aM (hbox);have GW199 := aM ((by rw [hg];exact (lZ wB_) : w.heap.size ≤ gb199));have GE199 := GW199;replace HB := aM (lT wB_ hb);clear hb hbox hg;obtain ⟨hcz4_0,hcz4_1,hcz4_2,hcz4_3,hfz4_0,hfz4_1,hfz4_2,hfz4_3⟩ := z4_ BK199.out)|((with_reducible refine gate_callee (f := 255) rfl ?_);refine gl_ (some 5) Tryz.func255 #[.slice A0_0 l0_0.length c0_0] ?_;(with_reducible refine (spec_l2Join.calls k _ _ l0_0 t200 _ ?side1 ?side2 A2.out).mono ?_);(case side1 => exact wX_ HR0_0.out);(case side2 => exact HC0_0.out);rintro e w' ⟨rfl,⟨nd,rfl⟩⟩;refine ⟨_,rfl,?_⟩));go_ret;exact ⟨vR_,wB_⟩
def spec_l2Inverse.j0 : Nat → ByteArray → Bool → List ByteArray → ByteArray → ByteArray → ByteArray → Option (ByteArray)
 | 0,_,_,_,_,_,_ => none
 | k + 1,x3,x18,x202000,x202001,x202002,x202003 => if x18 = true then (if x3.size + 2 ≤ 9223372036854775807 then ((spec_l2Given.f k x202000 x202001 x202002 x202003).bind fun t206 => (if (x3 ++ (⟨#[44,32]⟩ : ByteArray)).size + t206.size ≤ 9223372036854775807 then (if x202003.toList = ([] : List UInt8) then (some ((x3 ++ (⟨#[44,32]⟩ : ByteArray)) ++ t206)) else (if ((x3 ++ (⟨#[44,32]⟩ : ByteArray)) ++ t206).size + 2 ≤ 9223372036854775807 then (if (((x3 ++ (⟨#[44,32]⟩ : ByteArray)) ++ t206) ++ (⟨#[44,32]⟩ : ByteArray)).size + x202003.size ≤ 9223372036854775807 then (some ((((x3 ++ (⟨#[44,32]⟩ : ByteArray)) ++ t206) ++ (⟨#[44,32]⟩ : ByteArray)) ++ x202003)) else (none)) else (none))) else (none))) else (none)) else (if x202003.toList = ([] : List UInt8) then (some x3) else (if x3.size + 2 ≤ 9223372036854775807 then (if (x3 ++ (⟨#[44,32]⟩ : ByteArray)).size + x202003.size ≤ 9223372036854775807 then (some ((x3 ++ (⟨#[44,32]⟩ : ByteArray)) ++ x202003)) else (none)) else (none)))
def spec_l2Inverse.f (k : Nat) (l0_0 : List ByteArray) (a0_1 : ByteArray) (a0_2 : ByteArray) (a0_3 : ByteArray) : Option (ByteArray) := (spec_l2Join.f k (([a0_1,a0_2] : List ByteArray))).bind fun t205 => (if (l0_0.length : Int) > 0 then (spec_l2Inverse.j0 k t205 true l0_0 a0_1 a0_2 a0_3) else (spec_l2Inverse.j0 k t205 (a0_3.toList != ([] : List UInt8)) l0_0 a0_1 a0_2 a0_3))
theorem spec_l2Inverse.mono_l : ∀ k,(∀ y0 y1 y2 y3 y4 y5,LeO (spec_l2Inverse.j0 k y0 y1 y2 y3 y4 y5) (spec_l2Inverse.j0 (k + 1) y0 y1 y2 y3 y4 y5))
 | 0 => fun _ _ _ _ _ _ r h => by simp [spec_l2Inverse.j0] at h
 | k + 1 => by
  have ih0 := spec_l2Inverse.mono_l k
  ·intro y0 y1 y2 y3 y4 y5
   unfold spec_l2Inverse.j0
   repeat' (first|with_reducible (first|exact ih0 _ _ _ _ _ _|exact spec_l2Given.mono _ _ _ _ _|exact spec_l2Join.mono _ _|exact LeO.refl _|exact LeO.none _|refine LeO.ite ?_ ?_|refine LeO.bind ?_ (fun _ => ?_))|exact LeO.none _|refine LeO.ite ?_ ?_|refine LeO.bind ?_ (fun _ => ?_))
theorem spec_l2Inverse.mono : ∀ a0 a1 a2 a3 k,LeO (spec_l2Inverse.f k a0 a1 a2 a3) (spec_l2Inverse.f (k + 1) a0 a1 a2 a3) := by
 intro a0 a1 a2 a3 k
 have ih0 := spec_l2Inverse.mono_l k
 unfold spec_l2Inverse.f
 repeat' (first|with_reducible (first|exact ih0 _ _ _ _ _ _|exact spec_l2Given.mono _ _ _ _ _|exact spec_l2Join.mono _ _|exact LeO.refl _|exact LeO.none _|refine LeO.ite ?_ ?_|refine LeO.bind ?_ (fun _ => ?_))|exact LeO.none _|refine LeO.ite ?_ ?_|refine LeO.bind ?_ (fun _ => ?_))
set_option maxHeartbeats 8000000 in
set_option maxRecDepth 100000 in
theorem spec_l2Inverse.calls (k : Nat) (A0_0 : Option Addr) (c0_0 : Nat) (l0_0 : List ByteArray) (a0_1 : ByteArray) (a0_2 : ByteArray) (a0_3 : ByteArray) (r : ByteArray) (w : World) (hr0_0 : Kd.C Kd.string w A0_0 l0_0.length l0_0) (hc0_0 : l0_0.length ≤ c0_0) (h : spec_l2Inverse.f k l0_0 a0_1 a0_2 a0_3 = some r) :
  Calls Tryz.prog 226 #[.agg #[.slice A0_0 l0_0.length c0_0,.string a0_1,.string a0_2,.string a0_3]] w fun e w' => e = .returned (.string r) ∧ Below w.heap.size w w' := by
 have hu157 := Tryz.underlying157;have HR0_0 := aM hr0_0;have HC0_0 := aM hc0_0;clear hr0_0 hc0_0;have HB := aM (Below.refl w.heap.size w);have H : ((spec_l2Join.f k (([a0_1,a0_2] : List ByteArray))).bind fun t205 => (if (l0_0.length : Int) > 0 then (spec_l2Inverse.j0 k t205 true l0_0 a0_1 a0_2 a0_3) else (spec_l2Inverse.j0 k t205 (a0_3.toList != ([] : List UInt8)) l0_0 a0_1 a0_2 a0_3))) = some r := h;clear h;obtain ⟨y202,hy202⟩ : ∃ y_ : List ByteArray,y_ = (([a0_1,a0_2] : List ByteArray)) := ⟨_,rfl⟩;replace H : ((spec_l2Join.f k y202).bind fun t205 => (if (l0_0.length : Int) > 0 then (spec_l2Inverse.j0 k t205 true l0_0 a0_1 a0_2 a0_3) else (spec_l2Inverse.j0 k t205 (a0_3.toList != ([] : List UInt8)) l0_0 a0_1 a0_2 a0_3))) = some r := (by first|(rw [hy202];with_reducible exact H)|(have H2_ := (Option.bind_some _ _).symm.trans H;rw [hy202];with_reducible exact H2_)|(have H2_ := (Option.bind_some _ _).symm.trans H;with_reducible exact H2_)|with_reducible exact H|(rw [hy202];exact H)|exact H);have Ny202 := aM hy202;clear hy202;obtain ⟨t205,A2,H⟩ := bE_ H;have HC3 := aM H;clear H;go_enter Tryz.func226,Tryz.ntmps226;go_upto_region 2 with (first|((with_reducible refine gate_dst (N := 1) rfl ?_);refine bx_ (N := 1) (cs := #[.slice A0_0 l0_0.length c0_0,.string a0_1,.string a0_2,.string a0_3]) (t := 157) ?_;intro gb201 hg w4 hbox hb;have BK201 := aM (hbox);have GW201 := aM ((by rw [hg];exact (lZ wB_) : w.heap.size ≤ gb201));have GE201 := GW201;replace HB := aM (lT wB_ hb);clear hb hbox hg;obtain ⟨hcz5_0,hcz5_1,hcz5_2,hcz5_3,hfz5_0,hfz5_1,hfz5_2,hfz5_3⟩ := z4_ BK201.out)|((with_reducible refine gate_dst (N := 8) rfl ?_);refine Kd.R_lit Kd.string _ 9 ?hg (N := 8) ?hd (xs := ([a0_1,a0_2] : List ByteArray)) (inner := [.string a0_1,.string a0_2]) (ok := fun _ => True) (okp := fun _ => True) ?hr ?hp (fun _ hk => hk) trivial (Below.refl _ _) (Nat.le_refl _) (by simp) ?_;(case hd => rfl);(case hg => rfl);(case hr => first|(go_simp;done)|(go_simp;rfl));(case hp => exact (Reps.one (show Kd.M Kd.string _ _ _ a0_1 [.string a0_1] from rfl) (Reps.one (show Kd.M Kd.string _ _ _ a0_2 [.string a0_2] from rfl) (Reps.none _ _))));intro v203 w6 ho7 hb hg_ hnew_;clear hg_ hnew_;(first|rw [← Ny202.out] at ho7|(simp only [Int.reduceToNat] at ho7;rw [← Ny202.out] at ho7));have HO204 := aM (Kd.R_lower ho7 (lZ wB_));replace BK201 := aM (bw_ BK201.out hb);replace HB := aM (lT wB_ hb);clear hb ho7;obtain ⟨Ao8,co8,eo8⟩ := Kd.R_slice HO204.out;subst eo8)|((with_reducible refine gate_callee (f := 255) rfl ?_);refine gl_ (some 9) Tryz.func255 #[.slice Ao8 y202.length co8] ?_;(with_reducible refine (spec_l2Join.calls k _ _ y202 t205 _ ?side1 ?side2 A2.out).mono ?_);(case side1 => exact wY_ (rR HO204.out).2.2);(case side2 => exact (rR HO204.out).2.1);rintro e w' ⟨rfl,⟨nd,rfl⟩⟩;refine ⟨_,rfl,?_⟩));(try simp only [Act.put,lI,sZ,sS]);go_cut [18] (fun v18 wc => ∃ (kq : Nat) (x18_2 : Bool),v18 = .bool x18_2 ∧ Aside0 (spec_l2Inverse.j0 kq t205 x18_2 l0_0 a0_1 a0_2 a0_3 = some r) ∧ Aside0 (kq ≤ k) ∧ Aside0 (wc.heap[gb201]? = some (.cells #[(.slice A0_0 l0_0.length c0_0),.string a0_1,.string a0_2,.string a0_3] 157 (0,0))) ∧ Aside0 (Below w.heap.size w wc))
 case first =>
  have H := HC3.out;clear HC3
  by_cases c9 : (l0_0.length : Int) > 0
  focus
   rw [if_pos c9] at H;have c9b0 : decide (0 < (l0_0.length : Int)) = true := dT c9;have c9b1 : decide (0 < l0_0.length) = true := dT (by omega);clear c9;(first|rw [c9b0]|(simp only [i64_w,i32_w];rw [c9b0])|skip);have H' := aM H;clear H
  rotate_left
  focus
   rw [if_neg c9] at H;have c9b0 : decide (0 < (l0_0.length : Int)) = false := dF c9;have c9b1 : decide (0 < l0_0.length) = false := dF (by omega);clear c9;(first|rw [c9b0]|(simp only [i64_w,i32_w];rw [c9b0])|skip);have H' := aM H;clear H
  all_goals
   obtain ⟨hczx201_0,hczx201_1,hczx201_2,hczx201_3,hfzx201_0,hfzx201_1,hfzx201_2,hfzx201_3⟩ := z4_ BK201.out;go_wp2;go_meet
   case rel => first|(exact ⟨_,(true),vR_,H',⟨by first|omega|exact Nat.le_refl _⟩,⟨wC_ BK201.out⟩,⟨wB_⟩⟩)|(exact ⟨_,((a0_3.toList != ([] : List UInt8))),vR_,H',⟨by first|omega|exact Nat.le_refl _⟩,⟨wC_ BK201.out⟩,⟨wB_⟩⟩)
 case rest =>
  clear HC3;obtain ⟨kq,x18_2,rfl,HA,HJ2,BK201,HB⟩ := hcut
  cases kq with
  | zero => exact absurd HA.out (by simp [spec_l2Inverse.j0])
  | succ kj2 =>
   have H := HA.out;clear HA;simp only [spec_l2Inverse.j0] at H
   by_cases c12 : x18_2 = true
   focus
    subst c12;rw [if_pos rfl] at H
    by_cases c13 : t205.size + 2 ≤ 9223372036854775807
    rotate_left;rw [if_neg c13] at H;exact absurd H (by simp);rw [if_pos c13] at H;have c13b0 := eq_true c13;have c13b1 : decide (t205.size + 2 ≤ 9223372036854775807) = true := dT c13;(try have c13b2 : (9223372036854775807 < t205.size + 2) = False := eq_false (Nat.not_lt.2 c13));obtain ⟨t206,A14,H⟩ := bE_ H
    by_cases c15 : (t205 ++ (⟨#[44,32]⟩ : ByteArray)).size + t206.size ≤ 9223372036854775807
    rotate_left;rw [if_neg c15] at H;exact absurd H (by simp);rw [if_pos c15] at H;have c15b0 := eq_true c15;have c15b1 : decide ((t205 ++ (⟨#[44,32]⟩ : ByteArray)).size + t206.size ≤ 9223372036854775807) = true := dT c15;(try have c15b3 : (9223372036854775807 < t205.size + 2 + t206.size) = False := eq_false (by have h_ := c15;simp only [ByteArray.size_append,ByteArray.size_extract] at h_;have hs0_ : (⟨#[44,32]⟩ : ByteArray).size = 2 := rfl;omega));(try have c15b2 : (9223372036854775807 < (t205 ++ (⟨#[44,32]⟩ : ByteArray)).size + t206.size) = False := eq_false (Nat.not_lt.2 c15))
    by_cases c16 : a0_3.toList = ([] : List UInt8)
    focus
     rw [if_pos c16] at H;have c16b0 : (a0_3.toList == ([] : List UInt8)) = true := beq_iff_eq.mpr c16;have c16b1 : (a0_3.toList != ([] : List UInt8)) = false := bne_eq_false_iff_eq.mpr c16;clear c16;obtain rfl := Option.some.inj H;simp only [eS,eP] at H;obtain ⟨rfl⟩ := H
    rotate_left
    focus
     rw [if_neg c16] at H;have c16b0 : (a0_3.toList == ([] : List UInt8)) = false := beq_eq_false_iff_ne.mpr c16;have c16b1 : (a0_3.toList != ([] : List UInt8)) = true := bne_iff_ne.mpr c16
     by_cases c20 : ((t205 ++ (⟨#[44,32]⟩ : ByteArray)) ++ t206).size + 2 ≤ 9223372036854775807
     rotate_left;rw [if_neg c20] at H;exact absurd H (by simp);rw [if_pos c20] at H;have c20b0 := eq_true c20;have c20b1 : decide (((t205 ++ (⟨#[44,32]⟩ : ByteArray)) ++ t206).size + 2 ≤ 9223372036854775807) = true := dT c20;(try have c20b3 : (9223372036854775807 < t205.size + 2 + t206.size + 2) = False := eq_false (by have h_ := c20;simp only [ByteArray.size_append,ByteArray.size_extract] at h_;have hs0_ : (⟨#[44,32]⟩ : ByteArray).size = 2 := rfl;omega));(try have c20b2 : (9223372036854775807 < ((t205 ++ (⟨#[44,32]⟩ : ByteArray)) ++ t206).size + 2) = False := eq_false (Nat.not_lt.2 c20))
     by_cases c21 : (((t205 ++ (⟨#[44,32]⟩ : ByteArray)) ++ t206) ++ (⟨#[44,32]⟩ : ByteArray)).size + a0_3.size ≤ 9223372036854775807
     rotate_left;rw [if_neg c21] at H;exact absurd H (by simp);rw [if_pos c21] at H;have c21b0 := eq_true c21;have c21b1 : decide ((((t205 ++ (⟨#[44,32]⟩ : ByteArray)) ++ t206) ++ (⟨#[44,32]⟩ : ByteArray)).size + a0_3.size ≤ 9223372036854775807) = true := dT c21;(try have c21b3 : (9223372036854775807 < t205.size + 2 + t206.size + 2 + a0_3.size) = False := eq_false (by have h_ := c21;simp only [ByteArray.size_append,ByteArray.size_extract] at h_;have hs0_ : (⟨#[44,32]⟩ : ByteArray).size = 2 := rfl;omega));(try have c21b2 : (9223372036854775807 < (((t205 ++ (⟨#[44,32]⟩ : ByteArray)) ++ t206) ++ (⟨#[44,32]⟩ : ByteArray)).size + a0_3.size) = False := eq_false (Nat.not_lt.2 c21));obtain rfl := Option.some.inj H;simp only [eS,eP] at H;obtain ⟨rfl⟩ := H
   rotate_left 2
   focus
    replace c12 := Bool.eq_false_iff.mpr c12;subst c12;rw [if_neg Bool.false_ne_true] at H
    by_cases c25 : a0_3.toList = ([] : List UInt8)
    focus
     rw [if_pos c25] at H;have c25b0 : (a0_3.toList == ([] : List UInt8)) = true := beq_iff_eq.mpr c25;have c25b1 : (a0_3.toList != ([] : List UInt8)) = false := bne_eq_false_iff_eq.mpr c25;clear c25;obtain rfl := Option.some.inj H;simp only [eS,eP] at H;obtain ⟨rfl⟩ := H
    rotate_left
    focus
     rw [if_neg c25] at H;have c25b0 : (a0_3.toList == ([] : List UInt8)) = false := beq_eq_false_iff_ne.mpr c25;have c25b1 : (a0_3.toList != ([] : List UInt8)) = true := bne_iff_ne.mpr c25
     by_cases c27 : t205.size + 2 ≤ 9223372036854775807
     rotate_left;rw [if_neg c27] at H;exact absurd H (by simp);rw [if_pos c27] at H;have c27b0 := eq_true c27;have c27b1 : decide (t205.size + 2 ≤ 9223372036854775807) = true := dT c27;(try have c27b2 : (9223372036854775807 < t205.size + 2) = False := eq_false (Nat.not_lt.2 c27))
     by_cases c28 : (t205 ++ (⟨#[44,32]⟩ : ByteArray)).size + a0_3.size ≤ 9223372036854775807
     rotate_left;rw [if_neg c28] at H;exact absurd H (by simp);rw [if_pos c28] at H;have c28b0 := eq_true c28;have c28b1 : decide ((t205 ++ (⟨#[44,32]⟩ : ByteArray)).size + a0_3.size ≤ 9223372036854775807) = true := dT c28;(try have c28b3 : (9223372036854775807 < t205.size + 2 + a0_3.size) = False := eq_false (by have h_ := c28;simp only [ByteArray.size_append,ByteArray.size_extract] at h_;have hs0_ : (⟨#[44,32]⟩ : ByteArray).size = 2 := rfl;omega));(try have c28b2 : (9223372036854775807 < (t205 ++ (⟨#[44,32]⟩ : ByteArray)).size + a0_3.size) = False := eq_false (Nat.not_lt.2 c28));obtain rfl := Option.some.inj H;simp only [eS,eP] at H;obtain ⟨rfl⟩ := H
   all_goals
    obtain ⟨hczx201_0,hczx201_1,hczx201_2,hczx201_3,hfzx201_0,hfzx201_1,hfzx201_2,hfzx201_3⟩ := z4_ BK201.out;go_wp2_with (first|((with_reducible refine gate_callee (f := 256) rfl ?_);refine gl_ (some 22) Tryz.func256 #[.agg #[.slice A0_0 l0_0.length c0_0,.string a0_1,.string a0_2,.string a0_3]] ?_;(with_reducible refine (spec_l2Given.calls _ _ _ _ _ _ _ _ _ ?side1 ?side2 A14.out).mono ?_);(case side1 => exact wX_ HR0_0.out);(case side2 => exact HC0_0.out);rintro e WA14 ⟨rfl,hb⟩;refine ⟨_,rfl,?_⟩;replace BK201 := aM (bw_ BK201.out hb);replace HB := aM (lT wB_ hb);obtain ⟨hcz14x201_0,hcz14x201_1,hcz14x201_2,hcz14x201_3,hfz14x201_0,hfz14x201_1,hfz14x201_2,hfz14x201_3⟩ := z4_ BK201.out));go_ret;exact ⟨vR_,wB_⟩
end Go.Proofs.YtmafmhgmdegplaaGreatDoor.P
