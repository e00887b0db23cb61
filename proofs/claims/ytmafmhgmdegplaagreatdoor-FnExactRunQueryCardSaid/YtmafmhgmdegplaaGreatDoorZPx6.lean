/- Walks: each Go function computes the Lean function beside it; conditions: those of each theorem. -/
import Derived.Test.YtmafmhgmdegplaaGreatDoorZPx0
namespace Go.Proofs.YtmafmhgmdegplaaGreatDoor.P
open Go.RowKit Go.Proofs.YtmafmhgmdegplaaGreatDoorW.PrintWords Go.Proofs.YtmafmhgmdegplaaGreatDoorW.PrintLast Go.Proofs.YtmafmhgmdegplaaGreatDoorW.PrintMore
attribute [local go_sem] max2_int min2_int max_two min_two max_three min_three max_four min_four   -- for this text's walks alone
set_option linter.unusedVariables false
set_option linter.unusedSimpArgs false
set_option maxHeartbeats 8000000
set_option maxRecDepth 100000
def FaY.f : Nat → Int → Option (ByteArray)
 | 0,_ => none
 | k + 1,a0 => if a0 < 0 then ((FaY.f k (wrap64 (-a0))).bind fun aa => (if 1 + aa.size ≤ 9223372036854775807 then (some ((⟨#[45]⟩ : ByteArray) ++ aa)) else (none))) else (if a0 < 10 then (if 0 ≤ a0 then (if a0 ≤ (wrap64 (a0 + 1)) then (if (wrap64 (a0 + 1)) ≤ 10 then (some ((⟨#[48,49,50,51,52,53,54,55,56,57]⟩ : ByteArray).extract (a0 : Int).toNat ((wrap64 (a0 + 1)) : Int).toNat)) else (none)) else (none)) else (none)) else ((FaY.f k (wrap64 (Int.tdiv a0 10))).bind fun ab => (if 0 ≤ (Int.tmod a0 10) then (if (Int.tmod a0 10) ≤ (wrap64 ((Int.tmod a0 10) + 1)) then (if (wrap64 ((Int.tmod a0 10) + 1)) ≤ 10 then (if ab.size + ((⟨#[48,49,50,51,52,53,54,55,56,57]⟩ : ByteArray).extract ((Int.tmod a0 10) : Int).toNat ((wrap64 ((Int.tmod a0 10) + 1)) : Int).toNat).size ≤ 9223372036854775807 then (some (ab ++ ((⟨#[48,49,50,51,52,53,54,55,56,57]⟩ : ByteArray).extract ((Int.tmod a0 10) : Int).toNat ((wrap64 ((Int.tmod a0 10) + 1)) : Int).toNat))) else (none)) else (none)) else (none)) else (none))))
theorem FaY.mono_l : ∀ k,(∀ y0,LeO (FaY.f k y0) (FaY.f (k + 1) y0))
 | 0 => fun _ r h => by simp [FaY.f] at h
 | k + 1 => by
  have ih0 := FaY.mono_l k
  ·intro y0
   unfold FaY.f
   repeat' (first|with_reducible (first|exact ih0 _|exact LeO.refl _|exact LeO.none _|refine LeO.ite ?_ ?_|refine LeO.bind ?_ (fun _ => ?_))|exact LeO.none _|refine LeO.ite ?_ ?_|refine LeO.bind ?_ (fun _ => ?_))
theorem FaY.mono : ∀ a0 k,LeO (FaY.f k a0) (FaY.f (k + 1) a0) := by
 intro a0 k;have ih0 := FaY.mono_l k;exact ih0 a0
def FaY.T5 : Bool × List (List Nat × List Nat) := (true,[([],[]),([0],[0]),([1],[1]),([],[]),([3],[3]),([],[]),([5],[5]),([6],[6]),([4,7],[4,7]),([2,8],[2,8]),([9,2,0,1,2,3,4,5,6,7,8,9],[9])])
def FaY.B5 : List Nat := [0,1,3,0,8,0,32,96,248,511,1023]
theorem FaY.tab5 : rtab .any (opsOf Tryz.f142 5) = FaY.T5 := by kernel_rfl
theorem FaY.bits5 : waitsOk FaY.T5.2 FaY.B5 = true := by kernel_rfl
theorem FaY.calls (k : Nat) : ∀ (a0 : Int) (r : ByteArray) (w : World) (h : FaY.f k a0 = some r),
  Calls Tryz.prog 142 #[.int .i64 a0] w fun e w' => e = .returned (.string r) ∧ Below w.heap.size w w' := by
 induction k using Nat.strongRecOn with
 | _ k ih =>
 intro a0 r w h
 cases k with
 | zero => exact absurd h (by simp [FaY.f])
 | succ k =>
 simp only [FaY.f] at h;have HB := aM (Below.refl w.heap.size w);have H : (if a0 < 0 then ((FaY.f k (wrap64 (-a0))).bind fun ad => (if 1 + ad.size ≤ 9223372036854775807 then (some ((⟨#[45]⟩ : ByteArray) ++ ad)) else (none))) else (if a0 < 10 then (if 0 ≤ a0 then (if a0 ≤ (wrap64 (a0 + 1)) then (if (wrap64 (a0 + 1)) ≤ 10 then (some ((⟨#[48,49,50,51,52,53,54,55,56,57]⟩ : ByteArray).extract (a0 : Int).toNat ((wrap64 (a0 + 1)) : Int).toNat)) else (none)) else (none)) else (none)) else ((FaY.f k (wrap64 (Int.tdiv a0 10))).bind fun ab => (if 0 ≤ (Int.tmod a0 10) then (if (Int.tmod a0 10) ≤ (wrap64 ((Int.tmod a0 10) + 1)) then (if (wrap64 ((Int.tmod a0 10) + 1)) ≤ 10 then (if ab.size + ((⟨#[48,49,50,51,52,53,54,55,56,57]⟩ : ByteArray).extract ((Int.tmod a0 10) : Int).toNat ((wrap64 ((Int.tmod a0 10) + 1)) : Int).toNat).size ≤ 9223372036854775807 then (some (ab ++ ((⟨#[48,49,50,51,52,53,54,55,56,57]⟩ : ByteArray).extract ((Int.tmod a0 10) : Int).toNat ((wrap64 ((Int.tmod a0 10) + 1)) : Int).toNat))) else (none)) else (none)) else (none)) else (none))))) = some r := h;clear h
 by_cases c2 : a0 < 0
 ·rw [if_pos c2] at H;have af := dT c2;clear c2;obtain ⟨ad,A3,H⟩ := bE_ H
  by_cases c4 : 1 + ad.size ≤ 9223372036854775807
  ·rw [if_pos c4] at H;have c4b0 := eq_true c4;have c4b1 := dT c4;(try have c4b2 : (9223372036854775807 < 1 + ad.size) = False := eq_false (Nat.not_lt.2 c4));obtain rfl := oI H;go_enter Tryz.func142,Tryz.ntmps142;go_wp2_with (first|((with_reducible refine gate_callee (f := 142) rfl ?_);refine gl_ (some 7) Tryz.func142 #[.int .i64 (wrap64 (-a0))] ?_;(with_reducible refine (ih k (by omega) (wrap64 (-a0)) ad _ A3.out).mono ?_);rintro e w5 ⟨rfl,hb⟩;refine ⟨_,rfl,?_⟩;replace HB := aM (lT wB_ hb)));go_ret;exact ⟨vR_,wB_⟩
  ·rw [if_neg c4] at H;exact nH_ H
 ·rw [if_neg c2] at H;have af := dF c2;clear c2
  by_cases c6 : a0 < 10
  ·rw [if_pos c6] at H;have ag := dT c6;clear c6
   by_cases c7 : 0 ≤ a0
   ·rw [if_pos c7] at H;have c7b0 := eq_true c7;have c7b1 := dT c7;clear c7
    by_cases c8 : a0 ≤ (wrap64 (a0 + 1))
    ·rw [if_pos c8] at H;have c8b0 := eq_true c8;have c8b1 := dT c8
     by_cases c9 : (wrap64 (a0 + 1)) ≤ 10
     ·rw [if_pos c9] at H;have c9b0 := eq_true c9;have c9b1 := dT c9;obtain rfl := oI H;go_enter Tryz.func142,Tryz.ntmps142;go_wp2;go_ret;exact ⟨vR_,wB_⟩
     ·rw [if_neg c9] at H;exact nH_ H
    ·rw [if_neg c8] at H;exact nH_ H
   ·rw [if_neg c7] at H;exact nH_ H
  ·rw [if_neg c6] at H;have ag := dF c6;clear c6;obtain ⟨ab,ah,H⟩ := bE_ H;obtain ⟨aa,ac⟩ : ∃ j_ : Int,(Int.tmod a0 10) = j_ := ⟨_,rfl⟩;replace H : (if 0 ≤ (aa) then (if (aa) ≤ (wrap64 ((aa) + 1)) then (if (wrap64 ((aa) + 1)) ≤ 10 then (if ab.size + ((⟨#[48,49,50,51,52,53,54,55,56,57]⟩ : ByteArray).extract ((aa) : Int).toNat ((wrap64 ((aa) + 1)) : Int).toNat).size ≤ 9223372036854775807 then (some (ab ++ ((⟨#[48,49,50,51,52,53,54,55,56,57]⟩ : ByteArray).extract ((aa) : Int).toNat ((wrap64 ((aa) + 1)) : Int).toNat))) else (none)) else (none)) else (none)) else (none)) = some r := (by first|(rw [ac] at H;exact H)|(simp only [ac] at H ⊢;exact H));(try rw [ac] at ah)
   by_cases c12 : 0 ≤ (aa)
   ·rw [if_pos c12] at H;have c12b0 := eq_true c12;have c12b1 := dT c12;clear c12
    by_cases c13 : (aa) ≤ (wrap64 ((aa) + 1))
    ·rw [if_pos c13] at H;have c13b0 := eq_true c13;have c13b1 := dT c13
     by_cases ae : (wrap64 ((aa) + 1)) ≤ 10
     ·rw [if_pos ae] at H;have c14b0 := eq_true ae;have c14b1 := dT ae
      by_cases c15 : ab.size + ((⟨#[48,49,50,51,52,53,54,55,56,57]⟩ : ByteArray).extract ((aa) : Int).toNat ((wrap64 ((aa) + 1)) : Int).toNat).size ≤ 9223372036854775807
      ·rw [if_pos c15] at H;have c15b0 := eq_true c15;have c15b1 := dT c15;(try have c15b3 : (9223372036854775807 < ab.size + ((((wrap64 ((aa) + 1)) : Int).toNat - ((aa) : Int).toNat))) = False := eq_false (by have h_ := c15;simp only [ByteArray.size_append,ByteArray.size_extract] at h_;have hs0_ : (⟨#[48,49,50,51,52,53,54,55,56,57]⟩ : ByteArray).size = 10 := rfl;omega));(try have c15b2 : (9223372036854775807 < ab.size + ((⟨#[48,49,50,51,52,53,54,55,56,57]⟩ : ByteArray).extract ((aa) : Int).toNat ((wrap64 ((aa) + 1)) : Int).toNat).size) = False := eq_false (Nat.not_lt.2 c15));obtain rfl := oI H;go_enter Tryz.func142,Tryz.ntmps142;(try go_wp2);replace HB := aM (lD HB.out);refine start_ (n := 11) (S := fun w' => True) (ds := []) (mk_ 11 0) (by kernel_rfl) rfl (by kernel_rfl) trivial (fun hHeld => ?_);refine with_tabW FaY.tab5 FaY.bits5 (fun HT_ HW_ => ?_);generalize w.drew = w16 at HB hHeld ⊢;refine pV_ (i := 0) (N := some 15) (mk_ 11 1) rfl rfl HT_.out ?_;refine pV_ (i := 1) (N := some 16) (mk_ 11 3) rfl rfl HT_.out ?_;refine pV_ (i := 3) (N := some 18) (mk_ 11 11) rfl rfl HT_.out ?_;refine pV_ (i := 4) (N := some 19) (mk_ 11 27) rfl rfl HT_.out ?_;refine pV_ (i := 5) (N := some 20) (mk_ 11 59) rfl rfl HT_.out ?_;refine pV_ (i := 6) (N := some 21) (mk_ 11 123) rfl rfl HT_.out ?_;refine pV_ (i := 7) (N := some 22) (mk_ 11 251) rfl rfl HT_.out ?_;refine pV_ (i := 8) (N := some 23) (mk_ 11 507) rfl rfl HT_.out ?_;refine one_ (i := 2) (N := some 17) (mk_ 11 511) rfl rfl (one_of HT_.out (by kernel_rfl)) (by decide) (fun K hK => ?_);refine gs_ Tryz.func142 #[.int .i64 (wrap64 (Int.tdiv a0 10))] ?_;(with_reducible refine (ih k (by omega) (wrap64 (Int.tdiv a0 10)) ab _ ah.out).mono ?_);rintro e w17 ⟨rfl,hb⟩;refine ⟨_,rfl,?_⟩;replace HB := aM (lT wB_ hb);refine hK.out _ _ trivial (fun hHeld => ?_);clear hK K;refine norm_ (a' := ?_) ?_ ?_;rotate_left;show Act.put _ (some 17) _ = _;simp only [Act.put,lI,sZ,sS,i64_w,i32_w];rfl;refine pV_ (i := 9) (N := some 24) (mk_ 11 1023) rfl rfl HT_.out ?_;refine pV_ (i := 10) (N := some 2) (mk_ 11 2047) rfl rfl HT_.out ?_;refine done_ (done_of HT_.out (by kernel_rfl)) ?_;(try go_wp2);go_ret;exact ⟨by first|rfl|(simp [errW_none,errW_some] <;> rfl)|(simp only [← ac];first|rfl|(simp [errW_none,errW_some] <;> rfl))|(simp [*,errW_none,errW_some] <;> rfl),wB_⟩
      ·rw [if_neg c15] at H;exact nH_ H
     ·rw [if_neg ae] at H;exact nH_ H
    ·rw [if_neg c13] at H;exact nH_ H
   ·rw [if_neg c12] at H;exact nH_ H
def FaP.l0 : Nat → List ByteArray → ByteArray → Int → Option (ByteArray)
 | 0,_,_,_ => none
 | k + 1,x0,x3,x4 => if x4 < (x0.length : Int) then (if x3.toList = ([] : List UInt8) then (if 0 ≤ x4 then (if x3.size + (rdOf ByteArray.empty x0 x4).size ≤ 9223372036854775807 then (FaP.l0 k x0 (x3 ++ (rdOf ByteArray.empty x0 x4)) (wrap64 (x4 + 1))) else (none)) else (none)) else (if 0 ≤ x4 then (if (rdOf ByteArray.empty x0 x4).toList = ([] : List UInt8) then (if x3.size + (rdOf ByteArray.empty x0 x4).size ≤ 9223372036854775807 then (FaP.l0 k x0 (x3 ++ (rdOf ByteArray.empty x0 x4)) (wrap64 (x4 + 1))) else (none)) else (if x3.size + 1 ≤ 9223372036854775807 then (if (x3 ++ (⟨#[32]⟩ : ByteArray)).size + (rdOf ByteArray.empty x0 x4).size ≤ 9223372036854775807 then (FaP.l0 k x0 ((x3 ++ (⟨#[32]⟩ : ByteArray)) ++ (rdOf ByteArray.empty x0 x4)) (wrap64 (x4 + 1))) else (none)) else (none))) else (none))) else (some x3)
def FaP.f (k : Nat) (l0 : List ByteArray) : Option (ByteArray) := FaP.l0 k l0 (⟨#[]⟩ : ByteArray) 0
theorem FaP.mono_l : ∀ k,(∀ y0 y1 y2,LeO (FaP.l0 k y0 y1 y2) (FaP.l0 (k + 1) y0 y1 y2))
 | 0 => fun _ _ _ r h => by simp [FaP.l0] at h
 | k + 1 => by
  have ih0 := FaP.mono_l k
  ·intro y0 y1 y2
   unfold FaP.l0
   repeat' (first|with_reducible (first|exact ih0 _ _ _|exact LeO.refl _|exact LeO.none _|refine LeO.ite ?_ ?_|refine LeO.bind ?_ (fun _ => ?_))|exact LeO.none _|refine LeO.ite ?_ ?_|refine LeO.bind ?_ (fun _ => ?_))
theorem FaP.mono : ∀ a0 k,LeO (FaP.f k a0) (FaP.f (k + 1) a0) := by
 intro a0 k
 have ih0 := FaP.mono_l k
 unfold FaP.f
 repeat' (first|with_reducible (first|exact ih0 _ _ _|exact LeO.refl _|exact LeO.none _|refine LeO.ite ?_ ?_|refine LeO.bind ?_ (fun _ => ?_))|exact LeO.none _|refine LeO.ite ?_ ?_|refine LeO.bind ?_ (fun _ => ?_))
theorem FaP.calls (k : Nat) (A0 : Option Addr) (c0 : Nat) (l0 : List ByteArray) (r : ByteArray) (w : World) (ao : Kd.C Kd.string w A0 l0.length l0) (ap : l0.length ≤ c0) (h : FaP.f k l0 = some r) :
  Calls Tryz.prog 255 #[.slice A0 l0.length c0] w fun e w' => e = .returned (.string r) ∧ Drawn0 w w' := by
 have ar := aM ao;have HC0 := aM ap;clear ao ap;have H : (FaP.l0 k l0 (⟨#[]⟩ : ByteArray) 0) = some r := h;clear h;have H' := aM H;clear H;go_enter Tryz.func255,Tryz.ntmps255;go_wp2;go_loopg [3,4] k (fun kq v3 v4 w' => ∃ (ab : ByteArray) (aa : Int),v3 = .string ab ∧ v4 = .int .i64 aa ∧ Aside0 (FaP.l0 kq l0 ab aa = some r) ∧ Aside0 (kq ≤ k) ∧ Drawn0 w w')
 case atStart => exact ⟨((⟨#[]⟩ : ByteArray)),(0),vR_,vR_,H',⟨Nat.le_refl _⟩,dw_⟩
 case round =>
  clear H';obtain ⟨ab,aa,rfl,rfl,HA,ac,⟨m1,rfl⟩⟩ := hrel
  cases gk with
  | zero => exact absurd HA.out (by simp [FaP.l0])
  | succ k1 =>
   have H := HA.out;clear HA;simp only [FaP.l0] at H
   by_cases c2 : aa < (l0.length : Int)
   focus
    rw [if_pos c2] at H;have ad := dT c2;clear c2
    by_cases c3 : ab.toList = ([] : List UInt8)
    focus
     rw [if_pos c3] at H;have ae := qE.mpr c3;have af := qN.mpr c3;clear c3
     by_cases c4 : 0 ≤ aa
     rotate_left;rw [if_neg c4] at H;exact nH_ H;rw [if_pos c4] at H;have c4b0 := dT c4;clear c4
     by_cases c5 : ab.size + (rdOf ByteArray.empty l0 aa).size ≤ 9223372036854775807
     rotate_left;rw [if_neg c5] at H;exact nH_ H;rw [if_pos c5] at H;have c5b0 := eq_true c5;have c5b1 := dT c5;(try have c5b2 : (9223372036854775807 < ab.size + (rdOf ByteArray.empty l0 aa).size) = False := eq_false (Nat.not_lt.2 c5));have H' := aM H;clear H
    rotate_left
    focus
     rw [if_neg c3] at H;have ae := qF.mpr c3;have af := qB.mpr c3
     by_cases c6 : 0 ≤ aa
     rotate_left;rw [if_neg c6] at H;exact nH_ H;rw [if_pos c6] at H;have c6b0 := dT c6;clear c6
     by_cases c7 : (rdOf ByteArray.empty l0 aa).toList = ([] : List UInt8)
     focus
      rw [if_pos c7] at H;have ag := qE.mpr c7;have ah := qN.mpr c7;clear c7
      by_cases c8 : ab.size + (rdOf ByteArray.empty l0 aa).size ≤ 9223372036854775807
      rotate_left;rw [if_neg c8] at H;exact nH_ H;rw [if_pos c8] at H;have c8b0 := eq_true c8;have c8b1 := dT c8;(try have c8b2 : (9223372036854775807 < ab.size + (rdOf ByteArray.empty l0 aa).size) = False := eq_false (Nat.not_lt.2 c8));have H' := aM H;clear H
     rotate_left
     focus
      rw [if_neg c7] at H;have ag := qF.mpr c7;have ah := qB.mpr c7
      by_cases c9 : ab.size + 1 ≤ 9223372036854775807
      rotate_left;rw [if_neg c9] at H;exact nH_ H;rw [if_pos c9] at H;have c9b0 := eq_true c9;have c9b1 := dT c9;(try have c9b2 : (9223372036854775807 < ab.size + 1) = False := eq_false (Nat.not_lt.2 c9))
      by_cases c10 : (ab ++ (⟨#[32]⟩ : ByteArray)).size + (rdOf ByteArray.empty l0 aa).size ≤ 9223372036854775807
      rotate_left;rw [if_neg c10] at H;exact nH_ H;rw [if_pos c10] at H;have c10b0 := eq_true c10;have c10b1 := dT c10;(try have c10b3 : (9223372036854775807 < ab.size + 1 + (rdOf ByteArray.empty l0 aa).size) = False := eq_false (by have h_ := c10;simp only [ByteArray.size_append,ByteArray.size_extract] at h_;have hs0_ : (⟨#[32]⟩ : ByteArray).size = 1 := rfl;omega));(try have c10b2 : (9223372036854775807 < (ab ++ (⟨#[32]⟩ : ByteArray)).size + (rdOf ByteArray.empty l0 aa).size) = False := eq_false (Nat.not_lt.2 c10));have H' := aM H;clear H
   rotate_left 3
   focus
    rw [if_neg c2] at H;have ad := dF c2;clear c2;obtain rfl := oI H
   all_goals
    (try (have ai : 0 ≤ (aa : Int) := oD (by assumption);have aj : aa < (l0.length : Int) := oD (by assumption);obtain ⟨ak,au,hx01_0⟩ := Kd.at_string ar.out aa ai aj;cases au;replace ai := eq_true ai;replace aj := eq_true aj));(try (have al : 0 ≤ (aa : Int) := oD (by assumption);have am : aa < (l0.length : Int) := oD (by assumption);obtain ⟨an,av,hx02_0⟩ := Kd.at_string ar.out aa al am;obtain rfl : ak = an := (by injection av);replace al := eq_true al;replace am := eq_true am));go_wp2
    first
     |
      go_ret;exact ⟨vR_,dw_⟩
     |
      go_roundg k1
      case measure => have := ac.out;omega
      case rel => first|(exact ⟨(ab ++ (rdOf ByteArray.empty l0 aa)),(wrap64 (aa + 1)),vR_,vR_,H',⟨by have := ac.out;omega⟩,dw_⟩)|(exact ⟨((ab ++ (⟨#[32]⟩ : ByteArray)) ++ (rdOf ByteArray.empty l0 aa)),(wrap64 (aa + 1)),vR_,vR_,H',⟨by have := ac.out;omega⟩,dw_⟩)
def FbU.f (k : Nat) (aa : List ByteArray) (a0_1 : ByteArray) (a0_2 : ByteArray) (a0_3 : ByteArray) : Option (ByteArray) := (FaP.f k aa).bind fun ab => (some ab)
theorem FbU.mono : ∀ a0 a1 a2 a3 k,LeO (FbU.f k a0 a1 a2 a3) (FbU.f (k + 1) a0 a1 a2 a3) := by
 intro a0 a1 a2 a3 k
 unfold FbU.f
 repeat' (first|with_reducible (first|exact FaP.mono _ _|exact LeO.refl _|exact LeO.none _|refine LeO.ite ?_ ?_|refine LeO.bind ?_ (fun _ => ?_))|exact LeO.none _|refine LeO.ite ?_ ?_|refine LeO.bind ?_ (fun _ => ?_))
theorem FbU.calls (k : Nat) (ab : Option Addr) (ac : Nat) (aa : List ByteArray) (af : ByteArray) (ag : ByteArray) (ah : ByteArray) (r : ByteArray) (w : World) (ad : Kd.C Kd.string w ab aa.length aa) (ae : aa.length ≤ ac) (h : FbU.f k aa af ag ah = some r) :
  Calls Tryz.prog 256 #[.agg #[.slice ab aa.length ac,.string af,.string ag,.string ah]] w fun e w' => e = .returned (.string r) ∧ Below w.heap.size w w' := by
 have hu157 := Tryz.underlying157;have aj := aM ad;have ak := aM ae;clear ad ae;have HB := aM (Below.refl w.heap.size w);have H : ((FaP.f k aa).bind fun ai => (some ai)) = some r := h;clear h;obtain ⟨ai,A2,H⟩ := bE_ H;obtain rfl := oI H;go_enter Tryz.func256,Tryz.ntmps256;go_wp2_with (first|((with_reducible refine gate_dst (N := 1) rfl ?_);refine bx_ (N := 1) (cs := #[.slice ab aa.length ac,.string af,.string ag,.string ah]) (t := 157) ?_;intro al hg w3 hbox hb;have am := aM (hbox);have an := aM ((by rw [hg];exact (lZ wB_) : w.heap.size ≤ al));have GE170 := an;replace HB := aM (lT wB_ hb);clear hb hbox hg;obtain ⟨_,_,_,_,_,_,_,_⟩ := z4_ am.out)|((with_reducible refine gate_callee (f := 255) rfl ?_);refine gl_ (some 5) Tryz.func255 #[.slice ab aa.length ac] ?_;(with_reducible refine (FaP.calls k _ _ aa ai _ ?side1 ?side2 A2.out).mono ?_);(case side1 => exact wX_ aj.out);(case side2 => exact ak.out);rintro e w' ⟨rfl,⟨nd,rfl⟩⟩;refine ⟨_,rfl,?_⟩));go_ret;exact ⟨vR_,wB_⟩
def FaN.j0 : Nat → ByteArray → Bool → List ByteArray → ByteArray → ByteArray → ByteArray → Option (ByteArray)
 | 0,_,_,_,_,_,_ => none
 | k + 1,x3,af,ac,ad,ae,aa => if af = true then (if x3.size + 2 ≤ 9223372036854775807 then ((FbU.f k ac ad ae aa).bind fun ab => (if (x3 ++ (⟨#[44,32]⟩ : ByteArray)).size + ab.size ≤ 9223372036854775807 then (if aa.toList = ([] : List UInt8) then (some ((x3 ++ (⟨#[44,32]⟩ : ByteArray)) ++ ab)) else (if ((x3 ++ (⟨#[44,32]⟩ : ByteArray)) ++ ab).size + 2 ≤ 9223372036854775807 then (if (((x3 ++ (⟨#[44,32]⟩ : ByteArray)) ++ ab) ++ (⟨#[44,32]⟩ : ByteArray)).size + aa.size ≤ 9223372036854775807 then (some ((((x3 ++ (⟨#[44,32]⟩ : ByteArray)) ++ ab) ++ (⟨#[44,32]⟩ : ByteArray)) ++ aa)) else (none)) else (none))) else (none))) else (none)) else (if aa.toList = ([] : List UInt8) then (some x3) else (if x3.size + 2 ≤ 9223372036854775807 then (if (x3 ++ (⟨#[44,32]⟩ : ByteArray)).size + aa.size ≤ 9223372036854775807 then (some ((x3 ++ (⟨#[44,32]⟩ : ByteArray)) ++ aa)) else (none)) else (none)))
def FaN.f (k : Nat) (aa : List ByteArray) (ab : ByteArray) (ac : ByteArray) (ad : ByteArray) : Option (ByteArray) := (FaP.f k (([ab,ac] : List ByteArray))).bind fun ae => (if (aa.length : Int) > 0 then (FaN.j0 k ae true aa ab ac ad) else (FaN.j0 k ae (ad.toList != ([] : List UInt8)) aa ab ac ad))
theorem FaN.mono_l : ∀ k,(∀ y0 y1 y2 y3 y4 y5,LeO (FaN.j0 k y0 y1 y2 y3 y4 y5) (FaN.j0 (k + 1) y0 y1 y2 y3 y4 y5))
 | 0 => fun _ _ _ _ _ _ r h => by simp [FaN.j0] at h
 | k + 1 => by
  have ih0 := FaN.mono_l k
  ·intro y0 y1 y2 y3 y4 y5
   unfold FaN.j0
   repeat' (first|with_reducible (first|exact ih0 _ _ _ _ _ _|exact FbU.mono _ _ _ _ _|exact FaP.mono _ _|exact LeO.refl _|exact LeO.none _|refine LeO.ite ?_ ?_|refine LeO.bind ?_ (fun _ => ?_))|exact LeO.none _|refine LeO.ite ?_ ?_|refine LeO.bind ?_ (fun _ => ?_))
theorem FaN.mono : ∀ a0 a1 a2 a3 k,LeO (FaN.f k a0 a1 a2 a3) (FaN.f (k + 1) a0 a1 a2 a3) := by
 intro a0 a1 a2 a3 k
 have ih0 := FaN.mono_l k
 unfold FaN.f
 repeat' (first|with_reducible (first|exact ih0 _ _ _ _ _ _|exact FbU.mono _ _ _ _ _|exact FaP.mono _ _|exact LeO.refl _|exact LeO.none _|refine LeO.ite ?_ ?_|refine LeO.bind ?_ (fun _ => ?_))|exact LeO.none _|refine LeO.ite ?_ ?_|refine LeO.bind ?_ (fun _ => ?_))
theorem FaN.calls (k : Nat) (ar : Option Addr) (au : Nat) (ac : List ByteArray) (ae : ByteArray) (af : ByteArray) (ab : ByteArray) (r : ByteArray) (w : World) (ay : Kd.C Kd.string w ar ac.length ac) (az : ac.length ≤ au) (h : FaN.f k ac ae af ab = some r) :
  Calls Tryz.prog 226 #[.agg #[.slice ar ac.length au,.string ae,.string af,.string ab]] w fun e w' => e = .returned (.string r) ∧ Below w.heap.size w w' := by
 have hu157 := Tryz.underlying157;have aK := aM ay;have aL := aM az;clear ay az;have HB := aM (Below.refl w.heap.size w);have H : ((FaP.f k (([ae,af] : List ByteArray))).bind fun aa => (if (ac.length : Int) > 0 then (FaN.j0 k aa true ac ae af ab) else (FaN.j0 k aa (ab.toList != ([] : List UInt8)) ac ae af ab))) = some r := h;clear h;obtain ⟨aD,av⟩ : ∃ y_ : List ByteArray,y_ = (([ae,af] : List ByteArray)) := ⟨_,rfl⟩;replace H : ((FaP.f k aD).bind fun aa => (if (ac.length : Int) > 0 then (FaN.j0 k aa true ac ae af ab) else (FaN.j0 k aa (ab.toList != ([] : List UInt8)) ac ae af ab))) = some r := (yH_ av H);have aA := aM av;clear av;obtain ⟨aa,A2,H⟩ := bE_ H;have aV := aM H;clear H;go_enter Tryz.func226,Tryz.ntmps226;go_upto_region 2 with (first|((with_reducible refine gate_dst (N := 1) rfl ?_);refine bx_ (N := 1) (cs := #[.slice ar ac.length au,.string ae,.string af,.string ab]) (t := 157) ?_;intro aC hg w4 hbox hb;have ad := aM (hbox);have aN := aM ((by rw [hg];exact (lZ wB_) : w.heap.size ≤ aC));have GE172 := aN;replace HB := aM (lT wB_ hb);clear hb hbox hg;obtain ⟨_,_,_,_,_,_,_,_⟩ := z4_ ad.out)|((with_reducible refine gate_dst (N := 8) rfl ?_);refine Kd.R_lit Kd.string _ 9 ?hg (N := 8) ?hd (xs := ([ae,af] : List ByteArray)) (inner := [.string ae,.string af]) (ok := fun _ => True) (okp := fun _ => True) ?hr ?hp (fun _ hk => hk) trivial (Below.refl _ _) (Nat.le_refl _) (by simp) ?_;(case hd => rfl);(case hg => rfl);(case hr => first|(go_simp;done)|(go_simp;rfl));(case hp => exact (Reps.one (show Kd.M Kd.string _ _ _ ae [.string ae] from rfl) (Reps.one (show Kd.M Kd.string _ _ _ af [.string af] from rfl) (Reps.none _ _))));intro v174 w6 aO hb hg_ hnew_;clear hg_ hnew_;(first|rw [← aA.out] at aO|(simp only [Int.reduceToNat] at aO;rw [← aA.out] at aO));have aw := aM (Kd.R_lower aO (lZ wB_));replace ad := aM (bw_ ad.out hb);replace HB := aM (lT wB_ hb);clear hb aO;obtain ⟨aX,aY,aZ⟩ := Kd.R_slice aw.out;subst aZ)|((with_reducible refine gate_callee (f := 255) rfl ?_);refine gl_ (some 9) Tryz.func255 #[.slice aX aD.length aY] ?_;(with_reducible refine (FaP.calls k _ _ aD aa _ ?side1 ?side2 A2.out).mono ?_);(case side1 => exact wY_ (rR aw.out).2.2);(case side2 => exact (rR aw.out).2.1);rintro e w' ⟨rfl,⟨nd,rfl⟩⟩;refine ⟨_,rfl,?_⟩));(try simp only [Act.put,lI,sZ,sS]);go_cut [18] (fun a0 wc => ∃ (kq : Nat) (ah : Bool),a0 = .bool ah ∧ Aside0 (FaN.j0 kq aa ah ac ae af ab = some r) ∧ Aside0 (kq ≤ k) ∧ Aside0 (wc.heap[aC]? = some (.cells #[(.slice ar ac.length au),.string ae,.string af,.string ab] 157 (0,0))) ∧ Aside0 (Below w.heap.size w wc))
 case first =>
  have H := aV.out;clear aV
  by_cases c9 : (ac.length : Int) > 0
  focus
   rw [if_pos c9] at H;have ax : decide (0 < (ac.length : Int)) = true := dT c9;have aW : decide (0 < ac.length) = true := dT (by omega);clear c9;(first|rw [ax]|(simp only [i64_w,i32_w];rw [ax])|skip);have H' := aM H;clear H
  rotate_left
  focus
   rw [if_neg c9] at H;have ax : decide (0 < (ac.length : Int)) = false := dF c9;have aW : decide (0 < ac.length) = false := dF (by omega);clear c9;(first|rw [ax]|(simp only [i64_w,i32_w];rw [ax])|skip);have H' := aM H;clear H
  all_goals
   obtain ⟨ai,aj,ak,al,am,an,ao,ap⟩ := z4_ ad.out;go_wp2;go_meet
   case rel => first|(exact ⟨_,(true),vR_,H',⟨by first|omega|exact Nat.le_refl _⟩,⟨wC_ ad.out⟩,⟨wB_⟩⟩)|(exact ⟨_,((ab.toList != ([] : List UInt8))),vR_,H',⟨by first|omega|exact Nat.le_refl _⟩,⟨wC_ ad.out⟩,⟨wB_⟩⟩)
 case rest =>
  clear aV;obtain ⟨kq,ah,rfl,HA,HJ2,ad,HB⟩ := hcut
  cases kq with
  | zero => exact absurd HA.out (by simp [FaN.j0])
  | succ kj2 =>
   have H := HA.out;clear HA;simp only [FaN.j0] at H
   by_cases c12 : ah = true
   focus
    subst c12;rw [if_pos rfl] at H
    by_cases c13 : aa.size + 2 ≤ 9223372036854775807
    rotate_left;rw [if_neg c13] at H;exact nH_ H;rw [if_pos c13] at H;have c13b0 := eq_true c13;have c13b1 := dT c13;(try have c13b2 : (9223372036854775807 < aa.size + 2) = False := eq_false (Nat.not_lt.2 c13));obtain ⟨ag,a1,H⟩ := bE_ H
    by_cases c15 : (aa ++ (⟨#[44,32]⟩ : ByteArray)).size + ag.size ≤ 9223372036854775807
    rotate_left;rw [if_neg c15] at H;exact nH_ H;rw [if_pos c15] at H;have c15b0 := eq_true c15;have c15b1 := dT c15;(try have c15b3 : (9223372036854775807 < aa.size + 2 + ag.size) = False := eq_false (by have h_ := c15;simp only [ByteArray.size_append,ByteArray.size_extract] at h_;have hs0_ : (⟨#[44,32]⟩ : ByteArray).size = 2 := rfl;omega));(try have c15b2 : (9223372036854775807 < (aa ++ (⟨#[44,32]⟩ : ByteArray)).size + ag.size) = False := eq_false (Nat.not_lt.2 c15))
    by_cases aE : ab.toList = ([] : List UInt8)
    focus
     rw [if_pos aE] at H;have aP := qE.mpr aE;have aQ := qN.mpr aE;clear aE;obtain rfl := oI H
    rotate_left
    focus
     rw [if_neg aE] at H;have aP := qF.mpr aE;have aQ := qB.mpr aE
     by_cases aG : ((aa ++ (⟨#[44,32]⟩ : ByteArray)) ++ ag).size + 2 ≤ 9223372036854775807
     rotate_left;rw [if_neg aG] at H;exact nH_ H;rw [if_pos aG] at H;have c20b0 := eq_true aG;have c20b1 := dT aG;(try have c20b3 : (9223372036854775807 < aa.size + 2 + ag.size + 2) = False := eq_false (by have h_ := aG;simp only [ByteArray.size_append,ByteArray.size_extract] at h_;have hs0_ : (⟨#[44,32]⟩ : ByteArray).size = 2 := rfl;omega));(try have c20b2 : (9223372036854775807 < ((aa ++ (⟨#[44,32]⟩ : ByteArray)) ++ ag).size + 2) = False := eq_false (Nat.not_lt.2 aG))
     by_cases aH : (((aa ++ (⟨#[44,32]⟩ : ByteArray)) ++ ag) ++ (⟨#[44,32]⟩ : ByteArray)).size + ab.size ≤ 9223372036854775807
     rotate_left;rw [if_neg aH] at H;exact nH_ H;rw [if_pos aH] at H;have c21b0 := eq_true aH;have c21b1 := dT aH;(try have c21b3 : (9223372036854775807 < aa.size + 2 + ag.size + 2 + ab.size) = False := eq_false (by have h_ := aH;simp only [ByteArray.size_append,ByteArray.size_extract] at h_;have hs0_ : (⟨#[44,32]⟩ : ByteArray).size = 2 := rfl;omega));(try have c21b2 : (9223372036854775807 < (((aa ++ (⟨#[44,32]⟩ : ByteArray)) ++ ag) ++ (⟨#[44,32]⟩ : ByteArray)).size + ab.size) = False := eq_false (Nat.not_lt.2 aH));obtain rfl := oI H
   rotate_left 2
   focus
    replace c12 := qO.mpr c12;subst c12;rw [if_neg qT] at H
    by_cases aF : ab.toList = ([] : List UInt8)
    focus
     rw [if_pos aF] at H;have aR := qE.mpr aF;have aT := qN.mpr aF;clear aF;obtain rfl := oI H
    rotate_left
    focus
     rw [if_neg aF] at H;have aR := qF.mpr aF;have aT := qB.mpr aF
     by_cases aU : aa.size + 2 ≤ 9223372036854775807
     rotate_left;rw [if_neg aU] at H;exact nH_ H;rw [if_pos aU] at H;have c27b0 := eq_true aU;have c27b1 := dT aU;(try have c27b2 : (9223372036854775807 < aa.size + 2) = False := eq_false (Nat.not_lt.2 aU))
     by_cases aJ : (aa ++ (⟨#[44,32]⟩ : ByteArray)).size + ab.size ≤ 9223372036854775807
     rotate_left;rw [if_neg aJ] at H;exact nH_ H;rw [if_pos aJ] at H;have c28b0 := eq_true aJ;have c28b1 := dT aJ;(try have c28b3 : (9223372036854775807 < aa.size + 2 + ab.size) = False := eq_false (by have h_ := aJ;simp only [ByteArray.size_append,ByteArray.size_extract] at h_;have hs0_ : (⟨#[44,32]⟩ : ByteArray).size = 2 := rfl;omega));(try have c28b2 : (9223372036854775807 < (aa ++ (⟨#[44,32]⟩ : ByteArray)).size + ab.size) = False := eq_false (Nat.not_lt.2 aJ));obtain rfl := oI H
   all_goals
    obtain ⟨ai,aj,ak,al,am,an,ao,ap⟩ := z4_ ad.out;go_wp2_with (first|((with_reducible refine gate_callee (f := 256) rfl ?_);refine gl_ (some 22) Tryz.func256 #[.agg #[.slice ar ac.length au,.string ae,.string af,.string ab]] ?_;(with_reducible refine (FbU.calls _ _ _ _ _ _ _ _ _ ?side1 ?side2 a1.out).mono ?_);(case side1 => exact wX_ aK.out);(case side2 => exact aL.out);rintro e WA14 ⟨rfl,hb⟩;refine ⟨_,rfl,?_⟩;replace ad := aM (bw_ ad.out hb);replace HB := aM (lT wB_ hb);obtain ⟨_,_,_,_,_,_,_,_⟩ := z4_ ad.out));go_ret;exact ⟨vR_,wB_⟩
def Fa2.l0 : Nat → List (S157) → ByteArray → Int → Option (ByteArray)
 | 0,_,_,_ => none
 | k + 1,x0,x3,x4 => if x4 < (x0.length : Int) then (if x4 > 0 then (if x3.size + 2 ≤ 9223372036854775807 then (if 0 ≤ x4 then ((FaN.f k ((Fat x0 x4).f0) ((Fat x0 x4).f1) ((Fat x0 x4).f2) ((Fat x0 x4).f3)).bind fun aa => (if (x3 ++ (⟨#[59,32]⟩ : ByteArray)).size + aa.size ≤ 9223372036854775807 then (Fa2.l0 k x0 ((x3 ++ (⟨#[59,32]⟩ : ByteArray)) ++ aa) (wrap64 (x4 + 1))) else (none))) else (none)) else (none)) else (if 0 ≤ x4 then ((FaN.f k ((Fat x0 x4).f0) ((Fat x0 x4).f1) ((Fat x0 x4).f2) ((Fat x0 x4).f3)).bind fun ab => (if x3.size + ab.size ≤ 9223372036854775807 then (Fa2.l0 k x0 (x3 ++ ab) (wrap64 (x4 + 1))) else (none))) else (none))) else (some x3)
def Fa2.f (k : Nat) (l0 : List (S157)) : Option (ByteArray) := Fa2.l0 k l0 (⟨#[]⟩ : ByteArray) 0
theorem Fa2.mono_l : ∀ k,(∀ y0 y1 y2,LeO (Fa2.l0 k y0 y1 y2) (Fa2.l0 (k + 1) y0 y1 y2))
 | 0 => fun _ _ _ r h => by simp [Fa2.l0] at h
 | k + 1 => by
  have ih0 := Fa2.mono_l k
  ·intro y0 y1 y2
   unfold Fa2.l0
   repeat' (first|with_reducible (first|exact ih0 _ _ _|exact FaN.mono _ _ _ _ _|exact LeO.refl _|exact LeO.none _|refine LeO.ite ?_ ?_|refine LeO.bind ?_ (fun _ => ?_))|exact LeO.none _|refine LeO.ite ?_ ?_|refine LeO.bind ?_ (fun _ => ?_))
theorem Fa2.mono : ∀ a0 k,LeO (Fa2.f k a0) (Fa2.f (k + 1) a0) := by
 intro a0 k
 have ih0 := Fa2.mono_l k
 unfold Fa2.f
 repeat' (first|with_reducible (first|exact ih0 _ _ _|exact FaN.mono _ _ _ _ _|exact LeO.refl _|exact LeO.none _|refine LeO.ite ?_ ?_|refine LeO.bind ?_ (fun _ => ?_))|exact LeO.none _|refine LeO.ite ?_ ?_|refine LeO.bind ?_ (fun _ => ?_))
theorem Fa2.calls (k : Nat) (A0 : Option Addr) (c0 : Nat) (l0 : List (S157)) (r : ByteArray) (w : World) (aw : Kd.C k157 w A0 l0.length l0) (ax : l0.length ≤ c0) (h : Fa2.f k l0 = some r) :
  Calls Tryz.prog 181 #[.slice A0 l0.length c0] w fun e w' => e = .returned (.string r) ∧ Below w.heap.size w w' := by
 have hu157 := Tryz.underlying157;have ay := aM aw;have HC0 := aM ax;clear aw ax;have HB := aM (Below.refl w.heap.size w);have H : (Fa2.l0 k l0 (⟨#[]⟩ : ByteArray) 0) = some r := h;clear h;have H' := aM H;clear H;go_enter Tryz.func181,Tryz.ntmps181;go_wp2;go_loopg [3,4] k (fun kq v3 v4 w' => ∃ (ab : ByteArray) (aa : Int),v3 = .string ab ∧ v4 = .int .i64 aa ∧ Aside0 (Fa2.l0 kq l0 ab aa = some r) ∧ Aside0 (kq ≤ k) ∧ Aside0 (Below w.heap.size w w'))
 case atStart => exact ⟨((⟨#[]⟩ : ByteArray)),(0),vR_,vR_,H',⟨Nat.le_refl _⟩,⟨wB_⟩⟩
 case round =>
  clear H';obtain ⟨ab,aa,rfl,rfl,HA,ao,HB⟩ := hrel
  cases gk with
  | zero => exact absurd HA.out (by simp [Fa2.l0])
  | succ k1 =>
   have H := HA.out;clear HA;simp only [Fa2.l0] at H
   by_cases c2 : aa < (l0.length : Int)
   focus
    rw [if_pos c2] at H;have ap := dT c2;clear c2
    by_cases c3 : aa > 0
    focus
     rw [if_pos c3] at H;have ar : decide (0 < aa) = true := dT c3;clear c3
     by_cases c4 : ab.size + 2 ≤ 9223372036854775807
     rotate_left;rw [if_neg c4] at H;exact nH_ H;rw [if_pos c4] at H;have c4b0 := eq_true c4;have c4b1 := dT c4;(try have c4b2 : (9223372036854775807 < ab.size + 2) = False := eq_false (Nat.not_lt.2 c4))
     by_cases c5 : 0 ≤ aa
     rotate_left;rw [if_neg c5] at H;exact nH_ H;rw [if_pos c5] at H;have c5b0 := dT c5;clear c5;obtain ⟨ak,A6,H⟩ := bE_ H
     by_cases c7 : (ab ++ (⟨#[59,32]⟩ : ByteArray)).size + ak.size ≤ 9223372036854775807
     rotate_left;rw [if_neg c7] at H;exact nH_ H;rw [if_pos c7] at H;have c7b0 := eq_true c7;have c7b1 := dT c7;(try have c7b3 : (9223372036854775807 < ab.size + 2 + ak.size) = False := eq_false (by have h_ := c7;simp only [ByteArray.size_append,ByteArray.size_extract] at h_;have hs0_ : (⟨#[59,32]⟩ : ByteArray).size = 2 := rfl;omega));(try have c7b2 : (9223372036854775807 < (ab ++ (⟨#[59,32]⟩ : ByteArray)).size + ak.size) = False := eq_false (Nat.not_lt.2 c7));have H' := aM H;clear H
    rotate_left
    focus
     rw [if_neg c3] at H;have ar : decide (0 < aa) = false := dF c3;clear c3
     by_cases c9 : 0 ≤ aa
     rotate_left;rw [if_neg c9] at H;exact nH_ H;rw [if_pos c9] at H;have c9b0 := dT c9;clear c9;obtain ⟨an,az,H⟩ := bE_ H
     by_cases c11 : ab.size + an.size ≤ 9223372036854775807
     rotate_left;rw [if_neg c11] at H;exact nH_ H;rw [if_pos c11] at H;have c11b0 := eq_true c11;have c11b1 := dT c11;(try have c11b2 : (9223372036854775807 < ab.size + an.size) = False := eq_false (Nat.not_lt.2 c11));have H' := aM H;clear H
   rotate_left 2
   focus
    rw [if_neg c2] at H;have ap := dF c2;clear c2;obtain rfl := oI H
   all_goals
    (try (have au : 0 ≤ (aa : Int) := oD (by assumption);have av : aa < (l0.length : Int) := oD (by assumption);obtain ⟨ad01,al,am,aA,ac,ad,ae,af,ag,ah⟩ := Fct ay.out aa au av;cases aA;replace ac := mv_ HB.out ac;replace ad := mv_ HB.out ad;replace ae := mv_ HB.out ae;replace af := mv_ HB.out af;have ai := aM ah;have aj := aM ag;clear ah ag;replace au := eq_true au;replace av := eq_true av));go_wp2_with (first|((with_reducible refine gate_callee (f := 226) rfl ?_);refine gl_ (some 20) Tryz.func226 #[.agg #[.slice al ((Fat l0 aa).f0).length am,.string ((Fat l0 aa).f1),.string ((Fat l0 aa).f2),.string ((Fat l0 aa).f3)]] ?_;(with_reducible refine (FaN.calls _ _ _ _ _ _ _ _ _ ?side1 ?side2 az.out).mono ?_);(case side1 => exact wX_ ai.out);(case side2 => exact aj.out);rintro e WA10 ⟨rfl,hb⟩;refine ⟨_,rfl,?_⟩;replace HB := aM (lT wB_ hb))|((with_reducible refine gate_callee (f := 226) rfl ?_);refine gl_ (some 20) Tryz.func226 #[.agg #[.slice al ((Fat l0 aa).f0).length am,.string ((Fat l0 aa).f1),.string ((Fat l0 aa).f2),.string ((Fat l0 aa).f3)]] ?_;(with_reducible refine (FaN.calls _ _ _ _ _ _ _ _ _ ?side1 ?side2 A6.out).mono ?_);(case side1 => exact wX_ ai.out);(case side2 => exact aj.out);rintro e WA6 ⟨rfl,hb⟩;refine ⟨_,rfl,?_⟩;replace HB := aM (lT wB_ hb)))
    first
     |
      go_ret;exact ⟨vR_,wB_⟩
     |
      go_roundg k1
      case measure => have := ao.out;omega
      case rel => first|(exact ⟨((ab ++ (⟨#[59,32]⟩ : ByteArray)) ++ ak),(wrap64 (aa + 1)),vR_,vR_,H',⟨by have := ao.out;omega⟩,⟨wB_⟩⟩)|(exact ⟨(ab ++ an),(wrap64 (aa + 1)),vR_,vR_,H',⟨by have := ao.out;omega⟩,⟨wB_⟩⟩)
def Fbg.l0 : Nat → Int → ByteArray → Option (ByteArray)
 | 0,_,_ => none
 | k + 1,x1,x5 => if (x5.size : Int) < x1 then (if 1 + x5.size ≤ 9223372036854775807 then (Fbg.l0 k x1 ((⟨#[48]⟩ : ByteArray) ++ x5)) else (none)) else (some x5)
def Fbg.f (k : Nat) (a0 : Int) (a1 : Int) : Option (ByteArray) := (FaY.f k a0).bind fun aa => (Fbg.l0 k a1 aa)
theorem Fbg.mono_l : ∀ k,(∀ y0 y1,LeO (Fbg.l0 k y0 y1) (Fbg.l0 (k + 1) y0 y1))
 | 0 => fun _ _ r h => by simp [Fbg.l0] at h
 | k + 1 => by
  have ih0 := Fbg.mono_l k
  ·intro y0 y1
   unfold Fbg.l0
   repeat' (first|with_reducible (first|exact ih0 _ _|exact FaY.mono _ _|exact LeO.refl _|exact LeO.none _|refine LeO.ite ?_ ?_|refine LeO.bind ?_ (fun _ => ?_))|exact LeO.none _|refine LeO.ite ?_ ?_|refine LeO.bind ?_ (fun _ => ?_))
theorem Fbg.mono : ∀ a0 a1 k,LeO (Fbg.f k a0 a1) (Fbg.f (k + 1) a0 a1) := by
 intro a0 a1 k
 have ih0 := Fbg.mono_l k
 unfold Fbg.f
 repeat' (first|with_reducible (first|exact ih0 _ _|exact FaY.mono _ _|exact LeO.refl _|exact LeO.none _|refine LeO.ite ?_ ?_|refine LeO.bind ?_ (fun _ => ?_))|exact LeO.none _|refine LeO.ite ?_ ?_|refine LeO.bind ?_ (fun _ => ?_))
theorem Fbg.calls (k : Nat) (a0 : Int) (a1 : Int) (r : ByteArray) (w : World) (h : Fbg.f k a0 a1 = some r) :
  Calls Tryz.prog 227 #[.int .i64 a0,.int .i64 a1] w fun e w' => e = .returned (.string r) ∧ Below w.heap.size w w' := by
 have HB := aM (Below.refl w.heap.size w);have H : ((FaY.f k a0).bind fun ab => (Fbg.l0 k a1 ab)) = some r := h;clear h;obtain ⟨ab,A3,H⟩ := bE_ H;have H' := aM H;clear H;go_enter Tryz.func227,Tryz.ntmps227;go_wp2_with (first|((with_reducible refine gate_callee (f := 142) rfl ?_);refine gl_ (some 7) Tryz.func142 #[.int .i64 a0] ?_;(with_reducible refine (FaY.calls k a0 ab _ A3.out).mono ?_);rintro e w4 ⟨rfl,hb⟩;refine ⟨_,rfl,?_⟩;replace HB := aM (lT wB_ hb)));go_loopg [5] k (fun kq v5 w' => ∃ (aa : ByteArray),v5 = .string aa ∧ Aside0 (Fbg.l0 kq a1 aa = some r) ∧ Aside0 (kq ≤ k) ∧ Aside0 (Below w.heap.size w w'))
 case atStart => exact ⟨(ab),vR_,H',⟨Nat.le_refl _⟩,⟨wB_⟩⟩
 case round =>
  clear H';obtain ⟨aa,rfl,HA,ad,HB⟩ := hrel
  cases gk with
  | zero => exact absurd HA.out (by simp [Fbg.l0])
  | succ k1 =>
   have H := HA.out;clear HA;simp only [Fbg.l0] at H
   by_cases c5 : (aa.size : Int) < a1
   ·rw [if_pos c5] at H;have ac := dT c5;clear c5
    by_cases c6 : 1 + aa.size ≤ 9223372036854775807
    ·rw [if_pos c6] at H;have c6b0 := eq_true c6;have c6b1 := dT c6;(try have c6b2 : (9223372036854775807 < 1 + aa.size) = False := eq_false (Nat.not_lt.2 c6));have H' := aM H;clear H;go_wp2;go_roundg k1
     case measure => have := ad.out;omega
     case rel => exact ⟨((⟨#[48]⟩ : ByteArray) ++ aa),vR_,H',⟨by have := ad.out;omega⟩,⟨wB_⟩⟩
    ·rw [if_neg c6] at H;exact nH_ H
   ·rw [if_neg c5] at H;have ac := dF c5;clear c5;obtain rfl := oI H;go_wp2;go_ret;exact ⟨vR_,wB_⟩
def Fbj.j0 : Nat → ByteArray → Int → Int → Int → Bool → Option (ByteArray)
 | 0,_,_,_,_,_ => none
 | k + 1,x3,x184000,x184001,aa,ab => if aa > 0 then (if x3.size + 1 ≤ 9223372036854775807 then ((Fbg.f k aa 2).bind fun ac => (if (x3 ++ (⟨#[45]⟩ : ByteArray)).size + ac.size ≤ 9223372036854775807 then (if ab = true then (if 1 + ((x3 ++ (⟨#[45]⟩ : ByteArray)) ++ ac).size ≤ 9223372036854775807 then (some ((⟨#[99]⟩ : ByteArray) ++ ((x3 ++ (⟨#[45]⟩ : ByteArray)) ++ ac))) else (none)) else (some ((x3 ++ (⟨#[45]⟩ : ByteArray)) ++ ac))) else (none))) else (none)) else (if ab = true then (if 1 + x3.size ≤ 9223372036854775807 then (some ((⟨#[99]⟩ : ByteArray) ++ x3)) else (none)) else (some x3))
def Fbj.f (k : Nat) (aa : Int) (ab : Int) (ad : Int) (ae : Bool) : Option (ByteArray) := if aa = 0 then (some (⟨#[117,110,107,110,111,119,110]⟩ : ByteArray)) else ((Fbg.f k aa 4).bind fun ac => (if ab > 0 then (if ac.size + 1 ≤ 9223372036854775807 then ((Fbg.f k ab 2).bind fun af => (if (ac ++ (⟨#[45]⟩ : ByteArray)).size + af.size ≤ 9223372036854775807 then (Fbj.j0 k ((ac ++ (⟨#[45]⟩ : ByteArray)) ++ af) aa ab ad ae) else (none))) else (none)) else (Fbj.j0 k ac aa ab ad ae)))
theorem Fbj.mono_l : ∀ k,(∀ y0 y1 y2 y3 y4,LeO (Fbj.j0 k y0 y1 y2 y3 y4) (Fbj.j0 (k + 1) y0 y1 y2 y3 y4))
 | 0 => fun _ _ _ _ _ r h => by simp [Fbj.j0] at h
 | k + 1 => by
  have ih0 := Fbj.mono_l k
  ·intro y0 y1 y2 y3 y4
   unfold Fbj.j0
   repeat' (first|with_reducible (first|exact ih0 _ _ _ _ _|exact Fbg.mono _ _ _|exact LeO.refl _|exact LeO.none _|refine LeO.ite ?_ ?_|refine LeO.bind ?_ (fun _ => ?_))|exact LeO.none _|refine LeO.ite ?_ ?_|refine LeO.bind ?_ (fun _ => ?_))
theorem Fbj.mono : ∀ a0 a1 a2 a3 k,LeO (Fbj.f k a0 a1 a2 a3) (Fbj.f (k + 1) a0 a1 a2 a3) := by
 intro a0 a1 a2 a3 k
 have ih0 := Fbj.mono_l k
 unfold Fbj.f
 repeat' (first|with_reducible (first|exact ih0 _ _ _ _ _|exact Fbg.mono _ _ _|exact LeO.refl _|exact LeO.none _|refine LeO.ite ?_ ?_|refine LeO.bind ?_ (fun _ => ?_))|exact LeO.none _|refine LeO.ite ?_ ?_|refine LeO.bind ?_ (fun _ => ?_))
theorem Fbj.calls (k : Nat) (ac : Int) (ab : Int) (ad : Int) (ag : Bool) (r : ByteArray) (w : World) (h : Fbj.f k ac ab ad ag = some r) :
  Calls Tryz.prog 182 #[.agg #[.int .i64 ac,.int .i64 ab,.int .i64 ad,.bool ag]] w fun e w' => e = .returned (.string r) ∧ Below w.heap.size w w' := by
 have hu39 := Tryz.underlying39;have HB := aM (Below.refl w.heap.size w);have H : (if ac = 0 then (some (⟨#[117,110,107,110,111,119,110]⟩ : ByteArray)) else ((Fbg.f k ac 4).bind fun ae => (if ab > 0 then (if ae.size + 1 ≤ 9223372036854775807 then ((Fbg.f k ab 2).bind fun ah => (if (ae ++ (⟨#[45]⟩ : ByteArray)).size + ah.size ≤ 9223372036854775807 then (Fbj.j0 k ((ae ++ (⟨#[45]⟩ : ByteArray)) ++ ah) ac ab ad ag) else (none))) else (none)) else (Fbj.j0 k ae ac ab ad ag)))) = some r := h;clear h
 by_cases c2 : ac = 0
 ·rw [if_pos c2] at H;have aJ := qE.mpr c2;have aK := qN.mpr c2;clear c2;obtain rfl := oI H;go_enter Tryz.func182,Tryz.ntmps182;go_wp2_with (first|((with_reducible refine gate_dst (N := 1) rfl ?_);refine bx_ (N := 1) (cs := #[.int .i64 ac,.int .i64 ab,.int .i64 ad,.bool ag]) (t := 39) ?_;intro au hg w3 hbox hb;have aa := aM (hbox);have aw := aM ((by rw [hg];exact (lZ wB_) : w.heap.size ≤ au));have aA := aw;replace HB := aM (lT wB_ hb);clear hb hbox hg;obtain ⟨_,_,_,_,_,_,_,_⟩ := z4_ aa.out));go_ret;exact ⟨vR_,wB_⟩
 ·rw [if_neg c2] at H;have aJ := qF.mpr c2;have aK := qB.mpr c2;obtain ⟨ae,A5,H⟩ := bE_ H;have aL := aM H;clear H;go_enter Tryz.func182,Tryz.ntmps182;go_upto_if 12 with (first|((with_reducible refine gate_dst (N := 1) rfl ?_);refine bx_ (N := 1) (cs := #[.int .i64 ac,.int .i64 ab,.int .i64 ad,.bool ag]) (t := 39) ?_;intro au hg w7 hbox hb;have aa := aM (hbox);have aw := aM ((by rw [hg];exact (lZ wB_) : w.heap.size ≤ au));have aA := aw;replace HB := aM (lT wB_ hb);clear hb hbox hg;obtain ⟨_,_,_,_,_,_,_,_⟩ := z4_ aa.out)|((with_reducible refine gate_callee (f := 227) rfl ?_);refine gl_ (some 9) Tryz.func227 #[.int .i64 ac,.int .i64 4] ?_;(with_reducible refine (Fbg.calls k ac 4 ae _ A5.out).mono ?_);rintro e w9 ⟨rfl,hb⟩;refine ⟨_,rfl,?_⟩;replace aa := aM (bw_ aa.out hb);replace HB := aM (lT wB_ hb);obtain ⟨_,_,_,_,_,_,_,_⟩ := z4_ aa.out));(try simp only [Act.put,lI,sZ,sS]);go_cut [3] (fun v3 wc => ∃ (kq : Nat) (af : ByteArray),v3 = .string af ∧ Aside0 (Fbj.j0 kq af ac ab ad ag = some r) ∧ Aside0 (kq ≤ k) ∧ Aside0 (wc.heap[au]? = some (.cells #[.int .i64 ac,.int .i64 ab,.int .i64 ad,.bool ag] 39 (0,0))) ∧ Aside0 (Below w.heap.size w wc))
  case first =>
   have H := aL.out;clear aL
   by_cases c11 : ab > 0
   ·rw [if_pos c11] at H;have ai : decide (0 < ab) = true := dT c11;clear c11;(first|rw [ai]|(simp only [i64_w,i32_w];rw [ai])|skip)
    by_cases aC : ae.size + 1 ≤ 9223372036854775807
    ·rw [if_pos aC] at H;have c12b0 := eq_true aC;have c12b1 := dT aC;(try have c12b2 : (9223372036854775807 < ae.size + 1) = False := eq_false (Nat.not_lt.2 aC));obtain ⟨ah,aP,H⟩ := bE_ H
     by_cases ax : (ae ++ (⟨#[45]⟩ : ByteArray)).size + ah.size ≤ 9223372036854775807
     ·rw [if_pos ax] at H;have c14b0 := eq_true ax;have c14b1 := dT ax;(try have c14b3 : (9223372036854775807 < ae.size + 1 + ah.size) = False := eq_false (by have h_ := ax;simp only [ByteArray.size_append,ByteArray.size_extract] at h_;have hs0_ : (⟨#[45]⟩ : ByteArray).size = 1 := rfl;omega));(try have c14b2 : (9223372036854775807 < (ae ++ (⟨#[45]⟩ : ByteArray)).size + ah.size) = False := eq_false (Nat.not_lt.2 ax));have H' := aM H;clear H;obtain ⟨_,_,_,_,_,_,_,_⟩ := z4_ aa.out;go_wp2_with (first|((with_reducible refine gate_callee (f := 227) rfl ?_);refine gl_ (some 17) Tryz.func227 #[.int .i64 ab,.int .i64 2] ?_;(with_reducible refine (Fbg.calls k ab 2 ah _ aP.out).mono ?_);rintro e w16 ⟨rfl,hb⟩;refine ⟨_,rfl,?_⟩;replace aa := aM (bw_ aa.out hb);replace HB := aM (lT wB_ hb)));go_meet
      case rel => exact ⟨_,((ae ++ (⟨#[45]⟩ : ByteArray)) ++ ah),vR_,H',⟨by first|omega|exact Nat.le_refl _⟩,⟨wC_ aa.out⟩,⟨wB_⟩⟩
     ·rw [if_neg ax] at H;exact nH_ H
    ·rw [if_neg aC] at H;exact nH_ H
   ·rw [if_neg c11] at H;have ai : decide (0 < ab) = false := dF c11;clear c11;(first|rw [ai]|(simp only [i64_w,i32_w];rw [ai])|skip);have H' := aM H;clear H;go_wp2;go_meet
    case rel => exact ⟨_,(ae),vR_,H',⟨by first|omega|exact Nat.le_refl _⟩,⟨wC_ aa.out⟩,⟨wB_⟩⟩
  case rest =>
   clear aL;obtain ⟨kq,af,rfl,HA,HJ5,aa,HB⟩ := hcut
   cases kq with
   | zero => exact absurd HA.out (by simp [Fbj.j0])
   | succ kj5 =>
    have H := HA.out;clear HA;simp only [Fbj.j0] at H
    by_cases ay : ad > 0
    focus
     rw [if_pos ay] at H;have aD : decide (0 < ad) = true := dT ay;clear ay
     by_cases aE : af.size + 1 ≤ 9223372036854775807
     rotate_left;rw [if_neg aE] at H;exact nH_ H;rw [if_pos aE] at H;have c18b0 := eq_true aE;have c18b1 := dT aE;(try have c18b2 : (9223372036854775807 < af.size + 1) = False := eq_false (Nat.not_lt.2 aE));obtain ⟨av,aO,H⟩ := bE_ H
     by_cases az : (af ++ (⟨#[45]⟩ : ByteArray)).size + av.size ≤ 9223372036854775807
     rotate_left;rw [if_neg az] at H;exact nH_ H;rw [if_pos az] at H;have c20b0 := eq_true az;have c20b1 := dT az;(try have c20b3 : (9223372036854775807 < af.size + 1 + av.size) = False := eq_false (by have h_ := az;simp only [ByteArray.size_append,ByteArray.size_extract] at h_;have hs0_ : (⟨#[45]⟩ : ByteArray).size = 1 := rfl;omega));(try have c20b2 : (9223372036854775807 < (af ++ (⟨#[45]⟩ : ByteArray)).size + av.size) = False := eq_false (Nat.not_lt.2 az))
     by_cases aG : ag = true
     focus
      subst aG;rw [if_pos rfl] at H
      by_cases c22 : 1 + ((af ++ (⟨#[45]⟩ : ByteArray)) ++ av).size ≤ 9223372036854775807
      rotate_left;rw [if_neg c22] at H;exact nH_ H;rw [if_pos c22] at H;have c22b0 := eq_true c22;have c22b1 := dT c22;(try have c22b3 : (9223372036854775807 < 1 + (af.size + 1 + av.size)) = False := eq_false (by have h_ := c22;simp only [ByteArray.size_append,ByteArray.size_extract] at h_;have hs0_ : (⟨#[45]⟩ : ByteArray).size = 1 := rfl;omega));(try have c22b2 : (9223372036854775807 < 1 + ((af ++ (⟨#[45]⟩ : ByteArray)) ++ av).size) = False := eq_false (Nat.not_lt.2 c22));obtain rfl := oI H
     rotate_left
     focus
      replace aG := qO.mpr aG;subst aG;rw [if_neg qT] at H;obtain rfl := oI H
    rotate_left 2
    focus
     rw [if_neg ay] at H;have aD : decide (0 < ad) = false := dF ay;clear ay
     by_cases aH : ag = true
     focus
      subst aH;rw [if_pos rfl] at H
      by_cases aF : 1 + af.size ≤ 9223372036854775807
      rotate_left;rw [if_neg aF] at H;exact nH_ H;rw [if_pos aF] at H;have c30b0 := eq_true aF;have c30b1 := dT aF;(try have c30b2 : (9223372036854775807 < 1 + af.size) = False := eq_false (Nat.not_lt.2 aF));obtain rfl := oI H
     rotate_left
     focus
      replace aH := qO.mpr aH;subst aH;rw [if_neg qT] at H;obtain rfl := oI H
    all_goals
     obtain ⟨_,_,_,_,_,_,_,_⟩ := z4_ aa.out;go_wp2_with (first|((with_reducible refine gate_callee (f := 227) rfl ?_);refine gl_ (some 26) Tryz.func227 #[.int .i64 ad,.int .i64 2] ?_;(with_reducible refine (Fbg.calls _ _ _ _ _ aO.out).mono ?_);rintro e aN ⟨rfl,hb⟩;refine ⟨_,rfl,?_⟩;replace aa := aM (bw_ aa.out hb);replace HB := aM (lT wB_ hb);obtain ⟨aj,ak,al,am,an,ao,ap,ar⟩ := z4_ aa.out)|((with_reducible refine gate_callee (f := 227) rfl ?_);refine gl_ (some 26) Tryz.func227 #[.int .i64 ad,.int .i64 2] ?_;(with_reducible refine (Fbg.calls _ _ _ _ _ aO.out).mono ?_);rintro e aN ⟨rfl,hb⟩;refine ⟨_,rfl,?_⟩;replace aa := aM (bw_ aa.out hb);replace HB := aM (lT wB_ hb);obtain ⟨aj,ak,al,am,an,ao,ap,ar⟩ := z4_ aa.out));go_ret;exact ⟨vR_,wB_⟩
def FbN.f (k : Nat) (a0_0 : ByteArray) (a0_1 : Int) (ae : List (S157)) (af : List (S157)) (ag : ByteArray) (ah : ByteArray) (ai : ByteArray) (ab : Int) (aj : Int) (ak : Int) (ac : Bool) (aa : Int) (ad : ByteArray) (a0_13 : ByteArray) (a1 : ByteArray) : Option (ByteArray × Bool) := if a1.toList = ([97,117,116,104,111,114,115] : List UInt8) then ((Fa2.f k ae).bind fun al => (some (al,true))) else (if a1.toList = ([101,100,105,116,111,114,115] : List UInt8) then ((Fa2.f k af).bind fun am => (some (am,true))) else (if a1.toList = ([116,105,116,108,101] : List UInt8) then (some (ag,true)) else (if a1.toList = ([99,111,110,116,97,105,110,101,114] : List UInt8) then (some (ah,true)) else (if a1.toList = ([112,117,98,108,105,115,104,101,114] : List UInt8) then (some (ai,true)) else (if a1.toList = ([112,97,103,101,115] : List UInt8) then (some (ad,true)) else (if a1.toList = ([100,97,116,101] : List UInt8) then (if ab = 0 then (some ((⟨#[]⟩ : ByteArray),true)) else ((Fbj.f k ab aj ak ac).bind fun an => (some (an,true)))) else (if a1.toList = ([118,111,108,117,109,101] : List UInt8) then (if aa = 0 then (some ((⟨#[]⟩ : ByteArray),true)) else ((FaY.f k aa).bind fun ao => (some (ao,true)))) else (some ((⟨#[]⟩ : ByteArray),false)))))))))
theorem FbN.mono : ∀ a0 a1 a2 a3 a4 a5 a6 a7 a8 a9 aa ab ac ad ae k,LeO (FbN.f k a0 a1 a2 a3 a4 a5 a6 a7 a8 a9 aa ab ac ad ae) (FbN.f (k + 1) a0 a1 a2 a3 a4 a5 a6 a7 a8 a9 aa ab ac ad ae) := by
 intro a0 a1 a2 a3 a4 a5 a6 a7 a8 a9 aa ab ac ad ae k
 unfold FbN.f
 repeat' (first|with_reducible (first|exact FaY.mono _ _|exact Fbj.mono _ _ _ _ _|exact Fa2.mono _ _|exact LeO.refl _|exact LeO.none _|refine LeO.ite ?_ ?_|refine LeO.bind ?_ (fun _ => ?_))|exact LeO.none _|refine LeO.ite ?_ ?_|refine LeO.bind ?_ (fun _ => ?_))
theorem FbN.calls (k : Nat) (ay : ByteArray) (az : Int) (ak : Option Addr) (al : Nat) (ac : List (S157)) (am : Option Addr) (an : Nat) (ad : List (S157)) (ao : ByteArray) (ap : ByteArray) (ar : ByteArray) (af : Int) (ah : Int) (ai : Int) (ae : Bool) (ab : Int) (ag : ByteArray) (aj : ByteArray) (a1 : ByteArray) (r1 : ByteArray) (r2 : Bool) (w : World) (au : Kd.C k157 w ak ac.length ac) (av : ac.length ≤ al) (aw : Kd.C k157 w am ad.length ad) (ax : ad.length ≤ an) (h : FbN.f k ay az ac ad ao ap ar af ah ai ae ab ag aj a1 = some (r1,r2)) :
  Calls Tryz.prog 144 #[.agg #[.string ay,.int .i64 az,.slice ak ac.length al,.slice am ad.length an,.string ao,.string ap,.string ar,.int .i64 af,.int .i64 ah,.int .i64 ai,.bool ae,.int .i64 ab,.string ag,.string aj],.string a1] w fun e w' => e = .returned (.tuple #[.string r1,.bool r2]) ∧ Below w.heap.size w w' := by
 have hu41 := Tryz.underlying41;have hu39 := Tryz.underlying39;have aJ := aM au;have aK := aM av;clear au av;have aL := aM aw;have aN := aM ax;clear aw ax;have HB := aM (Below.refl w.heap.size w);have H : (if a1.toList = ([97,117,116,104,111,114,115] : List UInt8) then ((Fa2.f k ac).bind fun aO => (some (aO,true))) else (if a1.toList = ([101,100,105,116,111,114,115] : List UInt8) then ((Fa2.f k ad).bind fun aP => (some (aP,true))) else (if a1.toList = ([116,105,116,108,101] : List UInt8) then (some (ao,true)) else (if a1.toList = ([99,111,110,116,97,105,110,101,114] : List UInt8) then (some (ap,true)) else (if a1.toList = ([112,117,98,108,105,115,104,101,114] : List UInt8) then (some (ar,true)) else (if a1.toList = ([112,97,103,101,115] : List UInt8) then (some (ag,true)) else (if a1.toList = ([100,97,116,101] : List UInt8) then (if af = 0 then (some ((⟨#[]⟩ : ByteArray),true)) else ((Fbj.f k af ah ai ae).bind fun aQ => (some (aQ,true)))) else (if a1.toList = ([118,111,108,117,109,101] : List UInt8) then (if ab = 0 then (some ((⟨#[]⟩ : ByteArray),true)) else ((FaY.f k ab).bind fun aR => (some (aR,true)))) else (some ((⟨#[]⟩ : ByteArray),false)))))))))) = some (r1,r2) := h;clear h
 by_cases c3 : a1.toList = ([97,117,116,104,111,114,115] : List UInt8)
 focus
  rw [if_pos c3] at H;have bc := qE.mpr c3;have bd := qN.mpr c3;clear c3;obtain ⟨aO,A4,H⟩ := bE_ H;simp only [eS,eP] at H;obtain ⟨rfl,rfl⟩ := H
 rotate_left
 focus
  rw [if_neg c3] at H;have bc := qF.mpr c3;have bd := qB.mpr c3
  by_cases c8 : a1.toList = ([101,100,105,116,111,114,115] : List UInt8)
  focus
   rw [if_pos c8] at H;have be := qE.mpr c8;have bf := qN.mpr c8;clear c8;obtain ⟨aP,A9,H⟩ := bE_ H;simp only [eS,eP] at H;obtain ⟨rfl,rfl⟩ := H
  rotate_left
  focus
   rw [if_neg c8] at H;have be := qF.mpr c8;have bf := qB.mpr c8
   by_cases aA : a1.toList = ([116,105,116,108,101] : List UInt8)
   focus
    rw [if_pos aA] at H;have aT := qE.mpr aA;have aU := qN.mpr aA;clear aA;simp only [eS,eP] at H;obtain ⟨rfl,rfl⟩ := H
   rotate_left
   focus
    rw [if_neg aA] at H;have aT := qF.mpr aA;have aU := qB.mpr aA
    by_cases aC : a1.toList = ([99,111,110,116,97,105,110,101,114] : List UInt8)
    focus
     rw [if_pos aC] at H;have aV := qE.mpr aC;have aW := qN.mpr aC;clear aC;simp only [eS,eP] at H;obtain ⟨rfl,rfl⟩ := H
    rotate_left
    focus
     rw [if_neg aC] at H;have aV := qF.mpr aC;have aW := qB.mpr aC
     by_cases aD : a1.toList = ([112,117,98,108,105,115,104,101,114] : List UInt8)
     focus
      rw [if_pos aD] at H;have aX := qE.mpr aD;have aY := qN.mpr aD;clear aD;simp only [eS,eP] at H;obtain ⟨rfl,rfl⟩ := H
     rotate_left
     focus
      rw [if_neg aD] at H;have aX := qF.mpr aD;have aY := qB.mpr aD
      by_cases c22 : a1.toList = ([112,97,103,101,115] : List UInt8)
      focus
       rw [if_pos c22] at H;have aZ := qE.mpr c22;have a0 := qN.mpr c22;clear c22;simp only [eS,eP] at H;obtain ⟨rfl,rfl⟩ := H
      rotate_left
      focus
       rw [if_neg c22] at H;have aZ := qF.mpr c22;have a0 := qB.mpr c22
       by_cases aE : a1.toList = ([100,97,116,101] : List UInt8)
       focus
        rw [if_pos aE] at H;have a2 := qE.mpr aE;have a3 := qN.mpr aE;clear aE
        by_cases aF : af = 0
        focus
         rw [if_pos aF] at H;have a4 := qE.mpr aF;have a5 := qN.mpr aF;clear aF;simp only [eS,eP] at H;obtain ⟨rfl,rfl⟩ := H
        rotate_left
        focus
         rw [if_neg aF] at H;have a4 := qF.mpr aF;have a5 := qB.mpr aF;obtain ⟨aQ,bg,H⟩ := bE_ H;simp only [eS,eP] at H;obtain ⟨rfl,rfl⟩ := H
       rotate_left 2
       focus
        rw [if_neg aE] at H;have a2 := qF.mpr aE;have a3 := qB.mpr aE
        by_cases aG : a1.toList = ([118,111,108,117,109,101] : List UInt8)
        focus
         rw [if_pos aG] at H;have a6 := qE.mpr aG;have a7 := qN.mpr aG;clear aG
         by_cases aH : ab = 0
         focus
          rw [if_pos aH] at H;have a8 := qE.mpr aH;have a9 := qN.mpr aH;clear aH;simp only [eS,eP] at H;obtain ⟨rfl,rfl⟩ := H
         rotate_left
         focus
          rw [if_neg aH] at H;have a8 := qF.mpr aH;have a9 := qB.mpr aH;obtain ⟨aR,bh,H⟩ := bE_ H;simp only [eS,eP] at H;obtain ⟨rfl,rfl⟩ := H
        rotate_left 2
        focus
         rw [if_neg aG] at H;have a6 := qF.mpr aG;have a7 := qB.mpr aG;simp only [eS,eP] at H;obtain ⟨rfl,rfl⟩ := H
 all_goals
  go_enter Tryz.func144,Tryz.ntmps144;go_wp2_with (first|((with_reducible refine gate_dst (N := 2) rfl ?_);refine bx_ (N := 2) (cs := #[.string ay,.int .i64 az,.slice ak ac.length al,.slice am ad.length an,.string ao,.string ap,.string ar,.int .i64 af,.int .i64 ah,.int .i64 ai,.bool ae,.int .i64 ab,.string ag,.string aj]) (t := 41) ?_;intro ba hg Wgb187 hbox hb;have aa := aM (hbox);have bb := aM ((by rw [hg];exact (lZ wB_) : w.heap.size ≤ ba));have GE187 := bb;replace HB := aM (lT wB_ hb);clear hb hbox hg;obtain ⟨_,_,_,_,_,_,_,_,_,_,_,_,_,_,_,_,_,_,_,_,_,_,_,_,_,_,_,_⟩ := z14_ aa.out)|((with_reducible refine gate_callee (f := 142) rfl ?_);refine gl_ (some 49) Tryz.func142 #[.int .i64 ab] ?_;(with_reducible refine (FaY.calls _ _ _ _ bh.out).mono ?_);rintro e WA37 ⟨rfl,hb⟩;refine ⟨_,rfl,?_⟩;replace aa := aM (bw_ aa.out hb);replace HB := aM (lT wB_ hb))|((with_reducible refine gate_callee (f := 182) rfl ?_);refine gl_ (some 41) Tryz.func182 #[.agg #[.int .i64 af,.int .i64 ah,.int .i64 ai,.bool ae]] ?_;(with_reducible refine (Fbj.calls _ _ _ _ _ _ _ bg.out).mono ?_);rintro e WA29 ⟨rfl,hb⟩;refine ⟨_,rfl,?_⟩;replace aa := aM (bw_ aa.out hb);replace HB := aM (lT wB_ hb))|((with_reducible refine gate_callee (f := 181) rfl ?_);refine gl_ (some 16) Tryz.func181 #[.slice am ad.length an] ?_;(with_reducible refine (Fa2.calls _ _ _ _ _ _ ?side1 ?side2 A9.out).mono ?_);(case side1 => exact wX_ aL.out);(case side2 => exact aN.out);rintro e WA9 ⟨rfl,hb⟩;refine ⟨_,rfl,?_⟩;replace aa := aM (bw_ aa.out hb);replace HB := aM (lT wB_ hb))|((with_reducible refine gate_callee (f := 181) rfl ?_);refine gl_ (some 11) Tryz.func181 #[.slice ak ac.length al] ?_;(with_reducible refine (Fa2.calls _ _ _ _ _ _ ?side1 ?side2 A4.out).mono ?_);(case side1 => exact wX_ aJ.out);(case side2 => exact aK.out);rintro e WA4 ⟨rfl,hb⟩;refine ⟨_,rfl,?_⟩;replace aa := aM (bw_ aa.out hb);replace HB := aM (lT wB_ hb)));go_ret2;exact ⟨vR_,wB_⟩
def Fce.f (a0 : Int) : Option (Bool) := if a0 ≥ 65 then (if a0 ≤ 90 then (some true) else (if a0 ≥ 97 then (some (decide (a0 ≤ 122))) else (some false))) else (if a0 ≥ 97 then (some (decide (a0 ≤ 122))) else (some false))
theorem Fce.calls (a0 : Int) (r : Bool) (w : World) (h : Fce.f a0 = some r) :
  Calls Tryz.prog 183 #[.int .u8 a0] w fun e w' => e = .returned (.bool r) ∧ Drawn0 w w' := by
 have H : (if a0 ≥ 65 then (if a0 ≤ 90 then (some true) else (if a0 ≥ 97 then (some (decide (a0 ≤ 122))) else (some false))) else (if a0 ≥ 97 then (some (decide (a0 ≤ 122))) else (some false))) = some r := h;clear h
 by_cases c2 : a0 ≥ 65
 focus
  rw [if_pos c2] at H;have aa : decide (65 ≤ a0) = true := dT c2;clear c2
  by_cases c3 : a0 ≤ 90
  focus
   rw [if_pos c3] at H;have ab := dT c3;clear c3;obtain rfl := oI H
  rotate_left
  focus
   rw [if_neg c3] at H;have ab := dF c3;clear c3
   by_cases c4 : a0 ≥ 97
   focus
    rw [if_pos c4] at H;have ac : decide (97 ≤ a0) = true := dT c4;clear c4;obtain rfl := oI H
   rotate_left
   focus
    rw [if_neg c4] at H;have ac : decide (97 ≤ a0) = false := dF c4;clear c4;obtain rfl := oI H
 rotate_left 3
 focus
  rw [if_neg c2] at H;have aa : decide (65 ≤ a0) = false := dF c2;clear c2
  by_cases c5 : a0 ≥ 97
  focus
   rw [if_pos c5] at H;have ad : decide (97 ≤ a0) = true := dT c5;clear c5;obtain rfl := oI H
  rotate_left
  focus
   rw [if_neg c5] at H;have ad : decide (97 ≤ a0) = false := dF c5;clear c5;obtain rfl := oI H
 all_goals
  go_enter Tryz.func183,Tryz.ntmps183;go_wp2;go_ret;exact ⟨vR_,dw_⟩
def FbV.f (a0 : Int) : Option (Int) := if a0 ≥ 65 then (if a0 ≤ 90 then (some ((a0 + 32) % 256)) else (some a0)) else (some a0)
theorem FbV.calls (a0 : Int) (r : Int) (w : World) (h : FbV.f a0 = some r) :
  Calls Tryz.prog 184 #[.int .u8 a0] w fun e w' => e = .returned (.int .u8 r) ∧ Drawn0 w w' := by
 have H : (if a0 ≥ 65 then (if a0 ≤ 90 then (some ((a0 + 32) % 256)) else (some a0)) else (some a0)) = some r := h;clear h
 by_cases c2 : a0 ≥ 65
 focus
  rw [if_pos c2] at H;have aa : decide (65 ≤ a0) = true := dT c2;clear c2
  by_cases c3 : a0 ≤ 90
  focus
   rw [if_pos c3] at H;have ab := dT c3;clear c3;obtain rfl := oI H
  rotate_left
  focus
   rw [if_neg c3] at H;have ab := dF c3;clear c3;obtain rfl := oI H
 rotate_left 2
 focus
  rw [if_neg c2] at H;have aa : decide (65 ≤ a0) = false := dF c2;clear c2;obtain rfl := oI H
 all_goals
  go_enter Tryz.func184,Tryz.ntmps184;go_wp2;go_ret;exact ⟨vR_,dw_⟩
end Go.Proofs.YtmafmhgmdegplaaGreatDoor.P
