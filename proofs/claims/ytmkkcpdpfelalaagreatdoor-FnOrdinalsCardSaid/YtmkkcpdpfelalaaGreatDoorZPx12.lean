/- Written by a program in this session: each theorem here says that a Go function computes the Lean function beside it, or that a law's row holds, under the conditions that the theorem itself states. -/
import Derived.Test.YtmkkcpdpfelalaaGreatDoorZPx0
import Derived.Test.YtmkkcpdpfelalaaGreatDoorZPx7
import Derived.Test.YtmkkcpdpfelalaaGreatDoorZPx9
import Derived.Test.YtmkkcpdpfelalaaGreatDoorZPx10
namespace Go.Proofs.YtmkkcpdpfelalaaGreatDoor.P
open Go.RowKit Go.Proofs.YtmkkcpdpfelalaaGreatDoorW.PrintWords Go.Proofs.YtmkkcpdpfelalaaGreatDoorW.PrintLast Go.Proofs.YtmkkcpdpfelalaaGreatDoorW.PrintMore
attribute [local go_sem] max2_int min2_int max_two min_two max_three min_three max_four min_four   -- for this text's walks alone
set_option linter.unusedVariables false
set_option linter.unusedSimpArgs false
mutual
def spec_l1Read.j0 : Nat → ByteArray → ByteArray → Bool → Option (Int × Bool)
 | 0,_,_,_ => none
 | k + 1,x0,x4,x15 => if x15 = true then (if 1 ≤ (x4.size : Int) then (spec_l1Read.j1 k x0 (x4.extract 1 x4.size)) else (none)) else (spec_l1Read.j1 k x0 x4)
def spec_l1Read.j1 : Nat → ByteArray → ByteArray → Option (Int × Bool)
 | 0,_,_ => none
 | k + 1,x0,x4 => (spec_l1In.f (x4.size : Int) 1 6).bind fun t381 => (if t381 = true then (spec_l1Read.l0 k x0 x4 0 0) else (some (0,false)))
def spec_l1Read.l0 : Nat → ByteArray → ByteArray → Int → Int → Option (Int × Bool)
 | 0,_,_,_,_ => none
 | k + 1,x0,x4,x5,x6 => if x6 < (x4.size : Int) then (if 0 ≤ x6 then (if (bt x4 x6) < 48 then (some (0,false)) else (if (bt x4 x6) > 57 then (some (0,false)) else (spec_l1Read.l0 k x0 x4 (wrap64 ((wrap64 (10 * x5)) + (((bt x4 x6) - 48) % 256))) (wrap64 (x6 + 1))))) else (none)) else (if (x4.size : Int) < (x0.size : Int) then ((spec_l1Num.f k (wrap64 (-x5))).bind fun t382 => (if t382.toList = x0.toList then (some (wrap64 (-x5),true)) else (some (0,false)))) else ((spec_l1Num.f k x5).bind fun t383 => (if t383.toList = x0.toList then (some (x5,true)) else (some (0,false)))))
end
def spec_l1Read.f (k : Nat) (a0 : ByteArray) : Option (Int × Bool) := if (a0.size : Int) > 1 then (if 0 < (a0.size : Int) then (spec_l1Read.j0 k a0 a0 ((bt a0 0) == 45)) else (none)) else (spec_l1Read.j0 k a0 a0 false)
theorem spec_l1Read.mono_l : ∀ k,(∀ y0 y1 y2,LeO (spec_l1Read.j0 k y0 y1 y2) (spec_l1Read.j0 (k + 1) y0 y1 y2)) ∧ (∀ y0 y1,LeO (spec_l1Read.j1 k y0 y1) (spec_l1Read.j1 (k + 1) y0 y1)) ∧ (∀ y0 y1 y2 y3,LeO (spec_l1Read.l0 k y0 y1 y2 y3) (spec_l1Read.l0 (k + 1) y0 y1 y2 y3))
 | 0 => ⟨fun _ _ _ r h => by simp [spec_l1Read.j0] at h,fun _ _ r h => by simp [spec_l1Read.j1] at h,fun _ _ _ _ r h => by simp [spec_l1Read.l0] at h⟩
 | k + 1 => by
  obtain ⟨ih0,ih1,ih2⟩ := spec_l1Read.mono_l k
  refine ⟨?_,?_,?_⟩
  ·intro y0 y1 y2
   unfold spec_l1Read.j0
   repeat' first
   | (with_reducible exact ih0 _ _ _)
   | (with_reducible exact ih1 _ _)
   | (with_reducible exact ih2 _ _ _ _)
   | (with_reducible exact spec_l1Num.mono _ _)
   | (with_reducible exact LeO.refl _)
   | (with_reducible exact LeO.none _)
   | (with_reducible refine LeO.ite ?_ ?_)
   | (with_reducible refine LeO.bind ?_ (fun _ => ?_))
   | exact ih0 _ _ _
   | exact ih1 _ _
   | exact ih2 _ _ _ _
   | exact spec_l1Num.mono _ _
   | exact LeO.none _
   | refine LeO.ite ?_ ?_
   | refine LeO.bind ?_ (fun _ => ?_)
  ·intro y0 y1
   unfold spec_l1Read.j1
   repeat' first
   | (with_reducible exact ih0 _ _ _)
   | (with_reducible exact ih1 _ _)
   | (with_reducible exact ih2 _ _ _ _)
   | (with_reducible exact spec_l1Num.mono _ _)
   | (with_reducible exact LeO.refl _)
   | (with_reducible exact LeO.none _)
   | (with_reducible refine LeO.ite ?_ ?_)
   | (with_reducible refine LeO.bind ?_ (fun _ => ?_))
   | exact ih0 _ _ _
   | exact ih1 _ _
   | exact ih2 _ _ _ _
   | exact spec_l1Num.mono _ _
   | exact LeO.none _
   | refine LeO.ite ?_ ?_
   | refine LeO.bind ?_ (fun _ => ?_)
  ·intro y0 y1 y2 y3
   unfold spec_l1Read.l0
   repeat' first
   | (with_reducible exact ih0 _ _ _)
   | (with_reducible exact ih1 _ _)
   | (with_reducible exact ih2 _ _ _ _)
   | (with_reducible exact spec_l1Num.mono _ _)
   | (with_reducible exact LeO.refl _)
   | (with_reducible exact LeO.none _)
   | (with_reducible refine LeO.ite ?_ ?_)
   | (with_reducible refine LeO.bind ?_ (fun _ => ?_))
   | exact ih0 _ _ _
   | exact ih1 _ _
   | exact ih2 _ _ _ _
   | exact spec_l1Num.mono _ _
   | exact LeO.none _
   | refine LeO.ite ?_ ?_
   | refine LeO.bind ?_ (fun _ => ?_)
theorem spec_l1Read.mono : ∀ a0 k,LeO (spec_l1Read.f k a0) (spec_l1Read.f (k + 1) a0) := by
 intro a0 k
 obtain ⟨ih0,ih1,ih2⟩ := spec_l1Read.mono_l k
 unfold spec_l1Read.f
 repeat' first
   | (with_reducible exact ih0 _ _ _)
   | (with_reducible exact ih1 _ _)
   | (with_reducible exact ih2 _ _ _ _)
   | (with_reducible exact spec_l1Num.mono _ _)
   | (with_reducible exact LeO.refl _)
   | (with_reducible exact LeO.none _)
   | (with_reducible refine LeO.ite ?_ ?_)
   | (with_reducible refine LeO.bind ?_ (fun _ => ?_))
   | exact ih0 _ _ _
   | exact ih1 _ _
   | exact ih2 _ _ _ _
   | exact spec_l1Num.mono _ _
   | exact LeO.none _
   | refine LeO.ite ?_ ?_
   | refine LeO.bind ?_ (fun _ => ?_)
set_option maxHeartbeats 8000000 in
set_option maxRecDepth 100000 in
theorem spec_l1Read.calls (k : Nat) (a0 : ByteArray) (r1 : Int) (r2 : Bool) (w : World) (h : spec_l1Read.f k a0 = some (r1,r2)) :
  Calls Tryz.prog 30 #[.string a0] w fun e w' => e = .returned (.tuple #[.int .i64 r1,.bool r2]) ∧ Below w.heap.size w w' := by
 have HB := aM (Below.refl w.heap.size w);have H : (if (a0.size : Int) > 1 then (if 0 < (a0.size : Int) then (spec_l1Read.j0 k a0 a0 ((bt a0 0) == 45)) else (none)) else (spec_l1Read.j0 k a0 a0 false)) = some (r1,r2) := h;clear h;have HC2 := aM H;clear H;go_enter Tryz.func30,Tryz.ntmps30;go_upto_region 2 with (fail);go_cut [15] (fun v15 wc => ∃ (kq : Nat) (x15_1 : Bool),v15 = .bool x15_1 ∧ Aside0 (spec_l1Read.j0 kq a0 a0 x15_1 = some (r1,r2)) ∧ Aside0 (kq ≤ k) ∧ Aside0 (Below w.heap.size w wc))
 case first =>
  have H := HC2.out;clear HC2
  by_cases c3 : (a0.size : Int) > 1
  ·rw [if_pos c3] at H;have c3b0 : decide (1 < (a0.size : Int)) = true := dT c3;have c3b1 : decide (1 < a0.size) = true := dT (by omega);clear c3;(first|rw [c3b0]|(simp only [i64_w,i32_w];rw [c3b0])|skip)
   by_cases c4 : 0 < (a0.size : Int)
   ·rw [if_pos c4] at H;have c4b0 : decide (0 < (a0.size : Int)) = true := dT c4;have c4b1 : decide (0 < a0.size) = true := dT (by omega);clear c4;have H' := aM H;clear H;have p5 : 0 ≤ (0 : Int) := (by omega);have q5 : 0 < a0.size := (by have : (0 : Int) < (a0.size : Int) := oD (by assumption);omega);have hx5 : ∀ h : 0 < a0.size,((a0[0]'h).toNat : Int) = bt a0 0 := bt_at a0 0;clear p5;have qi5 : (0 < (a0.size : Int)) = True := eq_true (oD (by assumption));replace q5 := eq_true q5;go_wp2;go_meet
    case rel => exact ⟨_,(((bt a0 0) == 45)),(by first|rfl|(simp [*];done)),H',⟨by first|omega|exact Nat.le_refl _⟩,⟨hb_⟩⟩
   ·rw [if_neg c4] at H;exact absurd H (by simp)
  ·rw [if_neg c3] at H;have c3b0 : decide (1 < (a0.size : Int)) = false := dF c3;have c3b1 : decide (1 < a0.size) = false := dF (by omega);clear c3;(first|rw [c3b0]|(simp only [i64_w,i32_w];rw [c3b0])|skip);have H' := aM H;clear H;go_wp2;go_meet
   case rel => exact ⟨_,(false),(by first|rfl|(simp [*];done)),H',⟨by first|omega|exact Nat.le_refl _⟩,⟨hb_⟩⟩
 case rest =>
  clear HC2;(try clear p2);(try clear c3);(try clear c3b0);(try clear c3b1);(try clear c4);(try clear c4b0);(try clear c4b1);(try clear p5);(try clear q5);(try clear hx5);(try clear qi5);(try clear p5);(try clear q5);obtain ⟨kq,x15_1,rfl,HA,HJ1,HB⟩ := hcut
  cases kq with
  | zero => exact absurd HA.out (by simp [spec_l1Read.j0])
  | succ kj1 =>
   have H := HA.out;clear HA;simp only [spec_l1Read.j0] at H;have HC6 := aM H;clear H;go_upto_if 15 with (fail);go_cut [4] (fun v4 wc => ∃ (kq : Nat) (x4_5 : ByteArray),v4 = .string x4_5 ∧ Aside0 (spec_l1Read.j1 kq a0 x4_5 = some (r1,r2)) ∧ Aside0 (kq ≤ kj1) ∧ Aside0 (Below w.heap.size w wc))
   case first =>
    have H := HC6.out;clear HC6
    by_cases c7 : x15_1 = true
    ·subst c7;rw [if_pos rfl] at H
     by_cases c8 : 1 ≤ (a0.size : Int)
     ·rw [if_pos c8] at H;have c8b0 := eq_true c8;have c8b1 : decide (1 ≤ (a0.size : Int)) = true := dT c8;clear c8;have H' := aM H;clear H;go_wp2;go_meet
      case rel => exact ⟨_,(a0.extract 1 a0.size),(by first|rfl|(simp [*];done)),H',⟨by have := HJ1.out;first|omega|exact Nat.le_refl _⟩,⟨hb_⟩⟩
     ·rw [if_neg c8] at H;exact absurd H (by simp)
    ·replace c7 := Bool.eq_false_iff.mpr c7;subst c7;rw [if_neg Bool.false_ne_true] at H;have H' := aM H;clear H;go_wp2;go_meet
     case rel => exact ⟨_,(a0),(by first|rfl|(simp [*];done)),H',⟨by have := HJ1.out;first|omega|exact Nat.le_refl _⟩,⟨hb_⟩⟩
   case rest =>
    clear HC6;(try clear p2);(try clear c3);(try clear c3b0);(try clear c3b1);(try clear c4);(try clear c4b0);(try clear c4b1);(try clear p5);(try clear q5);(try clear hx5);(try clear qi5);(try clear c7);(try clear c8);(try clear c8b0);(try clear c8b1);(try clear p2);(try clear p5);(try clear q5);obtain ⟨kq,x4_5,rfl,HA,HJ5,HB⟩ := hcut
    cases kq with
    | zero => exact absurd HA.out (by simp [spec_l1Read.j1])
    | succ kj5 =>
     have H := HA.out;clear HA;simp only [spec_l1Read.j1] at H;obtain ⟨t381,A9,H⟩ := bE_ H
     by_cases c10 : t381 = true
     focus
      subst c10;rw [if_pos rfl] at H;have H' := aM H;clear H
     rotate_left
     focus
      replace c10 := Bool.eq_false_iff.mpr c10;subst c10;rw [if_neg Bool.false_ne_true] at H;simp only [eS,eP] at H;obtain ⟨rfl,rfl⟩ := H
     all_goals
      go_wp2_with (first|((with_reducible refine gate_callee (f := 23) rfl ?_);refine goesL_ (some 20) rfl rfl Tryz.func23 (by kernel_rfl) rfl #[.int .i64 (x4_5.size : Int),.int .i64 1,.int .i64 6] rfl (by (try simp only [mT,mC,mN]);first|done|rfl|(simp only [xD,xT];rfl)) ?_;(with_reducible refine (spec_l1In.calls _ _ _ _ _ A9.out).mono ?_);rintro e w' ⟨rfl,⟨nd,rfl⟩⟩;refine ⟨_,rfl,?_⟩))
      first
       |
        go_ret2;exact ⟨by first|rfl|(simp [*];done),hb_⟩
       |
        go_loopg [5,6] kj5 (fun kq v5 v6 w' => ∃ (x5_3 : Int) (x6_3 : Int),v5 = .int .i64 x5_3 ∧ v6 = .int .i64 x6_3 ∧ Aside0 (spec_l1Read.l0 kq a0 x4_5 x5_3 x6_3 = some (r1,r2)) ∧ Aside0 (kq ≤ kj5) ∧ Aside0 (Below w.heap.size w w'))
        case atStart => exact ⟨(0),(0),(by first|rfl|(simp [*];done)),(by first|rfl|(simp [*];done)),H',⟨Nat.le_refl _⟩,⟨hb_⟩⟩
        case round =>
         clear H';(try clear c1);(try clear c2);(try clear p2);(try clear c3);(try clear c3b0);(try clear c3b1);(try clear c4);(try clear c4b0);(try clear c4b1);(try clear p5);(try clear q5);(try clear hx5);(try clear qi5);(try clear c7);(try clear c8);(try clear c8b0);(try clear c8b1);(try clear c10);(try clear p2);(try clear p5);(try clear q5);obtain ⟨x5_3,x6_3,rfl,rfl,HA,HK3,HB⟩ := hrel
         cases gk with
         | zero => exact absurd HA.out (by simp [spec_l1Read.l0])
         | succ k3 =>
          have H := HA.out;clear HA;simp only [spec_l1Read.l0] at H
          by_cases c11 : x6_3 < (x4_5.size : Int)
          focus
           rw [if_pos c11] at H;have c11b0 : decide (x6_3 < (x4_5.size : Int)) = true := dT c11;clear c11
           by_cases c12 : 0 ≤ x6_3
           rotate_left;rw [if_neg c12] at H;exact absurd H (by simp);rw [if_pos c12] at H;have c12b0 : decide (0 ≤ x6_3) = true := dT c12;clear c12
           by_cases c14 : (bt x4_5 x6_3) < 48
           focus
            rw [if_pos c14] at H;have c14b0 : decide ((bt x4_5 x6_3) < 48) = true := dT c14;clear c14;simp only [eS,eP] at H;obtain ⟨rfl,rfl⟩ := H
           rotate_left
           focus
            rw [if_neg c14] at H;have c14b0 : decide ((bt x4_5 x6_3) < 48) = false := dF c14;clear c14
            by_cases c16 : (bt x4_5 x6_3) > 57
            focus
             rw [if_pos c16] at H;have c16b0 : decide (57 < (bt x4_5 x6_3)) = true := dT c16;clear c16;simp only [eS,eP] at H;obtain ⟨rfl,rfl⟩ := H
            rotate_left
            focus
             rw [if_neg c16] at H;have c16b0 : decide (57 < (bt x4_5 x6_3)) = false := dF c16;clear c16;have H' := aM H;clear H
          rotate_left 3
          focus
           rw [if_neg c11] at H;have c11b0 : decide (x6_3 < (x4_5.size : Int)) = false := dF c11;clear c11
           by_cases c18 : (x4_5.size : Int) < (a0.size : Int)
           focus
            rw [if_pos c18] at H;have c18b0 : decide ((x4_5.size : Int) < (a0.size : Int)) = true := dT c18;have c18b1 : decide (x4_5.size < a0.size) = true := dT (Int.ofNat_lt.mp c18);clear c18;obtain ⟨t382,A19,H⟩ := bE_ H
            by_cases c20 : t382.toList = a0.toList
            focus
             rw [if_pos c20] at H;have c20b0 : (t382.toList == a0.toList) = true := beq_iff_eq.mpr c20;have c20b1 : (t382.toList != a0.toList) = false := bne_eq_false_iff_eq.mpr c20;clear c20;simp only [eS,eP] at H;obtain ⟨rfl,rfl⟩ := H
            rotate_left
            focus
             rw [if_neg c20] at H;have c20b0 : (t382.toList == a0.toList) = false := beq_eq_false_iff_ne.mpr c20;have c20b1 : (t382.toList != a0.toList) = true := bne_iff_ne.mpr c20;simp only [eS,eP] at H;obtain ⟨rfl,rfl⟩ := H
           rotate_left 2
           focus
            rw [if_neg c18] at H;have c18b0 : decide ((x4_5.size : Int) < (a0.size : Int)) = false := dF c18;have c18b1 : decide (x4_5.size < a0.size) = false := dF (fun h => c18 (Int.ofNat_lt.mpr h));clear c18;obtain ⟨t383,A23,H⟩ := bE_ H
            by_cases c24 : t383.toList = a0.toList
            focus
             rw [if_pos c24] at H;have c24b0 : (t383.toList == a0.toList) = true := beq_iff_eq.mpr c24;have c24b1 : (t383.toList != a0.toList) = false := bne_eq_false_iff_eq.mpr c24;clear c24;simp only [eS,eP] at H;obtain ⟨rfl,rfl⟩ := H
            rotate_left
            focus
             rw [if_neg c24] at H;have c24b0 : (t383.toList == a0.toList) = false := beq_eq_false_iff_ne.mpr c24;have c24b1 : (t383.toList != a0.toList) = true := bne_iff_ne.mpr c24;simp only [eS,eP] at H;obtain ⟨rfl,rfl⟩ := H
          all_goals
           (try (have p02 : 0 ≤ (x6_3 : Int) := oD (by assumption);have q02 : x6_3 < (x4_5.size : Int) := oD (by assumption);have hx02 := bt_at x4_5 x6_3;replace p02 := eq_true p02;replace q02 := eq_true q02));go_wp2_with (first|((with_reducible refine gate_callee (f := 49) rfl ?_);refine goesL_ (some 54) rfl rfl Tryz.func49 (by kernel_rfl) rfl #[.int .i64 x5_3] rfl (by (try simp only [mT,mC,mN]);first|done|rfl|(simp only [xD,xT];rfl)) ?_;(with_reducible refine (spec_l1Num.calls _ _ _ _ A23.out).mono ?_);rintro e WA23 ⟨rfl,hb⟩;refine ⟨_,rfl,?_⟩;replace HB := aM (lT hb_ hb);(try clear hb))|((with_reducible refine gate_callee (f := 49) rfl ?_);refine goesL_ (some 54) rfl rfl Tryz.func49 (by kernel_rfl) rfl #[.int .i64 (wrap64 (-x5_3))] rfl (by (try simp only [mT,mC,mN]);first|done|rfl|(simp only [xD,xT];rfl)) ?_;(with_reducible refine (spec_l1Num.calls _ _ _ _ A19.out).mono ?_);rintro e WA19 ⟨rfl,hb⟩;refine ⟨_,rfl,?_⟩;replace HB := aM (lT hb_ hb);(try clear hb)))
           first
            |
             go_ret2;exact ⟨by first|rfl|(simp [*];done),hb_⟩
            |
             go_roundg k3
             case measure => have := HJ1.out;have := HJ5.out;have := HK3.out;omega
             case rel => exact ⟨(wrap64 ((wrap64 (10 * x5_3)) + (((bt x4_5 x6_3) - 48) % 256))),(wrap64 (x6_3 + 1)),(by first|rfl|(simp [*];done)),(by first|rfl|(simp [*];done)),H',⟨by have := HJ1.out;have := HJ5.out;have := HK3.out;omega⟩,⟨hb_⟩⟩
mutual
def spec_ParseOrdinal.j0 : Nat → ByteArray → Bool → ByteArray → List (S65) → List (S67) → ByteArray → ByteArray → Option (Int × Bool)
 | 0,_,_,_,_,_,_,_ => none
 | k + 1,x1,x16,x385000,x385001,x385002,x385003,x385004 => if x16 = true then (some (0,false)) else (spec_ParseOrdinal.l0 k x1 1 x385000 x385001 x385002 x385003 x385004)
def spec_ParseOrdinal.l0 : Nat → ByteArray → Int → ByteArray → List (S65) → List (S67) → ByteArray → ByteArray → Option (Int × Bool)
 | 0,_,_,_,_,_,_,_ => none
 | k + 1,x1,x6,x385000,x385001,x385002,x385003,x385004 => if x6 ≤ (x1.size : Int) then (spec_ParseOrdinal.j2 k x1 x6 (decide (x6 ≤ 6)) x385000 x385001 x385002 x385003 x385004) else (spec_ParseOrdinal.j2 k x1 x6 false x385000 x385001 x385002 x385003 x385004)
def spec_ParseOrdinal.j2 : Nat → ByteArray → Int → Bool → ByteArray → List (S65) → List (S67) → ByteArray → ByteArray → Option (Int × Bool)
 | 0,_,_,_,_,_,_,_,_ => none
 | k + 1,x1,x6,x24,x385000,x385001,x385002,x385003,x385004 => if x24 = true then (if 0 ≤ x6 then (if x6 ≤ (x1.size : Int) then ((spec_l1Read.f k (x1.extract 0 (x6 : Int).toNat)).bind fun bt386 => (if bt386.2 = true then (if bt386.1 ≥ 0 then ((spec_l23Ordinal.f k x385000 x385001 x385002 x385003 x385004 bt386.1).bind fun t388 => (if t388.toList = x1.toList then (some (bt386.1,true)) else (spec_ParseOrdinal.l0 k x1 (wrap64 (x6 + 1)) x385000 x385001 x385002 x385003 x385004))) else (spec_ParseOrdinal.l0 k x1 (wrap64 (x6 + 1)) x385000 x385001 x385002 x385003 x385004)) else (spec_ParseOrdinal.l0 k x1 (wrap64 (x6 + 1)) x385000 x385001 x385002 x385003 x385004))) else (none)) else (none)) else (some (0,false))
end
def spec_ParseOrdinal.f (k : Nat) (a0_0 : ByteArray) (l0_1 : List (S65)) (l0_2 : List (S67)) (a0_3 : ByteArray) (a0_4 : ByteArray) (a1 : ByteArray) : Option (Int × Bool) := (spec_l23Good.f k a0_0 l0_1 l0_2 a0_3 a0_4).bind fun t385 => (if t385 = true then (spec_ParseOrdinal.j0 k a1 (decide ((a1.size : Int) > 10)) a0_0 l0_1 l0_2 a0_3 a0_4) else (spec_ParseOrdinal.j0 k a1 true a0_0 l0_1 l0_2 a0_3 a0_4))
theorem spec_ParseOrdinal.mono_l : ∀ k,(∀ y0 y1 y2 y3 y4 y5 y6,LeO (spec_ParseOrdinal.j0 k y0 y1 y2 y3 y4 y5 y6) (spec_ParseOrdinal.j0 (k + 1) y0 y1 y2 y3 y4 y5 y6)) ∧ (∀ y0 y1 y2 y3 y4 y5 y6,LeO (spec_ParseOrdinal.l0 k y0 y1 y2 y3 y4 y5 y6) (spec_ParseOrdinal.l0 (k + 1) y0 y1 y2 y3 y4 y5 y6)) ∧ (∀ y0 y1 y2 y3 y4 y5 y6 y7,LeO (spec_ParseOrdinal.j2 k y0 y1 y2 y3 y4 y5 y6 y7) (spec_ParseOrdinal.j2 (k + 1) y0 y1 y2 y3 y4 y5 y6 y7))
 | 0 => ⟨fun _ _ _ _ _ _ _ r h => by simp [spec_ParseOrdinal.j0] at h,fun _ _ _ _ _ _ _ r h => by simp [spec_ParseOrdinal.l0] at h,fun _ _ _ _ _ _ _ _ r h => by simp [spec_ParseOrdinal.j2] at h⟩
 | k + 1 => by
  obtain ⟨ih0,ih1,ih2⟩ := spec_ParseOrdinal.mono_l k
  refine ⟨?_,?_,?_⟩
  ·intro y0 y1 y2 y3 y4 y5 y6
   unfold spec_ParseOrdinal.j0
   repeat' first
   | (with_reducible exact ih0 _ _ _ _ _ _ _)
   | (with_reducible exact ih1 _ _ _ _ _ _ _)
   | (with_reducible exact ih2 _ _ _ _ _ _ _ _)
   | (with_reducible exact spec_l1Read.mono _ _)
   | (with_reducible exact spec_l23Good.mono _ _ _ _ _ _)
   | (with_reducible exact spec_l23Ordinal.mono _ _ _ _ _ _ _)
   | (with_reducible exact LeO.refl _)
   | (with_reducible exact LeO.none _)
   | (with_reducible refine LeO.ite ?_ ?_)
   | (with_reducible refine LeO.bind ?_ (fun _ => ?_))
   | exact ih0 _ _ _ _ _ _ _
   | exact ih1 _ _ _ _ _ _ _
   | exact ih2 _ _ _ _ _ _ _ _
   | exact spec_l1Read.mono _ _
   | exact spec_l23Good.mono _ _ _ _ _ _
   | exact spec_l23Ordinal.mono _ _ _ _ _ _ _
   | exact LeO.none _
   | refine LeO.ite ?_ ?_
   | refine LeO.bind ?_ (fun _ => ?_)
  ·intro y0 y1 y2 y3 y4 y5 y6
   unfold spec_ParseOrdinal.l0
   repeat' first
   | (with_reducible exact ih0 _ _ _ _ _ _ _)
   | (with_reducible exact ih1 _ _ _ _ _ _ _)
   | (with_reducible exact ih2 _ _ _ _ _ _ _ _)
   | (with_reducible exact spec_l1Read.mono _ _)
   | (with_reducible exact spec_l23Good.mono _ _ _ _ _ _)
   | (with_reducible exact spec_l23Ordinal.mono _ _ _ _ _ _ _)
   | (with_reducible exact LeO.refl _)
   | (with_reducible exact LeO.none _)
   | (with_reducible refine LeO.ite ?_ ?_)
   | (with_reducible refine LeO.bind ?_ (fun _ => ?_))
   | exact ih0 _ _ _ _ _ _ _
   | exact ih1 _ _ _ _ _ _ _
   | exact ih2 _ _ _ _ _ _ _ _
   | exact spec_l1Read.mono _ _
   | exact spec_l23Good.mono _ _ _ _ _ _
   | exact spec_l23Ordinal.mono _ _ _ _ _ _ _
   | exact LeO.none _
   | refine LeO.ite ?_ ?_
   | refine LeO.bind ?_ (fun _ => ?_)
  ·intro y0 y1 y2 y3 y4 y5 y6 y7
   unfold spec_ParseOrdinal.j2
   repeat' first
   | (with_reducible exact ih0 _ _ _ _ _ _ _)
   | (with_reducible exact ih1 _ _ _ _ _ _ _)
   | (with_reducible exact ih2 _ _ _ _ _ _ _ _)
   | (with_reducible exact spec_l1Read.mono _ _)
   | (with_reducible exact spec_l23Good.mono _ _ _ _ _ _)
   | (with_reducible exact spec_l23Ordinal.mono _ _ _ _ _ _ _)
   | (with_reducible exact LeO.refl _)
   | (with_reducible exact LeO.none _)
   | (with_reducible refine LeO.ite ?_ ?_)
   | (with_reducible refine LeO.bind ?_ (fun _ => ?_))
   | exact ih0 _ _ _ _ _ _ _
   | exact ih1 _ _ _ _ _ _ _
   | exact ih2 _ _ _ _ _ _ _ _
   | exact spec_l1Read.mono _ _
   | exact spec_l23Good.mono _ _ _ _ _ _
   | exact spec_l23Ordinal.mono _ _ _ _ _ _ _
   | exact LeO.none _
   | refine LeO.ite ?_ ?_
   | refine LeO.bind ?_ (fun _ => ?_)
theorem spec_ParseOrdinal.mono : ∀ a0 a1 a2 a3 a4 a5 k,LeO (spec_ParseOrdinal.f k a0 a1 a2 a3 a4 a5) (spec_ParseOrdinal.f (k + 1) a0 a1 a2 a3 a4 a5) := by
 intro a0 a1 a2 a3 a4 a5 k
 obtain ⟨ih0,ih1,ih2⟩ := spec_ParseOrdinal.mono_l k
 unfold spec_ParseOrdinal.f
 repeat' first
   | (with_reducible exact ih0 _ _ _ _ _ _ _)
   | (with_reducible exact ih1 _ _ _ _ _ _ _)
   | (with_reducible exact ih2 _ _ _ _ _ _ _ _)
   | (with_reducible exact spec_l1Read.mono _ _)
   | (with_reducible exact spec_l23Good.mono _ _ _ _ _ _)
   | (with_reducible exact spec_l23Ordinal.mono _ _ _ _ _ _ _)
   | (with_reducible exact LeO.refl _)
   | (with_reducible exact LeO.none _)
   | (with_reducible refine LeO.ite ?_ ?_)
   | (with_reducible refine LeO.bind ?_ (fun _ => ?_))
   | exact ih0 _ _ _ _ _ _ _
   | exact ih1 _ _ _ _ _ _ _
   | exact ih2 _ _ _ _ _ _ _ _
   | exact spec_l1Read.mono _ _
   | exact spec_l23Good.mono _ _ _ _ _ _
   | exact spec_l23Ordinal.mono _ _ _ _ _ _ _
   | exact LeO.none _
   | refine LeO.ite ?_ ?_
   | refine LeO.bind ?_ (fun _ => ?_)
set_option maxHeartbeats 8000000 in
set_option maxRecDepth 100000 in
theorem spec_ParseOrdinal.calls (k : Nat) (a0_0 : ByteArray) (A0_1 : Option Addr) (c0_1 : Nat) (l0_1 : List (S65)) (A0_2 : Option Addr) (c0_2 : Nat) (l0_2 : List (S67)) (a0_3 : ByteArray) (a0_4 : ByteArray) (a1 : ByteArray) (r1 : Int) (r2 : Bool) (w : World) (hr0_1 : Kd.C k65 w A0_1 l0_1.length l0_1) (hc0_1 : l0_1.length ≤ c0_1) (hr0_2 : Kd.C k67 w A0_2 l0_2.length l0_2) (hc0_2 : l0_2.length ≤ c0_2) (h : spec_ParseOrdinal.f k a0_0 l0_1 l0_2 a0_3 a0_4 a1 = some (r1,r2)) :
  Calls Tryz.prog 10 #[.agg #[.string a0_0,.slice A0_1 l0_1.length c0_1,.slice A0_2 l0_2.length c0_2,.string a0_3,.string a0_4],.string a1] w fun e w' => e = .returned (.tuple #[.int .i64 r1,.bool r2]) ∧ Below w.heap.size w w' := by
 have hu27 := Tryz.underlying27;have HR0_1 := aM hr0_1;have HC0_1 := aM hc0_1;clear hr0_1 hc0_1;have HR0_2 := aM hr0_2;have HC0_2 := aM hc0_2;clear hr0_2 hc0_2;have HB := aM (Below.refl w.heap.size w);have H : ((spec_l23Good.f k a0_0 l0_1 l0_2 a0_3 a0_4).bind fun t385 => (if t385 = true then (spec_ParseOrdinal.j0 k a1 (decide ((a1.size : Int) > 10)) a0_0 l0_1 l0_2 a0_3 a0_4) else (spec_ParseOrdinal.j0 k a1 true a0_0 l0_1 l0_2 a0_3 a0_4))) = some (r1,r2) := h;clear h;have HC3 := aM H;clear H;go_enter Tryz.func10,Tryz.ntmps10;go_upto_region 1 with (first|((with_reducible refine gate_dst (N := 2) rfl ?_);(try (refine gate_guard (by rfl) ?_;dsimp only));refine box_event ?hg (N := 2) ?hd (cs := #[.string a0_0,.slice A0_1 l0_1.length c0_1,.slice A0_2 l0_2.length c0_2,.string a0_3,.string a0_4]) (t := 27) ?hr ?_;(case hd => rfl);(case hg => rfl);(case hr => first|(go_simp;done)|(go_simp;rfl));intro gb384 hg w4 hbox hb;have BK384 := aM (hbox);have GW384 := aM ((by rw [hg];exact (lZ hb_) : w.heap.size ≤ gb384));have GE384 := GW384;replace HB := aM (lT hb_ hb);clear hb hbox hg));(try simp only [Act.put,lI,sZ,sS]);go_cut [16] (fun v16 wc => ∃ (kq : Nat) (x16_2 : Bool),v16 = .bool x16_2 ∧ Aside0 (spec_ParseOrdinal.j0 kq a1 x16_2 a0_0 l0_1 l0_2 a0_3 a0_4 = some (r1,r2)) ∧ Aside0 (kq ≤ k) ∧ Aside0 (wc.heap[gb384]? = some (.cells #[.string a0_0,(.slice A0_1 l0_1.length c0_1),(.slice A0_2 l0_2.length c0_2),.string a0_3,.string a0_4] 27 (0,0))) ∧ Aside0 (Below w.heap.size w wc))
 case first =>
  have H := HC3.out;clear HC3;obtain ⟨t385,A5,H⟩ := bE_ H
  by_cases c6 : t385 = true
  focus
   subst c6;rw [if_pos rfl] at H;have H' := aM H;clear H
  rotate_left
  focus
   replace c6 := Bool.eq_false_iff.mpr c6;subst c6;rw [if_neg Bool.false_ne_true] at H;have H' := aM H;clear H
  all_goals
   obtain ⟨hczx384_0,hczx384_1,hczx384_2,hczx384_3,hczx384_4,hfzx384_0,hfzx384_1,hfzx384_2,hfzx384_3,hfzx384_4⟩ := z5_ BK384.out;go_wp2_with (first|((with_reducible refine gate_callee (f := 22) rfl ?_);refine goesL_ (some 10) rfl rfl Tryz.func22 (by kernel_rfl) rfl #[.agg #[.string a0_0,.slice A0_1 l0_1.length c0_1,.slice A0_2 l0_2.length c0_2,.string a0_3,.string a0_4]] rfl (by (try simp only [mT,mC,mN]);first|done|rfl|(simp only [xD,xT];rfl)) ?_;(with_reducible refine (spec_l23Good.calls _ _ _ _ _ _ _ _ _ _ _ _ ?side1 ?side2 ?side3 ?side4 A5.out).mono ?_);(case side1 => repeat (first|exact (cB HR0_1.out HB.out)|(with_reducible first|refine cA ?_ _|refine cN ?_ _|refine cD ?_)));(case side2 => exact HC0_1.out);(case side3 => repeat (first|exact (cB HR0_2.out HB.out)|(with_reducible first|refine cA ?_ _|refine cN ?_ _|refine cD ?_)));(case side4 => exact HC0_2.out);rintro e WA5 ⟨rfl,hb⟩;refine ⟨_,rfl,?_⟩;replace BK384 := aM (bW (g := gb384) (o := .cells #[.string a0_0,.slice A0_1 l0_1.length c0_1,.slice A0_2 l0_2.length c0_2,.string a0_3,.string a0_4] 27 (0,0)) (bk_ BK384.out) hb);replace HB := aM (lT hb_ hb);(try clear hb)));go_meet
   case rel => first|(exact ⟨_,(decide ((a1.size : Int) > 10)),(by first|rfl|(simp [*];done)),H',⟨by first|omega|exact Nat.le_refl _⟩,⟨by (with_reducible repeat (first|refine bN ?_ _|refine bD ?_|refine bA ?_ _));exact BK384.out⟩,⟨hb_⟩⟩)|(exact ⟨_,(true),(by first|rfl|(simp [*];done)),H',⟨by first|omega|exact Nat.le_refl _⟩,⟨by (with_reducible repeat (first|refine bN ?_ _|refine bD ?_|refine bA ?_ _));exact BK384.out⟩,⟨hb_⟩⟩)
 case rest =>
  clear HC3;(try clear c1);(try clear c2);(try clear p2);(try clear c6);(try clear c10);(try clear hcz7_0);(try clear hcz7_1);(try clear hcz7_2);(try clear hcz7_3);(try clear hcz7_4);(try clear hcz9_0);(try clear hcz9_1);(try clear hcz9_2);(try clear hcz9_3);(try clear hcz9_4);(try clear hfz7_0);(try clear hfz7_1);(try clear hfz7_2);(try clear hfz7_3);(try clear hfz7_4);(try clear hfz9_0);(try clear hfz9_1);(try clear hfz9_2);(try clear hfz9_3);(try clear hfz9_4);obtain ⟨kq,x16_2,rfl,HA,HJ2,BK384,HB⟩ := hcut
  cases kq with
  | zero => exact absurd HA.out (by simp [spec_ParseOrdinal.j0])
  | succ kj2 =>
   have H := HA.out;clear HA;simp only [spec_ParseOrdinal.j0] at H
   by_cases c11 : x16_2 = true
   ·subst c11;rw [if_pos rfl] at H;simp only [eS,eP] at H;obtain ⟨rfl,rfl⟩ := H;go_wp2;go_ret2;exact ⟨by first|rfl|(simp [*];done),hb_⟩
   ·replace c11 := Bool.eq_false_iff.mpr c11;subst c11;rw [if_neg Bool.false_ne_true] at H;have H' := aM H;clear H;go_wp2;go_loopg [6] kj2 (fun kq v6 w' => ∃ (x6_2 : Int),v6 = .int .i64 x6_2 ∧ Aside0 (spec_ParseOrdinal.l0 kq a1 x6_2 a0_0 l0_1 l0_2 a0_3 a0_4 = some (r1,r2)) ∧ Aside0 (kq ≤ kj2) ∧ Aside0 (w'.heap[gb384]? = some (.cells #[.string a0_0,(.slice A0_1 l0_1.length c0_1),(.slice A0_2 l0_2.length c0_2),.string a0_3,.string a0_4] 27 (0,0))) ∧ Aside0 (Below w.heap.size w w'))
    case atStart => exact ⟨(1),(by first|rfl|(simp [*];done)),H',⟨Nat.le_refl _⟩,⟨by (with_reducible repeat (first|refine bN ?_ _|refine bD ?_|refine bA ?_ _));exact BK384.out⟩,⟨hb_⟩⟩
    case round =>
     clear H';(try clear c1);(try clear c2);(try clear p2);(try clear c6);(try clear c10);(try clear c11);(try clear hcz7_0);(try clear hcz7_1);(try clear hcz7_2);(try clear hcz7_3);(try clear hcz7_4);(try clear hcz9_0);(try clear hcz9_1);(try clear hcz9_2);(try clear hcz9_3);(try clear hcz9_4);(try clear hfz7_0);(try clear hfz7_1);(try clear hfz7_2);(try clear hfz7_3);(try clear hfz7_4);(try clear hfz9_0);(try clear hfz9_1);(try clear hfz9_2);(try clear hfz9_3);(try clear hfz9_4);(try clear p2);obtain ⟨x6_2,rfl,HA,HK2,BK384,HB⟩ := hrel
     cases gk with
     | zero => exact absurd HA.out (by simp [spec_ParseOrdinal.l0])
     | succ k2 =>
      have H := HA.out;clear HA;simp only [spec_ParseOrdinal.l0] at H;have HC12 := aM H;clear H;go_upto_region 4 with (fail);go_cut [24] (fun v24 wc => ∃ (kq : Nat) (x24_11 : Bool),v24 = .bool x24_11 ∧ Aside0 (spec_ParseOrdinal.j2 kq a1 x6_2 x24_11 a0_0 l0_1 l0_2 a0_3 a0_4 = some (r1,r2)) ∧ Aside0 (kq ≤ k2) ∧ Aside0 (wc.heap[gb384]? = some (.cells #[.string a0_0,(.slice A0_1 l0_1.length c0_1),(.slice A0_2 l0_2.length c0_2),.string a0_3,.string a0_4] 27 (0,0))) ∧ Aside0 (Below w.heap.size w wc))
      case first =>
       have H := HC12.out;clear HC12
       by_cases c13 : x6_2 ≤ (a1.size : Int)
       ·rw [if_pos c13] at H;have c13b0 : decide (x6_2 ≤ (a1.size : Int)) = true := dT c13;clear c13;(first|rw [c13b0]|(simp only [i64_w,i32_w];rw [c13b0])|skip);have H' := aM H;clear H;go_wp2;go_meet
        case rel => exact ⟨_,(decide (x6_2 ≤ 6)),(by first|rfl|(simp [*];done)),H',⟨by have := HJ2.out;have := HK2.out;first|omega|exact Nat.le_refl _⟩,⟨by (with_reducible repeat (first|refine bN ?_ _|refine bD ?_|refine bA ?_ _));exact BK384.out⟩,⟨hb_⟩⟩
       ·rw [if_neg c13] at H;have c13b0 : decide (x6_2 ≤ (a1.size : Int)) = false := dF c13;clear c13;(first|rw [c13b0]|(simp only [i64_w,i32_w];rw [c13b0])|skip);have H' := aM H;clear H;go_wp2;go_meet
        case rel => exact ⟨_,(false),(by first|rfl|(simp [*];done)),H',⟨by have := HJ2.out;have := HK2.out;first|omega|exact Nat.le_refl _⟩,⟨by (with_reducible repeat (first|refine bN ?_ _|refine bD ?_|refine bA ?_ _));exact BK384.out⟩,⟨hb_⟩⟩
      case rest =>
       clear HC12;(try clear c1);(try clear c2);(try clear p2);(try clear c6);(try clear c10);(try clear c11);(try clear c13);(try clear c13b0);(try clear hcz7_0);(try clear hcz7_1);(try clear hcz7_2);(try clear hcz7_3);(try clear hcz7_4);(try clear hcz9_0);(try clear hcz9_1);(try clear hcz9_2);(try clear hcz9_3);(try clear hcz9_4);(try clear hfz7_0);(try clear hfz7_1);(try clear hfz7_2);(try clear hfz7_3);(try clear hfz7_4);(try clear hfz9_0);(try clear hfz9_1);(try clear hfz9_2);(try clear hfz9_3);(try clear hfz9_4);(try clear p2);obtain ⟨kq,x24_11,rfl,HA,HJ11,BK384,HB⟩ := hcut
       cases kq with
       | zero => exact absurd HA.out (by simp [spec_ParseOrdinal.j2])
       | succ kj11 =>
        have H := HA.out;clear HA;simp only [spec_ParseOrdinal.j2] at H
        by_cases c14 : x24_11 = true
        focus
         subst c14;rw [if_pos rfl] at H
         by_cases c15 : 0 ≤ x6_2
         rotate_left;rw [if_neg c15] at H;exact absurd H (by simp);rw [if_pos c15] at H;have c15b0 := eq_true c15;have c15b1 : decide (0 ≤ x6_2) = true := dT c15;clear c15
         by_cases c16 : x6_2 ≤ (a1.size : Int)
         rotate_left;rw [if_neg c16] at H;exact absurd H (by simp);rw [if_pos c16] at H;have c16b0 := eq_true c16;have c16b1 : decide (x6_2 ≤ (a1.size : Int)) = true := dT c16;clear c16;replace H := Option.bind_eq_some_iff.mp H;obtain ⟨⟨t386,t387⟩,A170,H⟩ := H;replace H : (if t387 = true then (if t386 ≥ 0 then ((spec_l23Ordinal.f kj11 a0_0 l0_1 l0_2 a0_3 a0_4 t386).bind fun t388 => (if t388.toList = a1.toList then (some (t386,true)) else (spec_ParseOrdinal.l0 kj11 a1 (wrap64 (x6_2 + 1)) a0_0 l0_1 l0_2 a0_3 a0_4))) else (spec_ParseOrdinal.l0 kj11 a1 (wrap64 (x6_2 + 1)) a0_0 l0_1 l0_2 a0_3 a0_4)) else (spec_ParseOrdinal.l0 kj11 a1 (wrap64 (x6_2 + 1)) a0_0 l0_1 l0_2 a0_3 a0_4)) = some (r1,r2) := H;have A17 := aM A170;clear A170
         by_cases c18 : t387 = true
         focus
          subst c18;rw [if_pos rfl] at H
          by_cases c19 : t386 ≥ 0
          focus
           rw [if_pos c19] at H;have c19b0 : decide (0 ≤ t386) = true := dT c19;clear c19;obtain ⟨t388,A20,H⟩ := bE_ H
           by_cases c21 : t388.toList = a1.toList
           focus
            rw [if_pos c21] at H;have c21b0 : (t388.toList == a1.toList) = true := beq_iff_eq.mpr c21;have c21b1 : (t388.toList != a1.toList) = false := bne_eq_false_iff_eq.mpr c21;clear c21;simp only [eS,eP] at H;obtain ⟨rfl,rfl⟩ := H
           rotate_left
           focus
            rw [if_neg c21] at H;have c21b0 : (t388.toList == a1.toList) = false := beq_eq_false_iff_ne.mpr c21;have c21b1 : (t388.toList != a1.toList) = true := bne_iff_ne.mpr c21;have H' := aM H;clear H
          rotate_left 2
          focus
           rw [if_neg c19] at H;have c19b0 : decide (0 ≤ t386) = false := dF c19;clear c19;have H' := aM H;clear H
         rotate_left 3
         focus
          replace c18 := Bool.eq_false_iff.mpr c18;subst c18;rw [if_neg Bool.false_ne_true] at H;have H' := aM H;clear H
        rotate_left 4
        focus
         replace c14 := Bool.eq_false_iff.mpr c14;subst c14;rw [if_neg Bool.false_ne_true] at H;simp only [eS,eP] at H;obtain ⟨rfl,rfl⟩ := H
        all_goals
         go_wp2_with (first|((with_reducible refine gate_callee (f := 30) rfl ?_);refine goesL_ (some 31) rfl rfl Tryz.func30 (by kernel_rfl) rfl #[.string (a1.extract 0 (x6_2 : Int).toNat)] rfl (by (try simp only [mT,mC,mN]);first|done|rfl|(simp only [xD,xT];rfl)) ?_;(with_reducible refine (spec_l1Read.calls _ _ _ _ _ A17.out).mono ?_);rintro e WA17 ⟨rfl,hb⟩;refine ⟨_,rfl,?_⟩;replace BK384 := aM (bW (g := gb384) (o := .cells #[.string a0_0,.slice A0_1 l0_1.length c0_1,.slice A0_2 l0_2.length c0_2,.string a0_3,.string a0_4] 27 (0,0)) (bk_ BK384.out) hb);replace HB := aM (lT hb_ hb);(try clear hb);obtain ⟨hcz17x384_0,hcz17x384_1,hcz17x384_2,hcz17x384_3,hcz17x384_4,hfz17x384_0,hfz17x384_1,hfz17x384_2,hfz17x384_3,hfz17x384_4⟩ := z5_ BK384.out)|(go_at_call 24;(with_reducible refine (spec_l23Ordinal.calls _ _ _ _ _ _ _ _ _ _ _ _ _ ?side1 ?side2 ?side3 ?side4 A20.out).mono ?_);(case side1 => repeat (first|exact (cB HR0_1.out HB.out)|(with_reducible first|refine cA ?_ _|refine cN ?_ _|refine cD ?_)));(case side2 => exact HC0_1.out);(case side3 => repeat (first|exact (cB HR0_2.out HB.out)|(with_reducible first|refine cA ?_ _|refine cN ?_ _|refine cD ?_)));(case side4 => exact HC0_2.out);rintro e WA20 ⟨rfl,hb⟩;replace BK384 := aM (bW (g := gb384) (o := .cells #[.string a0_0,.slice A0_1 l0_1.length c0_1,.slice A0_2 l0_2.length c0_2,.string a0_3,.string a0_4] 27 (0,0)) (bk_ BK384.out) hb);replace HB := aM (lT hb_ hb);(try clear hb)))
         first
          |
           go_ret2;exact ⟨by first|rfl|(simp [*];done),hb_⟩
          |
           go_roundg kj11
           case measure => have := HJ2.out;have := HK2.out;have := HJ11.out;omega
           case rel => exact ⟨(wrap64 (x6_2 + 1)),(by first|rfl|(simp [*];done)),H',⟨by have := HJ2.out;have := HK2.out;have := HJ11.out;omega⟩,⟨by (with_reducible repeat (first|refine bN ?_ _|refine bD ?_|refine bA ?_ _));exact BK384.out⟩,⟨hb_⟩⟩
end Go.Proofs.YtmkkcpdpfelalaaGreatDoor.P
