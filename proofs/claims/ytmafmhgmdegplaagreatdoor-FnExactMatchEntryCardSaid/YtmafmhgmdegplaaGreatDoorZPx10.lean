/- Written by a program in this session: each theorem here says that a Go function computes the Lean function beside it, or that a law's row holds, under the conditions that the theorem itself states. -/
import Derived.Test.YtmafmhgmdegplaaGreatDoorZPx0
import Derived.Test.YtmafmhgmdegplaaGreatDoorZPx9
namespace Go.Proofs.YtmafmhgmdegplaaGreatDoor.P
open Go.RowKit Go.Proofs.YtmafmhgmdegplaaGreatDoorW.PrintWords Go.Proofs.YtmafmhgmdegplaaGreatDoorW.PrintLast Go.Proofs.YtmafmhgmdegplaaGreatDoorW.PrintMore
attribute [local go_sem] max2_int min2_int max_two min_two max_three min_three max_four min_four   -- for this text's walks alone
set_option linter.unusedVariables false
set_option linter.unusedSimpArgs false
def spec_l4Names.l0 : Nat → List (S157) → ByteArray → Int → Option (ByteArray)
 | 0,_,_,_ => none
 | k + 1,x0,x3,x4 => if x4 < (x0.length : Int) then (if x4 > 0 then (if x3.size + 2 ≤ 9223372036854775807 then (if 0 ≤ x4 then ((spec_l2Inverse.f k ((rd_T157 x0 x4).f0) ((rd_T157 x0 x4).f1) ((rd_T157 x0 x4).f2) ((rd_T157 x0 x4).f3)).bind fun t208 => (if (x3 ++ (⟨#[59,32]⟩ : ByteArray)).size + t208.size ≤ 9223372036854775807 then (spec_l4Names.l0 k x0 ((x3 ++ (⟨#[59,32]⟩ : ByteArray)) ++ t208) (wrap64 (x4 + 1))) else (none))) else (none)) else (none)) else (if 0 ≤ x4 then ((spec_l2Inverse.f k ((rd_T157 x0 x4).f0) ((rd_T157 x0 x4).f1) ((rd_T157 x0 x4).f2) ((rd_T157 x0 x4).f3)).bind fun t210 => (if x3.size + t210.size ≤ 9223372036854775807 then (spec_l4Names.l0 k x0 (x3 ++ t210) (wrap64 (x4 + 1))) else (none))) else (none))) else (some x3)
def spec_l4Names.f (k : Nat) (l0 : List (S157)) : Option (ByteArray) := spec_l4Names.l0 k l0 (⟨#[]⟩ : ByteArray) 0
theorem spec_l4Names.mono_l : ∀ k,(∀ y0 y1 y2,LeO (spec_l4Names.l0 k y0 y1 y2) (spec_l4Names.l0 (k + 1) y0 y1 y2))
 | 0 => fun _ _ _ r h => by simp [spec_l4Names.l0] at h
 | k + 1 => by
  have ih0 := spec_l4Names.mono_l k
  ·intro y0 y1 y2
   unfold spec_l4Names.l0
   repeat' (first|with_reducible (first|exact ih0 _ _ _|exact spec_l2Inverse.mono _ _ _ _ _|exact LeO.refl _|exact LeO.none _|refine LeO.ite ?_ ?_|refine LeO.bind ?_ (fun _ => ?_))|exact LeO.none _|refine LeO.ite ?_ ?_|refine LeO.bind ?_ (fun _ => ?_))
theorem spec_l4Names.mono : ∀ a0 k,LeO (spec_l4Names.f k a0) (spec_l4Names.f (k + 1) a0) := by
 intro a0 k
 have ih0 := spec_l4Names.mono_l k
 unfold spec_l4Names.f
 repeat' (first|with_reducible (first|exact ih0 _ _ _|exact spec_l2Inverse.mono _ _ _ _ _|exact LeO.refl _|exact LeO.none _|refine LeO.ite ?_ ?_|refine LeO.bind ?_ (fun _ => ?_))|exact LeO.none _|refine LeO.ite ?_ ?_|refine LeO.bind ?_ (fun _ => ?_))
set_option maxHeartbeats 8000000 in
set_option maxRecDepth 100000 in
theorem spec_l4Names.calls (k : Nat) (A0 : Option Addr) (c0 : Nat) (l0 : List (S157)) (r : ByteArray) (w : World) (hr0 : Kd.C k157 w A0 l0.length l0) (hc0 : l0.length ≤ c0) (h : spec_l4Names.f k l0 = some r) :
  Calls Tryz.prog 181 #[.slice A0 l0.length c0] w fun e w' => e = .returned (.string r) ∧ Below w.heap.size w w' := by
 have hu157 := Tryz.underlying157;have HR0 := aM hr0;have HC0 := aM hc0;clear hr0 hc0;have HB := aM (Below.refl w.heap.size w);have H : (spec_l4Names.l0 k l0 (⟨#[]⟩ : ByteArray) 0) = some r := h;clear h;have H' := aM H;clear H;go_enter Tryz.func181,Tryz.ntmps181;go_wp2;go_loopg [3,4] k (fun kq v3 v4 w' => ∃ (x3_1 : ByteArray) (x4_1 : Int),v3 = .string x3_1 ∧ v4 = .int .i64 x4_1 ∧ Aside0 (spec_l4Names.l0 kq l0 x3_1 x4_1 = some r) ∧ Aside0 (kq ≤ k) ∧ Aside0 (Below w.heap.size w w'))
 case atStart => exact ⟨((⟨#[]⟩ : ByteArray)),(0),vR_,vR_,H',⟨Nat.le_refl _⟩,⟨wB_⟩⟩
 case round =>
  clear H';obtain ⟨x3_1,x4_1,rfl,rfl,HA,HK1,HB⟩ := hrel
  cases gk with
  | zero => exact absurd HA.out (by simp [spec_l4Names.l0])
  | succ k1 =>
   have H := HA.out;clear HA;simp only [spec_l4Names.l0] at H
   by_cases c2 : x4_1 < (l0.length : Int)
   focus
    rw [if_pos c2] at H;have c2b0 : decide (x4_1 < (l0.length : Int)) = true := dT c2;clear c2
    by_cases c3 : x4_1 > 0
    focus
     rw [if_pos c3] at H;have c3b0 : decide (0 < x4_1) = true := dT c3;clear c3
     by_cases c4 : x3_1.size + 2 ≤ 9223372036854775807
     rotate_left;rw [if_neg c4] at H;exact absurd H (by simp);rw [if_pos c4] at H;have c4b0 := eq_true c4;have c4b1 : decide (x3_1.size + 2 ≤ 9223372036854775807) = true := dT c4;(try have c4b2 : (9223372036854775807 < x3_1.size + 2) = False := eq_false (Nat.not_lt.2 c4))
     by_cases c5 : 0 ≤ x4_1
     rotate_left;rw [if_neg c5] at H;exact absurd H (by simp);rw [if_pos c5] at H;have c5b0 : decide (0 ≤ x4_1) = true := dT c5;clear c5;obtain ⟨t208,A6,H⟩ := bE_ H
     by_cases c7 : (x3_1 ++ (⟨#[59,32]⟩ : ByteArray)).size + t208.size ≤ 9223372036854775807
     rotate_left;rw [if_neg c7] at H;exact absurd H (by simp);rw [if_pos c7] at H;have c7b0 := eq_true c7;have c7b1 : decide ((x3_1 ++ (⟨#[59,32]⟩ : ByteArray)).size + t208.size ≤ 9223372036854775807) = true := dT c7;(try have c7b3 : (9223372036854775807 < x3_1.size + 2 + t208.size) = False := eq_false (by have h_ := c7;simp only [ByteArray.size_append,ByteArray.size_extract] at h_;have hs0_ : (⟨#[59,32]⟩ : ByteArray).size = 2 := rfl;omega));(try have c7b2 : (9223372036854775807 < (x3_1 ++ (⟨#[59,32]⟩ : ByteArray)).size + t208.size) = False := eq_false (Nat.not_lt.2 c7));have H' := aM H;clear H
    rotate_left
    focus
     rw [if_neg c3] at H;have c3b0 : decide (0 < x4_1) = false := dF c3;clear c3
     by_cases c9 : 0 ≤ x4_1
     rotate_left;rw [if_neg c9] at H;exact absurd H (by simp);rw [if_pos c9] at H;have c9b0 : decide (0 ≤ x4_1) = true := dT c9;clear c9;obtain ⟨t210,A10,H⟩ := bE_ H
     by_cases c11 : x3_1.size + t210.size ≤ 9223372036854775807
     rotate_left;rw [if_neg c11] at H;exact absurd H (by simp);rw [if_pos c11] at H;have c11b0 := eq_true c11;have c11b1 : decide (x3_1.size + t210.size ≤ 9223372036854775807) = true := dT c11;(try have c11b2 : (9223372036854775807 < x3_1.size + t210.size) = False := eq_false (Nat.not_lt.2 c11));have H' := aM H;clear H
   rotate_left 2
   focus
    rw [if_neg c2] at H;have c2b0 : decide (x4_1 < (l0.length : Int)) = false := dF c2;clear c2;obtain rfl := Option.some.inj H;simp only [eS,eP] at H;obtain ⟨rfl⟩ := H
   all_goals
    (try (have p01 : 0 ≤ (x4_1 : Int) := oD (by assumption);have q01 : x4_1 < (l0.length : Int) := oD (by assumption);obtain ⟨ad01,A01_0,c01_0,e01,hx01_0,hx01_1,hx01_2,hx01_3,hl01_0,hi01_0⟩ := at_T157 HR0.out x4_1 p01 q01;cases e01;replace hx01_0 := (HB.out.cell (wB w _ hx01_0)).trans hx01_0;replace hx01_1 := (HB.out.cell (wB w _ hx01_1)).trans hx01_1;replace hx01_2 := (HB.out.cell (wB w _ hx01_2)).trans hx01_2;replace hx01_3 := (HB.out.cell (wB w _ hx01_3)).trans hx01_3;have HR01_0 := aM hi01_0;have HC01_0 := aM hl01_0;clear hi01_0 hl01_0;replace p01 := eq_true p01;replace q01 := eq_true q01));go_wp2_with (first|((with_reducible refine gate_callee (f := 226) rfl ?_);refine gl_ (some 20) Tryz.func226 #[.agg #[.slice A01_0 ((rd_T157 l0 x4_1).f0).length c01_0,.string ((rd_T157 l0 x4_1).f1),.string ((rd_T157 l0 x4_1).f2),.string ((rd_T157 l0 x4_1).f3)]] ?_;(with_reducible refine (spec_l2Inverse.calls _ _ _ _ _ _ _ _ _ ?side1 ?side2 A10.out).mono ?_);(case side1 => exact wX_ HR01_0.out);(case side2 => exact HC01_0.out);rintro e WA10 ⟨rfl,hb⟩;refine ⟨_,rfl,?_⟩;replace HB := aM (lT wB_ hb))|((with_reducible refine gate_callee (f := 226) rfl ?_);refine gl_ (some 20) Tryz.func226 #[.agg #[.slice A01_0 ((rd_T157 l0 x4_1).f0).length c01_0,.string ((rd_T157 l0 x4_1).f1),.string ((rd_T157 l0 x4_1).f2),.string ((rd_T157 l0 x4_1).f3)]] ?_;(with_reducible refine (spec_l2Inverse.calls _ _ _ _ _ _ _ _ _ ?side1 ?side2 A6.out).mono ?_);(case side1 => exact wX_ HR01_0.out);(case side2 => exact HC01_0.out);rintro e WA6 ⟨rfl,hb⟩;refine ⟨_,rfl,?_⟩;replace HB := aM (lT wB_ hb)))
    first
     |
      go_ret;exact ⟨vR_,wB_⟩
     |
      go_roundg k1
      case measure => have := HK1.out;omega
      case rel => first|(exact ⟨((x3_1 ++ (⟨#[59,32]⟩ : ByteArray)) ++ t208),(wrap64 (x4_1 + 1)),vR_,vR_,H',⟨by have := HK1.out;omega⟩,⟨wB_⟩⟩)|(exact ⟨(x3_1 ++ t210),(wrap64 (x4_1 + 1)),vR_,vR_,H',⟨by have := HK1.out;omega⟩,⟨wB_⟩⟩)
def spec_l3Pad.l0 : Nat → Int → ByteArray → Option (ByteArray)
 | 0,_,_ => none
 | k + 1,x1,x5 => if (x5.size : Int) < x1 then (if 1 + x5.size ≤ 9223372036854775807 then (spec_l3Pad.l0 k x1 ((⟨#[48]⟩ : ByteArray) ++ x5)) else (none)) else (some x5)
def spec_l3Pad.f (k : Nat) (a0 : Int) (a1 : Int) : Option (ByteArray) := (spec_l1Num.f k a0).bind fun t211 => (spec_l3Pad.l0 k a1 t211)
theorem spec_l3Pad.mono_l : ∀ k,(∀ y0 y1,LeO (spec_l3Pad.l0 k y0 y1) (spec_l3Pad.l0 (k + 1) y0 y1))
 | 0 => fun _ _ r h => by simp [spec_l3Pad.l0] at h
 | k + 1 => by
  have ih0 := spec_l3Pad.mono_l k
  ·intro y0 y1
   unfold spec_l3Pad.l0
   repeat' (first|with_reducible (first|exact ih0 _ _|exact spec_l1Num.mono _ _|exact LeO.refl _|exact LeO.none _|refine LeO.ite ?_ ?_|refine LeO.bind ?_ (fun _ => ?_))|exact LeO.none _|refine LeO.ite ?_ ?_|refine LeO.bind ?_ (fun _ => ?_))
theorem spec_l3Pad.mono : ∀ a0 a1 k,LeO (spec_l3Pad.f k a0 a1) (spec_l3Pad.f (k + 1) a0 a1) := by
 intro a0 a1 k
 have ih0 := spec_l3Pad.mono_l k
 unfold spec_l3Pad.f
 repeat' (first|with_reducible (first|exact ih0 _ _|exact spec_l1Num.mono _ _|exact LeO.refl _|exact LeO.none _|refine LeO.ite ?_ ?_|refine LeO.bind ?_ (fun _ => ?_))|exact LeO.none _|refine LeO.ite ?_ ?_|refine LeO.bind ?_ (fun _ => ?_))
set_option maxHeartbeats 8000000 in
set_option maxRecDepth 100000 in
theorem spec_l3Pad.calls (k : Nat) (a0 : Int) (a1 : Int) (r : ByteArray) (w : World) (h : spec_l3Pad.f k a0 a1 = some r) :
  Calls Tryz.prog 227 #[.int .i64 a0,.int .i64 a1] w fun e w' => e = .returned (.string r) ∧ Below w.heap.size w w' := by
 have HB := aM (Below.refl w.heap.size w);have H : ((spec_l1Num.f k a0).bind fun t211 => (spec_l3Pad.l0 k a1 t211)) = some r := h;clear h;obtain ⟨t211,A3,H⟩ := bE_ H;have H' := aM H;clear H;go_enter Tryz.func227,Tryz.ntmps227;go_wp2_with (first|((with_reducible refine gate_callee (f := 142) rfl ?_);refine gl_ (some 7) Tryz.func142 #[.int .i64 a0] ?_;(with_reducible refine (spec_l1Num.calls k a0 t211 _ A3.out).mono ?_);rintro e w4 ⟨rfl,hb⟩;refine ⟨_,rfl,?_⟩;replace HB := aM (lT wB_ hb)));go_loopg [5] k (fun kq v5 w' => ∃ (x5_1 : ByteArray),v5 = .string x5_1 ∧ Aside0 (spec_l3Pad.l0 kq a1 x5_1 = some r) ∧ Aside0 (kq ≤ k) ∧ Aside0 (Below w.heap.size w w'))
 case atStart => exact ⟨(t211),vR_,H',⟨Nat.le_refl _⟩,⟨wB_⟩⟩
 case round =>
  clear H';obtain ⟨x5_1,rfl,HA,HK1,HB⟩ := hrel
  cases gk with
  | zero => exact absurd HA.out (by simp [spec_l3Pad.l0])
  | succ k1 =>
   have H := HA.out;clear HA;simp only [spec_l3Pad.l0] at H
   by_cases c5 : (x5_1.size : Int) < a1
   ·rw [if_pos c5] at H;have c5b0 : decide ((x5_1.size : Int) < a1) = true := dT c5;clear c5
    by_cases c6 : 1 + x5_1.size ≤ 9223372036854775807
    ·rw [if_pos c6] at H;have c6b0 := eq_true c6;have c6b1 : decide (1 + x5_1.size ≤ 9223372036854775807) = true := dT c6;(try have c6b2 : (9223372036854775807 < 1 + x5_1.size) = False := eq_false (Nat.not_lt.2 c6));have H' := aM H;clear H;go_wp2;go_roundg k1
     case measure => have := HK1.out;omega
     case rel => exact ⟨((⟨#[48]⟩ : ByteArray) ++ x5_1),vR_,H',⟨by have := HK1.out;omega⟩,⟨wB_⟩⟩
    ·rw [if_neg c6] at H;exact absurd H (by simp)
   ·rw [if_neg c5] at H;have c5b0 : decide ((x5_1.size : Int) < a1) = false := dF c5;clear c5;obtain rfl := Option.some.inj H;simp only [eS,eP] at H;obtain ⟨rfl⟩ := H;go_wp2;go_ret;exact ⟨vR_,wB_⟩
def spec_l3Text.j0 : Nat → ByteArray → Int → Int → Int → Bool → Option (ByteArray)
 | 0,_,_,_,_,_ => none
 | k + 1,x3,x213000,x213001,x213002,x213003 => if x213002 > 0 then (if x3.size + 1 ≤ 9223372036854775807 then ((spec_l3Pad.f k x213002 2).bind fun t215 => (if (x3 ++ (⟨#[45]⟩ : ByteArray)).size + t215.size ≤ 9223372036854775807 then (if x213003 = true then (if 1 + ((x3 ++ (⟨#[45]⟩ : ByteArray)) ++ t215).size ≤ 9223372036854775807 then (some ((⟨#[99]⟩ : ByteArray) ++ ((x3 ++ (⟨#[45]⟩ : ByteArray)) ++ t215))) else (none)) else (some ((x3 ++ (⟨#[45]⟩ : ByteArray)) ++ t215))) else (none))) else (none)) else (if x213003 = true then (if 1 + x3.size ≤ 9223372036854775807 then (some ((⟨#[99]⟩ : ByteArray) ++ x3)) else (none)) else (some x3))
def spec_l3Text.f (k : Nat) (a0_0 : Int) (a0_1 : Int) (a0_2 : Int) (a0_3 : Bool) : Option (ByteArray) := if a0_0 = 0 then (some (⟨#[117,110,107,110,111,119,110]⟩ : ByteArray)) else ((spec_l3Pad.f k a0_0 4).bind fun t213 => (if a0_1 > 0 then (if t213.size + 1 ≤ 9223372036854775807 then ((spec_l3Pad.f k a0_1 2).bind fun t214 => (if (t213 ++ (⟨#[45]⟩ : ByteArray)).size + t214.size ≤ 9223372036854775807 then (spec_l3Text.j0 k ((t213 ++ (⟨#[45]⟩ : ByteArray)) ++ t214) a0_0 a0_1 a0_2 a0_3) else (none))) else (none)) else (spec_l3Text.j0 k t213 a0_0 a0_1 a0_2 a0_3)))
theorem spec_l3Text.mono_l : ∀ k,(∀ y0 y1 y2 y3 y4,LeO (spec_l3Text.j0 k y0 y1 y2 y3 y4) (spec_l3Text.j0 (k + 1) y0 y1 y2 y3 y4))
 | 0 => fun _ _ _ _ _ r h => by simp [spec_l3Text.j0] at h
 | k + 1 => by
  have ih0 := spec_l3Text.mono_l k
  ·intro y0 y1 y2 y3 y4
   unfold spec_l3Text.j0
   repeat' (first|with_reducible (first|exact ih0 _ _ _ _ _|exact spec_l3Pad.mono _ _ _|exact LeO.refl _|exact LeO.none _|refine LeO.ite ?_ ?_|refine LeO.bind ?_ (fun _ => ?_))|exact LeO.none _|refine LeO.ite ?_ ?_|refine LeO.bind ?_ (fun _ => ?_))
theorem spec_l3Text.mono : ∀ a0 a1 a2 a3 k,LeO (spec_l3Text.f k a0 a1 a2 a3) (spec_l3Text.f (k + 1) a0 a1 a2 a3) := by
 intro a0 a1 a2 a3 k
 have ih0 := spec_l3Text.mono_l k
 unfold spec_l3Text.f
 repeat' (first|with_reducible (first|exact ih0 _ _ _ _ _|exact spec_l3Pad.mono _ _ _|exact LeO.refl _|exact LeO.none _|refine LeO.ite ?_ ?_|refine LeO.bind ?_ (fun _ => ?_))|exact LeO.none _|refine LeO.ite ?_ ?_|refine LeO.bind ?_ (fun _ => ?_))
set_option maxHeartbeats 8000000 in
set_option maxRecDepth 100000 in
theorem spec_l3Text.calls (k : Nat) (a0_0 : Int) (a0_1 : Int) (a0_2 : Int) (a0_3 : Bool) (r : ByteArray) (w : World) (h : spec_l3Text.f k a0_0 a0_1 a0_2 a0_3 = some r) :
  Calls Tryz.prog 182 #[.agg #[.int .i64 a0_0,.int .i64 a0_1,.int .i64 a0_2,.bool a0_3]] w fun e w' => e = .returned (.string r) ∧ Below w.heap.size w w' := by
 have hu39 := Tryz.underlying39;have HB := aM (Below.refl w.heap.size w);have H : (if a0_0 = 0 then (some (⟨#[117,110,107,110,111,119,110]⟩ : ByteArray)) else ((spec_l3Pad.f k a0_0 4).bind fun t213 => (if a0_1 > 0 then (if t213.size + 1 ≤ 9223372036854775807 then ((spec_l3Pad.f k a0_1 2).bind fun t214 => (if (t213 ++ (⟨#[45]⟩ : ByteArray)).size + t214.size ≤ 9223372036854775807 then (spec_l3Text.j0 k ((t213 ++ (⟨#[45]⟩ : ByteArray)) ++ t214) a0_0 a0_1 a0_2 a0_3) else (none))) else (none)) else (spec_l3Text.j0 k t213 a0_0 a0_1 a0_2 a0_3)))) = some r := h;clear h
 by_cases c2 : a0_0 = 0
 ·rw [if_pos c2] at H;have c2b0 : (a0_0 == 0) = true := beq_iff_eq.mpr c2;have c2b1 : (a0_0 != 0) = false := bne_eq_false_iff_eq.mpr c2;clear c2;obtain rfl := Option.some.inj H;simp only [eS,eP] at H;obtain ⟨rfl⟩ := H;go_enter Tryz.func182,Tryz.ntmps182;go_wp2_with (first|((with_reducible refine gate_dst (N := 1) rfl ?_);refine bx_ (N := 1) (cs := #[.int .i64 a0_0,.int .i64 a0_1,.int .i64 a0_2,.bool a0_3]) (t := 39) ?_;intro gb212 hg w3 hbox hb;have BK212 := aM (hbox);have GW212 := aM ((by rw [hg];exact (lZ wB_) : w.heap.size ≤ gb212));have GE212 := GW212;replace HB := aM (lT wB_ hb);clear hb hbox hg;obtain ⟨hcz4_0,hcz4_1,hcz4_2,hcz4_3,hfz4_0,hfz4_1,hfz4_2,hfz4_3⟩ := z4_ BK212.out));go_ret;exact ⟨vR_,wB_⟩
 ·rw [if_neg c2] at H;have c2b0 : (a0_0 == 0) = false := beq_eq_false_iff_ne.mpr c2;have c2b1 : (a0_0 != 0) = true := bne_iff_ne.mpr c2;obtain ⟨t213,A5,H⟩ := bE_ H;have HC6 := aM H;clear H;go_enter Tryz.func182,Tryz.ntmps182;go_upto_if 12 with (first|((with_reducible refine gate_dst (N := 1) rfl ?_);refine bx_ (N := 1) (cs := #[.int .i64 a0_0,.int .i64 a0_1,.int .i64 a0_2,.bool a0_3]) (t := 39) ?_;intro gb212 hg w7 hbox hb;have BK212 := aM (hbox);have GW212 := aM ((by rw [hg];exact (lZ wB_) : w.heap.size ≤ gb212));have GE212 := GW212;replace HB := aM (lT wB_ hb);clear hb hbox hg;obtain ⟨hcz8_0,hcz8_1,hcz8_2,hcz8_3,hfz8_0,hfz8_1,hfz8_2,hfz8_3⟩ := z4_ BK212.out)|((with_reducible refine gate_callee (f := 227) rfl ?_);refine gl_ (some 9) Tryz.func227 #[.int .i64 a0_0,.int .i64 4] ?_;(with_reducible refine (spec_l3Pad.calls k a0_0 4 t213 _ A5.out).mono ?_);rintro e w9 ⟨rfl,hb⟩;refine ⟨_,rfl,?_⟩;replace BK212 := aM (bw_ BK212.out hb);replace HB := aM (lT wB_ hb);obtain ⟨hcz10_0,hcz10_1,hcz10_2,hcz10_3,hfz10_0,hfz10_1,hfz10_2,hfz10_3⟩ := z4_ BK212.out));(try simp only [Act.put,lI,sZ,sS]);go_cut [3] (fun v3 wc => ∃ (kq : Nat) (x3_5 : ByteArray),v3 = .string x3_5 ∧ Aside0 (spec_l3Text.j0 kq x3_5 a0_0 a0_1 a0_2 a0_3 = some r) ∧ Aside0 (kq ≤ k) ∧ Aside0 (wc.heap[gb212]? = some (.cells #[.int .i64 a0_0,.int .i64 a0_1,.int .i64 a0_2,.bool a0_3] 39 (0,0))) ∧ Aside0 (Below w.heap.size w wc))
  case first =>
   have H := HC6.out;clear HC6
   by_cases c11 : a0_1 > 0
   ·rw [if_pos c11] at H;have c11b0 : decide (0 < a0_1) = true := dT c11;clear c11;(first|rw [c11b0]|(simp only [i64_w,i32_w];rw [c11b0])|skip)
    by_cases c12 : t213.size + 1 ≤ 9223372036854775807
    ·rw [if_pos c12] at H;have c12b0 := eq_true c12;have c12b1 : decide (t213.size + 1 ≤ 9223372036854775807) = true := dT c12;(try have c12b2 : (9223372036854775807 < t213.size + 1) = False := eq_false (Nat.not_lt.2 c12));obtain ⟨t214,A13,H⟩ := bE_ H
     by_cases c14 : (t213 ++ (⟨#[45]⟩ : ByteArray)).size + t214.size ≤ 9223372036854775807
     ·rw [if_pos c14] at H;have c14b0 := eq_true c14;have c14b1 : decide ((t213 ++ (⟨#[45]⟩ : ByteArray)).size + t214.size ≤ 9223372036854775807) = true := dT c14;(try have c14b3 : (9223372036854775807 < t213.size + 1 + t214.size) = False := eq_false (by have h_ := c14;simp only [ByteArray.size_append,ByteArray.size_extract] at h_;have hs0_ : (⟨#[45]⟩ : ByteArray).size = 1 := rfl;omega));(try have c14b2 : (9223372036854775807 < (t213 ++ (⟨#[45]⟩ : ByteArray)).size + t214.size) = False := eq_false (Nat.not_lt.2 c14));have H' := aM H;clear H;obtain ⟨hcz15_0,hcz15_1,hcz15_2,hcz15_3,hfz15_0,hfz15_1,hfz15_2,hfz15_3⟩ := z4_ BK212.out;go_wp2_with (first|((with_reducible refine gate_callee (f := 227) rfl ?_);refine gl_ (some 17) Tryz.func227 #[.int .i64 a0_1,.int .i64 2] ?_;(with_reducible refine (spec_l3Pad.calls k a0_1 2 t214 _ A13.out).mono ?_);rintro e w16 ⟨rfl,hb⟩;refine ⟨_,rfl,?_⟩;replace BK212 := aM (bw_ BK212.out hb);replace HB := aM (lT wB_ hb)));go_meet
      case rel => exact ⟨_,((t213 ++ (⟨#[45]⟩ : ByteArray)) ++ t214),vR_,H',⟨by first|omega|exact Nat.le_refl _⟩,⟨wC_ BK212.out⟩,⟨wB_⟩⟩
     ·rw [if_neg c14] at H;exact absurd H (by simp)
    ·rw [if_neg c12] at H;exact absurd H (by simp)
   ·rw [if_neg c11] at H;have c11b0 : decide (0 < a0_1) = false := dF c11;clear c11;(first|rw [c11b0]|(simp only [i64_w,i32_w];rw [c11b0])|skip);have H' := aM H;clear H;go_wp2;go_meet
    case rel => exact ⟨_,(t213),vR_,H',⟨by first|omega|exact Nat.le_refl _⟩,⟨wC_ BK212.out⟩,⟨wB_⟩⟩
  case rest =>
   clear HC6;obtain ⟨kq,x3_5,rfl,HA,HJ5,BK212,HB⟩ := hcut
   cases kq with
   | zero => exact absurd HA.out (by simp [spec_l3Text.j0])
   | succ kj5 =>
    have H := HA.out;clear HA;simp only [spec_l3Text.j0] at H
    by_cases c17 : a0_2 > 0
    focus
     rw [if_pos c17] at H;have c17b0 : decide (0 < a0_2) = true := dT c17;clear c17
     by_cases c18 : x3_5.size + 1 ≤ 9223372036854775807
     rotate_left;rw [if_neg c18] at H;exact absurd H (by simp);rw [if_pos c18] at H;have c18b0 := eq_true c18;have c18b1 : decide (x3_5.size + 1 ≤ 9223372036854775807) = true := dT c18;(try have c18b2 : (9223372036854775807 < x3_5.size + 1) = False := eq_false (Nat.not_lt.2 c18));obtain ⟨t215,A19,H⟩ := bE_ H
     by_cases c20 : (x3_5 ++ (⟨#[45]⟩ : ByteArray)).size + t215.size ≤ 9223372036854775807
     rotate_left;rw [if_neg c20] at H;exact absurd H (by simp);rw [if_pos c20] at H;have c20b0 := eq_true c20;have c20b1 : decide ((x3_5 ++ (⟨#[45]⟩ : ByteArray)).size + t215.size ≤ 9223372036854775807) = true := dT c20;(try have c20b3 : (9223372036854775807 < x3_5.size + 1 + t215.size) = False := eq_false (by have h_ := c20;simp only [ByteArray.size_append,ByteArray.size_extract] at h_;have hs0_ : (⟨#[45]⟩ : ByteArray).size = 1 := rfl;omega));(try have c20b2 : (9223372036854775807 < (x3_5 ++ (⟨#[45]⟩ : ByteArray)).size + t215.size) = False := eq_false (Nat.not_lt.2 c20))
     by_cases c21 : a0_3 = true
     focus
      subst c21;rw [if_pos rfl] at H
      by_cases c22 : 1 + ((x3_5 ++ (⟨#[45]⟩ : ByteArray)) ++ t215).size ≤ 9223372036854775807
      rotate_left;rw [if_neg c22] at H;exact absurd H (by simp);rw [if_pos c22] at H;have c22b0 := eq_true c22;have c22b1 : decide (1 + ((x3_5 ++ (⟨#[45]⟩ : ByteArray)) ++ t215).size ≤ 9223372036854775807) = true := dT c22;(try have c22b3 : (9223372036854775807 < 1 + (x3_5.size + 1 + t215.size)) = False := eq_false (by have h_ := c22;simp only [ByteArray.size_append,ByteArray.size_extract] at h_;have hs0_ : (⟨#[45]⟩ : ByteArray).size = 1 := rfl;omega));(try have c22b2 : (9223372036854775807 < 1 + ((x3_5 ++ (⟨#[45]⟩ : ByteArray)) ++ t215).size) = False := eq_false (Nat.not_lt.2 c22));obtain rfl := Option.some.inj H;simp only [eS,eP] at H;obtain ⟨rfl⟩ := H
     rotate_left
     focus
      replace c21 := Bool.eq_false_iff.mpr c21;subst c21;rw [if_neg Bool.false_ne_true] at H;obtain rfl := Option.some.inj H;simp only [eS,eP] at H;obtain ⟨rfl⟩ := H
    rotate_left 2
    focus
     rw [if_neg c17] at H;have c17b0 : decide (0 < a0_2) = false := dF c17;clear c17
     by_cases c29 : a0_3 = true
     focus
      subst c29;rw [if_pos rfl] at H
      by_cases c30 : 1 + x3_5.size ≤ 9223372036854775807
      rotate_left;rw [if_neg c30] at H;exact absurd H (by simp);rw [if_pos c30] at H;have c30b0 := eq_true c30;have c30b1 : decide (1 + x3_5.size ≤ 9223372036854775807) = true := dT c30;(try have c30b2 : (9223372036854775807 < 1 + x3_5.size) = False := eq_false (Nat.not_lt.2 c30));obtain rfl := Option.some.inj H;simp only [eS,eP] at H;obtain ⟨rfl⟩ := H
     rotate_left
     focus
      replace c29 := Bool.eq_false_iff.mpr c29;subst c29;rw [if_neg Bool.false_ne_true] at H;obtain rfl := Option.some.inj H;simp only [eS,eP] at H;obtain ⟨rfl⟩ := H
    all_goals
     obtain ⟨hczx212_0,hczx212_1,hczx212_2,hczx212_3,hfzx212_0,hfzx212_1,hfzx212_2,hfzx212_3⟩ := z4_ BK212.out;go_wp2_with (first|((with_reducible refine gate_callee (f := 227) rfl ?_);refine gl_ (some 26) Tryz.func227 #[.int .i64 a0_2,.int .i64 2] ?_;(with_reducible refine (spec_l3Pad.calls _ _ _ _ _ A19.out).mono ?_);rintro e WA19 ⟨rfl,hb⟩;refine ⟨_,rfl,?_⟩;replace BK212 := aM (bw_ BK212.out hb);replace HB := aM (lT wB_ hb);obtain ⟨hcz19x212_0,hcz19x212_1,hcz19x212_2,hcz19x212_3,hfz19x212_0,hfz19x212_1,hfz19x212_2,hfz19x212_3⟩ := z4_ BK212.out)|((with_reducible refine gate_callee (f := 227) rfl ?_);refine gl_ (some 26) Tryz.func227 #[.int .i64 a0_2,.int .i64 2] ?_;(with_reducible refine (spec_l3Pad.calls _ _ _ _ _ A19.out).mono ?_);rintro e WA19 ⟨rfl,hb⟩;refine ⟨_,rfl,?_⟩;replace BK212 := aM (bw_ BK212.out hb);replace HB := aM (lT wB_ hb);obtain ⟨hcz19x212_0,hcz19x212_1,hcz19x212_2,hcz19x212_3,hfz19x212_0,hfz19x212_1,hfz19x212_2,hfz19x212_3⟩ := z4_ BK212.out));go_ret;exact ⟨vR_,wB_⟩
def spec_l4Field.f (k : Nat) (a0_0 : ByteArray) (a0_1 : Int) (l0_2 : List (S157)) (l0_3 : List (S157)) (a0_4 : ByteArray) (a0_5 : ByteArray) (a0_6 : ByteArray) (a0_7 : Int) (a0_8 : Int) (a0_9 : Int) (a0_10 : Bool) (a0_11 : Int) (a0_12 : ByteArray) (a0_13 : ByteArray) (a1 : ByteArray) : Option (ByteArray × Bool) := if a1.toList = ([97,117,116,104,111,114,115] : List UInt8) then ((spec_l4Names.f k l0_2).bind fun t217 => (some (t217,true))) else (if a1.toList = ([101,100,105,116,111,114,115] : List UInt8) then ((spec_l4Names.f k l0_3).bind fun t218 => (some (t218,true))) else (if a1.toList = ([116,105,116,108,101] : List UInt8) then (some (a0_4,true)) else (if a1.toList = ([99,111,110,116,97,105,110,101,114] : List UInt8) then (some (a0_5,true)) else (if a1.toList = ([112,117,98,108,105,115,104,101,114] : List UInt8) then (some (a0_6,true)) else (if a1.toList = ([112,97,103,101,115] : List UInt8) then (some (a0_12,true)) else (if a1.toList = ([100,97,116,101] : List UInt8) then (if a0_7 = 0 then (some ((⟨#[]⟩ : ByteArray),true)) else ((spec_l3Text.f k a0_7 a0_8 a0_9 a0_10).bind fun t219 => (some (t219,true)))) else (if a1.toList = ([118,111,108,117,109,101] : List UInt8) then (if a0_11 = 0 then (some ((⟨#[]⟩ : ByteArray),true)) else ((spec_l1Num.f k a0_11).bind fun t220 => (some (t220,true)))) else (some ((⟨#[]⟩ : ByteArray),false)))))))))
theorem spec_l4Field.mono : ∀ a0 a1 a2 a3 a4 a5 a6 a7 a8 a9 a10 a11 a12 a13 a14 k,LeO (spec_l4Field.f k a0 a1 a2 a3 a4 a5 a6 a7 a8 a9 a10 a11 a12 a13 a14) (spec_l4Field.f (k + 1) a0 a1 a2 a3 a4 a5 a6 a7 a8 a9 a10 a11 a12 a13 a14) := by
 intro a0 a1 a2 a3 a4 a5 a6 a7 a8 a9 a10 a11 a12 a13 a14 k
 unfold spec_l4Field.f
 repeat' (first|with_reducible (first|exact spec_l1Num.mono _ _|exact spec_l3Text.mono _ _ _ _ _|exact spec_l4Names.mono _ _|exact LeO.refl _|exact LeO.none _|refine LeO.ite ?_ ?_|refine LeO.bind ?_ (fun _ => ?_))|exact LeO.none _|refine LeO.ite ?_ ?_|refine LeO.bind ?_ (fun _ => ?_))
set_option maxHeartbeats 8000000 in
set_option maxRecDepth 100000 in
theorem spec_l4Field.calls (k : Nat) (a0_0 : ByteArray) (a0_1 : Int) (A0_2 : Option Addr) (c0_2 : Nat) (l0_2 : List (S157)) (A0_3 : Option Addr) (c0_3 : Nat) (l0_3 : List (S157)) (a0_4 : ByteArray) (a0_5 : ByteArray) (a0_6 : ByteArray) (a0_7 : Int) (a0_8 : Int) (a0_9 : Int) (a0_10 : Bool) (a0_11 : Int) (a0_12 : ByteArray) (a0_13 : ByteArray) (a1 : ByteArray) (r1 : ByteArray) (r2 : Bool) (w : World) (hr0_2 : Kd.C k157 w A0_2 l0_2.length l0_2) (hc0_2 : l0_2.length ≤ c0_2) (hr0_3 : Kd.C k157 w A0_3 l0_3.length l0_3) (hc0_3 : l0_3.length ≤ c0_3) (h : spec_l4Field.f k a0_0 a0_1 l0_2 l0_3 a0_4 a0_5 a0_6 a0_7 a0_8 a0_9 a0_10 a0_11 a0_12 a0_13 a1 = some (r1,r2)) :
  Calls Tryz.prog 144 #[.agg #[.string a0_0,.int .i64 a0_1,.slice A0_2 l0_2.length c0_2,.slice A0_3 l0_3.length c0_3,.string a0_4,.string a0_5,.string a0_6,.int .i64 a0_7,.int .i64 a0_8,.int .i64 a0_9,.bool a0_10,.int .i64 a0_11,.string a0_12,.string a0_13],.string a1] w fun e w' => e = .returned (.tuple #[.string r1,.bool r2]) ∧ Below w.heap.size w w' := by
 have hu41 := Tryz.underlying41;have hu39 := Tryz.underlying39;have HR0_2 := aM hr0_2;have HC0_2 := aM hc0_2;clear hr0_2 hc0_2;have HR0_3 := aM hr0_3;have HC0_3 := aM hc0_3;clear hr0_3 hc0_3;have HB := aM (Below.refl w.heap.size w);have H : (if a1.toList = ([97,117,116,104,111,114,115] : List UInt8) then ((spec_l4Names.f k l0_2).bind fun t217 => (some (t217,true))) else (if a1.toList = ([101,100,105,116,111,114,115] : List UInt8) then ((spec_l4Names.f k l0_3).bind fun t218 => (some (t218,true))) else (if a1.toList = ([116,105,116,108,101] : List UInt8) then (some (a0_4,true)) else (if a1.toList = ([99,111,110,116,97,105,110,101,114] : List UInt8) then (some (a0_5,true)) else (if a1.toList = ([112,117,98,108,105,115,104,101,114] : List UInt8) then (some (a0_6,true)) else (if a1.toList = ([112,97,103,101,115] : List UInt8) then (some (a0_12,true)) else (if a1.toList = ([100,97,116,101] : List UInt8) then (if a0_7 = 0 then (some ((⟨#[]⟩ : ByteArray),true)) else ((spec_l3Text.f k a0_7 a0_8 a0_9 a0_10).bind fun t219 => (some (t219,true)))) else (if a1.toList = ([118,111,108,117,109,101] : List UInt8) then (if a0_11 = 0 then (some ((⟨#[]⟩ : ByteArray),true)) else ((spec_l1Num.f k a0_11).bind fun t220 => (some (t220,true)))) else (some ((⟨#[]⟩ : ByteArray),false)))))))))) = some (r1,r2) := h;clear h
 by_cases c3 : a1.toList = ([97,117,116,104,111,114,115] : List UInt8)
 focus
  rw [if_pos c3] at H;have c3b0 : (a1.toList == ([97,117,116,104,111,114,115] : List UInt8)) = true := beq_iff_eq.mpr c3;have c3b1 : (a1.toList != ([97,117,116,104,111,114,115] : List UInt8)) = false := bne_eq_false_iff_eq.mpr c3;clear c3;obtain ⟨t217,A4,H⟩ := bE_ H;simp only [eS,eP] at H;obtain ⟨rfl,rfl⟩ := H
 rotate_left
 focus
  rw [if_neg c3] at H;have c3b0 : (a1.toList == ([97,117,116,104,111,114,115] : List UInt8)) = false := beq_eq_false_iff_ne.mpr c3;have c3b1 : (a1.toList != ([97,117,116,104,111,114,115] : List UInt8)) = true := bne_iff_ne.mpr c3
  by_cases c8 : a1.toList = ([101,100,105,116,111,114,115] : List UInt8)
  focus
   rw [if_pos c8] at H;have c8b0 : (a1.toList == ([101,100,105,116,111,114,115] : List UInt8)) = true := beq_iff_eq.mpr c8;have c8b1 : (a1.toList != ([101,100,105,116,111,114,115] : List UInt8)) = false := bne_eq_false_iff_eq.mpr c8;clear c8;obtain ⟨t218,A9,H⟩ := bE_ H;simp only [eS,eP] at H;obtain ⟨rfl,rfl⟩ := H
  rotate_left
  focus
   rw [if_neg c8] at H;have c8b0 : (a1.toList == ([101,100,105,116,111,114,115] : List UInt8)) = false := beq_eq_false_iff_ne.mpr c8;have c8b1 : (a1.toList != ([101,100,105,116,111,114,115] : List UInt8)) = true := bne_iff_ne.mpr c8
   by_cases c13 : a1.toList = ([116,105,116,108,101] : List UInt8)
   focus
    rw [if_pos c13] at H;have c13b0 : (a1.toList == ([116,105,116,108,101] : List UInt8)) = true := beq_iff_eq.mpr c13;have c13b1 : (a1.toList != ([116,105,116,108,101] : List UInt8)) = false := bne_eq_false_iff_eq.mpr c13;clear c13;simp only [eS,eP] at H;obtain ⟨rfl,rfl⟩ := H
   rotate_left
   focus
    rw [if_neg c13] at H;have c13b0 : (a1.toList == ([116,105,116,108,101] : List UInt8)) = false := beq_eq_false_iff_ne.mpr c13;have c13b1 : (a1.toList != ([116,105,116,108,101] : List UInt8)) = true := bne_iff_ne.mpr c13
    by_cases c16 : a1.toList = ([99,111,110,116,97,105,110,101,114] : List UInt8)
    focus
     rw [if_pos c16] at H;have c16b0 : (a1.toList == ([99,111,110,116,97,105,110,101,114] : List UInt8)) = true := beq_iff_eq.mpr c16;have c16b1 : (a1.toList != ([99,111,110,116,97,105,110,101,114] : List UInt8)) = false := bne_eq_false_iff_eq.mpr c16;clear c16;simp only [eS,eP] at H;obtain ⟨rfl,rfl⟩ := H
    rotate_left
    focus
     rw [if_neg c16] at H;have c16b0 : (a1.toList == ([99,111,110,116,97,105,110,101,114] : List UInt8)) = false := beq_eq_false_iff_ne.mpr c16;have c16b1 : (a1.toList != ([99,111,110,116,97,105,110,101,114] : List UInt8)) = true := bne_iff_ne.mpr c16
     by_cases c19 : a1.toList = ([112,117,98,108,105,115,104,101,114] : List UInt8)
     focus
      rw [if_pos c19] at H;have c19b0 : (a1.toList == ([112,117,98,108,105,115,104,101,114] : List UInt8)) = true := beq_iff_eq.mpr c19;have c19b1 : (a1.toList != ([112,117,98,108,105,115,104,101,114] : List UInt8)) = false := bne_eq_false_iff_eq.mpr c19;clear c19;simp only [eS,eP] at H;obtain ⟨rfl,rfl⟩ := H
     rotate_left
     focus
      rw [if_neg c19] at H;have c19b0 : (a1.toList == ([112,117,98,108,105,115,104,101,114] : List UInt8)) = false := beq_eq_false_iff_ne.mpr c19;have c19b1 : (a1.toList != ([112,117,98,108,105,115,104,101,114] : List UInt8)) = true := bne_iff_ne.mpr c19
      by_cases c22 : a1.toList = ([112,97,103,101,115] : List UInt8)
      focus
       rw [if_pos c22] at H;have c22b0 : (a1.toList == ([112,97,103,101,115] : List UInt8)) = true := beq_iff_eq.mpr c22;have c22b1 : (a1.toList != ([112,97,103,101,115] : List UInt8)) = false := bne_eq_false_iff_eq.mpr c22;clear c22;simp only [eS,eP] at H;obtain ⟨rfl,rfl⟩ := H
      rotate_left
      focus
       rw [if_neg c22] at H;have c22b0 : (a1.toList == ([112,97,103,101,115] : List UInt8)) = false := beq_eq_false_iff_ne.mpr c22;have c22b1 : (a1.toList != ([112,97,103,101,115] : List UInt8)) = true := bne_iff_ne.mpr c22
       by_cases c25 : a1.toList = ([100,97,116,101] : List UInt8)
       focus
        rw [if_pos c25] at H;have c25b0 : (a1.toList == ([100,97,116,101] : List UInt8)) = true := beq_iff_eq.mpr c25;have c25b1 : (a1.toList != ([100,97,116,101] : List UInt8)) = false := bne_eq_false_iff_eq.mpr c25;clear c25
        by_cases c26 : a0_7 = 0
        focus
         rw [if_pos c26] at H;have c26b0 : (a0_7 == 0) = true := beq_iff_eq.mpr c26;have c26b1 : (a0_7 != 0) = false := bne_eq_false_iff_eq.mpr c26;clear c26;simp only [eS,eP] at H;obtain ⟨rfl,rfl⟩ := H
        rotate_left
        focus
         rw [if_neg c26] at H;have c26b0 : (a0_7 == 0) = false := beq_eq_false_iff_ne.mpr c26;have c26b1 : (a0_7 != 0) = true := bne_iff_ne.mpr c26;obtain ⟨t219,A29,H⟩ := bE_ H;simp only [eS,eP] at H;obtain ⟨rfl,rfl⟩ := H
       rotate_left 2
       focus
        rw [if_neg c25] at H;have c25b0 : (a1.toList == ([100,97,116,101] : List UInt8)) = false := beq_eq_false_iff_ne.mpr c25;have c25b1 : (a1.toList != ([100,97,116,101] : List UInt8)) = true := bne_iff_ne.mpr c25
        by_cases c33 : a1.toList = ([118,111,108,117,109,101] : List UInt8)
        focus
         rw [if_pos c33] at H;have c33b0 : (a1.toList == ([118,111,108,117,109,101] : List UInt8)) = true := beq_iff_eq.mpr c33;have c33b1 : (a1.toList != ([118,111,108,117,109,101] : List UInt8)) = false := bne_eq_false_iff_eq.mpr c33;clear c33
         by_cases c34 : a0_11 = 0
         focus
          rw [if_pos c34] at H;have c34b0 : (a0_11 == 0) = true := beq_iff_eq.mpr c34;have c34b1 : (a0_11 != 0) = false := bne_eq_false_iff_eq.mpr c34;clear c34;simp only [eS,eP] at H;obtain ⟨rfl,rfl⟩ := H
         rotate_left
         focus
          rw [if_neg c34] at H;have c34b0 : (a0_11 == 0) = false := beq_eq_false_iff_ne.mpr c34;have c34b1 : (a0_11 != 0) = true := bne_iff_ne.mpr c34;obtain ⟨t220,A37,H⟩ := bE_ H;simp only [eS,eP] at H;obtain ⟨rfl,rfl⟩ := H
        rotate_left 2
        focus
         rw [if_neg c33] at H;have c33b0 : (a1.toList == ([118,111,108,117,109,101] : List UInt8)) = false := beq_eq_false_iff_ne.mpr c33;have c33b1 : (a1.toList != ([118,111,108,117,109,101] : List UInt8)) = true := bne_iff_ne.mpr c33;simp only [eS,eP] at H;obtain ⟨rfl,rfl⟩ := H
 all_goals
  go_enter Tryz.func144,Tryz.ntmps144;go_wp2_with (first|((with_reducible refine gate_dst (N := 2) rfl ?_);refine bx_ (N := 2) (cs := #[.string a0_0,.int .i64 a0_1,.slice A0_2 l0_2.length c0_2,.slice A0_3 l0_3.length c0_3,.string a0_4,.string a0_5,.string a0_6,.int .i64 a0_7,.int .i64 a0_8,.int .i64 a0_9,.bool a0_10,.int .i64 a0_11,.string a0_12,.string a0_13]) (t := 41) ?_;intro gb216 hg Wgb216 hbox hb;have BK216 := aM (hbox);have GW216 := aM ((by rw [hg];exact (lZ wB_) : w.heap.size ≤ gb216));have GE216 := GW216;replace HB := aM (lT wB_ hb);clear hb hbox hg;obtain ⟨hcz216x216_0,hcz216x216_1,hcz216x216_2,hcz216x216_3,hcz216x216_4,hcz216x216_5,hcz216x216_6,hcz216x216_7,hcz216x216_8,hcz216x216_9,hcz216x216_10,hcz216x216_11,hcz216x216_12,hcz216x216_13,hfz216x216_0,hfz216x216_1,hfz216x216_2,hfz216x216_3,hfz216x216_4,hfz216x216_5,hfz216x216_6,hfz216x216_7,hfz216x216_8,hfz216x216_9,hfz216x216_10,hfz216x216_11,hfz216x216_12,hfz216x216_13⟩ := z14_ BK216.out)|((with_reducible refine gate_callee (f := 142) rfl ?_);refine gl_ (some 49) Tryz.func142 #[.int .i64 a0_11] ?_;(with_reducible refine (spec_l1Num.calls _ _ _ _ A37.out).mono ?_);rintro e WA37 ⟨rfl,hb⟩;refine ⟨_,rfl,?_⟩;replace BK216 := aM (bw_ BK216.out hb);replace HB := aM (lT wB_ hb))|((with_reducible refine gate_callee (f := 182) rfl ?_);refine gl_ (some 41) Tryz.func182 #[.agg #[.int .i64 a0_7,.int .i64 a0_8,.int .i64 a0_9,.bool a0_10]] ?_;(with_reducible refine (spec_l3Text.calls _ _ _ _ _ _ _ A29.out).mono ?_);rintro e WA29 ⟨rfl,hb⟩;refine ⟨_,rfl,?_⟩;replace BK216 := aM (bw_ BK216.out hb);replace HB := aM (lT wB_ hb))|((with_reducible refine gate_callee (f := 181) rfl ?_);refine gl_ (some 16) Tryz.func181 #[.slice A0_3 l0_3.length c0_3] ?_;(with_reducible refine (spec_l4Names.calls _ _ _ _ _ _ ?side1 ?side2 A9.out).mono ?_);(case side1 => exact wX_ HR0_3.out);(case side2 => exact HC0_3.out);rintro e WA9 ⟨rfl,hb⟩;refine ⟨_,rfl,?_⟩;replace BK216 := aM (bw_ BK216.out hb);replace HB := aM (lT wB_ hb))|((with_reducible refine gate_callee (f := 181) rfl ?_);refine gl_ (some 11) Tryz.func181 #[.slice A0_2 l0_2.length c0_2] ?_;(with_reducible refine (spec_l4Names.calls _ _ _ _ _ _ ?side1 ?side2 A4.out).mono ?_);(case side1 => exact wX_ HR0_2.out);(case side2 => exact HC0_2.out);rintro e WA4 ⟨rfl,hb⟩;refine ⟨_,rfl,?_⟩;replace BK216 := aM (bw_ BK216.out hb);replace HB := aM (lT wB_ hb)));go_ret2;exact ⟨vR_,wB_⟩
def spec_l6Letter.f (a0 : Int) : Option (Bool) := if a0 ≥ 65 then (if a0 ≤ 90 then (some true) else (if a0 ≥ 97 then (some (decide (a0 ≤ 122))) else (some false))) else (if a0 ≥ 97 then (some (decide (a0 ≤ 122))) else (some false))
set_option maxHeartbeats 8000000 in
set_option maxRecDepth 100000 in
theorem spec_l6Letter.calls (a0 : Int) (r : Bool) (w : World) (h : spec_l6Letter.f a0 = some r) :
  Calls Tryz.prog 183 #[.int .u8 a0] w fun e w' => e = .returned (.bool r) ∧ Drawn0 w w' := by
 have H : (if a0 ≥ 65 then (if a0 ≤ 90 then (some true) else (if a0 ≥ 97 then (some (decide (a0 ≤ 122))) else (some false))) else (if a0 ≥ 97 then (some (decide (a0 ≤ 122))) else (some false))) = some r := h;clear h
 by_cases c2 : a0 ≥ 65
 focus
  rw [if_pos c2] at H;have c2b0 : decide (65 ≤ a0) = true := dT c2;clear c2
  by_cases c3 : a0 ≤ 90
  focus
   rw [if_pos c3] at H;have c3b0 : decide (a0 ≤ 90) = true := dT c3;clear c3;obtain rfl := Option.some.inj H;simp only [eS,eP] at H;obtain ⟨rfl⟩ := H
  rotate_left
  focus
   rw [if_neg c3] at H;have c3b0 : decide (a0 ≤ 90) = false := dF c3;clear c3
   by_cases c4 : a0 ≥ 97
   focus
    rw [if_pos c4] at H;have c4b0 : decide (97 ≤ a0) = true := dT c4;clear c4;obtain rfl := Option.some.inj H;simp only [eS,eP] at H;obtain ⟨rfl⟩ := H
   rotate_left
   focus
    rw [if_neg c4] at H;have c4b0 : decide (97 ≤ a0) = false := dF c4;clear c4;obtain rfl := Option.some.inj H;simp only [eS,eP] at H;obtain ⟨rfl⟩ := H
 rotate_left 3
 focus
  rw [if_neg c2] at H;have c2b0 : decide (65 ≤ a0) = false := dF c2;clear c2
  by_cases c5 : a0 ≥ 97
  focus
   rw [if_pos c5] at H;have c5b0 : decide (97 ≤ a0) = true := dT c5;clear c5;obtain rfl := Option.some.inj H;simp only [eS,eP] at H;obtain ⟨rfl⟩ := H
  rotate_left
  focus
   rw [if_neg c5] at H;have c5b0 : decide (97 ≤ a0) = false := dF c5;clear c5;obtain rfl := Option.some.inj H;simp only [eS,eP] at H;obtain ⟨rfl⟩ := H
 all_goals
  go_enter Tryz.func183,Tryz.ntmps183;go_wp2;go_ret;exact ⟨vR_,dw_⟩
def spec_l6LowerByte.f (a0 : Int) : Option (Int) := if a0 ≥ 65 then (if a0 ≤ 90 then (some ((a0 + 32) % 256)) else (some a0)) else (some a0)
set_option maxHeartbeats 8000000 in
set_option maxRecDepth 100000 in
theorem spec_l6LowerByte.calls (a0 : Int) (r : Int) (w : World) (h : spec_l6LowerByte.f a0 = some r) :
  Calls Tryz.prog 184 #[.int .u8 a0] w fun e w' => e = .returned (.int .u8 r) ∧ Drawn0 w w' := by
 have H : (if a0 ≥ 65 then (if a0 ≤ 90 then (some ((a0 + 32) % 256)) else (some a0)) else (some a0)) = some r := h;clear h
 by_cases c2 : a0 ≥ 65
 focus
  rw [if_pos c2] at H;have c2b0 : decide (65 ≤ a0) = true := dT c2;clear c2
  by_cases c3 : a0 ≤ 90
  focus
   rw [if_pos c3] at H;have c3b0 : decide (a0 ≤ 90) = true := dT c3;clear c3;obtain rfl := Option.some.inj H;simp only [eS,eP] at H;obtain ⟨rfl⟩ := H
  rotate_left
  focus
   rw [if_neg c3] at H;have c3b0 : decide (a0 ≤ 90) = false := dF c3;clear c3;obtain rfl := Option.some.inj H;simp only [eS,eP] at H;obtain ⟨rfl⟩ := H
 rotate_left 2
 focus
  rw [if_neg c2] at H;have c2b0 : decide (65 ≤ a0) = false := dF c2;clear c2;obtain rfl := Option.some.inj H;simp only [eS,eP] at H;obtain ⟨rfl⟩ := H
 all_goals
  go_enter Tryz.func184,Tryz.ntmps184;go_wp2;go_ret;exact ⟨vR_,dw_⟩
end Go.Proofs.YtmafmhgmdegplaaGreatDoor.P
