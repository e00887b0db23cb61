/- Written by a program in this session: each theorem here says that a Go function computes the Lean function beside it, or that a law's row holds, under the conditions that the theorem itself states. -/
import Derived.Test.YtmafmhgmdegplaaGreatDoorZPx0
namespace Go.Proofs.YtmafmhgmdegplaaGreatDoor.P
open Go.RowKit Go.Proofs.YtmafmhgmdegplaaGreatDoorW.PrintWords Go.Proofs.YtmafmhgmdegplaaGreatDoorW.PrintLast Go.Proofs.YtmafmhgmdegplaaGreatDoorW.PrintMore
attribute [local go_sem] max2_int min2_int max_two min_two max_three min_three max_four min_four   -- for this text's walks alone
set_option linter.unusedVariables false
set_option linter.unusedSimpArgs false
mutual
def laws_szQueryS.l0 : Nat → List (S24) → Int → Int → Option (Int)
 | 0,_,_,_ => none
 | k + 1,x0,x1,x5 => if x5 < (x0.length : Int) then (if 0 ≤ x5 then ((laws_szQuery.f k ((rd_T24 x0 x5).f0) ((rd_T24 x0 x5).f1) ((rd_T24 x0 x5).f2) ((rd_T24 x0 x5).f3) x1).bind fun t102 => (if t102 < 0 then (some (-1)) else (laws_szQueryS.l0 k x0 t102 (wrap64 (x5 + 1))))) else (none)) else (some x1)
def laws_szQueryS.f : Nat → List (S24) → Int → Option (Int)
 | 0,_,_ => none
 | k + 1,l0,a1 => if (wrap64 (a1 - (l0.length : Int))) < 0 then (some (-1)) else (laws_szQueryS.l0 k l0 (wrap64 (a1 - (l0.length : Int))) 0)
def laws_szQuery.f : Nat → Int → ByteArray → ByteArray → List (S24) → Int → Option (Int)
 | 0,_,_,_,_,_ => none
 | k + 1,a0_0,a0_1,a0_2,l0_3,a1 => if (wrap64 (a1 - (a0_1.size : Int))) < 0 then (some (-1)) else (if (wrap64 ((wrap64 (a1 - (a0_1.size : Int))) - (a0_2.size : Int))) < 0 then (some (-1)) else ((laws_szQueryS.f k l0_3 (wrap64 ((wrap64 (a1 - (a0_1.size : Int))) - (a0_2.size : Int)))).bind fun t104 => (if t104 < 0 then (some (-1)) else (some t104))))
end
theorem laws_szQueryS.mono_l : ∀ k,(∀ y0 y1,LeO (laws_szQueryS.f k y0 y1) (laws_szQueryS.f (k + 1) y0 y1)) ∧ (∀ y0 y1 y2,LeO (laws_szQueryS.l0 k y0 y1 y2) (laws_szQueryS.l0 (k + 1) y0 y1 y2)) ∧ (∀ y0 y1 y2 y3 y4,LeO (laws_szQuery.f k y0 y1 y2 y3 y4) (laws_szQuery.f (k + 1) y0 y1 y2 y3 y4))
 | 0 => ⟨fun _ _ r h => by simp [laws_szQueryS.f] at h,fun _ _ _ r h => by simp [laws_szQueryS.l0] at h,fun _ _ _ _ _ r h => by simp [laws_szQuery.f] at h⟩
 | k + 1 => by
  obtain ⟨ih0,ih1,ih2⟩ := laws_szQueryS.mono_l k
  refine ⟨?_,?_,?_⟩
  all_goals (intros;first|unfold laws_szQueryS.f|unfold laws_szQueryS.l0|unfold laws_szQuery.f)
  all_goals repeat' (first|with_reducible (first|exact ih0 _ _|exact ih1 _ _ _|exact ih2 _ _ _ _ _|exact LeO.refl _|exact LeO.none _|refine LeO.ite ?_ ?_|refine LeO.bind ?_ (fun _ => ?_))|exact LeO.none _|refine LeO.ite ?_ ?_|refine LeO.bind ?_ (fun _ => ?_))
theorem laws_szQueryS.mono : ∀ a0 a1 k,LeO (laws_szQueryS.f k a0 a1) (laws_szQueryS.f (k + 1) a0 a1) := by
 intro a0 a1 k;obtain ⟨ih0,ih1,ih2⟩ := laws_szQueryS.mono_l k;exact ih0 a0 a1
theorem laws_szQuery.mono : ∀ a0 a1 a2 a3 a4 k,LeO (laws_szQuery.f k a0 a1 a2 a3 a4) (laws_szQuery.f (k + 1) a0 a1 a2 a3 a4) := by
 intro a0 a1 a2 a3 a4 k;obtain ⟨ih0,ih1,ih2⟩ := laws_szQueryS.mono_l k;exact ih2 a0 a1 a2 a3 a4
set_option maxHeartbeats 8000000 in
set_option maxRecDepth 100000 in
theorem laws_szQueryS.both (k : Nat) : (∀ (A0 : Option Addr) (c0 : Nat) (l0 : List (S24)) (a1 : Int) (r : Int) (w : World) (hr0 : Kd.C k24 w A0 l0.length l0) (hc0 : l0.length ≤ c0) (h : laws_szQueryS.f k l0 a1 = some r),
  Calls Tryz.prog 57 #[.slice A0 l0.length c0,.int .i64 a1] w fun e w' => e = .returned (.int .i64 r) ∧ Below w.heap.size w w') ∧ (∀ (a0_0 : Int) (a0_1 : ByteArray) (a0_2 : ByteArray) (A0_3 : Option Addr) (c0_3 : Nat) (l0_3 : List (S24)) (a1 : Int) (r : Int) (w : World) (hr0_3 : Kd.C k24 w A0_3 l0_3.length l0_3) (hc0_3 : l0_3.length ≤ c0_3) (h : laws_szQuery.f k a0_0 a0_1 a0_2 l0_3 a1 = some r),
  Calls Tryz.prog 9 #[.agg #[.int .i64 a0_0,.string a0_1,.string a0_2,.slice A0_3 l0_3.length c0_3],.int .i64 a1] w fun e w' => e = .returned (.int .i64 r) ∧ Below w.heap.size w w') := by
 induction k using Nat.strongRecOn with
 | _ k ih0 =>
 refine ⟨?_,?_⟩
 ·have ih := fun j (hj : j < k) => (ih0 j hj).1;have ihP := fun j (hj : j < k) => (ih0 j hj).2;clear ih0;intro A0 c0 l0 a1 r w hr0 hc0 h
  cases k with
  | zero => exact absurd h (by simp [laws_szQueryS.f])
  | succ k =>
  simp only [laws_szQueryS.f] at h;have hu24 := Tryz.underlying24;have HR0 := aM hr0;have HC0 := aM hc0;clear hr0 hc0;have HB := aM (Below.refl w.heap.size w);have H : (if (wrap64 (a1 - (l0.length : Int))) < 0 then (some (-1)) else (laws_szQueryS.l0 k l0 (wrap64 (a1 - (l0.length : Int))) 0)) = some r := h;clear h
  by_cases c3 : (wrap64 (a1 - (l0.length : Int))) < 0
  ·rw [if_pos c3] at H;have c3b0 : decide ((wrap64 (a1 - (l0.length : Int))) < 0) = true := dT c3;clear c3;obtain rfl := Option.some.inj H;simp only [eS,eP] at H;obtain ⟨rfl⟩ := H;go_enter Tryz.func57,Tryz.ntmps57;go_wp2;go_ret;exact ⟨vR_,wB_⟩
  ·rw [if_neg c3] at H;have c3b0 : decide ((wrap64 (a1 - (l0.length : Int))) < 0) = false := dF c3;clear c3;have H' := aM H;clear H;go_enter Tryz.func57,Tryz.ntmps57;go_wp2;go_loopg [1,5] k (fun kq v1 v5 w' => ∃ (x1_1 : Int) (x5_1 : Int),v1 = .int .i64 x1_1 ∧ v5 = .int .i64 x5_1 ∧ Aside0 (laws_szQueryS.l0 kq l0 x1_1 x5_1 = some r) ∧ Aside0 (kq ≤ k) ∧ Aside0 (Below w.heap.size w w'))
   case atStart => exact ⟨(wrap64 (a1 - (l0.length : Int))),(0),vR_,vR_,H',⟨Nat.le_refl _⟩,⟨wB_⟩⟩
   case round =>
    clear H';obtain ⟨x1_1,x5_1,rfl,rfl,HA,HK1,HB⟩ := hrel
    cases gk with
    | zero => exact absurd HA.out (by simp [laws_szQueryS.l0])
    | succ k1 =>
     have H := HA.out;clear HA;simp only [laws_szQueryS.l0] at H
     by_cases c4 : x5_1 < (l0.length : Int)
     focus
      rw [if_pos c4] at H;have c4b0 : decide (x5_1 < (l0.length : Int)) = true := dT c4;clear c4
      by_cases c5 : 0 ≤ x5_1
      rotate_left;rw [if_neg c5] at H;exact absurd H (by simp);rw [if_pos c5] at H;have c5b0 : decide (0 ≤ x5_1) = true := dT c5;clear c5;obtain ⟨t102,A6,H⟩ := bE_ H
      by_cases c7 : t102 < 0
      focus
       rw [if_pos c7] at H;have c7b0 : decide (t102 < 0) = true := dT c7;clear c7;obtain rfl := Option.some.inj H;simp only [eS,eP] at H;obtain ⟨rfl⟩ := H
      rotate_left
      focus
       rw [if_neg c7] at H;have c7b0 : decide (t102 < 0) = false := dF c7;clear c7;have H' := aM H;clear H
     rotate_left 2
     focus
      rw [if_neg c4] at H;have c4b0 : decide (x5_1 < (l0.length : Int)) = false := dF c4;clear c4;obtain rfl := Option.some.inj H;simp only [eS,eP] at H;obtain ⟨rfl⟩ := H
     all_goals
      (try (have p01 : 0 ≤ (x5_1 : Int) := oD (by assumption);have q01 : x5_1 < (l0.length : Int) := oD (by assumption);obtain ⟨ad01,A01_3,c01_3,e01,hx01_0,hx01_1,hx01_2,hx01_3,hl01_3,hi01_3⟩ := at_T24 HR0.out x5_1 p01 q01;cases e01;replace hx01_0 := (HB.out.cell (wB w _ hx01_0)).trans hx01_0;replace hx01_1 := (HB.out.cell (wB w _ hx01_1)).trans hx01_1;replace hx01_2 := (HB.out.cell (wB w _ hx01_2)).trans hx01_2;replace hx01_3 := (HB.out.cell (wB w _ hx01_3)).trans hx01_3;have HR01_3 := aM hi01_3;have HC01_3 := aM hl01_3;clear hi01_3 hl01_3;replace p01 := eq_true p01;replace q01 := eq_true q01));go_wp2_with (first|((with_reducible refine gate_callee (f := 9) rfl ?_);refine gl_ (some 23) Tryz.func9 #[.agg #[.int .i64 ((rd_T24 l0 x5_1).f0),.string ((rd_T24 l0 x5_1).f1),.string ((rd_T24 l0 x5_1).f2),.slice A01_3 ((rd_T24 l0 x5_1).f3).length c01_3],.int .i64 x1_1] ?_;(with_reducible refine (ihP k1 (by have := HK1.out;omega) ((rd_T24 l0 x5_1).f0) ((rd_T24 l0 x5_1).f1) ((rd_T24 l0 x5_1).f2) _ _ ((rd_T24 l0 x5_1).f3) x1_1 t102 _ ?side1 ?side2 A6.out).mono ?_);(case side1 => exact wX_ HR01_3.out);(case side2 => exact HC01_3.out);rintro e WA6 ⟨rfl,hb⟩;refine ⟨_,rfl,?_⟩;replace HB := aM (lT wB_ hb)))
      first
       |
        go_ret;exact ⟨vR_,wB_⟩
       |
        go_roundg k1
        case measure => have := HK1.out;omega
        case rel => exact ⟨(t102),(wrap64 (x5_1 + 1)),vR_,vR_,H',⟨by have := HK1.out;omega⟩,⟨wB_⟩⟩
 ·have ih := fun j (hj : j < k) => (ih0 j hj).2;have ihP := fun j (hj : j < k) => (ih0 j hj).1;clear ih0;intro a0_0 a0_1 a0_2 A0_3 c0_3 l0_3 a1 r w hr0_3 hc0_3 h
  cases k with
  | zero => exact absurd h (by simp [laws_szQuery.f])
  | succ k =>
  simp only [laws_szQuery.f] at h;have hu24 := Tryz.underlying24;have HR0_3 := aM hr0_3;have HC0_3 := aM hc0_3;clear hr0_3 hc0_3;have HB := aM (Below.refl w.heap.size w);have H : (if (wrap64 (a1 - (a0_1.size : Int))) < 0 then (some (-1)) else (if (wrap64 ((wrap64 (a1 - (a0_1.size : Int))) - (a0_2.size : Int))) < 0 then (some (-1)) else ((laws_szQueryS.f k l0_3 (wrap64 ((wrap64 (a1 - (a0_1.size : Int))) - (a0_2.size : Int)))).bind fun t104 => (if t104 < 0 then (some (-1)) else (some t104))))) = some r := h;clear h
  by_cases c3 : (wrap64 (a1 - (a0_1.size : Int))) < 0
  focus
   rw [if_pos c3] at H;have c3b0 : decide ((wrap64 (a1 - (a0_1.size : Int))) < 0) = true := dT c3;clear c3;obtain rfl := Option.some.inj H;simp only [eS,eP] at H;obtain ⟨rfl⟩ := H
  rotate_left
  focus
   rw [if_neg c3] at H;have c3b0 : decide ((wrap64 (a1 - (a0_1.size : Int))) < 0) = false := dF c3;clear c3
   by_cases c6 : (wrap64 ((wrap64 (a1 - (a0_1.size : Int))) - (a0_2.size : Int))) < 0
   focus
    rw [if_pos c6] at H;have c6b0 : decide ((wrap64 ((wrap64 (a1 - (a0_1.size : Int))) - (a0_2.size : Int))) < 0) = true := dT c6;clear c6;obtain rfl := Option.some.inj H;simp only [eS,eP] at H;obtain ⟨rfl⟩ := H
   rotate_left
   focus
    rw [if_neg c6] at H;have c6b0 : decide ((wrap64 ((wrap64 (a1 - (a0_1.size : Int))) - (a0_2.size : Int))) < 0) = false := dF c6;clear c6;obtain ⟨t104,A9,H⟩ := bE_ H
    by_cases c10 : t104 < 0
    focus
     rw [if_pos c10] at H;have c10b0 : decide (t104 < 0) = true := dT c10;clear c10;obtain rfl := Option.some.inj H;simp only [eS,eP] at H;obtain ⟨rfl⟩ := H
    rotate_left
    focus
     rw [if_neg c10] at H;have c10b0 : decide (t104 < 0) = false := dF c10;clear c10;obtain rfl := Option.some.inj H;simp only [eS,eP] at H;obtain ⟨rfl⟩ := H
  all_goals
   go_enter Tryz.func9,Tryz.ntmps9;go_wp2_with (first|((with_reducible refine gate_dst (N := 2) rfl ?_);refine bx_ (N := 2) (cs := #[.int .i64 a0_0,.string a0_1,.string a0_2,.slice A0_3 l0_3.length c0_3]) (t := 24) ?_;intro gb103 hg Wgb103 hbox hb;have BK103 := aM (hbox);have GW103 := aM ((by rw [hg];exact (lZ wB_) : w.heap.size ≤ gb103));have GE103 := GW103;replace HB := aM (lT wB_ hb);clear hb hbox hg;obtain ⟨hcz103x103_0,hcz103x103_1,hcz103x103_2,hcz103x103_3,hfz103x103_0,hfz103x103_1,hfz103x103_2,hfz103x103_3⟩ := z4_ BK103.out)|((with_reducible refine gate_callee (f := 57) rfl ?_);refine gl_ (some 22) Tryz.func57 #[.slice A0_3 l0_3.length c0_3,.int .i64 (wrap64 ((wrap64 (a1 - (a0_1.size : Int))) - (a0_2.size : Int)))] ?_;(with_reducible refine (ihP k (by omega) _ _ l0_3 (wrap64 ((wrap64 (a1 - (a0_1.size : Int))) - (a0_2.size : Int))) t104 _ ?side1 ?side2 A9.out).mono ?_);(case side1 => exact wX_ HR0_3.out);(case side2 => exact HC0_3.out);rintro e WA9 ⟨rfl,hb⟩;refine ⟨_,rfl,?_⟩;replace BK103 := aM (bw_ BK103.out hb);replace HB := aM (lT wB_ hb)));go_ret;exact ⟨vR_,wB_⟩
theorem laws_szQueryS.calls (k : Nat) : ∀ (A0 : Option Addr) (c0 : Nat) (l0 : List (S24)) (a1 : Int) (r : Int) (w : World) (hr0 : Kd.C k24 w A0 l0.length l0) (hc0 : l0.length ≤ c0) (h : laws_szQueryS.f k l0 a1 = some r),
  Calls Tryz.prog 57 #[.slice A0 l0.length c0,.int .i64 a1] w fun e w' => e = .returned (.int .i64 r) ∧ Below w.heap.size w w' := (laws_szQueryS.both k).1
theorem laws_szQuery.calls (k : Nat) : ∀ (a0_0 : Int) (a0_1 : ByteArray) (a0_2 : ByteArray) (A0_3 : Option Addr) (c0_3 : Nat) (l0_3 : List (S24)) (a1 : Int) (r : Int) (w : World) (hr0_3 : Kd.C k24 w A0_3 l0_3.length l0_3) (hc0_3 : l0_3.length ≤ c0_3) (h : laws_szQuery.f k a0_0 a0_1 a0_2 l0_3 a1 = some r),
  Calls Tryz.prog 9 #[.agg #[.int .i64 a0_0,.string a0_1,.string a0_2,.slice A0_3 l0_3.length c0_3],.int .i64 a1] w fun e w' => e = .returned (.int .i64 r) ∧ Below w.heap.size w w' := (laws_szQueryS.both k).2
def laws_szStringS.l0 : Nat → List ByteArray → Int → Int → Option (Int)
 | 0,_,_,_ => none
 | k + 1,x0,x1,x5 => if x5 < (x0.length : Int) then (if 0 ≤ x5 then (if (wrap64 (x1 - ((rdOf ByteArray.empty x0 x5).size : Int))) < 0 then (some (-1)) else (laws_szStringS.l0 k x0 (wrap64 (x1 - ((rdOf ByteArray.empty x0 x5).size : Int))) (wrap64 (x5 + 1)))) else (none)) else (some x1)
def laws_szStringS.f (k : Nat) (l0 : List ByteArray) (a1 : Int) : Option (Int) := if (wrap64 (a1 - (l0.length : Int))) < 0 then (some (-1)) else (laws_szStringS.l0 k l0 (wrap64 (a1 - (l0.length : Int))) 0)
theorem laws_szStringS.mono_l : ∀ k,(∀ y0 y1 y2,LeO (laws_szStringS.l0 k y0 y1 y2) (laws_szStringS.l0 (k + 1) y0 y1 y2))
 | 0 => fun _ _ _ r h => by simp [laws_szStringS.l0] at h
 | k + 1 => by
  have ih0 := laws_szStringS.mono_l k
  ·intro y0 y1 y2
   unfold laws_szStringS.l0
   repeat' (first|with_reducible (first|exact ih0 _ _ _|exact LeO.refl _|exact LeO.none _|refine LeO.ite ?_ ?_|refine LeO.bind ?_ (fun _ => ?_))|exact LeO.none _|refine LeO.ite ?_ ?_|refine LeO.bind ?_ (fun _ => ?_))
theorem laws_szStringS.mono : ∀ a0 a1 k,LeO (laws_szStringS.f k a0 a1) (laws_szStringS.f (k + 1) a0 a1) := by
 intro a0 a1 k
 have ih0 := laws_szStringS.mono_l k
 unfold laws_szStringS.f
 repeat' (first|with_reducible (first|exact ih0 _ _ _|exact LeO.refl _|exact LeO.none _|refine LeO.ite ?_ ?_|refine LeO.bind ?_ (fun _ => ?_))|exact LeO.none _|refine LeO.ite ?_ ?_|refine LeO.bind ?_ (fun _ => ?_))
set_option maxHeartbeats 8000000 in
set_option maxRecDepth 100000 in
theorem laws_szStringS.calls (k : Nat) (A0 : Option Addr) (c0 : Nat) (l0 : List ByteArray) (a1 : Int) (r : Int) (w : World) (hr0 : Kd.C Kd.string w A0 l0.length l0) (hc0 : l0.length ≤ c0) (h : laws_szStringS.f k l0 a1 = some r) :
  Calls Tryz.prog 43 #[.slice A0 l0.length c0,.int .i64 a1] w fun e w' => e = .returned (.int .i64 r) ∧ Drawn0 w w' := by
 have HR0 := aM hr0;have HC0 := aM hc0;clear hr0 hc0;have H : (if (wrap64 (a1 - (l0.length : Int))) < 0 then (some (-1)) else (laws_szStringS.l0 k l0 (wrap64 (a1 - (l0.length : Int))) 0)) = some r := h;clear h
 by_cases c3 : (wrap64 (a1 - (l0.length : Int))) < 0
 ·rw [if_pos c3] at H;have c3b0 : decide ((wrap64 (a1 - (l0.length : Int))) < 0) = true := dT c3;clear c3;obtain rfl := Option.some.inj H;simp only [eS,eP] at H;obtain ⟨rfl⟩ := H;go_enter Tryz.func43,Tryz.ntmps43;go_wp2;go_ret;exact ⟨vR_,dw_⟩
 ·rw [if_neg c3] at H;have c3b0 : decide ((wrap64 (a1 - (l0.length : Int))) < 0) = false := dF c3;clear c3;have H' := aM H;clear H;go_enter Tryz.func43,Tryz.ntmps43;go_wp2;go_loopg [1,5] k (fun kq v1 v5 w' => ∃ (x1_1 : Int) (x5_1 : Int),v1 = .int .i64 x1_1 ∧ v5 = .int .i64 x5_1 ∧ Aside0 (laws_szStringS.l0 kq l0 x1_1 x5_1 = some r) ∧ Aside0 (kq ≤ k) ∧ Drawn0 w w')
  case atStart => exact ⟨(wrap64 (a1 - (l0.length : Int))),(0),vR_,vR_,H',⟨Nat.le_refl _⟩,dw_⟩
  case round =>
   clear H';obtain ⟨x1_1,x5_1,rfl,rfl,HA,HK1,⟨m1,rfl⟩⟩ := hrel
   cases gk with
   | zero => exact absurd HA.out (by simp [laws_szStringS.l0])
   | succ k1 =>
    have H := HA.out;clear HA;simp only [laws_szStringS.l0] at H
    by_cases c4 : x5_1 < (l0.length : Int)
    focus
     rw [if_pos c4] at H;have c4b0 : decide (x5_1 < (l0.length : Int)) = true := dT c4;clear c4
     by_cases c5 : 0 ≤ x5_1
     rotate_left;rw [if_neg c5] at H;exact absurd H (by simp);rw [if_pos c5] at H;have c5b0 : decide (0 ≤ x5_1) = true := dT c5;clear c5
     by_cases c6 : (wrap64 (x1_1 - ((rdOf ByteArray.empty l0 x5_1).size : Int))) < 0
     focus
      rw [if_pos c6] at H;have c6b0 : decide ((wrap64 (x1_1 - ((rdOf ByteArray.empty l0 x5_1).size : Int))) < 0) = true := dT c6;clear c6;obtain rfl := Option.some.inj H;simp only [eS,eP] at H;obtain ⟨rfl⟩ := H
     rotate_left
     focus
      rw [if_neg c6] at H;have c6b0 : decide ((wrap64 (x1_1 - ((rdOf ByteArray.empty l0 x5_1).size : Int))) < 0) = false := dF c6;clear c6;have H' := aM H;clear H
    rotate_left 2
    focus
     rw [if_neg c4] at H;have c4b0 : decide (x5_1 < (l0.length : Int)) = false := dF c4;clear c4;obtain rfl := Option.some.inj H;simp only [eS,eP] at H;obtain ⟨rfl⟩ := H
    all_goals
     (try (have p01 : 0 ≤ (x5_1 : Int) := oD (by assumption);have q01 : x5_1 < (l0.length : Int) := oD (by assumption);obtain ⟨ad01,e01,hx01_0⟩ := Kd.at_string HR0.out x5_1 p01 q01;cases e01;replace p01 := eq_true p01;replace q01 := eq_true q01));go_wp2
     first
      |
       go_ret;exact ⟨vR_,dw_⟩
      |
       go_roundg k1
       case measure => have := HK1.out;omega
       case rel => exact ⟨(wrap64 (x1_1 - ((rdOf ByteArray.empty l0 x5_1).size : Int))),(wrap64 (x5_1 + 1)),vR_,vR_,H',⟨by have := HK1.out;omega⟩,dw_⟩
def laws_szName.f (k : Nat) (l0_0 : List ByteArray) (a0_1 : ByteArray) (a0_2 : ByteArray) (a0_3 : ByteArray) (a1 : Int) : Option (Int) := (laws_szStringS.f k l0_0 a1).bind fun t107 => (if t107 < 0 then (some (-1)) else (if (wrap64 (t107 - (a0_1.size : Int))) < 0 then (some (-1)) else (if (wrap64 ((wrap64 (t107 - (a0_1.size : Int))) - (a0_2.size : Int))) < 0 then (some (-1)) else (if (wrap64 ((wrap64 ((wrap64 (t107 - (a0_1.size : Int))) - (a0_2.size : Int))) - (a0_3.size : Int))) < 0 then (some (-1)) else (some (wrap64 ((wrap64 ((wrap64 (t107 - (a0_1.size : Int))) - (a0_2.size : Int))) - (a0_3.size : Int))))))))
theorem laws_szName.mono : ∀ a0 a1 a2 a3 a4 k,LeO (laws_szName.f k a0 a1 a2 a3 a4) (laws_szName.f (k + 1) a0 a1 a2 a3 a4) := by
 intro a0 a1 a2 a3 a4 k
 unfold laws_szName.f
 repeat' (first|with_reducible (first|exact laws_szStringS.mono _ _ _|exact LeO.refl _|exact LeO.none _|refine LeO.ite ?_ ?_|refine LeO.bind ?_ (fun _ => ?_))|exact LeO.none _|refine LeO.ite ?_ ?_|refine LeO.bind ?_ (fun _ => ?_))
set_option maxHeartbeats 8000000 in
set_option maxRecDepth 100000 in
theorem laws_szName.calls (k : Nat) (A0_0 : Option Addr) (c0_0 : Nat) (l0_0 : List ByteArray) (a0_1 : ByteArray) (a0_2 : ByteArray) (a0_3 : ByteArray) (a1 : Int) (r : Int) (w : World) (hr0_0 : Kd.C Kd.string w A0_0 l0_0.length l0_0) (hc0_0 : l0_0.length ≤ c0_0) (h : laws_szName.f k l0_0 a0_1 a0_2 a0_3 a1 = some r) :
  Calls Tryz.prog 117 #[.agg #[.slice A0_0 l0_0.length c0_0,.string a0_1,.string a0_2,.string a0_3],.int .i64 a1] w fun e w' => e = .returned (.int .i64 r) ∧ Below w.heap.size w w' := by
 have hu152 := Tryz.underlying152;have HR0_0 := aM hr0_0;have HC0_0 := aM hc0_0;clear hr0_0 hc0_0;have HB := aM (Below.refl w.heap.size w);have H : ((laws_szStringS.f k l0_0 a1).bind fun t107 => (if t107 < 0 then (some (-1)) else (if (wrap64 (t107 - (a0_1.size : Int))) < 0 then (some (-1)) else (if (wrap64 ((wrap64 (t107 - (a0_1.size : Int))) - (a0_2.size : Int))) < 0 then (some (-1)) else (if (wrap64 ((wrap64 ((wrap64 (t107 - (a0_1.size : Int))) - (a0_2.size : Int))) - (a0_3.size : Int))) < 0 then (some (-1)) else (some (wrap64 ((wrap64 ((wrap64 (t107 - (a0_1.size : Int))) - (a0_2.size : Int))) - (a0_3.size : Int))))))))) = some r := h;clear h;obtain ⟨t107,A3,H⟩ := bE_ H
 by_cases c4 : t107 < 0
 focus
  rw [if_pos c4] at H;have c4b0 : decide (t107 < 0) = true := dT c4;clear c4;obtain rfl := Option.some.inj H;simp only [eS,eP] at H;obtain ⟨rfl⟩ := H
 rotate_left
 focus
  rw [if_neg c4] at H;have c4b0 : decide (t107 < 0) = false := dF c4;clear c4
  by_cases c7 : (wrap64 (t107 - (a0_1.size : Int))) < 0
  focus
   rw [if_pos c7] at H;have c7b0 : decide ((wrap64 (t107 - (a0_1.size : Int))) < 0) = true := dT c7;clear c7;obtain rfl := Option.some.inj H;simp only [eS,eP] at H;obtain ⟨rfl⟩ := H
  rotate_left
  focus
   rw [if_neg c7] at H;have c7b0 : decide ((wrap64 (t107 - (a0_1.size : Int))) < 0) = false := dF c7;clear c7
   by_cases c10 : (wrap64 ((wrap64 (t107 - (a0_1.size : Int))) - (a0_2.size : Int))) < 0
   focus
    rw [if_pos c10] at H;have c10b0 : decide ((wrap64 ((wrap64 (t107 - (a0_1.size : Int))) - (a0_2.size : Int))) < 0) = true := dT c10;clear c10;obtain rfl := Option.some.inj H;simp only [eS,eP] at H;obtain ⟨rfl⟩ := H
   rotate_left
   focus
    rw [if_neg c10] at H;have c10b0 : decide ((wrap64 ((wrap64 (t107 - (a0_1.size : Int))) - (a0_2.size : Int))) < 0) = false := dF c10;clear c10
    by_cases c13 : (wrap64 ((wrap64 ((wrap64 (t107 - (a0_1.size : Int))) - (a0_2.size : Int))) - (a0_3.size : Int))) < 0
    focus
     rw [if_pos c13] at H;have c13b0 : decide ((wrap64 ((wrap64 ((wrap64 (t107 - (a0_1.size : Int))) - (a0_2.size : Int))) - (a0_3.size : Int))) < 0) = true := dT c13;clear c13;obtain rfl := Option.some.inj H;simp only [eS,eP] at H;obtain ⟨rfl⟩ := H
    rotate_left
    focus
     rw [if_neg c13] at H;have c13b0 : decide ((wrap64 ((wrap64 ((wrap64 (t107 - (a0_1.size : Int))) - (a0_2.size : Int))) - (a0_3.size : Int))) < 0) = false := dF c13;clear c13;obtain rfl := Option.some.inj H;simp only [eS,eP] at H;obtain ⟨rfl⟩ := H
 all_goals
  go_enter Tryz.func117,Tryz.ntmps117;go_wp2_with (first|((with_reducible refine gate_dst (N := 2) rfl ?_);refine bx_ (N := 2) (cs := #[.slice A0_0 l0_0.length c0_0,.string a0_1,.string a0_2,.string a0_3]) (t := 152) ?_;intro gb106 hg Wgb106 hbox hb;have BK106 := aM (hbox);have GW106 := aM ((by rw [hg];exact (lZ wB_) : w.heap.size ≤ gb106));have GE106 := GW106;replace HB := aM (lT wB_ hb);clear hb hbox hg;obtain ⟨hcz106x106_0,hcz106x106_1,hcz106x106_2,hcz106x106_3,hfz106x106_0,hfz106x106_1,hfz106x106_2,hfz106x106_3⟩ := z4_ BK106.out)|((with_reducible refine gate_callee (f := 43) rfl ?_);refine gl_ (some 8) Tryz.func43 #[.slice A0_0 l0_0.length c0_0,.int .i64 a1] ?_;(with_reducible refine (laws_szStringS.calls _ _ _ _ _ _ _ ?side1 ?side2 A3.out).mono ?_);(case side1 => exact wX_ HR0_0.out);(case side2 => exact HC0_0.out);rintro e w' ⟨rfl,⟨nd,rfl⟩⟩;refine ⟨_,rfl,?_⟩));go_ret;exact ⟨vR_,wB_⟩
def laws_szNameS.l0 : Nat → List (S152) → Int → Int → Option (Int)
 | 0,_,_,_ => none
 | k + 1,x0,x1,x5 => if x5 < (x0.length : Int) then (if 0 ≤ x5 then ((laws_szName.f k ((rd_T152 x0 x5).f0) ((rd_T152 x0 x5).f1) ((rd_T152 x0 x5).f2) ((rd_T152 x0 x5).f3) x1).bind fun t109 => (if t109 < 0 then (some (-1)) else (laws_szNameS.l0 k x0 t109 (wrap64 (x5 + 1))))) else (none)) else (some x1)
def laws_szNameS.f (k : Nat) (l0 : List (S152)) (a1 : Int) : Option (Int) := if (wrap64 (a1 - (l0.length : Int))) < 0 then (some (-1)) else (laws_szNameS.l0 k l0 (wrap64 (a1 - (l0.length : Int))) 0)
theorem laws_szNameS.mono_l : ∀ k,(∀ y0 y1 y2,LeO (laws_szNameS.l0 k y0 y1 y2) (laws_szNameS.l0 (k + 1) y0 y1 y2))
 | 0 => fun _ _ _ r h => by simp [laws_szNameS.l0] at h
 | k + 1 => by
  have ih0 := laws_szNameS.mono_l k
  ·intro y0 y1 y2
   unfold laws_szNameS.l0
   repeat' (first|with_reducible (first|exact ih0 _ _ _|exact laws_szName.mono _ _ _ _ _ _|exact LeO.refl _|exact LeO.none _|refine LeO.ite ?_ ?_|refine LeO.bind ?_ (fun _ => ?_))|exact LeO.none _|refine LeO.ite ?_ ?_|refine LeO.bind ?_ (fun _ => ?_))
theorem laws_szNameS.mono : ∀ a0 a1 k,LeO (laws_szNameS.f k a0 a1) (laws_szNameS.f (k + 1) a0 a1) := by
 intro a0 a1 k
 have ih0 := laws_szNameS.mono_l k
 unfold laws_szNameS.f
 repeat' (first|with_reducible (first|exact ih0 _ _ _|exact laws_szName.mono _ _ _ _ _ _|exact LeO.refl _|exact LeO.none _|refine LeO.ite ?_ ?_|refine LeO.bind ?_ (fun _ => ?_))|exact LeO.none _|refine LeO.ite ?_ ?_|refine LeO.bind ?_ (fun _ => ?_))
set_option maxHeartbeats 8000000 in
set_option maxRecDepth 100000 in
theorem laws_szNameS.calls (k : Nat) (A0 : Option Addr) (c0 : Nat) (l0 : List (S152)) (a1 : Int) (r : Int) (w : World) (hr0 : Kd.C k152 w A0 l0.length l0) (hc0 : l0.length ≤ c0) (h : laws_szNameS.f k l0 a1 = some r) :
  Calls Tryz.prog 58 #[.slice A0 l0.length c0,.int .i64 a1] w fun e w' => e = .returned (.int .i64 r) ∧ Below w.heap.size w w' := by
 have hu152 := Tryz.underlying152;have HR0 := aM hr0;have HC0 := aM hc0;clear hr0 hc0;have HB := aM (Below.refl w.heap.size w);have H : (if (wrap64 (a1 - (l0.length : Int))) < 0 then (some (-1)) else (laws_szNameS.l0 k l0 (wrap64 (a1 - (l0.length : Int))) 0)) = some r := h;clear h
 by_cases c3 : (wrap64 (a1 - (l0.length : Int))) < 0
 ·rw [if_pos c3] at H;have c3b0 : decide ((wrap64 (a1 - (l0.length : Int))) < 0) = true := dT c3;clear c3;obtain rfl := Option.some.inj H;simp only [eS,eP] at H;obtain ⟨rfl⟩ := H;go_enter Tryz.func58,Tryz.ntmps58;go_wp2;go_ret;exact ⟨vR_,wB_⟩
 ·rw [if_neg c3] at H;have c3b0 : decide ((wrap64 (a1 - (l0.length : Int))) < 0) = false := dF c3;clear c3;have H' := aM H;clear H;go_enter Tryz.func58,Tryz.ntmps58;go_wp2;go_loopg [1,5] k (fun kq v1 v5 w' => ∃ (x1_1 : Int) (x5_1 : Int),v1 = .int .i64 x1_1 ∧ v5 = .int .i64 x5_1 ∧ Aside0 (laws_szNameS.l0 kq l0 x1_1 x5_1 = some r) ∧ Aside0 (kq ≤ k) ∧ Aside0 (Below w.heap.size w w'))
  case atStart => exact ⟨(wrap64 (a1 - (l0.length : Int))),(0),vR_,vR_,H',⟨Nat.le_refl _⟩,⟨wB_⟩⟩
  case round =>
   clear H';obtain ⟨x1_1,x5_1,rfl,rfl,HA,HK1,HB⟩ := hrel
   cases gk with
   | zero => exact absurd HA.out (by simp [laws_szNameS.l0])
   | succ k1 =>
    have H := HA.out;clear HA;simp only [laws_szNameS.l0] at H
    by_cases c4 : x5_1 < (l0.length : Int)
    focus
     rw [if_pos c4] at H;have c4b0 : decide (x5_1 < (l0.length : Int)) = true := dT c4;clear c4
     by_cases c5 : 0 ≤ x5_1
     rotate_left;rw [if_neg c5] at H;exact absurd H (by simp);rw [if_pos c5] at H;have c5b0 : decide (0 ≤ x5_1) = true := dT c5;clear c5;obtain ⟨t109,A6,H⟩ := bE_ H
     by_cases c7 : t109 < 0
     focus
      rw [if_pos c7] at H;have c7b0 : decide (t109 < 0) = true := dT c7;clear c7;obtain rfl := Option.some.inj H;simp only [eS,eP] at H;obtain ⟨rfl⟩ := H
     rotate_left
     focus
      rw [if_neg c7] at H;have c7b0 : decide (t109 < 0) = false := dF c7;clear c7;have H' := aM H;clear H
    rotate_left 2
    focus
     rw [if_neg c4] at H;have c4b0 : decide (x5_1 < (l0.length : Int)) = false := dF c4;clear c4;obtain rfl := Option.some.inj H;simp only [eS,eP] at H;obtain ⟨rfl⟩ := H
    all_goals
     (try (have p01 : 0 ≤ (x5_1 : Int) := oD (by assumption);have q01 : x5_1 < (l0.length : Int) := oD (by assumption);obtain ⟨ad01,A01_0,c01_0,e01,hx01_0,hx01_1,hx01_2,hx01_3,hl01_0,hi01_0⟩ := at_T152 HR0.out x5_1 p01 q01;cases e01;replace hx01_0 := (HB.out.cell (wB w _ hx01_0)).trans hx01_0;replace hx01_1 := (HB.out.cell (wB w _ hx01_1)).trans hx01_1;replace hx01_2 := (HB.out.cell (wB w _ hx01_2)).trans hx01_2;replace hx01_3 := (HB.out.cell (wB w _ hx01_3)).trans hx01_3;have HR01_0 := aM hi01_0;have HC01_0 := aM hl01_0;clear hi01_0 hl01_0;replace p01 := eq_true p01;replace q01 := eq_true q01));go_wp2_with (first|((with_reducible refine gate_callee (f := 117) rfl ?_);refine gl_ (some 23) Tryz.func117 #[.agg #[.slice A01_0 ((rd_T152 l0 x5_1).f0).length c01_0,.string ((rd_T152 l0 x5_1).f1),.string ((rd_T152 l0 x5_1).f2),.string ((rd_T152 l0 x5_1).f3)],.int .i64 x1_1] ?_;(with_reducible refine (laws_szName.calls _ _ _ _ _ _ _ _ _ _ ?side1 ?side2 A6.out).mono ?_);(case side1 => exact wX_ HR01_0.out);(case side2 => exact HC01_0.out);rintro e WA6 ⟨rfl,hb⟩;refine ⟨_,rfl,?_⟩;replace HB := aM (lT wB_ hb)))
     first
      |
       go_ret;exact ⟨vR_,wB_⟩
      |
       go_roundg k1
       case measure => have := HK1.out;omega
       case rel => exact ⟨(t109),(wrap64 (x5_1 + 1)),vR_,vR_,H',⟨by have := HK1.out;omega⟩,⟨wB_⟩⟩
def laws_szEntry.f (k : Nat) (a0_0 : ByteArray) (a0_1 : Int) (l0_2 : List (S152)) (l0_3 : List (S152)) (a0_4 : ByteArray) (a0_5 : ByteArray) (a0_6 : ByteArray) (a0_7 : Int) (a0_8 : Int) (a0_9 : Int) (a0_10 : Bool) (a0_11 : Int) (a0_12 : ByteArray) (a0_13 : ByteArray) (a1 : Int) : Option (Int) := if (wrap64 (a1 - (a0_0.size : Int))) < 0 then (some (-1)) else ((laws_szNameS.f k l0_2 (wrap64 (a1 - (a0_0.size : Int)))).bind fun t111 => (if t111 < 0 then (some (-1)) else ((laws_szNameS.f k l0_3 t111).bind fun t112 => (if t112 < 0 then (some (-1)) else (if (wrap64 (t112 - (a0_4.size : Int))) < 0 then (some (-1)) else (if (wrap64 ((wrap64 (t112 - (a0_4.size : Int))) - (a0_5.size : Int))) < 0 then (some (-1)) else (if (wrap64 ((wrap64 ((wrap64 (t112 - (a0_4.size : Int))) - (a0_5.size : Int))) - (a0_6.size : Int))) < 0 then (some (-1)) else (if (wrap64 ((wrap64 ((wrap64 ((wrap64 (t112 - (a0_4.size : Int))) - (a0_5.size : Int))) - (a0_6.size : Int))) - (a0_12.size : Int))) < 0 then (some (-1)) else (if (wrap64 ((wrap64 ((wrap64 ((wrap64 ((wrap64 (t112 - (a0_4.size : Int))) - (a0_5.size : Int))) - (a0_6.size : Int))) - (a0_12.size : Int))) - (a0_13.size : Int))) < 0 then (some (-1)) else (some (wrap64 ((wrap64 ((wrap64 ((wrap64 ((wrap64 (t112 - (a0_4.size : Int))) - (a0_5.size : Int))) - (a0_6.size : Int))) - (a0_12.size : Int))) - (a0_13.size : Int)))))))))))))
theorem laws_szEntry.mono : ∀ a0 a1 a2 a3 a4 a5 a6 a7 a8 a9 a10 a11 a12 a13 a14 k,LeO (laws_szEntry.f k a0 a1 a2 a3 a4 a5 a6 a7 a8 a9 a10 a11 a12 a13 a14) (laws_szEntry.f (k + 1) a0 a1 a2 a3 a4 a5 a6 a7 a8 a9 a10 a11 a12 a13 a14) := by
 intro a0 a1 a2 a3 a4 a5 a6 a7 a8 a9 a10 a11 a12 a13 a14 k
 unfold laws_szEntry.f
 repeat' (first|with_reducible (first|exact laws_szNameS.mono _ _ _|exact LeO.refl _|exact LeO.none _|refine LeO.ite ?_ ?_|refine LeO.bind ?_ (fun _ => ?_))|exact LeO.none _|refine LeO.ite ?_ ?_|refine LeO.bind ?_ (fun _ => ?_))
set_option maxHeartbeats 8000000 in
set_option maxRecDepth 100000 in
theorem laws_szEntry.calls (k : Nat) (a0_0 : ByteArray) (a0_1 : Int) (A0_2 : Option Addr) (c0_2 : Nat) (l0_2 : List (S152)) (A0_3 : Option Addr) (c0_3 : Nat) (l0_3 : List (S152)) (a0_4 : ByteArray) (a0_5 : ByteArray) (a0_6 : ByteArray) (a0_7 : Int) (a0_8 : Int) (a0_9 : Int) (a0_10 : Bool) (a0_11 : Int) (a0_12 : ByteArray) (a0_13 : ByteArray) (a1 : Int) (r : Int) (w : World) (hr0_2 : Kd.C k152 w A0_2 l0_2.length l0_2) (hc0_2 : l0_2.length ≤ c0_2) (hr0_3 : Kd.C k152 w A0_3 l0_3.length l0_3) (hc0_3 : l0_3.length ≤ c0_3) (h : laws_szEntry.f k a0_0 a0_1 l0_2 l0_3 a0_4 a0_5 a0_6 a0_7 a0_8 a0_9 a0_10 a0_11 a0_12 a0_13 a1 = some r) :
  Calls Tryz.prog 10 #[.agg #[.string a0_0,.int .i64 a0_1,.slice A0_2 l0_2.length c0_2,.slice A0_3 l0_3.length c0_3,.string a0_4,.string a0_5,.string a0_6,.int .i64 a0_7,.int .i64 a0_8,.int .i64 a0_9,.bool a0_10,.int .i64 a0_11,.string a0_12,.string a0_13],.int .i64 a1] w fun e w' => e = .returned (.int .i64 r) ∧ Below w.heap.size w w' := by
 have hu29 := Tryz.underlying29;have HR0_2 := aM hr0_2;have HC0_2 := aM hc0_2;clear hr0_2 hc0_2;have HR0_3 := aM hr0_3;have HC0_3 := aM hc0_3;clear hr0_3 hc0_3;have HB := aM (Below.refl w.heap.size w);have H : (if (wrap64 (a1 - (a0_0.size : Int))) < 0 then (some (-1)) else ((laws_szNameS.f k l0_2 (wrap64 (a1 - (a0_0.size : Int)))).bind fun t111 => (if t111 < 0 then (some (-1)) else ((laws_szNameS.f k l0_3 t111).bind fun t112 => (if t112 < 0 then (some (-1)) else (if (wrap64 (t112 - (a0_4.size : Int))) < 0 then (some (-1)) else (if (wrap64 ((wrap64 (t112 - (a0_4.size : Int))) - (a0_5.size : Int))) < 0 then (some (-1)) else (if (wrap64 ((wrap64 ((wrap64 (t112 - (a0_4.size : Int))) - (a0_5.size : Int))) - (a0_6.size : Int))) < 0 then (some (-1)) else (if (wrap64 ((wrap64 ((wrap64 ((wrap64 (t112 - (a0_4.size : Int))) - (a0_5.size : Int))) - (a0_6.size : Int))) - (a0_12.size : Int))) < 0 then (some (-1)) else (if (wrap64 ((wrap64 ((wrap64 ((wrap64 ((wrap64 (t112 - (a0_4.size : Int))) - (a0_5.size : Int))) - (a0_6.size : Int))) - (a0_12.size : Int))) - (a0_13.size : Int))) < 0 then (some (-1)) else (some (wrap64 ((wrap64 ((wrap64 ((wrap64 ((wrap64 (t112 - (a0_4.size : Int))) - (a0_5.size : Int))) - (a0_6.size : Int))) - (a0_12.size : Int))) - (a0_13.size : Int)))))))))))))) = some r := h;clear h
 by_cases c3 : (wrap64 (a1 - (a0_0.size : Int))) < 0
 focus
  rw [if_pos c3] at H;have c3b0 : decide ((wrap64 (a1 - (a0_0.size : Int))) < 0) = true := dT c3;clear c3;obtain rfl := Option.some.inj H;simp only [eS,eP] at H;obtain ⟨rfl⟩ := H
 rotate_left
 focus
  rw [if_neg c3] at H;have c3b0 : decide ((wrap64 (a1 - (a0_0.size : Int))) < 0) = false := dF c3;clear c3;obtain ⟨t111,A6,H⟩ := bE_ H
  by_cases c7 : t111 < 0
  focus
   rw [if_pos c7] at H;have c7b0 : decide (t111 < 0) = true := dT c7;clear c7;obtain rfl := Option.some.inj H;simp only [eS,eP] at H;obtain ⟨rfl⟩ := H
  rotate_left
  focus
   rw [if_neg c7] at H;have c7b0 : decide (t111 < 0) = false := dF c7;clear c7;obtain ⟨t112,A11,H⟩ := bE_ H
   by_cases c12 : t112 < 0
   focus
    rw [if_pos c12] at H;have c12b0 : decide (t112 < 0) = true := dT c12;clear c12;obtain rfl := Option.some.inj H;simp only [eS,eP] at H;obtain ⟨rfl⟩ := H
   rotate_left
   focus
    rw [if_neg c12] at H;have c12b0 : decide (t112 < 0) = false := dF c12;clear c12
    by_cases c18 : (wrap64 (t112 - (a0_4.size : Int))) < 0
    focus
     rw [if_pos c18] at H;have c18b0 : decide ((wrap64 (t112 - (a0_4.size : Int))) < 0) = true := dT c18;clear c18;obtain rfl := Option.some.inj H;simp only [eS,eP] at H;obtain ⟨rfl⟩ := H
    rotate_left
    focus
     rw [if_neg c18] at H;have c18b0 : decide ((wrap64 (t112 - (a0_4.size : Int))) < 0) = false := dF c18;clear c18
     by_cases c25 : (wrap64 ((wrap64 (t112 - (a0_4.size : Int))) - (a0_5.size : Int))) < 0
     focus
      rw [if_pos c25] at H;have c25b0 : decide ((wrap64 ((wrap64 (t112 - (a0_4.size : Int))) - (a0_5.size : Int))) < 0) = true := dT c25;clear c25;obtain rfl := Option.some.inj H;simp only [eS,eP] at H;obtain ⟨rfl⟩ := H
     rotate_left
     focus
      rw [if_neg c25] at H;have c25b0 : decide ((wrap64 ((wrap64 (t112 - (a0_4.size : Int))) - (a0_5.size : Int))) < 0) = false := dF c25;clear c25
      by_cases c32 : (wrap64 ((wrap64 ((wrap64 (t112 - (a0_4.size : Int))) - (a0_5.size : Int))) - (a0_6.size : Int))) < 0
      focus
       rw [if_pos c32] at H;have c32b0 : decide ((wrap64 ((wrap64 ((wrap64 (t112 - (a0_4.size : Int))) - (a0_5.size : Int))) - (a0_6.size : Int))) < 0) = true := dT c32;clear c32;obtain rfl := Option.some.inj H;simp only [eS,eP] at H;obtain ⟨rfl⟩ := H
      rotate_left
      focus
       rw [if_neg c32] at H;have c32b0 : decide ((wrap64 ((wrap64 ((wrap64 (t112 - (a0_4.size : Int))) - (a0_5.size : Int))) - (a0_6.size : Int))) < 0) = false := dF c32;clear c32
       by_cases c39 : (wrap64 ((wrap64 ((wrap64 ((wrap64 (t112 - (a0_4.size : Int))) - (a0_5.size : Int))) - (a0_6.size : Int))) - (a0_12.size : Int))) < 0
       focus
        rw [if_pos c39] at H;have c39b0 : decide ((wrap64 ((wrap64 ((wrap64 ((wrap64 (t112 - (a0_4.size : Int))) - (a0_5.size : Int))) - (a0_6.size : Int))) - (a0_12.size : Int))) < 0) = true := dT c39;clear c39;obtain rfl := Option.some.inj H;simp only [eS,eP] at H;obtain ⟨rfl⟩ := H
       rotate_left
       focus
        rw [if_neg c39] at H;have c39b0 : decide ((wrap64 ((wrap64 ((wrap64 ((wrap64 (t112 - (a0_4.size : Int))) - (a0_5.size : Int))) - (a0_6.size : Int))) - (a0_12.size : Int))) < 0) = false := dF c39;clear c39
        by_cases c46 : (wrap64 ((wrap64 ((wrap64 ((wrap64 ((wrap64 (t112 - (a0_4.size : Int))) - (a0_5.size : Int))) - (a0_6.size : Int))) - (a0_12.size : Int))) - (a0_13.size : Int))) < 0
        focus
         rw [if_pos c46] at H;have c46b0 : decide ((wrap64 ((wrap64 ((wrap64 ((wrap64 ((wrap64 (t112 - (a0_4.size : Int))) - (a0_5.size : Int))) - (a0_6.size : Int))) - (a0_12.size : Int))) - (a0_13.size : Int))) < 0) = true := dT c46;clear c46;obtain rfl := Option.some.inj H;simp only [eS,eP] at H;obtain ⟨rfl⟩ := H
        rotate_left
        focus
         rw [if_neg c46] at H;have c46b0 : decide ((wrap64 ((wrap64 ((wrap64 ((wrap64 ((wrap64 (t112 - (a0_4.size : Int))) - (a0_5.size : Int))) - (a0_6.size : Int))) - (a0_12.size : Int))) - (a0_13.size : Int))) < 0) = false := dF c46;clear c46;obtain rfl := Option.some.inj H;simp only [eS,eP] at H;obtain ⟨rfl⟩ := H
 all_goals
  go_enter Tryz.func10,Tryz.ntmps10;go_wp2_with (first|((with_reducible refine gate_dst (N := 2) rfl ?_);refine bx_ (N := 2) (cs := #[.string a0_0,.int .i64 a0_1,.slice A0_2 l0_2.length c0_2,.slice A0_3 l0_3.length c0_3,.string a0_4,.string a0_5,.string a0_6,.int .i64 a0_7,.int .i64 a0_8,.int .i64 a0_9,.bool a0_10,.int .i64 a0_11,.string a0_12,.string a0_13]) (t := 29) ?_;intro gb110 hg Wgb110 hbox hb;have BK110 := aM (hbox);have GW110 := aM ((by rw [hg];exact (lZ wB_) : w.heap.size ≤ gb110));have GE110 := GW110;replace HB := aM (lT wB_ hb);clear hb hbox hg;obtain ⟨hcz110x110_0,hcz110x110_1,hcz110x110_2,hcz110x110_3,hcz110x110_4,hcz110x110_5,hcz110x110_6,hcz110x110_7,hcz110x110_8,hcz110x110_9,hcz110x110_10,hcz110x110_11,hcz110x110_12,hcz110x110_13,hfz110x110_0,hfz110x110_1,hfz110x110_2,hfz110x110_3,hfz110x110_4,hfz110x110_5,hfz110x110_6,hfz110x110_7,hfz110x110_8,hfz110x110_9,hfz110x110_10,hfz110x110_11,hfz110x110_12,hfz110x110_13⟩ := z14_ BK110.out)|((with_reducible refine gate_callee (f := 58) rfl ?_);refine gl_ (some 15) Tryz.func58 #[.slice A0_2 l0_2.length c0_2,.int .i64 (wrap64 (a1 - (a0_0.size : Int)))] ?_;(with_reducible refine (laws_szNameS.calls _ _ _ _ _ _ _ ?side1 ?side2 A6.out).mono ?_);(case side1 => exact wX_ HR0_2.out);(case side2 => exact HC0_2.out);rintro e WA6 ⟨rfl,hb⟩;refine ⟨_,rfl,?_⟩;replace BK110 := aM (bw_ BK110.out hb);replace HB := aM (lT wB_ hb);obtain ⟨hcz6x110_0,hcz6x110_1,hcz6x110_2,hcz6x110_3,hcz6x110_4,hcz6x110_5,hcz6x110_6,hcz6x110_7,hcz6x110_8,hcz6x110_9,hcz6x110_10,hcz6x110_11,hcz6x110_12,hcz6x110_13,hfz6x110_0,hfz6x110_1,hfz6x110_2,hfz6x110_3,hfz6x110_4,hfz6x110_5,hfz6x110_6,hfz6x110_7,hfz6x110_8,hfz6x110_9,hfz6x110_10,hfz6x110_11,hfz6x110_12,hfz6x110_13⟩ := z14_ BK110.out)|((with_reducible refine gate_callee (f := 58) rfl ?_);refine gl_ (some 21) Tryz.func58 #[.slice A0_3 l0_3.length c0_3,.int .i64 t111] ?_;(with_reducible refine (laws_szNameS.calls _ _ _ _ _ _ _ ?side1 ?side2 A11.out).mono ?_);(case side1 => exact wX_ HR0_3.out);(case side2 => exact HC0_3.out);rintro e WA11 ⟨rfl,hb⟩;refine ⟨_,rfl,?_⟩;replace BK110 := aM (bw_ BK110.out hb);replace HB := aM (lT wB_ hb);obtain ⟨hcz11x110_0,hcz11x110_1,hcz11x110_2,hcz11x110_3,hcz11x110_4,hcz11x110_5,hcz11x110_6,hcz11x110_7,hcz11x110_8,hcz11x110_9,hcz11x110_10,hcz11x110_11,hcz11x110_12,hcz11x110_13,hfz11x110_0,hfz11x110_1,hfz11x110_2,hfz11x110_3,hfz11x110_4,hfz11x110_5,hfz11x110_6,hfz11x110_7,hfz11x110_8,hfz11x110_9,hfz11x110_10,hfz11x110_11,hfz11x110_12,hfz11x110_13⟩ := z14_ BK110.out));go_ret;exact ⟨vR_,wB_⟩
def spec_l1In.f (a0 : Int) (a1 : Int) (a2 : Int) : Option (Bool) := if a0 ≥ a1 then (some (decide (a0 ≤ a2))) else (some false)
set_option maxHeartbeats 8000000 in
set_option maxRecDepth 100000 in
theorem spec_l1In.calls (a0 : Int) (a1 : Int) (a2 : Int) (r : Bool) (w : World) (h : spec_l1In.f a0 a1 a2 = some r) :
  Calls Tryz.prog 121 #[.int .i64 a0,.int .i64 a1,.int .i64 a2] w fun e w' => e = .returned (.bool r) ∧ Drawn0 w w' := by
 have H : (if a0 ≥ a1 then (some (decide (a0 ≤ a2))) else (some false)) = some r := h;clear h
 by_cases c4 : a0 ≥ a1
 focus
  rw [if_pos c4] at H;have c4b0 : decide (a1 ≤ a0) = true := dT c4;clear c4;obtain rfl := Option.some.inj H;simp only [eS,eP] at H;obtain ⟨rfl⟩ := H
 rotate_left
 focus
  rw [if_neg c4] at H;have c4b0 : decide (a1 ≤ a0) = false := dF c4;clear c4;obtain rfl := Option.some.inj H;simp only [eS,eP] at H;obtain ⟨rfl⟩ := H
 all_goals
  go_enter Tryz.func121,Tryz.ntmps121;go_wp2;go_ret;exact ⟨vR_,dw_⟩
def spec_l6Digit.f (a0 : Int) : Option (Bool) := if a0 ≥ 48 then (some (decide (a0 ≤ 57))) else (some false)
set_option maxHeartbeats 8000000 in
set_option maxRecDepth 100000 in
theorem spec_l6Digit.calls (a0 : Int) (r : Bool) (w : World) (h : spec_l6Digit.f a0 = some r) :
  Calls Tryz.prog 176 #[.int .u8 a0] w fun e w' => e = .returned (.bool r) ∧ Drawn0 w w' := by
 have H : (if a0 ≥ 48 then (some (decide (a0 ≤ 57))) else (some false)) = some r := h;clear h
 by_cases c2 : a0 ≥ 48
 focus
  rw [if_pos c2] at H;have c2b0 : decide (48 ≤ a0) = true := dT c2;clear c2;obtain rfl := Option.some.inj H;simp only [eS,eP] at H;obtain ⟨rfl⟩ := H
 rotate_left
 focus
  rw [if_neg c2] at H;have c2b0 : decide (48 ≤ a0) = false := dF c2;clear c2;obtain rfl := Option.some.inj H;simp only [eS,eP] at H;obtain ⟨rfl⟩ := H
 all_goals
  go_enter Tryz.func176,Tryz.ntmps176;go_wp2;go_ret;exact ⟨vR_,dw_⟩
end Go.Proofs.YtmafmhgmdegplaaGreatDoor.P
