/- Written by a program in this session: each theorem here says that a Go function computes the Lean function beside it, or that a law's row holds, under the conditions that the theorem itself states. -/
import Derived.Test.YtmafmhgmdegplaaGreatDoorZPx0
import Derived.Test.YtmafmhgmdegplaaGreatDoorZPx2
import Derived.Test.YtmafmhgmdegplaaGreatDoorZPx3
namespace Go.Proofs.YtmafmhgmdegplaaGreatDoor.P
open Go.RowKit Go.Proofs.YtmafmhgmdegplaaGreatDoorW.PrintWords Go.Proofs.YtmafmhgmdegplaaGreatDoorW.PrintLast Go.Proofs.YtmafmhgmdegplaaGreatDoorW.PrintMore
attribute [local go_sem] max2_int min2_int max_two min_two max_three min_three max_four min_four   -- for this text's walks alone
set_option linter.unusedVariables false
set_option linter.unusedSimpArgs false
mutual
def spec_l22Size.l0 : Nat → Int → Int → Int → ByteArray → ByteArray → List (S36) → Option (Int)
 | 0,_,_,_,_,_,_ => none
 | k + 1,x3,x4,x132000,x132001,x132002,x132003 => if x4 < (x132003.length : Int) then (if 0 ≤ x4 then ((spec_l22Size.f k ((rd_T36 x132003 x4).f0) ((rd_T36 x132003 x4).f1) ((rd_T36 x132003 x4).f2) ((rd_T36 x132003 x4).f3)).bind fun t133 => (spec_l22Size.l0 k (wrap64 (x3 + t133)) (wrap64 (x4 + 1)) x132000 x132001 x132002 x132003)) else (none)) else (some x3)
def spec_l22Size.f : Nat → Int → ByteArray → ByteArray → List (S36) → Option (Int)
 | 0,_,_,_,_ => none
 | k + 1,a0_0,a0_1,a0_2,l0_3 => spec_l22Size.l0 k 1 0 a0_0 a0_1 a0_2 l0_3
end
theorem spec_l22Size.mono_l : ∀ k,(∀ y0 y1 y2 y3,LeO (spec_l22Size.f k y0 y1 y2 y3) (spec_l22Size.f (k + 1) y0 y1 y2 y3)) ∧ (∀ y0 y1 y2 y3 y4 y5,LeO (spec_l22Size.l0 k y0 y1 y2 y3 y4 y5) (spec_l22Size.l0 (k + 1) y0 y1 y2 y3 y4 y5))
 | 0 => ⟨fun _ _ _ _ r h => by simp [spec_l22Size.f] at h,fun _ _ _ _ _ _ r h => by simp [spec_l22Size.l0] at h⟩
 | k + 1 => by
  obtain ⟨ih0,ih1⟩ := spec_l22Size.mono_l k
  refine ⟨?_,?_⟩
  all_goals (intros;first|unfold spec_l22Size.f|unfold spec_l22Size.l0)
  all_goals repeat' (first|with_reducible (first|exact ih0 _ _ _ _|exact ih1 _ _ _ _ _ _|exact LeO.refl _|exact LeO.none _|refine LeO.ite ?_ ?_|refine LeO.bind ?_ (fun _ => ?_))|exact LeO.none _|refine LeO.ite ?_ ?_|refine LeO.bind ?_ (fun _ => ?_))
theorem spec_l22Size.mono : ∀ a0 a1 a2 a3 k,LeO (spec_l22Size.f k a0 a1 a2 a3) (spec_l22Size.f (k + 1) a0 a1 a2 a3) := by
 intro a0 a1 a2 a3 k;obtain ⟨ih0,ih1⟩ := spec_l22Size.mono_l k;exact ih0 a0 a1 a2 a3
set_option maxHeartbeats 8000000 in
set_option maxRecDepth 100000 in
theorem spec_l22Size.calls (k : Nat) : ∀ (a0_0 : Int) (a0_1 : ByteArray) (a0_2 : ByteArray) (A0_3 : Option Addr) (c0_3 : Nat) (l0_3 : List (S36)) (r : Int) (w : World) (hr0_3 : Kd.C k36 w A0_3 l0_3.length l0_3) (hc0_3 : l0_3.length ≤ c0_3) (h : spec_l22Size.f k a0_0 a0_1 a0_2 l0_3 = some r),
  Calls Tryz.prog 119 #[.agg #[.int .i64 a0_0,.string a0_1,.string a0_2,.slice A0_3 l0_3.length c0_3]] w fun e w' => e = .returned (.int .i64 r) ∧ Below w.heap.size w w' := by
 induction k using Nat.strongRecOn with
 | _ k ih =>
 intro a0_0 a0_1 a0_2 A0_3 c0_3 l0_3 r w hr0_3 hc0_3 h
 cases k with
 | zero => exact absurd h (by simp [spec_l22Size.f])
 | succ k =>
 simp only [spec_l22Size.f] at h;have hu36 := Tryz.underlying36;have HR0_3 := aM hr0_3;have HC0_3 := aM hc0_3;clear hr0_3 hc0_3;have HB := aM (Below.refl w.heap.size w);have H : (spec_l22Size.l0 k 1 0 a0_0 a0_1 a0_2 l0_3) = some r := h;clear h;have H' := aM H;clear H;go_enter Tryz.func119,Tryz.ntmps119;go_wp2_with (first|((with_reducible refine gate_dst (N := 1) rfl ?_);refine bx_ (N := 1) (cs := #[.int .i64 a0_0,.string a0_1,.string a0_2,.slice A0_3 l0_3.length c0_3]) (t := 36) ?_;intro gb131 hg w2 hbox hb;have BK131 := aM (hbox);have GW131 := aM ((by rw [hg];exact (lZ wB_) : w.heap.size ≤ gb131));have GE131 := GW131;replace HB := aM (lT wB_ hb);clear hb hbox hg));go_loopg [3,4] k (fun kq v3 v4 w' => ∃ (x3_1 : Int) (x4_1 : Int),v3 = .int .i64 x3_1 ∧ v4 = .int .i64 x4_1 ∧ Aside0 (spec_l22Size.l0 kq x3_1 x4_1 a0_0 a0_1 a0_2 l0_3 = some r) ∧ Aside0 (kq ≤ k) ∧ Aside0 (w'.heap[gb131]? = some (.cells #[.int .i64 a0_0,.string a0_1,.string a0_2,(.slice A0_3 l0_3.length c0_3)] 36 (0,0))) ∧ Aside0 (Below w.heap.size w w'))
 case atStart => exact ⟨(1),(0),vR_,vR_,H',⟨Nat.le_refl _⟩,⟨wC_ BK131.out⟩,⟨wB_⟩⟩
 case round =>
  clear H';obtain ⟨x3_1,x4_1,rfl,rfl,HA,HK1,BK131,HB⟩ := hrel
  cases gk with
  | zero => exact absurd HA.out (by simp [spec_l22Size.l0])
  | succ k1 =>
   have H := HA.out;clear HA;simp only [spec_l22Size.l0] at H
   by_cases c3 : x4_1 < (l0_3.length : Int)
   focus
    rw [if_pos c3] at H;have c3b0 : decide (x4_1 < (l0_3.length : Int)) = true := dT c3;clear c3
    by_cases c4 : 0 ≤ x4_1
    rotate_left;rw [if_neg c4] at H;exact absurd H (by simp);rw [if_pos c4] at H;have c4b0 : decide (0 ≤ x4_1) = true := dT c4;clear c4;obtain ⟨t133,A5,H⟩ := bE_ H;have H' := aM H;clear H
   rotate_left
   focus
    rw [if_neg c3] at H;have c3b0 : decide (x4_1 < (l0_3.length : Int)) = false := dF c3;clear c3;obtain rfl := Option.some.inj H;simp only [eS,eP] at H;obtain ⟨rfl⟩ := H
   all_goals
    (try obtain ⟨hczx131_0,hczx131_1,hczx131_2,hczx131_3,hfzx131_0,hfzx131_1,hfzx131_2,hfzx131_3⟩ := z4_ BK131.out);(try (have p01 : 0 ≤ (x4_1 : Int) := oD (by assumption);have q01 : x4_1 < (l0_3.length : Int) := oD (by assumption);obtain ⟨ad01,A01_3,c01_3,e01,hx01_0,hx01_1,hx01_2,hx01_3,hl01_3,hi01_3⟩ := at_T36 HR0_3.out x4_1 p01 q01;cases e01;replace hx01_0 := (HB.out.cell (wB w _ hx01_0)).trans hx01_0;replace hx01_1 := (HB.out.cell (wB w _ hx01_1)).trans hx01_1;replace hx01_2 := (HB.out.cell (wB w _ hx01_2)).trans hx01_2;replace hx01_3 := (HB.out.cell (wB w _ hx01_3)).trans hx01_3;have HR01_3 := aM hi01_3;have HC01_3 := aM hl01_3;clear hi01_3 hl01_3;replace p01 := eq_true p01;replace q01 := eq_true q01));go_wp2_with (first|((with_reducible refine gate_callee (f := 119) rfl ?_);refine gl_ (some 18) Tryz.func119 #[.agg #[.int .i64 ((rd_T36 l0_3 x4_1).f0),.string ((rd_T36 l0_3 x4_1).f1),.string ((rd_T36 l0_3 x4_1).f2),.slice A01_3 ((rd_T36 l0_3 x4_1).f3).length c01_3]] ?_;(with_reducible refine (ih k1 (by have := HK1.out;omega) ((rd_T36 l0_3 x4_1).f0) ((rd_T36 l0_3 x4_1).f1) ((rd_T36 l0_3 x4_1).f2) _ _ ((rd_T36 l0_3 x4_1).f3) t133 _ ?side1 ?side2 A5.out).mono ?_);(case side1 => exact wX_ HR01_3.out);(case side2 => exact HC01_3.out);rintro e WA5 ⟨rfl,hb⟩;refine ⟨_,rfl,?_⟩;replace BK131 := aM (bw_ BK131.out hb);replace HB := aM (lT wB_ hb)))
    first
     |
      go_ret;exact ⟨vR_,wB_⟩
     |
      go_roundg k1
      case measure => have := HK1.out;omega
      case rel => exact ⟨(wrap64 (x3_1 + t133)),(wrap64 (x4_1 + 1)),vR_,vR_,H',⟨by have := HK1.out;omega⟩,⟨wC_ BK131.out⟩,⟨wB_⟩⟩
def spec_l22Good.f (k : Nat) (a0_0 : Int) (a0_1 : ByteArray) (a0_2 : ByteArray) (l0_3 : List (S36)) : Option (Bool) := (spec_l22Forms.f k a0_0 a0_1 a0_2 l0_3).bind fun t135 => (if t135 = true then ((spec_l22Size.f k a0_0 a0_1 a0_2 l0_3).bind fun t136 => (some (decide (t136 ≤ 15)))) else (some false))
theorem spec_l22Good.mono : ∀ a0 a1 a2 a3 k,LeO (spec_l22Good.f k a0 a1 a2 a3) (spec_l22Good.f (k + 1) a0 a1 a2 a3) := by
 intro a0 a1 a2 a3 k
 unfold spec_l22Good.f
 repeat' (first|with_reducible (first|exact spec_l22Forms.mono _ _ _ _ _|exact spec_l22Size.mono _ _ _ _ _|exact LeO.refl _|exact LeO.none _|refine LeO.ite ?_ ?_|refine LeO.bind ?_ (fun _ => ?_))|exact LeO.none _|refine LeO.ite ?_ ?_|refine LeO.bind ?_ (fun _ => ?_))
set_option maxHeartbeats 8000000 in
set_option maxRecDepth 100000 in
theorem spec_l22Good.calls (k : Nat) (a0_0 : Int) (a0_1 : ByteArray) (a0_2 : ByteArray) (A0_3 : Option Addr) (c0_3 : Nat) (l0_3 : List (S36)) (r : Bool) (w : World) (hr0_3 : Kd.C k36 w A0_3 l0_3.length l0_3) (hc0_3 : l0_3.length ≤ c0_3) (h : spec_l22Good.f k a0_0 a0_1 a0_2 l0_3 = some r) :
  Calls Tryz.prog 59 #[.agg #[.int .i64 a0_0,.string a0_1,.string a0_2,.slice A0_3 l0_3.length c0_3]] w fun e w' => e = .returned (.bool r) ∧ Below w.heap.size w w' := by
 have hu36 := Tryz.underlying36;have HR0_3 := aM hr0_3;have HC0_3 := aM hc0_3;clear hr0_3 hc0_3;have HB := aM (Below.refl w.heap.size w);have H : ((spec_l22Forms.f k a0_0 a0_1 a0_2 l0_3).bind fun t135 => (if t135 = true then ((spec_l22Size.f k a0_0 a0_1 a0_2 l0_3).bind fun t136 => (some (decide (t136 ≤ 15)))) else (some false))) = some r := h;clear h;obtain ⟨t135,A2,H⟩ := bE_ H
 by_cases c3 : t135 = true
 focus
  subst c3;rw [if_pos rfl] at H;obtain ⟨t136,A4,H⟩ := bE_ H;obtain rfl := Option.some.inj H;simp only [eS,eP] at H;obtain ⟨rfl⟩ := H
 rotate_left
 focus
  replace c3 := Bool.eq_false_iff.mpr c3;subst c3;rw [if_neg Bool.false_ne_true] at H;obtain rfl := Option.some.inj H;simp only [eS,eP] at H;obtain ⟨rfl⟩ := H
 all_goals
  go_enter Tryz.func59,Tryz.ntmps59;go_wp2_with (first|((with_reducible refine gate_dst (N := 1) rfl ?_);refine bx_ (N := 1) (cs := #[.int .i64 a0_0,.string a0_1,.string a0_2,.slice A0_3 l0_3.length c0_3]) (t := 36) ?_;intro gb134 hg Wgb134 hbox hb;have BK134 := aM (hbox);have GW134 := aM ((by rw [hg];exact (lZ wB_) : w.heap.size ≤ gb134));have GE134 := GW134;replace HB := aM (lT wB_ hb);clear hb hbox hg;obtain ⟨hcz134x134_0,hcz134x134_1,hcz134x134_2,hcz134x134_3,hfz134x134_0,hfz134x134_1,hfz134x134_2,hfz134x134_3⟩ := z4_ BK134.out)|((with_reducible refine gate_callee (f := 118) rfl ?_);refine gl_ (some 4) Tryz.func118 #[.agg #[.int .i64 a0_0,.string a0_1,.string a0_2,.slice A0_3 l0_3.length c0_3]] ?_;(with_reducible refine (spec_l22Forms.calls _ _ _ _ _ _ _ _ _ ?side1 ?side2 A2.out).mono ?_);(case side1 => exact wX_ HR0_3.out);(case side2 => exact HC0_3.out);rintro e WA2 ⟨rfl,hb⟩;refine ⟨_,rfl,?_⟩;replace BK134 := aM (bw_ BK134.out hb);replace HB := aM (lT wB_ hb);obtain ⟨hcz2x134_0,hcz2x134_1,hcz2x134_2,hcz2x134_3,hfz2x134_0,hfz2x134_1,hfz2x134_2,hfz2x134_3⟩ := z4_ BK134.out)|(go_at_call 119;(with_reducible refine (spec_l22Size.calls _ _ _ _ _ _ _ _ _ ?side1 ?side2 A4.out).mono ?_);(case side1 => exact wX_ HR0_3.out);(case side2 => exact HC0_3.out);rintro e WA4 ⟨rfl,hb⟩;replace BK134 := aM (bw_ BK134.out hb);replace HB := aM (lT wB_ hb)));go_ret;exact ⟨vR_,wB_⟩
def spec_l2Lower.f (a0 : Int) : Option (Bool) := if a0 ≥ 97 then (some (decide (a0 ≤ 122))) else (some false)
set_option maxHeartbeats 8000000 in
set_option maxRecDepth 100000 in
theorem spec_l2Lower.calls (a0 : Int) (r : Bool) (w : World) (h : spec_l2Lower.f a0 = some r) :
  Calls Tryz.prog 162 #[.int .u8 a0] w fun e w' => e = .returned (.bool r) ∧ Drawn0 w w' := by
 have H : (if a0 ≥ 97 then (some (decide (a0 ≤ 122))) else (some false)) = some r := h;clear h
 by_cases c2 : a0 ≥ 97
 focus
  rw [if_pos c2] at H;have c2b0 : decide (97 ≤ a0) = true := dT c2;clear c2;obtain rfl := Option.some.inj H;simp only [eS,eP] at H;obtain ⟨rfl⟩ := H
 rotate_left
 focus
  rw [if_neg c2] at H;have c2b0 : decide (97 ≤ a0) = false := dF c2;clear c2;obtain rfl := Option.some.inj H;simp only [eS,eP] at H;obtain ⟨rfl⟩ := H
 all_goals
  go_enter Tryz.func162,Tryz.ntmps162;go_wp2;go_ret;exact ⟨vR_,dw_⟩
mutual
def spec_l4Key.j0 : Nat → ByteArray → Bool → Option (Bool)
 | 0,_,_ => none
 | k + 1,x0,x13 => if x13 = true then (some false) else (spec_l4Key.l0 k x0 0)
def spec_l4Key.l0 : Nat → ByteArray → Int → Option (Bool)
 | 0,_,_ => none
 | k + 1,x0,x3 => if x3 < (x0.size : Int) then (if 0 ≤ x3 then ((spec_l2Lower.f (bt x0 x3)).bind fun t139 => (if t139 = true then (spec_l4Key.l0 k x0 (wrap64 (x3 + 1))) else (if (bt x0 x3) < 48 then (some false) else (if (bt x0 x3) > 57 then (some false) else (spec_l4Key.l0 k x0 (wrap64 (x3 + 1))))))) else (none)) else (some true)
end
def spec_l4Key.f (k : Nat) (a0 : ByteArray) : Option (Bool) := (spec_l1In.f (a0.size : Int) 1 10).bind fun t137 => (if t137 = true then (if 0 < (a0.size : Int) then ((spec_l2Lower.f (bt a0 0)).bind fun t138 => (spec_l4Key.j0 k a0 (!t138))) else (none)) else (spec_l4Key.j0 k a0 true))
theorem spec_l4Key.mono_l : ∀ k,(∀ y0 y1,LeO (spec_l4Key.j0 k y0 y1) (spec_l4Key.j0 (k + 1) y0 y1)) ∧ (∀ y0 y1,LeO (spec_l4Key.l0 k y0 y1) (spec_l4Key.l0 (k + 1) y0 y1))
 | 0 => ⟨fun _ _ r h => by simp [spec_l4Key.j0] at h,fun _ _ r h => by simp [spec_l4Key.l0] at h⟩
 | k + 1 => by
  obtain ⟨ih0,ih1⟩ := spec_l4Key.mono_l k
  refine ⟨?_,?_⟩
  all_goals (intros;first|unfold spec_l4Key.j0|unfold spec_l4Key.l0)
  all_goals repeat' (first|with_reducible (first|exact ih0 _ _|exact ih1 _ _|exact LeO.refl _|exact LeO.none _|refine LeO.ite ?_ ?_|refine LeO.bind ?_ (fun _ => ?_))|exact LeO.none _|refine LeO.ite ?_ ?_|refine LeO.bind ?_ (fun _ => ?_))
theorem spec_l4Key.mono : ∀ a0 k,LeO (spec_l4Key.f k a0) (spec_l4Key.f (k + 1) a0) := by
 intro a0 k
 obtain ⟨ih0,ih1⟩ := spec_l4Key.mono_l k
 unfold spec_l4Key.f
 repeat' (first|with_reducible (first|exact ih0 _ _|exact ih1 _ _|exact LeO.refl _|exact LeO.none _|refine LeO.ite ?_ ?_|refine LeO.bind ?_ (fun _ => ?_))|exact LeO.none _|refine LeO.ite ?_ ?_|refine LeO.bind ?_ (fun _ => ?_))
set_option maxHeartbeats 8000000 in
set_option maxRecDepth 100000 in
theorem spec_l4Key.calls (k : Nat) (a0 : ByteArray) (r : Bool) (w : World) (h : spec_l4Key.f k a0 = some r) :
  Calls Tryz.prog 120 #[.string a0] w fun e w' => e = .returned (.bool r) ∧ Drawn0 w w' := by
 have H : ((spec_l1In.f (a0.size : Int) 1 10).bind fun t137 => (if t137 = true then (if 0 < (a0.size : Int) then ((spec_l2Lower.f (bt a0 0)).bind fun t138 => (spec_l4Key.j0 k a0 (!t138))) else (none)) else (spec_l4Key.j0 k a0 true))) = some r := h;clear h;have HC2 := aM H;clear H;go_enter Tryz.func120,Tryz.ntmps120;go_upto_region 1 with (fail);go_cut [13] (fun v13 wc => ∃ (kq : Nat) (x13_1 : Bool),v13 = .bool x13_1 ∧ Aside0 (spec_l4Key.j0 kq a0 x13_1 = some r) ∧ Aside0 (kq ≤ k) ∧ Drawn0 w wc)
 case first =>
  have H := HC2.out;clear HC2;obtain ⟨t137,A3,H⟩ := bE_ H
  by_cases c4 : t137 = true
  focus
   subst c4;rw [if_pos rfl] at H
   by_cases c5 : 0 < (a0.size : Int)
   rotate_left;rw [if_neg c5] at H;exact absurd H (by simp);rw [if_pos c5] at H;have c5b0 : decide (0 < (a0.size : Int)) = true := dT c5;have c5b1 : decide (0 < a0.size) = true := dT (by omega);clear c5;(first|rw [c5b0]|(simp only [i64_w,i32_w];rw [c5b0])|skip);obtain ⟨t138,A7,H⟩ := bE_ H;have H' := aM H;clear H
  rotate_left
  focus
   replace c4 := Bool.eq_false_iff.mpr c4;subst c4;rw [if_neg Bool.false_ne_true] at H;have H' := aM H;clear H
  all_goals
   go_wp2_with (first|((with_reducible refine gate_callee (f := 121) rfl ?_);refine gl_ (some 6) Tryz.func121 #[.int .i64 (a0.size : Int),.int .i64 1,.int .i64 10] ?_;(with_reducible refine (spec_l1In.calls _ _ _ _ _ A3.out).mono ?_);rintro e w' ⟨rfl,⟨nd,rfl⟩⟩;refine ⟨_,rfl,?_⟩;have p01 : 0 ≤ (0 : Int) := (by omega);have q01 : 0 < a0.size := (by have : (0 : Int) < (a0.size : Int) := oD (by assumption);omega);have hx01 : ∀ h : 0 < a0.size,((a0[0]'h).toNat : Int) = bt a0 0 := bt_at a0 0;clear p01;have qi6 : (0 < (a0.size : Int)) = True := eq_true (oD (by assumption));replace q01 := eq_true q01)|((with_reducible refine gate_callee (f := 121) rfl ?_);refine gl_ (some 6) Tryz.func121 #[.int .i64 (a0.size : Int),.int .i64 1,.int .i64 10] ?_;(with_reducible refine (spec_l1In.calls _ _ _ _ _ A3.out).mono ?_);rintro e w' ⟨rfl,⟨nd,rfl⟩⟩;refine ⟨_,rfl,?_⟩)|(go_at_call 162;(with_reducible refine (spec_l2Lower.calls _ _ _ A7.out).mono ?_);rintro e w' ⟨rfl,⟨nd,rfl⟩⟩));go_meet
   case rel => first|(exact ⟨_,(!t138),vR_,H',⟨by first|omega|exact Nat.le_refl _⟩,dw_⟩)|(exact ⟨_,(true),vR_,H',⟨by first|omega|exact Nat.le_refl _⟩,dw_⟩)
 case rest =>
  clear HC2;obtain ⟨kq,x13_1,rfl,HA,HJ1,⟨mc1,rfl⟩⟩ := hcut
  cases kq with
  | zero => exact absurd HA.out (by simp [spec_l4Key.j0])
  | succ kj1 =>
   have H := HA.out;clear HA;simp only [spec_l4Key.j0] at H
   by_cases c8 : x13_1 = true
   ·subst c8;rw [if_pos rfl] at H;obtain rfl := Option.some.inj H;simp only [eS,eP] at H;obtain ⟨rfl⟩ := H;go_wp2;go_ret;exact ⟨vR_,dw_⟩
   ·replace c8 := Bool.eq_false_iff.mpr c8;subst c8;rw [if_neg Bool.false_ne_true] at H;have H' := aM H;clear H;go_wp2;go_loopg [3] kj1 (fun kq v3 w' => ∃ (x3_2 : Int),v3 = .int .i64 x3_2 ∧ Aside0 (spec_l4Key.l0 kq a0 x3_2 = some r) ∧ Aside0 (kq ≤ kj1) ∧ Drawn0 w w')
    case atStart => exact ⟨(0),vR_,H',⟨Nat.le_refl _⟩,dw_⟩
    case round =>
     clear H';obtain ⟨x3_2,rfl,HA,HK2,⟨m2,rfl⟩⟩ := hrel
     cases gk with
     | zero => exact absurd HA.out (by simp [spec_l4Key.l0])
     | succ k2 =>
      have H := HA.out;clear HA;simp only [spec_l4Key.l0] at H
      by_cases c9 : x3_2 < (a0.size : Int)
      focus
       rw [if_pos c9] at H;have c9b0 : decide (x3_2 < (a0.size : Int)) = true := dT c9;clear c9
       by_cases c10 : 0 ≤ x3_2
       rotate_left;rw [if_neg c10] at H;exact absurd H (by simp);rw [if_pos c10] at H;have c10b0 : decide (0 ≤ x3_2) = true := dT c10;clear c10;obtain ⟨t139,A12,H⟩ := bE_ H
       by_cases c13 : t139 = true
       focus
        subst c13;rw [if_pos rfl] at H;have H' := aM H;clear H
       rotate_left
       focus
        replace c13 := Bool.eq_false_iff.mpr c13;subst c13;rw [if_neg Bool.false_ne_true] at H
        by_cases c15 : (bt a0 x3_2) < 48
        focus
         rw [if_pos c15] at H;have c15b0 : decide ((bt a0 x3_2) < 48) = true := dT c15;clear c15;obtain rfl := Option.some.inj H;simp only [eS,eP] at H;obtain ⟨rfl⟩ := H
        rotate_left
        focus
         rw [if_neg c15] at H;have c15b0 : decide ((bt a0 x3_2) < 48) = false := dF c15;clear c15
         by_cases c17 : (bt a0 x3_2) > 57
         focus
          rw [if_pos c17] at H;have c17b0 : decide (57 < (bt a0 x3_2)) = true := dT c17;clear c17;obtain rfl := Option.some.inj H;simp only [eS,eP] at H;obtain ⟨rfl⟩ := H
         rotate_left
         focus
          rw [if_neg c17] at H;have c17b0 : decide (57 < (bt a0 x3_2)) = false := dF c17;clear c17;have H' := aM H;clear H
      rotate_left 4
      focus
       rw [if_neg c9] at H;have c9b0 : decide (x3_2 < (a0.size : Int)) = false := dF c9;clear c9;obtain rfl := Option.some.inj H;simp only [eS,eP] at H;obtain ⟨rfl⟩ := H
      all_goals
       (try (have p02 : 0 ≤ (x3_2 : Int) := oD (by assumption);have q02 : x3_2 < (a0.size : Int) := oD (by assumption);have hx02 := bt_at a0 x3_2;replace p02 := eq_true p02;replace q02 := eq_true q02));go_wp2_with (first|((with_reducible refine gate_callee (f := 162) rfl ?_);refine gl_ (some 23) Tryz.func162 #[.int .u8 (bt a0 x3_2)] ?_;(with_reducible refine (spec_l2Lower.calls _ _ _ A12.out).mono ?_);rintro e w' ⟨rfl,⟨nd,rfl⟩⟩;refine ⟨_,rfl,?_⟩;(try (have p02 : 0 ≤ (x3_2 : Int) := oD (by assumption);have q02 : x3_2 < (a0.size : Int) := oD (by assumption);have hx02 := bt_at a0 x3_2;replace p02 := eq_true p02;replace q02 := eq_true q02))))
       first
        |
         go_ret;exact ⟨vR_,dw_⟩
        |
         go_roundg k2
         case measure => have := HJ1.out;have := HK2.out;omega
         case rel => exact ⟨(wrap64 (x3_2 + 1)),vR_,H',⟨by have := HJ1.out;have := HK2.out;omega⟩,dw_⟩
def spec_l2Upper.f (a0 : Int) : Option (Bool) := if a0 ≥ 65 then (some (decide (a0 ≤ 90))) else (some false)
set_option maxHeartbeats 8000000 in
set_option maxRecDepth 100000 in
theorem spec_l2Upper.calls (a0 : Int) (r : Bool) (w : World) (h : spec_l2Upper.f a0 = some r) :
  Calls Tryz.prog 211 #[.int .u8 a0] w fun e w' => e = .returned (.bool r) ∧ Drawn0 w w' := by
 have H : (if a0 ≥ 65 then (some (decide (a0 ≤ 90))) else (some false)) = some r := h;clear h
 by_cases c2 : a0 ≥ 65
 focus
  rw [if_pos c2] at H;have c2b0 : decide (65 ≤ a0) = true := dT c2;clear c2;obtain rfl := Option.some.inj H;simp only [eS,eP] at H;obtain ⟨rfl⟩ := H
 rotate_left
 focus
  rw [if_neg c2] at H;have c2b0 : decide (65 ≤ a0) = false := dF c2;clear c2;obtain rfl := Option.some.inj H;simp only [eS,eP] at H;obtain ⟨rfl⟩ := H
 all_goals
  go_enter Tryz.func211,Tryz.ntmps211;go_wp2;go_ret;exact ⟨vR_,dw_⟩
def spec_l2Letter.f (a0 : Int) : Option (Bool) := (spec_l2Upper.f a0).bind fun t140 => (if t140 = true then (some true) else ((spec_l2Lower.f a0).bind fun t141 => (some t141)))
set_option maxHeartbeats 8000000 in
set_option maxRecDepth 100000 in
theorem spec_l2Letter.calls (a0 : Int) (r : Bool) (w : World) (h : spec_l2Letter.f a0 = some r) :
  Calls Tryz.prog 243 #[.int .u8 a0] w fun e w' => e = .returned (.bool r) ∧ Drawn0 w w' := by
 have H : ((spec_l2Upper.f a0).bind fun t140 => (if t140 = true then (some true) else ((spec_l2Lower.f a0).bind fun t141 => (some t141)))) = some r := h;clear h;obtain ⟨t140,A2,H⟩ := bE_ H
 by_cases c3 : t140 = true
 focus
  subst c3;rw [if_pos rfl] at H;obtain rfl := Option.some.inj H;simp only [eS,eP] at H;obtain ⟨rfl⟩ := H
 rotate_left
 focus
  replace c3 := Bool.eq_false_iff.mpr c3;subst c3;rw [if_neg Bool.false_ne_true] at H;obtain ⟨t141,A4,H⟩ := bE_ H;obtain rfl := Option.some.inj H;simp only [eS,eP] at H;obtain ⟨rfl⟩ := H
 all_goals
  go_enter Tryz.func243,Tryz.ntmps243;go_wp2_with (first|((with_reducible refine gate_callee (f := 211) rfl ?_);refine gl_ (some 4) Tryz.func211 #[.int .u8 a0] ?_;(with_reducible refine (spec_l2Upper.calls _ _ _ A2.out).mono ?_);rintro e w' ⟨rfl,⟨nd,rfl⟩⟩;refine ⟨_,rfl,?_⟩)|(go_at_call 162;(with_reducible refine (spec_l2Lower.calls _ _ _ A4.out).mono ?_);rintro e w' ⟨rfl,⟨nd,rfl⟩⟩));go_ret;exact ⟨vR_,dw_⟩
end Go.Proofs.YtmafmhgmdegplaaGreatDoor.P
