/- Written by a program in this session: each theorem here says that a Go function computes the Lean function beside it, or that a law's row holds, under the conditions that the theorem itself states. -/
import Derived.Test.YtmafmhgmdegplaaGreatDoorZPx0
import Derived.Test.YtmafmhgmdegplaaGreatDoorZPx4
import Derived.Test.YtmafmhgmdegplaaGreatDoorZPx5
namespace Go.Proofs.YtmafmhgmdegplaaGreatDoor.P
open Go.RowKit Go.Proofs.YtmafmhgmdegplaaGreatDoorW.PrintWords Go.Proofs.YtmafmhgmdegplaaGreatDoorW.PrintLast Go.Proofs.YtmafmhgmdegplaaGreatDoorW.PrintMore
attribute [local go_sem] max2_int min2_int max_two min_two max_three min_three max_four min_four   -- for this text's walks alone
set_option linter.unusedVariables false
set_option linter.unusedSimpArgs false
mutual
def spec_l2Particle.l0 : Nat → List ByteArray → Int → Option (Bool)
 | 0,_,_ => none
 | k + 1,x3,x4 => if x4 < (x3.length : Int) then (if 0 ≤ x4 then ((spec_l2Word.f k (rdOf ByteArray.empty x3 x4)).bind fun t161 => (if t161 = true then (spec_l2Particle.l1 k x3 x4 0) else (some false))) else (none)) else (some (decide ((x3.length : Int) ≤ 2)))
def spec_l2Particle.l1 : Nat → List ByteArray → Int → Int → Option (Bool)
 | 0,_,_,_ => none
 | k + 1,x3,x4,x5 => if 0 ≤ x4 then (if x4 < (x3.length : Int) then (if x5 < ((rdOf ByteArray.empty x3 x4).size : Int) then (if 0 ≤ x5 then ((spec_l2Lower.f (bt (rdOf ByteArray.empty x3 x4) x5)).bind fun t164 => (if t164 = true then (spec_l2Particle.l1 k x3 x4 (wrap64 (x5 + 1))) else (some false))) else (none)) else (spec_l2Particle.l0 k x3 (wrap64 (x4 + 1)))) else (none)) else (none)
end
def spec_l2Particle.f (k : Nat) (a0 : ByteArray) : Option (Bool) := if a0.toList = ([] : List UInt8) then (some true) else ((spec_l1Split.f k a0 32).bind fun t157 => (spec_l2Particle.l0 k t157 0))
theorem spec_l2Particle.mono_l : ∀ k,(∀ y0 y1,LeO (spec_l2Particle.l0 k y0 y1) (spec_l2Particle.l0 (k + 1) y0 y1)) ∧ (∀ y0 y1 y2,LeO (spec_l2Particle.l1 k y0 y1 y2) (spec_l2Particle.l1 (k + 1) y0 y1 y2))
 | 0 => ⟨fun _ _ r h => by simp [spec_l2Particle.l0] at h,fun _ _ _ r h => by simp [spec_l2Particle.l1] at h⟩
 | k + 1 => by
  obtain ⟨ih0,ih1⟩ := spec_l2Particle.mono_l k
  refine ⟨?_,?_⟩
  all_goals (intros;first|unfold spec_l2Particle.l0|unfold spec_l2Particle.l1)
  all_goals repeat' (first|with_reducible (first|exact ih0 _ _|exact ih1 _ _ _|exact spec_l1Split.mono _ _ _|exact spec_l2Word.mono _ _|exact LeO.refl _|exact LeO.none _|refine LeO.ite ?_ ?_|refine LeO.bind ?_ (fun _ => ?_))|exact LeO.none _|refine LeO.ite ?_ ?_|refine LeO.bind ?_ (fun _ => ?_))
theorem spec_l2Particle.mono : ∀ a0 k,LeO (spec_l2Particle.f k a0) (spec_l2Particle.f (k + 1) a0) := by
 intro a0 k
 obtain ⟨ih0,ih1⟩ := spec_l2Particle.mono_l k
 unfold spec_l2Particle.f
 repeat' (first|with_reducible (first|exact ih0 _ _|exact ih1 _ _ _|exact spec_l1Split.mono _ _ _|exact spec_l2Word.mono _ _|exact LeO.refl _|exact LeO.none _|refine LeO.ite ?_ ?_|refine LeO.bind ?_ (fun _ => ?_))|exact LeO.none _|refine LeO.ite ?_ ?_|refine LeO.bind ?_ (fun _ => ?_))
set_option maxHeartbeats 8000000 in
set_option maxRecDepth 100000 in
theorem spec_l2Particle.calls (k : Nat) (a0 : ByteArray) (r : Bool) (w : World) (h : spec_l2Particle.f k a0 = some r) :
  Calls Tryz.prog 212 #[.string a0] w fun e w' => e = .returned (.bool r) ∧ Below w.heap.size w w' := by
 have HB := aM (Below.refl w.heap.size w);have H : (if a0.toList = ([] : List UInt8) then (some true) else ((spec_l1Split.f k a0 32).bind fun t157 => (spec_l2Particle.l0 k t157 0))) = some r := h;clear h
 by_cases c2 : a0.toList = ([] : List UInt8)
 ·rw [if_pos c2] at H;have c2b0 : (a0.toList == ([] : List UInt8)) = true := beq_iff_eq.mpr c2;have c2b1 : (a0.toList != ([] : List UInt8)) = false := bne_eq_false_iff_eq.mpr c2;clear c2;obtain rfl := Option.some.inj H;simp only [eS,eP] at H;obtain ⟨rfl⟩ := H;go_enter Tryz.func212,Tryz.ntmps212;go_wp2;go_ret;exact ⟨vR_,wB_⟩
 ·rw [if_neg c2] at H;have c2b0 : (a0.toList == ([] : List UInt8)) = false := beq_eq_false_iff_ne.mpr c2;have c2b1 : (a0.toList != ([] : List UInt8)) = true := bne_iff_ne.mpr c2;obtain ⟨t157,A3,H⟩ := bE_ H;have H' := aM H;clear H;go_enter Tryz.func212,Tryz.ntmps212;go_wp2_with (first|((with_reducible refine gate_callee (f := 244) rfl ?_);refine gl_ (some 9) Tryz.func244 #[.string a0,.int .u8 32] ?_;(with_reducible refine (spec_l1Split.calls k a0 32 t157 _ A3.out).mono ?_);rintro e w4 ⟨v158,rfl,ho0,hb⟩;refine ⟨_,rfl,?_⟩;have HO159 := aM (Kd.R_lower ho0 (lZ wB_));replace HB := aM (lT wB_ hb)));go_loopg [4] k (fun kq v4 w' => ∃ (x4_1 : Int),v4 = .int .i64 x4_1 ∧ Aside0 (spec_l2Particle.l0 kq t157 x4_1 = some r) ∧ Aside0 (kq ≤ k) ∧ Aside0 (Kd.R Kd.string 9 w' w.heap.size (fun _ => True) v158 t157) ∧ Aside0 (Below w.heap.size w w'))
  case atStart => exact ⟨(0),vR_,H',⟨Nat.le_refl _⟩,⟨wO_ HO159.out⟩,⟨wB_⟩⟩
  case round =>
   clear H';obtain ⟨x4_1,rfl,HA,HK1,HO_3,HB⟩ := hrel
   cases gk with
   | zero => exact absurd HA.out (by simp [spec_l2Particle.l0])
   | succ k1 =>
    have H := HA.out;clear HA;simp only [spec_l2Particle.l0] at H
    by_cases c5 : x4_1 < (t157.length : Int)
    focus
     rw [if_pos c5] at H;have c5b0 : decide (x4_1 < (t157.length : Int)) = true := dT c5;clear c5
     by_cases c6 : 0 ≤ x4_1
     rotate_left;rw [if_neg c6] at H;exact absurd H (by simp);rw [if_pos c6] at H;have c6b0 : decide (0 ≤ x4_1) = true := dT c6;clear c6;obtain ⟨t161,A7,H⟩ := bE_ H
     by_cases c8 : t161 = true
     focus
      subst c8;rw [if_pos rfl] at H;have H' := aM H;clear H;obtain ⟨Ao01,co01,eo01⟩ := Kd.R_slice HO_3.out;subst eo01
     rotate_left
     focus
      replace c8 := Bool.eq_false_iff.mpr c8;subst c8;rw [if_neg Bool.false_ne_true] at H;obtain rfl := Option.some.inj H;simp only [eS,eP] at H;obtain ⟨rfl⟩ := H;obtain ⟨Ao01,co01,eo01⟩ := Kd.R_slice HO_3.out;subst eo01
    rotate_left 2
    focus
     rw [if_neg c5] at H;have c5b0 : decide (x4_1 < (t157.length : Int)) = false := dF c5;clear c5;obtain rfl := Option.some.inj H;simp only [eS,eP] at H;obtain ⟨rfl⟩ := H;obtain ⟨Ao01,co01,eo01⟩ := Kd.R_slice HO_3.out;subst eo01
    all_goals
     (try (have p03 : 0 ≤ (x4_1 : Int) := oD (by assumption);have q03 : x4_1 < (t157.length : Int) := oD (by assumption);obtain ⟨ad03,e03,hx03_0⟩ := Kd.at_string (rR HO_3.out).2.2 x4_1 p03 q03;cases e03;replace p03 := eq_true p03;replace q03 := eq_true q03));go_wp2_with (first|((with_reducible refine gate_callee (f := 210) rfl ?_);refine gl_ (some 20) Tryz.func210 #[.string (rdOf ByteArray.empty t157 x4_1)] ?_;(with_reducible refine (spec_l2Word.calls _ _ _ _ A7.out).mono ?_);rintro e w' ⟨rfl,⟨nd,rfl⟩⟩;refine ⟨_,rfl,?_⟩))
     first
      |
       go_ret;exact ⟨vR_,wB_⟩
      |
       go_loopg [5] k1 (fun kq v5 w' => ∃ (x5_2 : Int),v5 = .int .i64 x5_2 ∧ Aside0 (spec_l2Particle.l1 kq t157 x4_1 x5_2 = some r) ∧ Aside0 (kq ≤ k1) ∧ Aside0 (Kd.R Kd.string 9 w' w.heap.size (fun _ => True) (.slice (some ad03) t157.length co01) t157) ∧ Aside0 (Below w.heap.size w w'))
       case atStart => exact ⟨(0),vR_,H',⟨Nat.le_refl _⟩,⟨wO_ HO_3.out⟩,⟨wB_⟩⟩
       case round =>
        clear H';obtain ⟨x5_2,rfl,HA,HK2,HO_3,HB⟩ := hrel
        cases gk with
        | zero => exact absurd HA.out (by simp [spec_l2Particle.l1])
        | succ k2 =>
         have H := HA.out;clear HA;simp only [spec_l2Particle.l1] at H
         by_cases c10 : 0 ≤ x4_1
         rotate_left;rw [if_neg c10] at H;exact absurd H (by simp);rw [if_pos c10] at H;have c10b0 : decide (0 ≤ x4_1) = true := dT c10;clear c10
         by_cases c11 : x4_1 < (t157.length : Int)
         rotate_left;rw [if_neg c11] at H;exact absurd H (by simp);rw [if_pos c11] at H;have c11b0 : decide (x4_1 < (t157.length : Int)) = true := dT c11;clear c11
         by_cases c12 : x5_2 < ((rdOf ByteArray.empty t157 x4_1).size : Int)
         focus
          rw [if_pos c12] at H;have c12b0 : decide (x5_2 < ((rdOf ByteArray.empty t157 x4_1).size : Int)) = true := dT c12;clear c12
          by_cases c13 : 0 ≤ x5_2
          rotate_left;rw [if_neg c13] at H;exact absurd H (by simp);rw [if_pos c13] at H;have c13b0 : decide (0 ≤ x5_2) = true := dT c13;clear c13;obtain ⟨t164,A15,H⟩ := bE_ H
          by_cases c16 : t164 = true
          focus
           subst c16;rw [if_pos rfl] at H;have H' := aM H;clear H
          rotate_left
          focus
           replace c16 := Bool.eq_false_iff.mpr c16;subst c16;rw [if_neg Bool.false_ne_true] at H;obtain rfl := Option.some.inj H;simp only [eS,eP] at H;obtain ⟨rfl⟩ := H
         rotate_left 2
         focus
          rw [if_neg c12] at H;have c12b0 : decide (x5_2 < ((rdOf ByteArray.empty t157 x4_1).size : Int)) = false := dF c12;clear c12;have H' := aM H;clear H
         all_goals
          (try (have p01 : 0 ≤ (x4_1 : Int) := oD (by assumption);have q01 : x4_1 < (t157.length : Int) := oD (by assumption);obtain ⟨ad01,e01,hx01_0⟩ := Kd.at_string (rR HO_3.out).2.2 x4_1 p01 q01;obtain rfl : ad03 = ad01 := (by injection e01);replace p01 := eq_true p01;replace q01 := eq_true q01));(try (have p02 : 0 ≤ (x5_2 : Int) := oD (by assumption);have q02 : x5_2 < ((rdOf ByteArray.empty t157 x4_1).size : Int) := oD (by assumption);have hx02 := bt_at (rdOf ByteArray.empty t157 x4_1) x5_2;replace p02 := eq_true p02;replace q02 := eq_true q02));go_wp2_with (first|((with_reducible refine gate_callee (f := 162) rfl ?_);refine gl_ (some 37) Tryz.func162 #[.int .u8 (bt (rdOf ByteArray.empty t157 x4_1) x5_2)] ?_;(with_reducible refine (spec_l2Lower.calls _ _ _ A15.out).mono ?_);rintro e w' ⟨rfl,⟨nd,rfl⟩⟩;refine ⟨_,rfl,?_⟩))
          first
           |
            go_ret;exact ⟨vR_,wB_⟩
           |
            go_roundg k2
            case measure => have := HK1.out;have := HK2.out;omega
            case rel => first|(exact ⟨(wrap64 (x5_2 + 1)),vR_,H',⟨by have := HK1.out;have := HK2.out;omega⟩,⟨wO_ HO_3.out⟩,⟨wB_⟩⟩)|(exact ⟨(wrap64 (x4_1 + 1)),vR_,H',⟨by have := HK1.out;have := HK2.out;omega⟩,⟨wO_ HO_3.out⟩,⟨wB_⟩⟩)
def spec_l2Good.l0 : Nat → Int → List ByteArray → ByteArray → ByteArray → ByteArray → Option (Bool)
 | 0,_,_,_,_,_ => none
 | k + 1,x3,x166000,x166001,x166002,x166003 => if x3 < (x166000.length : Int) then (if 0 ≤ x3 then ((spec_l2Word.f k (rdOf ByteArray.empty x166000 x3)).bind fun t167 => (if t167 = true then (if 0 < ((rdOf ByteArray.empty x166000 x3).size : Int) then ((spec_l2Upper.f (bt (rdOf ByteArray.empty x166000 x3) 0)).bind fun t169 => (if t169 = true then (spec_l2Good.l0 k (wrap64 (x3 + 1)) x166000 x166001 x166002 x166003) else (some false))) else (none)) else (some false))) else (none)) else (if (x166000.length : Int) ≤ 3 then ((spec_l2Particle.f k x166001).bind fun t170 => (if t170 = true then ((spec_l2Word.f k x166002).bind fun t171 => (if t171 = true then (if 0 < (x166002.size : Int) then ((spec_l2Upper.f (bt x166002 0)).bind fun t172 => (if t172 = true then (if x166003.toList = ([] : List UInt8) then (some true) else ((spec_l2Word.f k x166003).bind fun t173 => (some t173))) else (some false))) else (none)) else (some false))) else (some false))) else (some false))
def spec_l2Good.f (k : Nat) (l0_0 : List ByteArray) (a0_1 : ByteArray) (a0_2 : ByteArray) (a0_3 : ByteArray) : Option (Bool) := spec_l2Good.l0 k 0 l0_0 a0_1 a0_2 a0_3
theorem spec_l2Good.mono_l : ∀ k,(∀ y0 y1 y2 y3 y4,LeO (spec_l2Good.l0 k y0 y1 y2 y3 y4) (spec_l2Good.l0 (k + 1) y0 y1 y2 y3 y4))
 | 0 => fun _ _ _ _ _ r h => by simp [spec_l2Good.l0] at h
 | k + 1 => by
  have ih0 := spec_l2Good.mono_l k
  ·intro y0 y1 y2 y3 y4
   unfold spec_l2Good.l0
   repeat' (first|with_reducible (first|exact ih0 _ _ _ _ _|exact spec_l2Particle.mono _ _|exact spec_l2Word.mono _ _|exact LeO.refl _|exact LeO.none _|refine LeO.ite ?_ ?_|refine LeO.bind ?_ (fun _ => ?_))|exact LeO.none _|refine LeO.ite ?_ ?_|refine LeO.bind ?_ (fun _ => ?_))
theorem spec_l2Good.mono : ∀ a0 a1 a2 a3 k,LeO (spec_l2Good.f k a0 a1 a2 a3) (spec_l2Good.f (k + 1) a0 a1 a2 a3) := by
 intro a0 a1 a2 a3 k
 have ih0 := spec_l2Good.mono_l k
 unfold spec_l2Good.f
 repeat' (first|with_reducible (first|exact ih0 _ _ _ _ _|exact spec_l2Particle.mono _ _|exact spec_l2Word.mono _ _|exact LeO.refl _|exact LeO.none _|refine LeO.ite ?_ ?_|refine LeO.bind ?_ (fun _ => ?_))|exact LeO.none _|refine LeO.ite ?_ ?_|refine LeO.bind ?_ (fun _ => ?_))
set_option maxHeartbeats 8000000 in
set_option maxRecDepth 100000 in
theorem spec_l2Good.calls (k : Nat) (A0_0 : Option Addr) (c0_0 : Nat) (l0_0 : List ByteArray) (a0_1 : ByteArray) (a0_2 : ByteArray) (a0_3 : ByteArray) (r : Bool) (w : World) (hr0_0 : Kd.C Kd.string w A0_0 l0_0.length l0_0) (hc0_0 : l0_0.length ≤ c0_0) (h : spec_l2Good.f k l0_0 a0_1 a0_2 a0_3 = some r) :
  Calls Tryz.prog 163 #[.agg #[.slice A0_0 l0_0.length c0_0,.string a0_1,.string a0_2,.string a0_3]] w fun e w' => e = .returned (.bool r) ∧ Below w.heap.size w w' := by
 have hu157 := Tryz.underlying157;have HR0_0 := aM hr0_0;have HC0_0 := aM hc0_0;clear hr0_0 hc0_0;have HB := aM (Below.refl w.heap.size w);have H : (spec_l2Good.l0 k 0 l0_0 a0_1 a0_2 a0_3) = some r := h;clear h;have H' := aM H;clear H;go_enter Tryz.func163,Tryz.ntmps163;go_wp2_with (first|((with_reducible refine gate_dst (N := 1) rfl ?_);refine bx_ (N := 1) (cs := #[.slice A0_0 l0_0.length c0_0,.string a0_1,.string a0_2,.string a0_3]) (t := 157) ?_;intro gb165 hg w2 hbox hb;have BK165 := aM (hbox);have GW165 := aM ((by rw [hg];exact (lZ wB_) : w.heap.size ≤ gb165));have GE165 := GW165;replace HB := aM (lT wB_ hb);clear hb hbox hg));go_loopg [3] k (fun kq v3 w' => ∃ (x3_1 : Int),v3 = .int .i64 x3_1 ∧ Aside0 (spec_l2Good.l0 kq x3_1 l0_0 a0_1 a0_2 a0_3 = some r) ∧ Aside0 (kq ≤ k) ∧ Aside0 (w'.heap[gb165]? = some (.cells #[(.slice A0_0 l0_0.length c0_0),.string a0_1,.string a0_2,.string a0_3] 157 (0,0))) ∧ Aside0 (Below w.heap.size w w'))
 case atStart => exact ⟨(0),vR_,H',⟨Nat.le_refl _⟩,⟨wC_ BK165.out⟩,⟨wB_⟩⟩
 case round =>
  clear H';obtain ⟨x3_1,rfl,HA,HK1,BK165,HB⟩ := hrel
  cases gk with
  | zero => exact absurd HA.out (by simp [spec_l2Good.l0])
  | succ k1 =>
   have H := HA.out;clear HA;simp only [spec_l2Good.l0] at H
   by_cases c3 : x3_1 < (l0_0.length : Int)
   focus
    rw [if_pos c3] at H;have c3b0 : decide (x3_1 < (l0_0.length : Int)) = true := dT c3;clear c3
    by_cases c4 : 0 ≤ x3_1
    rotate_left;rw [if_neg c4] at H;exact absurd H (by simp);rw [if_pos c4] at H;have c4b0 : decide (0 ≤ x3_1) = true := dT c4;clear c4;obtain ⟨t167,A5,H⟩ := bE_ H
    by_cases c6 : t167 = true
    focus
     subst c6;rw [if_pos rfl] at H
     by_cases c7 : 0 < ((rdOf ByteArray.empty l0_0 x3_1).size : Int)
     rotate_left;rw [if_neg c7] at H;exact absurd H (by simp);rw [if_pos c7] at H;have c7b0 : decide (0 < ((rdOf ByteArray.empty l0_0 x3_1).size : Int)) = true := dT c7;have c7b1 : decide (0 < (rdOf ByteArray.empty l0_0 x3_1).size) = true := dT (by omega);clear c7;obtain ⟨t169,A9,H⟩ := bE_ H
     by_cases c10 : t169 = true
     focus
      subst c10;rw [if_pos rfl] at H;have H' := aM H;clear H
     rotate_left
     focus
      replace c10 := Bool.eq_false_iff.mpr c10;subst c10;rw [if_neg Bool.false_ne_true] at H;obtain rfl := Option.some.inj H;simp only [eS,eP] at H;obtain ⟨rfl⟩ := H
    rotate_left 2
    focus
     replace c6 := Bool.eq_false_iff.mpr c6;subst c6;rw [if_neg Bool.false_ne_true] at H;obtain rfl := Option.some.inj H;simp only [eS,eP] at H;obtain ⟨rfl⟩ := H
   rotate_left 3
   focus
    rw [if_neg c3] at H;have c3b0 : decide (x3_1 < (l0_0.length : Int)) = false := dF c3;clear c3
    by_cases c14 : (l0_0.length : Int) ≤ 3
    focus
     rw [if_pos c14] at H;have c14b0 : decide ((l0_0.length : Int) ≤ 3) = true := dT c14;have c14b1 : decide (l0_0.length ≤ 3) = true := dT (by omega);clear c14;obtain ⟨t170,A15,H⟩ := bE_ H
     by_cases c16 : t170 = true
     focus
      subst c16;rw [if_pos rfl] at H;obtain ⟨t171,A17,H⟩ := bE_ H
      by_cases c18 : t171 = true
      focus
       subst c18;rw [if_pos rfl] at H
       by_cases c19 : 0 < (a0_2.size : Int)
       rotate_left;rw [if_neg c19] at H;exact absurd H (by simp);rw [if_pos c19] at H;have c19b0 : decide (0 < (a0_2.size : Int)) = true := dT c19;have c19b1 : decide (0 < a0_2.size) = true := dT (by omega);clear c19;obtain ⟨t172,A21,H⟩ := bE_ H
       by_cases c22 : t172 = true
       focus
        subst c22;rw [if_pos rfl] at H
        by_cases c23 : a0_3.toList = ([] : List UInt8)
        focus
         rw [if_pos c23] at H;have c23b0 : (a0_3.toList == ([] : List UInt8)) = true := beq_iff_eq.mpr c23;have c23b1 : (a0_3.toList != ([] : List UInt8)) = false := bne_eq_false_iff_eq.mpr c23;clear c23;obtain rfl := Option.some.inj H;simp only [eS,eP] at H;obtain ⟨rfl⟩ := H
        rotate_left
        focus
         rw [if_neg c23] at H;have c23b0 : (a0_3.toList == ([] : List UInt8)) = false := beq_eq_false_iff_ne.mpr c23;have c23b1 : (a0_3.toList != ([] : List UInt8)) = true := bne_iff_ne.mpr c23;obtain ⟨t173,A27,H⟩ := bE_ H;obtain rfl := Option.some.inj H;simp only [eS,eP] at H;obtain ⟨rfl⟩ := H
       rotate_left 2
       focus
        replace c22 := Bool.eq_false_iff.mpr c22;subst c22;rw [if_neg Bool.false_ne_true] at H;obtain rfl := Option.some.inj H;simp only [eS,eP] at H;obtain ⟨rfl⟩ := H
      rotate_left 3
      focus
       replace c18 := Bool.eq_false_iff.mpr c18;subst c18;rw [if_neg Bool.false_ne_true] at H;obtain rfl := Option.some.inj H;simp only [eS,eP] at H;obtain ⟨rfl⟩ := H
     rotate_left 4
     focus
      replace c16 := Bool.eq_false_iff.mpr c16;subst c16;rw [if_neg Bool.false_ne_true] at H;obtain rfl := Option.some.inj H;simp only [eS,eP] at H;obtain ⟨rfl⟩ := H
    rotate_left 5
    focus
     rw [if_neg c14] at H;have c14b0 : decide ((l0_0.length : Int) ≤ 3) = false := dF c14;have c14b1 : decide (l0_0.length ≤ 3) = false := dF (by omega);clear c14;obtain rfl := Option.some.inj H;simp only [eS,eP] at H;obtain ⟨rfl⟩ := H
   all_goals
    (try obtain ⟨hczx165_0,hczx165_1,hczx165_2,hczx165_3,hfzx165_0,hfzx165_1,hfzx165_2,hfzx165_3⟩ := z4_ BK165.out);(try (have p01 : 0 ≤ (x3_1 : Int) := oD (by assumption);have q01 : x3_1 < (l0_0.length : Int) := oD (by assumption);obtain ⟨ad01,e01,hx01_0⟩ := Kd.at_string HR0_0.out x3_1 p01 q01;cases e01;replace hx01_0 := (HB.out.cell (wB w _ hx01_0)).trans hx01_0;replace p01 := eq_true p01;replace q01 := eq_true q01));go_wp2_with (first|(go_at_call 212;(with_reducible refine (spec_l2Particle.calls _ _ _ _ A15.out).mono ?_);rintro e WA15 ⟨rfl,hb⟩;replace BK165 := aM (bw_ BK165.out hb);replace HB := aM (lT wB_ hb);obtain ⟨hcz15x165_0,hcz15x165_1,hcz15x165_2,hcz15x165_3,hfz15x165_0,hfz15x165_1,hfz15x165_2,hfz15x165_3⟩ := z4_ BK165.out)|(go_at_call 210;(with_reducible refine (spec_l2Word.calls _ _ _ _ A17.out).mono ?_);rintro e w' ⟨rfl,⟨nd,rfl⟩⟩;have p04 : 0 ≤ (0 : Int) := (by omega);have q04 : 0 < a0_2.size := (by have : (0 : Int) < (a0_2.size : Int) := oD (by assumption);omega);have hx04 : ∀ h : 0 < a0_2.size,((a0_2[0]'h).toNat : Int) = bt a0_2 0 := bt_at a0_2 0;clear p04;have qi20 : (0 < (a0_2.size : Int)) = True := eq_true (oD (by assumption));replace q04 := eq_true q04)|(go_at_call 210;(with_reducible refine (spec_l2Word.calls _ _ _ _ A17.out).mono ?_);rintro e w' ⟨rfl,⟨nd,rfl⟩⟩)|(go_at_call 211;(with_reducible refine (spec_l2Upper.calls _ _ _ A21.out).mono ?_);rintro e w' ⟨rfl,⟨nd,rfl⟩⟩)|(go_at_call 210;(with_reducible refine (spec_l2Word.calls _ _ _ _ A27.out).mono ?_);rintro e w' ⟨rfl,⟨nd,rfl⟩⟩)|((with_reducible refine gate_callee (f := 210) rfl ?_);refine gl_ (some 16) Tryz.func210 #[.string (rdOf ByteArray.empty l0_0 x3_1)] ?_;(with_reducible refine (spec_l2Word.calls _ _ _ _ A5.out).mono ?_);rintro e w' ⟨rfl,⟨nd,rfl⟩⟩;refine ⟨_,rfl,?_⟩;have p02 : 0 ≤ (x3_1 : Int) := oD (by assumption);have q02 : x3_1 < (l0_0.length : Int) := oD (by assumption);obtain ⟨ad02,e02,hx02_0⟩ := Kd.at_string HR0_0.out x3_1 p02 q02;obtain rfl : ad01 = ad02 := (by injection e02);replace hx02_0 := (HB.out.cell (wB w _ hx02_0)).trans hx02_0;replace p02 := eq_true p02;replace q02 := eq_true q02;have p03 : 0 ≤ (0 : Int) := (by omega);have q03 : 0 < (rdOf ByteArray.empty l0_0 x3_1).size := (by have : (0 : Int) < ((rdOf ByteArray.empty l0_0 x3_1).size : Int) := oD (by assumption);omega);have hx03 : ∀ h : 0 < (rdOf ByteArray.empty l0_0 x3_1).size,(((rdOf ByteArray.empty l0_0 x3_1)[0]'h).toNat : Int) = bt (rdOf ByteArray.empty l0_0 x3_1) 0 := bt_at (rdOf ByteArray.empty l0_0 x3_1) 0;clear p03;have qi8 : (0 < ((rdOf ByteArray.empty l0_0 x3_1).size : Int)) = True := eq_true (oD (by assumption));replace q03 := eq_true q03)|((with_reducible refine gate_callee (f := 210) rfl ?_);refine gl_ (some 16) Tryz.func210 #[.string (rdOf ByteArray.empty l0_0 x3_1)] ?_;(with_reducible refine (spec_l2Word.calls _ _ _ _ A5.out).mono ?_);rintro e w' ⟨rfl,⟨nd,rfl⟩⟩;refine ⟨_,rfl,?_⟩)|(go_at_call 211;(with_reducible refine (spec_l2Upper.calls _ _ _ A9.out).mono ?_);rintro e w' ⟨rfl,⟨nd,rfl⟩⟩))
    first
     |
      go_ret;exact ⟨vR_,wB_⟩
     |
      go_roundg k1
      case measure => have := HK1.out;omega
      case rel => exact ⟨(wrap64 (x3_1 + 1)),vR_,H',⟨by have := HK1.out;omega⟩,⟨wC_ BK165.out⟩,⟨wB_⟩⟩
mutual
def spec_l2List.l0 : Nat → List (S157) → Int → Option (Bool)
 | 0,_,_ => none
 | k + 1,x0,x3 => if x3 < (x0.length : Int) then (spec_l2List.j1 k x0 x3 (decide (x3 ≤ 4))) else (spec_l2List.j1 k x0 x3 false)
def spec_l2List.j1 : Nat → List (S157) → Int → Bool → Option (Bool)
 | 0,_,_,_ => none
 | k + 1,x0,x3,x11 => if x11 = true then (if 0 ≤ x3 then (if x3 < (x0.length : Int) then ((spec_l2Good.f k ((rd_T157 x0 x3).f0) ((rd_T157 x0 x3).f1) ((rd_T157 x0 x3).f2) ((rd_T157 x0 x3).f3)).bind fun t175 => (if t175 = true then (spec_l2List.l0 k x0 (wrap64 (x3 + 1))) else (some false))) else (none)) else (none)) else (some (decide ((x0.length : Int) ≤ 4)))
end
def spec_l2List.f (k : Nat) (l0 : List (S157)) : Option (Bool) := spec_l2List.l0 k l0 0
theorem spec_l2List.mono_l : ∀ k,(∀ y0 y1,LeO (spec_l2List.l0 k y0 y1) (spec_l2List.l0 (k + 1) y0 y1)) ∧ (∀ y0 y1 y2,LeO (spec_l2List.j1 k y0 y1 y2) (spec_l2List.j1 (k + 1) y0 y1 y2))
 | 0 => ⟨fun _ _ r h => by simp [spec_l2List.l0] at h,fun _ _ _ r h => by simp [spec_l2List.j1] at h⟩
 | k + 1 => by
  obtain ⟨ih0,ih1⟩ := spec_l2List.mono_l k
  refine ⟨?_,?_⟩
  all_goals (intros;first|unfold spec_l2List.l0|unfold spec_l2List.j1)
  all_goals repeat' (first|with_reducible (first|exact ih0 _ _|exact ih1 _ _ _|exact spec_l2Good.mono _ _ _ _ _|exact LeO.refl _|exact LeO.none _|refine LeO.ite ?_ ?_|refine LeO.bind ?_ (fun _ => ?_))|exact LeO.none _|refine LeO.ite ?_ ?_|refine LeO.bind ?_ (fun _ => ?_))
theorem spec_l2List.mono : ∀ a0 k,LeO (spec_l2List.f k a0) (spec_l2List.f (k + 1) a0) := by
 intro a0 k
 obtain ⟨ih0,ih1⟩ := spec_l2List.mono_l k
 unfold spec_l2List.f
 repeat' (first|with_reducible (first|exact ih0 _ _|exact ih1 _ _ _|exact spec_l2Good.mono _ _ _ _ _|exact LeO.refl _|exact LeO.none _|refine LeO.ite ?_ ?_|refine LeO.bind ?_ (fun _ => ?_))|exact LeO.none _|refine LeO.ite ?_ ?_|refine LeO.bind ?_ (fun _ => ?_))
set_option maxHeartbeats 8000000 in
set_option maxRecDepth 100000 in
theorem spec_l2List.calls (k : Nat) (A0 : Option Addr) (c0 : Nat) (l0 : List (S157)) (r : Bool) (w : World) (hr0 : Kd.C k157 w A0 l0.length l0) (hc0 : l0.length ≤ c0) (h : spec_l2List.f k l0 = some r) :
  Calls Tryz.prog 122 #[.slice A0 l0.length c0] w fun e w' => e = .returned (.bool r) ∧ Below w.heap.size w w' := by
 have hu157 := Tryz.underlying157;have HR0 := aM hr0;have HC0 := aM hc0;clear hr0 hc0;have HB := aM (Below.refl w.heap.size w);have H : (spec_l2List.l0 k l0 0) = some r := h;clear h;have H' := aM H;clear H;go_enter Tryz.func122,Tryz.ntmps122;go_wp2;go_loopg [3] k (fun kq v3 w' => ∃ (x3_1 : Int),v3 = .int .i64 x3_1 ∧ Aside0 (spec_l2List.l0 kq l0 x3_1 = some r) ∧ Aside0 (kq ≤ k) ∧ Aside0 (Below w.heap.size w w'))
 case atStart => exact ⟨(0),vR_,H',⟨Nat.le_refl _⟩,⟨wB_⟩⟩
 case round =>
  clear H';obtain ⟨x3_1,rfl,HA,HK1,HB⟩ := hrel
  cases gk with
  | zero => exact absurd HA.out (by simp [spec_l2List.l0])
  | succ k1 =>
   have H := HA.out;clear HA;simp only [spec_l2List.l0] at H;have HC2 := aM H;clear H;go_upto_region 2 with (fail);go_cut [11] (fun v11 wc => ∃ (kq : Nat) (x11_1 : Bool),v11 = .bool x11_1 ∧ Aside0 (spec_l2List.j1 kq l0 x3_1 x11_1 = some r) ∧ Aside0 (kq ≤ k1) ∧ Aside0 (Below w.heap.size w wc))
   case first =>
    have H := HC2.out;clear HC2
    by_cases c3 : x3_1 < (l0.length : Int)
    ·rw [if_pos c3] at H;have c3b0 : decide (x3_1 < (l0.length : Int)) = true := dT c3;clear c3;(first|rw [c3b0]|(simp only [i64_w,i32_w];rw [c3b0])|skip);have H' := aM H;clear H;go_wp2;go_meet
     case rel => exact ⟨_,(decide (x3_1 ≤ 4)),vR_,H',⟨by have := HK1.out;first|omega|exact Nat.le_refl _⟩,⟨wB_⟩⟩
    ·rw [if_neg c3] at H;have c3b0 : decide (x3_1 < (l0.length : Int)) = false := dF c3;clear c3;(first|rw [c3b0]|(simp only [i64_w,i32_w];rw [c3b0])|skip);have H' := aM H;clear H;go_wp2;go_meet
     case rel => exact ⟨_,(false),vR_,H',⟨by have := HK1.out;first|omega|exact Nat.le_refl _⟩,⟨wB_⟩⟩
   case rest =>
    clear HC2;obtain ⟨kq,x11_1,rfl,HA,HJ1,HB⟩ := hcut
    cases kq with
    | zero => exact absurd HA.out (by simp [spec_l2List.j1])
    | succ kj1 =>
     have H := HA.out;clear HA;simp only [spec_l2List.j1] at H
     by_cases c4 : x11_1 = true
     focus
      subst c4;rw [if_pos rfl] at H
      by_cases c5 : 0 ≤ x3_1
      rotate_left;rw [if_neg c5] at H;exact absurd H (by simp);rw [if_pos c5] at H;have c5b0 : decide (0 ≤ x3_1) = true := dT c5;clear c5
      by_cases c6 : x3_1 < (l0.length : Int)
      rotate_left;rw [if_neg c6] at H;exact absurd H (by simp);rw [if_pos c6] at H;have c6b0 : decide (x3_1 < (l0.length : Int)) = true := dT c6;clear c6;obtain ⟨t175,A7,H⟩ := bE_ H
      by_cases c8 : t175 = true
      focus
       subst c8;rw [if_pos rfl] at H;have H' := aM H;clear H
      rotate_left
      focus
       replace c8 := Bool.eq_false_iff.mpr c8;subst c8;rw [if_neg Bool.false_ne_true] at H;obtain rfl := Option.some.inj H;simp only [eS,eP] at H;obtain ⟨rfl⟩ := H
     rotate_left 2
     focus
      replace c4 := Bool.eq_false_iff.mpr c4;subst c4;rw [if_neg Bool.false_ne_true] at H;obtain rfl := Option.some.inj H;simp only [eS,eP] at H;obtain ⟨rfl⟩ := H
     all_goals
      (try (have p01 : 0 ≤ (x3_1 : Int) := oD (by assumption);have q01 : x3_1 < (l0.length : Int) := oD (by assumption);obtain ⟨ad01,A01_0,c01_0,e01,hx01_0,hx01_1,hx01_2,hx01_3,hl01_0,hi01_0⟩ := at_T157 HR0.out x3_1 p01 q01;cases e01;replace hx01_0 := (HB.out.cell (wB w _ hx01_0)).trans hx01_0;replace hx01_1 := (HB.out.cell (wB w _ hx01_1)).trans hx01_1;replace hx01_2 := (HB.out.cell (wB w _ hx01_2)).trans hx01_2;replace hx01_3 := (HB.out.cell (wB w _ hx01_3)).trans hx01_3;have HR01_0 := aM hi01_0;have HC01_0 := aM hl01_0;clear hi01_0 hl01_0;replace p01 := eq_true p01;replace q01 := eq_true q01));go_wp2_with (first|((with_reducible refine gate_callee (f := 163) rfl ?_);refine gl_ (some 18) Tryz.func163 #[.agg #[.slice A01_0 ((rd_T157 l0 x3_1).f0).length c01_0,.string ((rd_T157 l0 x3_1).f1),.string ((rd_T157 l0 x3_1).f2),.string ((rd_T157 l0 x3_1).f3)]] ?_;(with_reducible refine (spec_l2Good.calls _ _ _ _ _ _ _ _ _ ?side1 ?side2 A7.out).mono ?_);(case side1 => exact wX_ HR01_0.out);(case side2 => exact HC01_0.out);rintro e WA7 ⟨rfl,hb⟩;refine ⟨_,rfl,?_⟩;replace HB := aM (lT wB_ hb)))
      first
       |
        go_ret;exact ⟨vR_,wB_⟩
       |
        go_roundg kj1
        case measure => have := HK1.out;have := HJ1.out;omega
        case rel => exact ⟨(wrap64 (x3_1 + 1)),vR_,H',⟨by have := HK1.out;have := HJ1.out;omega⟩,⟨wB_⟩⟩
end Go.Proofs.YtmafmhgmdegplaaGreatDoor.P
