/- Written by a program in this session: each theorem here says that a Go function computes the Lean function beside it, or that a law's row holds, under the conditions that the theorem itself states. -/
import Derived.Test.YtmafmhgmdegplaaGreatDoorZPx0
import Derived.Test.YtmafmhgmdegplaaGreatDoorZPx2
namespace Go.Proofs.YtmafmhgmdegplaaGreatDoor.P
open Go.RowKit Go.Proofs.YtmafmhgmdegplaaGreatDoorW.PrintWords Go.Proofs.YtmafmhgmdegplaaGreatDoorW.PrintLast Go.Proofs.YtmafmhgmdegplaaGreatDoorW.PrintMore
attribute [local go_sem] max2_int min2_int max_two min_two max_three min_three max_four min_four   -- for this text's walks alone
set_option linter.unusedVariables false
set_option linter.unusedSimpArgs false
def spec_l22Sign.f (a0 : Int) : Option (Bool) := if a0 ≥ 97 then (if a0 ≤ 122 then (some true) else ((spec_l6Digit.f a0).bind fun t113 => (some t113))) else ((spec_l6Digit.f a0).bind fun t114 => (some t114))
set_option maxHeartbeats 8000000 in
set_option maxRecDepth 100000 in
theorem spec_l22Sign.calls (a0 : Int) (r : Bool) (w : World) (h : spec_l22Sign.f a0 = some r) :
  Calls Tryz.prog 139 #[.int .u8 a0] w fun e w' => e = .returned (.bool r) ∧ Drawn0 w w' := by
 have H : (if a0 ≥ 97 then (if a0 ≤ 122 then (some true) else ((spec_l6Digit.f a0).bind fun t113 => (some t113))) else ((spec_l6Digit.f a0).bind fun t114 => (some t114))) = some r := h;clear h
 by_cases c2 : a0 ≥ 97
 focus
  rw [if_pos c2] at H;have c2b0 : decide (97 ≤ a0) = true := dT c2;clear c2
  by_cases c3 : a0 ≤ 122
  focus
   rw [if_pos c3] at H;have c3b0 : decide (a0 ≤ 122) = true := dT c3;clear c3;obtain rfl := Option.some.inj H;simp only [eS,eP] at H;obtain ⟨rfl⟩ := H
  rotate_left
  focus
   rw [if_neg c3] at H;have c3b0 : decide (a0 ≤ 122) = false := dF c3;clear c3;obtain ⟨t113,A4,H⟩ := bE_ H;obtain rfl := Option.some.inj H;simp only [eS,eP] at H;obtain ⟨rfl⟩ := H
 rotate_left 2
 focus
  rw [if_neg c2] at H;have c2b0 : decide (97 ≤ a0) = false := dF c2;clear c2;obtain ⟨t114,A5,H⟩ := bE_ H;obtain rfl := Option.some.inj H;simp only [eS,eP] at H;obtain ⟨rfl⟩ := H
 all_goals
  go_enter Tryz.func139,Tryz.ntmps139;go_wp2_with (first|(go_at_call 176;(with_reducible refine (spec_l6Digit.calls _ _ _ A5.out).mono ?_);rintro e w' ⟨rfl,⟨nd,rfl⟩⟩)|(go_at_call 176;(with_reducible refine (spec_l6Digit.calls _ _ _ A4.out).mono ?_);rintro e w' ⟨rfl,⟨nd,rfl⟩⟩));go_ret;exact ⟨vR_,dw_⟩
def spec_l22Word.l0 : Nat → ByteArray → Int → Option (Bool)
 | 0,_,_ => none
 | k + 1,x0,x3 => if x3 < (x0.size : Int) then (if 0 ≤ x3 then ((spec_l22Sign.f (bt x0 x3)).bind fun t115 => (if t115 = true then (spec_l22Word.l0 k x0 (wrap64 (x3 + 1))) else (some false))) else (none)) else ((spec_l1In.f (x0.size : Int) 1 15).bind fun t116 => (if t116 = true then (if x0.toList = ([110,111,116] : List UInt8) then (some false) else (if x0.toList = ([97,110,100] : List UInt8) then (some false) else (some (x0.toList != ([111,114] : List UInt8))))) else (some false)))
def spec_l22Word.f (k : Nat) (a0 : ByteArray) : Option (Bool) := spec_l22Word.l0 k a0 0
theorem spec_l22Word.mono_l : ∀ k,(∀ y0 y1,LeO (spec_l22Word.l0 k y0 y1) (spec_l22Word.l0 (k + 1) y0 y1))
 | 0 => fun _ _ r h => by simp [spec_l22Word.l0] at h
 | k + 1 => by
  have ih0 := spec_l22Word.mono_l k
  ·intro y0 y1
   unfold spec_l22Word.l0
   repeat' (first|with_reducible (first|exact ih0 _ _|exact LeO.refl _|exact LeO.none _|refine LeO.ite ?_ ?_|refine LeO.bind ?_ (fun _ => ?_))|exact LeO.none _|refine LeO.ite ?_ ?_|refine LeO.bind ?_ (fun _ => ?_))
theorem spec_l22Word.mono : ∀ a0 k,LeO (spec_l22Word.f k a0) (spec_l22Word.f (k + 1) a0) := by
 intro a0 k
 have ih0 := spec_l22Word.mono_l k
 unfold spec_l22Word.f
 repeat' (first|with_reducible (first|exact ih0 _ _|exact LeO.refl _|exact LeO.none _|refine LeO.ite ?_ ?_|refine LeO.bind ?_ (fun _ => ?_))|exact LeO.none _|refine LeO.ite ?_ ?_|refine LeO.bind ?_ (fun _ => ?_))
set_option maxHeartbeats 8000000 in
set_option maxRecDepth 100000 in
theorem spec_l22Word.calls (k : Nat) (a0 : ByteArray) (r : Bool) (w : World) (h : spec_l22Word.f k a0 = some r) :
  Calls Tryz.prog 98 #[.string a0] w fun e w' => e = .returned (.bool r) ∧ Drawn0 w w' := by
 have H : (spec_l22Word.l0 k a0 0) = some r := h;clear h;have H' := aM H;clear H;go_enter Tryz.func98,Tryz.ntmps98;go_wp2;go_loopg [3] k (fun kq v3 w' => ∃ (x3_1 : Int),v3 = .int .i64 x3_1 ∧ Aside0 (spec_l22Word.l0 kq a0 x3_1 = some r) ∧ Aside0 (kq ≤ k) ∧ Drawn0 w w')
 case atStart => exact ⟨(0),vR_,H',⟨Nat.le_refl _⟩,dw_⟩
 case round =>
  clear H';obtain ⟨x3_1,rfl,HA,HK1,⟨m1,rfl⟩⟩ := hrel
  cases gk with
  | zero => exact absurd HA.out (by simp [spec_l22Word.l0])
  | succ k1 =>
   have H := HA.out;clear HA;simp only [spec_l22Word.l0] at H
   by_cases c2 : x3_1 < (a0.size : Int)
   focus
    rw [if_pos c2] at H;have c2b0 : decide (x3_1 < (a0.size : Int)) = true := dT c2;clear c2
    by_cases c3 : 0 ≤ x3_1
    rotate_left;rw [if_neg c3] at H;exact absurd H (by simp);rw [if_pos c3] at H;have c3b0 : decide (0 ≤ x3_1) = true := dT c3;clear c3;obtain ⟨t115,A5,H⟩ := bE_ H
    by_cases c6 : t115 = true
    focus
     subst c6;rw [if_pos rfl] at H;have H' := aM H;clear H
    rotate_left
    focus
     replace c6 := Bool.eq_false_iff.mpr c6;subst c6;rw [if_neg Bool.false_ne_true] at H;obtain rfl := Option.some.inj H;simp only [eS,eP] at H;obtain ⟨rfl⟩ := H
   rotate_left 2
   focus
    rw [if_neg c2] at H;have c2b0 : decide (x3_1 < (a0.size : Int)) = false := dF c2;clear c2;obtain ⟨t116,A7,H⟩ := bE_ H
    by_cases c8 : t116 = true
    focus
     subst c8;rw [if_pos rfl] at H
     by_cases c9 : a0.toList = ([110,111,116] : List UInt8)
     focus
      rw [if_pos c9] at H;have c9b0 : (a0.toList == ([110,111,116] : List UInt8)) = true := beq_iff_eq.mpr c9;have c9b1 : (a0.toList != ([110,111,116] : List UInt8)) = false := bne_eq_false_iff_eq.mpr c9;clear c9;obtain rfl := Option.some.inj H;simp only [eS,eP] at H;obtain ⟨rfl⟩ := H
     rotate_left
     focus
      rw [if_neg c9] at H;have c9b0 : (a0.toList == ([110,111,116] : List UInt8)) = false := beq_eq_false_iff_ne.mpr c9;have c9b1 : (a0.toList != ([110,111,116] : List UInt8)) = true := bne_iff_ne.mpr c9
      by_cases c10 : a0.toList = ([97,110,100] : List UInt8)
      focus
       rw [if_pos c10] at H;have c10b0 : (a0.toList == ([97,110,100] : List UInt8)) = true := beq_iff_eq.mpr c10;have c10b1 : (a0.toList != ([97,110,100] : List UInt8)) = false := bne_eq_false_iff_eq.mpr c10;clear c10;obtain rfl := Option.some.inj H;simp only [eS,eP] at H;obtain ⟨rfl⟩ := H
      rotate_left
      focus
       rw [if_neg c10] at H;have c10b0 : (a0.toList == ([97,110,100] : List UInt8)) = false := beq_eq_false_iff_ne.mpr c10;have c10b1 : (a0.toList != ([97,110,100] : List UInt8)) = true := bne_iff_ne.mpr c10;obtain rfl := Option.some.inj H;simp only [eS,eP] at H;obtain ⟨rfl⟩ := H
    rotate_left 3
    focus
     replace c8 := Bool.eq_false_iff.mpr c8;subst c8;rw [if_neg Bool.false_ne_true] at H;obtain rfl := Option.some.inj H;simp only [eS,eP] at H;obtain ⟨rfl⟩ := H
   all_goals
    (try (have p01 : 0 ≤ (x3_1 : Int) := oD (by assumption);have q01 : x3_1 < (a0.size : Int) := oD (by assumption);have hx01 := bt_at a0 x3_1;replace p01 := eq_true p01;replace q01 := eq_true q01));go_wp2_with (first|((with_reducible refine gate_callee (f := 121) rfl ?_);refine gl_ (some 17) Tryz.func121 #[.int .i64 (a0.size : Int),.int .i64 1,.int .i64 15] ?_;(with_reducible refine (spec_l1In.calls _ _ _ _ _ A7.out).mono ?_);rintro e w' ⟨rfl,⟨nd,rfl⟩⟩;refine ⟨_,rfl,?_⟩)|((with_reducible refine gate_callee (f := 139) rfl ?_);refine gl_ (some 13) Tryz.func139 #[.int .u8 (bt a0 x3_1)] ?_;(with_reducible refine (spec_l22Sign.calls _ _ _ A5.out).mono ?_);rintro e w' ⟨rfl,⟨nd,rfl⟩⟩;refine ⟨_,rfl,?_⟩))
    first
     |
      go_ret;exact ⟨vR_,dw_⟩
     |
      go_roundg k1
      case measure => have := HK1.out;omega
      case rel => exact ⟨(wrap64 (x3_1 + 1)),vR_,H',⟨by have := HK1.out;omega⟩,dw_⟩
def spec_l4Fields.f  : Option (List ByteArray) := some (([(⟨#[97,117,116,104,111,114,115]⟩ : ByteArray),(⟨#[101,100,105,116,111,114,115]⟩ : ByteArray),(⟨#[116,105,116,108,101]⟩ : ByteArray),(⟨#[99,111,110,116,97,105,110,101,114]⟩ : ByteArray),(⟨#[112,117,98,108,105,115,104,101,114]⟩ : ByteArray),(⟨#[100,97,116,101]⟩ : ByteArray),(⟨#[118,111,108,117,109,101]⟩ : ByteArray),(⟨#[112,97,103,101,115]⟩ : ByteArray)] : List ByteArray))
set_option maxHeartbeats 8000000 in
set_option maxRecDepth 100000 in
theorem spec_l4Fields.calls  (r : List ByteArray) (w : World) (h : spec_l4Fields.f  = some r) :
  Calls Tryz.prog 146 #[] w fun e w' => ∃ v0_ : Value,e = .returned (v0_) ∧ Kd.R Kd.string 9 w' w.heap.size (fun _ => True) v0_ r ∧ Below w.heap.size w w' := by
 have HB := aM (Below.refl w.heap.size w);have H : (some (([(⟨#[97,117,116,104,111,114,115]⟩ : ByteArray),(⟨#[101,100,105,116,111,114,115]⟩ : ByteArray),(⟨#[116,105,116,108,101]⟩ : ByteArray),(⟨#[99,111,110,116,97,105,110,101,114]⟩ : ByteArray),(⟨#[112,117,98,108,105,115,104,101,114]⟩ : ByteArray),(⟨#[100,97,116,101]⟩ : ByteArray),(⟨#[118,111,108,117,109,101]⟩ : ByteArray),(⟨#[112,97,103,101,115]⟩ : ByteArray)] : List ByteArray))) = some r := h;clear h;obtain ⟨y117,hy117⟩ : ∃ y_ : List ByteArray,y_ = (([(⟨#[97,117,116,104,111,114,115]⟩ : ByteArray),(⟨#[101,100,105,116,111,114,115]⟩ : ByteArray),(⟨#[116,105,116,108,101]⟩ : ByteArray),(⟨#[99,111,110,116,97,105,110,101,114]⟩ : ByteArray),(⟨#[112,117,98,108,105,115,104,101,114]⟩ : ByteArray),(⟨#[100,97,116,101]⟩ : ByteArray),(⟨#[118,111,108,117,109,101]⟩ : ByteArray),(⟨#[112,97,103,101,115]⟩ : ByteArray)] : List ByteArray)) := ⟨_,rfl⟩;replace H : (some y117) = some r := (by first|(rw [hy117];with_reducible exact H)|(have H2_ := (Option.bind_some _ _).symm.trans H;rw [hy117];with_reducible exact H2_)|(have H2_ := (Option.bind_some _ _).symm.trans H;with_reducible exact H2_)|with_reducible exact H|(rw [hy117];exact H)|exact H);have Ny117 := aM hy117;clear hy117;obtain rfl := Option.some.inj H;simp only [eS,eP] at H;obtain ⟨rfl⟩ := H;go_enter Tryz.func146,Tryz.ntmps146;go_wp2_with (first|((with_reducible refine gate_dst (N := 1) rfl ?_);refine Kd.R_lit Kd.string _ 9 ?hg (N := 1) ?hd (xs := ([(⟨#[97,117,116,104,111,114,115]⟩ : ByteArray),(⟨#[101,100,105,116,111,114,115]⟩ : ByteArray),(⟨#[116,105,116,108,101]⟩ : ByteArray),(⟨#[99,111,110,116,97,105,110,101,114]⟩ : ByteArray),(⟨#[112,117,98,108,105,115,104,101,114]⟩ : ByteArray),(⟨#[100,97,116,101]⟩ : ByteArray),(⟨#[118,111,108,117,109,101]⟩ : ByteArray),(⟨#[112,97,103,101,115]⟩ : ByteArray)] : List ByteArray)) (inner := [.string (⟨#[97,117,116,104,111,114,115]⟩ : ByteArray),.string (⟨#[101,100,105,116,111,114,115]⟩ : ByteArray),.string (⟨#[116,105,116,108,101]⟩ : ByteArray),.string (⟨#[99,111,110,116,97,105,110,101,114]⟩ : ByteArray),.string (⟨#[112,117,98,108,105,115,104,101,114]⟩ : ByteArray),.string (⟨#[100,97,116,101]⟩ : ByteArray),.string (⟨#[118,111,108,117,109,101]⟩ : ByteArray),.string (⟨#[112,97,103,101,115]⟩ : ByteArray)]) (ok := fun _ => True) (okp := fun _ => True) ?hr ?hp (fun _ hk => hk) trivial (Below.refl _ _) (Nat.le_refl _) (by simp) ?_;(case hd => rfl);(case hg => rfl);(case hr => first|(go_simp;done)|(go_simp;rfl));(case hp => exact (Reps.one (show Kd.M Kd.string _ _ _ (⟨#[97,117,116,104,111,114,115]⟩ : ByteArray) [.string (⟨#[97,117,116,104,111,114,115]⟩ : ByteArray)] from rfl) (Reps.one (show Kd.M Kd.string _ _ _ (⟨#[101,100,105,116,111,114,115]⟩ : ByteArray) [.string (⟨#[101,100,105,116,111,114,115]⟩ : ByteArray)] from rfl) (Reps.one (show Kd.M Kd.string _ _ _ (⟨#[116,105,116,108,101]⟩ : ByteArray) [.string (⟨#[116,105,116,108,101]⟩ : ByteArray)] from rfl) (Reps.one (show Kd.M Kd.string _ _ _ (⟨#[99,111,110,116,97,105,110,101,114]⟩ : ByteArray) [.string (⟨#[99,111,110,116,97,105,110,101,114]⟩ : ByteArray)] from rfl) (Reps.one (show Kd.M Kd.string _ _ _ (⟨#[112,117,98,108,105,115,104,101,114]⟩ : ByteArray) [.string (⟨#[112,117,98,108,105,115,104,101,114]⟩ : ByteArray)] from rfl) (Reps.one (show Kd.M Kd.string _ _ _ (⟨#[100,97,116,101]⟩ : ByteArray) [.string (⟨#[100,97,116,101]⟩ : ByteArray)] from rfl) (Reps.one (show Kd.M Kd.string _ _ _ (⟨#[118,111,108,117,109,101]⟩ : ByteArray) [.string (⟨#[118,111,108,117,109,101]⟩ : ByteArray)] from rfl) (Reps.one (show Kd.M Kd.string _ _ _ (⟨#[112,97,103,101,115]⟩ : ByteArray) [.string (⟨#[112,97,103,101,115]⟩ : ByteArray)] from rfl) (Reps.none _ _))))))))));intro v118 w1 ho2 hb hg_ hnew_;clear hg_ hnew_;(first|rw [← Ny117.out] at ho2|(simp only [Int.reduceToNat] at ho2;rw [← Ny117.out] at ho2));have HO119 := aM (Kd.R_lower ho2 (lZ wB_));replace HB := aM (lT wB_ hb);clear hb ho2));go_ret;exact ⟨_,vR_,wO_ HO119.out,wB_⟩
def spec_l22Field.l0 : Nat → ByteArray → List ByteArray → Int → Option (Bool)
 | 0,_,_,_ => none
 | k + 1,x0,x3,x4 => if x4 < (x3.length : Int) then (if 0 ≤ x4 then (if (rdOf ByteArray.empty x3 x4).toList = x0.toList then (some true) else (spec_l22Field.l0 k x0 x3 (wrap64 (x4 + 1)))) else (none)) else (some (x0.toList == ([] : List UInt8)))
def spec_l22Field.f (k : Nat) (a0 : ByteArray) : Option (Bool) := (spec_l4Fields.f).bind fun t120 => (spec_l22Field.l0 k a0 t120 0)
theorem spec_l22Field.mono_l : ∀ k,(∀ y0 y1 y2,LeO (spec_l22Field.l0 k y0 y1 y2) (spec_l22Field.l0 (k + 1) y0 y1 y2))
 | 0 => fun _ _ _ r h => by simp [spec_l22Field.l0] at h
 | k + 1 => by
  have ih0 := spec_l22Field.mono_l k
  ·intro y0 y1 y2
   unfold spec_l22Field.l0
   repeat' (first|with_reducible (first|exact ih0 _ _ _|exact LeO.refl _|exact LeO.none _|refine LeO.ite ?_ ?_|refine LeO.bind ?_ (fun _ => ?_))|exact LeO.none _|refine LeO.ite ?_ ?_|refine LeO.bind ?_ (fun _ => ?_))
theorem spec_l22Field.mono : ∀ a0 k,LeO (spec_l22Field.f k a0) (spec_l22Field.f (k + 1) a0) := by
 intro a0 k
 have ih0 := spec_l22Field.mono_l k
 unfold spec_l22Field.f
 repeat' (first|with_reducible (first|exact ih0 _ _ _|exact LeO.refl _|exact LeO.none _|refine LeO.ite ?_ ?_|refine LeO.bind ?_ (fun _ => ?_))|exact LeO.none _|refine LeO.ite ?_ ?_|refine LeO.bind ?_ (fun _ => ?_))
set_option maxHeartbeats 8000000 in
set_option maxRecDepth 100000 in
theorem spec_l22Field.calls (k : Nat) (a0 : ByteArray) (r : Bool) (w : World) (h : spec_l22Field.f k a0 = some r) :
  Calls Tryz.prog 209 #[.string a0] w fun e w' => e = .returned (.bool r) ∧ Below w.heap.size w w' := by
 have HB := aM (Below.refl w.heap.size w);have H : ((spec_l4Fields.f).bind fun t120 => (spec_l22Field.l0 k a0 t120 0)) = some r := h;clear h;obtain ⟨t120,A2,H⟩ := bE_ H;have H' := aM H;clear H;go_enter Tryz.func209,Tryz.ntmps209;go_wp2_with (first|((with_reducible refine gate_callee (f := 146) rfl ?_);refine gl_ (some 5) Tryz.func146 #[] ?_;(with_reducible refine (spec_l4Fields.calls  t120 _ A2.out).mono ?_);rintro e w3 ⟨v121,rfl,ho0,hb⟩;refine ⟨_,rfl,?_⟩;have HO122 := aM (Kd.R_lower ho0 (lZ wB_));replace HB := aM (lT wB_ hb)));go_loopg [4] k (fun kq v4 w' => ∃ (x4_1 : Int),v4 = .int .i64 x4_1 ∧ Aside0 (spec_l22Field.l0 kq a0 t120 x4_1 = some r) ∧ Aside0 (kq ≤ k) ∧ Aside0 (Kd.R Kd.string 9 w' w.heap.size (fun _ => True) v121 t120) ∧ Aside0 (Below w.heap.size w w'))
 case atStart => exact ⟨(0),vR_,H',⟨Nat.le_refl _⟩,⟨wO_ HO122.out⟩,⟨wB_⟩⟩
 case round =>
  clear H';obtain ⟨x4_1,rfl,HA,HK1,HO_3,HB⟩ := hrel
  cases gk with
  | zero => exact absurd HA.out (by simp [spec_l22Field.l0])
  | succ k1 =>
   have H := HA.out;clear HA;simp only [spec_l22Field.l0] at H
   by_cases c4 : x4_1 < (t120.length : Int)
   focus
    rw [if_pos c4] at H;have c4b0 : decide (x4_1 < (t120.length : Int)) = true := dT c4;clear c4
    by_cases c5 : 0 ≤ x4_1
    rotate_left;rw [if_neg c5] at H;exact absurd H (by simp);rw [if_pos c5] at H;have c5b0 : decide (0 ≤ x4_1) = true := dT c5;clear c5
    by_cases c6 : (rdOf ByteArray.empty t120 x4_1).toList = a0.toList
    focus
     rw [if_pos c6] at H;have c6b0 : ((rdOf ByteArray.empty t120 x4_1).toList == a0.toList) = true := beq_iff_eq.mpr c6;have c6b1 : ((rdOf ByteArray.empty t120 x4_1).toList != a0.toList) = false := bne_eq_false_iff_eq.mpr c6;clear c6;obtain rfl := Option.some.inj H;simp only [eS,eP] at H;obtain ⟨rfl⟩ := H;obtain ⟨Ao01,co01,eo01⟩ := Kd.R_slice HO_3.out;subst eo01
    rotate_left
    focus
     rw [if_neg c6] at H;have c6b0 : ((rdOf ByteArray.empty t120 x4_1).toList == a0.toList) = false := beq_eq_false_iff_ne.mpr c6;have c6b1 : ((rdOf ByteArray.empty t120 x4_1).toList != a0.toList) = true := bne_iff_ne.mpr c6;have H' := aM H;clear H;obtain ⟨Ao01,co01,eo01⟩ := Kd.R_slice HO_3.out;subst eo01
   rotate_left 2
   focus
    rw [if_neg c4] at H;have c4b0 : decide (x4_1 < (t120.length : Int)) = false := dF c4;clear c4;obtain rfl := Option.some.inj H;simp only [eS,eP] at H;obtain ⟨rfl⟩ := H;obtain ⟨Ao01,co01,eo01⟩ := Kd.R_slice HO_3.out;subst eo01
   all_goals
    (try (have p01 : 0 ≤ (x4_1 : Int) := oD (by assumption);have q01 : x4_1 < (t120.length : Int) := oD (by assumption);obtain ⟨ad01,e01,hx01_0⟩ := Kd.at_string (rR HO_3.out).2.2 x4_1 p01 q01;cases e01;replace p01 := eq_true p01;replace q01 := eq_true q01));go_wp2
    first
     |
      go_ret;exact ⟨vR_,wB_⟩
     |
      go_roundg k1
      case measure => have := HK1.out;omega
      case rel => exact ⟨(wrap64 (x4_1 + 1)),vR_,H',⟨by have := HK1.out;omega⟩,⟨wO_ HO_3.out⟩,⟨wB_⟩⟩
def spec_l22Form.f (k : Nat) (a0_0 : Int) (a0_1 : ByteArray) (a0_2 : ByteArray) (l0_3 : List (S36)) : Option (Bool) := if a0_0 = 1 then ((spec_l22Word.f k a0_2).bind fun t125 => (if t125 = true then ((spec_l22Field.f k a0_1).bind fun t126 => (if t126 = true then (some ((l0_3.length : Int) == 0)) else (some false))) else (some false))) else (if a0_0 = 2 then (if a0_2.toList = ([] : List UInt8) then (if a0_1.toList = ([] : List UInt8) then (some ((l0_3.length : Int) == 1)) else (some false)) else (some false)) else (if a0_0 = 3 then (if a0_2.toList = ([] : List UInt8) then (if a0_1.toList = ([] : List UInt8) then (some ((l0_3.length : Int) == 2)) else (some false)) else (some false)) else (if a0_0 = 4 then (if a0_2.toList = ([] : List UInt8) then (if a0_1.toList = ([] : List UInt8) then (some ((l0_3.length : Int) == 2)) else (some false)) else (some false)) else (some false))))
theorem spec_l22Form.mono : ∀ a0 a1 a2 a3 k,LeO (spec_l22Form.f k a0 a1 a2 a3) (spec_l22Form.f (k + 1) a0 a1 a2 a3) := by
 intro a0 a1 a2 a3 k
 unfold spec_l22Form.f
 repeat' (first|with_reducible (first|exact spec_l22Field.mono _ _|exact spec_l22Word.mono _ _|exact LeO.refl _|exact LeO.none _|refine LeO.ite ?_ ?_|refine LeO.bind ?_ (fun _ => ?_))|exact LeO.none _|refine LeO.ite ?_ ?_|refine LeO.bind ?_ (fun _ => ?_))
set_option maxHeartbeats 8000000 in
set_option maxRecDepth 100000 in
theorem spec_l22Form.calls (k : Nat) (a0_0 : Int) (a0_1 : ByteArray) (a0_2 : ByteArray) (A0_3 : Option Addr) (c0_3 : Nat) (l0_3 : List (S36)) (r : Bool) (w : World) (hr0_3 : Kd.C k36 w A0_3 l0_3.length l0_3) (hc0_3 : l0_3.length ≤ c0_3) (h : spec_l22Form.f k a0_0 a0_1 a0_2 l0_3 = some r) :
  Calls Tryz.prog 161 #[.agg #[.int .i64 a0_0,.string a0_1,.string a0_2,.slice A0_3 l0_3.length c0_3]] w fun e w' => e = .returned (.bool r) ∧ Below w.heap.size w w' := by
 have hu36 := Tryz.underlying36;have HR0_3 := aM hr0_3;have HC0_3 := aM hc0_3;clear hr0_3 hc0_3;have HB := aM (Below.refl w.heap.size w);have H : (if a0_0 = 1 then ((spec_l22Word.f k a0_2).bind fun t125 => (if t125 = true then ((spec_l22Field.f k a0_1).bind fun t126 => (if t126 = true then (some ((l0_3.length : Int) == 0)) else (some false))) else (some false))) else (if a0_0 = 2 then (if a0_2.toList = ([] : List UInt8) then (if a0_1.toList = ([] : List UInt8) then (some ((l0_3.length : Int) == 1)) else (some false)) else (some false)) else (if a0_0 = 3 then (if a0_2.toList = ([] : List UInt8) then (if a0_1.toList = ([] : List UInt8) then (some ((l0_3.length : Int) == 2)) else (some false)) else (some false)) else (if a0_0 = 4 then (if a0_2.toList = ([] : List UInt8) then (if a0_1.toList = ([] : List UInt8) then (some ((l0_3.length : Int) == 2)) else (some false)) else (some false)) else (some false))))) = some r := h;clear h
 by_cases c2 : a0_0 = 1
 focus
  rw [if_pos c2] at H;have c2b0 : (a0_0 == 1) = true := beq_iff_eq.mpr c2;have c2b1 : (a0_0 != 1) = false := bne_eq_false_iff_eq.mpr c2;clear c2;obtain ⟨t125,A3,H⟩ := bE_ H
  by_cases c4 : t125 = true
  focus
   subst c4;rw [if_pos rfl] at H;obtain ⟨t126,A5,H⟩ := bE_ H
   by_cases c6 : t126 = true
   focus
    subst c6;rw [if_pos rfl] at H;obtain rfl := Option.some.inj H;simp only [eS,eP] at H;obtain ⟨rfl⟩ := H
   rotate_left
   focus
    replace c6 := Bool.eq_false_iff.mpr c6;subst c6;rw [if_neg Bool.false_ne_true] at H;obtain rfl := Option.some.inj H;simp only [eS,eP] at H;obtain ⟨rfl⟩ := H
  rotate_left 2
  focus
   replace c4 := Bool.eq_false_iff.mpr c4;subst c4;rw [if_neg Bool.false_ne_true] at H;obtain rfl := Option.some.inj H;simp only [eS,eP] at H;obtain ⟨rfl⟩ := H
 rotate_left 3
 focus
  rw [if_neg c2] at H;have c2b0 : (a0_0 == 1) = false := beq_eq_false_iff_ne.mpr c2;have c2b1 : (a0_0 != 1) = true := bne_iff_ne.mpr c2
  by_cases c16 : a0_0 = 2
  focus
   rw [if_pos c16] at H;have c16b0 : (a0_0 == 2) = true := beq_iff_eq.mpr c16;have c16b1 : (a0_0 != 2) = false := bne_eq_false_iff_eq.mpr c16;clear c16
   by_cases c17 : a0_2.toList = ([] : List UInt8)
   focus
    rw [if_pos c17] at H;have c17b0 : (a0_2.toList == ([] : List UInt8)) = true := beq_iff_eq.mpr c17;have c17b1 : (a0_2.toList != ([] : List UInt8)) = false := bne_eq_false_iff_eq.mpr c17;clear c17
    by_cases c18 : a0_1.toList = ([] : List UInt8)
    focus
     rw [if_pos c18] at H;have c18b0 : (a0_1.toList == ([] : List UInt8)) = true := beq_iff_eq.mpr c18;have c18b1 : (a0_1.toList != ([] : List UInt8)) = false := bne_eq_false_iff_eq.mpr c18;clear c18;obtain rfl := Option.some.inj H;simp only [eS,eP] at H;obtain ⟨rfl⟩ := H
    rotate_left
    focus
     rw [if_neg c18] at H;have c18b0 : (a0_1.toList == ([] : List UInt8)) = false := beq_eq_false_iff_ne.mpr c18;have c18b1 : (a0_1.toList != ([] : List UInt8)) = true := bne_iff_ne.mpr c18;obtain rfl := Option.some.inj H;simp only [eS,eP] at H;obtain ⟨rfl⟩ := H
   rotate_left 2
   focus
    rw [if_neg c17] at H;have c17b0 : (a0_2.toList == ([] : List UInt8)) = false := beq_eq_false_iff_ne.mpr c17;have c17b1 : (a0_2.toList != ([] : List UInt8)) = true := bne_iff_ne.mpr c17;obtain rfl := Option.some.inj H;simp only [eS,eP] at H;obtain ⟨rfl⟩ := H
  rotate_left 3
  focus
   rw [if_neg c16] at H;have c16b0 : (a0_0 == 2) = false := beq_eq_false_iff_ne.mpr c16;have c16b1 : (a0_0 != 2) = true := bne_iff_ne.mpr c16
   by_cases c25 : a0_0 = 3
   focus
    rw [if_pos c25] at H;have c25b0 : (a0_0 == 3) = true := beq_iff_eq.mpr c25;have c25b1 : (a0_0 != 3) = false := bne_eq_false_iff_eq.mpr c25;clear c25
    by_cases c26 : a0_2.toList = ([] : List UInt8)
    focus
     rw [if_pos c26] at H;have c26b0 : (a0_2.toList == ([] : List UInt8)) = true := beq_iff_eq.mpr c26;have c26b1 : (a0_2.toList != ([] : List UInt8)) = false := bne_eq_false_iff_eq.mpr c26;clear c26
     by_cases c27 : a0_1.toList = ([] : List UInt8)
     focus
      rw [if_pos c27] at H;have c27b0 : (a0_1.toList == ([] : List UInt8)) = true := beq_iff_eq.mpr c27;have c27b1 : (a0_1.toList != ([] : List UInt8)) = false := bne_eq_false_iff_eq.mpr c27;clear c27;obtain rfl := Option.some.inj H;simp only [eS,eP] at H;obtain ⟨rfl⟩ := H
     rotate_left
     focus
      rw [if_neg c27] at H;have c27b0 : (a0_1.toList == ([] : List UInt8)) = false := beq_eq_false_iff_ne.mpr c27;have c27b1 : (a0_1.toList != ([] : List UInt8)) = true := bne_iff_ne.mpr c27;obtain rfl := Option.some.inj H;simp only [eS,eP] at H;obtain ⟨rfl⟩ := H
    rotate_left 2
    focus
     rw [if_neg c26] at H;have c26b0 : (a0_2.toList == ([] : List UInt8)) = false := beq_eq_false_iff_ne.mpr c26;have c26b1 : (a0_2.toList != ([] : List UInt8)) = true := bne_iff_ne.mpr c26;obtain rfl := Option.some.inj H;simp only [eS,eP] at H;obtain ⟨rfl⟩ := H
   rotate_left 3
   focus
    rw [if_neg c25] at H;have c25b0 : (a0_0 == 3) = false := beq_eq_false_iff_ne.mpr c25;have c25b1 : (a0_0 != 3) = true := bne_iff_ne.mpr c25
    by_cases c34 : a0_0 = 4
    focus
     rw [if_pos c34] at H;have c34b0 : (a0_0 == 4) = true := beq_iff_eq.mpr c34;have c34b1 : (a0_0 != 4) = false := bne_eq_false_iff_eq.mpr c34;clear c34
     by_cases c35 : a0_2.toList = ([] : List UInt8)
     focus
      rw [if_pos c35] at H;have c35b0 : (a0_2.toList == ([] : List UInt8)) = true := beq_iff_eq.mpr c35;have c35b1 : (a0_2.toList != ([] : List UInt8)) = false := bne_eq_false_iff_eq.mpr c35;clear c35
      by_cases c36 : a0_1.toList = ([] : List UInt8)
      focus
       rw [if_pos c36] at H;have c36b0 : (a0_1.toList == ([] : List UInt8)) = true := beq_iff_eq.mpr c36;have c36b1 : (a0_1.toList != ([] : List UInt8)) = false := bne_eq_false_iff_eq.mpr c36;clear c36;obtain rfl := Option.some.inj H;simp only [eS,eP] at H;obtain ⟨rfl⟩ := H
      rotate_left
      focus
       rw [if_neg c36] at H;have c36b0 : (a0_1.toList == ([] : List UInt8)) = false := beq_eq_false_iff_ne.mpr c36;have c36b1 : (a0_1.toList != ([] : List UInt8)) = true := bne_iff_ne.mpr c36;obtain rfl := Option.some.inj H;simp only [eS,eP] at H;obtain ⟨rfl⟩ := H
     rotate_left 2
     focus
      rw [if_neg c35] at H;have c35b0 : (a0_2.toList == ([] : List UInt8)) = false := beq_eq_false_iff_ne.mpr c35;have c35b1 : (a0_2.toList != ([] : List UInt8)) = true := bne_iff_ne.mpr c35;obtain rfl := Option.some.inj H;simp only [eS,eP] at H;obtain ⟨rfl⟩ := H
    rotate_left 3
    focus
     rw [if_neg c34] at H;have c34b0 : (a0_0 == 4) = false := beq_eq_false_iff_ne.mpr c34;have c34b1 : (a0_0 != 4) = true := bne_iff_ne.mpr c34;obtain rfl := Option.some.inj H;simp only [eS,eP] at H;obtain ⟨rfl⟩ := H
 all_goals
  go_enter Tryz.func161,Tryz.ntmps161;go_wp2_with (first|((with_reducible refine gate_dst (N := 1) rfl ?_);(try (refine gate_guard (by rfl) ?_;dsimp only));refine bx_ (N := 1) (cs := #[.int .i64 a0_0,.string a0_1,.string a0_2,.slice A0_3 l0_3.length c0_3]) (t := 36) ?_;intro gb124 hg Wgb124 hbox hb;have BK124 := aM (hbox);have GW124 := aM ((by rw [hg];exact (lZ wB_) : w.heap.size ≤ gb124));have GE124 := GW124;replace HB := aM (lT wB_ hb);clear hb hbox hg;obtain ⟨hcz124x124_0,hcz124x124_1,hcz124x124_2,hcz124x124_3,hfz124x124_0,hfz124x124_1,hfz124x124_2,hfz124x124_3⟩ := z4_ BK124.out)|((with_reducible refine gate_callee (f := 98) rfl ?_);refine gl_ (some 9) Tryz.func98 #[.string a0_2] ?_;(with_reducible refine (spec_l22Word.calls _ _ _ _ A3.out).mono ?_);rintro e w' ⟨rfl,⟨nd,rfl⟩⟩;refine ⟨_,rfl,?_⟩)|(go_at_call 209;(with_reducible refine (spec_l22Field.calls _ _ _ _ A5.out).mono ?_);rintro e WA5 ⟨rfl,hb⟩;replace BK124 := aM (bw_ BK124.out hb);replace HB := aM (lT wB_ hb);obtain ⟨hcz5x124_0,hcz5x124_1,hcz5x124_2,hcz5x124_3,hfz5x124_0,hfz5x124_1,hfz5x124_2,hfz5x124_3⟩ := z4_ BK124.out));go_ret;exact ⟨vR_,wB_⟩
mutual
def spec_l22Forms.l0 : Nat → Int → Int → ByteArray → ByteArray → List (S36) → Option (Bool)
 | 0,_,_,_,_,_ => none
 | k + 1,x3,x128000,x128001,x128002,x128003 => if x3 < (x128003.length : Int) then (if 0 ≤ x3 then ((spec_l22Forms.f k ((rd_T36 x128003 x3).f0) ((rd_T36 x128003 x3).f1) ((rd_T36 x128003 x3).f2) ((rd_T36 x128003 x3).f3)).bind fun t130 => (if t130 = true then (spec_l22Forms.l0 k (wrap64 (x3 + 1)) x128000 x128001 x128002 x128003) else (some false))) else (none)) else (some true)
def spec_l22Forms.f : Nat → Int → ByteArray → ByteArray → List (S36) → Option (Bool)
 | 0,_,_,_,_ => none
 | k + 1,a0_0,a0_1,a0_2,l0_3 => (spec_l22Form.f k a0_0 a0_1 a0_2 l0_3).bind fun t128 => (if t128 = true then (spec_l22Forms.l0 k 0 a0_0 a0_1 a0_2 l0_3) else (some false))
end
theorem spec_l22Forms.mono_l : ∀ k,(∀ y0 y1 y2 y3,LeO (spec_l22Forms.f k y0 y1 y2 y3) (spec_l22Forms.f (k + 1) y0 y1 y2 y3)) ∧ (∀ y0 y1 y2 y3 y4,LeO (spec_l22Forms.l0 k y0 y1 y2 y3 y4) (spec_l22Forms.l0 (k + 1) y0 y1 y2 y3 y4))
 | 0 => ⟨fun _ _ _ _ r h => by simp [spec_l22Forms.f] at h,fun _ _ _ _ _ r h => by simp [spec_l22Forms.l0] at h⟩
 | k + 1 => by
  obtain ⟨ih0,ih1⟩ := spec_l22Forms.mono_l k
  refine ⟨?_,?_⟩
  all_goals (intros;first|unfold spec_l22Forms.f|unfold spec_l22Forms.l0)
  all_goals repeat' (first|with_reducible (first|exact ih0 _ _ _ _|exact ih1 _ _ _ _ _|exact spec_l22Form.mono _ _ _ _ _|exact LeO.refl _|exact LeO.none _|refine LeO.ite ?_ ?_|refine LeO.bind ?_ (fun _ => ?_))|exact LeO.none _|refine LeO.ite ?_ ?_|refine LeO.bind ?_ (fun _ => ?_))
theorem spec_l22Forms.mono : ∀ a0 a1 a2 a3 k,LeO (spec_l22Forms.f k a0 a1 a2 a3) (spec_l22Forms.f (k + 1) a0 a1 a2 a3) := by
 intro a0 a1 a2 a3 k;obtain ⟨ih0,ih1⟩ := spec_l22Forms.mono_l k;exact ih0 a0 a1 a2 a3
set_option maxHeartbeats 8000000 in
set_option maxRecDepth 100000 in
theorem spec_l22Forms.calls (k : Nat) : ∀ (a0_0 : Int) (a0_1 : ByteArray) (a0_2 : ByteArray) (A0_3 : Option Addr) (c0_3 : Nat) (l0_3 : List (S36)) (r : Bool) (w : World) (hr0_3 : Kd.C k36 w A0_3 l0_3.length l0_3) (hc0_3 : l0_3.length ≤ c0_3) (h : spec_l22Forms.f k a0_0 a0_1 a0_2 l0_3 = some r),
  Calls Tryz.prog 118 #[.agg #[.int .i64 a0_0,.string a0_1,.string a0_2,.slice A0_3 l0_3.length c0_3]] w fun e w' => e = .returned (.bool r) ∧ Below w.heap.size w w' := by
 induction k using Nat.strongRecOn with
 | _ k ih =>
 intro a0_0 a0_1 a0_2 A0_3 c0_3 l0_3 r w hr0_3 hc0_3 h
 cases k with
 | zero => exact absurd h (by simp [spec_l22Forms.f])
 | succ k =>
 simp only [spec_l22Forms.f] at h;have hu36 := Tryz.underlying36;have HR0_3 := aM hr0_3;have HC0_3 := aM hc0_3;clear hr0_3 hc0_3;have HB := aM (Below.refl w.heap.size w);have H : ((spec_l22Form.f k a0_0 a0_1 a0_2 l0_3).bind fun t128 => (if t128 = true then (spec_l22Forms.l0 k 0 a0_0 a0_1 a0_2 l0_3) else (some false))) = some r := h;clear h;obtain ⟨t128,A2,H⟩ := bE_ H
 by_cases c3 : t128 = true
 focus
  subst c3;rw [if_pos rfl] at H;have H' := aM H;clear H
 rotate_left
 focus
  replace c3 := Bool.eq_false_iff.mpr c3;subst c3;rw [if_neg Bool.false_ne_true] at H;obtain rfl := Option.some.inj H;simp only [eS,eP] at H;obtain ⟨rfl⟩ := H
 all_goals
  go_enter Tryz.func118,Tryz.ntmps118;go_wp2_with (first|((with_reducible refine gate_dst (N := 1) rfl ?_);refine bx_ (N := 1) (cs := #[.int .i64 a0_0,.string a0_1,.string a0_2,.slice A0_3 l0_3.length c0_3]) (t := 36) ?_;intro gb127 hg Wgb127 hbox hb;have BK127 := aM (hbox);have GW127 := aM ((by rw [hg];exact (lZ wB_) : w.heap.size ≤ gb127));have GE127 := GW127;replace HB := aM (lT wB_ hb);clear hb hbox hg;obtain ⟨hcz127x127_0,hcz127x127_1,hcz127x127_2,hcz127x127_3,hfz127x127_0,hfz127x127_1,hfz127x127_2,hfz127x127_3⟩ := z4_ BK127.out)|((with_reducible refine gate_callee (f := 161) rfl ?_);refine gl_ (some 5) Tryz.func161 #[.agg #[.int .i64 a0_0,.string a0_1,.string a0_2,.slice A0_3 l0_3.length c0_3]] ?_;(with_reducible refine (spec_l22Form.calls _ _ _ _ _ _ _ _ _ ?side1 ?side2 A2.out).mono ?_);(case side1 => exact wX_ HR0_3.out);(case side2 => exact HC0_3.out);rintro e WA2 ⟨rfl,hb⟩;refine ⟨_,rfl,?_⟩;replace BK127 := aM (bw_ BK127.out hb);replace HB := aM (lT wB_ hb)))
  first
   |
    go_ret;exact ⟨vR_,wB_⟩
   |
    go_loopg [3] k (fun kq v3 w' => ∃ (x3_1 : Int),v3 = .int .i64 x3_1 ∧ Aside0 (spec_l22Forms.l0 kq x3_1 a0_0 a0_1 a0_2 l0_3 = some r) ∧ Aside0 (kq ≤ k) ∧ Aside0 (w'.heap[gb127]? = some (.cells #[.int .i64 a0_0,.string a0_1,.string a0_2,(.slice A0_3 l0_3.length c0_3)] 36 (0,0))) ∧ Aside0 (Below w.heap.size w w'))
    case atStart => exact ⟨(0),vR_,H',⟨Nat.le_refl _⟩,⟨wC_ BK127.out⟩,⟨wB_⟩⟩
    case round =>
     clear H';obtain ⟨x3_1,rfl,HA,HK1,BK127,HB⟩ := hrel
     cases gk with
     | zero => exact absurd HA.out (by simp [spec_l22Forms.l0])
     | succ k1 =>
      have H := HA.out;clear HA;simp only [spec_l22Forms.l0] at H
      by_cases c7 : x3_1 < (l0_3.length : Int)
      focus
       rw [if_pos c7] at H;have c7b0 : decide (x3_1 < (l0_3.length : Int)) = true := dT c7;clear c7
       by_cases c8 : 0 ≤ x3_1
       rotate_left;rw [if_neg c8] at H;exact absurd H (by simp);rw [if_pos c8] at H;have c8b0 : decide (0 ≤ x3_1) = true := dT c8;clear c8;obtain ⟨t130,A9,H⟩ := bE_ H
       by_cases c10 : t130 = true
       focus
        subst c10;rw [if_pos rfl] at H;have H' := aM H;clear H
       rotate_left
       focus
        replace c10 := Bool.eq_false_iff.mpr c10;subst c10;rw [if_neg Bool.false_ne_true] at H;obtain rfl := Option.some.inj H;simp only [eS,eP] at H;obtain ⟨rfl⟩ := H
      rotate_left 2
      focus
       rw [if_neg c7] at H;have c7b0 : decide (x3_1 < (l0_3.length : Int)) = false := dF c7;clear c7;obtain rfl := Option.some.inj H;simp only [eS,eP] at H;obtain ⟨rfl⟩ := H
      all_goals
       (try obtain ⟨hczx127_0,hczx127_1,hczx127_2,hczx127_3,hfzx127_0,hfzx127_1,hfzx127_2,hfzx127_3⟩ := z4_ BK127.out);(try (have p01 : 0 ≤ (x3_1 : Int) := oD (by assumption);have q01 : x3_1 < (l0_3.length : Int) := oD (by assumption);obtain ⟨ad01,A01_3,c01_3,e01,hx01_0,hx01_1,hx01_2,hx01_3,hl01_3,hi01_3⟩ := at_T36 HR0_3.out x3_1 p01 q01;cases e01;replace hx01_0 := (HB.out.cell (wB w _ hx01_0)).trans hx01_0;replace hx01_1 := (HB.out.cell (wB w _ hx01_1)).trans hx01_1;replace hx01_2 := (HB.out.cell (wB w _ hx01_2)).trans hx01_2;replace hx01_3 := (HB.out.cell (wB w _ hx01_3)).trans hx01_3;have HR01_3 := aM hi01_3;have HC01_3 := aM hl01_3;clear hi01_3 hl01_3;replace p01 := eq_true p01;replace q01 := eq_true q01));go_wp2_with (first|((with_reducible refine gate_callee (f := 118) rfl ?_);refine gl_ (some 19) Tryz.func118 #[.agg #[.int .i64 ((rd_T36 l0_3 x3_1).f0),.string ((rd_T36 l0_3 x3_1).f1),.string ((rd_T36 l0_3 x3_1).f2),.slice A01_3 ((rd_T36 l0_3 x3_1).f3).length c01_3]] ?_;(with_reducible refine (ih k1 (by have := HK1.out;omega) ((rd_T36 l0_3 x3_1).f0) ((rd_T36 l0_3 x3_1).f1) ((rd_T36 l0_3 x3_1).f2) _ _ ((rd_T36 l0_3 x3_1).f3) false _ ?side1 ?side2 A9.out).mono ?_);(case side1 => exact wX_ HR01_3.out);(case side2 => exact HC01_3.out);rintro e WA9 ⟨rfl,hb⟩;refine ⟨_,rfl,?_⟩;replace BK127 := aM (bw_ BK127.out hb);replace HB := aM (lT wB_ hb))|((with_reducible refine gate_callee (f := 118) rfl ?_);refine gl_ (some 19) Tryz.func118 #[.agg #[.int .i64 ((rd_T36 l0_3 x3_1).f0),.string ((rd_T36 l0_3 x3_1).f1),.string ((rd_T36 l0_3 x3_1).f2),.slice A01_3 ((rd_T36 l0_3 x3_1).f3).length c01_3]] ?_;(with_reducible refine (ih k1 (by have := HK1.out;omega) ((rd_T36 l0_3 x3_1).f0) ((rd_T36 l0_3 x3_1).f1) ((rd_T36 l0_3 x3_1).f2) _ _ ((rd_T36 l0_3 x3_1).f3) true _ ?side1 ?side2 A9.out).mono ?_);(case side1 => exact wX_ HR01_3.out);(case side2 => exact HC01_3.out);rintro e WA9 ⟨rfl,hb⟩;refine ⟨_,rfl,?_⟩;replace BK127 := aM (bw_ BK127.out hb);replace HB := aM (lT wB_ hb)))
       first
        |
         go_ret;exact ⟨vR_,wB_⟩
        |
         go_roundg k1
         case measure => have := HK1.out;omega
         case rel => exact ⟨(wrap64 (x3_1 + 1)),vR_,H',⟨by have := HK1.out;omega⟩,⟨wC_ BK127.out⟩,⟨wB_⟩⟩
end Go.Proofs.YtmafmhgmdegplaaGreatDoor.P
