/- Written by a program in this session: each theorem here says that a Go function computes the Lean function beside it, or that a law's row holds, under the conditions that the theorem itself states. -/
import Derived.Test.YtbinfdheapjpnaaDoorZPx0
import Derived.Test.YtbinfdheapjpnaaDoorZPx1
namespace Go.Proofs.YtbinfdheapjpnaaDoor.P
open Go.RowKit Go.Proofs.YtbinfdheapjpnaaDoorW.PrintWords Go.Proofs.YtbinfdheapjpnaaDoorW.PrintLast Go.Proofs.YtbinfdheapjpnaaDoorW.PrintMore
attribute [local go_sem] max2_int min2_int max_two min_two max_three min_three max_four min_four   -- for this text's walks alone
set_option linter.unusedVariables false
set_option linter.unusedSimpArgs false
def impl_WriteCell.f (k : Nat) (a0 : ByteArray) : Option (ByteArray × Bool) := (impl_isCell.f k a0).bind fun t107 => (if t107 = true then ((impl_writeCell.f a0).bind fun t108 => (some (t108,true))) else (some ((⟨#[]⟩ : ByteArray),false)))
theorem impl_WriteCell.mono : ∀ a0 k,LeO (impl_WriteCell.f k a0) (impl_WriteCell.f (k + 1) a0) := by
 intro a0 k
 unfold impl_WriteCell.f
 repeat' first
   | (with_reducible exact impl_isCell.mono _ _)
   | (with_reducible exact LeO.refl _)
   | (with_reducible exact LeO.none _)
   | (with_reducible refine LeO.ite ?_ ?_)
   | (with_reducible refine LeO.bind ?_ (fun _ => ?_))
   | exact impl_isCell.mono _ _
   | exact LeO.none _
   | refine LeO.ite ?_ ?_
   | refine LeO.bind ?_ (fun _ => ?_)
set_option maxHeartbeats 8000000 in
set_option maxRecDepth 100000 in
theorem impl_WriteCell.calls (k : Nat) (a0 : ByteArray) (r1 : ByteArray) (r2 : Bool) (w : World) (hG : Gm w) (h : impl_WriteCell.f k a0 = some (r1,r2)) :
  Calls Tryd.prog 7 #[.string a0] w fun e w' => e = .returned (.tuple #[.string r1,.bool r2]) ∧ Below w.heap.size w w' := by
 have HB := aM (Below.refl w.heap.size w);have HG := aM hG;clear hG;have H : ((impl_isCell.f k a0).bind fun t107 => (if t107 = true then ((impl_writeCell.f a0).bind fun t108 => (some (t108,true))) else (some ((⟨#[]⟩ : ByteArray),false)))) = some (r1,r2) := h;clear h;obtain ⟨t107,A2,H⟩ := bE_ H
 by_cases c3 : t107 = true
 focus
  subst c3;rw [if_pos rfl] at H;obtain ⟨t108,A4,H⟩ := bE_ H;simp only [eS,eP] at H;obtain ⟨rfl,rfl⟩ := H
 rotate_left
 focus
  replace c3 := Bool.eq_false_iff.mpr c3;subst c3;rw [if_neg Bool.false_ne_true] at H;simp only [eS,eP] at H;obtain ⟨rfl,rfl⟩ := H
 all_goals
  go_enter Tryd.func7,Tryd.ntmps7;go_wp2_with (first|((with_reducible refine gate_callee (f := 19) rfl ?_);refine goesL_ (some 5) rfl rfl Tryd.func19 (by kernel_rfl) rfl #[.string a0] rfl (by (try simp only [mT,mC,mN]);first|done|rfl|(simp only [xD,xT];rfl)) ?_;(with_reducible refine (impl_isCell.calls _ _ _ _ A2.out).mono ?_);rintro e w' ⟨rfl,⟨nd,rfl⟩⟩;refine ⟨_,rfl,?_⟩)|((with_reducible refine gate_callee (f := 20) rfl ?_);refine goesL_ (some 8) rfl rfl Tryd.func20 (by kernel_rfl) rfl #[.string a0] rfl (by (try simp only [mT,mC,mN]);first|done|rfl|(simp only [xD,xT];rfl)) ?_;(with_reducible refine (impl_writeCell.calls _ _ _ ?side1 A4.out).mono ?_);(case side1 => exact Gm.below HG.out (by repeat (first|(with_reducible first|exact HB.out|apply lA|apply lN|apply lD)|exact HB.out)));rintro e WA4 ⟨rfl,hb⟩;refine ⟨_,rfl,?_⟩;replace HB := aM (lT (by repeat (first|(with_reducible first|exact HB.out|apply lA|apply lN|apply lD)|exact HB.out)) hb);(try clear hb)));go_ret2;exact ⟨by first|rfl|(simp [*];done),by repeat (first|(with_reducible first|exact HB.out|apply lA|apply lN|apply lD)|exact HB.out)⟩
def laws_FnExactWriteCell.f (k : Nat) (a0 : ByteArray) : Option (Bool) := if (a0.size : Int) > 1048576 then (some true) else ((spec_WriteCell.f k a0).bind fun bt109 => ((impl_WriteCell.f k a0).bind fun bt111 => (if bt111.1.toList = bt109.1.toList then (if (bt111.2 != bt109.2) = true then (some false) else (some true)) else (some false))))
theorem laws_FnExactWriteCell.mono : ∀ a0 k,LeO (laws_FnExactWriteCell.f k a0) (laws_FnExactWriteCell.f (k + 1) a0) := by
 intro a0 k
 unfold laws_FnExactWriteCell.f
 repeat' first
   | (with_reducible exact impl_WriteCell.mono _ _)
   | (with_reducible exact spec_WriteCell.mono _ _)
   | (with_reducible exact LeO.refl _)
   | (with_reducible exact LeO.none _)
   | (with_reducible refine LeO.ite ?_ ?_)
   | (with_reducible refine LeO.bind ?_ (fun _ => ?_))
   | exact impl_WriteCell.mono _ _
   | exact spec_WriteCell.mono _ _
   | exact LeO.none _
   | refine LeO.ite ?_ ?_
   | refine LeO.bind ?_ (fun _ => ?_)
set_option maxHeartbeats 8000000 in
set_option maxRecDepth 100000 in
theorem laws_FnExactWriteCell.calls (k : Nat) (a0 : ByteArray) (r : Bool) (w : World) (hG : Gm w) (hr_ : r = true) (h : laws_FnExactWriteCell.f k a0 = some r) :
  Calls Tryd.prog 3 #[.string a0] w fun e w' => e = .returned (.bool r) ∧ Below w.heap.size w w' := by
 have HB := aM (Below.refl w.heap.size w);have HG := aM hG;clear hG;have H : (if (a0.size : Int) > 1048576 then (some true) else ((spec_WriteCell.f k a0).bind fun bt109 => ((impl_WriteCell.f k a0).bind fun bt111 => (if bt111.1.toList = bt109.1.toList then (if (bt111.2 != bt109.2) = true then (some false) else (some true)) else (some false))))) = some r := h;clear h
 by_cases c2 : (a0.size : Int) > 1048576
 focus
  rw [if_pos c2] at H;have c2b0 : decide (1048576 < (a0.size : Int)) = true := dT c2;have c2b1 : decide (1048576 < a0.size) = true := dT (by omega);clear c2;obtain rfl := Option.some.inj H;(try clear hr_)
 rotate_left
 focus
  rw [if_neg c2] at H;have c2b0 : decide (1048576 < (a0.size : Int)) = false := dF c2;have c2b1 : decide (1048576 < a0.size) = false := dF (by omega);clear c2;replace H := Option.bind_eq_some_iff.mp H;obtain ⟨⟨t109,t110⟩,A30,H⟩ := H;replace H : ((impl_WriteCell.f k a0).bind fun bt111 => (if bt111.1.toList = t109.toList then (if (bt111.2 != t110) = true then (some false) else (some true)) else (some false))) = some r := H;have A3 := aM A30;clear A30;replace H := Option.bind_eq_some_iff.mp H;obtain ⟨⟨t111,t112⟩,A40,H⟩ := H;replace H : (if t111.toList = t109.toList then (if (t112 != t110) = true then (some false) else (some true)) else (some false)) = some r := H;have A4 := aM A40;clear A40
  by_cases c5 : t111.toList = t109.toList
  rotate_left;rw [if_neg c5] at H;have c5b0 : (t111.toList == t109.toList) = false := beq_eq_false_iff_ne.mpr c5;have c5b1 : (t111.toList != t109.toList) = true := bne_iff_ne.mpr c5;exact absurd ((Option.some.inj H).trans hr_) (by decide);rw [if_pos c5] at H;have c5b0 : (t111.toList == t109.toList) = true := beq_iff_eq.mpr c5;have c5b1 : (t111.toList != t109.toList) = false := bne_eq_false_iff_eq.mpr c5;clear c5
  by_cases c6 : (t112 != t110) = true
  ·rw [if_pos c6] at H;have c6b0 : (t112 != t110) = true := c6;(try (have c6b1 : decide (t112 = t110) = false := by simpa using c6));(try (have c6b2 : (t112 == t110) = false := by simpa using c6));(try (have c6b3 : ¬ (t112 = t110) := by simpa using c6));clear c6;exact absurd ((Option.some.inj H).trans hr_) (by decide)
  rw [if_neg c6] at H;have c6b0 : (t112 != t110) = false := (by simpa using c6);(try (have c6b1 : decide (t112 = t110) = true := by simpa using c6));(try (have c6b2 : (t112 == t110) = true := by simpa using c6));clear c6;obtain rfl := Option.some.inj H;(try clear hr_)
 all_goals
  go_enter Tryd.func3,Tryd.ntmps3;go_wp2_with (first|((with_reducible refine gate_callee (f := 6) rfl ?_);refine goesL_ (some 12) rfl rfl Tryd.func6 (by kernel_rfl) rfl #[.string a0] rfl (by (try simp only [mT,mC,mN]);first|done|rfl|(simp only [xD,xT];rfl)) ?_;(with_reducible refine (spec_WriteCell.calls _ _ _ _ _ A3.out).mono ?_);rintro e w' ⟨rfl,⟨nd,rfl⟩⟩;refine ⟨_,rfl,?_⟩)|((with_reducible refine gate_callee (f := 7) rfl ?_);refine goesL_ (some 17) rfl rfl Tryd.func7 (by kernel_rfl) rfl #[.string a0] rfl (by (try simp only [mT,mC,mN]);first|done|rfl|(simp only [xD,xT];rfl)) ?_;(with_reducible refine (impl_WriteCell.calls _ _ _ _ _ ?side1 A4.out).mono ?_);(case side1 => exact Gm.below HG.out (by repeat (first|(with_reducible first|exact HB.out|apply lA|apply lN|apply lD)|exact HB.out)));rintro e WA4 ⟨rfl,hb⟩;refine ⟨_,rfl,?_⟩;replace HB := aM (lT (by repeat (first|(with_reducible first|exact HB.out|apply lA|apply lN|apply lD)|exact HB.out)) hb);(try clear hb)));go_ret;exact ⟨by first|rfl|(simp [*];done),by repeat (first|(with_reducible first|exact HB.out|apply lA|apply lN|apply lD)|exact HB.out)⟩
def laws_FnExactWriteCell.Pure : Prop := ∀ (a0 : ByteArray),(a0.size ≤ 140737488351232) → ∃ k,laws_FnExactWriteCell.f k a0 = some true
def laws_szStringS.l0 : Nat → List ByteArray → Int → Int → Option (Int)
 | 0,_,_,_ => none
 | k + 1,x0,x1,x5 => if x5 < (x0.length : Int) then (if 0 ≤ x5 then (if (wrap64 (x1 - ((rdOf ByteArray.empty x0 x5).size : Int))) < 0 then (some (-1)) else (laws_szStringS.l0 k x0 (wrap64 (x1 - ((rdOf ByteArray.empty x0 x5).size : Int))) (wrap64 (x5 + 1)))) else (none)) else (some x1)
def laws_szStringS.f (k : Nat) (l0 : List ByteArray) (a1 : Int) : Option (Int) := if (wrap64 (a1 - (l0.length : Int))) < 0 then (some (-1)) else (laws_szStringS.l0 k l0 (wrap64 (a1 - (l0.length : Int))) 0)
theorem laws_szStringS.mono_l : ∀ k,(∀ y0 y1 y2,LeO (laws_szStringS.l0 k y0 y1 y2) (laws_szStringS.l0 (k + 1) y0 y1 y2))
 | 0 => fun _ _ _ r h => by simp [laws_szStringS.l0] at h
 | k + 1 => by
  have ih0 := laws_szStringS.mono_l k
  ·intro y0 y1 y2
   unfold laws_szStringS.l0
   repeat' first
   | (with_reducible exact ih0 _ _ _)
   | (with_reducible exact LeO.refl _)
   | (with_reducible exact LeO.none _)
   | (with_reducible refine LeO.ite ?_ ?_)
   | (with_reducible refine LeO.bind ?_ (fun _ => ?_))
   | exact ih0 _ _ _
   | exact LeO.none _
   | refine LeO.ite ?_ ?_
   | refine LeO.bind ?_ (fun _ => ?_)
theorem laws_szStringS.mono : ∀ a0 a1 k,LeO (laws_szStringS.f k a0 a1) (laws_szStringS.f (k + 1) a0 a1) := by
 intro a0 a1 k
 have ih0 := laws_szStringS.mono_l k
 unfold laws_szStringS.f
 repeat' first
   | (with_reducible exact ih0 _ _ _)
   | (with_reducible exact LeO.refl _)
   | (with_reducible exact LeO.none _)
   | (with_reducible refine LeO.ite ?_ ?_)
   | (with_reducible refine LeO.bind ?_ (fun _ => ?_))
   | exact ih0 _ _ _
   | exact LeO.none _
   | refine LeO.ite ?_ ?_
   | refine LeO.bind ?_ (fun _ => ?_)
set_option maxHeartbeats 8000000 in
set_option maxRecDepth 100000 in
theorem laws_szStringS.calls (k : Nat) (A0 : Option Addr) (c0 : Nat) (l0 : List ByteArray) (a1 : Int) (r : Int) (w : World) (hr0 : Kd.C Kd.string w A0 l0.length l0) (hc0 : l0.length ≤ c0) (h : laws_szStringS.f k l0 a1 = some r) :
  Calls Tryd.prog 8 #[.slice A0 l0.length c0,.int .i64 a1] w fun e w' => e = .returned (.int .i64 r) ∧ Drawn0 w w' := by
 have HR0 := aM hr0;have HC0 := aM hc0;clear hr0 hc0;have H : (if (wrap64 (a1 - (l0.length : Int))) < 0 then (some (-1)) else (laws_szStringS.l0 k l0 (wrap64 (a1 - (l0.length : Int))) 0)) = some r := h;clear h
 by_cases c3 : (wrap64 (a1 - (l0.length : Int))) < 0
 ·rw [if_pos c3] at H;have c3b0 : decide ((wrap64 (a1 - (l0.length : Int))) < 0) = true := dT c3;clear c3;obtain rfl := Option.some.inj H;simp only [eS,eP] at H;obtain ⟨rfl⟩ := H;go_enter Tryd.func8,Tryd.ntmps8;go_wp2;go_ret;exact ⟨by first|rfl|(simp [*];done),by repeat (first|exact Drawn0.refl _|apply Drawn0.step)⟩
 ·rw [if_neg c3] at H;have c3b0 : decide ((wrap64 (a1 - (l0.length : Int))) < 0) = false := dF c3;clear c3;have H' := aM H;clear H;go_enter Tryd.func8,Tryd.ntmps8;go_wp2;go_loopg [1,5] k (fun kq v1 v5 w' => ∃ (x1_1 : Int) (x5_1 : Int),v1 = .int .i64 x1_1 ∧ v5 = .int .i64 x5_1 ∧ Aside0 (laws_szStringS.l0 kq l0 x1_1 x5_1 = some r) ∧ Aside0 (kq ≤ k) ∧ Drawn0 w w')
  case atStart => exact ⟨(wrap64 (a1 - (l0.length : Int))),(0),(by first|rfl|(simp [*];done)),(by first|rfl|(simp [*];done)),H',⟨Nat.le_refl _⟩,by repeat (first|exact Drawn0.refl _|apply Drawn0.step)⟩
  case round =>
   clear H';(try clear p2);(try clear c3);(try clear c3b0);obtain ⟨x1_1,x5_1,rfl,rfl,HA,HK1,⟨m1,rfl⟩⟩ := hrel
   cases gk with
   | zero => exact absurd HA.out (by simp [laws_szStringS.l0])
   | succ k1 =>
    have H := HA.out;clear HA;simp only [laws_szStringS.l0] at H
    by_cases c4 : x5_1 < (l0.length : Int)
    focus
     rw [if_pos c4] at H;have c4b0 : decide (x5_1 < (l0.length : Int)) = true := dT c4;clear c4
     by_cases c5 : 0 ≤ x5_1
     rotate_left;rw [if_neg c5] at H;exact absurd H (by simp);rw [if_pos c5] at H;have c5b0 : decide (0 ≤ x5_1) = true := dT c5;clear c5
     by_cases c6 : (wrap64 (x1_1 - ((rdOf ByteArray.empty l0 x5_1).size : Int))) < 0
     focus
      rw [if_pos c6] at H;have c6b0 : decide ((wrap64 (x1_1 - ((rdOf ByteArray.empty l0 x5_1).size : Int))) < 0) = true := dT c6;clear c6;obtain rfl := Option.some.inj H;simp only [eS,eP] at H;obtain ⟨rfl⟩ := H
     rotate_left
     focus
      rw [if_neg c6] at H;have c6b0 : decide ((wrap64 (x1_1 - ((rdOf ByteArray.empty l0 x5_1).size : Int))) < 0) = false := dF c6;clear c6;have H' := aM H;clear H
    rotate_left 2
    focus
     rw [if_neg c4] at H;have c4b0 : decide (x5_1 < (l0.length : Int)) = false := dF c4;clear c4;obtain rfl := Option.some.inj H;simp only [eS,eP] at H;obtain ⟨rfl⟩ := H
    all_goals
     (try (have p01 : 0 ≤ (x5_1 : Int) := oD (by assumption);have q01 : x5_1 < (l0.length : Int) := oD (by assumption);obtain ⟨ad01,e01,hx01_0⟩ := Kd.at_string HR0.out x5_1 p01 q01;cases e01;replace p01 := eq_true p01;replace q01 := eq_true q01));go_wp2
     first
      |
       go_ret;exact ⟨by first|rfl|(simp [*];done),by repeat (first|exact Drawn0.refl _|apply Drawn0.step)⟩
      |
       go_roundg k1
       case measure => have := HK1.out;omega
       case rel => exact ⟨(wrap64 (x1_1 - ((rdOf ByteArray.empty l0 x5_1).size : Int))),(wrap64 (x5_1 + 1)),(by first|rfl|(simp [*];done)),(by first|rfl|(simp [*];done)),H',⟨by have := HK1.out;omega⟩,by repeat (first|exact Drawn0.refl _|apply Drawn0.step)⟩
def spec_l25Row.l0 : Nat → List ByteArray → ByteArray → Int → Option (ByteArray)
 | 0,_,_,_ => none
 | k + 1,x0,x3,x4 => if x4 < (x0.length : Int) then (if x4 > 0 then (if x3.size + 1 ≤ 9223372036854775807 then (if 0 ≤ x4 then ((spec_l25Cell.f k (rdOf ByteArray.empty x0 x4)).bind fun t115 => (if (x3 ++ (⟨#[44]⟩ : ByteArray)).size + t115.size ≤ 9223372036854775807 then (spec_l25Row.l0 k x0 ((x3 ++ (⟨#[44]⟩ : ByteArray)) ++ t115) (wrap64 (x4 + 1))) else (none))) else (none)) else (none)) else (if 0 ≤ x4 then ((spec_l25Cell.f k (rdOf ByteArray.empty x0 x4)).bind fun t117 => (if x3.size + t117.size ≤ 9223372036854775807 then (spec_l25Row.l0 k x0 (x3 ++ t117) (wrap64 (x4 + 1))) else (none))) else (none))) else (some x3)
def spec_l25Row.f (k : Nat) (l0 : List ByteArray) : Option (ByteArray) := spec_l25Row.l0 k l0 (⟨#[]⟩ : ByteArray) 0
theorem spec_l25Row.mono_l : ∀ k,(∀ y0 y1 y2,LeO (spec_l25Row.l0 k y0 y1 y2) (spec_l25Row.l0 (k + 1) y0 y1 y2))
 | 0 => fun _ _ _ r h => by simp [spec_l25Row.l0] at h
 | k + 1 => by
  have ih0 := spec_l25Row.mono_l k
  ·intro y0 y1 y2
   unfold spec_l25Row.l0
   repeat' first
   | (with_reducible exact ih0 _ _ _)
   | (with_reducible exact spec_l25Cell.mono _ _)
   | (with_reducible exact LeO.refl _)
   | (with_reducible exact LeO.none _)
   | (with_reducible refine LeO.ite ?_ ?_)
   | (with_reducible refine LeO.bind ?_ (fun _ => ?_))
   | exact ih0 _ _ _
   | exact spec_l25Cell.mono _ _
   | exact LeO.none _
   | refine LeO.ite ?_ ?_
   | refine LeO.bind ?_ (fun _ => ?_)
theorem spec_l25Row.mono : ∀ a0 k,LeO (spec_l25Row.f k a0) (spec_l25Row.f (k + 1) a0) := by
 intro a0 k
 have ih0 := spec_l25Row.mono_l k
 unfold spec_l25Row.f
 repeat' first
   | (with_reducible exact ih0 _ _ _)
   | (with_reducible exact spec_l25Cell.mono _ _)
   | (with_reducible exact LeO.refl _)
   | (with_reducible exact LeO.none _)
   | (with_reducible refine LeO.ite ?_ ?_)
   | (with_reducible refine LeO.bind ?_ (fun _ => ?_))
   | exact ih0 _ _ _
   | exact spec_l25Cell.mono _ _
   | exact LeO.none _
   | refine LeO.ite ?_ ?_
   | refine LeO.bind ?_ (fun _ => ?_)
set_option maxHeartbeats 8000000 in
set_option maxRecDepth 100000 in
theorem spec_l25Row.calls (k : Nat) (A0 : Option Addr) (c0 : Nat) (l0 : List ByteArray) (r : ByteArray) (w : World) (hr0 : Kd.C Kd.string w A0 l0.length l0) (hc0 : l0.length ≤ c0) (h : spec_l25Row.f k l0 = some r) :
  Calls Tryd.prog 22 #[.slice A0 l0.length c0] w fun e w' => e = .returned (.string r) ∧ Drawn0 w w' := by
 have HR0 := aM hr0;have HC0 := aM hc0;clear hr0 hc0;have H : (spec_l25Row.l0 k l0 (⟨#[]⟩ : ByteArray) 0) = some r := h;clear h;have H' := aM H;clear H;go_enter Tryd.func22,Tryd.ntmps22;go_wp2;go_loopg [3,4] k (fun kq v3 v4 w' => ∃ (x3_1 : ByteArray) (x4_1 : Int),v3 = .string x3_1 ∧ v4 = .int .i64 x4_1 ∧ Aside0 (spec_l25Row.l0 kq l0 x3_1 x4_1 = some r) ∧ Aside0 (kq ≤ k) ∧ Drawn0 w w')
 case atStart => exact ⟨((⟨#[]⟩ : ByteArray)),(0),(by first|rfl|(simp [*];done)),(by first|rfl|(simp [*];done)),H',⟨Nat.le_refl _⟩,by repeat (first|exact Drawn0.refl _|apply Drawn0.step)⟩
 case round =>
  clear H';obtain ⟨x3_1,x4_1,rfl,rfl,HA,HK1,⟨m1,rfl⟩⟩ := hrel
  cases gk with
  | zero => exact absurd HA.out (by simp [spec_l25Row.l0])
  | succ k1 =>
   have H := HA.out;clear HA;simp only [spec_l25Row.l0] at H
   by_cases c2 : x4_1 < (l0.length : Int)
   focus
    rw [if_pos c2] at H;have c2b0 : decide (x4_1 < (l0.length : Int)) = true := dT c2;clear c2
    by_cases c3 : x4_1 > 0
    focus
     rw [if_pos c3] at H;have c3b0 : decide (0 < x4_1) = true := dT c3;clear c3
     by_cases c4 : x3_1.size + 1 ≤ 9223372036854775807
     rotate_left;rw [if_neg c4] at H;exact absurd H (by simp);rw [if_pos c4] at H;have c4b0 := eq_true c4;have c4b1 : decide (x3_1.size + 1 ≤ 9223372036854775807) = true := dT c4;(try have c4b2 : (9223372036854775807 < x3_1.size + 1) = False := eq_false (Nat.not_lt.2 c4))
     by_cases c5 : 0 ≤ x4_1
     rotate_left;rw [if_neg c5] at H;exact absurd H (by simp);rw [if_pos c5] at H;have c5b0 : decide (0 ≤ x4_1) = true := dT c5;clear c5;obtain ⟨t115,A6,H⟩ := bE_ H
     by_cases c7 : (x3_1 ++ (⟨#[44]⟩ : ByteArray)).size + t115.size ≤ 9223372036854775807
     rotate_left;rw [if_neg c7] at H;exact absurd H (by simp);rw [if_pos c7] at H;have c7b0 := eq_true c7;have c7b1 : decide ((x3_1 ++ (⟨#[44]⟩ : ByteArray)).size + t115.size ≤ 9223372036854775807) = true := dT c7;(try have c7b3 : (9223372036854775807 < x3_1.size + 1 + t115.size) = False := eq_false (by have h_ := c7;simp only [ByteArray.size_append,ByteArray.size_extract] at h_;have hs0_ : (⟨#[44]⟩ : ByteArray).size = 1 := rfl;omega));(try have c7b2 : (9223372036854775807 < (x3_1 ++ (⟨#[44]⟩ : ByteArray)).size + t115.size) = False := eq_false (Nat.not_lt.2 c7));have H' := aM H;clear H
    rotate_left
    focus
     rw [if_neg c3] at H;have c3b0 : decide (0 < x4_1) = false := dF c3;clear c3
     by_cases c8 : 0 ≤ x4_1
     rotate_left;rw [if_neg c8] at H;exact absurd H (by simp);rw [if_pos c8] at H;have c8b0 : decide (0 ≤ x4_1) = true := dT c8;clear c8;obtain ⟨t117,A9,H⟩ := bE_ H
     by_cases c10 : x3_1.size + t117.size ≤ 9223372036854775807
     rotate_left;rw [if_neg c10] at H;exact absurd H (by simp);rw [if_pos c10] at H;have c10b0 := eq_true c10;have c10b1 : decide (x3_1.size + t117.size ≤ 9223372036854775807) = true := dT c10;(try have c10b2 : (9223372036854775807 < x3_1.size + t117.size) = False := eq_false (Nat.not_lt.2 c10));have H' := aM H;clear H
   rotate_left 2
   focus
    rw [if_neg c2] at H;have c2b0 : decide (x4_1 < (l0.length : Int)) = false := dF c2;clear c2;obtain rfl := Option.some.inj H;simp only [eS,eP] at H;obtain ⟨rfl⟩ := H
   all_goals
    (try (have p01 : 0 ≤ (x4_1 : Int) := oD (by assumption);have q01 : x4_1 < (l0.length : Int) := oD (by assumption);obtain ⟨ad01,e01,hx01_0⟩ := Kd.at_string HR0.out x4_1 p01 q01;cases e01;replace p01 := eq_true p01;replace q01 := eq_true q01));go_wp2_with (first|((with_reducible refine gate_callee (f := 18) rfl ?_);refine goesL_ (some 20) rfl rfl Tryd.func18 (by kernel_rfl) rfl #[.string (rdOf ByteArray.empty l0 x4_1)] rfl (by (try simp only [mT,mC,mN]);first|done|rfl|(simp only [xD,xT];rfl)) ?_;(with_reducible refine (spec_l25Cell.calls _ _ _ _ A9.out).mono ?_);rintro e w' ⟨rfl,⟨nd,rfl⟩⟩;refine ⟨_,rfl,?_⟩)|((with_reducible refine gate_callee (f := 18) rfl ?_);refine goesL_ (some 20) rfl rfl Tryd.func18 (by kernel_rfl) rfl #[.string (rdOf ByteArray.empty l0 x4_1)] rfl (by (try simp only [mT,mC,mN]);first|done|rfl|(simp only [xD,xT];rfl)) ?_;(with_reducible refine (spec_l25Cell.calls _ _ _ _ A6.out).mono ?_);rintro e w' ⟨rfl,⟨nd,rfl⟩⟩;refine ⟨_,rfl,?_⟩))
    first
     |
      go_ret;exact ⟨by first|rfl|(simp [*];done),by repeat (first|exact Drawn0.refl _|apply Drawn0.step)⟩
     |
      go_roundg k1
      case measure => have := HK1.out;omega
      case rel => first|(exact ⟨((x3_1 ++ (⟨#[44]⟩ : ByteArray)) ++ t115),(wrap64 (x4_1 + 1)),(by first|rfl|(simp [*];done)),(by first|rfl|(simp [*];done)),H',⟨by have := HK1.out;omega⟩,by repeat (first|exact Drawn0.refl _|apply Drawn0.step)⟩)|(exact ⟨(x3_1 ++ t117),(wrap64 (x4_1 + 1)),(by first|rfl|(simp [*];done)),(by first|rfl|(simp [*];done)),H',⟨by have := HK1.out;omega⟩,by repeat (first|exact Drawn0.refl _|apply Drawn0.step)⟩)
def spec_WriteRow.l0 : Nat → List ByteArray → Int → Option (ByteArray × Bool)
 | 0,_,_ => none
 | k + 1,x0,x4 => if x4 < (x0.length : Int) then (if 0 ≤ x4 then ((spec_l23Bytes.f k (rdOf ByteArray.empty x0 x4) 0 200 32).bind fun t119 => (if t119 = true then (spec_WriteRow.l0 k x0 (wrap64 (x4 + 1))) else (some ((⟨#[]⟩ : ByteArray),false)))) else (none)) else ((spec_l1In.f (x0.length : Int) 1 20).bind fun t120 => (if t120 = true then ((spec_l25Row.f k x0).bind fun t121 => (some (t121,true))) else (some ((⟨#[]⟩ : ByteArray),false))))
def spec_WriteRow.f (k : Nat) (l0 : List ByteArray) : Option (ByteArray × Bool) := spec_WriteRow.l0 k l0 0
theorem spec_WriteRow.mono_l : ∀ k,(∀ y0 y1,LeO (spec_WriteRow.l0 k y0 y1) (spec_WriteRow.l0 (k + 1) y0 y1))
 | 0 => fun _ _ r h => by simp [spec_WriteRow.l0] at h
 | k + 1 => by
  have ih0 := spec_WriteRow.mono_l k
  ·intro y0 y1
   unfold spec_WriteRow.l0
   repeat' first
   | (with_reducible exact ih0 _ _)
   | (with_reducible exact spec_l23Bytes.mono _ _ _ _ _)
   | (with_reducible exact spec_l25Row.mono _ _)
   | (with_reducible exact LeO.refl _)
   | (with_reducible exact LeO.none _)
   | (with_reducible refine LeO.ite ?_ ?_)
   | (with_reducible refine LeO.bind ?_ (fun _ => ?_))
   | exact ih0 _ _
   | exact spec_l23Bytes.mono _ _ _ _ _
   | exact spec_l25Row.mono _ _
   | exact LeO.none _
   | refine LeO.ite ?_ ?_
   | refine LeO.bind ?_ (fun _ => ?_)
theorem spec_WriteRow.mono : ∀ a0 k,LeO (spec_WriteRow.f k a0) (spec_WriteRow.f (k + 1) a0) := by
 intro a0 k
 have ih0 := spec_WriteRow.mono_l k
 unfold spec_WriteRow.f
 repeat' first
   | (with_reducible exact ih0 _ _)
   | (with_reducible exact spec_l23Bytes.mono _ _ _ _ _)
   | (with_reducible exact spec_l25Row.mono _ _)
   | (with_reducible exact LeO.refl _)
   | (with_reducible exact LeO.none _)
   | (with_reducible refine LeO.ite ?_ ?_)
   | (with_reducible refine LeO.bind ?_ (fun _ => ?_))
   | exact ih0 _ _
   | exact spec_l23Bytes.mono _ _ _ _ _
   | exact spec_l25Row.mono _ _
   | exact LeO.none _
   | refine LeO.ite ?_ ?_
   | refine LeO.bind ?_ (fun _ => ?_)
set_option maxHeartbeats 8000000 in
set_option maxRecDepth 100000 in
theorem spec_WriteRow.calls (k : Nat) (A0 : Option Addr) (c0 : Nat) (l0 : List ByteArray) (r1 : ByteArray) (r2 : Bool) (w : World) (hr0 : Kd.C Kd.string w A0 l0.length l0) (hc0 : l0.length ≤ c0) (h : spec_WriteRow.f k l0 = some (r1,r2)) :
  Calls Tryd.prog 9 #[.slice A0 l0.length c0] w fun e w' => e = .returned (.tuple #[.string r1,.bool r2]) ∧ Drawn0 w w' := by
 have HR0 := aM hr0;have HC0 := aM hc0;clear hr0 hc0;have H : (spec_WriteRow.l0 k l0 0) = some (r1,r2) := h;clear h;have H' := aM H;clear H;go_enter Tryd.func9,Tryd.ntmps9;go_wp2;go_loopg [4] k (fun kq v4 w' => ∃ (x4_1 : Int),v4 = .int .i64 x4_1 ∧ Aside0 (spec_WriteRow.l0 kq l0 x4_1 = some (r1,r2)) ∧ Aside0 (kq ≤ k) ∧ Drawn0 w w')
 case atStart => exact ⟨(0),(by first|rfl|(simp [*];done)),H',⟨Nat.le_refl _⟩,by repeat (first|exact Drawn0.refl _|apply Drawn0.step)⟩
 case round =>
  clear H';obtain ⟨x4_1,rfl,HA,HK1,⟨m1,rfl⟩⟩ := hrel
  cases gk with
  | zero => exact absurd HA.out (by simp [spec_WriteRow.l0])
  | succ k1 =>
   have H := HA.out;clear HA;simp only [spec_WriteRow.l0] at H
   by_cases c2 : x4_1 < (l0.length : Int)
   focus
    rw [if_pos c2] at H;have c2b0 : decide (x4_1 < (l0.length : Int)) = true := dT c2;clear c2
    by_cases c3 : 0 ≤ x4_1
    rotate_left;rw [if_neg c3] at H;exact absurd H (by simp);rw [if_pos c3] at H;have c3b0 : decide (0 ≤ x4_1) = true := dT c3;clear c3;obtain ⟨t119,A4,H⟩ := bE_ H
    by_cases c5 : t119 = true
    focus
     subst c5;rw [if_pos rfl] at H;have H' := aM H;clear H
    rotate_left
    focus
     replace c5 := Bool.eq_false_iff.mpr c5;subst c5;rw [if_neg Bool.false_ne_true] at H;simp only [eS,eP] at H;obtain ⟨rfl,rfl⟩ := H
   rotate_left 2
   focus
    rw [if_neg c2] at H;have c2b0 : decide (x4_1 < (l0.length : Int)) = false := dF c2;clear c2;obtain ⟨t120,A6,H⟩ := bE_ H
    by_cases c7 : t120 = true
    focus
     subst c7;rw [if_pos rfl] at H;obtain ⟨t121,A8,H⟩ := bE_ H;simp only [eS,eP] at H;obtain ⟨rfl,rfl⟩ := H
    rotate_left
    focus
     replace c7 := Bool.eq_false_iff.mpr c7;subst c7;rw [if_neg Bool.false_ne_true] at H;simp only [eS,eP] at H;obtain ⟨rfl,rfl⟩ := H
   all_goals
    (try (have p01 : 0 ≤ (x4_1 : Int) := oD (by assumption);have q01 : x4_1 < (l0.length : Int) := oD (by assumption);obtain ⟨ad01,e01,hx01_0⟩ := Kd.at_string HR0.out x4_1 p01 q01;cases e01;replace p01 := eq_true p01;replace q01 := eq_true q01));go_wp2_with (first|((with_reducible refine gate_callee (f := 21) rfl ?_);refine goesL_ (some 19) rfl rfl Tryd.func21 (by kernel_rfl) rfl #[.int .i64 (l0.length : Int),.int .i64 1,.int .i64 20] rfl (by (try simp only [mT,mC,mN]);first|done|rfl|(simp only [xD,xT];rfl)) ?_;(with_reducible refine (spec_l1In.calls _ _ _ _ _ A6.out).mono ?_);rintro e w' ⟨rfl,⟨nd,rfl⟩⟩;refine ⟨_,rfl,?_⟩)|((with_reducible refine gate_callee (f := 22) rfl ?_);refine goesL_ (some 22) rfl rfl Tryd.func22 (by kernel_rfl) rfl #[.slice A0 l0.length c0] rfl (by (try simp only [mT,mC,mN]);first|done|rfl|(simp only [xD,xT];rfl)) ?_;(with_reducible refine (spec_l25Row.calls _ _ _ _ _ _ ?side1 ?side2 A8.out).mono ?_);(case side1 => repeat (first|exact HR0.out|(with_reducible first|refine cA ?_ _|refine cN ?_ _|refine cD ?_)));(case side2 => exact HC0.out);rintro e w' ⟨rfl,⟨nd,rfl⟩⟩;refine ⟨_,rfl,?_⟩)|((with_reducible refine gate_callee (f := 17) rfl ?_);refine goesL_ (some 15) rfl rfl Tryd.func17 (by kernel_rfl) rfl #[.string (rdOf ByteArray.empty l0 x4_1),.int .i64 0,.int .i64 200,.int .u8 32] rfl (by (try simp only [mT,mC,mN]);first|done|rfl|(simp only [xD,xT];rfl)) ?_;(with_reducible refine (spec_l23Bytes.calls _ _ _ _ _ _ _ A4.out).mono ?_);rintro e w' ⟨rfl,⟨nd,rfl⟩⟩;refine ⟨_,rfl,?_⟩))
    first
     |
      go_ret2;exact ⟨by first|rfl|(simp [*];done),by repeat (first|exact Drawn0.refl _|apply Drawn0.step)⟩
     |
      go_roundg k1
      case measure => have := HK1.out;omega
      case rel => exact ⟨(wrap64 (x4_1 + 1)),(by first|rfl|(simp [*];done)),H',⟨by have := HK1.out;omega⟩,by repeat (first|exact Drawn0.refl _|apply Drawn0.step)⟩
def laws_toStringS.l0 : Nat → List ByteArray → List ByteArray → Int → Option (List ByteArray)
 | 0,_,_,_ => none
 | k + 1,x0,x3,x4 => if x4 < (x0.length : Int) then (if 0 ≤ x4 then (if x4 < (x3.length : Int) then (laws_toStringS.l0 k x0 (x3.set (x4 : Int).toNat (rdOf ByteArray.empty x0 x4)) (wrap64 (x4 + 1))) else (none)) else (none)) else (some x3)
def laws_toStringS.f (k : Nat) (l0 : List ByteArray) : Option (List ByteArray) := if 0 ≤ (l0.length : Int) then (if ((l0.length : Int) : Int).toNat ≤ 17592186044416 then (laws_toStringS.l0 k l0 (List.replicate ((l0.length : Int) : Int).toNat (⟨#[]⟩ : ByteArray)) 0) else (none)) else (none)
theorem laws_toStringS.mono_l : ∀ k,(∀ y0 y1 y2,LeO (laws_toStringS.l0 k y0 y1 y2) (laws_toStringS.l0 (k + 1) y0 y1 y2))
 | 0 => fun _ _ _ r h => by simp [laws_toStringS.l0] at h
 | k + 1 => by
  have ih0 := laws_toStringS.mono_l k
  ·intro y0 y1 y2
   unfold laws_toStringS.l0
   repeat' first
   | (with_reducible exact ih0 _ _ _)
   | (with_reducible exact LeO.refl _)
   | (with_reducible exact LeO.none _)
   | (with_reducible refine LeO.ite ?_ ?_)
   | (with_reducible refine LeO.bind ?_ (fun _ => ?_))
   | exact ih0 _ _ _
   | exact LeO.none _
   | refine LeO.ite ?_ ?_
   | refine LeO.bind ?_ (fun _ => ?_)
theorem laws_toStringS.mono : ∀ a0 k,LeO (laws_toStringS.f k a0) (laws_toStringS.f (k + 1) a0) := by
 intro a0 k
 have ih0 := laws_toStringS.mono_l k
 unfold laws_toStringS.f
 repeat' first
   | (with_reducible exact ih0 _ _ _)
   | (with_reducible exact LeO.refl _)
   | (with_reducible exact LeO.none _)
   | (with_reducible refine LeO.ite ?_ ?_)
   | (with_reducible refine LeO.bind ?_ (fun _ => ?_))
   | exact ih0 _ _ _
   | exact LeO.none _
   | refine LeO.ite ?_ ?_
   | refine LeO.bind ?_ (fun _ => ?_)
set_option maxHeartbeats 8000000 in
set_option maxRecDepth 100000 in
theorem laws_toStringS.calls (k : Nat) (A0 : Option Addr) (c0 : Nat) (l0 : List ByteArray) (r : List ByteArray) (w : World) (hr0 : Kd.C Kd.string w A0 l0.length l0) (hc0 : l0.length ≤ c0) (h : laws_toStringS.f k l0 = some r) :
  Calls Tryd.prog 10 #[.slice A0 l0.length c0] w fun e w' => ∃ v0_ : Value,e = .returned (v0_) ∧ Kd.R Kd.string 9 w' w.heap.size (fun _ => True) v0_ r ∧ Below w.heap.size w w' := by
 have HR0 := aM hr0;have HC0 := aM hc0;clear hr0 hc0;have HB := aM (Below.refl w.heap.size w);have H : (if 0 ≤ (l0.length : Int) then (if ((l0.length : Int) : Int).toNat ≤ 17592186044416 then (laws_toStringS.l0 k l0 (List.replicate ((l0.length : Int) : Int).toNat (⟨#[]⟩ : ByteArray)) 0) else (none)) else (none)) = some r := h;clear h
 by_cases c2 : 0 ≤ (l0.length : Int)
 ·rw [if_pos c2] at H;have c2b0 := eq_true c2;have c2b1 : decide (0 ≤ (l0.length : Int)) = true := dT c2;clear c2
  by_cases c3 : ((l0.length : Int) : Int).toNat ≤ 17592186044416
  ·rw [if_pos c3] at H;have c3b0 := eq_true c3;have c3b1 : decide (((l0.length : Int) : Int).toNat ≤ 17592186044416) = true := dT c3;clear c3;obtain ⟨y122,hy122⟩ : ∃ y_ : List ByteArray,y_ = (List.replicate ((l0.length : Int) : Int).toNat (⟨#[]⟩ : ByteArray)) := ⟨_,rfl⟩;replace H : (laws_toStringS.l0 k l0 y122 0) = some r := (by first|(rw [hy122];with_reducible exact H)|(have H2_ := (Option.bind_some _ _).symm.trans H;rw [hy122];with_reducible exact H2_)|(have H2_ := (Option.bind_some _ _).symm.trans H;with_reducible exact H2_)|with_reducible exact H|(rw [hy122];exact H)|exact H);have Ny122 := aM hy122;clear hy122;have H' := aM H;clear H;go_enter Tryd.func10,Tryd.ntmps10;go_wp2_with (first|((with_reducible refine gate_dst (N := 7) rfl ?_);refine Kd.R_make Kd.string _ 9 rfl (N := 7) rfl 25 _ _ rfl (l0.length : Int) rfl rfl Tryd.underlying25 (.string ⟨#[]⟩) 16 info9 rfl (by decide) (by omega) (⟨#[]⟩ : ByteArray) (ok := fun _ => True) (okp := fun _ => True) rfl (fun _ hk => hk) trivial (oD (by assumption)) (Nat.le_trans (Nat.mul_le_mul_right _ (oD (by assumption) : (l0.length : Int).toNat ≤ 17592186044416)) (by omega)) (Below.refl _ _) (Nat.le_refl _) ?_;intro v123 w4 ho5 hb hg_ hnew_;clear hg_ hnew_;(first|rw [← Ny122.out] at ho5|(simp only [Int.reduceToNat] at ho5;rw [← Ny122.out] at ho5));have HO124 := aM (Kd.R_lower ho5 (lZ (by repeat (first|(with_reducible first|exact HB.out|apply lA|apply lN|apply lD)|exact HB.out))));replace HB := aM (lT (by repeat (first|(with_reducible first|exact HB.out|apply lA|apply lN|apply lD)|exact HB.out)) hb);clear hb ho5));go_loopg [4] k (fun kq v4 w' => ∃ (x3_1 : List ByteArray) (x4_1 : Int),v4 = .int .i64 x4_1 ∧ Aside0 (laws_toStringS.l0 kq l0 x3_1 x4_1 = some r) ∧ Aside0 (kq ≤ k) ∧ Aside0 (Kd.R Kd.string 9 w' w.heap.size (fun _ => True) v123 x3_1) ∧ Aside0 (Below w.heap.size w w'))
   case atStart => exact ⟨(y122),(0),(by first|rfl|(simp [*];done)),H',⟨Nat.le_refl _⟩,⟨by (with_reducible repeat (first|apply rA|apply rN|apply rD));exact HO124.out⟩,⟨by repeat (first|(with_reducible first|exact HB.out|apply lA|apply lN|apply lD)|exact HB.out)⟩⟩
   case round =>
    clear H';(try clear c1);(try clear c2);(try clear c2b0);(try clear c2b1);(try clear p2);(try clear c3);(try clear c3b0);(try clear c3b1);obtain ⟨x3_1,x4_1,rfl,HA,HK1,HO_3,HB⟩ := hrel
    cases gk with
    | zero => exact absurd HA.out (by simp [laws_toStringS.l0])
    | succ k1 =>
     have H := HA.out;clear HA;simp only [laws_toStringS.l0] at H
     by_cases c6 : x4_1 < (l0.length : Int)
     ·rw [if_pos c6] at H;have c6b0 : decide (x4_1 < (l0.length : Int)) = true := dT c6;clear c6
      by_cases c7 : 0 ≤ x4_1
      ·rw [if_pos c7] at H;have c7b0 : decide (0 ≤ x4_1) = true := dT c7;clear c7
       by_cases c8 : x4_1 < (x3_1.length : Int)
       ·rw [if_pos c8] at H;have c8b0 : decide (x4_1 < (x3_1.length : Int)) = true := dT c8;clear c8;obtain ⟨y126,hy126⟩ : ∃ y_ : List ByteArray,y_ = (x3_1.set (x4_1 : Int).toNat (rdOf ByteArray.empty l0 x4_1)) := ⟨_,rfl⟩;replace H : (laws_toStringS.l0 k1 l0 y126 (wrap64 (x4_1 + 1))) = some r := (by first|(rw [hy126];with_reducible exact H)|(have H2_ := (Option.bind_some _ _).symm.trans H;rw [hy126];with_reducible exact H2_)|(have H2_ := (Option.bind_some _ _).symm.trans H;with_reducible exact H2_)|with_reducible exact H|(rw [hy126];exact H)|exact H);have Ny126 := aM hy126;clear hy126;have H' := aM H;clear H;have p125 : 0 ≤ (x4_1 : Int) := oD (by assumption);have q125 : x4_1 < (l0.length : Int) := oD (by assumption);obtain ⟨ad125,e125,hx125_0⟩ := Kd.at_string HR0.out x4_1 p125 q125;cases e125;replace hx125_0 := (HB.out.cell (wB w _ hx125_0)).trans hx125_0;replace p125 := eq_true p125;replace q125 := eq_true q125;have p9 : 0 ≤ (x4_1 : Int) := oD (by assumption);have q9 : (x4_1 : Int) < ((x3_1.length : Int) : Int) := oD (by assumption);obtain ⟨go9,co9,eo9,gb9,gl9,cl9,HG9⟩ := Kd.R_form HO_3.out (by omega);(first|cases eo9|(injection eo9 with ea_ en_ ec_;(first|subst ea_|(injection ea_ with ea_;subst ea_));subst ec_;clear en_));have GB9 := aM gb9;have GG9 := aM HG9;clear gb9 gl9 HG9;obtain ⟨hx9_0,hf9_0⟩ := Kd.R_celln (⟨#[]⟩ : ByteArray) HO_3.out (x4_1 : Int) p9 q9;replace p9 := eq_true p9;replace q9 := eq_true q9;have HP10 := Kd.R_putg HO_3.out (x4_1 : Int) (rdOf ByteArray.empty l0 x4_1);go_wp2_with (first|((with_reducible refine gate_store (t := 9) (p := 20) rfl ?_);refine store_event (t := 9) (p := 20) (v := ?vo_w11) (w1 := (wr.setCell ⟨go9,(x4_1 : Int).toNat,none⟩ (.string (rdOf ByteArray.empty l0 x4_1)))) ?hg ?ho ?hn ?hr ?_;(case ho => rfl);(case hg => rfl);(case hn => rfl);(case hr => first|(go_simp;done)|(go_simp;rfl));intro w11 hw;have hg : wr.grownBy w11 (some go9) := (by rw [hw];exact HP10.2);have hp_ : Kd.R Kd.string 9 w11 w.heap.size (fun _ => True) (.slice (some ⟨go9,0,none⟩) x3_1.length co9) y126 := (by rw [hw,Ny126.out];exact HP10.1);clear HP10;replace HO_3 := aM (hp_);replace HB := aM ((by rw [hw];exact lS (HB.out) GB9.out : Below w.heap.size w w11));clear hg hw hp_));go_roundg k1
        case measure => have := HK1.out;omega
        case rel => exact ⟨(y126),(wrap64 (x4_1 + 1)),(by first|rfl|(simp [*];done)),H',⟨by have := HK1.out;omega⟩,⟨by (with_reducible repeat (first|apply rA|apply rN|apply rD));exact HO_3.out⟩,⟨by repeat (first|(with_reducible first|exact HB.out|apply lA|apply lN|apply lD)|exact HB.out)⟩⟩
       ·rw [if_neg c8] at H;exact absurd H (by simp)
      ·rw [if_neg c7] at H;exact absurd H (by simp)
     ·rw [if_neg c6] at H;have c6b0 : decide (x4_1 < (l0.length : Int)) = false := dF c6;clear c6;obtain rfl := Option.some.inj H;simp only [eS,eP] at H;obtain ⟨rfl⟩ := H;go_wp2;go_ret;exact ⟨_,by first|rfl|(simp [*];done),by (with_reducible repeat (first|apply rA|apply rN|apply rD));exact HO_3.out,by repeat (first|(with_reducible first|exact HB.out|apply lA|apply lN|apply lD)|exact HB.out)⟩
  ·rw [if_neg c3] at H;exact absurd H (by simp)
 ·rw [if_neg c2] at H;exact absurd H (by simp)
def impl_inside.f (a0 : Int) (a1 : Int) (a2 : Int) : Option (Bool) := if a0 ≥ a1 then (some (decide (a0 ≤ a2))) else (some false)
set_option maxHeartbeats 8000000 in
set_option maxRecDepth 100000 in
theorem impl_inside.calls (a0 : Int) (a1 : Int) (a2 : Int) (r : Bool) (w : World) (h : impl_inside.f a0 a1 a2 = some r) :
  Calls Tryd.prog 23 #[.int .i64 a0,.int .i64 a1,.int .i64 a2] w fun e w' => e = .returned (.bool r) ∧ Drawn0 w w' := by
 have H : (if a0 ≥ a1 then (some (decide (a0 ≤ a2))) else (some false)) = some r := h;clear h
 by_cases c4 : a0 ≥ a1
 focus
  rw [if_pos c4] at H;have c4b0 : decide (a1 ≤ a0) = true := dT c4;clear c4;obtain rfl := Option.some.inj H;simp only [eS,eP] at H;obtain ⟨rfl⟩ := H
 rotate_left
 focus
  rw [if_neg c4] at H;have c4b0 : decide (a1 ≤ a0) = false := dF c4;clear c4;obtain rfl := Option.some.inj H;simp only [eS,eP] at H;obtain ⟨rfl⟩ := H
 all_goals
  go_enter Tryd.func23,Tryd.ntmps23;go_wp2;go_ret;exact ⟨by first|rfl|(simp [*];done),by repeat (first|exact Drawn0.refl _|apply Drawn0.step)⟩
def impl_WriteRow_1.f (k : Nat) (a0 : ByteArray) : Option (Bool) := (impl_isCell.f k a0).bind fun t127 => (some (!t127))
theorem impl_WriteRow_1.mono : ∀ a0 k,LeO (impl_WriteRow_1.f k a0) (impl_WriteRow_1.f (k + 1) a0) := by
 intro a0 k
 unfold impl_WriteRow_1.f
 repeat' first
   | (with_reducible exact impl_isCell.mono _ _)
   | (with_reducible exact LeO.refl _)
   | (with_reducible exact LeO.none _)
   | (with_reducible refine LeO.ite ?_ ?_)
   | (with_reducible refine LeO.bind ?_ (fun _ => ?_))
   | exact impl_isCell.mono _ _
   | exact LeO.none _
   | refine LeO.ite ?_ ?_
   | refine LeO.bind ?_ (fun _ => ?_)
set_option maxHeartbeats 8000000 in
set_option maxRecDepth 100000 in
theorem impl_WriteRow_1.calls (k : Nat) (a0 : ByteArray) (r : Bool) (w : World) (h : impl_WriteRow_1.f k a0 = some r) :
  Calls Tryd.prog 25 #[.string a0] w fun e w' => e = .returned (.bool r) ∧ Drawn0 w w' := by
 have H : ((impl_isCell.f k a0).bind fun t127 => (some (!t127))) = some r := h;clear h;obtain ⟨t127,A2,H⟩ := bE_ H;obtain rfl := Option.some.inj H;simp only [eS,eP] at H;obtain ⟨rfl⟩ := H;go_enter Tryd.func25,Tryd.ntmps25;go_wp2_with (first|((with_reducible refine gate_callee (f := 19) rfl ?_);refine goesL_ (some 4) rfl rfl Tryd.func19 (by kernel_rfl) rfl #[.string a0] rfl (by (try simp only [mT,mC,mN]);first|done|rfl|(simp only [xD,xT];rfl)) ?_;(with_reducible refine (impl_isCell.calls k a0 t127 _ A2.out).mono ?_);rintro e w' ⟨rfl,⟨nd,rfl⟩⟩;refine ⟨_,rfl,?_⟩));go_ret;exact ⟨by first|rfl|(simp [*];done),by repeat (first|exact Drawn0.refl _|apply Drawn0.step)⟩
def slices_IndexFunc_string_string.l0 : Nat → List ByteArray → Int → Int → Option (Int)
 | 0,_,_,_ => none
 | k + 1,x0,x7,x8 => if x8 < x7 then (if 0 ≤ x8 then (if x8 < (x0.length : Int) then ((impl_WriteRow_1.f k (rdOf ByteArray.empty x0 x8)).bind fun t129 => (if t129 = true then (some x8) else (slices_IndexFunc_string_string.l0 k x0 x7 (wrap64 (x8 + 1))))) else (none)) else (none)) else (some (-1))
def slices_IndexFunc_string_string.f (k : Nat) (l0 : List ByteArray) (a1 : Int) : Option (Int) := slices_IndexFunc_string_string.l0 k l0 (l0.length : Int) 0
theorem slices_IndexFunc_string_string.mono_l : ∀ k,(∀ y0 y1 y2,LeO (slices_IndexFunc_string_string.l0 k y0 y1 y2) (slices_IndexFunc_string_string.l0 (k + 1) y0 y1 y2))
 | 0 => fun _ _ _ r h => by simp [slices_IndexFunc_string_string.l0] at h
 | k + 1 => by
  have ih0 := slices_IndexFunc_string_string.mono_l k
  ·intro y0 y1 y2
   unfold slices_IndexFunc_string_string.l0
   repeat' first
   | (with_reducible exact ih0 _ _ _)
   | (with_reducible exact impl_WriteRow_1.mono _ _)
   | (with_reducible exact LeO.refl _)
   | (with_reducible exact LeO.none _)
   | (with_reducible refine LeO.ite ?_ ?_)
   | (with_reducible refine LeO.bind ?_ (fun _ => ?_))
   | exact ih0 _ _ _
   | exact impl_WriteRow_1.mono _ _
   | exact LeO.none _
   | refine LeO.ite ?_ ?_
   | refine LeO.bind ?_ (fun _ => ?_)
theorem slices_IndexFunc_string_string.mono : ∀ a0 a1 k,LeO (slices_IndexFunc_string_string.f k a0 a1) (slices_IndexFunc_string_string.f (k + 1) a0 a1) := by
 intro a0 a1 k
 have ih0 := slices_IndexFunc_string_string.mono_l k
 unfold slices_IndexFunc_string_string.f
 repeat' first
   | (with_reducible exact ih0 _ _ _)
   | (with_reducible exact impl_WriteRow_1.mono _ _)
   | (with_reducible exact LeO.refl _)
   | (with_reducible exact LeO.none _)
   | (with_reducible refine LeO.ite ?_ ?_)
   | (with_reducible refine LeO.bind ?_ (fun _ => ?_))
   | exact ih0 _ _ _
   | exact impl_WriteRow_1.mono _ _
   | exact LeO.none _
   | refine LeO.ite ?_ ?_
   | refine LeO.bind ?_ (fun _ => ?_)
set_option maxHeartbeats 8000000 in
set_option maxRecDepth 100000 in
theorem slices_IndexFunc_string_string.calls (k : Nat) (A0 : Option Addr) (c0 : Nat) (l0 : List ByteArray) (a1 : Int) (r : Int) (w : World) (hr0 : Kd.C Kd.string w A0 l0.length l0) (hc0 : l0.length ≤ c0) (h : slices_IndexFunc_string_string.f k l0 a1 = some r) :
  Calls Tryd.prog 33 #[.slice A0 l0.length c0,.func (.func 25) #[] #[]] w fun e w' => e = .returned (.int .i64 r) ∧ Drawn0 w w' := by
 have HR0 := aM hr0;have HC0 := aM hc0;clear hr0 hc0;have H : (slices_IndexFunc_string_string.l0 k l0 (l0.length : Int) 0) = some r := h;clear h;have H' := aM H;clear H;go_enter Tryd.func33,Tryd.ntmps33;go_wp2;go_loopg [8] k (fun kq v8 w' => ∃ (x8_1 : Int),v8 = .int .i64 x8_1 ∧ Aside0 (slices_IndexFunc_string_string.l0 kq l0 (l0.length : Int) x8_1 = some r) ∧ Aside0 (kq ≤ k) ∧ Drawn0 w w')
 case atStart => exact ⟨(0),(by first|rfl|(simp [*];done)),H',⟨Nat.le_refl _⟩,by repeat (first|exact Drawn0.refl _|apply Drawn0.step)⟩
 case round =>
  clear H';(try clear p2);obtain ⟨x8_1,rfl,HA,HK1,⟨m1,rfl⟩⟩ := hrel
  cases gk with
  | zero => exact absurd HA.out (by simp [slices_IndexFunc_string_string.l0])
  | succ k1 =>
   have H := HA.out;clear HA;simp only [slices_IndexFunc_string_string.l0] at H
   by_cases c3 : x8_1 < (l0.length : Int)
   focus
    rw [if_pos c3] at H;have c3b0 : decide (x8_1 < (l0.length : Int)) = true := dT c3;clear c3
    by_cases c4 : 0 ≤ x8_1
    rotate_left;rw [if_neg c4] at H;exact absurd H (by simp);rw [if_pos c4] at H;have c4b0 : decide (0 ≤ x8_1) = true := dT c4;clear c4
    by_cases c5 : x8_1 < (l0.length : Int)
    rotate_left;rw [if_neg c5] at H;exact absurd H (by simp);rw [if_pos c5] at H;have c5b0 : decide (x8_1 < (l0.length : Int)) = true := dT c5;clear c5;obtain ⟨t129,A6,H⟩ := bE_ H
    by_cases c7 : t129 = true
    focus
     subst c7;rw [if_pos rfl] at H;obtain rfl := Option.some.inj H;simp only [eS,eP] at H;obtain ⟨rfl⟩ := H
    rotate_left
    focus
     replace c7 := Bool.eq_false_iff.mpr c7;subst c7;rw [if_neg Bool.false_ne_true] at H;have H' := aM H;clear H
   rotate_left 2
   focus
    rw [if_neg c3] at H;have c3b0 : decide (x8_1 < (l0.length : Int)) = false := dF c3;clear c3;obtain rfl := Option.some.inj H;simp only [eS,eP] at H;obtain ⟨rfl⟩ := H
   all_goals
    (try (have p01 : 0 ≤ (x8_1 : Int) := oD (by assumption);have q01 : x8_1 < (l0.length : Int) := oD (by assumption);obtain ⟨ad01,e01,hx01_0⟩ := Kd.at_string HR0.out x8_1 p01 q01;cases e01;replace p01 := eq_true p01;replace q01 := eq_true q01));go_wp2_with (first|(go_at_call 25;(with_reducible refine (impl_WriteRow_1.calls _ _ _ _ A6.out).mono ?_);rintro e w' ⟨rfl,⟨nd,rfl⟩⟩))
    first
     |
      go_ret;exact ⟨by first|rfl|(simp [*];done),by repeat (first|exact Drawn0.refl _|apply Drawn0.step)⟩
     |
      go_roundg k1
      case measure => have := HK1.out;omega
      case rel => exact ⟨(wrap64 (x8_1 + 1)),(by first|rfl|(simp [*];done)),H',⟨by have := HK1.out;omega⟩,by repeat (first|exact Drawn0.refl _|apply Drawn0.step)⟩
end Go.Proofs.YtbinfdheapjpnaaDoor.P
