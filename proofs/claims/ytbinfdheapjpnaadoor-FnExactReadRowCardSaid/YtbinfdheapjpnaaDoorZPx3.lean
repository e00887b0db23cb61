/- Written by a program in this session: each theorem here says that a Go function computes the Lean function beside it, or that a law's row holds, under the conditions that the theorem itself states. -/
import Derived.Test.YtbinfdheapjpnaaDoorZPx0
import Derived.Test.YtbinfdheapjpnaaDoorZPx1
import Derived.Test.YtbinfdheapjpnaaDoorZPx2
import Derived.Test.YtbinfdheapjpnaaDoorZShelf
namespace Go.Proofs.YtbinfdheapjpnaaDoor.P
open Go.RowKit Go.Proofs.YtbinfdheapjpnaaDoorW.PrintWords Go.Proofs.YtbinfdheapjpnaaDoorW.PrintLast Go.Proofs.YtbinfdheapjpnaaDoorW.PrintMore
attribute [local go_sem] max2_int min2_int max_two min_two max_three min_three max_four min_four   -- for this text's walks alone
set_option linter.unusedVariables false
set_option linter.unusedSimpArgs false
def slices_ContainsFunc_string_string.f (k : Nat) (l0 : List ByteArray) (a1 : Int) : Option (Bool) := (slices_IndexFunc_string_string.f k l0 a1).bind fun t130 => (some (decide (t130 ≥ 0)))
theorem slices_ContainsFunc_string_string.mono : ∀ a0 a1 k,LeO (slices_ContainsFunc_string_string.f k a0 a1) (slices_ContainsFunc_string_string.f (k + 1) a0 a1) := by
 intro a0 a1 k
 unfold slices_ContainsFunc_string_string.f
 repeat' first
   | (with_reducible exact slices_IndexFunc_string_string.mono _ _ _)
   | (with_reducible exact LeO.refl _)
   | (with_reducible exact LeO.none _)
   | (with_reducible refine LeO.ite ?_ ?_)
   | (with_reducible refine LeO.bind ?_ (fun _ => ?_))
   | exact slices_IndexFunc_string_string.mono _ _ _
   | exact LeO.none _
   | refine LeO.ite ?_ ?_
   | refine LeO.bind ?_ (fun _ => ?_)
set_option maxHeartbeats 8000000 in
set_option maxRecDepth 100000 in
theorem slices_ContainsFunc_string_string.calls (k : Nat) (A0 : Option Addr) (c0 : Nat) (l0 : List ByteArray) (a1 : Int) (r : Bool) (w : World) (hr0 : Kd.C Kd.string w A0 l0.length l0) (hc0 : l0.length ≤ c0) (h : slices_ContainsFunc_string_string.f k l0 a1 = some r) :
  Calls Tryd.prog 24 #[.slice A0 l0.length c0,.func (.func 25) #[] #[]] w fun e w' => e = .returned (.bool r) ∧ Drawn0 w w' := by
 have HR0 := aM hr0;have HC0 := aM hc0;clear hr0 hc0;have H : ((slices_IndexFunc_string_string.f k l0 a1).bind fun t130 => (some (decide (t130 ≥ 0)))) = some r := h;clear h;obtain ⟨t130,A3,H⟩ := bE_ H;obtain rfl := Option.some.inj H;simp only [eS,eP] at H;obtain ⟨rfl⟩ := H;go_enter Tryd.func24,Tryd.ntmps24;go_wp2_with (first|((with_reducible refine gate_callee (f := 33) rfl ?_);refine goesL_ (some 7) rfl rfl Tryd.func33 (by kernel_rfl) rfl #[.slice A0 l0.length c0,.func (.func 25) #[] #[]] rfl (by (try simp only [mT,mC,mN]);first|done|rfl|(simp only [xD,xT];rfl)) ?_;(with_reducible refine (slices_IndexFunc_string_string.calls k _ _ l0 a1 t130 _ ?side1 ?side2 A3.out).mono ?_);(case side1 => repeat (first|exact HR0.out|(with_reducible first|refine cA ?_ _|refine cN ?_ _|refine cD ?_)));(case side2 => exact HC0.out);rintro e w' ⟨rfl,⟨nd,rfl⟩⟩;refine ⟨_,rfl,?_⟩));go_ret;exact ⟨by first|rfl|(simp [*];done),by repeat (first|exact Drawn0.refl _|apply Drawn0.step)⟩
def strings_Join.f (a0 : List ByteArray) (a1 : ByteArray) : Option ByteArray := if a0.length ≤ 140737488355328 ∧ (Lib.join (a0.map (·.data.toList)) a1.data.toList).length ≤ 140737488355328 then some ⟨(Lib.join (a0.map (·.data.toList)) a1.data.toList).toArray⟩ else none
theorem strings_Join.calls (A0 : Option Addr) (c0 : Nat) (l0 : List ByteArray) (a1 : ByteArray) (r : ByteArray) (w : World) (hr0 : Kd.C Kd.string w A0 l0.length l0) (hc0 : l0.length ≤ c0) (h : strings_Join.f l0 a1 = some r) :
  Calls Tryd.prog 34 #[.slice A0 l0.length c0,.string a1] w fun e w' => e = .returned (.string r) ∧ Below w.heap.size w w' := by
 unfold strings_Join.f at h
 by_cases hs : l0.length ≤ 140737488355328 ∧ (Lib.join (l0.map (·.data.toList)) a1.data.toList).length ≤ 140737488355328
 ·rw [if_pos hs] at h;obtain rfl := Option.some.inj h
  cases l0 with
  | nil =>
   refine (Tryd.strings_Join_none A0 c0 a1 w).mono ?_;rintro e w' ⟨rfl,rfl⟩;exact ⟨rfl,Below.refl _ _⟩
  | cons x xs =>
   obtain ⟨_,_,hc1⟩ := hr0;obtain ⟨⟨b,o,s⟩,rfl,hc⟩ := hc1 (by rw [List.length_cons];omega);clear hc1
   have hcell : ∀ (j : Nat) y,(x :: xs)[j]? = some y → w.cell? (Addr.add ⟨b,o,s⟩ j) = some (.string y) := by
    intro j y hj;obtain ⟨c,_,hk,hcc⟩ := hc j y hj;have := hcc 0 (.string y) (by rw [show c = [.string y] from hk];rfl);simpa [show Kd.string.sz = 1 from rfl] using this
   have h0 := hcell 0 x rfl
   have hsp : s = none := by
    cases s with
    | none => rfl
    | some v =>
     simp only [Addr.add] at h0;unfold World.cell? at h0;split at h0
     ·simp at h0
     ·cases h0
   subst hsp;have hb : b < w.heap.size := wB w ⟨b,o,none⟩ (by simpa [Addr.add] using h0);refine Tryd.strings_Join b o c0 (x :: xs) a1 w (fun j y hj => ?_) hb hs.1 hc0 hs.2;have := hcell j y hj;unfold Addr.add at this
   by_cases e : j = 0
   ·subst e;simpa using this
   ·rw [if_neg e] at this;exact this
 ·rw [if_neg hs] at h;cases h
def impl_writeRow.l0 : Nat → List ByteArray → List ByteArray → Int → Int → Option (ByteArray)
 | 0,_,_,_,_ => none
 | k + 1,x3,x7,x8,x9 => if x9 < x8 then (if 0 ≤ x9 then (if x9 < (x7.length : Int) then ((impl_writeCell.f (rdOf ByteArray.empty x7 x9)).bind fun t135 => (if x3.length < 8796093022208 then (impl_writeRow.l0 k (x3 ++ [t135]) x7 x8 (wrap64 (x9 + 1))) else (none))) else (none)) else (none)) else ((strings_Join.f x3 (⟨#[44]⟩ : ByteArray)).bind fun t139 => (some t139))
def impl_writeRow.f (k : Nat) (l0 : List ByteArray) : Option (ByteArray) := impl_writeRow.l0 k (([] : List ByteArray)) l0 (l0.length : Int) 0
theorem impl_writeRow.mono_l : ∀ k,(∀ y0 y1 y2 y3,LeO (impl_writeRow.l0 k y0 y1 y2 y3) (impl_writeRow.l0 (k + 1) y0 y1 y2 y3))
 | 0 => fun _ _ _ _ r h => by simp [impl_writeRow.l0] at h
 | k + 1 => by
  have ih0 := impl_writeRow.mono_l k
  ·intro y0 y1 y2 y3
   unfold impl_writeRow.l0
   repeat' first
   | (with_reducible exact ih0 _ _ _ _)
   | (with_reducible exact LeO.refl _)
   | (with_reducible exact LeO.none _)
   | (with_reducible refine LeO.ite ?_ ?_)
   | (with_reducible refine LeO.bind ?_ (fun _ => ?_))
   | exact ih0 _ _ _ _
   | exact LeO.none _
   | refine LeO.ite ?_ ?_
   | refine LeO.bind ?_ (fun _ => ?_)
theorem impl_writeRow.mono : ∀ a0 k,LeO (impl_writeRow.f k a0) (impl_writeRow.f (k + 1) a0) := by
 intro a0 k
 have ih0 := impl_writeRow.mono_l k
 unfold impl_writeRow.f
 repeat' first
   | (with_reducible exact ih0 _ _ _ _)
   | (with_reducible exact LeO.refl _)
   | (with_reducible exact LeO.none _)
   | (with_reducible refine LeO.ite ?_ ?_)
   | (with_reducible refine LeO.bind ?_ (fun _ => ?_))
   | exact ih0 _ _ _ _
   | exact LeO.none _
   | refine LeO.ite ?_ ?_
   | refine LeO.bind ?_ (fun _ => ?_)
set_option maxHeartbeats 8000000 in
set_option maxRecDepth 100000 in
theorem impl_writeRow.calls (k : Nat) (A0 : Option Addr) (c0 : Nat) (l0 : List ByteArray) (r : ByteArray) (w : World) (hr0 : Kd.C Kd.string w A0 l0.length l0) (hc0 : l0.length ≤ c0) (hG : Gm w) (h : impl_writeRow.f k l0 = some r) :
  Calls Tryd.prog 26 #[.slice A0 l0.length c0] w fun e w' => e = .returned (.string r) ∧ Below w.heap.size w w' := by
 have HR0 := aM hr0;have HC0 := aM hc0;clear hr0 hc0;have HB := aM (Below.refl w.heap.size w);have HG := aM hG;clear hG;have H : (impl_writeRow.l0 k (([] : List ByteArray)) l0 (l0.length : Int) 0) = some r := h;clear h;obtain ⟨y131,hy131⟩ : ∃ y_ : List ByteArray,y_ = (([] : List ByteArray)) := ⟨_,rfl⟩;replace H : (impl_writeRow.l0 k y131 l0 (l0.length : Int) 0) = some r := (by first|(rw [hy131];with_reducible exact H)|(have H2_ := (Option.bind_some _ _).symm.trans H;rw [hy131];with_reducible exact H2_)|(have H2_ := (Option.bind_some _ _).symm.trans H;with_reducible exact H2_)|with_reducible exact H|(rw [hy131];exact H)|exact H);have Ny131 := aM hy131;clear hy131;have H' := aM H;clear H;go_enter Tryd.func26,Tryd.ntmps26;go_wp2_with (first|((with_reducible refine gate_dst (N := 6) rfl ?_);refine Kd.R_lit Kd.string _ 9 ?hg (N := 6) ?hd (xs := ([] : List ByteArray)) (inner := []) (ok := fun _ => True) (okp := fun _ => True) ?hr ?hp (fun _ hk => hk) trivial (Below.refl _ _) (Nat.le_refl _) (by simp) ?_;(case hd => rfl);(case hg => rfl);(case hr => first|(go_simp;done)|(go_simp;rfl));(case hp => exact (Reps.none _ _));intro v132 w2 ho3 hb hg_ hnew_;clear hg_ hnew_;(first|rw [← Ny131.out] at ho3|(simp only [Int.reduceToNat] at ho3;rw [← Ny131.out] at ho3));have HO133 := aM (Kd.R_lower ho3 (lZ (by repeat (first|(with_reducible first|exact HB.out|apply lA|apply lN|apply lD)|exact HB.out))));replace HB := aM (lT (by repeat (first|(with_reducible first|exact HB.out|apply lA|apply lN|apply lD)|exact HB.out)) hb);clear hb ho3));go_loopg [3,9] k (fun kq v3 v9 w' => ∃ (x3_1 : List ByteArray) (x9_1 : Int),v9 = .int .i64 x9_1 ∧ Aside0 (impl_writeRow.l0 kq x3_1 l0 (l0.length : Int) x9_1 = some r) ∧ Aside0 (kq ≤ k) ∧ Aside0 (Kd.R Kd.string 9 w' w.heap.size (fun _ => True) v3 x3_1) ∧ Aside0 (Below w.heap.size w w'))
 case atStart => exact ⟨(y131),(0),(by first|rfl|(simp [*];done)),H',⟨Nat.le_refl _⟩,⟨by (with_reducible repeat (first|apply rA|apply rN|apply rD));exact HO133.out⟩,⟨by repeat (first|(with_reducible first|exact HB.out|apply lA|apply lN|apply lD)|exact HB.out)⟩⟩
 case round =>
  clear H';(try clear c2);(try clear p2);obtain ⟨x3_1,x9_1,rfl,HA,HK1,HO_3,HB⟩ := hrel
  cases gk with
  | zero => exact absurd HA.out (by simp [impl_writeRow.l0])
  | succ k1 =>
   have H := HA.out;clear HA;simp only [impl_writeRow.l0] at H
   by_cases c4 : x9_1 < (l0.length : Int)
   focus
    rw [if_pos c4] at H;have c4b0 : decide (x9_1 < (l0.length : Int)) = true := dT c4;clear c4
    by_cases c5 : 0 ≤ x9_1
    rotate_left;rw [if_neg c5] at H;exact absurd H (by simp);rw [if_pos c5] at H;have c5b0 : decide (0 ≤ x9_1) = true := dT c5;clear c5
    by_cases c6 : x9_1 < (l0.length : Int)
    rotate_left;rw [if_neg c6] at H;exact absurd H (by simp);rw [if_pos c6] at H;have c6b0 : decide (x9_1 < (l0.length : Int)) = true := dT c6;clear c6;obtain ⟨t135,A7,H⟩ := bE_ H
    by_cases c8 : x3_1.length < 8796093022208
    rotate_left;rw [if_neg c8] at H;exact absurd H (by simp);rw [if_pos c8] at H;have LMc8 := aM c8;clear c8;obtain ⟨y136,hy136⟩ : ∃ y_ : List ByteArray,y_ = (x3_1 ++ [t135]) := ⟨_,rfl⟩;replace H : (impl_writeRow.l0 k1 y136 l0 (l0.length : Int) (wrap64 (x9_1 + 1))) = some r := (by first|(rw [hy136];with_reducible exact H)|(have H2_ := (Option.bind_some _ _).symm.trans H;rw [hy136];with_reducible exact H2_)|(have H2_ := (Option.bind_some _ _).symm.trans H;with_reducible exact H2_)|with_reducible exact H|(rw [hy136];exact H)|exact H);have Ny136 := aM hy136;clear hy136;have H' := aM H;clear H
   rotate_left
   focus
    rw [if_neg c4] at H;have c4b0 : decide (x9_1 < (l0.length : Int)) = false := dF c4;clear c4;obtain ⟨t139,A11,H⟩ := bE_ H;obtain rfl := Option.some.inj H;simp only [eS,eP] at H;obtain ⟨rfl⟩ := H;obtain ⟨Ao12,co12,eo12⟩ := Kd.R_slice HO_3.out;subst eo12
   all_goals
    (try (have p01 : 0 ≤ (x9_1 : Int) := oD (by assumption);have q01 : x9_1 < (l0.length : Int) := oD (by assumption);obtain ⟨ad01,e01,hx01_0⟩ := Kd.at_string HR0.out x9_1 p01 q01;cases e01;replace hx01_0 := (HB.out.cell (wB w _ hx01_0)).trans hx01_0;replace p01 := eq_true p01;replace q01 := eq_true q01));go_wp2_with (first|((with_reducible refine gate_callee (f := 34) rfl ?_);refine goesL_ (some 20) rfl rfl Tryd.func34 (by kernel_rfl) rfl #[.slice Ao12 x3_1.length co12,.string (⟨#[44]⟩ : ByteArray)] rfl (by (try simp only [mT,mC,mN]);first|done|rfl|(simp only [xD,xT];rfl)) ?_;(with_reducible refine (strings_Join.calls _ _ _ _ _ _ ?side1 ?side2 A11.out).mono ?_);(case side1 => repeat (first|exact (rR HO_3.out).2.2|(with_reducible first|refine cA ?_ _|refine cN ?_ _|refine cD ?_)));(case side2 => exact (rR HO_3.out).2.1);rintro e WA11 ⟨rfl,hb⟩;refine ⟨_,rfl,?_⟩;replace HO_3 := aM (rB (by (with_reducible repeat (first|apply rA|apply rN|apply rD));exact HO_3.out) hb);replace HB := aM (lT (by repeat (first|(with_reducible first|exact HB.out|apply lA|apply lN|apply lD)|exact HB.out)) hb);(try clear hb))|((with_reducible refine gate_callee (f := 20) rfl ?_);refine goesL_ (some 15) rfl rfl Tryd.func20 (by kernel_rfl) rfl #[.string (rdOf ByteArray.empty l0 x9_1)] rfl (by (try simp only [mT,mC,mN]);first|done|rfl|(simp only [xD,xT];rfl)) ?_;(with_reducible refine (impl_writeCell.calls _ _ _ ?side1 A7.out).mono ?_);(case side1 => exact Gm.below HG.out (by repeat (first|(with_reducible first|exact HB.out|apply lA|apply lN|apply lD)|exact HB.out)));rintro e WA7 ⟨rfl,hb⟩;refine ⟨_,rfl,?_⟩;replace HO_3 := aM (rB (by (with_reducible repeat (first|apply rA|apply rN|apply rD));exact HO_3.out) hb);replace HB := aM (lT (by repeat (first|(with_reducible first|exact HB.out|apply lA|apply lN|apply lD)|exact HB.out)) hb);(try clear hb))|((with_reducible refine gate_builtin (b := .append) (xs := #[.tmp 13,.tmp 16]) rfl ?_);at_builtin;refine Kd.R_append Kd.string (w0 := w) w.heap.size rfl (.tmp 13) (.tmp 16) 25 9 (.string ⟨#[]⟩) 16 rfl Tryd.underlying25 info9 rfl (by decide) (by omega) u3 x3_1 t135 [.string t135] (fun _ => True) (fun _ => False) rfl rfl ?aP (fun _ hk => hk.elim) ?aF ?aO ?aB ?aS ?aL ?_;(case aP => exact rfl);(case aB => exact (by repeat (first|(with_reducible first|exact HB.out|apply lA|apply lN|apply lD)|exact HB.out)));(case aF => exact (fun _ _ => trivial));(case aO => exact (by (with_reducible repeat (first|apply rA|apply rN|apply rD));exact HO_3.out));(case aS => exact (lZ (by repeat (first|(with_reducible first|exact HB.out|apply lA|apply lN|apply lD)|exact HB.out))));(case aL => have := LMc8.out;omega);intro v137 w10 ho hb hg hat;rw [← Ny136.out] at ho;have n0_ := aM (hb);have n1_ := aM (ho);clear HB;clear HO_3;have HB := n0_;have HO138 := n1_;clear n0_ n1_;clear ho hb hg hat))
    first
     |
      go_ret;exact ⟨by first|rfl|(simp [*];done),by repeat (first|(with_reducible first|exact HB.out|apply lA|apply lN|apply lD)|exact HB.out)⟩
     |
      go_roundg k1
      case measure => have := HK1.out;omega
      case rel => exact ⟨(y136),(wrap64 (x9_1 + 1)),(by first|rfl|(simp [*];done)),H',⟨by have := HK1.out;omega⟩,⟨by (with_reducible repeat (first|apply rA|apply rN|apply rD));exact HO138.out⟩,⟨by repeat (first|(with_reducible first|exact HB.out|apply lA|apply lN|apply lD)|exact HB.out)⟩⟩
def impl_WriteRow.f (k : Nat) (l0 : List ByteArray) : Option (ByteArray × Bool) := (impl_inside.f (l0.length : Int) 1 20).bind fun t140 => (if t140 = true then ((slices_ContainsFunc_string_string.f k l0 0).bind fun t141 => (if t141 = true then (some ((⟨#[]⟩ : ByteArray),false)) else ((impl_writeRow.f k l0).bind fun t142 => (some (t142,true))))) else (some ((⟨#[]⟩ : ByteArray),false)))
theorem impl_WriteRow.mono : ∀ a0 k,LeO (impl_WriteRow.f k a0) (impl_WriteRow.f (k + 1) a0) := by
 intro a0 k
 unfold impl_WriteRow.f
 repeat' first
   | (with_reducible exact impl_writeRow.mono _ _)
   | (with_reducible exact slices_ContainsFunc_string_string.mono _ _ _)
   | (with_reducible exact LeO.refl _)
   | (with_reducible exact LeO.none _)
   | (with_reducible refine LeO.ite ?_ ?_)
   | (with_reducible refine LeO.bind ?_ (fun _ => ?_))
   | exact impl_writeRow.mono _ _
   | exact slices_ContainsFunc_string_string.mono _ _ _
   | exact LeO.none _
   | refine LeO.ite ?_ ?_
   | refine LeO.bind ?_ (fun _ => ?_)
set_option maxHeartbeats 8000000 in
set_option maxRecDepth 100000 in
theorem impl_WriteRow.calls (k : Nat) (A0 : Option Addr) (c0 : Nat) (l0 : List ByteArray) (r1 : ByteArray) (r2 : Bool) (w : World) (hr0 : Kd.C Kd.string w A0 l0.length l0) (hc0 : l0.length ≤ c0) (hG : Gm w) (h : impl_WriteRow.f k l0 = some (r1,r2)) :
  Calls Tryd.prog 11 #[.slice A0 l0.length c0] w fun e w' => e = .returned (.tuple #[.string r1,.bool r2]) ∧ Below w.heap.size w w' := by
 have HR0 := aM hr0;have HC0 := aM hc0;clear hr0 hc0;have HB := aM (Below.refl w.heap.size w);have HG := aM hG;clear hG;have H : ((impl_inside.f (l0.length : Int) 1 20).bind fun t140 => (if t140 = true then ((slices_ContainsFunc_string_string.f k l0 0).bind fun t141 => (if t141 = true then (some ((⟨#[]⟩ : ByteArray),false)) else ((impl_writeRow.f k l0).bind fun t142 => (some (t142,true))))) else (some ((⟨#[]⟩ : ByteArray),false)))) = some (r1,r2) := h;clear h;obtain ⟨t140,A2,H⟩ := bE_ H
 by_cases c3 : t140 = true
 focus
  subst c3;rw [if_pos rfl] at H;obtain ⟨t141,A4,H⟩ := bE_ H
  by_cases c5 : t141 = true
  focus
   subst c5;rw [if_pos rfl] at H;simp only [eS,eP] at H;obtain ⟨rfl,rfl⟩ := H
  rotate_left
  focus
   replace c5 := Bool.eq_false_iff.mpr c5;subst c5;rw [if_neg Bool.false_ne_true] at H;obtain ⟨t142,A6,H⟩ := bE_ H;simp only [eS,eP] at H;obtain ⟨rfl,rfl⟩ := H
 rotate_left 2
 focus
  replace c3 := Bool.eq_false_iff.mpr c3;subst c3;rw [if_neg Bool.false_ne_true] at H;simp only [eS,eP] at H;obtain ⟨rfl,rfl⟩ := H
 all_goals
  go_enter Tryd.func11,Tryd.ntmps11;go_wp2_with (first|((with_reducible refine gate_callee (f := 23) rfl ?_);refine goesL_ (some 6) rfl rfl Tryd.func23 (by kernel_rfl) rfl #[.int .i64 (l0.length : Int),.int .i64 1,.int .i64 20] rfl (by (try simp only [mT,mC,mN]);first|done|rfl|(simp only [xD,xT];rfl)) ?_;(with_reducible refine (impl_inside.calls _ _ _ _ _ A2.out).mono ?_);rintro e w' ⟨rfl,⟨nd,rfl⟩⟩;refine ⟨_,rfl,?_⟩)|(go_at_call 24;(with_reducible refine (slices_ContainsFunc_string_string.calls _ _ _ _ _ _ _ ?side1 ?side2 A4.out).mono ?_);(case side1 => repeat (first|exact HR0.out|(with_reducible first|refine cA ?_ _|refine cN ?_ _|refine cD ?_)));(case side2 => exact HC0.out);rintro e w' ⟨rfl,⟨nd,rfl⟩⟩)|((with_reducible refine gate_callee (f := 26) rfl ?_);refine goesL_ (some 13) rfl rfl Tryd.func26 (by kernel_rfl) rfl #[.slice A0 l0.length c0] rfl (by (try simp only [mT,mC,mN]);first|done|rfl|(simp only [xD,xT];rfl)) ?_;(with_reducible refine (impl_writeRow.calls _ _ _ _ _ _ ?side1 ?side2 ?side3 A6.out).mono ?_);(case side1 => repeat (first|exact HR0.out|(with_reducible first|refine cA ?_ _|refine cN ?_ _|refine cD ?_)));(case side2 => exact HC0.out);(case side3 => exact Gm.below HG.out (by repeat (first|(with_reducible first|exact HB.out|apply lA|apply lN|apply lD)|exact HB.out)));rintro e WA6 ⟨rfl,hb⟩;refine ⟨_,rfl,?_⟩;replace HB := aM (lT (by repeat (first|(with_reducible first|exact HB.out|apply lA|apply lN|apply lD)|exact HB.out)) hb);(try clear hb)));go_ret2;exact ⟨by first|rfl|(simp [*];done),by repeat (first|(with_reducible first|exact HB.out|apply lA|apply lN|apply lD)|exact HB.out)⟩
def laws_eqStringS.l0 : Nat → List ByteArray → List ByteArray → Int → Option (Bool)
 | 0,_,_,_ => none
 | k + 1,x0,x1,x5 => if x5 < (x0.length : Int) then (if 0 ≤ x5 then (if x5 < (x1.length : Int) then (if (rdOf ByteArray.empty x0 x5).toList = (rdOf ByteArray.empty x1 x5).toList then (laws_eqStringS.l0 k x0 x1 (wrap64 (x5 + 1))) else (some false)) else (none)) else (none)) else (some true)
def laws_eqStringS.f (k : Nat) (l0 : List ByteArray) (l1 : List ByteArray) : Option (Bool) := if (l0.length : Int) = (l1.length : Int) then (laws_eqStringS.l0 k l0 l1 0) else (some false)
theorem laws_eqStringS.mono_l : ∀ k,(∀ y0 y1 y2,LeO (laws_eqStringS.l0 k y0 y1 y2) (laws_eqStringS.l0 (k + 1) y0 y1 y2))
 | 0 => fun _ _ _ r h => by simp [laws_eqStringS.l0] at h
 | k + 1 => by
  have ih0 := laws_eqStringS.mono_l k
  ·intro y0 y1 y2
   unfold laws_eqStringS.l0
   repeat' first
   | (with_reducible exact ih0 _ _ _)
   | (with_reducible exact LeO.refl _)
   | (with_reducible exact LeO.none _)
   | (with_reducible refine LeO.ite ?_ ?_)
   | (with_reducible refine LeO.bind ?_ (fun _ => ?_))
   | exact ih0 _ _ _
   | exact LeO.none _
   | refine LeO.ite ?_ ?_
   | refine LeO.bind ?_ (fun _ => ?_)
theorem laws_eqStringS.mono : ∀ a0 a1 k,LeO (laws_eqStringS.f k a0 a1) (laws_eqStringS.f (k + 1) a0 a1) := by
 intro a0 a1 k
 have ih0 := laws_eqStringS.mono_l k
 unfold laws_eqStringS.f
 repeat' first
   | (with_reducible exact ih0 _ _ _)
   | (with_reducible exact LeO.refl _)
   | (with_reducible exact LeO.none _)
   | (with_reducible refine LeO.ite ?_ ?_)
   | (with_reducible refine LeO.bind ?_ (fun _ => ?_))
   | exact ih0 _ _ _
   | exact LeO.none _
   | refine LeO.ite ?_ ?_
   | refine LeO.bind ?_ (fun _ => ?_)
set_option maxHeartbeats 8000000 in
set_option maxRecDepth 100000 in
theorem laws_eqStringS.calls (k : Nat) (A0 : Option Addr) (c0 : Nat) (l0 : List ByteArray) (A1 : Option Addr) (c1 : Nat) (l1 : List ByteArray) (r : Bool) (w : World) (hr0 : Kd.C Kd.string w A0 l0.length l0) (hc0 : l0.length ≤ c0) (hr1 : Kd.C Kd.string w A1 l1.length l1) (hc1 : l1.length ≤ c1) (h : laws_eqStringS.f k l0 l1 = some r) :
  Calls Tryd.prog 12 #[.slice A0 l0.length c0,.slice A1 l1.length c1] w fun e w' => e = .returned (.bool r) ∧ Drawn0 w w' := by
 have HR0 := aM hr0;have HC0 := aM hc0;clear hr0 hc0;have HR1 := aM hr1;have HC1 := aM hc1;clear hr1 hc1;have H : (if (l0.length : Int) = (l1.length : Int) then (laws_eqStringS.l0 k l0 l1 0) else (some false)) = some r := h;clear h
 by_cases c3 : (l0.length : Int) = (l1.length : Int)
 ·rw [if_pos c3] at H;have c3b0 : ((l0.length : Int) == (l1.length : Int)) = true := beq_iff_eq.mpr c3;have c3b1 : ((l0.length : Int) != (l1.length : Int)) = false := bne_eq_false_iff_eq.mpr c3;have c3b2 : (l0.length == l1.length) = true := (by first|simpa using c3|(simp at c3 ⊢;omega));clear c3;have H' := aM H;clear H;go_enter Tryd.func12,Tryd.ntmps12;go_wp2;(repeat (go_quiet (fail);try go_wp2));go_loopg [5] k (fun kq v5 w' => ∃ (x5_1 : Int),v5 = .int .i64 x5_1 ∧ Aside0 (laws_eqStringS.l0 kq l0 l1 x5_1 = some r) ∧ Aside0 (kq ≤ k) ∧ Drawn0 w w')
  case atStart => exact ⟨(0),(by first|rfl|(simp [*];done)),H',⟨Nat.le_refl _⟩,by repeat (first|exact Drawn0.refl _|apply Drawn0.step)⟩
  case round =>
   clear H';(try clear c1);(try clear p2);(try clear c3);(try clear c3b0);(try clear c3b1);(try clear c3b2);obtain ⟨x5_1,rfl,HA,HK1,⟨m1,rfl⟩⟩ := hrel
   cases gk with
   | zero => exact absurd HA.out (by simp [laws_eqStringS.l0])
   | succ k1 =>
    have H := HA.out;clear HA;simp only [laws_eqStringS.l0] at H
    by_cases c4 : x5_1 < (l0.length : Int)
    focus
     rw [if_pos c4] at H;have c4b0 : decide (x5_1 < (l0.length : Int)) = true := dT c4;clear c4
     by_cases c5 : 0 ≤ x5_1
     rotate_left;rw [if_neg c5] at H;exact absurd H (by simp);rw [if_pos c5] at H;have c5b0 : decide (0 ≤ x5_1) = true := dT c5;clear c5
     by_cases c6 : x5_1 < (l1.length : Int)
     rotate_left;rw [if_neg c6] at H;exact absurd H (by simp);rw [if_pos c6] at H;have c6b0 : decide (x5_1 < (l1.length : Int)) = true := dT c6;clear c6
     by_cases c7 : (rdOf ByteArray.empty l0 x5_1).toList = (rdOf ByteArray.empty l1 x5_1).toList
     focus
      rw [if_pos c7] at H;have c7b0 : ((rdOf ByteArray.empty l0 x5_1).toList == (rdOf ByteArray.empty l1 x5_1).toList) = true := beq_iff_eq.mpr c7;have c7b1 : ((rdOf ByteArray.empty l0 x5_1).toList != (rdOf ByteArray.empty l1 x5_1).toList) = false := bne_eq_false_iff_eq.mpr c7;clear c7;have H' := aM H;clear H
     rotate_left
     focus
      rw [if_neg c7] at H;have c7b0 : ((rdOf ByteArray.empty l0 x5_1).toList == (rdOf ByteArray.empty l1 x5_1).toList) = false := beq_eq_false_iff_ne.mpr c7;have c7b1 : ((rdOf ByteArray.empty l0 x5_1).toList != (rdOf ByteArray.empty l1 x5_1).toList) = true := bne_iff_ne.mpr c7;obtain rfl := Option.some.inj H;simp only [eS,eP] at H;obtain ⟨rfl⟩ := H
    rotate_left 2
    focus
     rw [if_neg c4] at H;have c4b0 : decide (x5_1 < (l0.length : Int)) = false := dF c4;clear c4;obtain rfl := Option.some.inj H;simp only [eS,eP] at H;obtain ⟨rfl⟩ := H
    all_goals
     (try (have p01 : 0 ≤ (x5_1 : Int) := oD (by assumption);have q01 : x5_1 < (l0.length : Int) := oD (by assumption);obtain ⟨ad01,e01,hx01_0⟩ := Kd.at_string HR0.out x5_1 p01 q01;cases e01;replace p01 := eq_true p01;replace q01 := eq_true q01));(try (have p02 : 0 ≤ (x5_1 : Int) := oD (by assumption);have q02 : x5_1 < (l1.length : Int) := oD (by assumption);obtain ⟨ad02,e02,hx02_0⟩ := Kd.at_string HR1.out x5_1 p02 q02;cases e02;replace p02 := eq_true p02;replace q02 := eq_true q02));go_wp2;(repeat (go_quiet (fail);try go_wp2))
     first
      |
       go_ret;exact ⟨by first|rfl|(simp [*];done),by repeat (first|exact Drawn0.refl _|apply Drawn0.step)⟩
      |
       go_roundg k1
       case measure => have := HK1.out;omega
       case rel => exact ⟨(wrap64 (x5_1 + 1)),(by first|rfl|(simp [*];done)),H',⟨by have := HK1.out;omega⟩,by repeat (first|exact Drawn0.refl _|apply Drawn0.step)⟩
 ·rw [if_neg c3] at H;have c3b0 : ((l0.length : Int) == (l1.length : Int)) = false := beq_eq_false_iff_ne.mpr c3;have c3b1 : ((l0.length : Int) != (l1.length : Int)) = true := bne_iff_ne.mpr c3;have c3b2 : (l0.length == l1.length) = false := (by first|simpa using c3|(simp at c3 ⊢;omega));obtain rfl := Option.some.inj H;simp only [eS,eP] at H;obtain ⟨rfl⟩ := H;go_enter Tryd.func12,Tryd.ntmps12;go_wp2;(repeat (go_quiet (fail);try go_wp2));go_ret;exact ⟨by first|rfl|(simp [*];done),by repeat (first|exact Drawn0.refl _|apply Drawn0.step)⟩
def laws_FnExactWriteRow.j0 : Nat → List ByteArray → List ByteArray → Bool → Option (Bool)
 | 0,_,_,_ => none
 | k + 1,x0,x6,x34 => if x34 = true then (some false) else ((laws_toStringS.f k x0).bind fun t156 => ((laws_eqStringS.f k x6 t156).bind fun t159 => (if t159 = true then (some true) else (some false))))
def laws_FnExactWriteRow.f (k : Nat) (l0 : List ByteArray) : Option (Bool) := (laws_szStringS.f k l0 1048576).bind fun t145 => (if t145 < 0 then (some true) else ((laws_toStringS.f k l0).bind fun t146 => ((spec_WriteRow.f k t146).bind fun bt149 => ((laws_toStringS.f k l0).bind fun t151 => ((impl_WriteRow.f k t151).bind fun bt154 => (if bt154.1.toList = bt149.1.toList then (laws_FnExactWriteRow.j0 k l0 t151 (bt154.2 != bt149.2)) else (laws_FnExactWriteRow.j0 k l0 t151 true)))))))
theorem laws_FnExactWriteRow.mono_l : ∀ k,(∀ y0 y1 y2,LeO (laws_FnExactWriteRow.j0 k y0 y1 y2) (laws_FnExactWriteRow.j0 (k + 1) y0 y1 y2))
 | 0 => fun _ _ _ r h => by simp [laws_FnExactWriteRow.j0] at h
 | k + 1 => by
  have ih0 := laws_FnExactWriteRow.mono_l k
  ·intro y0 y1 y2
   unfold laws_FnExactWriteRow.j0
   repeat' first
   | (with_reducible exact ih0 _ _ _)
   | (with_reducible exact impl_WriteRow.mono _ _)
   | (with_reducible exact laws_eqStringS.mono _ _ _)
   | (with_reducible exact laws_szStringS.mono _ _ _)
   | (with_reducible exact laws_toStringS.mono _ _)
   | (with_reducible exact spec_WriteRow.mono _ _)
   | (with_reducible exact LeO.refl _)
   | (with_reducible exact LeO.none _)
   | (with_reducible refine LeO.ite ?_ ?_)
   | (with_reducible refine LeO.bind ?_ (fun _ => ?_))
   | exact ih0 _ _ _
   | exact impl_WriteRow.mono _ _
   | exact laws_eqStringS.mono _ _ _
   | exact laws_szStringS.mono _ _ _
   | exact laws_toStringS.mono _ _
   | exact spec_WriteRow.mono _ _
   | exact LeO.none _
   | refine LeO.ite ?_ ?_
   | refine LeO.bind ?_ (fun _ => ?_)
theorem laws_FnExactWriteRow.mono : ∀ a0 k,LeO (laws_FnExactWriteRow.f k a0) (laws_FnExactWriteRow.f (k + 1) a0) := by
 intro a0 k
 have ih0 := laws_FnExactWriteRow.mono_l k
 unfold laws_FnExactWriteRow.f
 repeat' first
   | (with_reducible exact ih0 _ _ _)
   | (with_reducible exact impl_WriteRow.mono _ _)
   | (with_reducible exact laws_eqStringS.mono _ _ _)
   | (with_reducible exact laws_szStringS.mono _ _ _)
   | (with_reducible exact laws_toStringS.mono _ _)
   | (with_reducible exact spec_WriteRow.mono _ _)
   | (with_reducible exact LeO.refl _)
   | (with_reducible exact LeO.none _)
   | (with_reducible refine LeO.ite ?_ ?_)
   | (with_reducible refine LeO.bind ?_ (fun _ => ?_))
   | exact ih0 _ _ _
   | exact impl_WriteRow.mono _ _
   | exact laws_eqStringS.mono _ _ _
   | exact laws_szStringS.mono _ _ _
   | exact laws_toStringS.mono _ _
   | exact spec_WriteRow.mono _ _
   | exact LeO.none _
   | refine LeO.ite ?_ ?_
   | refine LeO.bind ?_ (fun _ => ?_)
set_option maxHeartbeats 8000000 in
set_option maxRecDepth 100000 in
theorem laws_FnExactWriteRow.calls (k : Nat) (A0 : Option Addr) (c0 : Nat) (l0 : List ByteArray) (r : Bool) (w : World) (hr0 : Kd.C Kd.string w A0 l0.length l0) (hc0 : l0.length ≤ c0) (hG : Gm w) (hr_ : r = true) (h : laws_FnExactWriteRow.f k l0 = some r) :
  Calls Tryd.prog 4 #[.slice A0 l0.length c0] w fun e w' => e = .returned (.bool r) ∧ Below w.heap.size w w' := by
 have HR0 := aM hr0;have HC0 := aM hc0;clear hr0 hc0;have HB := aM (Below.refl w.heap.size w);have HG := aM hG;clear hG;have H : ((laws_szStringS.f k l0 1048576).bind fun t145 => (if t145 < 0 then (some true) else ((laws_toStringS.f k l0).bind fun t146 => ((spec_WriteRow.f k t146).bind fun bt149 => ((laws_toStringS.f k l0).bind fun t151 => ((impl_WriteRow.f k t151).bind fun bt154 => (if bt154.1.toList = bt149.1.toList then (laws_FnExactWriteRow.j0 k l0 t151 (bt154.2 != bt149.2)) else (laws_FnExactWriteRow.j0 k l0 t151 true)))))))) = some r := h;clear h;obtain ⟨t145,A2,H⟩ := bE_ H
 by_cases c3 : t145 < 0
 ·rw [if_pos c3] at H;have c3b0 : decide (t145 < 0) = true := dT c3;clear c3;obtain rfl := Option.some.inj H;(try clear hr_);go_enter Tryd.func4,Tryd.ntmps4;go_wp2_with (first|((with_reducible refine gate_callee (f := 8) rfl ?_);refine goesL_ (some 11) rfl rfl Tryd.func8 (by kernel_rfl) rfl #[.slice A0 l0.length c0,.int .i64 1048576] rfl (by (try simp only [mT,mC,mN]);first|done|rfl|(simp only [xD,xT];rfl)) ?_;(with_reducible refine (laws_szStringS.calls k _ _ l0 1048576 t145 _ ?side1 ?side2 A2.out).mono ?_);(case side1 => repeat (first|exact HR0.out|(with_reducible first|refine cA ?_ _|refine cN ?_ _|refine cD ?_)));(case side2 => exact HC0.out);rintro e w' ⟨rfl,⟨nd,rfl⟩⟩;refine ⟨_,rfl,?_⟩));go_ret;exact ⟨by first|rfl|(simp [*];done),by repeat (first|(with_reducible first|exact HB.out|apply lA|apply lN|apply lD)|exact HB.out)⟩
 ·rw [if_neg c3] at H;have c3b0 : decide (t145 < 0) = false := dF c3;clear c3;obtain ⟨t146,A4,H⟩ := bE_ H;replace H := Option.bind_eq_some_iff.mp H;obtain ⟨⟨t149,t150⟩,A50,H⟩ := H;replace H : ((laws_toStringS.f k l0).bind fun t151 => ((impl_WriteRow.f k t151).bind fun bt154 => (if bt154.1.toList = t149.toList then (laws_FnExactWriteRow.j0 k l0 t151 (bt154.2 != t150)) else (laws_FnExactWriteRow.j0 k l0 t151 true)))) = some r := H;have A5 := aM A50;clear A50;obtain ⟨t151,A6,H⟩ := bE_ H;replace H := Option.bind_eq_some_iff.mp H;obtain ⟨⟨t154,t155⟩,A70,H⟩ := H;replace H : (if t154.toList = t149.toList then (laws_FnExactWriteRow.j0 k l0 t151 (t155 != t150)) else (laws_FnExactWriteRow.j0 k l0 t151 true)) = some r := H;have A7 := aM A70;clear A70;have HC8 := aM H;clear H;go_enter Tryd.func4,Tryd.ntmps4;go_upto_region 8 with (first|((with_reducible refine gate_callee (f := 8) rfl ?_);refine goesL_ (some 11) rfl rfl Tryd.func8 (by kernel_rfl) rfl #[.slice A0 l0.length c0,.int .i64 1048576] rfl (by (try simp only [mT,mC,mN]);first|done|rfl|(simp only [xD,xT];rfl)) ?_;(with_reducible refine (laws_szStringS.calls k _ _ l0 1048576 t145 _ ?side1 ?side2 A2.out).mono ?_);(case side1 => repeat (first|exact HR0.out|(with_reducible first|refine cA ?_ _|refine cN ?_ _|refine cD ?_)));(case side2 => exact HC0.out);rintro e w' ⟨rfl,⟨nd,rfl⟩⟩;refine ⟨_,rfl,?_⟩)|((with_reducible refine gate_callee (f := 10) rfl ?_);refine goesL_ (some 16) rfl rfl Tryd.func10 (by kernel_rfl) rfl #[.slice A0 l0.length c0] rfl (by (try simp only [mT,mC,mN]);first|done|rfl|(simp only [xD,xT];rfl)) ?_;(with_reducible refine (laws_toStringS.calls k _ _ l0 t146 _ ?side1 ?side2 A4.out).mono ?_);(case side1 => repeat (first|exact HR0.out|(with_reducible first|refine cA ?_ _|refine cN ?_ _|refine cD ?_)));(case side2 => exact HC0.out);rintro e w9 ⟨v147,rfl,ho0,hb⟩;refine ⟨_,rfl,?_⟩;have HO148 := aM (Kd.R_lower ho0 (lZ (by repeat (first|(with_reducible first|exact HB.out|apply lA|apply lN|apply lD)|exact HB.out))));replace HB := aM (lT (by repeat (first|(with_reducible first|exact HB.out|apply lA|apply lN|apply lD)|exact HB.out)) hb);(try clear hb);(try clear ho0);obtain ⟨Ao10,co10,eo10⟩ := Kd.R_slice HO148.out;subst eo10)|((with_reducible refine gate_callee (f := 9) rfl ?_);refine goesL_ (some 17) rfl rfl Tryd.func9 (by kernel_rfl) rfl #[.slice Ao10 t146.length co10] rfl (by (try simp only [mT,mC,mN]);first|done|rfl|(simp only [xD,xT];rfl)) ?_;(with_reducible refine (spec_WriteRow.calls k _ _ t146 t149 t150 _ ?side1 ?side2 A5.out).mono ?_);(case side1 => repeat (first|exact (rR HO148.out).2.2|(with_reducible first|refine cA ?_ _|refine cN ?_ _|refine cD ?_)));(case side2 => exact (rR HO148.out).2.1);rintro e w' ⟨rfl,⟨nd,rfl⟩⟩;refine ⟨_,rfl,?_⟩)|((with_reducible refine gate_callee (f := 10) rfl ?_);refine goesL_ (some 21) rfl rfl Tryd.func10 (by kernel_rfl) rfl #[.slice A0 l0.length c0] rfl (by (try simp only [mT,mC,mN]);first|done|rfl|(simp only [xD,xT];rfl)) ?_;(with_reducible refine (laws_toStringS.calls k _ _ l0 t151 _ ?side1 ?side2 A6.out).mono ?_);(case side1 => repeat (first|exact (cB HR0.out (by repeat (first|(with_reducible first|exact HB.out|apply lA|apply lN|apply lD)|exact HB.out)))|(with_reducible first|refine cA ?_ _|refine cN ?_ _|refine cD ?_)));(case side2 => exact HC0.out);rintro e w11 ⟨v152,rfl,ho0,hb⟩;refine ⟨_,rfl,?_⟩;have HO153 := aM (Kd.R_lower (Kd.R_new' ho0 (Kd.R_lt (by (with_reducible repeat (first|apply rA|apply rN|apply rD));exact HO148.out))) (lZ (by repeat (first|(with_reducible first|exact HB.out|apply lA|apply lN|apply lD)|exact HB.out))));replace HO148 := aM (Kd.R_elder' (by (with_reducible repeat (first|apply rA|apply rN|apply rD));exact HO148.out) (Kd.R_base ho0) hb);replace HB := aM (lT (by repeat (first|(with_reducible first|exact HB.out|apply lA|apply lN|apply lD)|exact HB.out)) hb);(try clear hb);(try clear ho0);obtain ⟨Ao12,co12,eo12⟩ := Kd.R_slice HO153.out;subst eo12)|((with_reducible refine gate_callee (f := 11) rfl ?_);refine goesL_ (some 24) rfl rfl Tryd.func11 (by kernel_rfl) rfl #[.slice Ao12 t151.length co12] rfl (by (try simp only [mT,mC,mN]);first|done|rfl|(simp only [xD,xT];rfl)) ?_;(with_reducible refine (impl_WriteRow.calls k _ _ t151 t154 t155 _ ?side1 ?side2 ?side3 A7.out).mono ?_);(case side1 => repeat (first|exact (rR HO153.out).2.2|(with_reducible first|refine cA ?_ _|refine cN ?_ _|refine cD ?_)));(case side2 => exact (rR HO153.out).2.1);(case side3 => exact Gm.below HG.out (by repeat (first|(with_reducible first|exact HB.out|apply lA|apply lN|apply lD)|exact HB.out)));rintro e w13 ⟨rfl,hb⟩;refine ⟨_,rfl,?_⟩;replace HO148 := aM (rB (by (with_reducible repeat (first|apply rA|apply rN|apply rD));exact HO148.out) hb);replace HO153 := aM (rB (by (with_reducible repeat (first|apply rA|apply rN|apply rD));exact HO153.out) hb);replace HB := aM (lT (by repeat (first|(with_reducible first|exact HB.out|apply lA|apply lN|apply lD)|exact HB.out)) hb);(try clear hb)));(try simp only [Act.put,lI,sZ,sS]);go_cut [34] (fun v34 wc => ∃ (kq : Nat) (x34_7 : Bool),v34 = .bool x34_7 ∧ Aside0 (laws_FnExactWriteRow.j0 kq l0 t151 x34_7 = some r) ∧ Aside0 (kq ≤ k) ∧ Aside0 (Kd.R Kd.string 9 wc w.heap.size (fun _ => True) (.slice Ao12 t151.length co12) t151) ∧ Aside0 (Below w.heap.size w wc))
  case first =>
   have H := HC8.out;clear HC8
   by_cases c14 : t154.toList = t149.toList
   ·rw [if_pos c14] at H;have c14b0 : (t154.toList == t149.toList) = true := beq_iff_eq.mpr c14;have c14b1 : (t154.toList != t149.toList) = false := bne_eq_false_iff_eq.mpr c14;clear c14;(first|rw [c14b0]|(simp only [i64_w,i32_w];rw [c14b0])|skip);have H' := aM H;clear H;go_wp2;go_meet
    case rel => exact ⟨_,((t155 != t150)),(by first|rfl|(simp [*];done)),H',⟨by first|omega|exact Nat.le_refl _⟩,⟨by (with_reducible repeat (first|apply rA|apply rN|apply rD));exact Kd.R_mono HO153.out (fun _ hk => trivial)⟩,⟨by repeat (first|(with_reducible first|exact HB.out|apply lA|apply lN|apply lD)|exact HB.out)⟩⟩
   ·rw [if_neg c14] at H;have c14b0 : (t154.toList == t149.toList) = false := beq_eq_false_iff_ne.mpr c14;have c14b1 : (t154.toList != t149.toList) = true := bne_iff_ne.mpr c14;(first|rw [c14b0]|(simp only [i64_w,i32_w];rw [c14b0])|skip);have H' := aM H;clear H;go_wp2;go_meet
    case rel => exact ⟨_,(true),(by first|rfl|(simp [*];done)),H',⟨by first|omega|exact Nat.le_refl _⟩,⟨by (with_reducible repeat (first|apply rA|apply rN|apply rD));exact Kd.R_mono HO153.out (fun _ hk => trivial)⟩,⟨by repeat (first|(with_reducible first|exact HB.out|apply lA|apply lN|apply lD)|exact HB.out)⟩⟩
  case rest =>
   clear HC8;(try clear c1);(try clear p2);(try clear c3);(try clear c3b0);(try clear c4);(try clear c8);(try clear c9);(try clear c10);(try clear c11);(try clear c14);(try clear c14b0);(try clear c14b1);obtain ⟨kq,x34_7,rfl,HA,HJ7,HO_6,HB⟩ := hcut
   cases kq with
   | zero => exact absurd HA.out (by simp [laws_FnExactWriteRow.j0])
   | succ kj7 =>
    have H := HA.out;clear HA;simp only [laws_FnExactWriteRow.j0] at H
    by_cases c15 : x34_7 = true
    ·subst c15;rw [if_pos rfl] at H;exact absurd ((Option.some.inj H).trans hr_) (by decide)
    ·replace c15 := Bool.eq_false_iff.mpr c15;subst c15;rw [if_neg Bool.false_ne_true] at H;obtain ⟨t156,A16,H⟩ := bE_ H;obtain ⟨t159,A17,H⟩ := bE_ H
     by_cases c18 : t159 = true
     ·subst c18;rw [if_pos rfl] at H;obtain rfl := Option.some.inj H;(try clear hr_);go_wp2_with (first|((with_reducible refine gate_callee (f := 10) rfl ?_);refine goesL_ (some 37) rfl rfl Tryd.func10 (by kernel_rfl) rfl #[.slice A0 l0.length c0] rfl (by (try simp only [mT,mC,mN]);first|done|rfl|(simp only [xD,xT];rfl)) ?_;(with_reducible refine (laws_toStringS.calls kj7 _ _ l0 t156 _ ?side1 ?side2 A16.out).mono ?_);(case side1 => repeat (first|exact (cB HR0.out HB.out)|(with_reducible first|refine cA ?_ _|refine cN ?_ _|refine cD ?_)));(case side2 => exact HC0.out);rintro e w19 ⟨v157,rfl,ho0,hb⟩;refine ⟨_,rfl,?_⟩;have HO158 := aM (Kd.R_lower (Kd.R_new' ho0 (Kd.R_lt (by (with_reducible repeat (first|apply rA|apply rN|apply rD));exact HO_6.out))) (lZ (by repeat (first|(with_reducible first|exact HB.out|apply lA|apply lN|apply lD)|exact HB.out))));replace HO_6 := aM (Kd.R_elder' (by (with_reducible repeat (first|apply rA|apply rN|apply rD));exact HO_6.out) (Kd.R_base ho0) hb);replace HB := aM (lT (by repeat (first|(with_reducible first|exact HB.out|apply lA|apply lN|apply lD)|exact HB.out)) hb);(try clear hb);(try clear ho0);obtain ⟨Ao20,co20,eo20⟩ := Kd.R_slice HO158.out;subst eo20)|((with_reducible refine gate_callee (f := 12) rfl ?_);refine goesL_ (some 38) rfl rfl Tryd.func12 (by kernel_rfl) rfl #[.slice Ao12 t151.length co12,.slice Ao20 t156.length co20] rfl (by (try simp only [mT,mC,mN]);first|done|rfl|(simp only [xD,xT];rfl)) ?_;(with_reducible refine (laws_eqStringS.calls kj7 _ _ t151 _ _ t156 true _ ?side1 ?side2 ?side3 ?side4 A17.out).mono ?_);(case side1 => repeat (first|exact (rR HO_6.out).2.2|(with_reducible first|refine cA ?_ _|refine cN ?_ _|refine cD ?_)));(case side2 => exact (rR HO_6.out).2.1);(case side3 => repeat (first|exact (rR HO158.out).2.2|(with_reducible first|refine cA ?_ _|refine cN ?_ _|refine cD ?_)));(case side4 => exact (rR HO158.out).2.1);rintro e w' ⟨rfl,⟨nd,rfl⟩⟩;refine ⟨_,rfl,?_⟩));go_ret;exact ⟨by first|rfl|(simp [*];done),by repeat (first|(with_reducible first|exact HB.out|apply lA|apply lN|apply lD)|exact HB.out)⟩
     ·replace c18 := Bool.eq_false_iff.mpr c18;subst c18;rw [if_neg Bool.false_ne_true] at H;exact absurd ((Option.some.inj H).trans hr_) (by decide)
def laws_FnExactWriteRow.Pure : Prop := ∀ (l0 : List ByteArray),(l0.length * 16 ≤ 140737488351232 ∧ l0.length ≤ maxLen ∧ ∀ a_ ∈ l0,a_.size ≤ 140737488351232) → ∃ k,laws_FnExactWriteRow.f k l0 = some true
end Go.Proofs.YtbinfdheapjpnaaDoor.P
