/- Written by a program in this session: each theorem here says that a Go function computes the Lean function beside it, or that a law's row holds, under the conditions that the theorem itself states. -/
import Derived.Test.YtmkkcpdpfelalaaZPx0
import Derived.Test.YtmkkcpdpfelalaaZPx1
import Derived.Test.YtmkkcpdpfelalaaZPx2
import Derived.Test.YtmkkcpdpfelalaaZPx3
import Derived.Test.YtmkkcpdpfelalaaZPx5
import Derived.Test.YtmkkcpdpfelalaaZPx8
namespace Go.Proofs.Ytmkkcpdpfelalaa.P
open Go.RowKit Go.Proofs.YtmkkcpdpfelalaaW.PrintWords Go.Proofs.YtmkkcpdpfelalaaW.PrintLast Go.Proofs.YtmkkcpdpfelalaaW.PrintMore
attribute [local go_sem] max2_int min2_int max_two min_two max_three min_three max_four min_four   -- for this text's walks alone
set_option linter.unusedVariables false
set_option linter.unusedSimpArgs false
def laws_szLocaleS.l0 : Nat → List (S25) → Int → Int → Option (Int)
 | 0,_,_,_ => none
 | k + 1,x0,x1,x5 => if x5 < (x0.length : Int) then (if 0 ≤ x5 then ((laws_szLocale.f k ((rd_T25 x0 x5).f0) ((rd_T25 x0 x5).f1) ((rd_T25 x0 x5).f2) ((rd_T25 x0 x5).f3) ((rd_T25 x0 x5).f4) x1).bind fun t449 => (if t449 < 0 then (some (-1)) else (laws_szLocaleS.l0 k x0 t449 (wrap64 (x5 + 1))))) else (none)) else (some x1)
def laws_szLocaleS.f (k : Nat) (l0 : List (S25)) (a1 : Int) : Option (Int) := if (wrap64 (a1 - (l0.length : Int))) < 0 then (some (-1)) else (laws_szLocaleS.l0 k l0 (wrap64 (a1 - (l0.length : Int))) 0)
theorem laws_szLocaleS.mono_l : ∀ k,(∀ y0 y1 y2,LeO (laws_szLocaleS.l0 k y0 y1 y2) (laws_szLocaleS.l0 (k + 1) y0 y1 y2))
 | 0 => fun _ _ _ r h => by simp [laws_szLocaleS.l0] at h
 | k + 1 => by
  have ih0 := laws_szLocaleS.mono_l k
  ·intro y0 y1 y2
   unfold laws_szLocaleS.l0
   repeat' first
   | (with_reducible exact ih0 _ _ _)
   | (with_reducible exact laws_szLocale.mono _ _ _ _ _ _ _)
   | (with_reducible exact LeO.refl _)
   | (with_reducible exact LeO.none _)
   | (with_reducible refine LeO.ite ?_ ?_)
   | (with_reducible refine LeO.bind ?_ (fun _ => ?_))
   | exact ih0 _ _ _
   | exact laws_szLocale.mono _ _ _ _ _ _ _
   | exact LeO.none _
   | refine LeO.ite ?_ ?_
   | refine LeO.bind ?_ (fun _ => ?_)
theorem laws_szLocaleS.mono : ∀ a0 a1 k,LeO (laws_szLocaleS.f k a0 a1) (laws_szLocaleS.f (k + 1) a0 a1) := by
 intro a0 a1 k
 have ih0 := laws_szLocaleS.mono_l k
 unfold laws_szLocaleS.f
 repeat' first
   | (with_reducible exact ih0 _ _ _)
   | (with_reducible exact laws_szLocale.mono _ _ _ _ _ _ _)
   | (with_reducible exact LeO.refl _)
   | (with_reducible exact LeO.none _)
   | (with_reducible refine LeO.ite ?_ ?_)
   | (with_reducible refine LeO.bind ?_ (fun _ => ?_))
   | exact ih0 _ _ _
   | exact laws_szLocale.mono _ _ _ _ _ _ _
   | exact LeO.none _
   | refine LeO.ite ?_ ?_
   | refine LeO.bind ?_ (fun _ => ?_)
set_option maxHeartbeats 8000000 in
set_option maxRecDepth 100000 in
theorem laws_szLocaleS.calls (k : Nat) (A0 : Option Addr) (c0 : Nat) (l0 : List (S25)) (a1 : Int) (r : Int) (w : World) (hr0 : Kd.C k25 w A0 l0.length l0) (hc0 : l0.length ≤ c0) (h : laws_szLocaleS.f k l0 a1 = some r) :
  Calls Try.prog 16 #[.slice A0 l0.length c0,.int .i64 a1] w fun e w' => e = .returned (.int .i64 r) ∧ Below w.heap.size w w' := by
 have hu25 := Try.underlying25;have HR0 := aM hr0;have HC0 := aM hc0;clear hr0 hc0;have HB := aM (Below.refl w.heap.size w);have H : (if (wrap64 (a1 - (l0.length : Int))) < 0 then (some (-1)) else (laws_szLocaleS.l0 k l0 (wrap64 (a1 - (l0.length : Int))) 0)) = some r := h;clear h
 by_cases c3 : (wrap64 (a1 - (l0.length : Int))) < 0
 ·rw [if_pos c3] at H;have c3b0 : decide ((wrap64 (a1 - (l0.length : Int))) < 0) = true := dT c3;clear c3;obtain rfl := Option.some.inj H;simp only [eS,eP] at H;obtain ⟨rfl⟩ := H;go_enter Try.func16,Try.ntmps16;go_wp2;go_ret;exact ⟨by first|rfl|(simp [*];done),by repeat (first|(with_reducible first|exact HB.out|apply lA|apply lN|apply lD)|exact HB.out)⟩
 ·rw [if_neg c3] at H;have c3b0 : decide ((wrap64 (a1 - (l0.length : Int))) < 0) = false := dF c3;clear c3;have H' := aM H;clear H;go_enter Try.func16,Try.ntmps16;go_wp2;go_loopg [1,5] k (fun kq v1 v5 w' => ∃ (x1_1 : Int) (x5_1 : Int),v1 = .int .i64 x1_1 ∧ v5 = .int .i64 x5_1 ∧ Aside0 (laws_szLocaleS.l0 kq l0 x1_1 x5_1 = some r) ∧ Aside0 (kq ≤ k) ∧ Aside0 (Below w.heap.size w w'))
  case atStart => exact ⟨(wrap64 (a1 - (l0.length : Int))),(0),(by first|rfl|(simp [*];done)),(by first|rfl|(simp [*];done)),H',⟨Nat.le_refl _⟩,⟨by repeat (first|(with_reducible first|exact HB.out|apply lA|apply lN|apply lD)|exact HB.out)⟩⟩
  case round =>
   clear H';(try clear c1);(try clear p2);(try clear c3);(try clear c3b0);obtain ⟨x1_1,x5_1,rfl,rfl,HA,HK1,HB⟩ := hrel
   cases gk with
   | zero => exact absurd HA.out (by simp [laws_szLocaleS.l0])
   | succ k1 =>
    have H := HA.out;clear HA;simp only [laws_szLocaleS.l0] at H
    by_cases c4 : x5_1 < (l0.length : Int)
    focus
     rw [if_pos c4] at H;have c4b0 : decide (x5_1 < (l0.length : Int)) = true := dT c4;clear c4
     by_cases c5 : 0 ≤ x5_1
     rotate_left;rw [if_neg c5] at H;exact absurd H (by simp);rw [if_pos c5] at H;have c5b0 : decide (0 ≤ x5_1) = true := dT c5;clear c5;obtain ⟨t449,A6,H⟩ := bE_ H
     by_cases c7 : t449 < 0
     focus
      rw [if_pos c7] at H;have c7b0 : decide (t449 < 0) = true := dT c7;clear c7;obtain rfl := Option.some.inj H;simp only [eS,eP] at H;obtain ⟨rfl⟩ := H
     rotate_left
     focus
      rw [if_neg c7] at H;have c7b0 : decide (t449 < 0) = false := dF c7;clear c7;have H' := aM H;clear H
    rotate_left 2
    focus
     rw [if_neg c4] at H;have c4b0 : decide (x5_1 < (l0.length : Int)) = false := dF c4;clear c4;obtain rfl := Option.some.inj H;simp only [eS,eP] at H;obtain ⟨rfl⟩ := H
    all_goals
     (try (have p01 : 0 ≤ (x5_1 : Int) := oD (by assumption);have q01 : x5_1 < (l0.length : Int) := oD (by assumption);obtain ⟨ad01,A01_1,c01_1,A01_2,c01_2,e01,hx01_0,hx01_1,hx01_2,hx01_3,hx01_4,hl01_1,hi01_1,hl01_2,hi01_2⟩ := at_T25 HR0.out x5_1 p01 q01;cases e01;replace hx01_0 := (HB.out.cell (wB w _ hx01_0)).trans hx01_0;replace hx01_1 := (HB.out.cell (wB w _ hx01_1)).trans hx01_1;replace hx01_2 := (HB.out.cell (wB w _ hx01_2)).trans hx01_2;replace hx01_3 := (HB.out.cell (wB w _ hx01_3)).trans hx01_3;replace hx01_4 := (HB.out.cell (wB w _ hx01_4)).trans hx01_4;have HR01_1 := aM hi01_1;have HC01_1 := aM hl01_1;clear hi01_1 hl01_1;have HR01_2 := aM hi01_2;have HC01_2 := aM hl01_2;clear hi01_2 hl01_2;replace p01 := eq_true p01;replace q01 := eq_true q01));go_wp2_with (first|((with_reducible refine gate_callee (f := 9) rfl ?_);refine goesL_ (some 23) rfl rfl Try.func9 (by kernel_rfl) rfl #[.agg #[.string ((rd_T25 l0 x5_1).f0),.slice A01_1 ((rd_T25 l0 x5_1).f1).length c01_1,.slice A01_2 ((rd_T25 l0 x5_1).f2).length c01_2,.string ((rd_T25 l0 x5_1).f3),.string ((rd_T25 l0 x5_1).f4)],.int .i64 x1_1] rfl (by (try simp only [mT,mC,mN]);first|done|rfl|(simp only [xD,xT];rfl)) ?_;(with_reducible refine (laws_szLocale.calls _ _ _ _ _ _ _ _ _ _ _ _ _ ?side1 ?side2 ?side3 ?side4 A6.out).mono ?_);(case side1 => repeat (first|exact (cB HR01_1.out HB.out)|(with_reducible first|refine cA ?_ _|refine cN ?_ _|refine cD ?_)));(case side2 => exact HC01_1.out);(case side3 => repeat (first|exact (cB HR01_2.out HB.out)|(with_reducible first|refine cA ?_ _|refine cN ?_ _|refine cD ?_)));(case side4 => exact HC01_2.out);rintro e WA6 ⟨rfl,hb⟩;refine ⟨_,rfl,?_⟩;replace HB := aM (lT (by repeat (first|(with_reducible first|exact HB.out|apply lA|apply lN|apply lD)|exact HB.out)) hb);(try clear hb)))
     first
      |
       go_ret;exact ⟨by first|rfl|(simp [*];done),by repeat (first|(with_reducible first|exact HB.out|apply lA|apply lN|apply lD)|exact HB.out)⟩
      |
       go_roundg k1
       case measure => have := HK1.out;omega
       case rel => exact ⟨(t449),(wrap64 (x5_1 + 1)),(by first|rfl|(simp [*];done)),(by first|rfl|(simp [*];done)),H',⟨by have := HK1.out;omega⟩,⟨by repeat (first|(with_reducible first|exact HB.out|apply lA|apply lN|apply lD)|exact HB.out)⟩⟩
mutual
def spec_FallbackTerm.j0 : Nat → List (S31) → ByteArray → Int → Bool → Option (ByteArray × Int × Bool)
 | 0,_,_,_,_ => none
 | k + 1,x0,x1,x2,x19 => if x19 = true then (some ((⟨#[]⟩ : ByteArray),0,false)) else (spec_FallbackTerm.l0 k x0 x1 x2 0)
def spec_FallbackTerm.l0 : Nat → List (S31) → ByteArray → Int → Int → Option (ByteArray × Int × Bool)
 | 0,_,_,_,_ => none
 | k + 1,x0,x1,x2,x9 => if x9 < (x0.length : Int) then (if 0 ≤ x9 then ((spec_l23Good.f k ((rd_T31 x0 x9).f0) ((rd_T31 x0 x9).f1) ((rd_T31 x0 x9).f2) ((rd_T31 x0 x9).f3) ((rd_T31 x0 x9).f4)).bind fun t452 => (if t452 = true then (spec_FallbackTerm.l0 k x0 x1 x2 (wrap64 (x9 + 1))) else (some ((⟨#[]⟩ : ByteArray),0,false)))) else (none)) else (spec_FallbackTerm.l1 k x0 x1 x2 0)
def spec_FallbackTerm.l1 : Nat → List (S31) → ByteArray → Int → Int → Option (ByteArray × Int × Bool)
 | 0,_,_,_,_ => none
 | k + 1,x0,x1,x2,x10 => if x10 < (x0.length : Int) then (if 0 ≤ x10 then ((spec_l23Find.f k ((rd_T31 x0 x10).f0) ((rd_T31 x0 x10).f1) ((rd_T31 x0 x10).f2) ((rd_T31 x0 x10).f3) ((rd_T31 x0 x10).f4) x1).bind fun t454 => (if t454 ≥ 0 then (if 0 ≤ t454 then (if t454 < (((rd_T31 x0 x10).f1).length : Int) then ((spec_l23For.f ((rd_T61 ((rd_T31 x0 x10).f1) t454).f0) ((rd_T61 ((rd_T31 x0 x10).f1) t454).f1) ((rd_T61 ((rd_T31 x0 x10).f1) t454).f2) x2).bind fun t457 => (some (t457,x10,true))) else (none)) else (none)) else (spec_FallbackTerm.l1 k x0 x1 x2 (wrap64 (x10 + 1))))) else (none)) else (some ((⟨#[]⟩ : ByteArray),0,false))
end
def spec_FallbackTerm.f (k : Nat) (l0 : List (S31)) (a1 : ByteArray) (a2 : Int) : Option (ByteArray × Int × Bool) := if (l0.length : Int) > 5 then (spec_FallbackTerm.j0 k l0 a1 a2 true) else ((spec_l1In.f a2 0 999999).bind fun t450 => (spec_FallbackTerm.j0 k l0 a1 a2 (!t450)))
theorem spec_FallbackTerm.mono_l : ∀ k,(∀ y0 y1 y2 y3,LeO (spec_FallbackTerm.j0 k y0 y1 y2 y3) (spec_FallbackTerm.j0 (k + 1) y0 y1 y2 y3)) ∧ (∀ y0 y1 y2 y3,LeO (spec_FallbackTerm.l0 k y0 y1 y2 y3) (spec_FallbackTerm.l0 (k + 1) y0 y1 y2 y3)) ∧ (∀ y0 y1 y2 y3,LeO (spec_FallbackTerm.l1 k y0 y1 y2 y3) (spec_FallbackTerm.l1 (k + 1) y0 y1 y2 y3))
 | 0 => ⟨fun _ _ _ _ r h => by simp [spec_FallbackTerm.j0] at h,fun _ _ _ _ r h => by simp [spec_FallbackTerm.l0] at h,fun _ _ _ _ r h => by simp [spec_FallbackTerm.l1] at h⟩
 | k + 1 => by
  obtain ⟨ih0,ih1,ih2⟩ := spec_FallbackTerm.mono_l k
  refine ⟨?_,?_,?_⟩
  ·intro y0 y1 y2 y3
   unfold spec_FallbackTerm.j0
   repeat' first
   | (with_reducible exact ih0 _ _ _ _)
   | (with_reducible exact ih1 _ _ _ _)
   | (with_reducible exact ih2 _ _ _ _)
   | (with_reducible exact spec_l23Find.mono _ _ _ _ _ _ _)
   | (with_reducible exact spec_l23Good.mono _ _ _ _ _ _)
   | (with_reducible exact LeO.refl _)
   | (with_reducible exact LeO.none _)
   | (with_reducible refine LeO.ite ?_ ?_)
   | (with_reducible refine LeO.bind ?_ (fun _ => ?_))
   | exact ih0 _ _ _ _
   | exact ih1 _ _ _ _
   | exact ih2 _ _ _ _
   | exact spec_l23Find.mono _ _ _ _ _ _ _
   | exact spec_l23Good.mono _ _ _ _ _ _
   | exact LeO.none _
   | refine LeO.ite ?_ ?_
   | refine LeO.bind ?_ (fun _ => ?_)
  ·intro y0 y1 y2 y3
   unfold spec_FallbackTerm.l0
   repeat' first
   | (with_reducible exact ih0 _ _ _ _)
   | (with_reducible exact ih1 _ _ _ _)
   | (with_reducible exact ih2 _ _ _ _)
   | (with_reducible exact spec_l23Find.mono _ _ _ _ _ _ _)
   | (with_reducible exact spec_l23Good.mono _ _ _ _ _ _)
   | (with_reducible exact LeO.refl _)
   | (with_reducible exact LeO.none _)
   | (with_reducible refine LeO.ite ?_ ?_)
   | (with_reducible refine LeO.bind ?_ (fun _ => ?_))
   | exact ih0 _ _ _ _
   | exact ih1 _ _ _ _
   | exact ih2 _ _ _ _
   | exact spec_l23Find.mono _ _ _ _ _ _ _
   | exact spec_l23Good.mono _ _ _ _ _ _
   | exact LeO.none _
   | refine LeO.ite ?_ ?_
   | refine LeO.bind ?_ (fun _ => ?_)
  ·intro y0 y1 y2 y3
   unfold spec_FallbackTerm.l1
   repeat' first
   | (with_reducible exact ih0 _ _ _ _)
   | (with_reducible exact ih1 _ _ _ _)
   | (with_reducible exact ih2 _ _ _ _)
   | (with_reducible exact spec_l23Find.mono _ _ _ _ _ _ _)
   | (with_reducible exact spec_l23Good.mono _ _ _ _ _ _)
   | (with_reducible exact LeO.refl _)
   | (with_reducible exact LeO.none _)
   | (with_reducible refine LeO.ite ?_ ?_)
   | (with_reducible refine LeO.bind ?_ (fun _ => ?_))
   | exact ih0 _ _ _ _
   | exact ih1 _ _ _ _
   | exact ih2 _ _ _ _
   | exact spec_l23Find.mono _ _ _ _ _ _ _
   | exact spec_l23Good.mono _ _ _ _ _ _
   | exact LeO.none _
   | refine LeO.ite ?_ ?_
   | refine LeO.bind ?_ (fun _ => ?_)
theorem spec_FallbackTerm.mono : ∀ a0 a1 a2 k,LeO (spec_FallbackTerm.f k a0 a1 a2) (spec_FallbackTerm.f (k + 1) a0 a1 a2) := by
 intro a0 a1 a2 k
 obtain ⟨ih0,ih1,ih2⟩ := spec_FallbackTerm.mono_l k
 unfold spec_FallbackTerm.f
 repeat' first
   | (with_reducible exact ih0 _ _ _ _)
   | (with_reducible exact ih1 _ _ _ _)
   | (with_reducible exact ih2 _ _ _ _)
   | (with_reducible exact spec_l23Find.mono _ _ _ _ _ _ _)
   | (with_reducible exact spec_l23Good.mono _ _ _ _ _ _)
   | (with_reducible exact LeO.refl _)
   | (with_reducible exact LeO.none _)
   | (with_reducible refine LeO.ite ?_ ?_)
   | (with_reducible refine LeO.bind ?_ (fun _ => ?_))
   | exact ih0 _ _ _ _
   | exact ih1 _ _ _ _
   | exact ih2 _ _ _ _
   | exact spec_l23Find.mono _ _ _ _ _ _ _
   | exact spec_l23Good.mono _ _ _ _ _ _
   | exact LeO.none _
   | refine LeO.ite ?_ ?_
   | refine LeO.bind ?_ (fun _ => ?_)
set_option maxHeartbeats 8000000 in
set_option maxRecDepth 100000 in
theorem spec_FallbackTerm.calls (k : Nat) (A0 : Option Addr) (c0 : Nat) (l0 : List (S31)) (a1 : ByteArray) (a2 : Int) (r1 : ByteArray) (r2 : Int) (r3 : Bool) (w : World) (hr0 : Kd.C k31 w A0 l0.length l0) (hc0 : l0.length ≤ c0) (h : spec_FallbackTerm.f k l0 a1 a2 = some (r1,r2,r3)) :
  Calls Try.prog 17 #[.slice A0 l0.length c0,.string a1,.int .i64 a2] w fun e w' => e = .returned (.tuple #[.string r1,.int .i64 r2,.bool r3]) ∧ Below w.heap.size w w' := by
 have hu31 := Try.underlying31;have hu61 := Try.underlying61;have HR0 := aM hr0;have HC0 := aM hc0;clear hr0 hc0;have HB := aM (Below.refl w.heap.size w);have H : (if (l0.length : Int) > 5 then (spec_FallbackTerm.j0 k l0 a1 a2 true) else ((spec_l1In.f a2 0 999999).bind fun t450 => (spec_FallbackTerm.j0 k l0 a1 a2 (!t450)))) = some (r1,r2,r3) := h;clear h;have HC4 := aM H;clear H;go_enter Try.func17,Try.ntmps17;go_upto_region 1 with (fail);go_cut [19] (fun v19 wc => ∃ (kq : Nat) (x19_3 : Bool),v19 = .bool x19_3 ∧ Aside0 (spec_FallbackTerm.j0 kq l0 a1 a2 x19_3 = some (r1,r2,r3)) ∧ Aside0 (kq ≤ k) ∧ Aside0 (Below w.heap.size w wc))
 case first =>
  have H := HC4.out;clear HC4
  by_cases c5 : (l0.length : Int) > 5
  ·rw [if_pos c5] at H;have c5b0 : decide (5 < (l0.length : Int)) = true := dT c5;have c5b1 : decide (5 < l0.length) = true := dT (by omega);clear c5;(first|rw [c5b0]|(simp only [i64_w,i32_w];rw [c5b0])|skip);have H' := aM H;clear H;go_wp2;go_meet
   case rel => exact ⟨_,(true),(by first|rfl|(simp [*];done)),H',⟨by first|omega|exact Nat.le_refl _⟩,⟨by repeat (first|(with_reducible first|exact HB.out|apply lA|apply lN|apply lD)|exact HB.out)⟩⟩
  ·rw [if_neg c5] at H;have c5b0 : decide (5 < (l0.length : Int)) = false := dF c5;have c5b1 : decide (5 < l0.length) = false := dF (by omega);clear c5;(first|rw [c5b0]|(simp only [i64_w,i32_w];rw [c5b0])|skip);obtain ⟨t450,A6,H⟩ := bE_ H;have H' := aM H;clear H;go_wp2_with (first|(go_at_call 49;(with_reducible refine (spec_l1In.calls a2 0 999999 t450 _ A6.out).mono ?_);rintro e w' ⟨rfl,⟨nd,rfl⟩⟩));go_meet
   case rel => exact ⟨_,(!t450),(by first|rfl|(simp [*];done)),H',⟨by first|omega|exact Nat.le_refl _⟩,⟨by repeat (first|(with_reducible first|exact HB.out|apply lA|apply lN|apply lD)|exact HB.out)⟩⟩
 case rest =>
  clear HC4;(try clear c1);(try clear p2);(try clear c5);(try clear c5b0);(try clear c5b1);obtain ⟨kq,x19_3,rfl,HA,HJ3,HB⟩ := hcut
  cases kq with
  | zero => exact absurd HA.out (by simp [spec_FallbackTerm.j0])
  | succ kj3 =>
   have H := HA.out;clear HA;simp only [spec_FallbackTerm.j0] at H
   by_cases c7 : x19_3 = true
   ·subst c7;rw [if_pos rfl] at H;simp only [eS,eP] at H;obtain ⟨rfl,rfl,rfl⟩ := H;go_wp2;go_ret3;exact ⟨by first|rfl|(simp [*];done),by repeat (first|(with_reducible first|exact HB.out|apply lA|apply lN|apply lD)|exact HB.out)⟩
   ·replace c7 := Bool.eq_false_iff.mpr c7;subst c7;rw [if_neg Bool.false_ne_true] at H;have H' := aM H;clear H;go_wp2;go_loopg [9] kj3 (fun kq v9 w' => ∃ (x9_2 : Int),v9 = .int .i64 x9_2 ∧ Aside0 (spec_FallbackTerm.l0 kq l0 a1 a2 x9_2 = some (r1,r2,r3)) ∧ Aside0 (kq ≤ kj3) ∧ Aside0 (Below w.heap.size w w'))
    case atStart => exact ⟨(0),(by first|rfl|(simp [*];done)),H',⟨Nat.le_refl _⟩,⟨by repeat (first|(with_reducible first|exact HB.out|apply lA|apply lN|apply lD)|exact HB.out)⟩⟩
    case round =>
     clear H';(try clear c1);(try clear p2);(try clear c5);(try clear c5b0);(try clear c5b1);(try clear c7);(try clear p2);obtain ⟨x9_2,rfl,HA,HK2,HB⟩ := hrel
     cases gk with
     | zero => exact absurd HA.out (by simp [spec_FallbackTerm.l0])
     | succ k2 =>
      have H := HA.out;clear HA;simp only [spec_FallbackTerm.l0] at H
      by_cases c8 : x9_2 < (l0.length : Int)
      focus
       rw [if_pos c8] at H;have c8b0 : decide (x9_2 < (l0.length : Int)) = true := dT c8;clear c8
       by_cases c9 : 0 ≤ x9_2
       rotate_left;rw [if_neg c9] at H;exact absurd H (by simp);rw [if_pos c9] at H;have c9b0 : decide (0 ≤ x9_2) = true := dT c9;clear c9;obtain ⟨t452,A10,H⟩ := bE_ H
       by_cases c11 : t452 = true
       focus
        subst c11;rw [if_pos rfl] at H;have H' := aM H;clear H
       rotate_left
       focus
        replace c11 := Bool.eq_false_iff.mpr c11;subst c11;rw [if_neg Bool.false_ne_true] at H;simp only [eS,eP] at H;obtain ⟨rfl,rfl,rfl⟩ := H
      rotate_left 2
      focus
       rw [if_neg c8] at H;have c8b0 : decide (x9_2 < (l0.length : Int)) = false := dF c8;clear c8;have H' := aM H;clear H
      all_goals
       (try (have p04 : 0 ≤ (x9_2 : Int) := oD (by assumption);have q04 : x9_2 < (l0.length : Int) := oD (by assumption);obtain ⟨ad04,A04_1,c04_1,A04_2,c04_2,e04,hx04_0,hx04_1,hx04_2,hx04_3,hx04_4,hl04_1,hi04_1,hl04_2,hi04_2⟩ := at_T31 HR0.out x9_2 p04 q04;cases e04;replace hx04_0 := (HB.out.cell (wB w _ hx04_0)).trans hx04_0;replace hx04_1 := (HB.out.cell (wB w _ hx04_1)).trans hx04_1;replace hx04_2 := (HB.out.cell (wB w _ hx04_2)).trans hx04_2;replace hx04_3 := (HB.out.cell (wB w _ hx04_3)).trans hx04_3;replace hx04_4 := (HB.out.cell (wB w _ hx04_4)).trans hx04_4;have HR04_1 := aM hi04_1;have HC04_1 := aM hl04_1;clear hi04_1 hl04_1;have HR04_2 := aM hi04_2;have HC04_2 := aM hl04_2;clear hi04_2 hl04_2;replace p04 := eq_true p04;replace q04 := eq_true q04));go_wp2_with (first|((with_reducible refine gate_callee (f := 38) rfl ?_);refine goesL_ (some 30) rfl rfl Try.func38 (by kernel_rfl) rfl #[.agg #[.string ((rd_T31 l0 x9_2).f0),.slice A04_1 ((rd_T31 l0 x9_2).f1).length c04_1,.slice A04_2 ((rd_T31 l0 x9_2).f2).length c04_2,.string ((rd_T31 l0 x9_2).f3),.string ((rd_T31 l0 x9_2).f4)]] rfl (by (try simp only [mT,mC,mN]);first|done|rfl|(simp only [xD,xT];rfl)) ?_;(with_reducible refine (spec_l23Good.calls _ _ _ _ _ _ _ _ _ _ _ _ ?side1 ?side2 ?side3 ?side4 A10.out).mono ?_);(case side1 => repeat (first|exact (cB HR04_1.out HB.out)|(with_reducible first|refine cA ?_ _|refine cN ?_ _|refine cD ?_)));(case side2 => exact HC04_1.out);(case side3 => repeat (first|exact (cB HR04_2.out HB.out)|(with_reducible first|refine cA ?_ _|refine cN ?_ _|refine cD ?_)));(case side4 => exact HC04_2.out);rintro e WA10 ⟨rfl,hb⟩;refine ⟨_,rfl,?_⟩;replace HB := aM (lT (by repeat (first|(with_reducible first|exact HB.out|apply lA|apply lN|apply lD)|exact HB.out)) hb);(try clear hb)))
       first
        |
         go_ret3;exact ⟨by first|rfl|(simp [*];done),by repeat (first|(with_reducible first|exact HB.out|apply lA|apply lN|apply lD)|exact HB.out)⟩
        |
         go_roundg k2
         case measure => have := HJ3.out;have := HK2.out;omega
         case rel => exact ⟨(wrap64 (x9_2 + 1)),(by first|rfl|(simp [*];done)),H',⟨by have := HJ3.out;have := HK2.out;omega⟩,⟨by repeat (first|(with_reducible first|exact HB.out|apply lA|apply lN|apply lD)|exact HB.out)⟩⟩
        |
         go_loopg [10] k2 (fun kq v10 w' => ∃ (x10_3 : Int),v10 = .int .i64 x10_3 ∧ Aside0 (spec_FallbackTerm.l1 kq l0 a1 a2 x10_3 = some (r1,r2,r3)) ∧ Aside0 (kq ≤ k2) ∧ Aside0 (Below w.heap.size w w'))
         case atStart => exact ⟨(0),(by first|rfl|(simp [*];done)),H',⟨Nat.le_refl _⟩,⟨by repeat (first|(with_reducible first|exact HB.out|apply lA|apply lN|apply lD)|exact HB.out)⟩⟩
         case round =>
          clear H';(try clear c1);(try clear p2);(try clear c3);(try clear c4);(try clear p4);(try clear q4);(try clear hx4);(try clear c5);(try clear c5b0);(try clear c5b1);(try clear p6);(try clear c7);(try clear c8);(try clear c8b0);(try clear c9);(try clear c9b0);(try clear c11);(try clear hx451_0);(try clear hx451_1);(try clear hx451_2);(try clear hx451_3);(try clear hx451_4);(try clear p2);(try clear p451);(try clear q451);obtain ⟨x10_3,rfl,HA,HK3,HB⟩ := hrel
          cases gk with
          | zero => exact absurd HA.out (by simp [spec_FallbackTerm.l1])
          | succ k3 =>
           have H := HA.out;clear HA;simp only [spec_FallbackTerm.l1] at H
           by_cases c14 : x10_3 < (l0.length : Int)
           focus
            rw [if_pos c14] at H;have c14b0 : decide (x10_3 < (l0.length : Int)) = true := dT c14;clear c14
            by_cases c15 : 0 ≤ x10_3
            rotate_left;rw [if_neg c15] at H;exact absurd H (by simp);rw [if_pos c15] at H;have c15b0 : decide (0 ≤ x10_3) = true := dT c15;clear c15;obtain ⟨t454,A16,H⟩ := bE_ H
            by_cases c17 : t454 ≥ 0
            focus
             rw [if_pos c17] at H;have c17b0 : decide (0 ≤ t454) = true := dT c17;clear c17
             by_cases c18 : 0 ≤ t454
             rotate_left;rw [if_neg c18] at H;exact absurd H (by simp);rw [if_pos c18] at H;have c18b0 : decide (0 ≤ t454) = true := dT c18;clear c18
             by_cases c19 : t454 < (((rd_T31 l0 x10_3).f1).length : Int)
             rotate_left;rw [if_neg c19] at H;exact absurd H (by simp);rw [if_pos c19] at H;have c19b0 : decide (t454 < (((rd_T31 l0 x10_3).f1).length : Int)) = true := dT c19;clear c19;obtain ⟨t457,A20,H⟩ := bE_ H;simp only [eS,eP] at H;obtain ⟨rfl,rfl,rfl⟩ := H
            rotate_left
            focus
             rw [if_neg c17] at H;have c17b0 : decide (0 ≤ t454) = false := dF c17;clear c17;have H' := aM H;clear H
           rotate_left 2
           focus
            rw [if_neg c14] at H;have c14b0 : decide (x10_3 < (l0.length : Int)) = false := dF c14;clear c14;simp only [eS,eP] at H;obtain ⟨rfl,rfl,rfl⟩ := H
           all_goals
            (try (have p01 : 0 ≤ (x10_3 : Int) := oD (by assumption);have q01 : x10_3 < (l0.length : Int) := oD (by assumption);obtain ⟨ad01,A01_1,c01_1,A01_2,c01_2,e01,hx01_0,hx01_1,hx01_2,hx01_3,hx01_4,hl01_1,hi01_1,hl01_2,hi01_2⟩ := at_T31 HR0.out x10_3 p01 q01;cases e01;replace hx01_0 := (HB.out.cell (wB w _ hx01_0)).trans hx01_0;replace hx01_1 := (HB.out.cell (wB w _ hx01_1)).trans hx01_1;replace hx01_2 := (HB.out.cell (wB w _ hx01_2)).trans hx01_2;replace hx01_3 := (HB.out.cell (wB w _ hx01_3)).trans hx01_3;replace hx01_4 := (HB.out.cell (wB w _ hx01_4)).trans hx01_4;have HR01_1 := aM hi01_1;have HC01_1 := aM hl01_1;clear hi01_1 hl01_1;have HR01_2 := aM hi01_2;have HC01_2 := aM hl01_2;clear hi01_2 hl01_2;replace p01 := eq_true p01;replace q01 := eq_true q01));go_wp2_with (first|((with_reducible refine gate_callee (f := 48) rfl ?_);refine goesL_ (some 43) rfl rfl Try.func48 (by kernel_rfl) rfl #[.agg #[.string ((rd_T31 l0 x10_3).f0),.slice A01_1 ((rd_T31 l0 x10_3).f1).length c01_1,.slice A01_2 ((rd_T31 l0 x10_3).f2).length c01_2,.string ((rd_T31 l0 x10_3).f3),.string ((rd_T31 l0 x10_3).f4)],.string a1] rfl (by (try simp only [mT,mC,mN]);first|done|rfl|(simp only [xD,xT];rfl)) ?_;(with_reducible refine (spec_l23Find.calls _ _ _ _ _ _ _ _ _ _ _ _ _ ?side1 ?side2 ?side3 ?side4 A16.out).mono ?_);(case side1 => repeat (first|exact (cB HR01_1.out HB.out)|(with_reducible first|refine cA ?_ _|refine cN ?_ _|refine cD ?_)));(case side2 => exact HC01_1.out);(case side3 => repeat (first|exact (cB HR01_2.out HB.out)|(with_reducible first|refine cA ?_ _|refine cN ?_ _|refine cD ?_)));(case side4 => exact HC01_2.out);rintro e WA16 ⟨rfl,hb⟩;refine ⟨_,rfl,?_⟩;replace HB := aM (lT (by repeat (first|(with_reducible first|exact HB.out|apply lA|apply lN|apply lD)|exact HB.out)) hb);(try clear hb);(try (have p02 : 0 ≤ (x10_3 : Int) := oD (by assumption);have q02 : x10_3 < (l0.length : Int) := oD (by assumption);obtain ⟨ad02,A02_1,c02_1,A02_2,c02_2,e02,hx02_0,hx02_1,hx02_2,hx02_3,hx02_4,hl02_1,hi02_1,hl02_2,hi02_2⟩ := at_T31 HR0.out x10_3 p02 q02;obtain rfl : ad01 = ad02 := (by injection e02);replace hx02_0 := (HB.out.cell (wB w _ hx02_0)).trans hx02_0;replace hx02_1 := (HB.out.cell (wB w _ hx02_1)).trans hx02_1;replace hx02_2 := (HB.out.cell (wB w _ hx02_2)).trans hx02_2;replace hx02_3 := (HB.out.cell (wB w _ hx02_3)).trans hx02_3;replace hx02_4 := (HB.out.cell (wB w _ hx02_4)).trans hx02_4;have HR02_1 := aM hi02_1;have HC02_1 := aM hl02_1;clear hi02_1 hl02_1;have HR02_2 := aM hi02_2;have HC02_2 := aM hl02_2;clear hi02_2 hl02_2;replace p02 := eq_true p02;replace q02 := eq_true q02));(try (have p03 : 0 ≤ (t454 : Int) := oD (by assumption);have q03 : t454 < (((rd_T31 l0 x10_3).f1).length : Int) := oD (by assumption);obtain ⟨ad03,e03,hx03_0,hx03_1,hx03_2⟩ := at_T61 HR02_1.out t454 p03 q03;cases e03;replace hx03_0 := (HB.out.cell (wB w _ hx03_0)).trans hx03_0;replace hx03_1 := (HB.out.cell (wB w _ hx03_1)).trans hx03_1;replace hx03_2 := (HB.out.cell (wB w _ hx03_2)).trans hx03_2;replace p03 := eq_true p03;replace q03 := eq_true q03)))|((with_reducible refine gate_callee (f := 50) rfl ?_);refine goesL_ (some 55) rfl rfl Try.func50 (by kernel_rfl) rfl #[.agg #[.string ((rd_T61 ((rd_T31 l0 x10_3).f1) t454).f0),.string ((rd_T61 ((rd_T31 l0 x10_3).f1) t454).f1),.string ((rd_T61 ((rd_T31 l0 x10_3).f1) t454).f2)],.int .i64 a2] rfl (by (try simp only [mT,mC,mN]);first|done|rfl|(simp only [xD,xT];rfl)) ?_;(with_reducible refine (spec_l23For.calls _ _ _ _ _ _ A20.out).mono ?_);rintro e WA20 ⟨rfl,hb⟩;refine ⟨_,rfl,?_⟩;replace HB := aM (lT (by repeat (first|(with_reducible first|exact HB.out|apply lA|apply lN|apply lD)|exact HB.out)) hb);(try clear hb)))
            first
             |
              go_ret3;exact ⟨by first|rfl|(simp [*];done),by repeat (first|(with_reducible first|exact HB.out|apply lA|apply lN|apply lD)|exact HB.out)⟩
             |
              go_roundg k3
              case measure => have := HJ3.out;have := HK2.out;have := HK3.out;omega
              case rel => exact ⟨(wrap64 (x10_3 + 1)),(by first|rfl|(simp [*];done)),H',⟨by have := HJ3.out;have := HK2.out;have := HK3.out;omega⟩,⟨by repeat (first|(with_reducible first|exact HB.out|apply lA|apply lN|apply lD)|exact HB.out)⟩⟩
def laws_toLocaleS.l0 : Nat → List (S25) → List (S31) → Int → Option ((List (S31)))
 | 0,_,_,_ => none
 | k + 1,x0,x3,x4 => if x4 < (x0.length : Int) then (if 0 ≤ x4 then ((laws_toLocale.f k ((rd_T25 x0 x4).f0) ((rd_T25 x0 x4).f1) ((rd_T25 x0 x4).f2) ((rd_T25 x0 x4).f3) ((rd_T25 x0 x4).f4)).bind fun bt462 => (if x4 < (x3.length : Int) then (laws_toLocaleS.l0 k x0 (x3.set (x4 : Int).toNat (⟨bt462.1,bt462.2.1,bt462.2.2.1,bt462.2.2.2.1,bt462.2.2.2.2⟩ : S31)) (wrap64 (x4 + 1))) else (none))) else (none)) else (some x3)
def laws_toLocaleS.f (k : Nat) (l0 : List (S25)) : Option ((List (S31))) := if 0 ≤ (l0.length : Int) then (if ((l0.length : Int) : Int).toNat ≤ 2932031007402 then (laws_toLocaleS.l0 k l0 (List.replicate ((l0.length : Int) : Int).toNat z31) 0) else (none)) else (none)
theorem laws_toLocaleS.mono_l : ∀ k,(∀ y0 y1 y2,LeO (laws_toLocaleS.l0 k y0 y1 y2) (laws_toLocaleS.l0 (k + 1) y0 y1 y2))
 | 0 => fun _ _ _ r h => by simp [laws_toLocaleS.l0] at h
 | k + 1 => by
  have ih0 := laws_toLocaleS.mono_l k
  ·intro y0 y1 y2
   unfold laws_toLocaleS.l0
   repeat' first
   | (with_reducible exact ih0 _ _ _)
   | (with_reducible exact laws_toLocale.mono _ _ _ _ _ _)
   | (with_reducible exact LeO.refl _)
   | (with_reducible exact LeO.none _)
   | (with_reducible refine LeO.ite ?_ ?_)
   | (with_reducible refine LeO.bind ?_ (fun _ => ?_))
   | exact ih0 _ _ _
   | exact laws_toLocale.mono _ _ _ _ _ _
   | exact LeO.none _
   | refine LeO.ite ?_ ?_
   | refine LeO.bind ?_ (fun _ => ?_)
theorem laws_toLocaleS.mono : ∀ a0 k,LeO (laws_toLocaleS.f k a0) (laws_toLocaleS.f (k + 1) a0) := by
 intro a0 k
 have ih0 := laws_toLocaleS.mono_l k
 unfold laws_toLocaleS.f
 repeat' first
   | (with_reducible exact ih0 _ _ _)
   | (with_reducible exact laws_toLocale.mono _ _ _ _ _ _)
   | (with_reducible exact LeO.refl _)
   | (with_reducible exact LeO.none _)
   | (with_reducible refine LeO.ite ?_ ?_)
   | (with_reducible refine LeO.bind ?_ (fun _ => ?_))
   | exact ih0 _ _ _
   | exact laws_toLocale.mono _ _ _ _ _ _
   | exact LeO.none _
   | refine LeO.ite ?_ ?_
   | refine LeO.bind ?_ (fun _ => ?_)
theorem R_form_laws_toLocaleS {α : Type} {d : Kd α} {e base : Nat} {w : World} {ok : Nat → Prop} {v : Value} {xs : List α} (h : Kd.R d e w base ok v xs) : ∃ A n c,v = .slice A n c := by
 obtain ⟨_,inner,⟨_,hv⟩,_⟩ := h;rcases hv with ⟨rfl,_⟩|⟨g,cap,cur,rfl,_⟩
 ·exact ⟨_,_,_,rfl⟩
 ·exact ⟨_,_,_,rfl⟩
set_option maxHeartbeats 8000000 in
set_option maxRecDepth 100000 in
theorem laws_toLocaleS.calls (k : Nat) (A0 : Option Addr) (c0 : Nat) (l0 : List (S25)) (r : List (S31)) (w : World) (hr0 : Kd.C k25 w A0 l0.length l0) (hc0 : l0.length ≤ c0) (h : laws_toLocaleS.f k l0 = some r) :
  Calls Try.prog 18 #[.slice A0 l0.length c0] w fun e w' => ∃ v0_ : Value,e = .returned (v0_) ∧ Kd.S k31 31 w' w.heap.size (fun _ => True) v0_ r ∧ Below w.heap.size w w' := by
 have hu25 := Try.underlying25;have hu31 := Try.underlying31;have HR0 := aM hr0;have HC0 := aM hc0;clear hr0 hc0;have HB := aM (Below.refl w.heap.size w);have H : (if 0 ≤ (l0.length : Int) then (if ((l0.length : Int) : Int).toNat ≤ 2932031007402 then (laws_toLocaleS.l0 k l0 (List.replicate ((l0.length : Int) : Int).toNat z31) 0) else (none)) else (none)) = some r := h;clear h
 by_cases c2 : 0 ≤ (l0.length : Int)
 ·rw [if_pos c2] at H;have c2b0 := eq_true c2;have c2b1 : decide (0 ≤ (l0.length : Int)) = true := dT c2;clear c2
  by_cases c3 : ((l0.length : Int) : Int).toNat ≤ 2932031007402
  ·rw [if_pos c3] at H;have c3b0 := eq_true c3;have c3b1 : decide (((l0.length : Int) : Int).toNat ≤ 2932031007402) = true := dT c3;clear c3;obtain ⟨y458,hy458⟩ : ∃ y_ : List (S31),y_ = (List.replicate ((l0.length : Int) : Int).toNat z31) := ⟨_,rfl⟩;replace H : (laws_toLocaleS.l0 k l0 y458 0) = some r := (by first|(rw [hy458];with_reducible exact H)|(have H2_ := (Option.bind_some _ _).symm.trans H;rw [hy458];with_reducible exact H2_)|(have H2_ := (Option.bind_some _ _).symm.trans H;with_reducible exact H2_)|with_reducible exact H|(rw [hy458];exact H)|exact H);have Ny458 := aM hy458;clear hy458;have H' := aM H;clear H;go_enter Try.func18,Try.ntmps18;go_wp2_with (first|((with_reducible refine gate_dst (N := 7) rfl ?_);refine Kd.S_make k31 _ 31 rfl (N := 7) rfl 42 _ _ rfl (l0.length : Int) rfl rfl Try.underlying42 (.agg #[(.string ⟨#[]⟩),(.slice none 0 0),(.slice none 0 0),(.string ⟨#[]⟩),(.string ⟨#[]⟩)]) 96 info31 rfl (by decide) (by omega) z31 (ok := fun _ => True) (okp := fun _ => True) (k31_mkM _ _ _ z31 (Kd.R_nil _ _ _ _ _) (Kd.R_nil _ _ _ _ _)) (fun _ hk => hk) trivial (oD (by assumption)) (Nat.le_trans (Nat.mul_le_mul_right _ (oD (by assumption) : (l0.length : Int).toNat ≤ 2932031007402)) (by omega)) (Below.refl _ _) (Nat.le_refl _) ?_;intro v459 w4 ho5 hb hg_ hnew_;clear hg_ hnew_;(first|rw [← Ny458.out] at ho5|(simp only [Int.reduceToNat] at ho5;rw [← Ny458.out] at ho5));have HO460 := aM (Kd.S_lower ho5 (lZ (by repeat (first|(with_reducible first|exact HB.out|apply lA|apply lN|apply lD)|exact HB.out))));replace HB := aM (lT (by repeat (first|(with_reducible first|exact HB.out|apply lA|apply lN|apply lD)|exact HB.out)) hb);clear hb ho5));go_loopg [4] k (fun kq v4 w' => ∃ (x3_1 : List (S31)) (x4_1 : Int),v4 = .int .i64 x4_1 ∧ Aside0 (laws_toLocaleS.l0 kq l0 x3_1 x4_1 = some r) ∧ Aside0 (kq ≤ k) ∧ Aside0 (Kd.S k31 31 w' w.heap.size (fun _ => True) v459 x3_1) ∧ Aside0 (Below w.heap.size w w'))
   case atStart => exact ⟨(y458),(0),(by first|rfl|(simp [*];done)),H',⟨Nat.le_refl _⟩,⟨by (with_reducible repeat (first|apply Kd.S_alloc|apply Kd.S_drewN|apply Kd.S_drew));exact HO460.out⟩,⟨by repeat (first|(with_reducible first|exact HB.out|apply lA|apply lN|apply lD)|exact HB.out)⟩⟩
   case round =>
    clear H';(try clear c1);(try clear c2);(try clear c2b0);(try clear c2b1);(try clear p2);(try clear c3);(try clear c3b0);(try clear c3b1);obtain ⟨x3_1,x4_1,rfl,HA,HK1,HO_3,HB⟩ := hrel
    cases gk with
    | zero => exact absurd HA.out (by simp [laws_toLocaleS.l0])
    | succ k1 =>
     have H := HA.out;clear HA;simp only [laws_toLocaleS.l0] at H
     by_cases c6 : x4_1 < (l0.length : Int)
     focus
      rw [if_pos c6] at H;have c6b0 : decide (x4_1 < (l0.length : Int)) = true := dT c6;clear c6
      by_cases c7 : 0 ≤ x4_1
      rotate_left;rw [if_neg c7] at H;exact absurd H (by simp);rw [if_pos c7] at H;have c7b0 : decide (0 ≤ x4_1) = true := dT c7;clear c7;replace H := Option.bind_eq_some_iff.mp H;obtain ⟨⟨t462,t463,t466,t469,t470⟩,A80,H⟩ := H;replace H : (if x4_1 < (x3_1.length : Int) then (laws_toLocaleS.l0 k1 l0 (x3_1.set (x4_1 : Int).toNat (⟨t462,t463,t466,t469,t470⟩ : S31)) (wrap64 (x4_1 + 1))) else (none)) = some r := H;have A8 := aM A80;clear A80
      by_cases c9 : x4_1 < (x3_1.length : Int)
      rotate_left;rw [if_neg c9] at H;exact absurd H (by simp);rw [if_pos c9] at H;have c9b0 : decide (x4_1 < (x3_1.length : Int)) = true := dT c9;clear c9;obtain ⟨y471,hy471⟩ : ∃ y_ : List (S31),y_ = (x3_1.set (x4_1 : Int).toNat (⟨t462,t463,t466,t469,t470⟩ : S31)) := ⟨_,rfl⟩;replace H : (laws_toLocaleS.l0 k1 l0 y471 (wrap64 (x4_1 + 1))) = some r := (by first|(rw [hy471];with_reducible exact H)|(have H2_ := (Option.bind_some _ _).symm.trans H;rw [hy471];with_reducible exact H2_)|(have H2_ := (Option.bind_some _ _).symm.trans H;with_reducible exact H2_)|with_reducible exact H|(rw [hy471];exact H)|exact H);have Ny471 := aM hy471;clear hy471;have H' := aM H;clear H
     rotate_left
     focus
      rw [if_neg c6] at H;have c6b0 : decide (x4_1 < (l0.length : Int)) = false := dF c6;clear c6;obtain rfl := Option.some.inj H;simp only [eS,eP] at H;obtain ⟨rfl⟩ := H
     all_goals
      (try (have p01 : 0 ≤ (x4_1 : Int) := oD (by assumption);have q01 : x4_1 < (l0.length : Int) := oD (by assumption);obtain ⟨ad01,A01_1,c01_1,A01_2,c01_2,e01,hx01_0,hx01_1,hx01_2,hx01_3,hx01_4,hl01_1,hi01_1,hl01_2,hi01_2⟩ := at_T25 HR0.out x4_1 p01 q01;cases e01;replace hx01_0 := (HB.out.cell (wB w _ hx01_0)).trans hx01_0;replace hx01_1 := (HB.out.cell (wB w _ hx01_1)).trans hx01_1;replace hx01_2 := (HB.out.cell (wB w _ hx01_2)).trans hx01_2;replace hx01_3 := (HB.out.cell (wB w _ hx01_3)).trans hx01_3;replace hx01_4 := (HB.out.cell (wB w _ hx01_4)).trans hx01_4;have HR01_1 := aM hi01_1;have HC01_1 := aM hl01_1;clear hi01_1 hl01_1;have HR01_2 := aM hi01_2;have HC01_2 := aM hl01_2;clear hi01_2 hl01_2;replace p01 := eq_true p01;replace q01 := eq_true q01));go_wp2_with (first|((with_reducible refine gate_callee (f := 11) rfl ?_);refine goesL_ (some 20) rfl rfl Try.func11 (by kernel_rfl) rfl #[.agg #[.string ((rd_T25 l0 x4_1).f0),.slice A01_1 ((rd_T25 l0 x4_1).f1).length c01_1,.slice A01_2 ((rd_T25 l0 x4_1).f2).length c01_2,.string ((rd_T25 l0 x4_1).f3),.string ((rd_T25 l0 x4_1).f4)]] rfl (by (try simp only [mT,mC,mN]);first|done|rfl|(simp only [xD,xT];rfl)) ?_;(with_reducible refine (laws_toLocale.calls _ _ _ _ _ _ _ _ _ _ _ _ _ _ _ _ ?side1 ?side2 ?side3 ?side4 A8.out).mono ?_);(case side1 => repeat (first|exact (cB HR01_1.out HB.out)|(with_reducible first|refine cA ?_ _|refine cN ?_ _|refine cD ?_)));(case side2 => exact HC01_1.out);(case side3 => repeat (first|exact (cB HR01_2.out HB.out)|(with_reducible first|refine cA ?_ _|refine cN ?_ _|refine cD ?_)));(case side4 => exact HC01_2.out);rintro e WA8 ⟨v464,v467,rfl,ho0,ho1,hb⟩;refine ⟨_,rfl,?_⟩;have HO465 := aM (Kd.R_lower ho0 (lZ (by repeat (first|(with_reducible first|exact HB.out|apply lA|apply lN|apply lD)|exact HB.out))));have HO468 := aM (Kd.R_lower ho1 (lZ (by repeat (first|(with_reducible first|exact HB.out|apply lA|apply lN|apply lD)|exact HB.out))));replace HO_3 := aM (Kd.S_mono (Kd.S_told (Kd.S_told (Kd.S_old (by (with_reducible repeat first|apply Kd.S_alloc|apply Kd.S_drewN|apply Kd.S_drew);exact HO_3.out) hb) (Kd.R_base ho0)) (Kd.R_base ho1)) (fun _ h_ => h_.1));replace HB := aM (lT (by repeat (first|(with_reducible first|exact HB.out|apply lA|apply lN|apply lD)|exact HB.out)) hb);(try clear hb);(try clear ho0);(try clear ho1);have p02 : 0 ≤ (x4_1 : Int) := oD (by assumption);have q02 : (x4_1 : Int) < ((x3_1.length : Int) : Int) := oD (by assumption);obtain ⟨go10,co10,eo10,gb10,gl10,cl10,HG10⟩ := Kd.S_form HO_3.out (by omega);(first|cases eo10|(injection eo10 with ea_ en_ ec_;(first|subst ea_|(injection ea_ with ea_;subst ea_));subst ec_;clear en_));have GB10 := aM gb10;have GG10 := aM HG10;clear gb10 gl10 HG10;obtain ⟨_,ce10,hcl10,hM10,hcc10,hfr10,_,_⟩ := Kd.S_elem HO_3.out z31 (x4_1 : Int) p02 q02;obtain ⟨ve10_1,ve10_2,rfl,ge10_1,ge10_2⟩ := k31_openM hM10;have hx02_0 : WA8.cell? ⟨go10,(x4_1 : Int).toNat * 5,none⟩ = some (.string ((rd_T31 x3_1 x4_1).f0)) := hcc10 0 _ rfl;have hx02_1 : WA8.cell? ⟨go10,(x4_1 : Int).toNat * 5 + 1,none⟩ = some (ve10_1) := hcc10 1 _ rfl;have hx02_2 : WA8.cell? ⟨go10,(x4_1 : Int).toNat * 5 + 2,none⟩ = some (ve10_2) := hcc10 2 _ rfl;have hx02_3 : WA8.cell? ⟨go10,(x4_1 : Int).toNat * 5 + 3,none⟩ = some (.string ((rd_T31 x3_1 x4_1).f3)) := hcc10 3 _ rfl;have hx02_4 : WA8.cell? ⟨go10,(x4_1 : Int).toNat * 5 + 4,none⟩ = some (.string ((rd_T31 x3_1 x4_1).f4)) := hcc10 4 _ rfl;have hf10_0 : WA8.frozen? ⟨go10,(x4_1 : Int).toNat * 5,none⟩ = false := hfr10 0;have hf10_1 : WA8.frozen? ⟨go10,(x4_1 : Int).toNat * 5 + 1,none⟩ = false := hfr10 1;have hf10_2 : WA8.frozen? ⟨go10,(x4_1 : Int).toNat * 5 + 2,none⟩ = false := hfr10 2;have hf10_3 : WA8.frozen? ⟨go10,(x4_1 : Int).toNat * 5 + 3,none⟩ = false := hfr10 3;have hf10_4 : WA8.frozen? ⟨go10,(x4_1 : Int).toNat * 5 + 4,none⟩ = false := hfr10 4;clear hcl10 hcc10 hfr10 hM10;replace p02 := eq_true p02;replace q02 := eq_true q02;have n_ := aM (Kd.S_mono (ok' := (fun k_ => some k_ ≠ (v464 : Value).ownBlock ∧ some k_ ≠ (v467 : Value).ownBlock)) HO_3.out (fun k_ hk => ⟨hk.1.2,hk.2⟩));clear HO_3;have HO_3 := n_;clear n_;have HX12 := aM (show Kd.S k31 31 WA8 w.heap.size (fun k_ => ((fun _ => True)) k_ ∧ ¬ ((fun k_ => some k_ = (v464 : Value).ownBlock ∨ some k_ = (v467 : Value).ownBlock)) k_) (.slice (some ⟨go10,0,none⟩) x3_1.length co10) x3_1 from (by (with_reducible repeat first|apply Kd.S_alloc|apply Kd.S_drewN|apply Kd.S_drew);exact Kd.S_mono HO_3.out (fun k_ hk => ⟨trivial,fun e_ => e_.elim (fun h_ => hk.1 h_) (fun h_ => hk.2 h_)⟩)));obtain ⟨oki12,ce12,hcl12,hM12,hcc12,hfr12,hoki12,hH12⟩ := Kd.S_elem HX12.out z31 (x4_1 : Int) (oD (by assumption)) (by have h_ : (x4_1 : Int) < ((x3_1.length : Int) : Int) := oD (by assumption);first|exact h_|(have e_ := (Kd.S_reads' HO_3.out).1;omega)|simpa using h_);obtain ⟨ve12_1,ve12_2,rfl,ge12_1,ge12_2⟩ := k31_openM hM12;have HP12 := Kd.S_seg hH12 (oD (by assumption)) (by have h_ : (x4_1 : Int) < ((x3_1.length : Int) : Int) := oD (by assumption);first|exact h_|(have e_ := (Kd.S_reads' HO_3.out).1;omega)|simpa using h_) (seg := [.string t462,v464,v467,.string t469,.string t470]) (j := 0) (show 5 ≤ 5 from by decide) (x' := (⟨t462,t463,t466,t469,t470⟩ : S31)) (k31_mkM _ _ _ (⟨t462,t463,t466,t469,t470⟩ : S31) (Kd.R_mono (Kd.R_tight rfl (Kd.R_mono (ok' := fun k_ => ((fun _ => True)) k_ ∧ k_ ≠ go10) (Kd.R_apart' (HO465.out) (Kd.S_typed HO_3.out) (by decide)) (fun k_ hk => ⟨trivial,fun e_ => (hk.2) (by rw [e_];rfl)⟩))) (fun _ h_ => Or.inr (Or.inl h_))) (Kd.R_mono (Kd.R_tight rfl (Kd.R_mono (ok' := fun k_ => ((fun _ => True)) k_ ∧ k_ ≠ go10) (Kd.R_apart' (HO468.out) (Kd.S_typed HO_3.out) (by decide)) (fun k_ hk => ⟨trivial,fun e_ => (hk.2) (by rw [e_];rfl)⟩))) (fun _ h_ => Or.inr (Or.inr (h_))))) (fun _ hk => hk) (fun k_ hk_ => hk_.elim (fun h_ => ((Kd.R_mono (ok' := fun k_ => ((fun _ => True)) k_ ∧ k_ ≠ go10) (Kd.R_apart' (HO465.out) (Kd.S_typed HO_3.out) (by decide)) (fun k_ hk => ⟨trivial,fun e_ => (hk.2) (by rw [e_];rfl)⟩))).1 k_ h_.symm) (fun h_ => ((Kd.R_mono (ok' := fun k_ => ((fun _ => True)) k_ ∧ k_ ≠ go10) (Kd.R_apart' (HO468.out) (Kd.S_typed HO_3.out) (by decide)) (fun k_ hk => ⟨trivial,fun e_ => (hk.2) (by rw [e_];rfl)⟩))).1 k_ h_.symm));have hx12_0 := hcc12 0 _ rfl;(try simp only [show (k31).sz = 5 from rfl,Nat.mul_one,Nat.add_zero] at hx12_0);have hf12_0 := hfr12 0;(try simp only [show (k31).sz = 5 from rfl,Nat.mul_one,Nat.add_zero] at hf12_0);have hx12_1 := hcc12 1 _ rfl;(try simp only [show (k31).sz = 5 from rfl,Nat.mul_one,Nat.add_zero] at hx12_1);have hf12_1 := hfr12 1;(try simp only [show (k31).sz = 5 from rfl,Nat.mul_one,Nat.add_zero] at hf12_1);have hx12_2 := hcc12 2 _ rfl;(try simp only [show (k31).sz = 5 from rfl,Nat.mul_one,Nat.add_zero] at hx12_2);have hf12_2 := hfr12 2;(try simp only [show (k31).sz = 5 from rfl,Nat.mul_one,Nat.add_zero] at hf12_2);have hx12_3 := hcc12 3 _ rfl;(try simp only [show (k31).sz = 5 from rfl,Nat.mul_one,Nat.add_zero] at hx12_3);have hf12_3 := hfr12 3;(try simp only [show (k31).sz = 5 from rfl,Nat.mul_one,Nat.add_zero] at hf12_3);have hx12_4 := hcc12 4 _ rfl;(try simp only [show (k31).sz = 5 from rfl,Nat.mul_one,Nat.add_zero] at hx12_4);have hf12_4 := hfr12 4;(try simp only [show (k31).sz = 5 from rfl,Nat.mul_one,Nat.add_zero] at hf12_4);clear hcl12 hcc12 hfr12 hM12 hoki12 hH12)|((with_reducible refine gate_store (t := 31) (p := 21) rfl ?_);refine store_event (t := 31) (p := 21) (v := ?vo_w13) (w1 := (((((WA8.setCell ⟨go10,(x4_1 : Int).toNat * 5,none⟩ (.string t462)).setCell ⟨go10,(x4_1 : Int).toNat * 5 + 1,none⟩ (v464)).setCell ⟨go10,(x4_1 : Int).toNat * 5 + 2,none⟩ (v467)).setCell ⟨go10,(x4_1 : Int).toNat * 5 + 3,none⟩ (.string t469)).setCell ⟨go10,(x4_1 : Int).toNat * 5 + 4,none⟩ (.string t470))) ?hg ?ho ?hn ?hr ?_;(case ho => rfl);(case hg => rfl);(case hn => rfl);(case hr => obtain ⟨A1_,n1_,c1_,hv1_⟩ := R_form_laws_toLocaleS HO465.out;obtain ⟨A2_,n2_,c2_,hv2_⟩ := R_form_laws_toLocaleS HO468.out;first|(go_simp;done)|(go_simp;rfl));intro w13 hw;have hg : WA8.grownBy w13 (some go10) := (by rw [hw];exact HP12.2);have hp_ : Kd.S k31 31 w13 w.heap.size (fun _ => True) (.slice (some ⟨go10,0,none⟩) x3_1.length co10) y471 := (by rw [hw,Ny471.out];exact HP12.1);clear HP12;have n0_ := aM (hp_);have n1_ := aM ((by rw [hw];exact lS (lS (lS (lS (lS (HB.out) GB10.out) GB10.out) GB10.out) GB10.out) GB10.out : Below w.heap.size w w13));clear HO_3;clear HB;clear HO465;clear HO468;have HO_3 := n0_;have HB := n1_;clear n0_ n1_;clear hg hw hp_))
      first
       |
        go_ret;exact ⟨_,by first|rfl|(simp [*];done),by (with_reducible repeat (first|apply Kd.S_alloc|apply Kd.S_drewN|apply Kd.S_drew));exact HO_3.out,by repeat (first|(with_reducible first|exact HB.out|apply lA|apply lN|apply lD)|exact HB.out)⟩
       |
        go_roundg k1
        case measure => have := HK1.out;omega
        case rel => exact ⟨(y471),(wrap64 (x4_1 + 1)),(by first|rfl|(simp [*];done)),H',⟨by have := HK1.out;omega⟩,⟨by (with_reducible repeat (first|apply Kd.S_alloc|apply Kd.S_drewN|apply Kd.S_drew));exact HO_3.out⟩,⟨by repeat (first|(with_reducible first|exact HB.out|apply lA|apply lN|apply lD)|exact HB.out)⟩⟩
  ·rw [if_neg c3] at H;exact absurd H (by simp)
 ·rw [if_neg c2] at H;exact absurd H (by simp)
def impl_FallbackTerm_1.f (k : Nat) (a0_0 : ByteArray) (l0_1 : List (S61)) (l0_2 : List (S72)) (a0_3 : ByteArray) (a0_4 : ByteArray) : Option (Bool) := (impl_IsValidLocale.f k a0_0 l0_1 l0_2 a0_3 a0_4).bind fun t473 => (some (!t473))
theorem impl_FallbackTerm_1.mono : ∀ a0 a1 a2 a3 a4 k,LeO (impl_FallbackTerm_1.f k a0 a1 a2 a3 a4) (impl_FallbackTerm_1.f (k + 1) a0 a1 a2 a3 a4) := by
 intro a0 a1 a2 a3 a4 k
 unfold impl_FallbackTerm_1.f
 repeat' first
   | (with_reducible exact impl_IsValidLocale.mono _ _ _ _ _ _)
   | (with_reducible exact LeO.refl _)
   | (with_reducible exact LeO.none _)
   | (with_reducible refine LeO.ite ?_ ?_)
   | (with_reducible refine LeO.bind ?_ (fun _ => ?_))
   | exact impl_IsValidLocale.mono _ _ _ _ _ _
   | exact LeO.none _
   | refine LeO.ite ?_ ?_
   | refine LeO.bind ?_ (fun _ => ?_)
set_option maxHeartbeats 8000000 in
set_option maxRecDepth 100000 in
theorem impl_FallbackTerm_1.calls (k : Nat) (a0_0 : ByteArray) (A0_1 : Option Addr) (c0_1 : Nat) (l0_1 : List (S61)) (A0_2 : Option Addr) (c0_2 : Nat) (l0_2 : List (S72)) (a0_3 : ByteArray) (a0_4 : ByteArray) (r : Bool) (w : World) (hr0_1 : Kd.C k61 w A0_1 l0_1.length l0_1) (hc0_1 : l0_1.length ≤ c0_1) (hr0_2 : Kd.C k72 w A0_2 l0_2.length l0_2) (hc0_2 : l0_2.length ≤ c0_2) (h : impl_FallbackTerm_1.f k a0_0 l0_1 l0_2 a0_3 a0_4 = some r) :
  Calls Try.prog 55 #[.agg #[.string a0_0,.slice A0_1 l0_1.length c0_1,.slice A0_2 l0_2.length c0_2,.string a0_3,.string a0_4]] w fun e w' => e = .returned (.bool r) ∧ Below w.heap.size w w' := by
 have hu31 := Try.underlying31;have HR0_1 := aM hr0_1;have HC0_1 := aM hc0_1;clear hr0_1 hc0_1;have HR0_2 := aM hr0_2;have HC0_2 := aM hc0_2;clear hr0_2 hc0_2;have HB := aM (Below.refl w.heap.size w);have H : ((impl_IsValidLocale.f k a0_0 l0_1 l0_2 a0_3 a0_4).bind fun t473 => (some (!t473))) = some r := h;clear h;obtain ⟨t473,A2,H⟩ := bE_ H;obtain rfl := Option.some.inj H;simp only [eS,eP] at H;obtain ⟨rfl⟩ := H;go_enter Try.func55,Try.ntmps55;go_wp2_with (first|((with_reducible refine gate_dst (N := 1) rfl ?_);refine box_event ?hg (N := 1) ?hd (cs := #[.string a0_0,.slice A0_1 l0_1.length c0_1,.slice A0_2 l0_2.length c0_2,.string a0_3,.string a0_4]) (t := 31) ?hr ?_;(case hd => rfl);(case hg => rfl);(case hr => first|(go_simp;done)|(go_simp;rfl));intro gb472 hg w3 hbox hb;have BK472 := aM (hbox);have GW472 := aM ((by rw [hg];exact (lZ (by repeat (first|(with_reducible first|exact HB.out|apply lA|apply lN|apply lD)|exact HB.out))) : w.heap.size ≤ gb472));have GE472 := GW472;replace HB := aM (lT (by repeat (first|(with_reducible first|exact HB.out|apply lA|apply lN|apply lD)|exact HB.out)) hb);clear hb hbox hg;obtain ⟨hcz4_0,hcz4_1,hcz4_2,hcz4_3,hcz4_4,hfz4_0,hfz4_1,hfz4_2,hfz4_3,hfz4_4⟩ := z5_ BK472.out)|((with_reducible refine gate_callee (f := 12) rfl ?_);refine goesL_ (some 4) rfl rfl Try.func12 (by kernel_rfl) rfl #[.agg #[.string a0_0,.slice A0_1 l0_1.length c0_1,.slice A0_2 l0_2.length c0_2,.string a0_3,.string a0_4]] rfl (by (try simp only [mT,mC,mN]);first|done|rfl|(simp only [xD,xT];rfl)) ?_;(with_reducible refine (impl_IsValidLocale.calls k a0_0 _ _ l0_1 _ _ l0_2 a0_3 a0_4 t473 _ ?side1 ?side2 ?side3 ?side4 A2.out).mono ?_);(case side1 => repeat (first|exact (cB HR0_1.out HB.out)|(with_reducible first|refine cA ?_ _|refine cN ?_ _|refine cD ?_)));(case side2 => exact HC0_1.out);(case side3 => repeat (first|exact (cB HR0_2.out HB.out)|(with_reducible first|refine cA ?_ _|refine cN ?_ _|refine cD ?_)));(case side4 => exact HC0_2.out);rintro e w5 ⟨rfl,hb⟩;refine ⟨_,rfl,?_⟩;replace BK472 := aM (bW (g := gb472) (o := .cells #[.string a0_0,.slice A0_1 l0_1.length c0_1,.slice A0_2 l0_2.length c0_2,.string a0_3,.string a0_4] 31 (0,0)) (by (with_reducible repeat (first|refine bN ?_ _|refine bD ?_|refine bA ?_ _));exact BK472.out) hb);replace HB := aM (lT (by repeat (first|(with_reducible first|exact HB.out|apply lA|apply lN|apply lD|refine lS ?_ GE472.out)|exact HB.out)) hb);(try clear hb)));go_ret;exact ⟨by first|rfl|(simp [*];done),by repeat (first|(with_reducible first|exact HB.out|apply lA|apply lN|apply lD|refine lS ?_ GE472.out)|exact HB.out)⟩
end Go.Proofs.Ytmkkcpdpfelalaa.P
