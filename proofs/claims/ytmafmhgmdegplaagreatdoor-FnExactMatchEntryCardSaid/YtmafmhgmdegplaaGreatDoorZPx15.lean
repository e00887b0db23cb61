/- Written by a program in this session: each theorem here says that a Go function computes the Lean function beside it, or that a law's row holds, under the conditions that the theorem itself states. -/
import Derived.Test.YtmafmhgmdegplaaGreatDoorZPx0
import Derived.Test.YtmafmhgmdegplaaGreatDoorZPx14
namespace Go.Proofs.YtmafmhgmdegplaaGreatDoor.P
open Go.RowKit Go.Proofs.YtmafmhgmdegplaaGreatDoorW.PrintWords Go.Proofs.YtmafmhgmdegplaaGreatDoorW.PrintLast Go.Proofs.YtmafmhgmdegplaaGreatDoorW.PrintMore
attribute [local go_sem] max2_int min2_int max_two min_two max_three min_three max_four min_four   -- for this text's walks alone
set_option linter.unusedVariables false
set_option linter.unusedSimpArgs false
mutual
def impl_queries.j0 : Nat → Int → Bool → Int → ByteArray → ByteArray → List (S36) → Option (Int × Bool)
 | 0,_,_,_,_,_,_ => none
 | k + 1,x1,x6,x348000,x348001,x348002,x348003 => impl_queries.l0 k x1 x6 1 x348003 (x348003.length : Int) 0
def impl_queries.l0 : Nat → Int → Bool → Int → List (S36) → Int → Int → Option (Int × Bool)
 | 0,_,_,_,_,_,_ => none
 | k + 1,x1,x6,x7,x71,x72,x73 => if x73 < x72 then (if 0 ≤ x73 then (if x73 < (x71.length : Int) then (if x6 = true then ((impl_queries.f k ((rd_T36 x71 x73).f0) ((rd_T36 x71 x73).f1) ((rd_T36 x71 x73).f2) ((rd_T36 x71 x73).f3) (wrap64 (x1 - x7))).bind fun bt352 => (impl_queries.l0 k x1 bt352.2 (wrap64 (x7 + bt352.1)) x71 x72 (wrap64 (x73 + 1)))) else (some (0,false))) else (none)) else (none)) else (some (x7,x6))
def impl_queries.f : Nat → Int → ByteArray → ByteArray → List (S36) → Int → Option (Int × Bool)
 | 0,_,_,_,_,_ => none
 | k + 1,a0_0,a0_1,a0_2,l0_3,a1 => if a1 < 1 then (some (0,false)) else (if a0_0 = 1 then ((impl_isQueryWord.f k a0_2).bind fun t348 => (if t348 = true then (if a0_1.toList = ([] : List UInt8) then (impl_queries.j0 k a1 ((l0_3.length : Int) == 0) a0_0 a0_1 a0_2 l0_3) else ((impl_isField.f k a0_1).bind fun t349 => (if t349 = true then (impl_queries.j0 k a1 ((l0_3.length : Int) == 0) a0_0 a0_1 a0_2 l0_3) else (impl_queries.j0 k a1 false a0_0 a0_1 a0_2 l0_3)))) else (impl_queries.j0 k a1 false a0_0 a0_1 a0_2 l0_3))) else (if a0_0 = 2 then (if a0_2.toList = ([] : List UInt8) then (if a0_1.toList = ([] : List UInt8) then (impl_queries.j0 k a1 ((l0_3.length : Int) == 1) a0_0 a0_1 a0_2 l0_3) else (impl_queries.j0 k a1 false a0_0 a0_1 a0_2 l0_3)) else (impl_queries.j0 k a1 false a0_0 a0_1 a0_2 l0_3)) else (if a0_0 = 3 then (if a0_2.toList = ([] : List UInt8) then (if a0_1.toList = ([] : List UInt8) then (impl_queries.j0 k a1 ((l0_3.length : Int) == 2) a0_0 a0_1 a0_2 l0_3) else (impl_queries.j0 k a1 false a0_0 a0_1 a0_2 l0_3)) else (impl_queries.j0 k a1 false a0_0 a0_1 a0_2 l0_3)) else (if a0_0 = 4 then (if a0_2.toList = ([] : List UInt8) then (if a0_1.toList = ([] : List UInt8) then (impl_queries.j0 k a1 ((l0_3.length : Int) == 2) a0_0 a0_1 a0_2 l0_3) else (impl_queries.j0 k a1 false a0_0 a0_1 a0_2 l0_3)) else (impl_queries.j0 k a1 false a0_0 a0_1 a0_2 l0_3)) else (impl_queries.j0 k a1 false a0_0 a0_1 a0_2 l0_3)))))
end
theorem impl_queries.mono_l : ∀ k,(∀ y0 y1 y2 y3 y4,LeO (impl_queries.f k y0 y1 y2 y3 y4) (impl_queries.f (k + 1) y0 y1 y2 y3 y4)) ∧ (∀ y0 y1 y2 y3 y4 y5,LeO (impl_queries.j0 k y0 y1 y2 y3 y4 y5) (impl_queries.j0 (k + 1) y0 y1 y2 y3 y4 y5)) ∧ (∀ y0 y1 y2 y3 y4 y5,LeO (impl_queries.l0 k y0 y1 y2 y3 y4 y5) (impl_queries.l0 (k + 1) y0 y1 y2 y3 y4 y5))
 | 0 => ⟨fun _ _ _ _ _ r h => by simp [impl_queries.f] at h,fun _ _ _ _ _ _ r h => by simp [impl_queries.j0] at h,fun _ _ _ _ _ _ r h => by simp [impl_queries.l0] at h⟩
 | k + 1 => by
  obtain ⟨ih0,ih1,ih2⟩ := impl_queries.mono_l k
  refine ⟨?_,?_,?_⟩
  all_goals (intros;first|unfold impl_queries.f|unfold impl_queries.j0|unfold impl_queries.l0)
  all_goals repeat' (first|with_reducible (first|exact ih0 _ _ _ _ _|exact ih1 _ _ _ _ _ _|exact ih2 _ _ _ _ _ _|exact impl_isField.mono _ _|exact impl_isQueryWord.mono _ _|exact LeO.refl _|exact LeO.none _|refine LeO.ite ?_ ?_|refine LeO.bind ?_ (fun _ => ?_))|exact LeO.none _|refine LeO.ite ?_ ?_|refine LeO.bind ?_ (fun _ => ?_))
theorem impl_queries.mono : ∀ a0 a1 a2 a3 a4 k,LeO (impl_queries.f k a0 a1 a2 a3 a4) (impl_queries.f (k + 1) a0 a1 a2 a3 a4) := by
 intro a0 a1 a2 a3 a4 k;obtain ⟨ih0,ih1,ih2⟩ := impl_queries.mono_l k;exact ih0 a0 a1 a2 a3 a4
set_option maxHeartbeats 8000000 in
set_option maxRecDepth 100000 in
theorem impl_queries.calls (k : Nat) : ∀ (a0_0 : Int) (a0_1 : ByteArray) (a0_2 : ByteArray) (A0_3 : Option Addr) (c0_3 : Nat) (l0_3 : List (S36)) (a1 : Int) (r1 : Int) (r2 : Bool) (w : World) (hr0_3 : Kd.C k36 w A0_3 l0_3.length l0_3) (hc0_3 : l0_3.length ≤ c0_3) (hG : Gfw w) (h : impl_queries.f k a0_0 a0_1 a0_2 l0_3 a1 = some (r1,r2)),
  Calls Tryz.prog 81 #[.agg #[.int .i64 a0_0,.string a0_1,.string a0_2,.slice A0_3 l0_3.length c0_3],.int .i64 a1] w fun e w' => e = .returned (.tuple #[.int .i64 r1,.bool r2]) ∧ Below w.heap.size w w' := by
 induction k using Nat.strongRecOn with
 | _ k ih =>
 intro a0_0 a0_1 a0_2 A0_3 c0_3 l0_3 a1 r1 r2 w hr0_3 hc0_3 hG h
 cases k with
 | zero => exact absurd h (by simp [impl_queries.f])
 | succ k =>
 simp only [impl_queries.f] at h;have hu36 := Tryz.underlying36;have HR0_3 := aM hr0_3;have HC0_3 := aM hc0_3;clear hr0_3 hc0_3;have HB := aM (Below.refl w.heap.size w);have HG := aM hG;clear hG;have H : (if a1 < 1 then (some (0,false)) else (if a0_0 = 1 then ((impl_isQueryWord.f k a0_2).bind fun t348 => (if t348 = true then (if a0_1.toList = ([] : List UInt8) then (impl_queries.j0 k a1 ((l0_3.length : Int) == 0) a0_0 a0_1 a0_2 l0_3) else ((impl_isField.f k a0_1).bind fun t349 => (if t349 = true then (impl_queries.j0 k a1 ((l0_3.length : Int) == 0) a0_0 a0_1 a0_2 l0_3) else (impl_queries.j0 k a1 false a0_0 a0_1 a0_2 l0_3)))) else (impl_queries.j0 k a1 false a0_0 a0_1 a0_2 l0_3))) else (if a0_0 = 2 then (if a0_2.toList = ([] : List UInt8) then (if a0_1.toList = ([] : List UInt8) then (impl_queries.j0 k a1 ((l0_3.length : Int) == 1) a0_0 a0_1 a0_2 l0_3) else (impl_queries.j0 k a1 false a0_0 a0_1 a0_2 l0_3)) else (impl_queries.j0 k a1 false a0_0 a0_1 a0_2 l0_3)) else (if a0_0 = 3 then (if a0_2.toList = ([] : List UInt8) then (if a0_1.toList = ([] : List UInt8) then (impl_queries.j0 k a1 ((l0_3.length : Int) == 2) a0_0 a0_1 a0_2 l0_3) else (impl_queries.j0 k a1 false a0_0 a0_1 a0_2 l0_3)) else (impl_queries.j0 k a1 false a0_0 a0_1 a0_2 l0_3)) else (if a0_0 = 4 then (if a0_2.toList = ([] : List UInt8) then (if a0_1.toList = ([] : List UInt8) then (impl_queries.j0 k a1 ((l0_3.length : Int) == 2) a0_0 a0_1 a0_2 l0_3) else (impl_queries.j0 k a1 false a0_0 a0_1 a0_2 l0_3)) else (impl_queries.j0 k a1 false a0_0 a0_1 a0_2 l0_3)) else (impl_queries.j0 k a1 false a0_0 a0_1 a0_2 l0_3)))))) = some (r1,r2) := h;clear h
 by_cases c3 : a1 < 1
 ·rw [if_pos c3] at H;have a7 : decide (a1 < 1) = true := dT c3;clear c3;simp only [eS,eP] at H;obtain ⟨rfl,rfl⟩ := H;go_enter Tryz.func81,Tryz.ntmps81;go_wp2_with (first|((with_reducible refine gate_dst (N := 2) rfl ?_);(try (refine gate_guard (by rfl) ?_;dsimp only));refine bx_ (N := 2) (cs := #[.int .i64 a0_0,.string a0_1,.string a0_2,.slice A0_3 l0_3.length c0_3]) (t := 36) ?_;intro ac hg w4 hbox hb;have ab := aM (hbox);have al := aM ((by rw [hg];exact (lZ wB_) : w.heap.size ≤ ac));have aD := al;replace HB := aM (lT wB_ hb);clear hb hbox hg));go_ret2;exact ⟨vR_,wB_⟩
 ·rw [if_neg c3] at H;have a7 : decide (a1 < 1) = false := dF c3;clear c3;have HC5 := aM H;clear H;go_enter Tryz.func81,Tryz.ntmps81;go_upto_block 0 with (first|((with_reducible refine gate_dst (N := 2) rfl ?_);(try (refine gate_guard (by rfl) ?_;dsimp only));refine bx_ (N := 2) (cs := #[.int .i64 a0_0,.string a0_1,.string a0_2,.slice A0_3 l0_3.length c0_3]) (t := 36) ?_;intro ac hg w6 hbox hb;have ab := aM (hbox);have al := aM ((by rw [hg];exact (lZ wB_) : w.heap.size ≤ ac));have aD := al;replace HB := aM (lT wB_ hb);clear hb hbox hg;obtain ⟨hcz7_0,hcz7_1,hcz7_2,hcz7_3,hfz7_0,hfz7_1,hfz7_2,hfz7_3⟩ := z4_ ab.out));(try simp only [Act.put,lI,sZ,sS]);go_cut [6] (fun v6 wc => ∃ (kq : Nat) (au : Bool),v6 = .bool au ∧ Aside0 (impl_queries.j0 kq a1 au a0_0 a0_1 a0_2 l0_3 = some (r1,r2)) ∧ Aside0 (kq ≤ k) ∧ Aside0 (wc.heap[ac]? = some (.cells #[.int .i64 a0_0,.string a0_1,.string a0_2,(.slice A0_3 l0_3.length c0_3)] 36 (0,0))) ∧ Aside0 (Below w.heap.size w wc))
  case first =>
   have H := HC5.out;clear HC5
   by_cases c8 : a0_0 = 1
   focus
    rw [if_pos c8] at H;have am : (a0_0 == 1) = true := beq_iff_eq.mpr c8;have a8 : (a0_0 != 1) = false := bne_eq_false_iff_eq.mpr c8;clear c8;(first|rw [am]|(simp only [i64_w,i32_w];rw [am])|skip);obtain ⟨t348,A9,H⟩ := bE_ H
    by_cases c10 : t348 = true
    focus
     subst c10;rw [if_pos rfl] at H
     by_cases c11 : a0_1.toList = ([] : List UInt8)
     focus
      rw [if_pos c11] at H;have aE : (a0_1.toList == ([] : List UInt8)) = true := beq_iff_eq.mpr c11;have aF : (a0_1.toList != ([] : List UInt8)) = false := bne_eq_false_iff_eq.mpr c11;clear c11;have H' := aM H;clear H
     rotate_left
     focus
      rw [if_neg c11] at H;have aE : (a0_1.toList == ([] : List UInt8)) = false := beq_eq_false_iff_ne.mpr c11;have aF : (a0_1.toList != ([] : List UInt8)) = true := bne_iff_ne.mpr c11;obtain ⟨t349,A13,H⟩ := bE_ H
      by_cases c14 : t349 = true
      focus
       subst c14;rw [if_pos rfl] at H;have H' := aM H;clear H
      rotate_left
      focus
       replace c14 := Bool.eq_false_iff.mpr c14;subst c14;rw [if_neg Bool.false_ne_true] at H;have H' := aM H;clear H
    rotate_left 3
    focus
     replace c10 := Bool.eq_false_iff.mpr c10;subst c10;rw [if_neg Bool.false_ne_true] at H;have H' := aM H;clear H
   rotate_left 4
   focus
    rw [if_neg c8] at H;have am : (a0_0 == 1) = false := beq_eq_false_iff_ne.mpr c8;have a8 : (a0_0 != 1) = true := bne_iff_ne.mpr c8;(first|rw [am]|(simp only [i64_w,i32_w];rw [am])|skip)
    by_cases c18 : a0_0 = 2
    focus
     rw [if_pos c18] at H;have aG : (a0_0 == 2) = true := beq_iff_eq.mpr c18;have aH : (a0_0 != 2) = false := bne_eq_false_iff_eq.mpr c18;clear c18
     by_cases c19 : a0_2.toList = ([] : List UInt8)
     focus
      rw [if_pos c19] at H;have aI : (a0_2.toList == ([] : List UInt8)) = true := beq_iff_eq.mpr c19;have aJ : (a0_2.toList != ([] : List UInt8)) = false := bne_eq_false_iff_eq.mpr c19;clear c19
      by_cases c20 : a0_1.toList = ([] : List UInt8)
      focus
       rw [if_pos c20] at H;have aK : (a0_1.toList == ([] : List UInt8)) = true := beq_iff_eq.mpr c20;have aL : (a0_1.toList != ([] : List UInt8)) = false := bne_eq_false_iff_eq.mpr c20;clear c20;have H' := aM H;clear H
      rotate_left
      focus
       rw [if_neg c20] at H;have aK : (a0_1.toList == ([] : List UInt8)) = false := beq_eq_false_iff_ne.mpr c20;have aL : (a0_1.toList != ([] : List UInt8)) = true := bne_iff_ne.mpr c20;have H' := aM H;clear H
     rotate_left 2
     focus
      rw [if_neg c19] at H;have aI : (a0_2.toList == ([] : List UInt8)) = false := beq_eq_false_iff_ne.mpr c19;have aJ : (a0_2.toList != ([] : List UInt8)) = true := bne_iff_ne.mpr c19;have H' := aM H;clear H
    rotate_left 3
    focus
     rw [if_neg c18] at H;have aG : (a0_0 == 2) = false := beq_eq_false_iff_ne.mpr c18;have aH : (a0_0 != 2) = true := bne_iff_ne.mpr c18
     by_cases c24 : a0_0 = 3
     focus
      rw [if_pos c24] at H;have aN : (a0_0 == 3) = true := beq_iff_eq.mpr c24;have aO : (a0_0 != 3) = false := bne_eq_false_iff_eq.mpr c24;clear c24
      by_cases c25 : a0_2.toList = ([] : List UInt8)
      focus
       rw [if_pos c25] at H;have aP : (a0_2.toList == ([] : List UInt8)) = true := beq_iff_eq.mpr c25;have aQ : (a0_2.toList != ([] : List UInt8)) = false := bne_eq_false_iff_eq.mpr c25;clear c25
       by_cases c26 : a0_1.toList = ([] : List UInt8)
       focus
        rw [if_pos c26] at H;have aR : (a0_1.toList == ([] : List UInt8)) = true := beq_iff_eq.mpr c26;have aS : (a0_1.toList != ([] : List UInt8)) = false := bne_eq_false_iff_eq.mpr c26;clear c26;have H' := aM H;clear H
       rotate_left
       focus
        rw [if_neg c26] at H;have aR : (a0_1.toList == ([] : List UInt8)) = false := beq_eq_false_iff_ne.mpr c26;have aS : (a0_1.toList != ([] : List UInt8)) = true := bne_iff_ne.mpr c26;have H' := aM H;clear H
      rotate_left 2
      focus
       rw [if_neg c25] at H;have aP : (a0_2.toList == ([] : List UInt8)) = false := beq_eq_false_iff_ne.mpr c25;have aQ : (a0_2.toList != ([] : List UInt8)) = true := bne_iff_ne.mpr c25;have H' := aM H;clear H
     rotate_left 3
     focus
      rw [if_neg c24] at H;have aN : (a0_0 == 3) = false := beq_eq_false_iff_ne.mpr c24;have aO : (a0_0 != 3) = true := bne_iff_ne.mpr c24
      by_cases c30 : a0_0 = 4
      focus
       rw [if_pos c30] at H;have aT : (a0_0 == 4) = true := beq_iff_eq.mpr c30;have aU : (a0_0 != 4) = false := bne_eq_false_iff_eq.mpr c30;clear c30
       by_cases c31 : a0_2.toList = ([] : List UInt8)
       focus
        rw [if_pos c31] at H;have aV : (a0_2.toList == ([] : List UInt8)) = true := beq_iff_eq.mpr c31;have aW : (a0_2.toList != ([] : List UInt8)) = false := bne_eq_false_iff_eq.mpr c31;clear c31
        by_cases c32 : a0_1.toList = ([] : List UInt8)
        focus
         rw [if_pos c32] at H;have aX : (a0_1.toList == ([] : List UInt8)) = true := beq_iff_eq.mpr c32;have aY : (a0_1.toList != ([] : List UInt8)) = false := bne_eq_false_iff_eq.mpr c32;clear c32;have H' := aM H;clear H
        rotate_left
        focus
         rw [if_neg c32] at H;have aX : (a0_1.toList == ([] : List UInt8)) = false := beq_eq_false_iff_ne.mpr c32;have aY : (a0_1.toList != ([] : List UInt8)) = true := bne_iff_ne.mpr c32;have H' := aM H;clear H
       rotate_left 2
       focus
        rw [if_neg c31] at H;have aV : (a0_2.toList == ([] : List UInt8)) = false := beq_eq_false_iff_ne.mpr c31;have aW : (a0_2.toList != ([] : List UInt8)) = true := bne_iff_ne.mpr c31;have H' := aM H;clear H
      rotate_left 3
      focus
       rw [if_neg c30] at H;have aT : (a0_0 == 4) = false := beq_eq_false_iff_ne.mpr c30;have aU : (a0_0 != 4) = true := bne_iff_ne.mpr c30;have H' := aM H;clear H
   all_goals
    (try obtain ⟨hczx347_0,hczx347_1,hczx347_2,hczx347_3,hfzx347_0,hfzx347_1,hfzx347_2,hfzx347_3⟩ := z4_ ab.out);go_wp2_with (first|((with_reducible refine gate_callee (f := 101) rfl ?_);refine gl_ (some 20) Tryz.func101 #[.string a0_2] ?_;(with_reducible refine (impl_isQueryWord.calls _ _ _ _ A9.out).mono ?_);rintro e w' ⟨rfl,⟨nd,rfl⟩⟩;refine ⟨_,rfl,?_⟩)|(go_at_call 134;(with_reducible refine (impl_isField.calls _ _ _ _ ?side1 A13.out).mono ?_);(case side1 => exact Gf.below HG.out.toGf wB_);rintro e w' ⟨rfl,⟨nd,rfl⟩⟩));go_meet
    case rel => first|(exact ⟨_,(((l0_3.length : Int) == 0)),vR_,H',⟨by first|omega|exact Nat.le_refl _⟩,⟨wC_ ab.out⟩,⟨wB_⟩⟩)|(exact ⟨_,(false),vR_,H',⟨by first|omega|exact Nat.le_refl _⟩,⟨wC_ ab.out⟩,⟨wB_⟩⟩)|(exact ⟨_,(((l0_3.length : Int) == 1)),vR_,H',⟨by first|omega|exact Nat.le_refl _⟩,⟨wC_ ab.out⟩,⟨wB_⟩⟩)|(exact ⟨_,(((l0_3.length : Int) == 2)),vR_,H',⟨by first|omega|exact Nat.le_refl _⟩,⟨wC_ ab.out⟩,⟨wB_⟩⟩)
  case rest =>
   clear HC5;obtain ⟨kq,au,rfl,HA,HJ4,ab,HB⟩ := hcut
   cases kq with
   | zero => exact absurd HA.out (by simp [impl_queries.j0])
   | succ kj4 =>
    have H := HA.out;clear HA;simp only [impl_queries.j0] at H;have H' := aM H;clear H;obtain ⟨hcz36_0,hcz36_1,hcz36_2,hcz36_3,hfz36_0,hfz36_1,hfz36_2,hfz36_3⟩ := z4_ ab.out;go_wp2;go_loopg [6,7,73] kj4 (fun kq v6 v7 v73 w' => ∃ (av : Bool) (af : Int) (aa : Int),v6 = .bool av ∧ v7 = .int .i64 af ∧ v73 = .int .i64 aa ∧ Aside0 (impl_queries.l0 kq a1 av af l0_3 (l0_3.length : Int) aa = some (r1,r2)) ∧ Aside0 (kq ≤ kj4) ∧ Aside0 (w'.heap[ac]? = some (.cells #[.int .i64 a0_0,.string a0_1,.string a0_2,(.slice A0_3 l0_3.length c0_3)] 36 (0,0))) ∧ Aside0 (Below w.heap.size w w'))
    case atStart => exact ⟨(au),(1),(0),vR_,vR_,vR_,H',⟨Nat.le_refl _⟩,⟨wC_ ab.out⟩,⟨wB_⟩⟩
    case round =>
     clear H';obtain ⟨av,af,aa,rfl,rfl,rfl,HA,HK2,ab,HB⟩ := hrel
     cases gk with
     | zero => exact absurd HA.out (by simp [impl_queries.l0])
     | succ k2 =>
      have H := HA.out;clear HA;simp only [impl_queries.l0] at H
      by_cases c37 : aa < (l0_3.length : Int)
      focus
       rw [if_pos c37] at H;have aZ : decide (aa < (l0_3.length : Int)) = true := dT c37;clear c37
       by_cases c38 : 0 ≤ aa
       rotate_left;rw [if_neg c38] at H;exact absurd H (by simp);rw [if_pos c38] at H;have c38b0 : decide (0 ≤ aa) = true := dT c38;clear c38
       by_cases c39 : aa < (l0_3.length : Int)
       rotate_left;rw [if_neg c39] at H;exact absurd H (by simp);rw [if_pos c39] at H;have c39b0 : decide (aa < (l0_3.length : Int)) = true := dT c39;clear c39
       by_cases c40 : av = true
       focus
        subst c40;rw [if_pos rfl] at H;replace H := Option.bind_eq_some_iff.mp H;obtain ⟨⟨az,aA⟩,a5,H⟩ := H;replace H : (impl_queries.l0 k2 a1 aA (wrap64 (af + az)) l0_3 (l0_3.length : Int) (wrap64 (aa + 1))) = some (r1,r2) := H;have A41 := aM a5;clear a5;have H' := aM H;clear H
       rotate_left
       focus
        replace c40 := Bool.eq_false_iff.mpr c40;subst c40;rw [if_neg Bool.false_ne_true] at H;simp only [eS,eP] at H;obtain ⟨rfl,rfl⟩ := H
      rotate_left 2
      focus
       rw [if_neg c37] at H;have aZ : decide (aa < (l0_3.length : Int)) = false := dF c37;clear c37;simp only [eS,eP] at H;obtain ⟨rfl,rfl⟩ := H
      all_goals
       (try (have p01 : 0 ≤ (aa : Int) := oD (by assumption);have q01 : aa < (l0_3.length : Int) := oD (by assumption);obtain ⟨a9,aw,ax,e01,ag,ah,ai,aj,an,ap⟩ := at_T36 HR0_3.out aa p01 q01;cases e01;replace ag := (HB.out.cell (wB w _ ag)).trans ag;replace ah := (HB.out.cell (wB w _ ah)).trans ah;replace ai := (HB.out.cell (wB w _ ai)).trans ai;replace aj := (HB.out.cell (wB w _ aj)).trans aj;have aB := aM ap;have aC := aM an;clear ap an;replace p01 := eq_true p01;replace q01 := eq_true q01));go_wp2_with (first|((with_reducible refine gate_dst (N := 9) rfl ?_);(try (refine gate_guard (by rfl) ?_;dsimp only));refine bx_ (N := 9) (cs := #[.int .i64 0,.string (⟨#[]⟩ : ByteArray),.string (⟨#[]⟩ : ByteArray),.slice none 0 0]) (t := 36) ?_;intro ay hg Wgb351 hbox hb;have ar := aM (hbox);have a6 := aM ((by rw [hg];exact (lZ wB_) : w.heap.size ≤ ay));have GE351 := a6;have ae := aM (nl_ hg ab.out);have ak := aM (ng_ hg ab.out);replace ab := aM (bw_ ab.out hb);replace HB := aM (lT wB_ hb);clear hb hbox hg;have hnby351_347 := ak.out;have hncy347_351 := ae.out;obtain ⟨hcz351x351_0,hcz351x351_1,hcz351x351_2,hcz351x351_3,hfz351x351_0,hfz351x351_1,hfz351x351_2,hfz351x351_3⟩ := z4_ ar.out)|((with_reducible refine gate_callee (f := 81) rfl ?_);refine gl_ (some 84) Tryz.func81 #[.agg #[.int .i64 ((rd_T36 l0_3 aa).f0),.string ((rd_T36 l0_3 aa).f1),.string ((rd_T36 l0_3 aa).f2),.slice aw ((rd_T36 l0_3 aa).f3).length ax],.int .i64 (wrap64 (a1 - af))] ?_;(with_reducible refine (ih k2 (by have := HJ4.out;have := HK2.out;omega) ((rd_T36 l0_3 aa).f0) ((rd_T36 l0_3 aa).f1) ((rd_T36 l0_3 aa).f2) _ _ ((rd_T36 l0_3 aa).f3) (wrap64 (a1 - af)) az aA _ ?side1 ?side2 ?side3 A41.out).mono ?_);(case side1 => exact cB aB.out wB_);(case side2 => exact aC.out);(case side3 => exact Gfw.below HG.out wB_);rintro e WA41 ⟨rfl,hb⟩;refine ⟨_,rfl,?_⟩;replace ab := aM (bW (g := ac) (o := .cells #[.int .i64 a0_0,.string a0_1,.string a0_2,.slice (some a9) l0_3.length c0_3] 36 (0,0)) (bf_ ae.out ab.out) hb);replace ar := aM (bW (g := ay) (o := .cells #[.int .i64 ((rd_T36 l0_3 aa).f0),.string ((rd_T36 l0_3 aa).f1),.string ((rd_T36 l0_3 aa).f2),.slice aw ((rd_T36 l0_3 aa).f3).length ax] 36 (0,0)) (bq4_ ar.out) hb);replace HB := aM (lT wB_ hb)))
       first
        |
         go_ret2;(first|exact ⟨vR_,wB_⟩|exact ⟨vR_,wB_⟩)
        |
         go_roundg k2
         case measure => have := HJ4.out;have := HK2.out;omega
         case rel => exact ⟨(aA),(wrap64 (af + az)),(wrap64 (aa + 1)),vR_,vR_,vR_,H',⟨by have := HJ4.out;have := HK2.out;omega⟩,⟨wC_ ab.out⟩,⟨wB_⟩⟩
def impl_IsValidQuery.f (k : Nat) (a0_0 : Int) (a0_1 : ByteArray) (a0_2 : ByteArray) (l0_3 : List (S36)) : Option (Bool) := (impl_queries.f k a0_0 a0_1 a0_2 l0_3 15).bind fun bt355 => (some bt355.2)
theorem impl_IsValidQuery.mono : ∀ a0 a1 a2 a3 k,LeO (impl_IsValidQuery.f k a0 a1 a2 a3) (impl_IsValidQuery.f (k + 1) a0 a1 a2 a3) := by
 intro a0 a1 a2 a3 k
 unfold impl_IsValidQuery.f
 repeat' (first|with_reducible (first|exact impl_queries.mono _ _ _ _ _ _|exact LeO.refl _|exact LeO.none _|refine LeO.ite ?_ ?_|refine LeO.bind ?_ (fun _ => ?_))|exact LeO.none _|refine LeO.ite ?_ ?_|refine LeO.bind ?_ (fun _ => ?_))
set_option maxHeartbeats 8000000 in
set_option maxRecDepth 100000 in
theorem impl_IsValidQuery.calls (k : Nat) (a0_0 : Int) (a0_1 : ByteArray) (a0_2 : ByteArray) (A0_3 : Option Addr) (c0_3 : Nat) (l0_3 : List (S36)) (r : Bool) (w : World) (hr0_3 : Kd.C k36 w A0_3 l0_3.length l0_3) (hc0_3 : l0_3.length ≤ c0_3) (hG : Gfw w) (h : impl_IsValidQuery.f k a0_0 a0_1 a0_2 l0_3 = some r) :
  Calls Tryz.prog 31 #[.agg #[.int .i64 a0_0,.string a0_1,.string a0_2,.slice A0_3 l0_3.length c0_3]] w fun e w' => e = .returned (.bool r) ∧ Below w.heap.size w w' := by
 have hu36 := Tryz.underlying36;have HR0_3 := aM hr0_3;have HC0_3 := aM hc0_3;clear hr0_3 hc0_3;have HB := aM (Below.refl w.heap.size w);have HG := aM hG;clear hG;have H : ((impl_queries.f k a0_0 a0_1 a0_2 l0_3 15).bind fun bt355 => (some bt355.2)) = some r := h;clear h;replace H := Option.bind_eq_some_iff.mp H;obtain ⟨⟨t355,t356⟩,A20,H⟩ := H;replace H : (some t356) = some r := H;have A2 := aM A20;clear A20;obtain rfl := Option.some.inj H;simp only [eS,eP] at H;obtain ⟨rfl⟩ := H;go_enter Tryz.func31,Tryz.ntmps31;go_wp2_with (first|((with_reducible refine gate_dst (N := 1) rfl ?_);refine bx_ (N := 1) (cs := #[.int .i64 a0_0,.string a0_1,.string a0_2,.slice A0_3 l0_3.length c0_3]) (t := 36) ?_;intro gb354 hg w3 hbox hb;have BK354 := aM (hbox);have GW354 := aM ((by rw [hg];exact (lZ wB_) : w.heap.size ≤ gb354));have GE354 := GW354;replace HB := aM (lT wB_ hb);clear hb hbox hg;obtain ⟨hcz4_0,hcz4_1,hcz4_2,hcz4_3,hfz4_0,hfz4_1,hfz4_2,hfz4_3⟩ := z4_ BK354.out)|((with_reducible refine gate_callee (f := 81) rfl ?_);refine gl_ (some 7) Tryz.func81 #[.agg #[.int .i64 a0_0,.string a0_1,.string a0_2,.slice A0_3 l0_3.length c0_3],.int .i64 15] ?_;(with_reducible refine (impl_queries.calls k a0_0 a0_1 a0_2 _ _ l0_3 15 t355 t356 _ ?side1 ?side2 ?side3 A2.out).mono ?_);(case side1 => exact wX_ HR0_3.out);(case side2 => exact HC0_3.out);(case side3 => exact Gfw.below HG.out wB_);rintro e w5 ⟨rfl,hb⟩;refine ⟨_,rfl,?_⟩;replace BK354 := aM (bw_ BK354.out hb);replace HB := aM (lT wB_ hb)));go_ret;exact ⟨vR_,wB_⟩
end Go.Proofs.YtmafmhgmdegplaaGreatDoor.P
