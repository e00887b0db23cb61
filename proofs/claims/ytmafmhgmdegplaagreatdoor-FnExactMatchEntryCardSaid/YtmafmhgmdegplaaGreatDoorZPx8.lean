/- Written by a program in this session: each theorem here says that a Go function computes the Lean function beside it, or that a law's row holds, under the conditions that the theorem itself states. -/
import Derived.Test.YtmafmhgmdegplaaGreatDoorZPx0
import Derived.Test.YtmafmhgmdegplaaGreatDoorZPx2
import Derived.Test.YtmafmhgmdegplaaGreatDoorZPx4
import Derived.Test.YtmafmhgmdegplaaGreatDoorZPx6
import Derived.Test.YtmafmhgmdegplaaGreatDoorZPx7
namespace Go.Proofs.YtmafmhgmdegplaaGreatDoor.P
open Go.RowKit Go.Proofs.YtmafmhgmdegplaaGreatDoorW.PrintWords Go.Proofs.YtmafmhgmdegplaaGreatDoorW.PrintLast Go.Proofs.YtmafmhgmdegplaaGreatDoorW.PrintMore
attribute [local go_sem] max2_int min2_int max_two min_two max_three min_three max_four min_four   -- for this text's walks alone
set_option linter.unusedVariables false
set_option linter.unusedSimpArgs false
mutual
def spec_l4Entry.j0 : Nat → Bool → ByteArray → Int → List (S157) → List (S157) → ByteArray → ByteArray → ByteArray → Int → Int → Int → Bool → Int → ByteArray → ByteArray → Option (Bool)
 | 0,_,_,_,_,_,_,_,_,_,_,_,_,_,_,_ => none
 | k + 1,x24,x182000,x182001,x182002,x182003,x182004,x182005,x182006,x182007,x182008,x182009,x182010,x182011,x182012,x182013 => if x24 = true then (some false) else ((spec_l4Text.f k x182004).bind fun t186 => (if t186 = true then ((spec_l4Text.f k x182005).bind fun t187 => (if t187 = true then ((spec_l4Text.f k x182006).bind fun t188 => (if t188 = true then ((spec_l4Text.f k x182012).bind fun t189 => (spec_l4Entry.j1 k (!t189) x182000 x182001 x182002 x182003 x182004 x182005 x182006 x182007 x182008 x182009 x182010 x182011 x182012 x182013)) else (spec_l4Entry.j1 k true x182000 x182001 x182002 x182003 x182004 x182005 x182006 x182007 x182008 x182009 x182010 x182011 x182012 x182013))) else (spec_l4Entry.j1 k true x182000 x182001 x182002 x182003 x182004 x182005 x182006 x182007 x182008 x182009 x182010 x182011 x182012 x182013))) else (spec_l4Entry.j1 k true x182000 x182001 x182002 x182003 x182004 x182005 x182006 x182007 x182008 x182009 x182010 x182011 x182012 x182013)))
def spec_l4Entry.j1 : Nat → Bool → ByteArray → Int → List (S157) → List (S157) → ByteArray → ByteArray → ByteArray → Int → Int → Int → Bool → Int → ByteArray → ByteArray → Option (Bool)
 | 0,_,_,_,_,_,_,_,_,_,_,_,_,_,_,_ => none
 | k + 1,x46,x182000,x182001,x182002,x182003,x182004,x182005,x182006,x182007,x182008,x182009,x182010,x182011,x182012,x182013 => if x46 = true then (some false) else ((spec_l3Good.f k x182007 x182008 x182009 x182010).bind fun t190 => (if t190 = true then ((spec_l1In.f x182011 0 9999).bind fun t191 => (if t191 = true then (if x182013.toList = ([] : List UInt8) then (some true) else ((spec_l4Key.f k x182013).bind fun t192 => (if t192 = true then (some (x182013.toList != x182000.toList)) else (some false)))) else (some false))) else (some false)))
end
def spec_l4Entry.f (k : Nat) (a0_0 : ByteArray) (a0_1 : Int) (l0_2 : List (S157)) (l0_3 : List (S157)) (a0_4 : ByteArray) (a0_5 : ByteArray) (a0_6 : ByteArray) (a0_7 : Int) (a0_8 : Int) (a0_9 : Int) (a0_10 : Bool) (a0_11 : Int) (a0_12 : ByteArray) (a0_13 : ByteArray) : Option (Bool) := (spec_l4Key.f k a0_0).bind fun t182 => (if t182 = true then ((spec_l1In.f a0_1 1 4).bind fun t183 => (if t183 = true then ((spec_l2List.f k l0_2).bind fun t184 => (if t184 = true then ((spec_l2List.f k l0_3).bind fun t185 => (spec_l4Entry.j0 k (!t185) a0_0 a0_1 l0_2 l0_3 a0_4 a0_5 a0_6 a0_7 a0_8 a0_9 a0_10 a0_11 a0_12 a0_13)) else (spec_l4Entry.j0 k true a0_0 a0_1 l0_2 l0_3 a0_4 a0_5 a0_6 a0_7 a0_8 a0_9 a0_10 a0_11 a0_12 a0_13))) else (spec_l4Entry.j0 k true a0_0 a0_1 l0_2 l0_3 a0_4 a0_5 a0_6 a0_7 a0_8 a0_9 a0_10 a0_11 a0_12 a0_13))) else (spec_l4Entry.j0 k true a0_0 a0_1 l0_2 l0_3 a0_4 a0_5 a0_6 a0_7 a0_8 a0_9 a0_10 a0_11 a0_12 a0_13))
theorem spec_l4Entry.mono_l : ∀ k,(∀ y0 y1 y2 y3 y4 y5 y6 y7 y8 y9 y10 y11 y12 y13 y14,LeO (spec_l4Entry.j0 k y0 y1 y2 y3 y4 y5 y6 y7 y8 y9 y10 y11 y12 y13 y14) (spec_l4Entry.j0 (k + 1) y0 y1 y2 y3 y4 y5 y6 y7 y8 y9 y10 y11 y12 y13 y14)) ∧ (∀ y0 y1 y2 y3 y4 y5 y6 y7 y8 y9 y10 y11 y12 y13 y14,LeO (spec_l4Entry.j1 k y0 y1 y2 y3 y4 y5 y6 y7 y8 y9 y10 y11 y12 y13 y14) (spec_l4Entry.j1 (k + 1) y0 y1 y2 y3 y4 y5 y6 y7 y8 y9 y10 y11 y12 y13 y14))
 | 0 => ⟨fun _ _ _ _ _ _ _ _ _ _ _ _ _ _ _ r h => by simp [spec_l4Entry.j0] at h,fun _ _ _ _ _ _ _ _ _ _ _ _ _ _ _ r h => by simp [spec_l4Entry.j1] at h⟩
 | k + 1 => by
  obtain ⟨ih0,ih1⟩ := spec_l4Entry.mono_l k
  refine ⟨?_,?_⟩
  all_goals (intros;first|unfold spec_l4Entry.j0|unfold spec_l4Entry.j1)
  all_goals repeat' (first|with_reducible (first|exact ih0 _ _ _ _ _ _ _ _ _ _ _ _ _ _ _|exact ih1 _ _ _ _ _ _ _ _ _ _ _ _ _ _ _|exact spec_l2List.mono _ _|exact spec_l3Good.mono _ _ _ _ _|exact spec_l4Key.mono _ _|exact spec_l4Text.mono _ _|exact LeO.refl _|exact LeO.none _|refine LeO.ite ?_ ?_|refine LeO.bind ?_ (fun _ => ?_))|exact LeO.none _|refine LeO.ite ?_ ?_|refine LeO.bind ?_ (fun _ => ?_))
theorem spec_l4Entry.mono : ∀ a0 a1 a2 a3 a4 a5 a6 a7 a8 a9 a10 a11 a12 a13 k,LeO (spec_l4Entry.f k a0 a1 a2 a3 a4 a5 a6 a7 a8 a9 a10 a11 a12 a13) (spec_l4Entry.f (k + 1) a0 a1 a2 a3 a4 a5 a6 a7 a8 a9 a10 a11 a12 a13) := by
 intro a0 a1 a2 a3 a4 a5 a6 a7 a8 a9 a10 a11 a12 a13 k
 obtain ⟨ih0,ih1⟩ := spec_l4Entry.mono_l k
 unfold spec_l4Entry.f
 repeat' (first|with_reducible (first|exact ih0 _ _ _ _ _ _ _ _ _ _ _ _ _ _ _|exact ih1 _ _ _ _ _ _ _ _ _ _ _ _ _ _ _|exact spec_l2List.mono _ _|exact spec_l3Good.mono _ _ _ _ _|exact spec_l4Key.mono _ _|exact spec_l4Text.mono _ _|exact LeO.refl _|exact LeO.none _|refine LeO.ite ?_ ?_|refine LeO.bind ?_ (fun _ => ?_))|exact LeO.none _|refine LeO.ite ?_ ?_|refine LeO.bind ?_ (fun _ => ?_))
set_option maxHeartbeats 8000000 in
set_option maxRecDepth 100000 in
theorem spec_l4Entry.calls (k : Nat) (a0_0 : ByteArray) (a0_1 : Int) (A0_2 : Option Addr) (c0_2 : Nat) (l0_2 : List (S157)) (A0_3 : Option Addr) (c0_3 : Nat) (l0_3 : List (S157)) (a0_4 : ByteArray) (a0_5 : ByteArray) (a0_6 : ByteArray) (a0_7 : Int) (a0_8 : Int) (a0_9 : Int) (a0_10 : Bool) (a0_11 : Int) (a0_12 : ByteArray) (a0_13 : ByteArray) (r : Bool) (w : World) (hr0_2 : Kd.C k157 w A0_2 l0_2.length l0_2) (hc0_2 : l0_2.length ≤ c0_2) (hr0_3 : Kd.C k157 w A0_3 l0_3.length l0_3) (hc0_3 : l0_3.length ≤ c0_3) (h : spec_l4Entry.f k a0_0 a0_1 l0_2 l0_3 a0_4 a0_5 a0_6 a0_7 a0_8 a0_9 a0_10 a0_11 a0_12 a0_13 = some r) :
  Calls Tryz.prog 60 #[.agg #[.string a0_0,.int .i64 a0_1,.slice A0_2 l0_2.length c0_2,.slice A0_3 l0_3.length c0_3,.string a0_4,.string a0_5,.string a0_6,.int .i64 a0_7,.int .i64 a0_8,.int .i64 a0_9,.bool a0_10,.int .i64 a0_11,.string a0_12,.string a0_13]] w fun e w' => e = .returned (.bool r) ∧ Below w.heap.size w w' := by
 have hu41 := Tryz.underlying41;have hu39 := Tryz.underlying39;have aN := aM hr0_2;have aO := aM hc0_2;clear hr0_2 hc0_2;have aP := aM hr0_3;have aQ := aM hc0_3;clear hr0_3 hc0_3;have HB := aM (Below.refl w.heap.size w);have H : ((spec_l4Key.f k a0_0).bind fun t182 => (if t182 = true then ((spec_l1In.f a0_1 1 4).bind fun t183 => (if t183 = true then ((spec_l2List.f k l0_2).bind fun t184 => (if t184 = true then ((spec_l2List.f k l0_3).bind fun t185 => (spec_l4Entry.j0 k (!t185) a0_0 a0_1 l0_2 l0_3 a0_4 a0_5 a0_6 a0_7 a0_8 a0_9 a0_10 a0_11 a0_12 a0_13)) else (spec_l4Entry.j0 k true a0_0 a0_1 l0_2 l0_3 a0_4 a0_5 a0_6 a0_7 a0_8 a0_9 a0_10 a0_11 a0_12 a0_13))) else (spec_l4Entry.j0 k true a0_0 a0_1 l0_2 l0_3 a0_4 a0_5 a0_6 a0_7 a0_8 a0_9 a0_10 a0_11 a0_12 a0_13))) else (spec_l4Entry.j0 k true a0_0 a0_1 l0_2 l0_3 a0_4 a0_5 a0_6 a0_7 a0_8 a0_9 a0_10 a0_11 a0_12 a0_13))) = some r := h;clear h;have HC2 := aM H;clear H;go_enter Tryz.func60,Tryz.ntmps60;go_upto_region 1 with (first|((with_reducible refine gate_dst (N := 1) rfl ?_);refine bx_ (N := 1) (cs := #[.string a0_0,.int .i64 a0_1,.slice A0_2 l0_2.length c0_2,.slice A0_3 l0_3.length c0_3,.string a0_4,.string a0_5,.string a0_6,.int .i64 a0_7,.int .i64 a0_8,.int .i64 a0_9,.bool a0_10,.int .i64 a0_11,.string a0_12,.string a0_13]) (t := 41) ?_;intro aK hg w3 hbox hb;have aa := aM (hbox);have aR := aM ((by rw [hg];exact (lZ wB_) : w.heap.size ≤ aK));have GE181 := aR;replace HB := aM (lT wB_ hb);clear hb hbox hg));(try simp only [Act.put,lI,sZ,sS]);go_cut [24] (fun v24 wc => ∃ (kq : Nat) (aJ : Bool),v24 = .bool aJ ∧ Aside0 (spec_l4Entry.j0 kq aJ a0_0 a0_1 l0_2 l0_3 a0_4 a0_5 a0_6 a0_7 a0_8 a0_9 a0_10 a0_11 a0_12 a0_13 = some r) ∧ Aside0 (kq ≤ k) ∧ Aside0 (wc.heap[aK]? = some (.cells #[.string a0_0,.int .i64 a0_1,(.slice A0_2 l0_2.length c0_2),(.slice A0_3 l0_3.length c0_3),.string a0_4,.string a0_5,.string a0_6,.int .i64 a0_7,.int .i64 a0_8,.int .i64 a0_9,.bool a0_10,.int .i64 a0_11,.string a0_12,.string a0_13] 41 (0,0))) ∧ Aside0 (Below w.heap.size w wc))
 case first =>
  have H := HC2.out;clear HC2;obtain ⟨t182,A4,H⟩ := bE_ H
  by_cases c5 : t182 = true
  focus
   subst c5;rw [if_pos rfl] at H;obtain ⟨t183,A6,H⟩ := bE_ H
   by_cases c7 : t183 = true
   focus
    subst c7;rw [if_pos rfl] at H;obtain ⟨t184,A8,H⟩ := bE_ H
    by_cases c9 : t184 = true
    focus
     subst c9;rw [if_pos rfl] at H;obtain ⟨t185,A10,H⟩ := bE_ H;have H' := aM H;clear H
    rotate_left
    focus
     replace c9 := Bool.eq_false_iff.mpr c9;subst c9;rw [if_neg Bool.false_ne_true] at H;have H' := aM H;clear H
   rotate_left 2
   focus
    replace c7 := Bool.eq_false_iff.mpr c7;subst c7;rw [if_neg Bool.false_ne_true] at H;have H' := aM H;clear H
  rotate_left 3
  focus
   replace c5 := Bool.eq_false_iff.mpr c5;subst c5;rw [if_neg Bool.false_ne_true] at H;have H' := aM H;clear H
  all_goals
   obtain ⟨ak,al,am,an,ap,ar,au,av,aw,ax,ab,ac,ae,af,ay,az,aA,aB,aC,aD,aE,aF,aG,aH,ag,ah,ai,aj⟩ := z14_ aa.out;go_wp2_with (first|((with_reducible refine gate_callee (f := 120) rfl ?_);refine gl_ (some 5) Tryz.func120 #[.string a0_0] ?_;(with_reducible refine (spec_l4Key.calls _ _ _ _ A4.out).mono ?_);rintro e w' ⟨rfl,⟨nd,rfl⟩⟩;refine ⟨_,rfl,?_⟩)|(go_at_call 121;(with_reducible refine (spec_l1In.calls _ _ _ _ _ A6.out).mono ?_);rintro e w' ⟨rfl,⟨nd,rfl⟩⟩)|(go_at_call 122;(with_reducible refine (spec_l2List.calls _ _ _ _ _ _ ?side1 ?side2 A8.out).mono ?_);(case side1 => repeat (first|exact (cB aN.out wB_)|(with_reducible first|refine cA ?_ _|refine cN ?_ _|refine cD ?_)));(case side2 => exact aO.out);rintro e WA8 ⟨rfl,hb⟩;replace aa := aM (bw_ aa.out hb);replace HB := aM (lT wB_ hb);obtain ⟨hcz8x181_0,hcz8x181_1,hcz8x181_2,hcz8x181_3,hcz8x181_4,hcz8x181_5,hcz8x181_6,hcz8x181_7,hcz8x181_8,hcz8x181_9,hcz8x181_10,hcz8x181_11,hcz8x181_12,hcz8x181_13,hfz8x181_0,hfz8x181_1,hfz8x181_2,hfz8x181_3,hfz8x181_4,hfz8x181_5,hfz8x181_6,hfz8x181_7,hfz8x181_8,hfz8x181_9,hfz8x181_10,hfz8x181_11,hfz8x181_12,hfz8x181_13⟩ := z14_ aa.out)|(go_at_call 122;(with_reducible refine (spec_l2List.calls _ _ _ _ _ _ ?side1 ?side2 A10.out).mono ?_);(case side1 => exact wX_ aP.out);(case side2 => exact aQ.out);rintro e WA10 ⟨rfl,hb⟩;replace aa := aM (bw_ aa.out hb);replace HB := aM (lT wB_ hb)));go_meet
   case rel => first|(exact ⟨_,(!t185),vR_,H',⟨by first|omega|exact Nat.le_refl _⟩,⟨wC_ aa.out⟩,⟨wB_⟩⟩)|(exact ⟨_,(true),vR_,H',⟨by first|omega|exact Nat.le_refl _⟩,⟨wC_ aa.out⟩,⟨wB_⟩⟩)
 case rest =>
  clear HC2;obtain ⟨kq,aJ,rfl,HA,HJ1,aa,HB⟩ := hcut
  cases kq with
  | zero => exact absurd HA.out (by simp [spec_l4Entry.j0])
  | succ kj1 =>
   have H := HA.out;clear HA;simp only [spec_l4Entry.j0] at H
   by_cases c19 : aJ = true
   ·subst c19;rw [if_pos rfl] at H;obtain rfl := Option.some.inj H;simp only [eS,eP] at H;obtain ⟨rfl⟩ := H;go_wp2;go_ret;exact ⟨vR_,wB_⟩
   ·replace c19 := Bool.eq_false_iff.mpr c19;subst c19;rw [if_neg Bool.false_ne_true] at H;have aL := aM H;clear H;go_upto_region 3 with (fail);go_cut [46] (fun v46 wc => ∃ (kq : Nat) (aI : Bool),v46 = .bool aI ∧ Aside0 (spec_l4Entry.j1 kq aI a0_0 a0_1 l0_2 l0_3 a0_4 a0_5 a0_6 a0_7 a0_8 a0_9 a0_10 a0_11 a0_12 a0_13 = some r) ∧ Aside0 (kq ≤ kj1) ∧ Aside0 (wc.heap[aK]? = some (.cells #[.string a0_0,.int .i64 a0_1,(.slice A0_2 l0_2.length c0_2),(.slice A0_3 l0_3.length c0_3),.string a0_4,.string a0_5,.string a0_6,.int .i64 a0_7,.int .i64 a0_8,.int .i64 a0_9,.bool a0_10,.int .i64 a0_11,.string a0_12,.string a0_13] 41 (0,0))) ∧ Aside0 (Below w.heap.size w wc))
    case first =>
     have H := aL.out;clear aL;obtain ⟨t186,A21,H⟩ := bE_ H
     by_cases c22 : t186 = true
     focus
      subst c22;rw [if_pos rfl] at H;obtain ⟨t187,A23,H⟩ := bE_ H
      by_cases c24 : t187 = true
      focus
       subst c24;rw [if_pos rfl] at H;obtain ⟨t188,A25,H⟩ := bE_ H
       by_cases c26 : t188 = true
       focus
        subst c26;rw [if_pos rfl] at H;obtain ⟨t189,A27,H⟩ := bE_ H;have H' := aM H;clear H
       rotate_left
       focus
        replace c26 := Bool.eq_false_iff.mpr c26;subst c26;rw [if_neg Bool.false_ne_true] at H;have H' := aM H;clear H
      rotate_left 2
      focus
       replace c24 := Bool.eq_false_iff.mpr c24;subst c24;rw [if_neg Bool.false_ne_true] at H;have H' := aM H;clear H
     rotate_left 3
     focus
      replace c22 := Bool.eq_false_iff.mpr c22;subst c22;rw [if_neg Bool.false_ne_true] at H;have H' := aM H;clear H
     all_goals
      obtain ⟨ak,al,am,an,ap,ar,au,av,aw,ax,ab,ac,ae,af,ay,az,aA,aB,aC,aD,aE,aF,aG,aH,ag,ah,ai,aj⟩ := z14_ aa.out;go_wp2_with (first|((with_reducible refine gate_callee (f := 123) rfl ?_);refine gl_ (some 27) Tryz.func123 #[.string a0_4] ?_;(with_reducible refine (spec_l4Text.calls _ _ _ _ A21.out).mono ?_);rintro e w' ⟨rfl,⟨nd,rfl⟩⟩;refine ⟨_,rfl,?_⟩)|(go_at_call 123;(with_reducible refine (spec_l4Text.calls _ _ _ _ A23.out).mono ?_);rintro e w' ⟨rfl,⟨nd,rfl⟩⟩)|(go_at_call 123;(with_reducible refine (spec_l4Text.calls _ _ _ _ A25.out).mono ?_);rintro e w' ⟨rfl,⟨nd,rfl⟩⟩)|(go_at_call 123;(with_reducible refine (spec_l4Text.calls _ _ _ _ A27.out).mono ?_);rintro e w' ⟨rfl,⟨nd,rfl⟩⟩));go_meet
      case rel => first|(exact ⟨_,(!t189),vR_,H',⟨by have := HJ1.out;first|omega|exact Nat.le_refl _⟩,⟨wC_ aa.out⟩,⟨wB_⟩⟩)|(exact ⟨_,(true),vR_,H',⟨by have := HJ1.out;first|omega|exact Nat.le_refl _⟩,⟨wC_ aa.out⟩,⟨wB_⟩⟩)
    case rest =>
     clear aL;obtain ⟨kq,aI,rfl,HA,HJ19,aa,HB⟩ := hcut
     cases kq with
     | zero => exact absurd HA.out (by simp [spec_l4Entry.j1])
     | succ kj19 =>
      have H := HA.out;clear HA;simp only [spec_l4Entry.j1] at H
      by_cases c32 : aI = true
      focus
       subst c32;rw [if_pos rfl] at H;obtain rfl := Option.some.inj H;simp only [eS,eP] at H;obtain ⟨rfl⟩ := H
      rotate_left
      focus
       replace c32 := Bool.eq_false_iff.mpr c32;subst c32;rw [if_neg Bool.false_ne_true] at H;obtain ⟨t190,A33,H⟩ := bE_ H
       by_cases c34 : t190 = true
       focus
        subst c34;rw [if_pos rfl] at H;obtain ⟨t191,A35,H⟩ := bE_ H
        by_cases c36 : t191 = true
        focus
         subst c36;rw [if_pos rfl] at H
         by_cases c37 : a0_13.toList = ([] : List UInt8)
         focus
          rw [if_pos c37] at H;have aS : (a0_13.toList == ([] : List UInt8)) = true := beq_iff_eq.mpr c37;have aT : (a0_13.toList != ([] : List UInt8)) = false := bne_eq_false_iff_eq.mpr c37;clear c37;obtain rfl := Option.some.inj H;simp only [eS,eP] at H;obtain ⟨rfl⟩ := H
         rotate_left
         focus
          rw [if_neg c37] at H;have aS : (a0_13.toList == ([] : List UInt8)) = false := beq_eq_false_iff_ne.mpr c37;have aT : (a0_13.toList != ([] : List UInt8)) = true := bne_iff_ne.mpr c37;obtain ⟨t192,A41,H⟩ := bE_ H
          by_cases c42 : t192 = true
          focus
           subst c42;rw [if_pos rfl] at H;obtain rfl := Option.some.inj H;simp only [eS,eP] at H;obtain ⟨rfl⟩ := H
          rotate_left
          focus
           replace c42 := Bool.eq_false_iff.mpr c42;subst c42;rw [if_neg Bool.false_ne_true] at H;obtain rfl := Option.some.inj H;simp only [eS,eP] at H;obtain ⟨rfl⟩ := H
        rotate_left 3
        focus
         replace c36 := Bool.eq_false_iff.mpr c36;subst c36;rw [if_neg Bool.false_ne_true] at H;obtain rfl := Option.some.inj H;simp only [eS,eP] at H;obtain ⟨rfl⟩ := H
       rotate_left 4
       focus
        replace c34 := Bool.eq_false_iff.mpr c34;subst c34;rw [if_neg Bool.false_ne_true] at H;obtain rfl := Option.some.inj H;simp only [eS,eP] at H;obtain ⟨rfl⟩ := H
      all_goals
       (try obtain ⟨ak,al,am,an,ap,ar,au,av,aw,ax,ab,ac,ae,af,ay,az,aA,aB,aC,aD,aE,aF,aG,aH,ag,ah,ai,aj⟩ := z14_ aa.out);go_wp2_with (first|((with_reducible refine gate_callee (f := 124) rfl ?_);refine gl_ (some 49) Tryz.func124 #[.agg #[.int .i64 a0_7,.int .i64 a0_8,.int .i64 a0_9,.bool a0_10]] ?_;(with_reducible refine (spec_l3Good.calls _ _ _ _ _ _ _ A33.out).mono ?_);rintro e WA33 ⟨rfl,hb⟩;refine ⟨_,rfl,?_⟩;replace aa := aM (bw_ aa.out hb);replace HB := aM (lT wB_ hb);obtain ⟨hcz33x181_0,hcz33x181_1,hcz33x181_2,hcz33x181_3,hcz33x181_4,hcz33x181_5,hcz33x181_6,hcz33x181_7,hcz33x181_8,hcz33x181_9,hcz33x181_10,hcz33x181_11,hcz33x181_12,hcz33x181_13,hfz33x181_0,hfz33x181_1,hfz33x181_2,hfz33x181_3,hfz33x181_4,hfz33x181_5,hfz33x181_6,hfz33x181_7,hfz33x181_8,hfz33x181_9,hfz33x181_10,hfz33x181_11,hfz33x181_12,hfz33x181_13⟩ := z14_ aa.out)|(go_at_call 121;(with_reducible refine (spec_l1In.calls _ _ _ _ _ A35.out).mono ?_);rintro e w' ⟨rfl,⟨nd,rfl⟩⟩)|(go_at_call 120;(with_reducible refine (spec_l4Key.calls _ _ _ _ A41.out).mono ?_);rintro e w' ⟨rfl,⟨nd,rfl⟩⟩));go_ret;exact ⟨vR_,wB_⟩
end Go.Proofs.YtmafmhgmdegplaaGreatDoor.P
