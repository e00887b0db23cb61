/- Written by a program in this session: each theorem here says that a Go function computes the Lean function beside it, or that a law's row holds, under the conditions that the theorem itself states. -/
import Derived.Test.YtmkkcpdpfelalaaZPx0
import Derived.Test.YtmkkcpdpfelalaaZPx4
namespace Go.Proofs.Ytmkkcpdpfelalaa.P
open Go.RowKit Go.Proofs.YtmkkcpdpfelalaaW.PrintWords Go.Proofs.YtmkkcpdpfelalaaW.PrintLast Go.Proofs.YtmkkcpdpfelalaaW.PrintMore
attribute [local go_sem] geqStr max2_int min2_int max_two min_two max_three min_three max_four min_four   -- for this text's walks alone
set_option linter.unusedVariables false
set_option linter.unusedSimpArgs false
mutual
def spec_l23Good.j0 : Nat → Bool → ByteArray → List (S61) → List (S72) → ByteArray → ByteArray → Option (Bool)
 | 0,_,_,_,_,_,_ => none
 | k + 1,x33,x180000,x180001,x180002,x180003,x180004 => if x33 = true then (some false) else (spec_l23Good.l0 k 0 x180000 x180001 x180002 x180003 x180004)
def spec_l23Good.l0 : Nat → Int → ByteArray → List (S61) → List (S72) → ByteArray → ByteArray → Option (Bool)
 | 0,_,_,_,_,_,_ => none
 | k + 1,x3,x180000,x180001,x180002,x180003,x180004 => if x3 < (x180001.length : Int) then (if 0 ≤ x3 then ((spec_l23Term.f k ((rd_T61 x180001 x3).f0) ((rd_T61 x180001 x3).f1) ((rd_T61 x180001 x3).f2)).bind fun t184 => (if t184 = true then (if x3 > 0 then (if 0 ≤ (wrap64 (x3 - 1)) then (if (wrap64 (x3 - 1)) < (x180001.length : Int) then (if ((Op.bytesLess (((rd_T61 x180001 (wrap64 (x3 - 1))).f0).toList) (((rd_T61 x180001 x3).f0).toList)) = true) then (spec_l23Good.l0 k (wrap64 (x3 + 1)) x180000 x180001 x180002 x180003 x180004) else (some false)) else (none)) else (none)) else (spec_l23Good.l0 k (wrap64 (x3 + 1)) x180000 x180001 x180002 x180003 x180004)) else (some false))) else (none)) else (spec_l23Good.l1 k 0 x180000 x180001 x180002 x180003 x180004)
def spec_l23Good.l1 : Nat → Int → ByteArray → List (S61) → List (S72) → ByteArray → ByteArray → Option (Bool)
 | 0,_,_,_,_,_,_ => none
 | k + 1,x4,x180000,x180001,x180002,x180003,x180004 => if x4 < (x180002.length : Int) then (if 0 ≤ x4 then ((spec_l1In.f ((rd_T72 x180002 x4).f0) 1 1000).bind fun t189 => (if t189 = true then ((spec_l1In.f ((rd_T72 x180002 x4).f1) 0 (wrap64 (((rd_T72 x180002 x4).f0) - 1))).bind fun t190 => (if t190 = true then ((spec_l23Bytes.f k ((rd_T72 x180002 x4).f2) 0 4 33).bind fun t191 => (if t191 = true then (spec_l23Good.l1 k (wrap64 (x4 + 1)) x180000 x180001 x180002 x180003 x180004) else (some false))) else (some false))) else (some false))) else (none)) else (some true)
end
def spec_l23Good.f (k : Nat) (a0_0 : ByteArray) (l0_1 : List (S61)) (l0_2 : List (S72)) (a0_3 : ByteArray) (a0_4 : ByteArray) : Option (Bool) := (spec_l23Key.f k a0_0).bind fun t180 => (if t180 = true then (if (l0_1.length : Int) > 12 then (spec_l23Good.j0 k true a0_0 l0_1 l0_2 a0_3 a0_4) else (if (l0_2.length : Int) > 6 then (spec_l23Good.j0 k true a0_0 l0_1 l0_2 a0_3 a0_4) else ((spec_l23Bytes.f k a0_3 1 10 32).bind fun t181 => (if t181 = true then ((spec_l23Bytes.f k a0_4 1 10 32).bind fun t182 => (spec_l23Good.j0 k (!t182) a0_0 l0_1 l0_2 a0_3 a0_4)) else (spec_l23Good.j0 k true a0_0 l0_1 l0_2 a0_3 a0_4))))) else (spec_l23Good.j0 k true a0_0 l0_1 l0_2 a0_3 a0_4))
theorem spec_l23Good.mono_l : ∀ k,(∀ y0 y1 y2 y3 y4 y5,LeO (spec_l23Good.j0 k y0 y1 y2 y3 y4 y5) (spec_l23Good.j0 (k + 1) y0 y1 y2 y3 y4 y5)) ∧ (∀ y0 y1 y2 y3 y4 y5,LeO (spec_l23Good.l0 k y0 y1 y2 y3 y4 y5) (spec_l23Good.l0 (k + 1) y0 y1 y2 y3 y4 y5)) ∧ (∀ y0 y1 y2 y3 y4 y5,LeO (spec_l23Good.l1 k y0 y1 y2 y3 y4 y5) (spec_l23Good.l1 (k + 1) y0 y1 y2 y3 y4 y5))
 | 0 => ⟨fun _ _ _ _ _ _ r h => by simp [spec_l23Good.j0] at h,fun _ _ _ _ _ _ r h => by simp [spec_l23Good.l0] at h,fun _ _ _ _ _ _ r h => by simp [spec_l23Good.l1] at h⟩
 | k + 1 => by
  obtain ⟨ih0,ih1,ih2⟩ := spec_l23Good.mono_l k
  refine ⟨?_,?_,?_⟩
  ·intro y0 y1 y2 y3 y4 y5
   unfold spec_l23Good.j0
   repeat' first
   | (with_reducible exact ih0 _ _ _ _ _ _)
   | (with_reducible exact ih1 _ _ _ _ _ _)
   | (with_reducible exact ih2 _ _ _ _ _ _)
   | (with_reducible exact spec_l23Bytes.mono _ _ _ _ _)
   | (with_reducible exact spec_l23Key.mono _ _)
   | (with_reducible exact spec_l23Term.mono _ _ _ _)
   | (with_reducible exact LeO.refl _)
   | (with_reducible exact LeO.none _)
   | (with_reducible refine LeO.ite ?_ ?_)
   | (with_reducible refine LeO.bind ?_ (fun _ => ?_))
   | exact ih0 _ _ _ _ _ _
   | exact ih1 _ _ _ _ _ _
   | exact ih2 _ _ _ _ _ _
   | exact spec_l23Bytes.mono _ _ _ _ _
   | exact spec_l23Key.mono _ _
   | exact spec_l23Term.mono _ _ _ _
   | exact LeO.none _
   | refine LeO.ite ?_ ?_
   | refine LeO.bind ?_ (fun _ => ?_)
  ·intro y0 y1 y2 y3 y4 y5
   unfold spec_l23Good.l0
   repeat' first
   | (with_reducible exact ih0 _ _ _ _ _ _)
   | (with_reducible exact ih1 _ _ _ _ _ _)
   | (with_reducible exact ih2 _ _ _ _ _ _)
   | (with_reducible exact spec_l23Bytes.mono _ _ _ _ _)
   | (with_reducible exact spec_l23Key.mono _ _)
   | (with_reducible exact spec_l23Term.mono _ _ _ _)
   | (with_reducible exact LeO.refl _)
   | (with_reducible exact LeO.none _)
   | (with_reducible refine LeO.ite ?_ ?_)
   | (with_reducible refine LeO.bind ?_ (fun _ => ?_))
   | exact ih0 _ _ _ _ _ _
   | exact ih1 _ _ _ _ _ _
   | exact ih2 _ _ _ _ _ _
   | exact spec_l23Bytes.mono _ _ _ _ _
   | exact spec_l23Key.mono _ _
   | exact spec_l23Term.mono _ _ _ _
   | exact LeO.none _
   | refine LeO.ite ?_ ?_
   | refine LeO.bind ?_ (fun _ => ?_)
  ·intro y0 y1 y2 y3 y4 y5
   unfold spec_l23Good.l1
   repeat' first
   | (with_reducible exact ih0 _ _ _ _ _ _)
   | (with_reducible exact ih1 _ _ _ _ _ _)
   | (with_reducible exact ih2 _ _ _ _ _ _)
   | (with_reducible exact spec_l23Bytes.mono _ _ _ _ _)
   | (with_reducible exact spec_l23Key.mono _ _)
   | (with_reducible exact spec_l23Term.mono _ _ _ _)
   | (with_reducible exact LeO.refl _)
   | (with_reducible exact LeO.none _)
   | (with_reducible refine LeO.ite ?_ ?_)
   | (with_reducible refine LeO.bind ?_ (fun _ => ?_))
   | exact ih0 _ _ _ _ _ _
   | exact ih1 _ _ _ _ _ _
   | exact ih2 _ _ _ _ _ _
   | exact spec_l23Bytes.mono _ _ _ _ _
   | exact spec_l23Key.mono _ _
   | exact spec_l23Term.mono _ _ _ _
   | exact LeO.none _
   | refine LeO.ite ?_ ?_
   | refine LeO.bind ?_ (fun _ => ?_)
theorem spec_l23Good.mono : ∀ a0 a1 a2 a3 a4 k,LeO (spec_l23Good.f k a0 a1 a2 a3 a4) (spec_l23Good.f (k + 1) a0 a1 a2 a3 a4) := by
 intro a0 a1 a2 a3 a4 k
 obtain ⟨ih0,ih1,ih2⟩ := spec_l23Good.mono_l k
 unfold spec_l23Good.f
 repeat' first
   | (with_reducible exact ih0 _ _ _ _ _ _)
   | (with_reducible exact ih1 _ _ _ _ _ _)
   | (with_reducible exact ih2 _ _ _ _ _ _)
   | (with_reducible exact spec_l23Bytes.mono _ _ _ _ _)
   | (with_reducible exact spec_l23Key.mono _ _)
   | (with_reducible exact spec_l23Term.mono _ _ _ _)
   | (with_reducible exact LeO.refl _)
   | (with_reducible exact LeO.none _)
   | (with_reducible refine LeO.ite ?_ ?_)
   | (with_reducible refine LeO.bind ?_ (fun _ => ?_))
   | exact ih0 _ _ _ _ _ _
   | exact ih1 _ _ _ _ _ _
   | exact ih2 _ _ _ _ _ _
   | exact spec_l23Bytes.mono _ _ _ _ _
   | exact spec_l23Key.mono _ _
   | exact spec_l23Term.mono _ _ _ _
   | exact LeO.none _
   | refine LeO.ite ?_ ?_
   | refine LeO.bind ?_ (fun _ => ?_)
def spec_l23Good.T6 : Bool × List (List Nat × List Nat) := (true,[([],[]),([0],[0]),([],[]),([1,2],[1,2]),([3],[3]),([4],[4]),([5],[5]),([6,5],[6]),([7],[7]),([8,7],[7,8]),([9,7,7],[7,9]),([10],[10]),([11,10],[10,11]),([10],[10]),([13,10],[10,13]),([12,14,10],[10,12,14]),([15,10],[10,15]),([16,10],[10,16]),([10],[10]),([18,10],[10,18]),([10],[10]),([19,20,10],[10,19,20]),([21,10],[10,21]),([22,10],[10,22]),([17,23,10],[10,17,23]),([10,24,7],[7,10,24]),([7,25],[7,25])])
def spec_l23Good.B6 : List Nat := [0,1,0,7,15,31,63,127,255,511,1023,2047,4095,2047,10239,32767,65535,131071,2047,264191,2047,1837055,3934207,8128511,16777215,33554431,67108863]
theorem spec_l23Good.tab6 : rtab .any (opsOf Try.f38 6) = spec_l23Good.T6 := by kernel_rfl
theorem spec_l23Good.bits6 : waitsOk spec_l23Good.T6.2 spec_l23Good.B6 = true := by kernel_rfl
set_option maxHeartbeats 8000000 in
set_option maxRecDepth 100000 in
theorem spec_l23Good.calls (k : Nat) (a0_0 : ByteArray) (A0_1 : Option Addr) (c0_1 : Nat) (l0_1 : List (S61)) (A0_2 : Option Addr) (c0_2 : Nat) (l0_2 : List (S72)) (a0_3 : ByteArray) (a0_4 : ByteArray) (r : Bool) (w : World) (hr0_1 : Kd.C k61 w A0_1 l0_1.length l0_1) (hc0_1 : l0_1.length ≤ c0_1) (hr0_2 : Kd.C k72 w A0_2 l0_2.length l0_2) (hc0_2 : l0_2.length ≤ c0_2) (h : spec_l23Good.f k a0_0 l0_1 l0_2 a0_3 a0_4 = some r) :
  Calls Try.prog 38 #[.agg #[.string a0_0,.slice A0_1 l0_1.length c0_1,.slice A0_2 l0_2.length c0_2,.string a0_3,.string a0_4]] w fun e w' => e = .returned (.bool r) ∧ Below w.heap.size w w' := by
 have hu31 := Try.underlying31;have hu61 := Try.underlying61;have hu72 := Try.underlying72;have a5 := aM hr0_1;have HC0_1 := aM hc0_1;clear hr0_1 hc0_1;have cd := aM hr0_2;have HC0_2 := aM hc0_2;clear hr0_2 hc0_2;have HB := aM (Below.refl w.heap.size w);have H : ((spec_l23Key.f k a0_0).bind fun t180 => (if t180 = true then (if (l0_1.length : Int) > 12 then (spec_l23Good.j0 k true a0_0 l0_1 l0_2 a0_3 a0_4) else (if (l0_2.length : Int) > 6 then (spec_l23Good.j0 k true a0_0 l0_1 l0_2 a0_3 a0_4) else ((spec_l23Bytes.f k a0_3 1 10 32).bind fun t181 => (if t181 = true then ((spec_l23Bytes.f k a0_4 1 10 32).bind fun t182 => (spec_l23Good.j0 k (!t182) a0_0 l0_1 l0_2 a0_3 a0_4)) else (spec_l23Good.j0 k true a0_0 l0_1 l0_2 a0_3 a0_4))))) else (spec_l23Good.j0 k true a0_0 l0_1 l0_2 a0_3 a0_4))) = some r := h;clear h;have HC2 := aM H;clear H;go_enter Try.func38,Try.ntmps38;go_upto_region 1 with (first|((with_reducible refine gate_dst (N := 1) rfl ?_);(try (refine gate_guard (by rfl) ?_;dsimp only));refine box_event ?hg (N := 1) ?hd (cs := #[.string a0_0,.slice A0_1 l0_1.length c0_1,.slice A0_2 l0_2.length c0_2,.string a0_3,.string a0_4]) (t := 31) ?hr ?_;(case hd => rfl);(case hg => rfl);(case hr => first|(go_simp;done)|(go_simp;rfl));intro ac hg w3 hbox hb;have aa := aM (hbox);have ce := aM ((by rw [hg];exact (lZ hb_) : w.heap.size ≤ ac));have GE179 := ce;replace HB := aM (lT hb_ hb);clear hb hbox hg));(try simp only [Act.put,lI,sZ,sS]);go_cut [33] (fun v33 wc => ∃ (kq : Nat) (a6 : Bool),v33 = .bool a6 ∧ Aside0 (spec_l23Good.j0 kq a6 a0_0 l0_1 l0_2 a0_3 a0_4 = some r) ∧ Aside0 (kq ≤ k) ∧ Aside0 (wc.heap[ac]? = some (.cells #[.string a0_0,(.slice A0_1 l0_1.length c0_1),(.slice A0_2 l0_2.length c0_2),.string a0_3,.string a0_4] 31 (0,0))) ∧ Aside0 (Below w.heap.size w wc))
 case first =>
  have H := HC2.out;clear HC2;obtain ⟨t180,A4,H⟩ := bE_ H
  by_cases c5 : t180 = true
  focus
   subst c5;rw [if_pos rfl] at H
   by_cases c6 : (l0_1.length : Int) > 12
   focus
    rw [if_pos c6] at H;have aV : decide (12 < (l0_1.length : Int)) = true := dT c6;have bM : decide (12 < l0_1.length) = true := dT (by omega);clear c6;(first|rw [aV]|(simp only [i64_w,i32_w];rw [aV])|skip);have H' := aM H;clear H
   rotate_left
   focus
    rw [if_neg c6] at H;have aV : decide (12 < (l0_1.length : Int)) = false := dF c6;have bM : decide (12 < l0_1.length) = false := dF (by omega);clear c6;(first|rw [aV]|(simp only [i64_w,i32_w];rw [aV])|skip)
    by_cases c8 : (l0_2.length : Int) > 6
    focus
     rw [if_pos c8] at H;have bO : decide (6 < (l0_2.length : Int)) = true := dT c8;have bP : decide (6 < l0_2.length) = true := dT (by omega);clear c8;have H' := aM H;clear H
    rotate_left
    focus
     rw [if_neg c8] at H;have bO : decide (6 < (l0_2.length : Int)) = false := dF c8;have bP : decide (6 < l0_2.length) = false := dF (by omega);clear c8;obtain ⟨t181,A10,H⟩ := bE_ H
     by_cases c11 : t181 = true
     focus
      subst c11;rw [if_pos rfl] at H;obtain ⟨t182,A12,H⟩ := bE_ H;have H' := aM H;clear H
     rotate_left
     focus
      replace c11 := Bool.eq_false_iff.mpr c11;subst c11;rw [if_neg Bool.false_ne_true] at H;have H' := aM H;clear H
  rotate_left 4
  focus
   replace c5 := Bool.eq_false_iff.mpr c5;subst c5;rw [if_neg Bool.false_ne_true] at H;have H' := aM H;clear H
  all_goals
   obtain ⟨ah,ai,aj,ak,al,am,an,ao,ap,ar⟩ := z5_ aa.out;go_wp2_with (first|((with_reducible refine gate_callee (f := 70) rfl ?_);refine goesL_ (some 8) rfl rfl Try.func70 (by kernel_rfl) rfl #[.string a0_0] rfl (by (try simp only [mT,mC,mN]);first|done|rfl|(simp only [xD,xT];rfl)) ?_;(with_reducible refine (spec_l23Key.calls _ _ _ _ A4.out).mono ?_);rintro e w' ⟨rfl,⟨nd,rfl⟩⟩;refine ⟨_,rfl,?_⟩)|(go_at_call 59;(with_reducible refine (spec_l23Bytes.calls _ _ _ _ _ _ _ A10.out).mono ?_);rintro e w' ⟨rfl,⟨nd,rfl⟩⟩)|(go_at_call 59;(with_reducible refine (spec_l23Bytes.calls _ _ _ _ _ _ _ A12.out).mono ?_);rintro e w' ⟨rfl,⟨nd,rfl⟩⟩));go_meet
   case rel => first|(exact ⟨_,(true),(by first|rfl|(simp [*];done)),H',⟨by first|omega|exact Nat.le_refl _⟩,⟨by (with_reducible repeat (first|refine bN ?_ _|refine bD ?_|refine bA ?_ _));exact aa.out⟩,⟨hb_⟩⟩)|(exact ⟨_,(!t182),(by first|rfl|(simp [*];done)),H',⟨by first|omega|exact Nat.le_refl _⟩,⟨by (with_reducible repeat (first|refine bN ?_ _|refine bD ?_|refine bA ?_ _));exact aa.out⟩,⟨hb_⟩⟩)
 case rest =>
  clear HC2;(try clear c1);(try clear p2);(try clear c3);(try clear c5);(try clear c6);(try clear aV);(try clear bM);(try clear c7);(try clear c8);(try clear bO);(try clear bP);(try clear c11);(try clear a9);(try clear ba);(try clear bb);(try clear bc);(try clear bd);(try clear be);(try clear bf);(try clear bg);(try clear bh);(try clear bi);(try clear bj);(try clear bk);(try clear bl);(try clear bm);(try clear bn);(try clear bQ);(try clear bR);(try clear bS);(try clear bT);(try clear bU);(try clear bV);(try clear bX);(try clear bY);(try clear bZ);(try clear b0);(try clear bo);(try clear bp);(try clear bq);(try clear br);(try clear bs);(try clear bu);(try clear bv);(try clear bw);(try clear bz);(try clear bB);(try clear bE);(try clear bG);(try clear bH);(try clear bI);(try clear bJ);(try clear b1);(try clear b2);(try clear b3);(try clear b4);(try clear b5);(try clear b6);(try clear b7);(try clear b8);(try clear b9);(try clear ca);obtain ⟨kq,a6,rfl,HA,HJ1,aa,HB⟩ := hcut
  cases kq with
  | zero => exact absurd HA.out (by simp [spec_l23Good.j0])
  | succ kj1 =>
   have H := HA.out;clear HA;simp only [spec_l23Good.j0] at H
   by_cases c16 : a6 = true
   ·subst c16;rw [if_pos rfl] at H;obtain rfl := Option.some.inj H;simp only [eS,eP] at H;obtain ⟨rfl⟩ := H;go_wp2;go_ret;exact ⟨by first|rfl|(simp [*];done),hb_⟩
   ·replace c16 := Bool.eq_false_iff.mpr c16;subst c16;rw [if_neg Bool.false_ne_true] at H;have H' := aM H;clear H;go_wp2;go_loopg [3] kj1 (fun kq v3 w' => ∃ (ab : Int),v3 = .int .i64 ab ∧ Aside0 (spec_l23Good.l0 kq ab a0_0 l0_1 l0_2 a0_3 a0_4 = some r) ∧ Aside0 (kq ≤ kj1) ∧ Aside0 (w'.heap[ac]? = some (.cells #[.string a0_0,(.slice A0_1 l0_1.length c0_1),(.slice A0_2 l0_2.length c0_2),.string a0_3,.string a0_4] 31 (0,0))) ∧ Aside0 (Below w.heap.size w w'))
    case atStart => exact ⟨(0),(by first|rfl|(simp [*];done)),H',⟨Nat.le_refl _⟩,⟨by (with_reducible repeat (first|refine bN ?_ _|refine bD ?_|refine bA ?_ _));exact aa.out⟩,⟨hb_⟩⟩
    case round =>
     clear H';(try clear c1);(try clear p2);(try clear c3);(try clear c5);(try clear c6);(try clear aV);(try clear bM);(try clear c7);(try clear c8);(try clear bO);(try clear bP);(try clear c11);(try clear c16);(try clear a9);(try clear ba);(try clear bb);(try clear bc);(try clear bd);(try clear be);(try clear bf);(try clear bg);(try clear bh);(try clear bi);(try clear bj);(try clear bk);(try clear bl);(try clear bm);(try clear bn);(try clear bQ);(try clear bR);(try clear bS);(try clear bT);(try clear bU);(try clear bV);(try clear bX);(try clear bY);(try clear bZ);(try clear b0);(try clear bo);(try clear bp);(try clear bq);(try clear br);(try clear bs);(try clear bu);(try clear bv);(try clear bw);(try clear bz);(try clear bB);(try clear bE);(try clear bG);(try clear bH);(try clear bI);(try clear bJ);(try clear b1);(try clear b2);(try clear b3);(try clear b4);(try clear b5);(try clear b6);(try clear b7);(try clear b8);(try clear b9);(try clear ca);(try clear p2);obtain ⟨ab,rfl,HA,HK2,aa,HB⟩ := hrel
     cases gk with
     | zero => exact absurd HA.out (by simp [spec_l23Good.l0])
     | succ k2 =>
      have H := HA.out;clear HA;simp only [spec_l23Good.l0] at H
      by_cases c17 : ab < (l0_1.length : Int)
      focus
       rw [if_pos c17] at H;have bK : decide (ab < (l0_1.length : Int)) = true := dT c17;clear c17
       by_cases c18 : 0 ≤ ab
       rotate_left;rw [if_neg c18] at H;exact absurd H (by simp);rw [if_pos c18] at H;have c18b0 : decide (0 ≤ ab) = true := dT c18;clear c18;obtain ⟨t184,A19,H⟩ := bE_ H
       by_cases c20 : t184 = true
       focus
        subst c20;rw [if_pos rfl] at H
        by_cases c21 : ab > 0
        focus
         rw [if_pos c21] at H;have bL : decide (0 < ab) = true := dT c21;clear c21;obtain ⟨ae,aU⟩ : ∃ j_ : Int,(wrap64 (ab - 1)) = j_ := ⟨_,rfl⟩;replace H : (if 0 ≤ (ae) then (if (ae) < (l0_1.length : Int) then (if ((Op.bytesLess (((rd_T61 l0_1 (ae)).f0).toList) (((rd_T61 l0_1 ab).f0).toList)) = true) then (spec_l23Good.l0 k2 (wrap64 (ab + 1)) a0_0 l0_1 l0_2 a0_3 a0_4) else (some false)) else (none)) else (none)) = some r := (by first|(rw [aU] at H;exact H)|(simp only [aU] at H ⊢;exact H));(try rw [aU] at A19);have hji22w : (IntKind.i64.wrap (ab - 1)) = ae := (i64_w _).trans aU
         by_cases c23 : 0 ≤ (ae)
         rotate_left;rw [if_neg c23] at H;exact absurd H (by simp);rw [if_pos c23] at H;have c23b0 : decide (0 ≤ (ae)) = true := dT c23;clear c23
         by_cases c24 : (ae) < (l0_1.length : Int)
         rotate_left;rw [if_neg c24] at H;exact absurd H (by simp);rw [if_pos c24] at H;have c24b0 : decide ((ae) < (l0_1.length : Int)) = true := dT c24;clear c24
         by_cases c25 : ((Op.bytesLess (((rd_T61 l0_1 (ae)).f0).toList) (((rd_T61 l0_1 ab).f0).toList)) = true)
         focus
          rw [if_pos c25] at H;have cf : (Op.bytesLess (((rd_T61 l0_1 (ae)).f0).toList) (((rd_T61 l0_1 ab).f0).toList)) = true := c25;clear c25;have H' := aM H;clear H
         rotate_left
         focus
          rw [if_neg c25] at H;have cf : (Op.bytesLess (((rd_T61 l0_1 (ae)).f0).toList) (((rd_T61 l0_1 ab).f0).toList)) = false := (by simpa using c25);clear c25;obtain rfl := Option.some.inj H;simp only [eS,eP] at H;obtain ⟨rfl⟩ := H
        rotate_left 2
        focus
         rw [if_neg c21] at H;have bL : decide (0 < ab) = false := dF c21;clear c21;have H' := aM H;clear H
       rotate_left 3
       focus
        replace c20 := Bool.eq_false_iff.mpr c20;subst c20;rw [if_neg Bool.false_ne_true] at H;obtain rfl := Option.some.inj H;simp only [eS,eP] at H;obtain ⟨rfl⟩ := H
      rotate_left 4
      focus
       rw [if_neg c17] at H;have bK : decide (ab < (l0_1.length : Int)) = false := dF c17;clear c17;have H' := aM H;clear H
      all_goals
       obtain ⟨ah,ai,aj,ak,al,am,an,ao,ap,ar⟩ := z5_ aa.out;(try go_wp2)
       first
        |
         go_loopg [4] k2 (fun kq v4 w' => ∃ (au : Int),v4 = .int .i64 au ∧ Aside0 (spec_l23Good.l1 kq au a0_0 l0_1 l0_2 a0_3 a0_4 = some r) ∧ Aside0 (kq ≤ k2) ∧ Aside0 (w'.heap[ac]? = some (.cells #[.string a0_0,(.slice A0_1 l0_1.length c0_1),(.slice A0_2 l0_2.length c0_2),.string a0_3,.string a0_4] 31 (0,0))) ∧ Aside0 (Below w.heap.size w w'))
         case atStart => exact ⟨(0),(by first|rfl|(simp [*];done)),H',⟨Nat.le_refl _⟩,⟨by (with_reducible repeat (first|refine bN ?_ _|refine bD ?_|refine bA ?_ _));exact aa.out⟩,⟨hb_⟩⟩
         case round =>
          clear H';(try clear c1);(try clear p1);(try clear q1);(try clear hx1);(try clear c2);(try clear p2);(try clear p6);(try clear c7);(try clear c17);(try clear bK);(try clear c18);(try clear p18);(try clear q18);(try clear hx18);(try clear c20);(try clear c21);(try clear bL);(try clear c23);(try clear c24);(try clear hcz32_0);(try clear hcz32_1);(try clear hcz32_2);(try clear hcz32_3);(try clear hcz32_4);(try clear hcz35_0);(try clear hcz35_1);(try clear hcz35_2);(try clear hcz35_3);(try clear hcz35_4);(try clear ah);(try clear ai);(try clear aj);(try clear ak);(try clear al);(try clear hfz32_0);(try clear hfz32_1);(try clear hfz32_2);(try clear hfz32_3);(try clear hfz32_4);(try clear hfz35_0);(try clear hfz35_1);(try clear hfz35_2);(try clear hfz35_3);(try clear hfz35_4);(try clear am);(try clear an);(try clear ao);(try clear ap);(try clear ar);(try clear hx183_0);(try clear hx183_1);(try clear hx183_2);(try clear p183);(try clear q183);obtain ⟨au,rfl,HA,HK3,aa,HB⟩ := hrel
          cases gk with
          | zero => exact absurd HA.out (by simp [spec_l23Good.l1])
          | succ k3 =>
           have H := HA.out;clear HA;simp only [spec_l23Good.l1] at H
           by_cases c39 : au < (l0_2.length : Int)
           focus
            rw [if_pos c39] at H;have cg : decide (au < (l0_2.length : Int)) = true := dT c39;clear c39
            by_cases c40 : 0 ≤ au
            rotate_left;rw [if_neg c40] at H;exact absurd H (by simp);rw [if_pos c40] at H;have c40b0 : decide (0 ≤ au) = true := dT c40;clear c40;obtain ⟨t189,A41,H⟩ := bE_ H
            by_cases c42 : t189 = true
            focus
             subst c42;rw [if_pos rfl] at H;obtain ⟨t190,A43,H⟩ := bE_ H
             by_cases c44 : t190 = true
             focus
              subst c44;rw [if_pos rfl] at H;obtain ⟨t191,A45,H⟩ := bE_ H
              by_cases c46 : t191 = true
              focus
               subst c46;rw [if_pos rfl] at H;have H' := aM H;clear H
              rotate_left
              focus
               replace c46 := Bool.eq_false_iff.mpr c46;subst c46;rw [if_neg Bool.false_ne_true] at H;obtain rfl := Option.some.inj H;simp only [eS,eP] at H;obtain ⟨rfl⟩ := H
             rotate_left 2
             focus
              replace c44 := Bool.eq_false_iff.mpr c44;subst c44;rw [if_neg Bool.false_ne_true] at H;obtain rfl := Option.some.inj H;simp only [eS,eP] at H;obtain ⟨rfl⟩ := H
            rotate_left 3
            focus
             replace c42 := Bool.eq_false_iff.mpr c42;subst c42;rw [if_neg Bool.false_ne_true] at H;obtain rfl := Option.some.inj H;simp only [eS,eP] at H;obtain ⟨rfl⟩ := H
           rotate_left 4
           focus
            rw [if_neg c39] at H;have cg : decide (au < (l0_2.length : Int)) = false := dF c39;clear c39;obtain rfl := Option.some.inj H;simp only [eS,eP] at H;obtain ⟨rfl⟩ := H
           all_goals
            (try obtain ⟨ah,ai,aj,ak,al,am,an,ao,ap,ar⟩ := z5_ aa.out);(try (have p01 : 0 ≤ (au : Int) := oD (by assumption);have q01 : au < (l0_2.length : Int) := oD (by assumption);obtain ⟨cb,e01,aW,aX,aY⟩ := at_T72 cd.out au p01 q01;cases e01;replace aW := (HB.out.cell (wB w _ aW)).trans aW;replace aX := (HB.out.cell (wB w _ aX)).trans aX;replace aY := (HB.out.cell (wB w _ aY)).trans aY;replace p01 := eq_true p01;replace q01 := eq_true q01));go_wp2_with (first|((with_reducible refine gate_dst (N := 5) rfl ?_);(try (refine gate_guard (by rfl) ?_;dsimp only));refine box_event ?hg (N := 5) ?hd (cs := #[.int .i64 0,.int .i64 0,.string (⟨#[]⟩ : ByteArray)]) (t := 72) ?hr ?_;(case hd => rfl);(case hg => rfl);(case hr => first|(go_simp;done)|(go_simp;rfl));intro a8 hg Wgb188 hbox hb;have ch := aM (hbox);have ci := aM ((by rw [hg];exact (lZ hb_) : w.heap.size ≤ a8));have GE188 := ci;have ag := aM ((by rw [hg];exact Nat.ne_of_lt (blk_lt (g := ac) (o := .cells #[.string a0_0,.slice A0_1 l0_1.length c0_1,.slice (some cb) l0_2.length c0_2,.string a0_3,.string a0_4] 31 (0,0)) (bk_ aa.out)) : ac ≠ a8));have a7 := aM ((by rw [hg];exact Nat.ne_of_gt (blk_lt (g := ac) (o := .cells #[.string a0_0,.slice A0_1 l0_1.length c0_1,.slice (some cb) l0_2.length c0_2,.string a0_3,.string a0_4] 31 (0,0)) (bk_ aa.out)) : a8 ≠ ac));replace aa := aM (bW (g := ac) (o := .cells #[.string a0_0,.slice A0_1 l0_1.length c0_1,.slice (some cb) l0_2.length c0_2,.string a0_3,.string a0_4] 31 (0,0)) (bk_ aa.out) hb);replace HB := aM (lT hb_ hb);clear hb hbox hg;have hnby188_179 := a7.out;have hncy179_188 := ag.out;obtain ⟨hcz188x188_0,hcz188x188_1,hcz188x188_2,hfz188x188_0,hfz188x188_1,hfz188x188_2⟩ := z3_ ch.out)|((with_reducible refine gate_callee (f := 49) rfl ?_);refine goesL_ (some 82) rfl rfl Try.func49 (by kernel_rfl) rfl #[.int .i64 ((rd_T72 l0_2 au).f0),.int .i64 1,.int .i64 1000] rfl (by (try simp only [mT,mC,mN]);first|done|rfl|(simp only [xD,xT];rfl)) ?_;(with_reducible refine (spec_l1In.calls _ _ _ _ _ A41.out).mono ?_);rintro e w' ⟨rfl,⟨nd,rfl⟩⟩;refine ⟨_,rfl,?_⟩)|(go_at_call 49;(with_reducible refine (spec_l1In.calls _ _ _ _ _ A43.out).mono ?_);rintro e w' ⟨rfl,⟨nd,rfl⟩⟩)|(go_at_call 59;(with_reducible refine (spec_l23Bytes.calls _ _ _ _ _ _ _ A45.out).mono ?_);rintro e w' ⟨rfl,⟨nd,rfl⟩⟩))
            first
             |
              go_ret;(first|exact ⟨by first|rfl|(simp [*];done),hb_⟩|exact ⟨by first|rfl|(simp [*];done),hb_⟩)
             |
              go_roundg k3
              case measure => have := HJ1.out;have := HK2.out;have := HK3.out;omega
              case rel => exact ⟨(wrap64 (au + 1)),(by first|rfl|(simp [*];done)),H',⟨by have := HJ1.out;have := HK2.out;have := HK3.out;omega⟩,⟨by (with_reducible repeat (first|refine bN ?_ _|refine bD ?_|refine bA ?_ _));refine blk_far ?_ ag.out _;(with_reducible repeat (first|refine bN ?_ _|refine bD ?_|refine bA ?_ _));refine blk_far ?_ ag.out _;(with_reducible repeat (first|refine bN ?_ _|refine bD ?_|refine bA ?_ _));refine blk_far ?_ ag.out _;(with_reducible repeat (first|refine bN ?_ _|refine bD ?_|refine bA ?_ _));exact aa.out⟩,⟨hb_⟩⟩
        |
         replace aa := aM (bD aa.out);replace HB := aM (lD HB.out)
         first
          |
           have p02 : 0 ≤ (ab : Int) := oD (by assumption);have q02 : ab < (l0_1.length : Int) := oD (by assumption);obtain ⟨af,e02,av,aw,ax⟩ := at_T61 a5.out ab p02 q02;have aH := ax;have aI := aw;have aJ := av;cases e02;replace av := (HB.out.cell (wB w _ av)).trans av;replace aw := (HB.out.cell (wB w _ aw)).trans aw;replace ax := (HB.out.cell (wB w _ ax)).trans ax;replace p02 := eq_true p02;replace q02 := eq_true q02;have p03 : 0 ≤ ((ae) : Int) := oD (by assumption);have q03 : (ae) < (l0_1.length : Int) := oD (by assumption);obtain ⟨cj,e03,ay,az,aA⟩ := at_T61 a5.out (ae) p03 q03;have aK := aA;have aL := az;have aN := ay;obtain rfl : af = cj := (by injection e03);replace ay := (HB.out.cell (wB w _ ay)).trans ay;replace az := (HB.out.cell (wB w _ az)).trans az;replace aA := (HB.out.cell (wB w _ aA)).trans aA;replace p03 := eq_true p03;replace q03 := eq_true q03;have p04 : 0 ≤ (ab : Int) := oD (by assumption);have q04 : ab < (l0_1.length : Int) := oD (by assumption);obtain ⟨ck,e04,aB,aC,aD⟩ := at_T61 a5.out ab p04 q04;have aO := aD;have aP := aC;have aQ := aB;obtain rfl : af = ck := (by injection e04);replace aB := (HB.out.cell (wB w _ aB)).trans aB;replace aC := (HB.out.cell (wB w _ aC)).trans aC;replace aD := (HB.out.cell (wB w _ aD)).trans aD;replace p04 := eq_true p04;replace q04 := eq_true q04;refine start_ (n := 27) (S := fun w' => w'.cell? ⟨ac,0,none⟩ = some (.string a0_0) ∧ w'.cell? ⟨ac,1,none⟩ = some (.slice (some af) l0_1.length c0_1) ∧ w'.cell? ⟨ac,2,none⟩ = some (.slice A0_2 l0_2.length c0_2) ∧ w'.cell? ⟨ac,3,none⟩ = some (.string a0_3) ∧ w'.cell? ⟨ac,4,none⟩ = some (.string a0_4) ∧ w'.cell? (af.add ((ab).toNat * 3)) = some (.string ((rd_T61 l0_1 ab).f0)) ∧ w'.cell? ⟨(af.add ((ab).toNat * 3)).block,(af.add ((ab).toNat * 3)).off + 1,none⟩ = some (.string ((rd_T61 l0_1 ab).f1)) ∧ w'.cell? ⟨(af.add ((ab).toNat * 3)).block,(af.add ((ab).toNat * 3)).off + 2,none⟩ = some (.string ((rd_T61 l0_1 ab).f2)) ∧ w'.cell? (af.add (((ae)).toNat * 3)) = some (.string ((rd_T61 l0_1 (ae)).f0)) ∧ w'.cell? ⟨(af.add (((ae)).toNat * 3)).block,(af.add (((ae)).toNat * 3)).off + 1,none⟩ = some (.string ((rd_T61 l0_1 (ae)).f1)) ∧ w'.cell? ⟨(af.add (((ae)).toNat * 3)).block,(af.add (((ae)).toNat * 3)).off + 2,none⟩ = some (.string ((rd_T61 l0_1 (ae)).f2)) ∧ w'.cell? (af.add ((ab).toNat * 3)) = some (.string ((rd_T61 l0_1 ab).f0)) ∧ w'.cell? ⟨(af.add ((ab).toNat * 3)).block,(af.add ((ab).toNat * 3)).off + 1,none⟩ = some (.string ((rd_T61 l0_1 ab).f1)) ∧ w'.cell? ⟨(af.add ((ab).toNat * 3)).block,(af.add ((ab).toNat * 3)).off + 2,none⟩ = some (.string ((rd_T61 l0_1 ab).f2))) (ds := []) (mk_ 27 0) (by kernel_rfl) rfl (by kernel_rfl) ⟨(bC aa.out 0).trans rfl,(bC aa.out 1).trans rfl,(bC aa.out 2).trans rfl,(bC aa.out 3).trans rfl,(bC aa.out 4).trans rfl,((HB.out.cell (wB w _ aJ)).trans aJ),((HB.out.cell (wB w _ aI)).trans aI),((HB.out.cell (wB w _ aH)).trans aH),((HB.out.cell (wB w _ aN)).trans aN),((HB.out.cell (wB w _ aL)).trans aL),((HB.out.cell (wB w _ aK)).trans aK),((HB.out.cell (wB w _ aQ)).trans aQ),((HB.out.cell (wB w _ aP)).trans aP),((HB.out.cell (wB w _ aO)).trans aO)⟩ (fun hHeld => ?_);refine with_tabW spec_l23Good.tab6 spec_l23Good.bits6 (fun HT_ HW_ => ?_);generalize wr.drew = wk0 at aa HB av aw ax ay az aA aB aC aD hHeld ⊢;refine pure_ (i := 0) (N := some 41) (v := ?_) (a' := ?_) (mk_ 27 1) rfl rfl (any_of HT_.out (by kernel_rfl)) (fun _ _ _ h => h) (Or.inl ⟨by rfl,?_⟩) ?_ ?_;rotate_left;intro w';go_simp;(with_reducible rfl);rotate_left;simp only [Act.put,lI,sZ,sS,i64_w,i32_w];rfl;refine pure_ (i := 2) (N := some 43) (v := ?_) (a' := ?_) (mk_ 27 5) rfl rfl (any_of HT_.out (by kernel_rfl)) (fun _ _ _ h => h) (Or.inl ⟨by rfl,?_⟩) ?_ ?_;rotate_left;intro w';go_simp;(with_reducible rfl);rotate_left;simp only [Act.put,lI,sZ,sS,i64_w,i32_w];rfl;refine take_ (i := 1) (N := some 42) (v := ?_) (a' := ?_) (mk_ 27 7) rfl rfl (take_ofW HT_.out HW_.out (by kernel_rfl)) (fun _ _ _ h => h) (Or.inl ⟨by rfl,?_⟩) hHeld ?_ ?_;rotate_left;rintro w' ⟨s0,s1,s2,s3,s4,s5,s6,s7,s8,s9,s10,s11,s12,s13⟩;go_simp;(with_reducible rfl);rotate_left;simp only [Act.put,lI,sZ,sS,i64_w,i32_w];rfl;refine pure_ (i := 3) (N := some 44) (v := ?_) (a' := ?_) (mk_ 27 15) rfl rfl (any_of HT_.out (by kernel_rfl)) (fun _ _ _ h => h) (Or.inl ⟨by rfl,?_⟩) ?_ ?_;rotate_left;intro w';go_simp;(with_reducible rfl);rotate_left;simp only [Act.put,lI,sZ,sS,i64_w,i32_w];rfl;refine take_ (i := 4) (N := some 45) (v := ?_) (a' := ?_) (mk_ 27 31) rfl rfl (take_ofW HT_.out HW_.out (by kernel_rfl)) (fun _ _ _ h => h) (Or.inl ⟨by rfl,?_⟩) hHeld ?_ ?_;rotate_left;rintro w' ⟨s0,s1,s2,s3,s4,s5,s6,s7,s8,s9,s10,s11,s12,s13⟩;go_simp;(with_reducible rfl);rotate_left;simp only [Act.put,lI,sZ,sS,i64_w,i32_w];rfl;refine one_ (i := 5) (N := some 46) (mk_ 27 63) rfl rfl (one_of HT_.out (by kernel_rfl)) (by decide) (fun K hK => ?_);refine goes_ Try.func71 (by kernel_rfl) rfl #[.agg #[.string ((rd_T61 l0_1 ab).f0),.string ((rd_T61 l0_1 ab).f1),.string ((rd_T61 l0_1 ab).f2)]] (by rfl) rfl rfl (by (try simp only [mT,mC,mN]);first|done|rfl|(simp only [xD,xT];rfl)) ?_;(with_reducible refine (spec_l23Term.calls _ _ _ _ _ _ A19.out).mono ?_);rintro e wk1 ⟨rfl,hb⟩;refine ⟨_,rfl,?_⟩;replace aa := aM (bW (g := ac) (o := .cells #[.string a0_0,.slice (some af) l0_1.length c0_1,.slice A0_2 l0_2.length c0_2,.string a0_3,.string a0_4] 31 (0,0)) (bk_ aa.out) hb);replace HB := aM (lT hb_ hb);(try clear hb);(try clear hb2);(try clear hk);(try clear hi);refine hK.out _ _ ⟨(bC aa.out 0).trans rfl,(bC aa.out 1).trans rfl,(bC aa.out 2).trans rfl,(bC aa.out 3).trans rfl,(bC aa.out 4).trans rfl,((HB.out.cell (wB w _ aJ)).trans aJ),((HB.out.cell (wB w _ aI)).trans aI),((HB.out.cell (wB w _ aH)).trans aH),((HB.out.cell (wB w _ aN)).trans aN),((HB.out.cell (wB w _ aL)).trans aL),((HB.out.cell (wB w _ aK)).trans aK),((HB.out.cell (wB w _ aQ)).trans aQ),((HB.out.cell (wB w _ aP)).trans aP),((HB.out.cell (wB w _ aO)).trans aO)⟩ (fun hHeld => ?_);clear hK K;refine norm_ (a' := ?_) ?_ ?_;rotate_left;show Act.put _ (some 46) _ = _;simp only [Act.put,lI,sZ,sS,i64_w,i32_w];rfl;refine pure_ (i := 6) (N := some 47) (v := ?_) (a' := ?_) (mk_ 27 127) rfl rfl (any_of HT_.out (by kernel_rfl)) (fun _ _ _ h => h) (Or.inl ⟨by rfl,?_⟩) ?_ ?_;rotate_left;intro w';go_simp;(with_reducible rfl);rotate_left;simp only [Act.put,lI,sZ,sS,i64_w,i32_w];rfl;refine pure_ (i := 7) (N := some 48) (v := ?_) (a' := ?_) (mk_ 27 255) rfl rfl (any_of HT_.out (by kernel_rfl)) (fun _ _ _ h => h) (Or.inl ⟨by rfl,?_⟩) ?_ ?_;rotate_left;intro w';go_simp;(with_reducible rfl);rotate_left;simp only [Act.put,lI,sZ,sS,i64_w,i32_w];rfl;refine pure_ (i := 8) (N := some 49) (v := ?_) (a' := ?_) (mk_ 27 511) rfl rfl (any_of HT_.out (by kernel_rfl)) (fun _ _ _ h => h) (Or.inl ⟨by rfl,?_⟩) ?_ ?_;rotate_left;intro w';go_simp;(with_reducible rfl);rotate_left;simp only [Act.put,lI,sZ,sS,i64_w,i32_w];rfl;refine pure_ (i := 9) (N := some 50) (v := ?_) (a' := ?_) (mk_ 27 1023) rfl rfl (any_of HT_.out (by kernel_rfl)) (fun _ _ _ h => h) (Or.inl ⟨by rfl,?_⟩) ?_ ?_;rotate_left;intro w';go_simp;(with_reducible rfl);rotate_left;simp only [Act.put,lI,sZ,sS,i64_w,i32_w];rfl;refine pure_ (i := 10) (N := some 51) (v := ?_) (a' := ?_) (mk_ 27 2047) rfl rfl (any_of HT_.out (by kernel_rfl)) (fun _ _ _ h => h) (Or.inl ⟨by rfl,?_⟩) ?_ ?_;rotate_left;intro w';go_simp;(with_reducible rfl);rotate_left;simp only [Act.put,lI,sZ,sS,i64_w,i32_w];rfl;refine pure_ (i := 11) (N := some 52) (v := ?_) (a' := ?_) (mk_ 27 4095) rfl rfl (any_of HT_.out (by kernel_rfl)) (fun _ _ _ h => h) (Or.inl ⟨by rfl,?_⟩) ?_ ?_;rotate_left;intro w';go_simp;(with_reducible rfl);rotate_left;simp only [Act.put,lI,sZ,sS,i64_w,i32_w];rfl;refine pure_ (i := 13) (N := some 54) (v := ?_) (a' := ?_) (mk_ 27 12287) rfl rfl (any_of HT_.out (by kernel_rfl)) (fun _ _ _ h => h) (Or.inl ⟨by rfl,?_⟩) ?_ ?_;rotate_left;intro w';go_simp;(with_reducible rfl);rotate_left;simp only [Act.put,lI,sZ,sS,i64_w,i32_w];rfl;refine pure_ (i := 14) (N := some 55) (v := ?_) (a' := ?_) (mk_ 27 28671) rfl rfl (any_of HT_.out (by kernel_rfl)) (fun _ _ _ h => h) (Or.inl ⟨by rfl,?_⟩) ?_ ?_;rotate_left;intro w';go_simp;(with_reducible rfl);rotate_left;simp only [Act.put,lI,sZ,sS,i64_w,i32_w];rfl;refine pure_ (i := 18) (N := some 59) (v := ?_) (a' := ?_) (mk_ 27 290815) rfl rfl (any_of HT_.out (by kernel_rfl)) (fun _ _ _ h => h) (Or.inl ⟨by rfl,?_⟩) ?_ ?_;rotate_left;intro w';go_simp;(with_reducible rfl);rotate_left;simp only [Act.put,lI,sZ,sS,i64_w,i32_w];rfl;refine pure_ (i := 20) (N := some 61) (v := ?_) (a' := ?_) (mk_ 27 1339391) rfl rfl (any_of HT_.out (by kernel_rfl)) (fun _ _ _ h => h) (Or.inl ⟨by rfl,?_⟩) ?_ ?_;rotate_left;intro w';go_simp;(with_reducible rfl);rotate_left;simp only [Act.put,lI,sZ,sS,i64_w,i32_w];rfl;refine take_ (i := 12) (N := some 53) (v := ?_) (a' := ?_) (mk_ 27 1343487) rfl rfl (take_ofW HT_.out HW_.out (by kernel_rfl)) (fun _ _ _ h => h) (Or.inl ⟨by rfl,?_⟩) hHeld ?_ ?_;rotate_left;rintro w' ⟨s0,s1,s2,s3,s4,s5,s6,s7,s8,s9,s10,s11,s12,s13⟩;go_simp;(with_reducible rfl);rotate_left;simp only [Act.put,lI,sZ,sS,i64_w,i32_w];rfl;refine pure_ (i := 15) (N := some 56) (v := ?_) (a' := ?_) (mk_ 27 1376255) rfl rfl (any_of HT_.out (by kernel_rfl)) (fun _ _ _ h => h) (Or.inl ⟨by rfl,?_⟩) ?_ ?_;rotate_left;intro w';go_simp;(with_reducible rfl);rotate_left;simp only [Act.put,lI,sZ,sS,i64_w,i32_w];rfl;refine pure_ (i := 16) (N := some 57) (v := ?_) (a' := ?_) (mk_ 27 1441791) rfl rfl (any_of HT_.out (by kernel_rfl)) (fun _ _ _ h => h) (Or.inl ⟨by rfl,?_⟩) ?_ ?_;rotate_left;intro w';go_simp;(with_reducible rfl);rotate_left;simp only [Act.put,lI,sZ,sS,i64_w,i32_w];rfl;refine take_ (i := 17) (N := some 58) (v := ?_) (a' := ?_) (mk_ 27 1572863) rfl rfl (take_ofW HT_.out HW_.out (by kernel_rfl)) (fun _ _ _ h => h) (Or.inl ⟨by rfl,?_⟩) hHeld ?_ ?_;rotate_left;rintro w' ⟨s0,s1,s2,s3,s4,s5,s6,s7,s8,s9,s10,s11,s12,s13⟩;go_simp;(with_reducible rfl);rotate_left;simp only [Act.put,lI,sZ,sS,i64_w,i32_w];rfl;refine take_ (i := 19) (N := some 60) (v := ?_) (a' := ?_) (mk_ 27 2097151) rfl rfl (take_ofW HT_.out HW_.out (by kernel_rfl)) (fun _ _ _ h => h) (Or.inl ⟨by rfl,?_⟩) hHeld ?_ ?_;rotate_left;rintro w' ⟨s0,s1,s2,s3,s4,s5,s6,s7,s8,s9,s10,s11,s12,s13⟩;go_simp;(with_reducible rfl);rotate_left;simp only [Act.put,lI,sZ,sS,i64_w,i32_w];rfl;refine pure_ (i := 21) (N := some 62) (v := ?_) (a' := ?_) (mk_ 27 4194303) rfl rfl (any_of HT_.out (by kernel_rfl)) (fun _ _ _ h => h) (Or.inl ⟨by rfl,?_⟩) ?_ ?_;rotate_left;intro w';go_simp;(with_reducible rfl);rotate_left;simp only [Act.put,lI,sZ,sS,i64_w,i32_w];rfl;refine pure_ (i := 22) (N := some 63) (v := ?_) (a' := ?_) (mk_ 27 8388607) rfl rfl (any_of HT_.out (by kernel_rfl)) (fun _ _ _ h => h) (Or.inl ⟨by rfl,?_⟩) ?_ ?_;rotate_left;intro w';go_simp;(with_reducible rfl);rotate_left;simp only [Act.put,lI,sZ,sS,i64_w,i32_w];rfl;refine take_ (i := 23) (N := some 64) (v := ?_) (a' := ?_) (mk_ 27 16777215) rfl rfl (take_ofW HT_.out HW_.out (by kernel_rfl)) (fun _ _ _ h => h) (Or.inl ⟨by rfl,?_⟩) hHeld ?_ ?_;rotate_left;rintro w' ⟨s0,s1,s2,s3,s4,s5,s6,s7,s8,s9,s10,s11,s12,s13⟩;go_simp;(with_reducible rfl);rotate_left;simp only [Act.put,lI,sZ,sS,i64_w,i32_w];rfl;refine pure_ (i := 24) (N := some 65) (v := ?_) (a' := ?_) (mk_ 27 33554431) rfl rfl (any_of HT_.out (by kernel_rfl)) (fun _ _ _ h => h) (Or.inl ⟨by rfl,?_⟩) ?_ ?_;rotate_left;intro w';go_simp;(with_reducible rfl);rotate_left;simp only [Act.put,lI,sZ,sS,i64_w,i32_w];rfl;refine pure_ (i := 25) (N := some 66) (v := ?_) (a' := ?_) (mk_ 27 67108863) rfl rfl (any_of HT_.out (by kernel_rfl)) (fun _ _ _ h => h) (Or.inl ⟨by rfl,?_⟩) ?_ ?_;rotate_left;intro w';go_simp;(with_reducible rfl);rotate_left;simp only [Act.put,lI,sZ,sS,i64_w,i32_w];rfl;refine pure_ (i := 26) (N := some 67) (v := ?_) (a' := ?_) (mk_ 27 134217727) rfl rfl (any_of HT_.out (by kernel_rfl)) (fun _ _ _ h => h) (Or.inl ⟨by rfl,?_⟩) ?_ ?_;rotate_left;intro w';go_simp;(with_reducible rfl);rotate_left;simp only [Act.put,lI,sZ,sS,i64_w,i32_w];rfl;refine done_ (done_of HT_.out (by kernel_rfl)) ?_;(try go_wp2)
           first
            |
             go_ret;exact ⟨by first|rfl|(simp [errW_none,errW_some] <;> rfl)|(simp only [← aU];first|rfl|(simp [errW_none,errW_some] <;> rfl))|(simp [*,errW_none,errW_some] <;> rfl),hb_⟩
            |
             go_roundg k2
             case measure => have := HJ1.out;have := HK2.out;omega
             case rel => exact ⟨(wrap64 (ab + 1)),(by first|rfl|(simp [*];done)),H',⟨by have := HJ1.out;have := HK2.out;omega⟩,⟨by (with_reducible repeat (first|refine bN ?_ _|refine bD ?_|refine bA ?_ _));exact aa.out⟩,⟨hb_⟩⟩
          |
           have p05 : 0 ≤ (ab : Int) := oD (by assumption);have q05 : ab < (l0_1.length : Int) := oD (by assumption);obtain ⟨aZ,e05,aE,aF,aG⟩ := at_T61 a5.out ab p05 q05;have aR := aG;have aS := aF;have aT := aE;cases e05;replace aE := (HB.out.cell (wB w _ aE)).trans aE;replace aF := (HB.out.cell (wB w _ aF)).trans aF;replace aG := (HB.out.cell (wB w _ aG)).trans aG;replace p05 := eq_true p05;replace q05 := eq_true q05;refine start_ (n := 27) (S := fun w' => w'.cell? ⟨ac,0,none⟩ = some (.string a0_0) ∧ w'.cell? ⟨ac,1,none⟩ = some (.slice (some aZ) l0_1.length c0_1) ∧ w'.cell? ⟨ac,2,none⟩ = some (.slice A0_2 l0_2.length c0_2) ∧ w'.cell? ⟨ac,3,none⟩ = some (.string a0_3) ∧ w'.cell? ⟨ac,4,none⟩ = some (.string a0_4) ∧ w'.cell? (aZ.add ((ab).toNat * 3)) = some (.string ((rd_T61 l0_1 ab).f0)) ∧ w'.cell? ⟨(aZ.add ((ab).toNat * 3)).block,(aZ.add ((ab).toNat * 3)).off + 1,none⟩ = some (.string ((rd_T61 l0_1 ab).f1)) ∧ w'.cell? ⟨(aZ.add ((ab).toNat * 3)).block,(aZ.add ((ab).toNat * 3)).off + 2,none⟩ = some (.string ((rd_T61 l0_1 ab).f2))) (ds := []) (mk_ 27 0) (by kernel_rfl) rfl (by kernel_rfl) ⟨(bC aa.out 0).trans rfl,(bC aa.out 1).trans rfl,(bC aa.out 2).trans rfl,(bC aa.out 3).trans rfl,(bC aa.out 4).trans rfl,((HB.out.cell (wB w _ aT)).trans aT),((HB.out.cell (wB w _ aS)).trans aS),((HB.out.cell (wB w _ aR)).trans aR)⟩ (fun hHeld => ?_);refine with_tabW spec_l23Good.tab6 spec_l23Good.bits6 (fun HT_ HW_ => ?_);generalize wr.drew = wk0 at aa HB aE aF aG hHeld ⊢;refine pure_ (i := 0) (N := some 41) (v := ?_) (a' := ?_) (mk_ 27 1) rfl rfl (any_of HT_.out (by kernel_rfl)) (fun _ _ _ h => h) (Or.inl ⟨by rfl,?_⟩) ?_ ?_;rotate_left;intro w';go_simp;(with_reducible rfl);rotate_left;simp only [Act.put,lI,sZ,sS,i64_w,i32_w];rfl;refine pure_ (i := 2) (N := some 43) (v := ?_) (a' := ?_) (mk_ 27 5) rfl rfl (any_of HT_.out (by kernel_rfl)) (fun _ _ _ h => h) (Or.inl ⟨by rfl,?_⟩) ?_ ?_;rotate_left;intro w';go_simp;(with_reducible rfl);rotate_left;simp only [Act.put,lI,sZ,sS,i64_w,i32_w];rfl;refine take_ (i := 1) (N := some 42) (v := ?_) (a' := ?_) (mk_ 27 7) rfl rfl (take_ofW HT_.out HW_.out (by kernel_rfl)) (fun _ _ _ h => h) (Or.inl ⟨by rfl,?_⟩) hHeld ?_ ?_;rotate_left;rintro w' ⟨s0,s1,s2,s3,s4,s5,s6,s7⟩;go_simp;(with_reducible rfl);rotate_left;simp only [Act.put,lI,sZ,sS,i64_w,i32_w];rfl;refine pure_ (i := 3) (N := some 44) (v := ?_) (a' := ?_) (mk_ 27 15) rfl rfl (any_of HT_.out (by kernel_rfl)) (fun _ _ _ h => h) (Or.inl ⟨by rfl,?_⟩) ?_ ?_;rotate_left;intro w';go_simp;(with_reducible rfl);rotate_left;simp only [Act.put,lI,sZ,sS,i64_w,i32_w];rfl;refine take_ (i := 4) (N := some 45) (v := ?_) (a' := ?_) (mk_ 27 31) rfl rfl (take_ofW HT_.out HW_.out (by kernel_rfl)) (fun _ _ _ h => h) (Or.inl ⟨by rfl,?_⟩) hHeld ?_ ?_;rotate_left;rintro w' ⟨s0,s1,s2,s3,s4,s5,s6,s7⟩;go_simp;(with_reducible rfl);rotate_left;simp only [Act.put,lI,sZ,sS,i64_w,i32_w];rfl;refine one_ (i := 5) (N := some 46) (mk_ 27 63) rfl rfl (one_of HT_.out (by kernel_rfl)) (by decide) (fun K hK => ?_);refine goes_ Try.func71 (by kernel_rfl) rfl #[.agg #[.string ((rd_T61 l0_1 ab).f0),.string ((rd_T61 l0_1 ab).f1),.string ((rd_T61 l0_1 ab).f2)]] (by rfl) rfl rfl (by (try simp only [mT,mC,mN]);first|done|rfl|(simp only [xD,xT];rfl)) ?_;(with_reducible refine (spec_l23Term.calls _ _ _ _ _ _ A19.out).mono ?_);rintro e wk1 ⟨rfl,hb⟩;refine ⟨_,rfl,?_⟩;replace aa := aM (bW (g := ac) (o := .cells #[.string a0_0,.slice (some aZ) l0_1.length c0_1,.slice A0_2 l0_2.length c0_2,.string a0_3,.string a0_4] 31 (0,0)) (bk_ aa.out) hb);replace HB := aM (lT hb_ hb);(try clear hb);(try clear hb2);(try clear hk);(try clear hi);refine hK.out _ _ ⟨(bC aa.out 0).trans rfl,(bC aa.out 1).trans rfl,(bC aa.out 2).trans rfl,(bC aa.out 3).trans rfl,(bC aa.out 4).trans rfl,((HB.out.cell (wB w _ aT)).trans aT),((HB.out.cell (wB w _ aS)).trans aS),((HB.out.cell (wB w _ aR)).trans aR)⟩ (fun hHeld => ?_);clear hK K;refine norm_ (a' := ?_) ?_ ?_;rotate_left;show Act.put _ (some 46) _ = _;simp only [Act.put,lI,sZ,sS,i64_w,i32_w];rfl;refine pure_ (i := 6) (N := some 47) (v := ?_) (a' := ?_) (mk_ 27 127) rfl rfl (any_of HT_.out (by kernel_rfl)) (fun _ _ _ h => h) (Or.inl ⟨by rfl,?_⟩) ?_ ?_;rotate_left;intro w';go_simp;(with_reducible rfl);rotate_left;simp only [Act.put,lI,sZ,sS,i64_w,i32_w];rfl;refine pure_ (i := 7) (N := some 48) (v := ?_) (a' := ?_) (mk_ 27 255) rfl rfl (any_of HT_.out (by kernel_rfl)) (fun _ _ _ h => h) (Or.inl ⟨by rfl,?_⟩) ?_ ?_;rotate_left;intro w';go_simp;(with_reducible rfl);rotate_left;simp only [Act.put,lI,sZ,sS,i64_w,i32_w];rfl
           first
            |
             refine pure_ (i := 8) (N := some 49) (v := undef) (a' := ?_) (mk_ 27 511) rfl rfl (any_of HT_.out (by kernel_rfl)) (fun _ _ _ h => h) (Or.inr ⟨by rfl,rfl⟩) ?_ ?_;rotate_left;simp only [Act.put,lI,sZ,sS,i64_w,i32_w];rfl;refine pure_ (i := 9) (N := some 50) (v := undef) (a' := ?_) (mk_ 27 1023) rfl rfl (any_of HT_.out (by kernel_rfl)) (fun _ _ _ h => h) (Or.inr ⟨by rfl,rfl⟩) ?_ ?_;rotate_left;simp only [Act.put,lI,sZ,sS,i64_w,i32_w];rfl;refine pure_ (i := 10) (N := some 51) (v := undef) (a' := ?_) (mk_ 27 2047) rfl rfl (any_of HT_.out (by kernel_rfl)) (fun _ _ _ h => h) (Or.inr ⟨by rfl,rfl⟩) ?_ ?_;rotate_left;simp only [Act.put,lI,sZ,sS,i64_w,i32_w];rfl;refine pure_ (i := 11) (N := some 52) (v := undef) (a' := ?_) (mk_ 27 4095) rfl rfl (any_of HT_.out (by kernel_rfl)) (fun _ _ _ h => h) (Or.inr ⟨by rfl,rfl⟩) ?_ ?_;rotate_left;simp only [Act.put,lI,sZ,sS,i64_w,i32_w];rfl;refine pure_ (i := 12) (N := some 53) (v := undef) (a' := ?_) (mk_ 27 8191) rfl rfl (any_of HT_.out (by kernel_rfl)) (fun _ _ _ h => h) (Or.inr ⟨by rfl,rfl⟩) ?_ ?_;rotate_left;simp only [Act.put,lI,sZ,sS,i64_w,i32_w];rfl;refine pure_ (i := 13) (N := some 54) (v := undef) (a' := ?_) (mk_ 27 16383) rfl rfl (any_of HT_.out (by kernel_rfl)) (fun _ _ _ h => h) (Or.inr ⟨by rfl,rfl⟩) ?_ ?_;rotate_left;simp only [Act.put,lI,sZ,sS,i64_w,i32_w];rfl;refine pure_ (i := 14) (N := some 55) (v := undef) (a' := ?_) (mk_ 27 32767) rfl rfl (any_of HT_.out (by kernel_rfl)) (fun _ _ _ h => h) (Or.inr ⟨by rfl,rfl⟩) ?_ ?_;rotate_left;simp only [Act.put,lI,sZ,sS,i64_w,i32_w];rfl;refine pure_ (i := 15) (N := some 56) (v := undef) (a' := ?_) (mk_ 27 65535) rfl rfl (any_of HT_.out (by kernel_rfl)) (fun _ _ _ h => h) (Or.inr ⟨by rfl,rfl⟩) ?_ ?_;rotate_left;simp only [Act.put,lI,sZ,sS,i64_w,i32_w];rfl;refine pure_ (i := 16) (N := some 57) (v := undef) (a' := ?_) (mk_ 27 131071) rfl rfl (any_of HT_.out (by kernel_rfl)) (fun _ _ _ h => h) (Or.inr ⟨by rfl,rfl⟩) ?_ ?_;rotate_left;simp only [Act.put,lI,sZ,sS,i64_w,i32_w];rfl;refine pure_ (i := 17) (N := some 58) (v := undef) (a' := ?_) (mk_ 27 262143) rfl rfl (any_of HT_.out (by kernel_rfl)) (fun _ _ _ h => h) (Or.inr ⟨by rfl,rfl⟩) ?_ ?_;rotate_left;simp only [Act.put,lI,sZ,sS,i64_w,i32_w];rfl;refine pure_ (i := 18) (N := some 59) (v := undef) (a' := ?_) (mk_ 27 524287) rfl rfl (any_of HT_.out (by kernel_rfl)) (fun _ _ _ h => h) (Or.inr ⟨by rfl,rfl⟩) ?_ ?_;rotate_left;simp only [Act.put,lI,sZ,sS,i64_w,i32_w];rfl;refine pure_ (i := 19) (N := some 60) (v := undef) (a' := ?_) (mk_ 27 1048575) rfl rfl (any_of HT_.out (by kernel_rfl)) (fun _ _ _ h => h) (Or.inr ⟨by rfl,rfl⟩) ?_ ?_;rotate_left;simp only [Act.put,lI,sZ,sS,i64_w,i32_w];rfl;refine pure_ (i := 20) (N := some 61) (v := undef) (a' := ?_) (mk_ 27 2097151) rfl rfl (any_of HT_.out (by kernel_rfl)) (fun _ _ _ h => h) (Or.inr ⟨by rfl,rfl⟩) ?_ ?_;rotate_left;simp only [Act.put,lI,sZ,sS,i64_w,i32_w];rfl;refine pure_ (i := 21) (N := some 62) (v := undef) (a' := ?_) (mk_ 27 4194303) rfl rfl (any_of HT_.out (by kernel_rfl)) (fun _ _ _ h => h) (Or.inr ⟨by rfl,rfl⟩) ?_ ?_;rotate_left;simp only [Act.put,lI,sZ,sS,i64_w,i32_w];rfl;refine pure_ (i := 22) (N := some 63) (v := undef) (a' := ?_) (mk_ 27 8388607) rfl rfl (any_of HT_.out (by kernel_rfl)) (fun _ _ _ h => h) (Or.inr ⟨by rfl,rfl⟩) ?_ ?_;rotate_left;simp only [Act.put,lI,sZ,sS,i64_w,i32_w];rfl;refine pure_ (i := 23) (N := some 64) (v := undef) (a' := ?_) (mk_ 27 16777215) rfl rfl (any_of HT_.out (by kernel_rfl)) (fun _ _ _ h => h) (Or.inr ⟨by rfl,rfl⟩) ?_ ?_;rotate_left;simp only [Act.put,lI,sZ,sS,i64_w,i32_w];rfl;refine pure_ (i := 24) (N := some 65) (v := undef) (a' := ?_) (mk_ 27 33554431) rfl rfl (any_of HT_.out (by kernel_rfl)) (fun _ _ _ h => h) (Or.inr ⟨by rfl,rfl⟩) ?_ ?_;rotate_left;simp only [Act.put,lI,sZ,sS,i64_w,i32_w];rfl;refine pure_ (i := 25) (N := some 66) (v := undef) (a' := ?_) (mk_ 27 67108863) rfl rfl (any_of HT_.out (by kernel_rfl)) (fun _ _ _ h => h) (Or.inr ⟨by rfl,rfl⟩) ?_ ?_;rotate_left;simp only [Act.put,lI,sZ,sS,i64_w,i32_w];rfl;refine pure_ (i := 26) (N := some 67) (v := ?_) (a' := ?_) (mk_ 27 134217727) rfl rfl (any_of HT_.out (by kernel_rfl)) (fun _ _ _ h => h) (Or.inl ⟨by rfl,?_⟩) ?_ ?_;rotate_left;intro w';go_simp;(with_reducible rfl);rotate_left;simp only [Act.put,lI,sZ,sS,i64_w,i32_w];rfl;refine done_ (done_of HT_.out (by kernel_rfl)) ?_;(try go_wp2);go_ret;exact ⟨by first|rfl|(simp [*];done),hb_⟩
            |
             refine pure_ (i := 8) (N := some 49) (v := ?_) (a' := ?_) (mk_ 27 511) rfl rfl (any_of HT_.out (by kernel_rfl)) (fun _ _ _ h => h) (Or.inl ⟨by rfl,?_⟩) ?_ ?_;rotate_left;intro w';go_simp;(with_reducible rfl);rotate_left;simp only [Act.put,lI,sZ,sS,i64_w,i32_w];rfl;refine pure_ (i := 9) (N := some 50) (v := ?_) (a' := ?_) (mk_ 27 1023) rfl rfl (any_of HT_.out (by kernel_rfl)) (fun _ _ _ h => h) (Or.inl ⟨by rfl,?_⟩) ?_ ?_;rotate_left;intro w';go_simp;(with_reducible rfl);rotate_left;simp only [Act.put,lI,sZ,sS,i64_w,i32_w];rfl;refine pure_ (i := 10) (N := some 51) (v := ?_) (a' := ?_) (mk_ 27 2047) rfl rfl (any_of HT_.out (by kernel_rfl)) (fun _ _ _ h => h) (Or.inl ⟨by rfl,?_⟩) ?_ ?_;rotate_left;intro w';go_simp;(with_reducible rfl);rotate_left;simp only [Act.put,lI,sZ,sS,i64_w,i32_w];rfl;refine pure_ (i := 11) (N := some 52) (v := undef) (a' := ?_) (mk_ 27 4095) rfl rfl (any_of HT_.out (by kernel_rfl)) (fun _ _ _ h => h) (Or.inr ⟨by rfl,rfl⟩) ?_ ?_;rotate_left;simp only [Act.put,lI,sZ,sS,i64_w,i32_w];rfl;refine pure_ (i := 12) (N := some 53) (v := undef) (a' := ?_) (mk_ 27 8191) rfl rfl (any_of HT_.out (by kernel_rfl)) (fun _ _ _ h => h) (Or.inr ⟨by rfl,rfl⟩) ?_ ?_;rotate_left;simp only [Act.put,lI,sZ,sS,i64_w,i32_w];rfl;refine pure_ (i := 13) (N := some 54) (v := undef) (a' := ?_) (mk_ 27 16383) rfl rfl (any_of HT_.out (by kernel_rfl)) (fun _ _ _ h => h) (Or.inr ⟨by rfl,rfl⟩) ?_ ?_;rotate_left;simp only [Act.put,lI,sZ,sS,i64_w,i32_w];rfl;refine pure_ (i := 14) (N := some 55) (v := undef) (a' := ?_) (mk_ 27 32767) rfl rfl (any_of HT_.out (by kernel_rfl)) (fun _ _ _ h => h) (Or.inr ⟨by rfl,rfl⟩) ?_ ?_;rotate_left;simp only [Act.put,lI,sZ,sS,i64_w,i32_w];rfl;refine pure_ (i := 15) (N := some 56) (v := undef) (a' := ?_) (mk_ 27 65535) rfl rfl (any_of HT_.out (by kernel_rfl)) (fun _ _ _ h => h) (Or.inr ⟨by rfl,rfl⟩) ?_ ?_;rotate_left;simp only [Act.put,lI,sZ,sS,i64_w,i32_w];rfl;refine pure_ (i := 16) (N := some 57) (v := undef) (a' := ?_) (mk_ 27 131071) rfl rfl (any_of HT_.out (by kernel_rfl)) (fun _ _ _ h => h) (Or.inr ⟨by rfl,rfl⟩) ?_ ?_;rotate_left;simp only [Act.put,lI,sZ,sS,i64_w,i32_w];rfl;refine pure_ (i := 17) (N := some 58) (v := undef) (a' := ?_) (mk_ 27 262143) rfl rfl (any_of HT_.out (by kernel_rfl)) (fun _ _ _ h => h) (Or.inr ⟨by rfl,rfl⟩) ?_ ?_;rotate_left;simp only [Act.put,lI,sZ,sS,i64_w,i32_w];rfl;refine pure_ (i := 18) (N := some 59) (v := undef) (a' := ?_) (mk_ 27 524287) rfl rfl (any_of HT_.out (by kernel_rfl)) (fun _ _ _ h => h) (Or.inr ⟨by rfl,rfl⟩) ?_ ?_;rotate_left;simp only [Act.put,lI,sZ,sS,i64_w,i32_w];rfl;refine pure_ (i := 19) (N := some 60) (v := undef) (a' := ?_) (mk_ 27 1048575) rfl rfl (any_of HT_.out (by kernel_rfl)) (fun _ _ _ h => h) (Or.inr ⟨by rfl,rfl⟩) ?_ ?_;rotate_left;simp only [Act.put,lI,sZ,sS,i64_w,i32_w];rfl;refine pure_ (i := 20) (N := some 61) (v := undef) (a' := ?_) (mk_ 27 2097151) rfl rfl (any_of HT_.out (by kernel_rfl)) (fun _ _ _ h => h) (Or.inr ⟨by rfl,rfl⟩) ?_ ?_;rotate_left;simp only [Act.put,lI,sZ,sS,i64_w,i32_w];rfl;refine pure_ (i := 21) (N := some 62) (v := undef) (a' := ?_) (mk_ 27 4194303) rfl rfl (any_of HT_.out (by kernel_rfl)) (fun _ _ _ h => h) (Or.inr ⟨by rfl,rfl⟩) ?_ ?_;rotate_left;simp only [Act.put,lI,sZ,sS,i64_w,i32_w];rfl;refine pure_ (i := 22) (N := some 63) (v := undef) (a' := ?_) (mk_ 27 8388607) rfl rfl (any_of HT_.out (by kernel_rfl)) (fun _ _ _ h => h) (Or.inr ⟨by rfl,rfl⟩) ?_ ?_;rotate_left;simp only [Act.put,lI,sZ,sS,i64_w,i32_w];rfl;refine pure_ (i := 23) (N := some 64) (v := undef) (a' := ?_) (mk_ 27 16777215) rfl rfl (any_of HT_.out (by kernel_rfl)) (fun _ _ _ h => h) (Or.inr ⟨by rfl,rfl⟩) ?_ ?_;rotate_left;simp only [Act.put,lI,sZ,sS,i64_w,i32_w];rfl;refine pure_ (i := 24) (N := some 65) (v := undef) (a' := ?_) (mk_ 27 33554431) rfl rfl (any_of HT_.out (by kernel_rfl)) (fun _ _ _ h => h) (Or.inr ⟨by rfl,rfl⟩) ?_ ?_;rotate_left;simp only [Act.put,lI,sZ,sS,i64_w,i32_w];rfl;refine pure_ (i := 25) (N := some 66) (v := ?_) (a' := ?_) (mk_ 27 67108863) rfl rfl (any_of HT_.out (by kernel_rfl)) (fun _ _ _ h => h) (Or.inl ⟨by rfl,?_⟩) ?_ ?_;rotate_left;intro w';go_simp;(with_reducible rfl);rotate_left;simp only [Act.put,lI,sZ,sS,i64_w,i32_w];rfl;refine pure_ (i := 26) (N := some 67) (v := ?_) (a' := ?_) (mk_ 27 134217727) rfl rfl (any_of HT_.out (by kernel_rfl)) (fun _ _ _ h => h) (Or.inl ⟨by rfl,?_⟩) ?_ ?_;rotate_left;intro w';go_simp;(with_reducible rfl);rotate_left;simp only [Act.put,lI,sZ,sS,i64_w,i32_w];rfl;refine done_ (done_of HT_.out (by kernel_rfl)) ?_;(try go_wp2);go_roundg k2
             case measure => have := HJ1.out;have := HK2.out;omega
             case rel => exact ⟨(wrap64 (ab + 1)),(by first|rfl|(simp [*];done)),H',⟨by have := HJ1.out;have := HK2.out;omega⟩,⟨by (with_reducible repeat (first|refine bN ?_ _|refine bD ?_|refine bA ?_ _));exact aa.out⟩,⟨hb_⟩⟩
end Go.Proofs.Ytmkkcpdpfelalaa.P
