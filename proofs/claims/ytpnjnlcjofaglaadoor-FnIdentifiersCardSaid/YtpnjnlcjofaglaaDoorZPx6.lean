/- Written by a program in this session: each theorem here says that a Go function computes the Lean function beside it, or that a law's row holds, under the conditions that the theorem itself states. -/
import Derived.Test.YtpnjnlcjofaglaaDoorZPx0
import Derived.Test.YtpnjnlcjofaglaaDoorZPx2
import Derived.Test.YtpnjnlcjofaglaaDoorZPx3
import Derived.Test.YtpnjnlcjofaglaaDoorZPx4
import Derived.Test.YtpnjnlcjofaglaaDoorZPx5
import Derived.Lib.SmallJoins
import Derived.RegionTactic
namespace Go.Proofs.YtpnjnlcjofaglaaDoor.P
open Go.RowKit Go.Proofs.YtpnjnlcjofaglaaDoorW.PrintWords Go.Proofs.YtpnjnlcjofaglaaDoorW.PrintLast Go.Proofs.YtpnjnlcjofaglaaDoorW.PrintMore
attribute [local go_sem] max2_int min2_int max_two min_two max_three min_three max_four min_four   -- for this text's walks alone
set_option linter.unusedVariables false
set_option linter.unusedSimpArgs false
def spec_l1Cur_among.f (s0_0 : List Int) (s0_1 : Int) (s0_2 : Int) (l1 : List Int) : Option (Int × Int × Int) := (spec_l1Cur_pick.f s0_0 s0_1 s0_2 (l1.length : Int)).bind fun bt194 => (if 0 ≤ bt194.1 then (if bt194.1 < (l1.length : Int) then (some (rd l1 bt194.1,bt194.2.1,bt194.2.2)) else (none)) else (none))
set_option maxHeartbeats 8000000 in
set_option maxRecDepth 100000 in
theorem spec_l1Cur_among.calls (g : Nat) (s0_0 : List Int) (s0_1 : Int) (s0_2 : Int) (A1 : Option Addr) (c1 : Nat) (l1 : List Int) (r1 : Int) (r2 : Int) (r3 : Int) (w0 w : World) (hI : IsS56 w0 w g s0_0 s0_1 s0_2) (hB : Below w0.heap.size w0 w) (hr1 : Kd.C (Kd.int .i64) w A1 l1.length l1) (hc1 : l1.length ≤ c1) (hf1 : ∀ ad,A1 = some ad → 0 < l1.length → ad.block ≠ g) (h : spec_l1Cur_among.f s0_0 s0_1 s0_2 l1 = some (r1,r2,r3)) :
  Calls Tryd.prog 52 #[.pointer (some ⟨g,0,none⟩),.slice A1 l1.length c1] w fun e w' => e = .returned (.int .i64 r1) ∧ IsS56 w0 w' g s0_0 r2 r3 ∧ Below w0.heap.size w0 w' ∧ KeepBut w w' g none := by
 have HR1 := Aside0.mk hr1
 have HC1 := Aside0.mk hc1
 clear hr1 hc1
 have HI0 := Aside0.mk hI
 have HK := Aside0.mk (KeepBut.refl w g none)
 have HL := Aside0.mk hB.size
 clear hI
 have HW0 := Aside0.mk hB.size
 have HB := Aside0.mk hB
 clear hB
 have H : ((spec_l1Cur_pick.f s0_0 s0_1 s0_2 (l1.length : Int)).bind fun bt194 => (if 0 ≤ bt194.1 then (if bt194.1 < (l1.length : Int) then (some (rd l1 bt194.1,bt194.2.1,bt194.2.2)) else (none)) else (none))) = some (r1,r2,r3) := h
 clear h
 replace H := Option.bind_eq_some_iff.mp H
 obtain ⟨⟨t194,t195,t196⟩,A30,H⟩ := H
 replace H : (if 0 ≤ t194 then (if t194 < (l1.length : Int) then (some (rd l1 t194,t195,t196)) else (none)) else (none)) = some (r1,r2,r3) := H
 have A3 := Aside0.mk A30
 clear A30
 by_cases c4 : 0 ≤ t194
 ·rw [if_pos c4] at H
  have c4b0 : decide (0 ≤ t194) = true := decide_eq_true c4
  clear c4
  by_cases c5 : t194 < (l1.length : Int)
  ·rw [if_pos c5] at H
   have c5b0 : decide (t194 < (l1.length : Int)) = true := decide_eq_true c5
   clear c5
   simp only [Option.some.injEq,Prod.mk.injEq] at H
   obtain ⟨rfl,rfl,rfl⟩ := H
   go_enter Tryd.func52,Tryd.ntmps52
   go_wp2_with (first|((with_reducible refine gate_callee (f := 49) rfl ?_);refine goesL_ (some 9) rfl rfl Tryd.func49 (by kernel_rfl) rfl #[.pointer (some ⟨g,0,none⟩),.int .i64 (l1.length : Int)] rfl (by (try simp only [List.map_toArray,List.map_cons,List.map_nil]);first|done|rfl|(simp only [List.length_drop,List.length_take];rfl)) ?_;(with_reducible refine (spec_l1Cur_pick.calls g s0_0 s0_1 s0_2 (l1.length : Int) t194 t195 t196 w0 _ ?side1 ?side2 A3.out).mono ?_);(case side1 => repeat (first|(with_reducible first|exact HI0.out|apply IsS56.alloc|apply IsS56.drewN|apply IsS56.drew|apply IsS56.set_1|apply IsS56.set_2)|exact HI0.out));(case side2 => repeat (first|(with_reducible first|exact HB.out|apply lA|apply lN|apply lD|refine below_set ?_ (IsS56.ge HI0.out))|exact HB.out));rintro e w6 ⟨rfl,hi,hb,hk⟩;refine ⟨_,rfl,?_⟩;have n0_ := Aside0.mk (KeepBut.trans (by repeat (first|(with_reducible first|exact HK.out|apply KeepBut.set_|apply keep_drewN|apply keep_drew|apply keep_alloc)|exact HK.out)) hk (.inl rfl));have n1_ := Aside0.mk (hb);have n2_ := Aside0.mk (hi);clear HK;clear HB;clear HI0;have HK := n0_;have HB := n1_;have HI0 := n2_;clear n0_ n1_ n2_;(try clear hb);(try clear hb2);(try clear hk);(try clear hi);have p197 : 0 ≤ (t194 : Int) := of_decide_eq_true (by first|(with_reducible assumption)|assumption);have q197 : t194 < (l1.length : Int) := of_decide_eq_true (by first|(with_reducible assumption)|assumption);obtain ⟨ad197,e197,hx197_0⟩ := Kd.at_int HR1.out t194 p197 q197;cases e197;replace hx197_0 := keep_cell HK.out hx197_0 (by first|(rw [add_block];exact hf1 _ rfl (by omega))|exact hf1 _ rfl (by omega)|exact hf1 ad197 rfl (by omega));replace p197 := eq_true p197;replace q197 := eq_true q197))
   go_ret
   exact ⟨by first|rfl|(simp [errW_none,errW_some] <;> rfl)|(simp [*,errW_none,errW_some] <;> rfl),by repeat (first|(with_reducible first|exact HI0.out|apply IsS56.alloc|apply IsS56.drewN|apply IsS56.drew|apply IsS56.set_1|apply IsS56.set_2)|exact HI0.out),by repeat (first|(with_reducible first|exact HB.out|apply lA|apply lN|apply lD|refine below_set ?_ (IsS56.ge HI0.out))|exact HB.out),by repeat (first|(with_reducible first|exact HK.out|apply KeepBut.set_|apply keep_drewN|apply keep_drew|apply keep_alloc)|exact HK.out)⟩
  ·rw [if_neg c5] at H
   exact absurd H (by simp)
 ·rw [if_neg c4] at H
  exact absurd H (by simp)
def spec_DrawCompleteIdentifier.f (k : Nat) (l0 : List Int) : Option (Int × ByteArray) := (spec_l1Cur_kind24.f l0 0 0).bind fun bt199 => ((spec_l1Cur_id24.f k l0 bt199.2.1 bt199.2.2 bt199.1).bind fun bt202 => (if 0 ≤ (wrap64 ((bt202.1.size : Int) - 1)) then (if (wrap64 ((bt202.1.size : Int) - 1)) ≤ (bt202.1.size : Int) then ((spec_l1Cur_pick.f l0 bt202.2.1 bt202.2.2 12).bind fun bt205 => (if bt205.1 = 0 then ((spec_l1Cur_spoilt.f l0 bt205.2.1 bt205.2.2 (bt202.1.extract 0 ((wrap64 ((bt202.1.size : Int) - 1)) : Int).toNat) (⟨#[48,88,57,97]⟩ : ByteArray)).bind fun bt208 => (some (bt199.1,bt208.1))) else (if bt205.1 = 1 then ((spec_l1Cur_among.f l0 bt205.2.1 bt205.2.2 (([0,5,2] : List Int))).bind fun bt214 => (some (bt214.1,bt202.1.extract 0 ((wrap64 ((bt202.1.size : Int) - 1)) : Int).toNat))) else (some (bt199.1,bt202.1.extract 0 ((wrap64 ((bt202.1.size : Int) - 1)) : Int).toNat))))) else (none)) else (none)))
theorem spec_DrawCompleteIdentifier.mono : ∀ a0 k,LeO (spec_DrawCompleteIdentifier.f k a0) (spec_DrawCompleteIdentifier.f (k + 1) a0) := by
 intro a0 k
 unfold spec_DrawCompleteIdentifier.f
 repeat' first
   | (with_reducible exact spec_l1Cur_id24.mono _ _ _ _ _)
   | (with_reducible exact LeO.refl _)
   | (with_reducible exact LeO.none _)
   | (with_reducible refine LeO.ite ?_ ?_)
   | (with_reducible refine LeO.bind ?_ (fun _ => ?_))
   | exact spec_l1Cur_id24.mono _ _ _ _ _
   | exact LeO.none _
   | refine LeO.ite ?_ ?_
   | refine LeO.bind ?_ (fun _ => ?_)
set_option maxHeartbeats 8000000 in
set_option maxRecDepth 100000 in
theorem spec_DrawCompleteIdentifier.calls (k : Nat) (A0 : Option Addr) (c0 : Nat) (l0 : List Int) (r1 : Int) (r2 : ByteArray) (w : World) (hr0 : Kd.C (Kd.int .u8) w A0 l0.length l0) (hc0 : l0.length ≤ c0) (h : spec_DrawCompleteIdentifier.f k l0 = some (r1,r2)) :
  Calls Tryd.prog 23 #[.slice A0 l0.length c0] w fun e w' => e = .returned (.tuple #[.int .i64 r1,.string r2]) ∧ Below w.heap.size w w' := by
 have hu56 := Tryd.underlying56
 have HR0 := Aside0.mk hr0
 have HC0 := Aside0.mk hc0
 clear hr0 hc0
 have HB := Aside0.mk (Below.refl w.heap.size w)
 have H : ((spec_l1Cur_kind24.f l0 0 0).bind fun bt199 => ((spec_l1Cur_id24.f k l0 bt199.2.1 bt199.2.2 bt199.1).bind fun bt202 => (if 0 ≤ (wrap64 ((bt202.1.size : Int) - 1)) then (if (wrap64 ((bt202.1.size : Int) - 1)) ≤ (bt202.1.size : Int) then ((spec_l1Cur_pick.f l0 bt202.2.1 bt202.2.2 12).bind fun bt205 => (if bt205.1 = 0 then ((spec_l1Cur_spoilt.f l0 bt205.2.1 bt205.2.2 (bt202.1.extract 0 ((wrap64 ((bt202.1.size : Int) - 1)) : Int).toNat) (⟨#[48,88,57,97]⟩ : ByteArray)).bind fun bt208 => (some (bt199.1,bt208.1))) else (if bt205.1 = 1 then ((spec_l1Cur_among.f l0 bt205.2.1 bt205.2.2 (([0,5,2] : List Int))).bind fun bt214 => (some (bt214.1,bt202.1.extract 0 ((wrap64 ((bt202.1.size : Int) - 1)) : Int).toNat))) else (some (bt199.1,bt202.1.extract 0 ((wrap64 ((bt202.1.size : Int) - 1)) : Int).toNat))))) else (none)) else (none)))) = some (r1,r2) := h
 clear h
 replace H := Option.bind_eq_some_iff.mp H
 obtain ⟨⟨t199,t200,t201⟩,A20,H⟩ := H
 replace H : ((spec_l1Cur_id24.f k l0 t200 t201 t199).bind fun bt202 => (if 0 ≤ (wrap64 ((bt202.1.size : Int) - 1)) then (if (wrap64 ((bt202.1.size : Int) - 1)) ≤ (bt202.1.size : Int) then ((spec_l1Cur_pick.f l0 bt202.2.1 bt202.2.2 12).bind fun bt205 => (if bt205.1 = 0 then ((spec_l1Cur_spoilt.f l0 bt205.2.1 bt205.2.2 (bt202.1.extract 0 ((wrap64 ((bt202.1.size : Int) - 1)) : Int).toNat) (⟨#[48,88,57,97]⟩ : ByteArray)).bind fun bt208 => (some (t199,bt208.1))) else (if bt205.1 = 1 then ((spec_l1Cur_among.f l0 bt205.2.1 bt205.2.2 (([0,5,2] : List Int))).bind fun bt214 => (some (bt214.1,bt202.1.extract 0 ((wrap64 ((bt202.1.size : Int) - 1)) : Int).toNat))) else (some (t199,bt202.1.extract 0 ((wrap64 ((bt202.1.size : Int) - 1)) : Int).toNat))))) else (none)) else (none))) = some (r1,r2) := H
 have A2 := Aside0.mk A20
 clear A20
 replace H := Option.bind_eq_some_iff.mp H
 obtain ⟨⟨t202,t203,t204⟩,A30,H⟩ := H
 replace H : (if 0 ≤ (wrap64 ((t202.size : Int) - 1)) then (if (wrap64 ((t202.size : Int) - 1)) ≤ (t202.size : Int) then ((spec_l1Cur_pick.f l0 t203 t204 12).bind fun bt205 => (if bt205.1 = 0 then ((spec_l1Cur_spoilt.f l0 bt205.2.1 bt205.2.2 (t202.extract 0 ((wrap64 ((t202.size : Int) - 1)) : Int).toNat) (⟨#[48,88,57,97]⟩ : ByteArray)).bind fun bt208 => (some (t199,bt208.1))) else (if bt205.1 = 1 then ((spec_l1Cur_among.f l0 bt205.2.1 bt205.2.2 (([0,5,2] : List Int))).bind fun bt214 => (some (bt214.1,t202.extract 0 ((wrap64 ((t202.size : Int) - 1)) : Int).toNat))) else (some (t199,t202.extract 0 ((wrap64 ((t202.size : Int) - 1)) : Int).toNat))))) else (none)) else (none)) = some (r1,r2) := H
 have A3 := Aside0.mk A30
 clear A30
 obtain ⟨ji4,hji4⟩ : ∃ j_ : Int,(wrap64 ((t202.size : Int) - 1)) = j_ := ⟨_,rfl⟩
 replace H : (if 0 ≤ (ji4) then (if (ji4) ≤ (t202.size : Int) then ((spec_l1Cur_pick.f l0 t203 t204 12).bind fun bt205 => (if bt205.1 = 0 then ((spec_l1Cur_spoilt.f l0 bt205.2.1 bt205.2.2 (t202.extract 0 ((ji4) : Int).toNat) (⟨#[48,88,57,97]⟩ : ByteArray)).bind fun bt208 => (some (t199,bt208.1))) else (if bt205.1 = 1 then ((spec_l1Cur_among.f l0 bt205.2.1 bt205.2.2 (([0,5,2] : List Int))).bind fun bt214 => (some (bt214.1,t202.extract 0 ((ji4) : Int).toNat))) else (some (t199,t202.extract 0 ((ji4) : Int).toNat))))) else (none)) else (none)) = some (r1,r2) := by first|(rw [hji4] at H;exact H)|(simp only [hji4] at H ⊢;exact H)
 (try rw [hji4] at A2)
 (try rw [hji4] at A3)
 have hji4w : (IntKind.i64.wrap ((t202.size : Int) - 1)) = ji4 := (i64_w _).trans hji4
 by_cases c5 : 0 ≤ (ji4)
 ·rw [if_pos c5] at H
  have c5b0 := eq_true c5
  have c5b1 : decide (0 ≤ (ji4)) = true := decide_eq_true c5
  clear c5
  by_cases c6 : (ji4) ≤ (t202.size : Int)
  ·rw [if_pos c6] at H
   have c6b0 := eq_true c6
   have c6b1 : decide ((ji4) ≤ (t202.size : Int)) = true := decide_eq_true c6
   clear c6
   replace H := Option.bind_eq_some_iff.mp H
   obtain ⟨⟨t205,t206,t207⟩,A70,H⟩ := H
   replace H : (if t205 = 0 then ((spec_l1Cur_spoilt.f l0 t206 t207 (t202.extract 0 ((ji4) : Int).toNat) (⟨#[48,88,57,97]⟩ : ByteArray)).bind fun bt208 => (some (t199,bt208.1))) else (if t205 = 1 then ((spec_l1Cur_among.f l0 t206 t207 (([0,5,2] : List Int))).bind fun bt214 => (some (bt214.1,t202.extract 0 ((ji4) : Int).toNat))) else (some (t199,t202.extract 0 ((ji4) : Int).toNat)))) = some (r1,r2) := H
   have A7 := Aside0.mk A70
   clear A70
   by_cases c8 : t205 = 0
   ·rw [if_pos c8] at H
    have c8b0 : (t205 == 0) = true := beq_iff_eq.mpr c8
    have c8b1 : (t205 != 0) = false := bne_eq_false_iff_eq.mpr c8
    clear c8
    replace H := Option.bind_eq_some_iff.mp H
    obtain ⟨⟨t208,t209,t210⟩,A90,H⟩ := H
    replace H : (some (t199,t208)) = some (r1,r2) := H
    have A9 := Aside0.mk A90
    clear A90
    simp only [Option.some.injEq,Prod.mk.injEq] at H
    obtain ⟨rfl,rfl⟩ := H
    go_enter Tryd.func23,Tryd.ntmps23
    go_wp2_with (first|((with_reducible refine gate_dst (N := 9) rfl ?_);refine box_event ?hg (N := 9) ?hd (cs := #[.slice A0 l0.length c0,.int .i64 0,.int .u64 0]) (t := 56) ?hr ?_;(case hd => rfl);(case hg => rfl);(case hr => first|(go_simp;done)|(go_simp;rfl));intro gb198 hg w10 hbox hb;have n0_ := Aside0.mk (below_step (by repeat (first|(with_reducible first|exact HB.out|apply lA|apply lN|apply lD)|exact HB.out)) hb);have n1_ := Aside0.mk ((show IsS56 w w10 gb198 l0 0 0 from ⟨_,_,hbox,(by rw [hg];exact (below_size (by repeat (first|(with_reducible first|exact HB.out|apply lA|apply lN|apply lD)|exact HB.out))) : w.heap.size ≤ gb198),HR0.out⟩));clear HB;have HB := n0_;have HI198 := n1_;clear n0_ n1_;clear hb hbox hg)|((with_reducible refine gate_callee (f := 48) rfl ?_);refine goesL_ (some 11) rfl rfl Tryd.func48 (by kernel_rfl) rfl #[.pointer (some ⟨gb198,0,none⟩)] rfl (by (try simp only [List.map_toArray,List.map_cons,List.map_nil]);first|done|rfl|(simp only [List.length_drop,List.length_take];rfl)) ?_;(with_reducible refine (spec_l1Cur_kind24.calls gb198 l0 0 0 t199 t200 t201 w _ ?side1 ?side2 A2.out).mono ?_);(case side1 => repeat (first|(with_reducible first|exact HI198.out|apply IsS56.alloc|apply IsS56.drewN|apply IsS56.drew|apply IsS56.set_1|apply IsS56.set_2)|exact HI198.out));(case side2 => repeat (first|(with_reducible first|exact HB.out|apply lA|apply lN|apply lD|refine below_set ?_ (IsS56.ge HI198.out))|exact HB.out));rintro e w11 ⟨rfl,hi,hb,hk⟩;refine ⟨_,rfl,?_⟩;have n0_ := Aside0.mk (hb);have n1_ := Aside0.mk (hi);clear HB;clear HI198;have HB := n0_;have HI198 := n1_;clear n0_ n1_;(try clear hb);(try clear hb2);(try clear hk);(try clear hi))|((with_reducible refine gate_callee (f := 47) rfl ?_);refine goesL_ (some 14) rfl rfl Tryd.func47 (by kernel_rfl) rfl #[.pointer (some ⟨gb198,0,none⟩),.int .i64 t199] rfl (by (try simp only [List.map_toArray,List.map_cons,List.map_nil]);first|done|rfl|(simp only [List.length_drop,List.length_take];rfl)) ?_;(with_reducible refine (spec_l1Cur_id24.calls k gb198 l0 t200 t201 t199 t202 t203 t204 w _ ?side1 ?side2 A3.out).mono ?_);(case side1 => repeat (first|(with_reducible first|exact HI198.out|apply IsS56.alloc|apply IsS56.drewN|apply IsS56.drew|apply IsS56.set_1|apply IsS56.set_2)|exact HI198.out));(case side2 => repeat (first|(with_reducible first|exact HB.out|apply lA|apply lN|apply lD|refine below_set ?_ (IsS56.ge HI198.out))|exact HB.out));rintro e w12 ⟨rfl,hi,hb,hk⟩;refine ⟨_,rfl,?_⟩;have n0_ := Aside0.mk (hb);have n1_ := Aside0.mk (hi);clear HB;clear HI198;have HB := n0_;have HI198 := n1_;clear n0_ n1_;(try clear hb);(try clear hb2);(try clear hk);(try clear hi))|((with_reducible refine gate_callee (f := 49) rfl ?_);refine goesL_ (some 21) rfl rfl Tryd.func49 (by kernel_rfl) rfl #[.pointer (some ⟨gb198,0,none⟩),.int .i64 12] rfl (by (try simp only [List.map_toArray,List.map_cons,List.map_nil]);first|done|rfl|(simp only [List.length_drop,List.length_take];rfl)) ?_;(with_reducible refine (spec_l1Cur_pick.calls gb198 l0 t203 t204 12 t205 t206 t207 w _ ?side1 ?side2 A7.out).mono ?_);(case side1 => repeat (first|(with_reducible first|exact HI198.out|apply IsS56.alloc|apply IsS56.drewN|apply IsS56.drew|apply IsS56.set_1|apply IsS56.set_2)|exact HI198.out));(case side2 => repeat (first|(with_reducible first|exact HB.out|apply lA|apply lN|apply lD|refine below_set ?_ (IsS56.ge HI198.out))|exact HB.out));rintro e w13 ⟨rfl,hi,hb,hk⟩;refine ⟨_,rfl,?_⟩;have n0_ := Aside0.mk (hb);have n1_ := Aside0.mk (hi);clear HB;clear HI198;have HB := n0_;have HI198 := n1_;clear n0_ n1_;(try clear hb);(try clear hb2);(try clear hk);(try clear hi))|((with_reducible refine gate_callee (f := 50) rfl ?_);refine goesL_ (some 26) rfl rfl Tryd.func50 (by kernel_rfl) rfl #[.pointer (some ⟨gb198,0,none⟩),.string (t202.extract 0 ((ji4) : Int).toNat),.string (⟨#[48,88,57,97]⟩ : ByteArray)] rfl (by (try simp only [List.map_toArray,List.map_cons,List.map_nil]);first|done|(simp only [hji4];rfl)|rfl|(simp only [List.length_drop,List.length_take];rfl)) ?_;(with_reducible refine (spec_l1Cur_spoilt.calls gb198 l0 t206 t207 (t202.extract 0 ((ji4) : Int).toNat) (⟨#[48,88,57,97]⟩ : ByteArray) t208 t209 t210 w _ ?side1 ?side2 A9.out).mono ?_);(case side1 => repeat (first|(with_reducible first|exact HI198.out|apply IsS56.alloc|apply IsS56.drewN|apply IsS56.drew|apply IsS56.set_1|apply IsS56.set_2)|exact HI198.out));(case side2 => repeat (first|(with_reducible first|exact HB.out|apply lA|apply lN|apply lD|refine below_set ?_ (IsS56.ge HI198.out))|exact HB.out));rintro e w14 ⟨rfl,hi,hb,hk⟩;refine ⟨_,rfl,?_⟩;have n0_ := Aside0.mk (hb);have n1_ := Aside0.mk (hi);clear HB;clear HI198;have HB := n0_;have HI198 := n1_;clear n0_ n1_;(try clear hb);(try clear hb2);(try clear hk);(try clear hi)))
    go_ret2
    exact ⟨by first|rfl|(simp [errW_none,errW_some] <;> rfl)|(simp only [← hji4];first|rfl|(simp [errW_none,errW_some] <;> rfl))|(simp [*,errW_none,errW_some] <;> rfl),by repeat (first|(with_reducible first|exact HB.out|apply lA|apply lN|apply lD|refine below_set ?_ (IsS56.ge HI198.out))|exact HB.out)⟩
   ·rw [if_neg c8] at H
    have c8b0 : (t205 == 0) = false := beq_eq_false_iff_ne.mpr c8
    have c8b1 : (t205 != 0) = true := bne_iff_ne.mpr c8
    by_cases c15 : t205 = 1
    ·rw [if_pos c15] at H
     have c15b0 : (t205 == 1) = true := beq_iff_eq.mpr c15
     have c15b1 : (t205 != 1) = false := bne_eq_false_iff_eq.mpr c15
     clear c15
     obtain ⟨y211,hy211⟩ : ∃ y_ : List Int,y_ = (([0,5,2] : List Int)) := ⟨_,rfl⟩
     replace H : ((spec_l1Cur_among.f l0 t206 t207 y211).bind fun bt214 => (some (bt214.1,t202.extract 0 ((ji4) : Int).toNat))) = some (r1,r2) := by first|(rw [hy211];with_reducible exact H)|(have H2_ := (Option.bind_some _ _).symm.trans H;rw [hy211];with_reducible exact H2_)|(have H2_ := (Option.bind_some _ _).symm.trans H;with_reducible exact H2_)|with_reducible exact H|(rw [hy211];exact H)|exact H
     have Ny211 := Aside0.mk hy211
     clear hy211
     replace H := Option.bind_eq_some_iff.mp H
     obtain ⟨⟨t214,t215,t216⟩,A160,H⟩ := H
     replace H : (some (t214,t202.extract 0 ((ji4) : Int).toNat)) = some (r1,r2) := H
     have A16 := Aside0.mk A160
     clear A160
     simp only [Option.some.injEq,Prod.mk.injEq] at H
     obtain ⟨rfl,rfl⟩ := H
     go_enter Tryd.func23,Tryd.ntmps23
     go_wp2_with (first|((with_reducible refine gate_dst (N := 9) rfl ?_);refine box_event ?hg (N := 9) ?hd (cs := #[.slice A0 l0.length c0,.int .i64 0,.int .u64 0]) (t := 56) ?hr ?_;(case hd => rfl);(case hg => rfl);(case hr => first|(go_simp;done)|(go_simp;rfl));intro gb198 hg w17 hbox hb;have n0_ := Aside0.mk (below_step (by repeat (first|(with_reducible first|exact HB.out|apply lA|apply lN|apply lD)|exact HB.out)) hb);have n1_ := Aside0.mk ((show IsS56 w w17 gb198 l0 0 0 from ⟨_,_,hbox,(by rw [hg];exact (below_size (by repeat (first|(with_reducible first|exact HB.out|apply lA|apply lN|apply lD)|exact HB.out))) : w.heap.size ≤ gb198),HR0.out⟩));clear HB;have HB := n0_;have HI198 := n1_;clear n0_ n1_;clear hb hbox hg)|((with_reducible refine gate_callee (f := 48) rfl ?_);refine goesL_ (some 11) rfl rfl Tryd.func48 (by kernel_rfl) rfl #[.pointer (some ⟨gb198,0,none⟩)] rfl (by (try simp only [List.map_toArray,List.map_cons,List.map_nil]);first|done|rfl|(simp only [List.length_drop,List.length_take];rfl)) ?_;(with_reducible refine (spec_l1Cur_kind24.calls gb198 l0 0 0 t199 t200 t201 w _ ?side1 ?side2 A2.out).mono ?_);(case side1 => repeat (first|(with_reducible first|exact HI198.out|apply IsS56.alloc|apply IsS56.drewN|apply IsS56.drew|apply IsS56.set_1|apply IsS56.set_2)|exact HI198.out));(case side2 => repeat (first|(with_reducible first|exact HB.out|apply lA|apply lN|apply lD|refine below_set ?_ (IsS56.ge HI198.out))|exact HB.out));rintro e w18 ⟨rfl,hi,hb,hk⟩;refine ⟨_,rfl,?_⟩;have n0_ := Aside0.mk (hb);have n1_ := Aside0.mk (hi);clear HB;clear HI198;have HB := n0_;have HI198 := n1_;clear n0_ n1_;(try clear hb);(try clear hb2);(try clear hk);(try clear hi))|((with_reducible refine gate_callee (f := 47) rfl ?_);refine goesL_ (some 14) rfl rfl Tryd.func47 (by kernel_rfl) rfl #[.pointer (some ⟨gb198,0,none⟩),.int .i64 t199] rfl (by (try simp only [List.map_toArray,List.map_cons,List.map_nil]);first|done|rfl|(simp only [List.length_drop,List.length_take];rfl)) ?_;(with_reducible refine (spec_l1Cur_id24.calls k gb198 l0 t200 t201 t199 t202 t203 t204 w _ ?side1 ?side2 A3.out).mono ?_);(case side1 => repeat (first|(with_reducible first|exact HI198.out|apply IsS56.alloc|apply IsS56.drewN|apply IsS56.drew|apply IsS56.set_1|apply IsS56.set_2)|exact HI198.out));(case side2 => repeat (first|(with_reducible first|exact HB.out|apply lA|apply lN|apply lD|refine below_set ?_ (IsS56.ge HI198.out))|exact HB.out));rintro e w19 ⟨rfl,hi,hb,hk⟩;refine ⟨_,rfl,?_⟩;have n0_ := Aside0.mk (hb);have n1_ := Aside0.mk (hi);clear HB;clear HI198;have HB := n0_;have HI198 := n1_;clear n0_ n1_;(try clear hb);(try clear hb2);(try clear hk);(try clear hi))|((with_reducible refine gate_callee (f := 49) rfl ?_);refine goesL_ (some 21) rfl rfl Tryd.func49 (by kernel_rfl) rfl #[.pointer (some ⟨gb198,0,none⟩),.int .i64 12] rfl (by (try simp only [List.map_toArray,List.map_cons,List.map_nil]);first|done|rfl|(simp only [List.length_drop,List.length_take];rfl)) ?_;(with_reducible refine (spec_l1Cur_pick.calls gb198 l0 t203 t204 12 t205 t206 t207 w _ ?side1 ?side2 A7.out).mono ?_);(case side1 => repeat (first|(with_reducible first|exact HI198.out|apply IsS56.alloc|apply IsS56.drewN|apply IsS56.drew|apply IsS56.set_1|apply IsS56.set_2)|exact HI198.out));(case side2 => repeat (first|(with_reducible first|exact HB.out|apply lA|apply lN|apply lD|refine below_set ?_ (IsS56.ge HI198.out))|exact HB.out));rintro e w20 ⟨rfl,hi,hb,hk⟩;refine ⟨_,rfl,?_⟩;have n0_ := Aside0.mk (hb);have n1_ := Aside0.mk (hi);clear HB;clear HI198;have HB := n0_;have HI198 := n1_;clear n0_ n1_;(try clear hb);(try clear hb2);(try clear hk);(try clear hi))|((with_reducible refine gate_dst (N := 30) rfl ?_);refine Kd.R_lit (Kd.int .i64) _ 3 ?hg (N := 30) ?hd (xs := ([0,5,2] : List Int)) (inner := [.int .i64 0,.int .i64 5,.int .i64 2]) (ok := fun _ => True) (okp := fun _ => True) ?hr ?hp (fun _ hk => hk) trivial (Below.refl _ _) (Nat.le_refl _) (by simp) ?_;(case hd => rfl);(case hg => rfl);(case hr => first|(go_simp;done)|(go_simp;rfl));(case hp => exact (Reps.one (show Kd.M (Kd.int .i64) _ _ _ 0 [.int .i64 0] from rfl) (Reps.one (show Kd.M (Kd.int .i64) _ _ _ 5 [.int .i64 5] from rfl) (Reps.one (show Kd.M (Kd.int .i64) _ _ _ 2 [.int .i64 2] from rfl) (Reps.none _ _)))));intro v212 w21 ho22 hb hg_ hnew_;clear hg_ hnew_;(first|rw [← Ny211.out] at ho22|(simp only [Int.reduceToNat] at ho22;rw [← Ny211.out] at ho22));have n0_ := Aside0.mk (Kd.R_lower ho22 (below_size (by repeat (first|(with_reducible first|exact HB.out|apply lA|apply lN|apply lD|refine below_set ?_ (IsS56.ge HI198.out))|exact HB.out))));have n1_ := Aside0.mk (IsS56.below (by repeat (first|(with_reducible first|exact HI198.out|apply IsS56.alloc|apply IsS56.drewN|apply IsS56.drew|apply IsS56.set_1|apply IsS56.set_2)|exact HI198.out)) hb);have n2_ := Aside0.mk (below_step (by repeat (first|(with_reducible first|exact HB.out|apply lA|apply lN|apply lD|refine below_set ?_ (IsS56.ge HI198.out))|exact HB.out)) hb);clear HI198;clear HB;have HO213 := n0_;have HI198 := n1_;have HB := n2_;clear n0_ n1_ n2_;clear hb ho22;obtain ⟨Ao23,co23,eo23⟩ := Kd.R_slice HO213.out;subst eo23)|((with_reducible refine gate_callee (f := 52) rfl ?_);refine goesL_ (some 31) rfl rfl Tryd.func52 (by kernel_rfl) rfl #[.pointer (some ⟨gb198,0,none⟩),.slice Ao23 y211.length co23] rfl (by (try simp only [List.map_toArray,List.map_cons,List.map_nil]);first|done|rfl|(simp only [List.length_drop,List.length_take];rfl)) ?_;(with_reducible refine (spec_l1Cur_among.calls gb198 l0 t206 t207 _ _ y211 t214 t215 t216 w _ ?side1 ?side2 ?side3 ?side4 ?side5 A16.out).mono ?_);(case side1 => repeat (first|(with_reducible first|exact HI198.out|apply IsS56.alloc|apply IsS56.drewN|apply IsS56.drew|apply IsS56.set_1|apply IsS56.set_2)|exact HI198.out));(case side2 => repeat (first|(with_reducible first|exact HB.out|apply lA|apply lN|apply lD|refine below_set ?_ (IsS56.ge HI198.out))|exact HB.out));(case side3 => repeat (first|exact (Kd.R_reads' HO213.out).2.2|(with_reducible refine Kd.C_alloc ?_ _)|(with_reducible refine Kd.C_drewN ?_ _)|(with_reducible refine Kd.C_drew ?_)));(case side4 => exact (Kd.R_reads' HO213.out).2.1);(case side5 => exact far_slice (IsS56.own_ne HI198.out HO213.out (by decide)));rintro e w24 ⟨rfl,hi,hb,hk⟩;refine ⟨_,rfl,?_⟩;have n0_ := Aside0.mk (Kd.R_mono (Kd.R_keep (IsS56.apart (show IsS56 w _ gb198 l0 t206 t207 from by repeat (first|(with_reducible first|exact HI198.out|apply IsS56.alloc|apply IsS56.drewN|apply IsS56.drew|apply IsS56.set_1|apply IsS56.set_2)|exact HI198.out)) (by (with_reducible repeat (first|apply Kd.R_alloc|apply Kd.R_drewN|apply Kd.R_drew));exact HO213.out) (by decide)) hk (fun _ h => h.2)) (fun _ h => h.1));have n1_ := Aside0.mk (hb);have n2_ := Aside0.mk (hi);clear HO213;clear HB;clear HI198;have HO213 := n0_;have HB := n1_;have HI198 := n2_;clear n0_ n1_ n2_;(try clear hb);(try clear hb2);(try clear hk);(try clear hi)))
     go_ret2
     exact ⟨by first|rfl|(simp [errW_none,errW_some] <;> rfl)|(simp only [← hji4];first|rfl|(simp [errW_none,errW_some] <;> rfl))|(simp [*,errW_none,errW_some] <;> rfl),by repeat (first|(with_reducible first|exact HB.out|apply lA|apply lN|apply lD|refine below_set ?_ (IsS56.ge HI198.out))|exact HB.out)⟩
    ·rw [if_neg c15] at H
     have c15b0 : (t205 == 1) = false := beq_eq_false_iff_ne.mpr c15
     have c15b1 : (t205 != 1) = true := bne_iff_ne.mpr c15
     simp only [Option.some.injEq,Prod.mk.injEq] at H
     obtain ⟨rfl,rfl⟩ := H
     go_enter Tryd.func23,Tryd.ntmps23
     go_wp2_with (first|((with_reducible refine gate_dst (N := 9) rfl ?_);refine box_event ?hg (N := 9) ?hd (cs := #[.slice A0 l0.length c0,.int .i64 0,.int .u64 0]) (t := 56) ?hr ?_;(case hd => rfl);(case hg => rfl);(case hr => first|(go_simp;done)|(go_simp;rfl));intro gb198 hg w25 hbox hb;have n0_ := Aside0.mk (below_step (by repeat (first|(with_reducible first|exact HB.out|apply lA|apply lN|apply lD)|exact HB.out)) hb);have n1_ := Aside0.mk ((show IsS56 w w25 gb198 l0 0 0 from ⟨_,_,hbox,(by rw [hg];exact (below_size (by repeat (first|(with_reducible first|exact HB.out|apply lA|apply lN|apply lD)|exact HB.out))) : w.heap.size ≤ gb198),HR0.out⟩));clear HB;have HB := n0_;have HI198 := n1_;clear n0_ n1_;clear hb hbox hg)|((with_reducible refine gate_callee (f := 48) rfl ?_);refine goesL_ (some 11) rfl rfl Tryd.func48 (by kernel_rfl) rfl #[.pointer (some ⟨gb198,0,none⟩)] rfl (by (try simp only [List.map_toArray,List.map_cons,List.map_nil]);first|done|rfl|(simp only [List.length_drop,List.length_take];rfl)) ?_;(with_reducible refine (spec_l1Cur_kind24.calls gb198 l0 0 0 t199 t200 t201 w _ ?side1 ?side2 A2.out).mono ?_);(case side1 => repeat (first|(with_reducible first|exact HI198.out|apply IsS56.alloc|apply IsS56.drewN|apply IsS56.drew|apply IsS56.set_1|apply IsS56.set_2)|exact HI198.out));(case side2 => repeat (first|(with_reducible first|exact HB.out|apply lA|apply lN|apply lD|refine below_set ?_ (IsS56.ge HI198.out))|exact HB.out));rintro e w26 ⟨rfl,hi,hb,hk⟩;refine ⟨_,rfl,?_⟩;have n0_ := Aside0.mk (hb);have n1_ := Aside0.mk (hi);clear HB;clear HI198;have HB := n0_;have HI198 := n1_;clear n0_ n1_;(try clear hb);(try clear hb2);(try clear hk);(try clear hi))|((with_reducible refine gate_callee (f := 47) rfl ?_);refine goesL_ (some 14) rfl rfl Tryd.func47 (by kernel_rfl) rfl #[.pointer (some ⟨gb198,0,none⟩),.int .i64 t199] rfl (by (try simp only [List.map_toArray,List.map_cons,List.map_nil]);first|done|rfl|(simp only [List.length_drop,List.length_take];rfl)) ?_;(with_reducible refine (spec_l1Cur_id24.calls k gb198 l0 t200 t201 t199 t202 t203 t204 w _ ?side1 ?side2 A3.out).mono ?_);(case side1 => repeat (first|(with_reducible first|exact HI198.out|apply IsS56.alloc|apply IsS56.drewN|apply IsS56.drew|apply IsS56.set_1|apply IsS56.set_2)|exact HI198.out));(case side2 => repeat (first|(with_reducible first|exact HB.out|apply lA|apply lN|apply lD|refine below_set ?_ (IsS56.ge HI198.out))|exact HB.out));rintro e w27 ⟨rfl,hi,hb,hk⟩;refine ⟨_,rfl,?_⟩;have n0_ := Aside0.mk (hb);have n1_ := Aside0.mk (hi);clear HB;clear HI198;have HB := n0_;have HI198 := n1_;clear n0_ n1_;(try clear hb);(try clear hb2);(try clear hk);(try clear hi))|((with_reducible refine gate_callee (f := 49) rfl ?_);refine goesL_ (some 21) rfl rfl Tryd.func49 (by kernel_rfl) rfl #[.pointer (some ⟨gb198,0,none⟩),.int .i64 12] rfl (by (try simp only [List.map_toArray,List.map_cons,List.map_nil]);first|done|rfl|(simp only [List.length_drop,List.length_take];rfl)) ?_;(with_reducible refine (spec_l1Cur_pick.calls gb198 l0 t203 t204 12 t205 t206 t207 w _ ?side1 ?side2 A7.out).mono ?_);(case side1 => repeat (first|(with_reducible first|exact HI198.out|apply IsS56.alloc|apply IsS56.drewN|apply IsS56.drew|apply IsS56.set_1|apply IsS56.set_2)|exact HI198.out));(case side2 => repeat (first|(with_reducible first|exact HB.out|apply lA|apply lN|apply lD|refine below_set ?_ (IsS56.ge HI198.out))|exact HB.out));rintro e w28 ⟨rfl,hi,hb,hk⟩;refine ⟨_,rfl,?_⟩;have n0_ := Aside0.mk (hb);have n1_ := Aside0.mk (hi);clear HB;clear HI198;have HB := n0_;have HI198 := n1_;clear n0_ n1_;(try clear hb);(try clear hb2);(try clear hk);(try clear hi)))
     go_ret2
     exact ⟨by first|rfl|(simp [errW_none,errW_some] <;> rfl)|(simp only [← hji4];first|rfl|(simp [errW_none,errW_some] <;> rfl))|(simp [*,errW_none,errW_some] <;> rfl),by repeat (first|(with_reducible first|exact HB.out|apply lA|apply lN|apply lD|refine below_set ?_ (IsS56.ge HI198.out))|exact HB.out)⟩
  ·rw [if_neg c6] at H
   exact absurd H (by simp)
 ·rw [if_neg c5] at H
  exact absurd H (by simp)
def impl_WrittenForm.f (k : Nat) (a0 : ByteArray) : Option (ByteArray × Bool) := (impl_idKind.f k a0).bind fun t217 => (if t217 = 3 then (if 0 ≤ 4 then (if 4 ≤ (a0.size : Int) then (if (a0.extract 0 4).size + 1 ≤ 9223372036854775807 then (if ((a0.extract 0 4) ++ (⟨#[45]⟩ : ByteArray)).size + (a0.extract 4 a0.size).size ≤ 9223372036854775807 then (some (((a0.extract 0 4) ++ (⟨#[45]⟩ : ByteArray)) ++ (a0.extract 4 a0.size),true)) else (none)) else (none)) else (none)) else (none)) else (if t217 = 4 then (if 0 ≤ 4 then (if 4 ≤ (a0.size : Int) then (if (a0.extract 0 4).size + 1 ≤ 9223372036854775807 then (if 4 ≤ 8 then (if 8 ≤ (a0.size : Int) then (if ((a0.extract 0 4) ++ (⟨#[45]⟩ : ByteArray)).size + (a0.extract 4 8).size ≤ 9223372036854775807 then (if (((a0.extract 0 4) ++ (⟨#[45]⟩ : ByteArray)) ++ (a0.extract 4 8)).size + 1 ≤ 9223372036854775807 then (if 8 ≤ 12 then (if 12 ≤ (a0.size : Int) then (if ((((a0.extract 0 4) ++ (⟨#[45]⟩ : ByteArray)) ++ (a0.extract 4 8)) ++ (⟨#[45]⟩ : ByteArray)).size + (a0.extract 8 12).size ≤ 9223372036854775807 then (if (((((a0.extract 0 4) ++ (⟨#[45]⟩ : ByteArray)) ++ (a0.extract 4 8)) ++ (⟨#[45]⟩ : ByteArray)) ++ (a0.extract 8 12)).size + 1 ≤ 9223372036854775807 then (if ((((((a0.extract 0 4) ++ (⟨#[45]⟩ : ByteArray)) ++ (a0.extract 4 8)) ++ (⟨#[45]⟩ : ByteArray)) ++ (a0.extract 8 12)) ++ (⟨#[45]⟩ : ByteArray)).size + (a0.extract 12 a0.size).size ≤ 9223372036854775807 then (some (((((((a0.extract 0 4) ++ (⟨#[45]⟩ : ByteArray)) ++ (a0.extract 4 8)) ++ (⟨#[45]⟩ : ByteArray)) ++ (a0.extract 8 12)) ++ (⟨#[45]⟩ : ByteArray)) ++ (a0.extract 12 a0.size),true)) else (none)) else (none)) else (none)) else (none)) else (none)) else (none)) else (none)) else (none)) else (none)) else (none)) else (none)) else (none)) else (if t217 = 0 then (some ((⟨#[]⟩ : ByteArray),false)) else (some (a0,true)))))
theorem impl_WrittenForm.mono : ∀ a0 k,LeO (impl_WrittenForm.f k a0) (impl_WrittenForm.f (k + 1) a0) := by
 intro a0 k
 unfold impl_WrittenForm.f
 repeat' first
   | (with_reducible exact impl_idKind.mono _ _)
   | (with_reducible exact LeO.refl _)
   | (with_reducible exact LeO.none _)
   | (with_reducible refine LeO.ite ?_ ?_)
   | (with_reducible refine LeO.bind ?_ (fun _ => ?_))
   | exact impl_idKind.mono _ _
   | exact LeO.none _
   | refine LeO.ite ?_ ?_
   | refine LeO.bind ?_ (fun _ => ?_)
set_option maxHeartbeats 8000000 in
set_option maxRecDepth 100000 in
theorem impl_WrittenForm.calls (k : Nat) (a0 : ByteArray) (r1 : ByteArray) (r2 : Bool) (w : World) (h : impl_WrittenForm.f k a0 = some (r1,r2)) :
  Calls Tryd.prog 24 #[.string a0] w fun e w' => e = .returned (.tuple #[.string r1,.bool r2]) ∧ Drawn0 w w' := by
 have H : ((impl_idKind.f k a0).bind fun t217 => (if t217 = 3 then (if 0 ≤ 4 then (if 4 ≤ (a0.size : Int) then (if (a0.extract 0 4).size + 1 ≤ 9223372036854775807 then (if ((a0.extract 0 4) ++ (⟨#[45]⟩ : ByteArray)).size + (a0.extract 4 a0.size).size ≤ 9223372036854775807 then (some (((a0.extract 0 4) ++ (⟨#[45]⟩ : ByteArray)) ++ (a0.extract 4 a0.size),true)) else (none)) else (none)) else (none)) else (none)) else (if t217 = 4 then (if 0 ≤ 4 then (if 4 ≤ (a0.size : Int) then (if (a0.extract 0 4).size + 1 ≤ 9223372036854775807 then (if 4 ≤ 8 then (if 8 ≤ (a0.size : Int) then (if ((a0.extract 0 4) ++ (⟨#[45]⟩ : ByteArray)).size + (a0.extract 4 8).size ≤ 9223372036854775807 then (if (((a0.extract 0 4) ++ (⟨#[45]⟩ : ByteArray)) ++ (a0.extract 4 8)).size + 1 ≤ 9223372036854775807 then (if 8 ≤ 12 then (if 12 ≤ (a0.size : Int) then (if ((((a0.extract 0 4) ++ (⟨#[45]⟩ : ByteArray)) ++ (a0.extract 4 8)) ++ (⟨#[45]⟩ : ByteArray)).size + (a0.extract 8 12).size ≤ 9223372036854775807 then (if (((((a0.extract 0 4) ++ (⟨#[45]⟩ : ByteArray)) ++ (a0.extract 4 8)) ++ (⟨#[45]⟩ : ByteArray)) ++ (a0.extract 8 12)).size + 1 ≤ 9223372036854775807 then (if ((((((a0.extract 0 4) ++ (⟨#[45]⟩ : ByteArray)) ++ (a0.extract 4 8)) ++ (⟨#[45]⟩ : ByteArray)) ++ (a0.extract 8 12)) ++ (⟨#[45]⟩ : ByteArray)).size + (a0.extract 12 a0.size).size ≤ 9223372036854775807 then (some (((((((a0.extract 0 4) ++ (⟨#[45]⟩ : ByteArray)) ++ (a0.extract 4 8)) ++ (⟨#[45]⟩ : ByteArray)) ++ (a0.extract 8 12)) ++ (⟨#[45]⟩ : ByteArray)) ++ (a0.extract 12 a0.size),true)) else (none)) else (none)) else (none)) else (none)) else (none)) else (none)) else (none)) else (none)) else (none)) else (none)) else (none)) else (none)) else (if t217 = 0 then (some ((⟨#[]⟩ : ByteArray),false)) else (some (a0,true)))))) = some (r1,r2) := h
 clear h
 replace H := Option.bind_eq_some_iff.mp H
 obtain ⟨t217,A20,H⟩ := H
 replace H : (if t217 = 3 then (if 0 ≤ 4 then (if 4 ≤ (a0.size : Int) then (if (a0.extract 0 4).size + 1 ≤ 9223372036854775807 then (if ((a0.extract 0 4) ++ (⟨#[45]⟩ : ByteArray)).size + (a0.extract 4 a0.size).size ≤ 9223372036854775807 then (some (((a0.extract 0 4) ++ (⟨#[45]⟩ : ByteArray)) ++ (a0.extract 4 a0.size),true)) else (none)) else (none)) else (none)) else (none)) else (if t217 = 4 then (if 0 ≤ 4 then (if 4 ≤ (a0.size : Int) then (if (a0.extract 0 4).size + 1 ≤ 9223372036854775807 then (if 4 ≤ 8 then (if 8 ≤ (a0.size : Int) then (if ((a0.extract 0 4) ++ (⟨#[45]⟩ : ByteArray)).size + (a0.extract 4 8).size ≤ 9223372036854775807 then (if (((a0.extract 0 4) ++ (⟨#[45]⟩ : ByteArray)) ++ (a0.extract 4 8)).size + 1 ≤ 9223372036854775807 then (if 8 ≤ 12 then (if 12 ≤ (a0.size : Int) then (if ((((a0.extract 0 4) ++ (⟨#[45]⟩ : ByteArray)) ++ (a0.extract 4 8)) ++ (⟨#[45]⟩ : ByteArray)).size + (a0.extract 8 12).size ≤ 9223372036854775807 then (if (((((a0.extract 0 4) ++ (⟨#[45]⟩ : ByteArray)) ++ (a0.extract 4 8)) ++ (⟨#[45]⟩ : ByteArray)) ++ (a0.extract 8 12)).size + 1 ≤ 9223372036854775807 then (if ((((((a0.extract 0 4) ++ (⟨#[45]⟩ : ByteArray)) ++ (a0.extract 4 8)) ++ (⟨#[45]⟩ : ByteArray)) ++ (a0.extract 8 12)) ++ (⟨#[45]⟩ : ByteArray)).size + (a0.extract 12 a0.size).size ≤ 9223372036854775807 then (some (((((((a0.extract 0 4) ++ (⟨#[45]⟩ : ByteArray)) ++ (a0.extract 4 8)) ++ (⟨#[45]⟩ : ByteArray)) ++ (a0.extract 8 12)) ++ (⟨#[45]⟩ : ByteArray)) ++ (a0.extract 12 a0.size),true)) else (none)) else (none)) else (none)) else (none)) else (none)) else (none)) else (none)) else (none)) else (none)) else (none)) else (none)) else (none)) else (if t217 = 0 then (some ((⟨#[]⟩ : ByteArray),false)) else (some (a0,true))))) = some (r1,r2) := H
 have A2 := Aside0.mk A20
 clear A20
 by_cases c3 : t217 = 3
 ·rw [if_pos c3] at H
  have c3b0 : (t217 == 3) = true := beq_iff_eq.mpr c3
  have c3b1 : (t217 != 3) = false := bne_eq_false_iff_eq.mpr c3
  clear c3
  by_cases c4 : 0 ≤ 4
  ·rw [if_pos c4] at H
   have c4b0 := eq_true c4
   have c4b1 : decide (0 ≤ 4) = true := decide_eq_true c4
   clear c4
   by_cases c5 : 4 ≤ (a0.size : Int)
   ·rw [if_pos c5] at H
    have c5b0 := eq_true c5
    have c5b1 : decide (4 ≤ (a0.size : Int)) = true := decide_eq_true c5
    clear c5
    by_cases c6 : (a0.extract 0 4).size + 1 ≤ 9223372036854775807
    ·rw [if_pos c6] at H
     have c6b0 := eq_true c6
     have c6b1 : decide ((a0.extract 0 4).size + 1 ≤ 9223372036854775807) = true := decide_eq_true c6
     try have c6b3 : (9223372036854775807 < min 4 a0.size + 1) = False := eq_false (by have h_ := c6;simp only [ByteArray.size_append,ByteArray.size_extract] at h_;omega)
     try have c6b2 : (9223372036854775807 < (a0.extract 0 4).size + 1) = False := eq_false (Nat.not_lt.2 c6)
     have c7b0 := eq_true (of_decide_eq_true (by first|(with_reducible assumption)|assumption) : 4 ≤ (a0.size : Int))
     by_cases c8 : ((a0.extract 0 4) ++ (⟨#[45]⟩ : ByteArray)).size + (a0.extract 4 a0.size).size ≤ 9223372036854775807
     ·rw [if_pos c8] at H
      have c8b0 := eq_true c8
      have c8b1 : decide (((a0.extract 0 4) ++ (⟨#[45]⟩ : ByteArray)).size + (a0.extract 4 a0.size).size ≤ 9223372036854775807) = true := decide_eq_true c8
      try have c8b3 : (9223372036854775807 < (a0.extract 0 4).size + 1 + (a0.size - 4)) = False := eq_false (by have h_ := c8;simp only [ByteArray.size_append,ByteArray.size_extract] at h_;have hs0_ : (⟨#[45]⟩ : ByteArray).size = 1 := rfl;omega)
      try have c8b4 : (9223372036854775807 < min 4 a0.size + 1 + (a0.size - 4)) = False := eq_false (by have h_ := c8;simp only [ByteArray.size_append,ByteArray.size_extract] at h_;have hs0_ : (⟨#[45]⟩ : ByteArray).size = 1 := rfl;omega)
      try have c8b2 : (9223372036854775807 < ((a0.extract 0 4) ++ (⟨#[45]⟩ : ByteArray)).size + (a0.extract 4 a0.size).size) = False := eq_false (Nat.not_lt.2 c8)
      simp only [Option.some.injEq,Prod.mk.injEq] at H
      obtain ⟨rfl,rfl⟩ := H
      go_enter Tryd.func24,Tryd.ntmps24
      go_wp2_with (first|(go_at_call 45;(with_reducible refine (impl_idKind.calls k a0 t217 _ A2.out).mono ?_);rintro e w' ⟨rfl,⟨nd,rfl⟩⟩;(try first|exact ⟨rfl,_,World.drewN_drewN _ _ _⟩|exact ⟨rfl,_,Eq.trans (World.drewN_drewN _ _ _) (congrArg (World.drewN _) (Nat.add_assoc _ _ _))⟩)))
      repeat (go_quiet (first|(go_at_call 45;(with_reducible refine (impl_idKind.calls k a0 t217 _ A2.out).mono ?_);rintro e w' ⟨rfl,⟨nd,rfl⟩⟩;(try first|exact ⟨rfl,_,World.drewN_drewN _ _ _⟩|exact ⟨rfl,_,Eq.trans (World.drewN_drewN _ _ _) (congrArg (World.drewN _) (Nat.add_assoc _ _ _))⟩)));try go_wp2_with (first|(go_at_call 45;(with_reducible refine (impl_idKind.calls k a0 t217 _ A2.out).mono ?_);rintro e w' ⟨rfl,⟨nd,rfl⟩⟩;(try first|exact ⟨rfl,_,World.drewN_drewN _ _ _⟩|exact ⟨rfl,_,Eq.trans (World.drewN_drewN _ _ _) (congrArg (World.drewN _) (Nat.add_assoc _ _ _))⟩))))
      go_ret2
      exact ⟨by first|rfl|(simp;done)|(simp [my_isEmpty];done)|(simp [*];done),by repeat (first|exact Drawn0.refl _|apply Drawn0.step)⟩
     ·rw [if_neg c8] at H
      exact absurd H (by simp)
    ·rw [if_neg c6] at H
     exact absurd H (by simp)
   ·rw [if_neg c5] at H
    exact absurd H (by simp)
  ·rw [if_neg c4] at H
   exact absurd H (by simp)
 ·rw [if_neg c3] at H
  have c3b0 : (t217 == 3) = false := beq_eq_false_iff_ne.mpr c3
  have c3b1 : (t217 != 3) = true := bne_iff_ne.mpr c3
  by_cases c9 : t217 = 4
  ·rw [if_pos c9] at H
   have c9b0 : (t217 == 4) = true := beq_iff_eq.mpr c9
   have c9b1 : (t217 != 4) = false := bne_eq_false_iff_eq.mpr c9
   clear c9
   by_cases c10 : 0 ≤ 4
   ·rw [if_pos c10] at H
    have c10b0 := eq_true c10
    have c10b1 : decide (0 ≤ 4) = true := decide_eq_true c10
    clear c10
    by_cases c11 : 4 ≤ (a0.size : Int)
    ·rw [if_pos c11] at H
     have c11b0 := eq_true c11
     have c11b1 : decide (4 ≤ (a0.size : Int)) = true := decide_eq_true c11
     clear c11
     by_cases c12 : (a0.extract 0 4).size + 1 ≤ 9223372036854775807
     ·rw [if_pos c12] at H
      have c12b0 := eq_true c12
      have c12b1 : decide ((a0.extract 0 4).size + 1 ≤ 9223372036854775807) = true := decide_eq_true c12
      try have c12b3 : (9223372036854775807 < min 4 a0.size + 1) = False := eq_false (by have h_ := c12;simp only [ByteArray.size_append,ByteArray.size_extract] at h_;omega)
      try have c12b2 : (9223372036854775807 < (a0.extract 0 4).size + 1) = False := eq_false (Nat.not_lt.2 c12)
      by_cases c13 : 4 ≤ 8
      ·rw [if_pos c13] at H
       have c13b0 := eq_true c13
       have c13b1 : decide (4 ≤ 8) = true := decide_eq_true c13
       clear c13
       by_cases c14 : 8 ≤ (a0.size : Int)
       ·rw [if_pos c14] at H
        have c14b0 := eq_true c14
        have c14b1 : decide (8 ≤ (a0.size : Int)) = true := decide_eq_true c14
        clear c14
        by_cases c15 : ((a0.extract 0 4) ++ (⟨#[45]⟩ : ByteArray)).size + (a0.extract 4 8).size ≤ 9223372036854775807
        ·rw [if_pos c15] at H
         have c15b0 := eq_true c15
         have c15b1 : decide (((a0.extract 0 4) ++ (⟨#[45]⟩ : ByteArray)).size + (a0.extract 4 8).size ≤ 9223372036854775807) = true := decide_eq_true c15
         try have c15b3 : (9223372036854775807 < (a0.extract 0 4).size + 1 + (a0.extract 4 8).size) = False := eq_false (by have h_ := c15;simp only [ByteArray.size_append,ByteArray.size_extract] at h_;have hs0_ : (⟨#[45]⟩ : ByteArray).size = 1 := rfl;omega)
         try have c15b4 : (9223372036854775807 < min 4 a0.size + 1 + (min 8 a0.size - 4)) = False := eq_false (by have h_ := c15;simp only [ByteArray.size_append,ByteArray.size_extract] at h_;have hs0_ : (⟨#[45]⟩ : ByteArray).size = 1 := rfl;omega)
         try have c15b2 : (9223372036854775807 < ((a0.extract 0 4) ++ (⟨#[45]⟩ : ByteArray)).size + (a0.extract 4 8).size) = False := eq_false (Nat.not_lt.2 c15)
         by_cases c16 : (((a0.extract 0 4) ++ (⟨#[45]⟩ : ByteArray)) ++ (a0.extract 4 8)).size + 1 ≤ 9223372036854775807
         ·rw [if_pos c16] at H
          have c16b0 := eq_true c16
          have c16b1 : decide ((((a0.extract 0 4) ++ (⟨#[45]⟩ : ByteArray)) ++ (a0.extract 4 8)).size + 1 ≤ 9223372036854775807) = true := decide_eq_true c16
          try have c16b3 : (9223372036854775807 < (a0.extract 0 4).size + 1 + (a0.extract 4 8).size + 1) = False := eq_false (by have h_ := c16;simp only [ByteArray.size_append,ByteArray.size_extract] at h_;have hs0_ : (⟨#[45]⟩ : ByteArray).size = 1 := rfl;omega)
          try have c16b4 : (9223372036854775807 < min 4 a0.size + 1 + (min 8 a0.size - 4) + 1) = False := eq_false (by have h_ := c16;simp only [ByteArray.size_append,ByteArray.size_extract] at h_;have hs0_ : (⟨#[45]⟩ : ByteArray).size = 1 := rfl;omega)
          try have c16b2 : (9223372036854775807 < (((a0.extract 0 4) ++ (⟨#[45]⟩ : ByteArray)) ++ (a0.extract 4 8)).size + 1) = False := eq_false (Nat.not_lt.2 c16)
          by_cases c17 : 8 ≤ 12
          ·rw [if_pos c17] at H
           have c17b0 := eq_true c17
           have c17b1 : decide (8 ≤ 12) = true := decide_eq_true c17
           clear c17
           by_cases c18 : 12 ≤ (a0.size : Int)
           ·rw [if_pos c18] at H
            have c18b0 := eq_true c18
            have c18b1 : decide (12 ≤ (a0.size : Int)) = true := decide_eq_true c18
            clear c18
            by_cases c19 : ((((a0.extract 0 4) ++ (⟨#[45]⟩ : ByteArray)) ++ (a0.extract 4 8)) ++ (⟨#[45]⟩ : ByteArray)).size + (a0.extract 8 12).size ≤ 9223372036854775807
            ·rw [if_pos c19] at H
             have c19b0 := eq_true c19
             have c19b1 : decide (((((a0.extract 0 4) ++ (⟨#[45]⟩ : ByteArray)) ++ (a0.extract 4 8)) ++ (⟨#[45]⟩ : ByteArray)).size + (a0.extract 8 12).size ≤ 9223372036854775807) = true := decide_eq_true c19
             try have c19b3 : (9223372036854775807 < (a0.extract 0 4).size + 1 + (a0.extract 4 8).size + 1 + (a0.extract 8 12).size) = False := eq_false (by have h_ := c19;simp only [ByteArray.size_append,ByteArray.size_extract] at h_;have hs0_ : (⟨#[45]⟩ : ByteArray).size = 1 := rfl;omega)
             try have c19b4 : (9223372036854775807 < min 4 a0.size + 1 + (min 8 a0.size - 4) + 1 + (min 12 a0.size - 8)) = False := eq_false (by have h_ := c19;simp only [ByteArray.size_append,ByteArray.size_extract] at h_;have hs0_ : (⟨#[45]⟩ : ByteArray).size = 1 := rfl;omega)
             try have c19b2 : (9223372036854775807 < ((((a0.extract 0 4) ++ (⟨#[45]⟩ : ByteArray)) ++ (a0.extract 4 8)) ++ (⟨#[45]⟩ : ByteArray)).size + (a0.extract 8 12).size) = False := eq_false (Nat.not_lt.2 c19)
             by_cases c20 : (((((a0.extract 0 4) ++ (⟨#[45]⟩ : ByteArray)) ++ (a0.extract 4 8)) ++ (⟨#[45]⟩ : ByteArray)) ++ (a0.extract 8 12)).size + 1 ≤ 9223372036854775807
             ·rw [if_pos c20] at H
              have c20b0 := eq_true c20
              have c20b1 : decide ((((((a0.extract 0 4) ++ (⟨#[45]⟩ : ByteArray)) ++ (a0.extract 4 8)) ++ (⟨#[45]⟩ : ByteArray)) ++ (a0.extract 8 12)).size + 1 ≤ 9223372036854775807) = true := decide_eq_true c20
              try have c20b3 : (9223372036854775807 < (a0.extract 0 4).size + 1 + (a0.extract 4 8).size + 1 + (a0.extract 8 12).size + 1) = False := eq_false (by have h_ := c20;simp only [ByteArray.size_append,ByteArray.size_extract] at h_;have hs0_ : (⟨#[45]⟩ : ByteArray).size = 1 := rfl;omega)
              try have c20b4 : (9223372036854775807 < min 4 a0.size + 1 + (min 8 a0.size - 4) + 1 + (min 12 a0.size - 8) + 1) = False := eq_false (by have h_ := c20;simp only [ByteArray.size_append,ByteArray.size_extract] at h_;have hs0_ : (⟨#[45]⟩ : ByteArray).size = 1 := rfl;omega)
              try have c20b2 : (9223372036854775807 < (((((a0.extract 0 4) ++ (⟨#[45]⟩ : ByteArray)) ++ (a0.extract 4 8)) ++ (⟨#[45]⟩ : ByteArray)) ++ (a0.extract 8 12)).size + 1) = False := eq_false (Nat.not_lt.2 c20)
              have c21b0 := eq_true (of_decide_eq_true (by first|(with_reducible assumption)|assumption) : 12 ≤ (a0.size : Int))
              by_cases c22 : ((((((a0.extract 0 4) ++ (⟨#[45]⟩ : ByteArray)) ++ (a0.extract 4 8)) ++ (⟨#[45]⟩ : ByteArray)) ++ (a0.extract 8 12)) ++ (⟨#[45]⟩ : ByteArray)).size + (a0.extract 12 a0.size).size ≤ 9223372036854775807
              ·rw [if_pos c22] at H
               have c22b0 := eq_true c22
               have c22b1 : decide (((((((a0.extract 0 4) ++ (⟨#[45]⟩ : ByteArray)) ++ (a0.extract 4 8)) ++ (⟨#[45]⟩ : ByteArray)) ++ (a0.extract 8 12)) ++ (⟨#[45]⟩ : ByteArray)).size + (a0.extract 12 a0.size).size ≤ 9223372036854775807) = true := decide_eq_true c22
               try have c22b3 : (9223372036854775807 < (a0.extract 0 4).size + 1 + (a0.extract 4 8).size + 1 + (a0.extract 8 12).size + 1 + (a0.size - 12)) = False := eq_false (by have h_ := c22;simp only [ByteArray.size_append,ByteArray.size_extract] at h_;have hs0_ : (⟨#[45]⟩ : ByteArray).size = 1 := rfl;omega)
               try have c22b4 : (9223372036854775807 < min 4 a0.size + 1 + (min 8 a0.size - 4) + 1 + (min 12 a0.size - 8) + 1 + (a0.size - 12)) = False := eq_false (by have h_ := c22;simp only [ByteArray.size_append,ByteArray.size_extract] at h_;have hs0_ : (⟨#[45]⟩ : ByteArray).size = 1 := rfl;omega)
               try have c22b2 : (9223372036854775807 < ((((((a0.extract 0 4) ++ (⟨#[45]⟩ : ByteArray)) ++ (a0.extract 4 8)) ++ (⟨#[45]⟩ : ByteArray)) ++ (a0.extract 8 12)) ++ (⟨#[45]⟩ : ByteArray)).size + (a0.extract 12 a0.size).size) = False := eq_false (Nat.not_lt.2 c22)
               simp only [Option.some.injEq,Prod.mk.injEq] at H
               obtain ⟨rfl,rfl⟩ := H
               go_enter Tryd.func24,Tryd.ntmps24
               go_wp2_with (first|(go_at_call 45;(with_reducible refine (impl_idKind.calls k a0 t217 _ A2.out).mono ?_);rintro e w' ⟨rfl,⟨nd,rfl⟩⟩;(try first|exact ⟨rfl,_,World.drewN_drewN _ _ _⟩|exact ⟨rfl,_,Eq.trans (World.drewN_drewN _ _ _) (congrArg (World.drewN _) (Nat.add_assoc _ _ _))⟩)))
               repeat (go_quiet (first|(go_at_call 45;(with_reducible refine (impl_idKind.calls k a0 t217 _ A2.out).mono ?_);rintro e w' ⟨rfl,⟨nd,rfl⟩⟩;(try first|exact ⟨rfl,_,World.drewN_drewN _ _ _⟩|exact ⟨rfl,_,Eq.trans (World.drewN_drewN _ _ _) (congrArg (World.drewN _) (Nat.add_assoc _ _ _))⟩)));try go_wp2_with (first|(go_at_call 45;(with_reducible refine (impl_idKind.calls k a0 t217 _ A2.out).mono ?_);rintro e w' ⟨rfl,⟨nd,rfl⟩⟩;(try first|exact ⟨rfl,_,World.drewN_drewN _ _ _⟩|exact ⟨rfl,_,Eq.trans (World.drewN_drewN _ _ _) (congrArg (World.drewN _) (Nat.add_assoc _ _ _))⟩))))
               go_ret2
               exact ⟨by first|rfl|(simp;done)|(simp [my_isEmpty];done)|(simp [*];done),by repeat (first|exact Drawn0.refl _|apply Drawn0.step)⟩
              ·rw [if_neg c22] at H
               exact absurd H (by simp)
             ·rw [if_neg c20] at H
              exact absurd H (by simp)
            ·rw [if_neg c19] at H
             exact absurd H (by simp)
           ·rw [if_neg c18] at H
            exact absurd H (by simp)
          ·rw [if_neg c17] at H
           exact absurd H (by simp)
         ·rw [if_neg c16] at H
          exact absurd H (by simp)
        ·rw [if_neg c15] at H
         exact absurd H (by simp)
       ·rw [if_neg c14] at H
        exact absurd H (by simp)
      ·rw [if_neg c13] at H
       exact absurd H (by simp)
     ·rw [if_neg c12] at H
      exact absurd H (by simp)
    ·rw [if_neg c11] at H
     exact absurd H (by simp)
   ·rw [if_neg c10] at H
    exact absurd H (by simp)
  ·rw [if_neg c9] at H
   have c9b0 : (t217 == 4) = false := beq_eq_false_iff_ne.mpr c9
   have c9b1 : (t217 != 4) = true := bne_iff_ne.mpr c9
   by_cases c23 : t217 = 0
   ·rw [if_pos c23] at H
    have c23b0 : (t217 == 0) = true := beq_iff_eq.mpr c23
    have c23b1 : (t217 != 0) = false := bne_eq_false_iff_eq.mpr c23
    clear c23
    simp only [Option.some.injEq,Prod.mk.injEq] at H
    obtain ⟨rfl,rfl⟩ := H
    go_enter Tryd.func24,Tryd.ntmps24
    go_wp2_with (first|(go_at_call 45;(with_reducible refine (impl_idKind.calls k a0 t217 _ A2.out).mono ?_);rintro e w' ⟨rfl,⟨nd,rfl⟩⟩;(try first|exact ⟨rfl,_,World.drewN_drewN _ _ _⟩|exact ⟨rfl,_,Eq.trans (World.drewN_drewN _ _ _) (congrArg (World.drewN _) (Nat.add_assoc _ _ _))⟩)))
    repeat (go_quiet (first|(go_at_call 45;(with_reducible refine (impl_idKind.calls k a0 t217 _ A2.out).mono ?_);rintro e w' ⟨rfl,⟨nd,rfl⟩⟩;(try first|exact ⟨rfl,_,World.drewN_drewN _ _ _⟩|exact ⟨rfl,_,Eq.trans (World.drewN_drewN _ _ _) (congrArg (World.drewN _) (Nat.add_assoc _ _ _))⟩)));try go_wp2_with (first|(go_at_call 45;(with_reducible refine (impl_idKind.calls k a0 t217 _ A2.out).mono ?_);rintro e w' ⟨rfl,⟨nd,rfl⟩⟩;(try first|exact ⟨rfl,_,World.drewN_drewN _ _ _⟩|exact ⟨rfl,_,Eq.trans (World.drewN_drewN _ _ _) (congrArg (World.drewN _) (Nat.add_assoc _ _ _))⟩))))
    go_ret2
    exact ⟨by first|rfl|(simp;done)|(simp [my_isEmpty];done)|(simp [*];done),by repeat (first|exact Drawn0.refl _|apply Drawn0.step)⟩
   ·rw [if_neg c23] at H
    have c23b0 : (t217 == 0) = false := beq_eq_false_iff_ne.mpr c23
    have c23b1 : (t217 != 0) = true := bne_iff_ne.mpr c23
    simp only [Option.some.injEq,Prod.mk.injEq] at H
    obtain ⟨rfl,rfl⟩ := H
    go_enter Tryd.func24,Tryd.ntmps24
    go_wp2_with (first|(go_at_call 45;(with_reducible refine (impl_idKind.calls k a0 t217 _ A2.out).mono ?_);rintro e w' ⟨rfl,⟨nd,rfl⟩⟩;(try first|exact ⟨rfl,_,World.drewN_drewN _ _ _⟩|exact ⟨rfl,_,Eq.trans (World.drewN_drewN _ _ _) (congrArg (World.drewN _) (Nat.add_assoc _ _ _))⟩)))
    repeat (go_quiet (first|(go_at_call 45;(with_reducible refine (impl_idKind.calls k a0 t217 _ A2.out).mono ?_);rintro e w' ⟨rfl,⟨nd,rfl⟩⟩;(try first|exact ⟨rfl,_,World.drewN_drewN _ _ _⟩|exact ⟨rfl,_,Eq.trans (World.drewN_drewN _ _ _) (congrArg (World.drewN _) (Nat.add_assoc _ _ _))⟩)));try go_wp2_with (first|(go_at_call 45;(with_reducible refine (impl_idKind.calls k a0 t217 _ A2.out).mono ?_);rintro e w' ⟨rfl,⟨nd,rfl⟩⟩;(try first|exact ⟨rfl,_,World.drewN_drewN _ _ _⟩|exact ⟨rfl,_,Eq.trans (World.drewN_drewN _ _ _) (congrArg (World.drewN _) (Nat.add_assoc _ _ _))⟩))))
    go_ret2
    exact ⟨by first|rfl|(simp;done)|(simp [my_isEmpty];done)|(simp [*];done),by repeat (first|exact Drawn0.refl _|apply Drawn0.step)⟩
def dgtB (j : Nat) : Int := if j < 10 then 48 + (j : Int) else 88
def putAt (s : ByteArray) (p j : Nat) : ByteArray := strOfNums ((bytesOf s).set p (dgtB j))
def impl_RepairDigit.l0 : Nat → Int → ByteArray → Nat → Nat → ByteArray → Int → Option (ByteArray × Bool)
 | 0,_,_,_,_,_,_ => none
 | k + 1,a0,s,p,j,fd,c => if j < 11 then (impl_isIdentifier.f k a0 (putAt s p j)).bind fun t => (if t = true then impl_RepairDigit.l0 k a0 s p (j + 1) (putAt s p j) (c + 1) else impl_RepairDigit.l0 k a0 s p (j + 1) fd c) else if c = 1 then some (fd,true) else some ((⟨#[]⟩ : ByteArray),false)
def impl_RepairDigit.f (k : Nat) (a0 : Int) (a1 : ByteArray) (a2 : Int) : Option (ByteArray × Bool) :=
 if a1.size ≤ 140737488351232 then ((impl_isIdKind.f a0).bind fun b => if b = true then ((impl_isIdText.f k a0 a1).bind fun t => (if t = true then (if 0 ≤ a2 ∧ a2 ≤ (a1.size : Int) - 1 then impl_RepairDigit.l0 k a0 a1 a2.toNat 0 (⟨#[]⟩ : ByteArray) 0 else some ((⟨#[]⟩ : ByteArray),false)) else some ((⟨#[]⟩ : ByteArray),false))) else some ((⟨#[]⟩ : ByteArray),false)) else none
theorem impl_RepairDigit.mono_l : ∀ k,(∀ y0 y1 y2 y3 y4 y5,LeO (impl_RepairDigit.l0 k y0 y1 y2 y3 y4 y5) (impl_RepairDigit.l0 (k + 1) y0 y1 y2 y3 y4 y5))
 | 0 => fun _ _ _ _ _ _ r h => by simp [impl_RepairDigit.l0] at h
 | k + 1 => by
  have ih0 := impl_RepairDigit.mono_l k
  intro y0 y1 y2 y3 y4 y5
  unfold impl_RepairDigit.l0
  repeat' first
   | (with_reducible exact ih0 _ _ _ _ _ _)
   | (with_reducible exact impl_isIdentifier.mono _ _ _)
   | (with_reducible exact LeO.refl _)
   | (with_reducible exact LeO.none _)
   | (with_reducible refine LeO.ite ?_ ?_)
   | (with_reducible refine LeO.bind ?_ (fun _ => ?_))
theorem impl_RepairDigit.mono : ∀ a0 a1 a2 k,LeO (impl_RepairDigit.f k a0 a1 a2) (impl_RepairDigit.f (k + 1) a0 a1 a2) := by
 intro a0 a1 a2 k
 have ih0 := impl_RepairDigit.mono_l k
 unfold impl_RepairDigit.f
 repeat' first
   | (with_reducible exact ih0 _ _ _ _ _ _)
   | (with_reducible exact impl_isIdText.mono _ _ _)
   | (with_reducible exact LeO.refl _)
   | (with_reducible exact LeO.none _)
   | (with_reducible refine LeO.ite ?_ ?_)
   | (with_reducible refine LeO.bind ?_ (fun _ => ?_))
theorem dgtB_range (j : Nat) (h : j < 11) : 0 ≤ dgtB j ∧ dgtB j ≤ 255 := by
 unfold dgtB
 split <;> omega
theorem dgt_arr (j : Nat) (hj : j < 11) : (#[.int .u8 48,.int .u8 49,.int .u8 50,.int .u8 51,.int .u8 52,.int .u8 53,.int .u8 54,.int .u8 55,.int .u8 56,.int .u8 57,.int .u8 88] : Array Value)[j]? = some (.int .u8 (dgtB j)) := by
 have : j = 0 ∨ j = 1 ∨ j = 2 ∨ j = 3 ∨ j = 4 ∨ j = 5 ∨ j = 6 ∨ j = 7 ∨ j = 8 ∨ j = 9 ∨ j = 10 := by omega
 rcases this with rfl|rfl|rfl|rfl|rfl|rfl|rfl|rfl|rfl|rfl|rfl <;> rfl
set_option maxHeartbeats 8000000 in
set_option maxRecDepth 100000 in
theorem impl_RepairDigit.calls (k : Nat) (a0 : Int) (a1 : ByteArray) (a2 : Int) (r1 : ByteArray) (r2 : Bool) (w : World) (h : impl_RepairDigit.f k a0 a1 a2 = some (r1,r2)) :
  Calls Tryd.prog 25 #[.int .i64 a0,.string a1,.int .i64 a2] w fun e w' => e = .returned (.tuple #[.string r1,.bool r2]) ∧ Below w.heap.size w w' := by
 have HB := Aside0.mk (Below.refl w.heap.size w)
 unfold impl_RepairDigit.f at h
 by_cases hs : a1.size ≤ 140737488351232
 case neg => rw [if_neg hs] at h;cases h
 rw [if_pos hs] at h
 have HS := Aside0.mk hs
 clear hs
 obtain ⟨b,hb,h⟩ := Option.bind_eq_some_iff.1 h
 have A1 := Aside0.mk hb
 clear hb
 cases b with
 | false =>
  rw [if_neg Bool.false_ne_true] at h
  simp only [Option.some.injEq,Prod.mk.injEq] at h
  obtain ⟨rfl,rfl⟩ := h
  go_enter Tryd.func25,Tryd.ntmps25
  go_wp2_with (first|(go_at_call 39;(with_reducible refine (impl_isIdKind.calls a0 false _ A1.out).mono ?_);rintro e w' ⟨rfl,⟨nd,rfl⟩⟩))
  go_ret2
  exact ⟨rfl,lN HB.out _⟩
 | true =>
  rw [if_pos rfl] at h
  obtain ⟨t,ht,h⟩ := Option.bind_eq_some_iff.1 h
  have A2 := Aside0.mk ht
  clear ht
  cases t with
  | false =>
   rw [if_neg Bool.false_ne_true] at h
   simp only [Option.some.injEq,Prod.mk.injEq] at h
   obtain ⟨rfl,rfl⟩ := h
   go_enter Tryd.func25,Tryd.ntmps25
   go_wp2_with (first|(go_at_call 39;(with_reducible refine (impl_isIdKind.calls a0 true _ A1.out).mono ?_);rintro e w' ⟨rfl,⟨nd,rfl⟩⟩)|(go_at_call 53;(with_reducible refine (impl_isIdText.calls k a0 a1 false _ A2.out).mono ?_);rintro e w' ⟨rfl,⟨nd2,rfl⟩⟩))
   go_ret2
   exact ⟨rfl,by repeat (first|(with_reducible first|exact HB.out|apply lN|apply lD)|exact HB.out)⟩
  | true =>
   rw [if_pos rfl] at h
   have hsz : (a1.size : Int) ≤ 140737488351232 := by have := HS.out;omega
   by_cases hk : 0 ≤ a2 ∧ a2 ≤ (a1.size : Int) - 1
   case neg =>
    rw [if_neg hk] at h
    simp only [Option.some.injEq,Prod.mk.injEq] at h
    obtain ⟨rfl,rfl⟩ := h
    have hI : impl_inside.f a2 0 ((a1.size : Int) - 1) = some false := by
     unfold impl_inside.f
     by_cases k0 : a2 ≥ 0
     ·rw [if_pos k0];simp;omega
     ·rw [if_neg k0]
    have HI := Aside0.mk hI
    clear hI hk
    go_enter Tryd.func25,Tryd.ntmps25
    go_wp2_with (first|(go_at_call 39;(with_reducible refine (impl_isIdKind.calls a0 true _ A1.out).mono ?_);rintro e w' ⟨rfl,⟨nd,rfl⟩⟩)|(go_at_call 53;(with_reducible refine (impl_isIdText.calls k a0 a1 true _ A2.out).mono ?_);rintro e w' ⟨rfl,⟨nd2,rfl⟩⟩)|(go_at_call 54;(with_reducible refine (impl_inside.calls a2 0 ((a1.size : Int) - 1) false _ HI.out).mono ?_);rintro e w' ⟨rfl,⟨nd3,rfl⟩⟩))
    go_ret2
    exact ⟨rfl,by repeat (first|(with_reducible first|exact HB.out|apply lN|apply lD)|exact HB.out)⟩
   rw [if_pos hk] at h
   obtain ⟨p,rfl⟩ : ∃ p : Nat,a2 = (p : Int) := ⟨a2.toNat,by omega⟩
   rw [Int.toNat_natCast] at h
   have hI : impl_inside.f (p : Int) 0 ((a1.size : Int) - 1) = some true := by
    unfold impl_inside.f
    rw [if_pos hk.1];simp;omega
   have HI := Aside0.mk hI
   have hp : (p : Int) < (a1.size : Int) := by omega
   have HP : Aside0 (p < a1.size) := ⟨by omega⟩
   clear hI hk
   have H' := Aside0.mk h
   clear h
   have kc := fun (n0 : Nat) (C : Array Value) (n c : Nat) => Joins.run_convert_bytes_const_at (P := Tryd.prog) (w.drewN n0) 29 5 C n c w.heap.size rfl Tryd.underlying29 Tryd.underlying5
   go_enter Tryd.func25,Tryd.ntmps25
   go_wp2_with (first
    | (go_at_call 39;(with_reducible refine (impl_isIdKind.calls a0 true _ A1.out).mono ?_);rintro e w' ⟨rfl,⟨nd,rfl⟩⟩)
    | (go_at_call 53;(with_reducible refine (impl_isIdText.calls k a0 a1 true _ A2.out).mono ?_);rintro e w' ⟨rfl,⟨nd2,rfl⟩⟩)
    | (go_at_call 54;(with_reducible refine (impl_inside.calls (p : Int) 0 ((a1.size : Int) - 1) true _ HI.out).mono ?_);rintro e w' ⟨rfl,⟨nd3,rfl⟩⟩))
   clear kc
   go_loopg [8,9,11,12,33] k (fun kq v8 v9 v11 v12 v33 w' => ∃ (fd : ByteArray) (c j : Nat),v8 = .string fd ∧ v9 = .int .i64 c ∧ v33 = .int .i64 j ∧ Aside0 (impl_RepairDigit.l0 kq a0 a1 p j fd c = some (r1,r2)) ∧ Aside0 (kq ≤ k) ∧ Aside0 (j ≤ 11 ∧ c ≤ j) ∧ Aside0 (∀ q,q < 11 → w'.cell? ⟨w.heap.size,q,none⟩ = some (.int .u8 (dgtB q))) ∧ Aside0 (Below w.heap.size w w'))
   case atStart => exact ⟨(⟨#[]⟩ : ByteArray),0,0,rfl,rfl,rfl,H',⟨Nat.le_refl _⟩,⟨Nat.zero_le _,Nat.le_refl _⟩,⟨fun q hq => (Joins.cell_alloc_mark_at _ _ _ _ _ _ rfl).trans (dgt_arr q hq)⟩,⟨by repeat (first|(with_reducible first|exact HB.out|apply lA|apply lN|apply lD)|exact HB.out)⟩⟩
   case round =>
    clear H'
    try clear HB
    obtain ⟨fd,c,j,rfl,rfl,rfl,HA,HK1,HJ,HD,HB⟩ := hrel
    cases gk with
    | zero => exact absurd HA.out (by simp [impl_RepairDigit.l0])
    | succ k1 =>
     have H := HA.out
     clear HA
     rw [impl_RepairDigit.l0] at H
     by_cases hlt : j < 11
     ·rw [if_pos hlt] at H
      have hlt' : (j : Int) < 11 := by omega
      have hc11 : (c : Int) ≤ 11 := by have := HJ.out;omega
      obtain ⟨t,A30,H⟩ := Option.bind_eq_some_iff.1 H
      have A3 := Aside0.mk A30
      have HLT := Aside0.mk hlt
      have hdc := HD.out j hlt
      obtain ⟨hd0,hd1⟩ := dgtB_range j hlt
      clear A30
      obtain ⟨g,cap,W1,hcv,HR0⟩ := conv_ex (P := Tryd.prog) wr 9 29 5 a1 Tryd.underlying9 Tryd.underlying29 Tryd.underlying5
      have hx0 := HR0.cell p (by rw [bytesOf_length];exact HP.out)
      have hf0 := HR0.free p (by rw [bytesOf_length];exact HP.out)
      have hS := HR0.set p (dgtB j)
      have ht := hS.text 29 5 9 Tryd.underlying29 Tryd.underlying5 Tryd.underlying9 a1.size cap (by rw [List.length_set,bytesOf_length])
      replace ht : (convert 29 9 (.slice (some ⟨g,0,none⟩) a1.size cap)).run Tryd.prog (W1.setCell ⟨g,p,none⟩ (.int .u8 (dgtB j))) = .ok (.string (putAt a1 p j)) (W1.setCell ⟨g,p,none⟩ (.int .u8 (dgtB j))) := ht
      have HS1 := Aside0.mk hS
      clear HR0 hS
      have H' := Aside0.mk H
      clear H hlt
      have hKD : ∀ nd q,q < 11 → ((W1.setCell ⟨g,p,none⟩ (.int .u8 (dgtB j))).drewN nd).cell? ⟨w.heap.size,q,none⟩ = some (.int .u8 (dgtB q)) := fun nd q hq =>
       ((HS1.out.drewN nd).below.cell (p := ⟨w.heap.size,q,none⟩) (World.block_lt_of_cell? wr ⟨w.heap.size,q,none⟩ (HD.out q hq))).trans (HD.out q hq)
      have HKD := Aside0.mk hKD
      have hKB : ∀ nd,Below w.heap.size w ((W1.setCell ⟨g,p,none⟩ (.int .u8 (dgtB j))).drewN nd) := fun nd => below_step HB.out (HS1.out.drewN nd).below
      have HKB := Aside0.mk hKB
      have hht : ∀ nd,(convert 29 9 (.slice (some ⟨g,0,none⟩) a1.size cap)).run Tryd.prog ((W1.setCell ⟨g,p,none⟩ (.int .u8 (dgtB j))).drewN nd) = .ok (.string (putAt a1 p j)) ((W1.setCell ⟨g,p,none⟩ (.int .u8 (dgtB j))).drewN nd) := fun nd =>
       (HS1.out.drewN nd).text 29 5 9 Tryd.underlying29 Tryd.underlying5 Tryd.underlying9 a1.size cap (by rw [List.length_set,bytesOf_length])
      have HHT := Aside0.mk hht
      clear hKD hKB hht
      cases t with
      | true =>
       replace H' := H'.out
       rw [if_pos rfl] at H'
       have H := Aside0.mk H'
       clear H'
       go_wp2_with (first
        | (go_at_call 35;(with_reducible refine (impl_isIdentifier.calls k1 a0 (putAt a1 p j) true _ A3.out).mono ?_);rintro e w' ⟨rfl,⟨nd,rfl⟩⟩;have ht2 := HHT.out nd))
       go_roundg k1
       case measure => have := HK1.out;omega
       case rel => exact ⟨putAt a1 p j,c + 1,j + 1,rfl,by go_num,by go_num,H,⟨by have := HK1.out;omega⟩,⟨by have := HLT.out;have := HJ.out;omega⟩,⟨HKD.out _⟩,⟨HKB.out _⟩⟩
      | false =>
       replace H' := H'.out
       rw [if_neg Bool.false_ne_true] at H'
       have H := Aside0.mk H'
       clear H'
       go_wp2_with (first
        | (go_at_call 35;(with_reducible refine (impl_isIdentifier.calls k1 a0 (putAt a1 p j) false _ A3.out).mono ?_);rintro e w' ⟨rfl,⟨nd,rfl⟩⟩))
       go_roundg k1
       case measure => have := HK1.out;omega
       case rel => exact ⟨fd,c,j + 1,rfl,rfl,by go_num,H,⟨by have := HK1.out;omega⟩,⟨by have := HLT.out;have := HJ.out;omega⟩,⟨HKD.out _⟩,⟨HKB.out _⟩⟩
     ·rw [if_neg hlt] at H
      have hj11 : j = 11 := by have := HJ.out;omega
      subst hj11
      clear hlt
      by_cases hc : (c : Int) = 1
      ·rw [if_pos hc] at H
       simp only [Option.some.injEq,Prod.mk.injEq] at H
       obtain ⟨rfl,rfl⟩ := H
       have hc1 : c = 1 := by omega
       subst hc1
       clear hc
       go_wp2
       go_ret2
       exact ⟨rfl,HB.out⟩
      ·rw [if_neg hc] at H
       simp only [Option.some.injEq,Prod.mk.injEq] at H
       obtain ⟨rfl,rfl⟩ := H
       have hcb : ((c : Int) != 1) = true := bne_iff_ne.2 hc
       have hcb2 : ((c : Int) == 1) = false := beq_eq_false_iff_ne.2 hc
       clear hc
       go_wp2
       go_ret2
       exact ⟨rfl,HB.out⟩
def spec_l1Cur_one.f (s0_0 : List Int) (s0_1 : Int) (s0_2 : Int) (a1 : Int) : Option (Bool × Int × Int) := (spec_l1Cur_pick.f s0_0 s0_1 s0_2 a1).bind fun bt218 => (some ((bt218.1 == 0),bt218.2.1,bt218.2.2))
set_option maxHeartbeats 8000000 in
set_option maxRecDepth 100000 in
theorem spec_l1Cur_one.calls (g : Nat) (s0_0 : List Int) (s0_1 : Int) (s0_2 : Int) (a1 : Int) (r1 : Bool) (r2 : Int) (r3 : Int) (w0 w : World) (hI : IsS56 w0 w g s0_0 s0_1 s0_2) (hB : Below w0.heap.size w0 w) (h : spec_l1Cur_one.f s0_0 s0_1 s0_2 a1 = some (r1,r2,r3)) :
  Calls Tryd.prog 46 #[.pointer (some ⟨g,0,none⟩),.int .i64 a1] w fun e w' => e = .returned (.bool r1) ∧ IsS56 w0 w' g s0_0 r2 r3 ∧ Below w0.heap.size w0 w' ∧ KeepBut w w' g none := by
 have HI0 := Aside0.mk hI
 have HK := Aside0.mk (KeepBut.refl w g none)
 have HL := Aside0.mk hB.size
 clear hI
 have HW0 := Aside0.mk hB.size
 have HB := Aside0.mk hB
 clear hB
 have H : ((spec_l1Cur_pick.f s0_0 s0_1 s0_2 a1).bind fun bt218 => (some ((bt218.1 == 0),bt218.2.1,bt218.2.2))) = some (r1,r2,r3) := h
 clear h
 replace H := Option.bind_eq_some_iff.mp H
 obtain ⟨⟨t218,t219,t220⟩,A30,H⟩ := H
 replace H : (some ((t218 == 0),t219,t220)) = some (r1,r2,r3) := H
 have A3 := Aside0.mk A30
 clear A30
 simp only [Option.some.injEq,Prod.mk.injEq] at H
 obtain ⟨rfl,rfl,rfl⟩ := H
 go_enter Tryd.func46,Tryd.ntmps46
 go_wp2_with (first|((with_reducible refine gate_callee (f := 49) rfl ?_);refine goesL_ (some 7) rfl rfl Tryd.func49 (by kernel_rfl) rfl #[.pointer (some ⟨g,0,none⟩),.int .i64 a1] rfl (by (try simp only [List.map_toArray,List.map_cons,List.map_nil]);first|done|rfl|(simp only [List.length_drop,List.length_take];rfl)) ?_;(with_reducible refine (spec_l1Cur_pick.calls g s0_0 s0_1 s0_2 a1 t218 t219 t220 w0 _ ?side1 ?side2 A3.out).mono ?_);(case side1 => repeat (first|(with_reducible first|exact HI0.out|apply IsS56.alloc|apply IsS56.drewN|apply IsS56.drew|apply IsS56.set_1|apply IsS56.set_2)|exact HI0.out));(case side2 => repeat (first|(with_reducible first|exact HB.out|apply lA|apply lN|apply lD|refine below_set ?_ (IsS56.ge HI0.out))|exact HB.out));rintro e w4 ⟨rfl,hi,hb,hk⟩;refine ⟨_,rfl,?_⟩;have n0_ := Aside0.mk (KeepBut.trans (by repeat (first|(with_reducible first|exact HK.out|apply KeepBut.set_|apply keep_drewN|apply keep_drew|apply keep_alloc)|exact HK.out)) hk (.inl rfl));have n1_ := Aside0.mk (hb);have n2_ := Aside0.mk (hi);clear HK;clear HB;clear HI0;have HK := n0_;have HB := n1_;have HI0 := n2_;clear n0_ n1_ n2_;(try clear hb);(try clear hb2);(try clear hk);(try clear hi)))
 go_ret
 exact ⟨by first|rfl|(simp [errW_none,errW_some] <;> rfl)|(simp [*,errW_none,errW_some] <;> rfl),by repeat (first|(with_reducible first|exact HI0.out|apply IsS56.alloc|apply IsS56.drewN|apply IsS56.drew|apply IsS56.set_1|apply IsS56.set_2)|exact HI0.out),by repeat (first|(with_reducible first|exact HB.out|apply lA|apply lN|apply lD|refine below_set ?_ (IsS56.ge HI0.out))|exact HB.out),by repeat (first|(with_reducible first|exact HK.out|apply KeepBut.set_|apply keep_drewN|apply keep_drew|apply keep_alloc)|exact HK.out)⟩
def spec_WrittenForm.f (k : Nat) (a0 : ByteArray) : Option (ByteArray × Bool) := (spec_l24Kind.f k a0).bind fun t221 => (if t221 = 0 then (some ((⟨#[]⟩ : ByteArray),false)) else (if t221 = 3 then (if 0 ≤ 4 then (if 4 ≤ (a0.size : Int) then (if (a0.extract 0 4).size + 1 ≤ 9223372036854775807 then (if ((a0.extract 0 4) ++ (⟨#[45]⟩ : ByteArray)).size + (a0.extract 4 a0.size).size ≤ 9223372036854775807 then (some (((a0.extract 0 4) ++ (⟨#[45]⟩ : ByteArray)) ++ (a0.extract 4 a0.size),true)) else (none)) else (none)) else (none)) else (none)) else (if t221 = 4 then (if 0 ≤ 4 then (if 4 ≤ (a0.size : Int) then (if (a0.extract 0 4).size + 1 ≤ 9223372036854775807 then (if 4 ≤ 8 then (if 8 ≤ (a0.size : Int) then (if ((a0.extract 0 4) ++ (⟨#[45]⟩ : ByteArray)).size + (a0.extract 4 8).size ≤ 9223372036854775807 then (if (((a0.extract 0 4) ++ (⟨#[45]⟩ : ByteArray)) ++ (a0.extract 4 8)).size + 1 ≤ 9223372036854775807 then (if 8 ≤ 12 then (if 12 ≤ (a0.size : Int) then (if ((((a0.extract 0 4) ++ (⟨#[45]⟩ : ByteArray)) ++ (a0.extract 4 8)) ++ (⟨#[45]⟩ : ByteArray)).size + (a0.extract 8 12).size ≤ 9223372036854775807 then (if (((((a0.extract 0 4) ++ (⟨#[45]⟩ : ByteArray)) ++ (a0.extract 4 8)) ++ (⟨#[45]⟩ : ByteArray)) ++ (a0.extract 8 12)).size + 1 ≤ 9223372036854775807 then (if ((((((a0.extract 0 4) ++ (⟨#[45]⟩ : ByteArray)) ++ (a0.extract 4 8)) ++ (⟨#[45]⟩ : ByteArray)) ++ (a0.extract 8 12)) ++ (⟨#[45]⟩ : ByteArray)).size + (a0.extract 12 a0.size).size ≤ 9223372036854775807 then (some (((((((a0.extract 0 4) ++ (⟨#[45]⟩ : ByteArray)) ++ (a0.extract 4 8)) ++ (⟨#[45]⟩ : ByteArray)) ++ (a0.extract 8 12)) ++ (⟨#[45]⟩ : ByteArray)) ++ (a0.extract 12 a0.size),true)) else (none)) else (none)) else (none)) else (none)) else (none)) else (none)) else (none)) else (none)) else (none)) else (none)) else (none)) else (none)) else (some (a0,true)))))
theorem spec_WrittenForm.mono : ∀ a0 k,LeO (spec_WrittenForm.f k a0) (spec_WrittenForm.f (k + 1) a0) := by
 intro a0 k
 unfold spec_WrittenForm.f
 repeat' first
   | (with_reducible exact spec_l24Kind.mono _ _)
   | (with_reducible exact LeO.refl _)
   | (with_reducible exact LeO.none _)
   | (with_reducible refine LeO.ite ?_ ?_)
   | (with_reducible refine LeO.bind ?_ (fun _ => ?_))
   | exact spec_l24Kind.mono _ _
   | exact LeO.none _
   | refine LeO.ite ?_ ?_
   | refine LeO.bind ?_ (fun _ => ?_)
set_option maxHeartbeats 8000000 in
set_option maxRecDepth 100000 in
theorem spec_WrittenForm.calls (k : Nat) (a0 : ByteArray) (r1 : ByteArray) (r2 : Bool) (w : World) (h : spec_WrittenForm.f k a0 = some (r1,r2)) :
  Calls Tryd.prog 55 #[.string a0] w fun e w' => e = .returned (.tuple #[.string r1,.bool r2]) ∧ Drawn0 w w' := by
 have H : ((spec_l24Kind.f k a0).bind fun t221 => (if t221 = 0 then (some ((⟨#[]⟩ : ByteArray),false)) else (if t221 = 3 then (if 0 ≤ 4 then (if 4 ≤ (a0.size : Int) then (if (a0.extract 0 4).size + 1 ≤ 9223372036854775807 then (if ((a0.extract 0 4) ++ (⟨#[45]⟩ : ByteArray)).size + (a0.extract 4 a0.size).size ≤ 9223372036854775807 then (some (((a0.extract 0 4) ++ (⟨#[45]⟩ : ByteArray)) ++ (a0.extract 4 a0.size),true)) else (none)) else (none)) else (none)) else (none)) else (if t221 = 4 then (if 0 ≤ 4 then (if 4 ≤ (a0.size : Int) then (if (a0.extract 0 4).size + 1 ≤ 9223372036854775807 then (if 4 ≤ 8 then (if 8 ≤ (a0.size : Int) then (if ((a0.extract 0 4) ++ (⟨#[45]⟩ : ByteArray)).size + (a0.extract 4 8).size ≤ 9223372036854775807 then (if (((a0.extract 0 4) ++ (⟨#[45]⟩ : ByteArray)) ++ (a0.extract 4 8)).size + 1 ≤ 9223372036854775807 then (if 8 ≤ 12 then (if 12 ≤ (a0.size : Int) then (if ((((a0.extract 0 4) ++ (⟨#[45]⟩ : ByteArray)) ++ (a0.extract 4 8)) ++ (⟨#[45]⟩ : ByteArray)).size + (a0.extract 8 12).size ≤ 9223372036854775807 then (if (((((a0.extract 0 4) ++ (⟨#[45]⟩ : ByteArray)) ++ (a0.extract 4 8)) ++ (⟨#[45]⟩ : ByteArray)) ++ (a0.extract 8 12)).size + 1 ≤ 9223372036854775807 then (if ((((((a0.extract 0 4) ++ (⟨#[45]⟩ : ByteArray)) ++ (a0.extract 4 8)) ++ (⟨#[45]⟩ : ByteArray)) ++ (a0.extract 8 12)) ++ (⟨#[45]⟩ : ByteArray)).size + (a0.extract 12 a0.size).size ≤ 9223372036854775807 then (some (((((((a0.extract 0 4) ++ (⟨#[45]⟩ : ByteArray)) ++ (a0.extract 4 8)) ++ (⟨#[45]⟩ : ByteArray)) ++ (a0.extract 8 12)) ++ (⟨#[45]⟩ : ByteArray)) ++ (a0.extract 12 a0.size),true)) else (none)) else (none)) else (none)) else (none)) else (none)) else (none)) else (none)) else (none)) else (none)) else (none)) else (none)) else (none)) else (some (a0,true)))))) = some (r1,r2) := h
 clear h
 replace H := Option.bind_eq_some_iff.mp H
 obtain ⟨t221,A20,H⟩ := H
 replace H : (if t221 = 0 then (some ((⟨#[]⟩ : ByteArray),false)) else (if t221 = 3 then (if 0 ≤ 4 then (if 4 ≤ (a0.size : Int) then (if (a0.extract 0 4).size + 1 ≤ 9223372036854775807 then (if ((a0.extract 0 4) ++ (⟨#[45]⟩ : ByteArray)).size + (a0.extract 4 a0.size).size ≤ 9223372036854775807 then (some (((a0.extract 0 4) ++ (⟨#[45]⟩ : ByteArray)) ++ (a0.extract 4 a0.size),true)) else (none)) else (none)) else (none)) else (none)) else (if t221 = 4 then (if 0 ≤ 4 then (if 4 ≤ (a0.size : Int) then (if (a0.extract 0 4).size + 1 ≤ 9223372036854775807 then (if 4 ≤ 8 then (if 8 ≤ (a0.size : Int) then (if ((a0.extract 0 4) ++ (⟨#[45]⟩ : ByteArray)).size + (a0.extract 4 8).size ≤ 9223372036854775807 then (if (((a0.extract 0 4) ++ (⟨#[45]⟩ : ByteArray)) ++ (a0.extract 4 8)).size + 1 ≤ 9223372036854775807 then (if 8 ≤ 12 then (if 12 ≤ (a0.size : Int) then (if ((((a0.extract 0 4) ++ (⟨#[45]⟩ : ByteArray)) ++ (a0.extract 4 8)) ++ (⟨#[45]⟩ : ByteArray)).size + (a0.extract 8 12).size ≤ 9223372036854775807 then (if (((((a0.extract 0 4) ++ (⟨#[45]⟩ : ByteArray)) ++ (a0.extract 4 8)) ++ (⟨#[45]⟩ : ByteArray)) ++ (a0.extract 8 12)).size + 1 ≤ 9223372036854775807 then (if ((((((a0.extract 0 4) ++ (⟨#[45]⟩ : ByteArray)) ++ (a0.extract 4 8)) ++ (⟨#[45]⟩ : ByteArray)) ++ (a0.extract 8 12)) ++ (⟨#[45]⟩ : ByteArray)).size + (a0.extract 12 a0.size).size ≤ 9223372036854775807 then (some (((((((a0.extract 0 4) ++ (⟨#[45]⟩ : ByteArray)) ++ (a0.extract 4 8)) ++ (⟨#[45]⟩ : ByteArray)) ++ (a0.extract 8 12)) ++ (⟨#[45]⟩ : ByteArray)) ++ (a0.extract 12 a0.size),true)) else (none)) else (none)) else (none)) else (none)) else (none)) else (none)) else (none)) else (none)) else (none)) else (none)) else (none)) else (none)) else (some (a0,true))))) = some (r1,r2) := H
 have A2 := Aside0.mk A20
 clear A20
 by_cases c3 : t221 = 0
 ·rw [if_pos c3] at H
  have c3b0 : (t221 == 0) = true := beq_iff_eq.mpr c3
  have c3b1 : (t221 != 0) = false := bne_eq_false_iff_eq.mpr c3
  clear c3
  simp only [Option.some.injEq,Prod.mk.injEq] at H
  obtain ⟨rfl,rfl⟩ := H
  go_enter Tryd.func55,Tryd.ntmps55
  go_wp2_with (first|(go_at_call 41;(with_reducible refine (spec_l24Kind.calls k a0 t221 _ A2.out).mono ?_);rintro e w' ⟨rfl,⟨nd,rfl⟩⟩;(try first|exact ⟨rfl,_,World.drewN_drewN _ _ _⟩|exact ⟨rfl,_,Eq.trans (World.drewN_drewN _ _ _) (congrArg (World.drewN _) (Nat.add_assoc _ _ _))⟩)))
  repeat (go_quiet (first|(go_at_call 41;(with_reducible refine (spec_l24Kind.calls k a0 t221 _ A2.out).mono ?_);rintro e w' ⟨rfl,⟨nd,rfl⟩⟩;(try first|exact ⟨rfl,_,World.drewN_drewN _ _ _⟩|exact ⟨rfl,_,Eq.trans (World.drewN_drewN _ _ _) (congrArg (World.drewN _) (Nat.add_assoc _ _ _))⟩)));try go_wp2_with (first|(go_at_call 41;(with_reducible refine (spec_l24Kind.calls k a0 t221 _ A2.out).mono ?_);rintro e w' ⟨rfl,⟨nd,rfl⟩⟩;(try first|exact ⟨rfl,_,World.drewN_drewN _ _ _⟩|exact ⟨rfl,_,Eq.trans (World.drewN_drewN _ _ _) (congrArg (World.drewN _) (Nat.add_assoc _ _ _))⟩))))
  go_ret2
  exact ⟨by first|rfl|(simp;done)|(simp [my_isEmpty];done)|(simp [*];done),by repeat (first|exact Drawn0.refl _|apply Drawn0.step)⟩
 ·rw [if_neg c3] at H
  have c3b0 : (t221 == 0) = false := beq_eq_false_iff_ne.mpr c3
  have c3b1 : (t221 != 0) = true := bne_iff_ne.mpr c3
  by_cases c4 : t221 = 3
  ·rw [if_pos c4] at H
   have c4b0 : (t221 == 3) = true := beq_iff_eq.mpr c4
   have c4b1 : (t221 != 3) = false := bne_eq_false_iff_eq.mpr c4
   clear c4
   by_cases c5 : 0 ≤ 4
   ·rw [if_pos c5] at H
    have c5b0 := eq_true c5
    have c5b1 : decide (0 ≤ 4) = true := decide_eq_true c5
    clear c5
    by_cases c6 : 4 ≤ (a0.size : Int)
    ·rw [if_pos c6] at H
     have c6b0 := eq_true c6
     have c6b1 : decide (4 ≤ (a0.size : Int)) = true := decide_eq_true c6
     clear c6
     by_cases c7 : (a0.extract 0 4).size + 1 ≤ 9223372036854775807
     ·rw [if_pos c7] at H
      have c7b0 := eq_true c7
      have c7b1 : decide ((a0.extract 0 4).size + 1 ≤ 9223372036854775807) = true := decide_eq_true c7
      try have c7b3 : (9223372036854775807 < min 4 a0.size + 1) = False := eq_false (by have h_ := c7;simp only [ByteArray.size_append,ByteArray.size_extract] at h_;omega)
      try have c7b2 : (9223372036854775807 < (a0.extract 0 4).size + 1) = False := eq_false (Nat.not_lt.2 c7)
      have c8b0 := eq_true (of_decide_eq_true (by first|(with_reducible assumption)|assumption) : 4 ≤ (a0.size : Int))
      by_cases c9 : ((a0.extract 0 4) ++ (⟨#[45]⟩ : ByteArray)).size + (a0.extract 4 a0.size).size ≤ 9223372036854775807
      ·rw [if_pos c9] at H
       have c9b0 := eq_true c9
       have c9b1 : decide (((a0.extract 0 4) ++ (⟨#[45]⟩ : ByteArray)).size + (a0.extract 4 a0.size).size ≤ 9223372036854775807) = true := decide_eq_true c9
       try have c9b3 : (9223372036854775807 < (a0.extract 0 4).size + 1 + (a0.size - 4)) = False := eq_false (by have h_ := c9;simp only [ByteArray.size_append,ByteArray.size_extract] at h_;have hs0_ : (⟨#[45]⟩ : ByteArray).size = 1 := rfl;omega)
       try have c9b4 : (9223372036854775807 < min 4 a0.size + 1 + (a0.size - 4)) = False := eq_false (by have h_ := c9;simp only [ByteArray.size_append,ByteArray.size_extract] at h_;have hs0_ : (⟨#[45]⟩ : ByteArray).size = 1 := rfl;omega)
       try have c9b2 : (9223372036854775807 < ((a0.extract 0 4) ++ (⟨#[45]⟩ : ByteArray)).size + (a0.extract 4 a0.size).size) = False := eq_false (Nat.not_lt.2 c9)
       simp only [Option.some.injEq,Prod.mk.injEq] at H
       obtain ⟨rfl,rfl⟩ := H
       go_enter Tryd.func55,Tryd.ntmps55
       go_wp2_with (first|(go_at_call 41;(with_reducible refine (spec_l24Kind.calls k a0 t221 _ A2.out).mono ?_);rintro e w' ⟨rfl,⟨nd,rfl⟩⟩;(try first|exact ⟨rfl,_,World.drewN_drewN _ _ _⟩|exact ⟨rfl,_,Eq.trans (World.drewN_drewN _ _ _) (congrArg (World.drewN _) (Nat.add_assoc _ _ _))⟩)))
       repeat (go_quiet (first|(go_at_call 41;(with_reducible refine (spec_l24Kind.calls k a0 t221 _ A2.out).mono ?_);rintro e w' ⟨rfl,⟨nd,rfl⟩⟩;(try first|exact ⟨rfl,_,World.drewN_drewN _ _ _⟩|exact ⟨rfl,_,Eq.trans (World.drewN_drewN _ _ _) (congrArg (World.drewN _) (Nat.add_assoc _ _ _))⟩)));try go_wp2_with (first|(go_at_call 41;(with_reducible refine (spec_l24Kind.calls k a0 t221 _ A2.out).mono ?_);rintro e w' ⟨rfl,⟨nd,rfl⟩⟩;(try first|exact ⟨rfl,_,World.drewN_drewN _ _ _⟩|exact ⟨rfl,_,Eq.trans (World.drewN_drewN _ _ _) (congrArg (World.drewN _) (Nat.add_assoc _ _ _))⟩))))
       go_ret2
       exact ⟨by first|rfl|(simp;done)|(simp [my_isEmpty];done)|(simp [*];done),by repeat (first|exact Drawn0.refl _|apply Drawn0.step)⟩
      ·rw [if_neg c9] at H
       exact absurd H (by simp)
     ·rw [if_neg c7] at H
      exact absurd H (by simp)
    ·rw [if_neg c6] at H
     exact absurd H (by simp)
   ·rw [if_neg c5] at H
    exact absurd H (by simp)
  ·rw [if_neg c4] at H
   have c4b0 : (t221 == 3) = false := beq_eq_false_iff_ne.mpr c4
   have c4b1 : (t221 != 3) = true := bne_iff_ne.mpr c4
   by_cases c10 : t221 = 4
   ·rw [if_pos c10] at H
    have c10b0 : (t221 == 4) = true := beq_iff_eq.mpr c10
    have c10b1 : (t221 != 4) = false := bne_eq_false_iff_eq.mpr c10
    clear c10
    by_cases c11 : 0 ≤ 4
    ·rw [if_pos c11] at H
     have c11b0 := eq_true c11
     have c11b1 : decide (0 ≤ 4) = true := decide_eq_true c11
     clear c11
     by_cases c12 : 4 ≤ (a0.size : Int)
     ·rw [if_pos c12] at H
      have c12b0 := eq_true c12
      have c12b1 : decide (4 ≤ (a0.size : Int)) = true := decide_eq_true c12
      clear c12
      by_cases c13 : (a0.extract 0 4).size + 1 ≤ 9223372036854775807
      ·rw [if_pos c13] at H
       have c13b0 := eq_true c13
       have c13b1 : decide ((a0.extract 0 4).size + 1 ≤ 9223372036854775807) = true := decide_eq_true c13
       try have c13b3 : (9223372036854775807 < min 4 a0.size + 1) = False := eq_false (by have h_ := c13;simp only [ByteArray.size_append,ByteArray.size_extract] at h_;omega)
       try have c13b2 : (9223372036854775807 < (a0.extract 0 4).size + 1) = False := eq_false (Nat.not_lt.2 c13)
       by_cases c14 : 4 ≤ 8
       ·rw [if_pos c14] at H
        have c14b0 := eq_true c14
        have c14b1 : decide (4 ≤ 8) = true := decide_eq_true c14
        clear c14
        by_cases c15 : 8 ≤ (a0.size : Int)
        ·rw [if_pos c15] at H
         have c15b0 := eq_true c15
         have c15b1 : decide (8 ≤ (a0.size : Int)) = true := decide_eq_true c15
         clear c15
         by_cases c16 : ((a0.extract 0 4) ++ (⟨#[45]⟩ : ByteArray)).size + (a0.extract 4 8).size ≤ 9223372036854775807
         ·rw [if_pos c16] at H
          have c16b0 := eq_true c16
          have c16b1 : decide (((a0.extract 0 4) ++ (⟨#[45]⟩ : ByteArray)).size + (a0.extract 4 8).size ≤ 9223372036854775807) = true := decide_eq_true c16
          try have c16b3 : (9223372036854775807 < (a0.extract 0 4).size + 1 + (a0.extract 4 8).size) = False := eq_false (by have h_ := c16;simp only [ByteArray.size_append,ByteArray.size_extract] at h_;have hs0_ : (⟨#[45]⟩ : ByteArray).size = 1 := rfl;omega)
          try have c16b4 : (9223372036854775807 < min 4 a0.size + 1 + (min 8 a0.size - 4)) = False := eq_false (by have h_ := c16;simp only [ByteArray.size_append,ByteArray.size_extract] at h_;have hs0_ : (⟨#[45]⟩ : ByteArray).size = 1 := rfl;omega)
          try have c16b2 : (9223372036854775807 < ((a0.extract 0 4) ++ (⟨#[45]⟩ : ByteArray)).size + (a0.extract 4 8).size) = False := eq_false (Nat.not_lt.2 c16)
          by_cases c17 : (((a0.extract 0 4) ++ (⟨#[45]⟩ : ByteArray)) ++ (a0.extract 4 8)).size + 1 ≤ 9223372036854775807
          ·rw [if_pos c17] at H
           have c17b0 := eq_true c17
           have c17b1 : decide ((((a0.extract 0 4) ++ (⟨#[45]⟩ : ByteArray)) ++ (a0.extract 4 8)).size + 1 ≤ 9223372036854775807) = true := decide_eq_true c17
           try have c17b3 : (9223372036854775807 < (a0.extract 0 4).size + 1 + (a0.extract 4 8).size + 1) = False := eq_false (by have h_ := c17;simp only [ByteArray.size_append,ByteArray.size_extract] at h_;have hs0_ : (⟨#[45]⟩ : ByteArray).size = 1 := rfl;omega)
           try have c17b4 : (9223372036854775807 < min 4 a0.size + 1 + (min 8 a0.size - 4) + 1) = False := eq_false (by have h_ := c17;simp only [ByteArray.size_append,ByteArray.size_extract] at h_;have hs0_ : (⟨#[45]⟩ : ByteArray).size = 1 := rfl;omega)
           try have c17b2 : (9223372036854775807 < (((a0.extract 0 4) ++ (⟨#[45]⟩ : ByteArray)) ++ (a0.extract 4 8)).size + 1) = False := eq_false (Nat.not_lt.2 c17)
           by_cases c18 : 8 ≤ 12
           ·rw [if_pos c18] at H
            have c18b0 := eq_true c18
            have c18b1 : decide (8 ≤ 12) = true := decide_eq_true c18
            clear c18
            by_cases c19 : 12 ≤ (a0.size : Int)
            ·rw [if_pos c19] at H
             have c19b0 := eq_true c19
             have c19b1 : decide (12 ≤ (a0.size : Int)) = true := decide_eq_true c19
             clear c19
             by_cases c20 : ((((a0.extract 0 4) ++ (⟨#[45]⟩ : ByteArray)) ++ (a0.extract 4 8)) ++ (⟨#[45]⟩ : ByteArray)).size + (a0.extract 8 12).size ≤ 9223372036854775807
             ·rw [if_pos c20] at H
              have c20b0 := eq_true c20
              have c20b1 : decide (((((a0.extract 0 4) ++ (⟨#[45]⟩ : ByteArray)) ++ (a0.extract 4 8)) ++ (⟨#[45]⟩ : ByteArray)).size + (a0.extract 8 12).size ≤ 9223372036854775807) = true := decide_eq_true c20
              try have c20b3 : (9223372036854775807 < (a0.extract 0 4).size + 1 + (a0.extract 4 8).size + 1 + (a0.extract 8 12).size) = False := eq_false (by have h_ := c20;simp only [ByteArray.size_append,ByteArray.size_extract] at h_;have hs0_ : (⟨#[45]⟩ : ByteArray).size = 1 := rfl;omega)
              try have c20b4 : (9223372036854775807 < min 4 a0.size + 1 + (min 8 a0.size - 4) + 1 + (min 12 a0.size - 8)) = False := eq_false (by have h_ := c20;simp only [ByteArray.size_append,ByteArray.size_extract] at h_;have hs0_ : (⟨#[45]⟩ : ByteArray).size = 1 := rfl;omega)
              try have c20b2 : (9223372036854775807 < ((((a0.extract 0 4) ++ (⟨#[45]⟩ : ByteArray)) ++ (a0.extract 4 8)) ++ (⟨#[45]⟩ : ByteArray)).size + (a0.extract 8 12).size) = False := eq_false (Nat.not_lt.2 c20)
              by_cases c21 : (((((a0.extract 0 4) ++ (⟨#[45]⟩ : ByteArray)) ++ (a0.extract 4 8)) ++ (⟨#[45]⟩ : ByteArray)) ++ (a0.extract 8 12)).size + 1 ≤ 9223372036854775807
              ·rw [if_pos c21] at H
               have c21b0 := eq_true c21
               have c21b1 : decide ((((((a0.extract 0 4) ++ (⟨#[45]⟩ : ByteArray)) ++ (a0.extract 4 8)) ++ (⟨#[45]⟩ : ByteArray)) ++ (a0.extract 8 12)).size + 1 ≤ 9223372036854775807) = true := decide_eq_true c21
               try have c21b3 : (9223372036854775807 < (a0.extract 0 4).size + 1 + (a0.extract 4 8).size + 1 + (a0.extract 8 12).size + 1) = False := eq_false (by have h_ := c21;simp only [ByteArray.size_append,ByteArray.size_extract] at h_;have hs0_ : (⟨#[45]⟩ : ByteArray).size = 1 := rfl;omega)
               try have c21b4 : (9223372036854775807 < min 4 a0.size + 1 + (min 8 a0.size - 4) + 1 + (min 12 a0.size - 8) + 1) = False := eq_false (by have h_ := c21;simp only [ByteArray.size_append,ByteArray.size_extract] at h_;have hs0_ : (⟨#[45]⟩ : ByteArray).size = 1 := rfl;omega)
               try have c21b2 : (9223372036854775807 < (((((a0.extract 0 4) ++ (⟨#[45]⟩ : ByteArray)) ++ (a0.extract 4 8)) ++ (⟨#[45]⟩ : ByteArray)) ++ (a0.extract 8 12)).size + 1) = False := eq_false (Nat.not_lt.2 c21)
               have c22b0 := eq_true (of_decide_eq_true (by first|(with_reducible assumption)|assumption) : 12 ≤ (a0.size : Int))
               by_cases c23 : ((((((a0.extract 0 4) ++ (⟨#[45]⟩ : ByteArray)) ++ (a0.extract 4 8)) ++ (⟨#[45]⟩ : ByteArray)) ++ (a0.extract 8 12)) ++ (⟨#[45]⟩ : ByteArray)).size + (a0.extract 12 a0.size).size ≤ 9223372036854775807
               ·rw [if_pos c23] at H
                have c23b0 := eq_true c23
                have c23b1 : decide (((((((a0.extract 0 4) ++ (⟨#[45]⟩ : ByteArray)) ++ (a0.extract 4 8)) ++ (⟨#[45]⟩ : ByteArray)) ++ (a0.extract 8 12)) ++ (⟨#[45]⟩ : ByteArray)).size + (a0.extract 12 a0.size).size ≤ 9223372036854775807) = true := decide_eq_true c23
                try have c23b3 : (9223372036854775807 < (a0.extract 0 4).size + 1 + (a0.extract 4 8).size + 1 + (a0.extract 8 12).size + 1 + (a0.size - 12)) = False := eq_false (by have h_ := c23;simp only [ByteArray.size_append,ByteArray.size_extract] at h_;have hs0_ : (⟨#[45]⟩ : ByteArray).size = 1 := rfl;omega)
                try have c23b4 : (9223372036854775807 < min 4 a0.size + 1 + (min 8 a0.size - 4) + 1 + (min 12 a0.size - 8) + 1 + (a0.size - 12)) = False := eq_false (by have h_ := c23;simp only [ByteArray.size_append,ByteArray.size_extract] at h_;have hs0_ : (⟨#[45]⟩ : ByteArray).size = 1 := rfl;omega)
                try have c23b2 : (9223372036854775807 < ((((((a0.extract 0 4) ++ (⟨#[45]⟩ : ByteArray)) ++ (a0.extract 4 8)) ++ (⟨#[45]⟩ : ByteArray)) ++ (a0.extract 8 12)) ++ (⟨#[45]⟩ : ByteArray)).size + (a0.extract 12 a0.size).size) = False := eq_false (Nat.not_lt.2 c23)
                simp only [Option.some.injEq,Prod.mk.injEq] at H
                obtain ⟨rfl,rfl⟩ := H
                go_enter Tryd.func55,Tryd.ntmps55
                go_wp2_with (first|(go_at_call 41;(with_reducible refine (spec_l24Kind.calls k a0 t221 _ A2.out).mono ?_);rintro e w' ⟨rfl,⟨nd,rfl⟩⟩;(try first|exact ⟨rfl,_,World.drewN_drewN _ _ _⟩|exact ⟨rfl,_,Eq.trans (World.drewN_drewN _ _ _) (congrArg (World.drewN _) (Nat.add_assoc _ _ _))⟩)))
                repeat (go_quiet (first|(go_at_call 41;(with_reducible refine (spec_l24Kind.calls k a0 t221 _ A2.out).mono ?_);rintro e w' ⟨rfl,⟨nd,rfl⟩⟩;(try first|exact ⟨rfl,_,World.drewN_drewN _ _ _⟩|exact ⟨rfl,_,Eq.trans (World.drewN_drewN _ _ _) (congrArg (World.drewN _) (Nat.add_assoc _ _ _))⟩)));try go_wp2_with (first|(go_at_call 41;(with_reducible refine (spec_l24Kind.calls k a0 t221 _ A2.out).mono ?_);rintro e w' ⟨rfl,⟨nd,rfl⟩⟩;(try first|exact ⟨rfl,_,World.drewN_drewN _ _ _⟩|exact ⟨rfl,_,Eq.trans (World.drewN_drewN _ _ _) (congrArg (World.drewN _) (Nat.add_assoc _ _ _))⟩))))
                go_ret2
                exact ⟨by first|rfl|(simp;done)|(simp [my_isEmpty];done)|(simp [*];done),by repeat (first|exact Drawn0.refl _|apply Drawn0.step)⟩
               ·rw [if_neg c23] at H
                exact absurd H (by simp)
              ·rw [if_neg c21] at H
               exact absurd H (by simp)
             ·rw [if_neg c20] at H
              exact absurd H (by simp)
            ·rw [if_neg c19] at H
             exact absurd H (by simp)
           ·rw [if_neg c18] at H
            exact absurd H (by simp)
          ·rw [if_neg c17] at H
           exact absurd H (by simp)
         ·rw [if_neg c16] at H
          exact absurd H (by simp)
        ·rw [if_neg c15] at H
         exact absurd H (by simp)
       ·rw [if_neg c14] at H
        exact absurd H (by simp)
      ·rw [if_neg c13] at H
       exact absurd H (by simp)
     ·rw [if_neg c12] at H
      exact absurd H (by simp)
    ·rw [if_neg c11] at H
     exact absurd H (by simp)
   ·rw [if_neg c10] at H
    have c10b0 : (t221 == 4) = false := beq_eq_false_iff_ne.mpr c10
    have c10b1 : (t221 != 4) = true := bne_iff_ne.mpr c10
    simp only [Option.some.injEq,Prod.mk.injEq] at H
    obtain ⟨rfl,rfl⟩ := H
    go_enter Tryd.func55,Tryd.ntmps55
    go_wp2_with (first|(go_at_call 41;(with_reducible refine (spec_l24Kind.calls k a0 t221 _ A2.out).mono ?_);rintro e w' ⟨rfl,⟨nd,rfl⟩⟩;(try first|exact ⟨rfl,_,World.drewN_drewN _ _ _⟩|exact ⟨rfl,_,Eq.trans (World.drewN_drewN _ _ _) (congrArg (World.drewN _) (Nat.add_assoc _ _ _))⟩)))
    repeat (go_quiet (first|(go_at_call 41;(with_reducible refine (spec_l24Kind.calls k a0 t221 _ A2.out).mono ?_);rintro e w' ⟨rfl,⟨nd,rfl⟩⟩;(try first|exact ⟨rfl,_,World.drewN_drewN _ _ _⟩|exact ⟨rfl,_,Eq.trans (World.drewN_drewN _ _ _) (congrArg (World.drewN _) (Nat.add_assoc _ _ _))⟩)));try go_wp2_with (first|(go_at_call 41;(with_reducible refine (spec_l24Kind.calls k a0 t221 _ A2.out).mono ?_);rintro e w' ⟨rfl,⟨nd,rfl⟩⟩;(try first|exact ⟨rfl,_,World.drewN_drewN _ _ _⟩|exact ⟨rfl,_,Eq.trans (World.drewN_drewN _ _ _) (congrArg (World.drewN _) (Nat.add_assoc _ _ _))⟩))))
    go_ret2
    exact ⟨by first|rfl|(simp;done)|(simp [my_isEmpty];done)|(simp [*];done),by repeat (first|exact Drawn0.refl _|apply Drawn0.step)⟩
end Go.Proofs.YtpnjnlcjofaglaaDoor.P
