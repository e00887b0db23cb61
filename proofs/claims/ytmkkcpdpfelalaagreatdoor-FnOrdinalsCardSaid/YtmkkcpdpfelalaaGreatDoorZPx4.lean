/- Written by a program in this session: each theorem here says that a Go function computes the Lean function beside it, or that a law's row holds, under the conditions that the theorem itself states. -/
import Derived.Test.YtmkkcpdpfelalaaGreatDoorZPx0
import Derived.Test.YtmkkcpdpfelalaaGreatDoorZPx1
import Derived.Test.YtmkkcpdpfelalaaGreatDoorZPx3
import Derived.Test.YtmkkcpdpfelalaaGreatDoorZShelf
namespace Go.Proofs.YtmkkcpdpfelalaaGreatDoor.P
open Go.RowKit Go.Proofs.YtmkkcpdpfelalaaGreatDoorW.PrintWords Go.Proofs.YtmkkcpdpfelalaaGreatDoorW.PrintLast Go.Proofs.YtmkkcpdpfelalaaGreatDoorW.PrintMore
attribute [local go_sem] max2_int min2_int max_two min_two max_three min_three max_four min_four   -- for this text's walks alone
set_option linter.unusedVariables false
set_option linter.unusedSimpArgs false
def spec_l1Cur_number23.f (s0_0 : List Int) (s0_1 : Int) (s0_2 : Int) : Option (Int × Int × Int) := (spec_l1Cur_pick.f s0_0 s0_1 s0_2 1000).bind fun bt234 => ((some (([0,1,2,3,11,12,21,101,111,1999,bt234.1,999999,(-1),1000000] : List Int) : List Int)).bind fun y237 => ((spec_l1Cur_pick.f s0_0 bt234.2.1 bt234.2.2 24).bind fun bt240 => (if 0 ≤ (wrap64 (12 + (wrap64 (Int.tdiv bt240.1 11)))) then (if (wrap64 (12 + (wrap64 (Int.tdiv bt240.1 11)))) ≤ (y237.length : Int) then ((spec_l1Cur_among.f s0_0 bt240.2.1 bt240.2.2 (y237.take ((wrap64 (12 + (wrap64 (Int.tdiv bt240.1 11)))) : Int).toNat)).bind fun bt247 => (some (bt247.1,bt247.2.1,bt247.2.2))) else (none)) else (none))))
set_option maxHeartbeats 8000000 in
set_option maxRecDepth 100000 in
theorem spec_l1Cur_number23.calls (g : Nat) (s0_0 : List Int) (s0_1 : Int) (s0_2 : Int) (r1 : Int) (r2 : Int) (r3 : Int) (w0 w : World) (hI : IsS45 w0 w g s0_0 s0_1 s0_2) (hB : Below w0.heap.size w0 w) (h : spec_l1Cur_number23.f s0_0 s0_1 s0_2 = some (r1,r2,r3)) :
  Calls Tryz.prog 18 #[.pointer (some ⟨g,0,none⟩)] w fun e w' => e = .returned (.int .i64 r1) ∧ IsS45 w0 w' g s0_0 r2 r3 ∧ Below w0.heap.size w0 w' ∧ KeepBut w w' g none := by
 have HI0 := aM hI;have HK := aM (KeepBut.refl w g none);have HL := aM hB.size;clear hI;have HW0 := aM hB.size;have HB := aM hB;clear hB;have H : ((spec_l1Cur_pick.f s0_0 s0_1 s0_2 1000).bind fun bt234 => ((some (([0,1,2,3,11,12,21,101,111,1999,bt234.1,999999,(-1),1000000] : List Int) : List Int)).bind fun y237 => ((spec_l1Cur_pick.f s0_0 bt234.2.1 bt234.2.2 24).bind fun bt240 => (if 0 ≤ (wrap64 (12 + (wrap64 (Int.tdiv bt240.1 11)))) then (if (wrap64 (12 + (wrap64 (Int.tdiv bt240.1 11)))) ≤ (y237.length : Int) then ((spec_l1Cur_among.f s0_0 bt240.2.1 bt240.2.2 (y237.take ((wrap64 (12 + (wrap64 (Int.tdiv bt240.1 11)))) : Int).toNat)).bind fun bt247 => (some (bt247.1,bt247.2.1,bt247.2.2))) else (none)) else (none))))) = some (r1,r2,r3) := h;clear h;replace H := Option.bind_eq_some_iff.mp H;obtain ⟨⟨t234,t235,t236⟩,A20,H⟩ := H;replace H : ((some (([0,1,2,3,11,12,21,101,111,1999,t234,999999,(-1),1000000] : List Int) : List Int)).bind fun y237 => ((spec_l1Cur_pick.f s0_0 t235 t236 24).bind fun bt240 => (if 0 ≤ (wrap64 (12 + (wrap64 (Int.tdiv bt240.1 11)))) then (if (wrap64 (12 + (wrap64 (Int.tdiv bt240.1 11)))) ≤ (y237.length : Int) then ((spec_l1Cur_among.f s0_0 bt240.2.1 bt240.2.2 (y237.take ((wrap64 (12 + (wrap64 (Int.tdiv bt240.1 11)))) : Int).toNat)).bind fun bt247 => (some (bt247.1,bt247.2.1,bt247.2.2))) else (none)) else (none)))) = some (r1,r2,r3) := H;have A2 := aM A20;clear A20;obtain ⟨y237,hy237⟩ : ∃ y_ : List Int,y_ = (([0,1,2,3,11,12,21,101,111,1999,t234,999999,(-1),1000000] : List Int)) := ⟨_,rfl⟩;replace H : ((spec_l1Cur_pick.f s0_0 t235 t236 24).bind fun bt240 => (if 0 ≤ (wrap64 (12 + (wrap64 (Int.tdiv bt240.1 11)))) then (if (wrap64 (12 + (wrap64 (Int.tdiv bt240.1 11)))) ≤ (y237.length : Int) then ((spec_l1Cur_among.f s0_0 bt240.2.1 bt240.2.2 (y237.take ((wrap64 (12 + (wrap64 (Int.tdiv bt240.1 11)))) : Int).toNat)).bind fun bt247 => (some (bt247.1,bt247.2.1,bt247.2.2))) else (none)) else (none))) = some (r1,r2,r3) := (by first|(rw [hy237];with_reducible exact H)|(have H2_ := (Option.bind_some _ _).symm.trans H;rw [hy237];with_reducible exact H2_)|(have H2_ := (Option.bind_some _ _).symm.trans H;with_reducible exact H2_)|with_reducible exact H|(rw [hy237];exact H)|exact H);have Ny237 := aM hy237;clear hy237;replace H := Option.bind_eq_some_iff.mp H;obtain ⟨⟨t240,t241,t242⟩,A30,H⟩ := H;replace H : (if 0 ≤ (wrap64 (12 + (wrap64 (Int.tdiv t240 11)))) then (if (wrap64 (12 + (wrap64 (Int.tdiv t240 11)))) ≤ (y237.length : Int) then ((spec_l1Cur_among.f s0_0 t241 t242 (y237.take ((wrap64 (12 + (wrap64 (Int.tdiv t240 11)))) : Int).toNat)).bind fun bt247 => (some (bt247.1,bt247.2.1,bt247.2.2))) else (none)) else (none)) = some (r1,r2,r3) := H;have A3 := aM A30;clear A30;obtain ⟨ji4,hji4⟩ : ∃ j_ : Int,(wrap64 (12 + (wrap64 (Int.tdiv t240 11)))) = j_ := ⟨_,rfl⟩;replace H : (if 0 ≤ (ji4) then (if (ji4) ≤ (y237.length : Int) then ((spec_l1Cur_among.f s0_0 t241 t242 (y237.take ((ji4) : Int).toNat)).bind fun bt247 => (some (bt247.1,bt247.2.1,bt247.2.2))) else (none)) else (none)) = some (r1,r2,r3) := (by first|(rw [hji4] at H;exact H)|(simp only [hji4] at H ⊢;exact H));(try rw [hji4] at A2);(try rw [hji4] at A3);have hji4w : (IntKind.i64.wrap (12 + (wrap64 (Int.tdiv t240 11)))) = ji4 := (i64_w _).trans hji4
 by_cases c5 : 0 ≤ (ji4)
 ·rw [if_pos c5] at H;have c5b0 := eq_true c5;have c5b1 : decide (0 ≤ (ji4)) = true := dT c5;clear c5
  by_cases c6 : (ji4) ≤ (y237.length : Int)
  ·rw [if_pos c6] at H;have c6b0 := eq_true c6;have c6b1 : decide ((ji4) ≤ (y237.length : Int)) = true := dT c6;clear c6;obtain ⟨y243,hy243⟩ : ∃ y_ : List Int,y_ = (y237.take ((ji4) : Int).toNat) := ⟨_,rfl⟩;replace H : ((spec_l1Cur_among.f s0_0 t241 t242 y243).bind fun bt247 => (some (bt247.1,bt247.2.1,bt247.2.2))) = some (r1,r2,r3) := (by first|(rw [hy243];with_reducible exact H)|(have H2_ := (Option.bind_some _ _).symm.trans H;rw [hy243];with_reducible exact H2_)|(have H2_ := (Option.bind_some _ _).symm.trans H;with_reducible exact H2_)|with_reducible exact H|(rw [hy243];exact H)|exact H);have Ny243 := aM hy243;clear hy243;replace H := Option.bind_eq_some_iff.mp H;obtain ⟨⟨t247,t248,t249⟩,A70,H⟩ := H;replace H : (some (t247,t248,t249)) = some (r1,r2,r3) := H;have A7 := aM A70;clear A70;simp only [eS,eP] at H;obtain ⟨rfl,rfl,rfl⟩ := H;go_enter Tryz.func18,Tryz.ntmps18;go_wp2_with (first|((with_reducible refine gate_callee (f := 29) rfl ?_);refine goesL_ (some 5) rfl rfl Tryz.func29 (by kernel_rfl) rfl #[.pointer (some ⟨g,0,none⟩),.int .i64 1000] rfl (by (try simp only [mT,mC,mN]);first|done|rfl|(simp only [xD,xT];rfl)) ?_;(with_reducible refine (spec_l1Cur_pick.calls g s0_0 s0_1 s0_2 1000 t234 t235 t236 w0 _ ?side1 ?side2 A2.out).mono ?_);(case side1 => exact hi45_);(case side2 => repeat (first|(with_reducible first|exact HB.out|apply lA|apply lN|apply lD|refine lS ?_ (IsS45.ge HI0.out))|exact HB.out));rintro e w8 ⟨rfl,hi,hb,hk⟩;refine ⟨_,rfl,?_⟩;replace HK := aM (KeepBut.trans hk_ hk (.inl rfl));replace HB := aM (hb);replace HI0 := aM (hi);(try clear hb))|((with_reducible refine gate_dst (N := 6) rfl ?_);refine Kd.R_lit (Kd.int .i64) _ 3 ?hg (N := 6) ?hd (xs := ([0,1,2,3,11,12,21,101,111,1999,t234,999999,(-1),1000000] : List Int)) (inner := [.int .i64 0,.int .i64 1,.int .i64 2,.int .i64 3,.int .i64 11,.int .i64 12,.int .i64 21,.int .i64 101,.int .i64 111,.int .i64 1999,.int .i64 t234,.int .i64 999999,.int .i64 (-1),.int .i64 1000000]) (ok := fun _ => True) (okp := fun _ => True) ?hr ?hp (fun _ hk => hk) trivial (Below.refl _ _) (Nat.le_refl _) (by simp) ?_;(case hd => rfl);(case hg => rfl);(case hr => first|(go_simp;done)|(go_simp;rfl));(case hp => exact (Reps.one (show Kd.M (Kd.int .i64) _ _ _ 0 [.int .i64 0] from rfl) (Reps.one (show Kd.M (Kd.int .i64) _ _ _ 1 [.int .i64 1] from rfl) (Reps.one (show Kd.M (Kd.int .i64) _ _ _ 2 [.int .i64 2] from rfl) (Reps.one (show Kd.M (Kd.int .i64) _ _ _ 3 [.int .i64 3] from rfl) (Reps.one (show Kd.M (Kd.int .i64) _ _ _ 11 [.int .i64 11] from rfl) (Reps.one (show Kd.M (Kd.int .i64) _ _ _ 12 [.int .i64 12] from rfl) (Reps.one (show Kd.M (Kd.int .i64) _ _ _ 21 [.int .i64 21] from rfl) (Reps.one (show Kd.M (Kd.int .i64) _ _ _ 101 [.int .i64 101] from rfl) (Reps.one (show Kd.M (Kd.int .i64) _ _ _ 111 [.int .i64 111] from rfl) (Reps.one (show Kd.M (Kd.int .i64) _ _ _ 1999 [.int .i64 1999] from rfl) (Reps.one (show Kd.M (Kd.int .i64) _ _ _ t234 [.int .i64 t234] from rfl) (Reps.one (show Kd.M (Kd.int .i64) _ _ _ 999999 [.int .i64 999999] from rfl) (Reps.one (show Kd.M (Kd.int .i64) _ _ _ (-1) [.int .i64 (-1)] from rfl) (Reps.one (show Kd.M (Kd.int .i64) _ _ _ 1000000 [.int .i64 1000000] from rfl) (Reps.none _ _))))))))))))))));intro v238 w9 ho10 hb hg_ hnew_;clear hg_ hnew_;(first|rw [← Ny237.out] at ho10|(simp only [Int.reduceToNat] at ho10;rw [← Ny237.out] at ho10));have HO239 := aM (Kd.R_lower ho10 (keep_size (w := w) (g := g) (row := none) hk_));replace HK := aM (KeepBut.trans hk_ (KeepBut.of_below hb g none) (.inl rfl));replace HB := aM (lT hb45_ hb);replace HI0 := aM (IsS45.below hi45_ hb);clear hb ho10)|((with_reducible refine gate_callee (f := 29) rfl ?_);refine goesL_ (some 8) rfl rfl Tryz.func29 (by kernel_rfl) rfl #[.pointer (some ⟨g,0,none⟩),.int .i64 24] rfl (by (try simp only [mT,mC,mN]);first|done|rfl|(simp only [xD,xT];rfl)) ?_;(with_reducible refine (spec_l1Cur_pick.calls g s0_0 t235 t236 24 t240 t241 t242 w0 _ ?side1 ?side2 A3.out).mono ?_);(case side1 => exact hi45_);(case side2 => repeat (first|(with_reducible first|exact HB.out|apply lA|apply lN|apply lD|refine lS ?_ (IsS45.ge HI0.out))|exact HB.out));rintro e w11 ⟨rfl,hi,hb,hk⟩;refine ⟨_,rfl,?_⟩;replace HO239 := aM (Kd.R_mono (Kd.R_keep (IsS45.apart (show IsS45 w0 _ g s0_0 t235 t236 from hi45_) (ho_ HO239.out) (by decide)) hk (fun _ h => h.2)) (fun _ h => h.1));replace HK := aM (KeepBut.trans hk_ hk (.inl rfl));replace HB := aM (hb);replace HI0 := aM (hi);(try clear hb);obtain ⟨Ao13,co13,eo13⟩ := Kd.R_slice HO239.out;subst eo13;have q12 : ((ji4) : Int) ≤ ((y237.length : Int) : Int) := oD (by assumption);obtain ⟨i012,hi012,_,hsz12,_⟩ := info_parts info3;have hroom12 : y237.length ≤ co13 := (rR HO239.out).2.1;have hC12 : Kd.C (Kd.int .i64) _ Ao13 y237.length y237 := (rR HO239.out).2.2;have hcut12 := cut_to (P := Tryz.prog) 61 3 .i64 Tryz.underlying61 hi012 Ao13 y237.length co13 (ji4) (oD (by assumption)) q12 hroom12;have hr12 := Kd.C_take (m := ((ji4) : Int).toNat) hC12 (by omega);have hy12 : y243.length = ((ji4) : Int).toNat := (by rw [Ny243.out,xT];omega);rw [← Ny243.out] at hr12;rw [← hy12] at hcut12;have HR246 := aM hr12;have HC246 := aM (show y243.length ≤ co13 from by omega);clear hr12 hC12 hroom12 hi012 hsz12;have KY12 := aM hy12;clear hy12;have KL12 := aM (show ((ji4) : Int).toNat ≤ y237.length from by omega);replace q12 := eq_true q12)|((with_reducible refine gate_callee (f := 36) rfl ?_);refine goesL_ (some 12) rfl rfl Tryz.func36 (by kernel_rfl) rfl #[.pointer (some ⟨g,0,none⟩),.slice Ao13 y243.length co13] rfl (by (try simp only [mT,mC,mN]);first|done|rfl|(simp only [xD,xT];rfl)) ?_;(with_reducible refine (spec_l1Cur_among.calls g s0_0 t241 t242 _ _ y243 t247 t248 t249 w0 _ ?side1 ?side2 ?side3 ?side4 ?side5 A7.out).mono ?_);(case side1 => exact hi45_);(case side2 => repeat (first|(with_reducible first|exact HB.out|apply lA|apply lN|apply lD|refine lS ?_ (IsS45.ge HI0.out))|exact HB.out));(case side3 => repeat (first|exact (by repeat (first|(with_reducible exact HR246.out)|(with_reducible first|refine cA ?_ _|refine cN ?_ _|refine cD ?_)|exact HR246.out))|(with_reducible first|refine cA ?_ _|refine cN ?_ _|refine cD ?_)));(case side4 => exact HC246.out);(case side5 => first|exact far_slice (IsS45.own_ne HI0.out HO239.out (by decide))|(have hz_ := IsS45.own_ne HI0.out HO239.out (by decide);intro ad_ e_ _ q_;exact hz_ (by simp [Value.ownBlock,e_,q_])));rintro e w14 ⟨rfl,hi,hb,hk⟩;refine ⟨_,rfl,?_⟩;replace HO239 := aM (Kd.R_mono (Kd.R_keep (IsS45.apart (show IsS45 w0 _ g s0_0 t241 t242 from hi45_) (ho_ HO239.out) (by decide)) hk (fun _ h => h.2)) (fun _ h => h.1));replace HK := aM (KeepBut.trans hk_ hk (.inl rfl));replace HB := aM (hb);replace HI0 := aM (hi);(try clear hb)));go_ret;exact ⟨by first|rfl|(simp [errW_none,errW_some] <;> rfl)|(simp only [← hji4];first|rfl|(simp [errW_none,errW_some] <;> rfl))|(simp [*,errW_none,errW_some] <;> rfl),hi45_,hb45_,hk_⟩
  ·rw [if_neg c6] at H;exact absurd H (by simp)
 ·rw [if_neg c5] at H;exact absurd H (by simp)
def spec_DrawOrdinalText.f (k : Nat) (l0 : List Int) : Option (ByteArray × (List (S65)) × (List (S67)) × ByteArray × ByteArray × Int) := (spec_l1Cur_anyLocale.f k l0 0 0).bind fun bt252 => ((spec_l1Cur_number23.f l0 bt252.2.2.2.2.2.1 bt252.2.2.2.2.2.2).bind fun bt263 => (some (bt252.1,bt252.2.1,bt252.2.2.1,bt252.2.2.2.1,bt252.2.2.2.2.1,bt263.1)))
theorem spec_DrawOrdinalText.mono : ∀ a0 k,LeO (spec_DrawOrdinalText.f k a0) (spec_DrawOrdinalText.f (k + 1) a0) := by
 intro a0 k
 unfold spec_DrawOrdinalText.f
 repeat' first
   | (with_reducible exact spec_l1Cur_anyLocale.mono _ _ _ _)
   | (with_reducible exact LeO.refl _)
   | (with_reducible exact LeO.none _)
   | (with_reducible refine LeO.ite ?_ ?_)
   | (with_reducible refine LeO.bind ?_ (fun _ => ?_))
   | exact spec_l1Cur_anyLocale.mono _ _ _ _
   | exact LeO.none _
   | refine LeO.ite ?_ ?_
   | refine LeO.bind ?_ (fun _ => ?_)
set_option maxHeartbeats 8000000 in
set_option maxRecDepth 100000 in
theorem spec_DrawOrdinalText.calls (k : Nat) (A0 : Option Addr) (c0 : Nat) (l0 : List Int) (r1 : ByteArray) (r2 : List (S65)) (r3 : List (S67)) (r4 : ByteArray) (r5 : ByteArray) (r6 : Int) (w : World) (hr0 : Kd.C (Kd.int .u8) w A0 l0.length l0) (hc0 : l0.length ≤ c0) (h : spec_DrawOrdinalText.f k l0 = some (r1,r2,r3,r4,r5,r6)) :
  Calls Tryz.prog 5 #[.slice A0 l0.length c0] w fun e w' => ∃ v1_ v2_ : Value,e = .returned (.tuple #[.agg #[.string r1,v1_,v2_,.string r4,.string r5],.int .i64 r6]) ∧ Kd.R k65 65 w' w.heap.size (fun _ => True) v1_ r2 ∧ Kd.R k67 67 w' w.heap.size (fun _ => True) v2_ r3 ∧ Below w.heap.size w w' := by
 have hu27 := Tryz.underlying27;have hu45 := Tryz.underlying45;have HR0 := aM hr0;have HC0 := aM hc0;clear hr0 hc0;have HB := aM (Below.refl w.heap.size w);have H : ((spec_l1Cur_anyLocale.f k l0 0 0).bind fun bt252 => ((spec_l1Cur_number23.f l0 bt252.2.2.2.2.2.1 bt252.2.2.2.2.2.2).bind fun bt263 => (some (bt252.1,bt252.2.1,bt252.2.2.1,bt252.2.2.2.1,bt252.2.2.2.2.1,bt263.1)))) = some (r1,r2,r3,r4,r5,r6) := h;clear h;replace H := Option.bind_eq_some_iff.mp H;obtain ⟨⟨t252,t253,t256,t259,t260,t261,t262⟩,A20,H⟩ := H;replace H : ((spec_l1Cur_number23.f l0 t261 t262).bind fun bt263 => (some (t252,t253,t256,t259,t260,bt263.1))) = some (r1,r2,r3,r4,r5,r6) := H;have A2 := aM A20;clear A20;replace H := Option.bind_eq_some_iff.mp H;obtain ⟨⟨t263,t264,t265⟩,A30,H⟩ := H;replace H : (some (t252,t253,t256,t259,t260,t263)) = some (r1,r2,r3,r4,r5,r6) := H;have A3 := aM A30;clear A30;simp only [eS,eP] at H;obtain ⟨rfl,rfl,rfl,rfl,rfl,rfl⟩ := H;go_enter Tryz.func5,Tryz.ntmps5;go_wp2_with (first|((with_reducible refine gate_dst (N := 2) rfl ?_);refine box_event ?hg (N := 2) ?hd (cs := #[.string (⟨#[]⟩ : ByteArray),.slice none 0 0,.slice none 0 0,.string (⟨#[]⟩ : ByteArray),.string (⟨#[]⟩ : ByteArray)]) (t := 27) ?hr ?_;(case hd => rfl);(case hg => rfl);(case hr => first|(go_simp;done)|(go_simp;rfl));intro gb250 hg w4 hbox hb;have BK250 := aM (hbox);have GW250 := aM ((by rw [hg];exact (lZ hb_) : w.heap.size ≤ gb250));have GE250 := GW250;replace HB := aM (lT hb_ hb);clear hb hbox hg)|((with_reducible refine gate_dst (N := 7) rfl ?_);refine box_event ?hg (N := 7) ?hd (cs := #[.slice A0 l0.length c0,.int .i64 0,.int .u64 0]) (t := 45) ?hr ?_;(case hd => rfl);(case hg => rfl);(case hr => first|(go_simp;done)|(go_simp;rfl));intro gb251 hg w5 hbox hb;have NB250_251 := aM ((by rw [hg];exact Nat.ne_of_lt (blk_lt (g := gb250) (o := .cells #[.string (⟨#[]⟩ : ByteArray),.slice none 0 0,.slice none 0 0,.string (⟨#[]⟩ : ByteArray),.string (⟨#[]⟩ : ByteArray)] 27 (0,0)) (bk_ BK250.out)) : gb250 ≠ gb251));have NB251_250 := aM ((by rw [hg];exact Nat.ne_of_gt (blk_lt (g := gb250) (o := .cells #[.string (⟨#[]⟩ : ByteArray),.slice none 0 0,.slice none 0 0,.string (⟨#[]⟩ : ByteArray),.string (⟨#[]⟩ : ByteArray)] 27 (0,0)) (bk_ BK250.out)) : gb251 ≠ gb250));have HI251 := aM ((show IsS45 w w5 gb251 l0 0 0 from ⟨_,_,hbox,(by rw [hg];exact (lZ hb_) : w.heap.size ≤ gb251),HR0.out⟩));replace BK250 := aM (bW (g := gb250) (o := .cells #[.string (⟨#[]⟩ : ByteArray),.slice none 0 0,.slice none 0 0,.string (⟨#[]⟩ : ByteArray),.string (⟨#[]⟩ : ByteArray)] 27 (0,0)) (bk_ BK250.out) hb);replace HB := aM (lT hb_ hb);clear hb hbox hg)|((with_reducible refine gate_callee (f := 17) rfl ?_);refine goesL_ (some 9) rfl rfl Tryz.func17 (by kernel_rfl) rfl #[.pointer (some ⟨gb251,0,none⟩)] rfl (by (try simp only [mT,mC,mN]);first|done|rfl|(simp only [xD,xT];rfl)) ?_;(with_reducible refine (spec_l1Cur_anyLocale.calls k gb251 l0 0 0 t252 t253 t256 t259 t260 t261 t262 w _ ?side1 ?side2 A2.out).mono ?_);(case side1 => repeat (first|(with_reducible first|exact HI251.out|apply IsS45.alloc|apply IsS45.drewN|apply IsS45.drew|apply IsS45.set_1|apply IsS45.set_2|refine IsS45.far ?_ NB251_250.out _)|exact HI251.out));(case side2 => repeat (first|(with_reducible first|exact HB.out|apply lA|apply lN|apply lD|refine lS ?_ (IsS45.ge HI251.out)|refine lS ?_ GE250.out)|exact HB.out));rintro e w6 ⟨v254,v257,rfl,ho0,ho1,hi,hb,hk⟩;refine ⟨_,rfl,?_⟩;have HO255 := aM (Kd.R_lower ho0 (lZ (by repeat (first|(with_reducible first|exact HB.out|apply lA|apply lN|apply lD|refine lS ?_ (IsS45.ge HI251.out)|refine lS ?_ GE250.out)|exact HB.out))));have HO258 := aM (Kd.R_lower ho1 (lZ (by repeat (first|(with_reducible first|exact HB.out|apply lA|apply lN|apply lD|refine lS ?_ (IsS45.ge HI251.out)|refine lS ?_ GE250.out)|exact HB.out))));replace BK250 := aM (KeepBut.blk hk (g' := gb250) (o := .cells #[.string (⟨#[]⟩ : ByteArray),.slice none 0 0,.slice none 0 0,.string (⟨#[]⟩ : ByteArray),.string (⟨#[]⟩ : ByteArray)] 27 (0,0)) (bk_ BK250.out) NB250_251.out (by simp));replace HB := aM (hb);replace HI251 := aM (hi);(try clear hb);(try clear ho0);(try clear ho1))|((with_reducible refine gate_callee (f := 18) rfl ?_);refine goesL_ (some 11) rfl rfl Tryz.func18 (by kernel_rfl) rfl #[.pointer (some ⟨gb251,0,none⟩)] rfl (by (try simp only [mT,mC,mN]);first|done|rfl|(simp only [xD,xT];rfl)) ?_;(with_reducible refine (spec_l1Cur_number23.calls gb251 l0 t261 t262 t263 t264 t265 w _ ?side1 ?side2 A3.out).mono ?_);(case side1 => repeat (first|(with_reducible first|exact HI251.out|apply IsS45.alloc|apply IsS45.drewN|apply IsS45.drew|apply IsS45.set_1|apply IsS45.set_2|refine IsS45.far ?_ NB251_250.out _)|exact HI251.out));(case side2 => repeat (first|(with_reducible first|exact HB.out|apply lA|apply lN|apply lD|refine lS ?_ (IsS45.ge HI251.out)|refine lS ?_ GE250.out)|exact HB.out));rintro e w7 ⟨rfl,hi,hb,hk⟩;refine ⟨_,rfl,?_⟩;replace BK250 := aM (KeepBut.blk hk (g' := gb250) (o := .cells #[.string (⟨#[]⟩ : ByteArray),.slice none 0 0,.slice none 0 0,.string (⟨#[]⟩ : ByteArray),.string (⟨#[]⟩ : ByteArray)] 27 (0,0)) (bk_ BK250.out) NB250_251.out (by simp));replace HO255 := aM (Kd.R_mono (Kd.R_keep (IsS45.apart (show IsS45 w _ gb251 l0 t261 t262 from by repeat (first|(with_reducible first|exact HI251.out|apply IsS45.alloc|apply IsS45.drewN|apply IsS45.drew|apply IsS45.set_1|apply IsS45.set_2|refine IsS45.far ?_ NB251_250.out _)|exact HI251.out)) (ho_ HO255.out) (by decide)) hk (fun _ h => h.2)) (fun _ h => h.1));replace HO258 := aM (Kd.R_mono (Kd.R_keep (IsS45.apart (show IsS45 w _ gb251 l0 t261 t262 from by repeat (first|(with_reducible first|exact HI251.out|apply IsS45.alloc|apply IsS45.drewN|apply IsS45.drew|apply IsS45.set_1|apply IsS45.set_2|refine IsS45.far ?_ NB251_250.out _)|exact HI251.out)) (ho_ HO258.out) (by decide)) hk (fun _ h => h.2)) (fun _ h => h.1));replace HB := aM (hb);replace HI251 := aM (hi);(try clear hb);have hnb8 := NB250_251.out;have hnc8 := NB251_250.out;obtain ⟨hcz9_0,hcz9_1,hcz9_2,hcz9_3,hcz9_4,hfz9_0,hfz9_1,hfz9_2,hfz9_3,hfz9_4⟩ := z5_ BK250.out;obtain ⟨Ao10,co10,eo10⟩ := Kd.R_slice HO255.out;subst eo10;obtain ⟨Ao11,co11,eo11⟩ := Kd.R_slice HO258.out;subst eo11));refine bodyPost_ret (results_ct rfl _ _ gb250 27 #[.string t252,.slice Ao10 t253.length co10,.slice Ao11 t256.length co11,.string t259,.string t260] (0,0) _ rfl (by (with_reducible repeat (first|refine bN ?_ _|refine bD ?_|refine bA ?_ _));refine blk_put (cs := #[.string t252,.slice Ao10 t253.length co10,.slice Ao11 t256.length co11,.string t259,.string (⟨#[]⟩ : ByteArray)]) ?_ 4 _ rfl;(with_reducible repeat (first|refine bN ?_ _|refine bD ?_|refine bA ?_ _));refine blk_put (cs := #[.string t252,.slice Ao10 t253.length co10,.slice Ao11 t256.length co11,.string (⟨#[]⟩ : ByteArray),.string (⟨#[]⟩ : ByteArray)]) ?_ 3 _ rfl;(with_reducible repeat (first|refine bN ?_ _|refine bD ?_|refine bA ?_ _));refine blk_put (cs := #[.string t252,.slice Ao10 t253.length co10,.slice none 0 0,.string (⟨#[]⟩ : ByteArray),.string (⟨#[]⟩ : ByteArray)]) ?_ 2 _ rfl;(with_reducible repeat (first|refine bN ?_ _|refine bD ?_|refine bA ?_ _));refine blk_put (cs := #[.string t252,.slice none 0 0,.slice none 0 0,.string (⟨#[]⟩ : ByteArray),.string (⟨#[]⟩ : ByteArray)]) ?_ 1 _ rfl;(with_reducible repeat (first|refine bN ?_ _|refine bD ?_|refine bA ?_ _));refine blk_put (cs := #[.string (⟨#[]⟩ : ByteArray),.slice none 0 0,.slice none 0 0,.string (⟨#[]⟩ : ByteArray),.string (⟨#[]⟩ : ByteArray)]) ?_ 0 _ rfl;(with_reducible repeat (first|refine bN ?_ _|refine bD ?_|refine bA ?_ _));exact BK250.out) Tryz.underlying27 rfl (by kernel_rfl)) rfl ?_;exact ⟨_,_,by first|rfl|(simp [*];done),by (with_reducible repeat (first|apply rA|apply rN|apply rD));exact Kd.R_mono (rF (p := ⟨gb250,4,none⟩) (rF (p := ⟨gb250,3,none⟩) (rF (p := ⟨gb250,2,none⟩) (rF (p := ⟨gb250,1,none⟩) (rF (p := ⟨gb250,0,none⟩) (Kd.R_types HO255.out BK250.out (by decide)) (fun _ hk => hk.2) (.string t252)) (fun _ hk => hk.2) (.slice Ao10 t253.length co10)) (fun _ hk => hk.2) (.slice Ao11 t256.length co11)) (fun _ hk => hk.2) (.string t259)) (fun _ hk => hk.2) (.string t260)) (fun _ hk => trivial),by (with_reducible repeat (first|apply rA|apply rN|apply rD));exact Kd.R_mono (rF (p := ⟨gb250,4,none⟩) (rF (p := ⟨gb250,3,none⟩) (rF (p := ⟨gb250,2,none⟩) (rF (p := ⟨gb250,1,none⟩) (rF (p := ⟨gb250,0,none⟩) (Kd.R_types HO258.out BK250.out (by decide)) (fun _ hk => hk.2) (.string t252)) (fun _ hk => hk.2) (.slice Ao10 t253.length co10)) (fun _ hk => hk.2) (.slice Ao11 t256.length co11)) (fun _ hk => hk.2) (.string t259)) (fun _ hk => hk.2) (.string t260)) (fun _ hk => trivial),by repeat (first|(with_reducible first|exact HB.out|apply lA|apply lN|apply lD|refine lS ?_ (IsS45.ge HI251.out)|refine lS ?_ GE250.out)|exact HB.out)⟩
def impl_inside.f (a0 : Int) (a1 : Int) (a2 : Int) : Option (Bool) := if a0 ≥ a1 then (some (decide (a0 ≤ a2))) else (some false)
set_option maxHeartbeats 8000000 in
set_option maxRecDepth 100000 in
theorem impl_inside.calls (a0 : Int) (a1 : Int) (a2 : Int) (r : Bool) (w : World) (h : impl_inside.f a0 a1 a2 = some r) :
  Calls Tryz.prog 37 #[.int .i64 a0,.int .i64 a1,.int .i64 a2] w fun e w' => e = .returned (.bool r) ∧ Drawn0 w w' := by
 have H : (if a0 ≥ a1 then (some (decide (a0 ≤ a2))) else (some false)) = some r := h;clear h
 by_cases c4 : a0 ≥ a1
 focus
  rw [if_pos c4] at H;have c4b0 : decide (a1 ≤ a0) = true := dT c4;clear c4;obtain rfl := Option.some.inj H;simp only [eS,eP] at H;obtain ⟨rfl⟩ := H
 rotate_left
 focus
  rw [if_neg c4] at H;have c4b0 : decide (a1 ≤ a0) = false := dF c4;clear c4;obtain rfl := Option.some.inj H;simp only [eS,eP] at H;obtain ⟨rfl⟩ := H
 all_goals
  go_enter Tryz.func37,Tryz.ntmps37;go_wp2;go_ret;exact ⟨by first|rfl|(simp [*];done),by repeat (first|exact Drawn0.refl _|apply Drawn0.step)⟩
def stringslite_HasSuffix.f (a0 : ByteArray) (a1 : ByteArray) : Option (Bool) := if (a0.size : Int) ≥ (a1.size : Int) then (if 0 ≤ (wrap64 ((a0.size : Int) - (a1.size : Int))) then (if (wrap64 ((a0.size : Int) - (a1.size : Int))) ≤ (a0.size : Int) then (some ((a0.extract ((wrap64 ((a0.size : Int) - (a1.size : Int))) : Int).toNat a0.size).toList == a1.toList)) else (none)) else (none)) else (some false)
set_option maxHeartbeats 8000000 in
set_option maxRecDepth 100000 in
theorem stringslite_HasSuffix.calls (a0 : ByteArray) (a1 : ByteArray) (r : Bool) (w : World) (h : stringslite_HasSuffix.f a0 a1 = some r) :
  Calls Tryz.prog 85 #[.string a0,.string a1] w fun e w' => e = .returned (.bool r) ∧ Drawn0 w w' := by
 have H : (if (a0.size : Int) ≥ (a1.size : Int) then (if 0 ≤ (wrap64 ((a0.size : Int) - (a1.size : Int))) then (if (wrap64 ((a0.size : Int) - (a1.size : Int))) ≤ (a0.size : Int) then (some ((a0.extract ((wrap64 ((a0.size : Int) - (a1.size : Int))) : Int).toNat a0.size).toList == a1.toList)) else (none)) else (none)) else (some false)) = some r := h;clear h
 by_cases c3 : (a0.size : Int) ≥ (a1.size : Int)
 ·rw [if_pos c3] at H;have c3b0 : decide ((a1.size : Int) ≤ (a0.size : Int)) = true := dT c3;have c3b1 : decide (a1.size ≤ a0.size) = true := dT (Int.ofNat_le.mp c3);clear c3;obtain ⟨ji4,hji4⟩ : ∃ j_ : Int,(wrap64 ((a0.size : Int) - (a1.size : Int))) = j_ := ⟨_,rfl⟩;replace H : (if 0 ≤ (ji4) then (if (ji4) ≤ (a0.size : Int) then (some ((a0.extract ((ji4) : Int).toNat a0.size).toList == a1.toList)) else (none)) else (none)) = some r := (by first|(rw [hji4] at H;exact H)|(simp only [hji4] at H ⊢;exact H));have hji4w : (IntKind.i64.wrap ((a0.size : Int) - (a1.size : Int))) = ji4 := (i64_w _).trans hji4
  by_cases c5 : 0 ≤ (ji4)
  ·rw [if_pos c5] at H;have c5b0 := eq_true c5;have c5b1 : decide (0 ≤ (ji4)) = true := dT c5;clear c5
   by_cases c6 : (ji4) ≤ (a0.size : Int)
   ·rw [if_pos c6] at H;have c6b0 := eq_true c6;have c6b1 : decide ((ji4) ≤ (a0.size : Int)) = true := dT c6;clear c6;obtain rfl := Option.some.inj H;simp only [eS,eP] at H;obtain ⟨rfl⟩ := H;go_enter Tryz.func85,Tryz.ntmps85;go_wp2;go_ret;exact ⟨by first|rfl|(simp;done)|(simp [my_isEmpty];done)|(simp only [← hji4] <;> (first|rfl|simp))|(simp [*];done),by repeat (first|exact Drawn0.refl _|apply Drawn0.step)⟩
   ·rw [if_neg c6] at H;exact absurd H (by simp)
  ·rw [if_neg c5] at H;exact absurd H (by simp)
 ·rw [if_neg c3] at H;have c3b0 : decide ((a1.size : Int) ≤ (a0.size : Int)) = false := dF c3;have c3b1 : decide (a1.size ≤ a0.size) = false := dF (fun h => c3 (Int.ofNat_le.mpr h));clear c3;obtain rfl := Option.some.inj H;simp only [eS,eP] at H;obtain ⟨rfl⟩ := H;go_enter Tryz.func85,Tryz.ntmps85;go_wp2;go_ret;exact ⟨by first|rfl|(simp [*];done),by repeat (first|exact Drawn0.refl _|apply Drawn0.step)⟩
def stringslite_TrimSuffix.f (a0 : ByteArray) (a1 : ByteArray) : Option (ByteArray) := (stringslite_HasSuffix.f a0 a1).bind fun t266 => (if t266 = true then (if 0 ≤ (wrap64 ((a0.size : Int) - (a1.size : Int))) then (if (wrap64 ((a0.size : Int) - (a1.size : Int))) ≤ (a0.size : Int) then (some (a0.extract 0 ((wrap64 ((a0.size : Int) - (a1.size : Int))) : Int).toNat)) else (none)) else (none)) else (some a0))
set_option maxHeartbeats 8000000 in
set_option maxRecDepth 100000 in
theorem stringslite_TrimSuffix.calls (a0 : ByteArray) (a1 : ByteArray) (r : ByteArray) (w : World) (h : stringslite_TrimSuffix.f a0 a1 = some r) :
  Calls Tryz.prog 76 #[.string a0,.string a1] w fun e w' => e = .returned (.string r) ∧ Drawn0 w w' := by
 have H : ((stringslite_HasSuffix.f a0 a1).bind fun t266 => (if t266 = true then (if 0 ≤ (wrap64 ((a0.size : Int) - (a1.size : Int))) then (if (wrap64 ((a0.size : Int) - (a1.size : Int))) ≤ (a0.size : Int) then (some (a0.extract 0 ((wrap64 ((a0.size : Int) - (a1.size : Int))) : Int).toNat)) else (none)) else (none)) else (some a0))) = some r := h;clear h;obtain ⟨t266,A3,H⟩ := bE_ H
 by_cases c4 : t266 = true
 focus
  subst c4;rw [if_pos rfl] at H;obtain ⟨ji5,hji5⟩ : ∃ j_ : Int,(wrap64 ((a0.size : Int) - (a1.size : Int))) = j_ := ⟨_,rfl⟩;replace H : (if 0 ≤ (ji5) then (if (ji5) ≤ (a0.size : Int) then (some (a0.extract 0 ((ji5) : Int).toNat)) else (none)) else (none)) = some r := (by first|(rw [hji5] at H;exact H)|(simp only [hji5] at H ⊢;exact H));(try rw [hji5] at A3);have hji5w : (IntKind.i64.wrap ((a0.size : Int) - (a1.size : Int))) = ji5 := (i64_w _).trans hji5
  by_cases c6 : 0 ≤ (ji5)
  rotate_left;rw [if_neg c6] at H;exact absurd H (by simp);rw [if_pos c6] at H;have c6b0 := eq_true c6;have c6b1 : decide (0 ≤ (ji5)) = true := dT c6;clear c6
  by_cases c7 : (ji5) ≤ (a0.size : Int)
  rotate_left;rw [if_neg c7] at H;exact absurd H (by simp);rw [if_pos c7] at H;have c7b0 := eq_true c7;have c7b1 : decide ((ji5) ≤ (a0.size : Int)) = true := dT c7;clear c7;obtain rfl := Option.some.inj H;simp only [eS,eP] at H;obtain ⟨rfl⟩ := H
 rotate_left
 focus
  replace c4 := Bool.eq_false_iff.mpr c4;subst c4;rw [if_neg Bool.false_ne_true] at H;obtain rfl := Option.some.inj H;simp only [eS,eP] at H;obtain ⟨rfl⟩ := H
 all_goals
  go_enter Tryz.func76,Tryz.ntmps76;go_wp2_with (first|((with_reducible refine gate_callee (f := 85) rfl ?_);refine goesL_ (some 7) rfl rfl Tryz.func85 (by kernel_rfl) rfl #[.string a0,.string a1] rfl (by (try simp only [mT,mC,mN]);first|done|rfl|(simp only [xD,xT];rfl)) ?_;(with_reducible refine (stringslite_HasSuffix.calls _ _ _ _ A3.out).mono ?_);rintro e w' ⟨rfl,⟨nd,rfl⟩⟩;refine ⟨_,rfl,?_⟩));go_ret;(first|exact ⟨by first|rfl|(simp;done)|(simp [my_isEmpty];done)|(simp only [← hji5] <;> (first|rfl|simp))|(simp [*];done),by repeat (first|exact Drawn0.refl _|apply Drawn0.step)⟩|exact ⟨by first|rfl|(simp [*];done),by repeat (first|exact Drawn0.refl _|apply Drawn0.step)⟩)
def strings_TrimSuffix.f (a0 : ByteArray) (a1 : ByteArray) : Option (ByteArray) := (stringslite_TrimSuffix.f a0 a1).bind fun t267 => (some t267)
set_option maxHeartbeats 8000000 in
set_option maxRecDepth 100000 in
theorem strings_TrimSuffix.calls (a0 : ByteArray) (a1 : ByteArray) (r : ByteArray) (w : World) (h : strings_TrimSuffix.f a0 a1 = some r) :
  Calls Tryz.prog 65 #[.string a0,.string a1] w fun e w' => e = .returned (.string r) ∧ Drawn0 w w' := by
 have H : ((stringslite_TrimSuffix.f a0 a1).bind fun t267 => (some t267)) = some r := h;clear h;obtain ⟨t267,A3,H⟩ := bE_ H;obtain rfl := Option.some.inj H;simp only [eS,eP] at H;obtain ⟨rfl⟩ := H;go_enter Tryz.func65,Tryz.ntmps65;go_wp2_with (first|((with_reducible refine gate_callee (f := 76) rfl ?_);refine goesL_ (some 7) rfl rfl Tryz.func76 (by kernel_rfl) rfl #[.string a0,.string a1] rfl (by (try simp only [mT,mC,mN]);first|done|rfl|(simp only [xD,xT];rfl)) ?_;(with_reducible refine (stringslite_TrimSuffix.calls a0 a1 t267 _ A3.out).mono ?_);rintro e w' ⟨rfl,⟨nd,rfl⟩⟩;refine ⟨_,rfl,?_⟩));go_ret;exact ⟨by first|rfl|(simp [*];done),by repeat (first|exact Drawn0.refl _|apply Drawn0.step)⟩
def impl_isLower.f (a0 : Int) : Option (Bool) := if a0 ≥ 97 then (some (decide (a0 ≤ 122))) else (some false)
set_option maxHeartbeats 8000000 in
set_option maxRecDepth 100000 in
theorem impl_isLower.calls (a0 : Int) (r : Bool) (w : World) (h : impl_isLower.f a0 = some r) :
  Calls Tryz.prog 66 #[.int .u8 a0] w fun e w' => e = .returned (.bool r) ∧ Drawn0 w w' := by
 have H : (if a0 ≥ 97 then (some (decide (a0 ≤ 122))) else (some false)) = some r := h;clear h
 by_cases c2 : a0 ≥ 97
 focus
  rw [if_pos c2] at H;have c2b0 : decide (97 ≤ a0) = true := dT c2;clear c2;obtain rfl := Option.some.inj H;simp only [eS,eP] at H;obtain ⟨rfl⟩ := H
 rotate_left
 focus
  rw [if_neg c2] at H;have c2b0 : decide (97 ≤ a0) = false := dF c2;clear c2;obtain rfl := Option.some.inj H;simp only [eS,eP] at H;obtain ⟨rfl⟩ := H
 all_goals
  go_enter Tryz.func66,Tryz.ntmps66;go_wp2;go_ret;exact ⟨by first|rfl|(simp [*];done),by repeat (first|exact Drawn0.refl _|apply Drawn0.step)⟩
def impl_isSmall.l0 : Nat → ByteArray → Int → Int → Int → Option (Bool)
 | 0,_,_,_,_ => none
 | k + 1,x0,x1,x2,x9 => if x9 < (x0.size : Int) then (if 0 ≤ x9 then ((impl_isLower.f (bt x0 x9)).bind fun t269 => (if t269 = true then (impl_isSmall.l0 k x0 x1 x2 (wrap64 (x9 + 1))) else (some false))) else (none)) else ((impl_inside.f (x0.size : Int) x1 x2).bind fun t270 => (some t270))
def impl_isSmall.f (k : Nat) (a0 : ByteArray) (a1 : Int) (a2 : Int) (a3 : ByteArray) : Option (Bool) := (strings_TrimSuffix.f a0 a3).bind fun t268 => (impl_isSmall.l0 k t268 a1 a2 0)
theorem impl_isSmall.mono_l : ∀ k,(∀ y0 y1 y2 y3,LeO (impl_isSmall.l0 k y0 y1 y2 y3) (impl_isSmall.l0 (k + 1) y0 y1 y2 y3))
 | 0 => fun _ _ _ _ r h => by simp [impl_isSmall.l0] at h
 | k + 1 => by
  have ih0 := impl_isSmall.mono_l k
  ·intro y0 y1 y2 y3
   unfold impl_isSmall.l0
   repeat' first
   | (with_reducible exact ih0 _ _ _ _)
   | (with_reducible exact LeO.refl _)
   | (with_reducible exact LeO.none _)
   | (with_reducible refine LeO.ite ?_ ?_)
   | (with_reducible refine LeO.bind ?_ (fun _ => ?_))
   | exact ih0 _ _ _ _
   | exact LeO.none _
   | refine LeO.ite ?_ ?_
   | refine LeO.bind ?_ (fun _ => ?_)
theorem impl_isSmall.mono : ∀ a0 a1 a2 a3 k,LeO (impl_isSmall.f k a0 a1 a2 a3) (impl_isSmall.f (k + 1) a0 a1 a2 a3) := by
 intro a0 a1 a2 a3 k
 have ih0 := impl_isSmall.mono_l k
 unfold impl_isSmall.f
 repeat' first
   | (with_reducible exact ih0 _ _ _ _)
   | (with_reducible exact LeO.refl _)
   | (with_reducible exact LeO.none _)
   | (with_reducible refine LeO.ite ?_ ?_)
   | (with_reducible refine LeO.bind ?_ (fun _ => ?_))
   | exact ih0 _ _ _ _
   | exact LeO.none _
   | refine LeO.ite ?_ ?_
   | refine LeO.bind ?_ (fun _ => ?_)
set_option maxHeartbeats 8000000 in
set_option maxRecDepth 100000 in
theorem impl_isSmall.calls (k : Nat) (a0 : ByteArray) (a1 : Int) (a2 : Int) (a3 : ByteArray) (r : Bool) (w : World) (h : impl_isSmall.f k a0 a1 a2 a3 = some r) :
  Calls Tryz.prog 57 #[.string a0,.int .i64 a1,.int .i64 a2,.string a3] w fun e w' => e = .returned (.bool r) ∧ Drawn0 w w' := by
 have H : ((strings_TrimSuffix.f a0 a3).bind fun t268 => (impl_isSmall.l0 k t268 a1 a2 0)) = some r := h;clear h;obtain ⟨t268,A5,H⟩ := bE_ H;have H' := aM H;clear H;go_enter Tryz.func57,Tryz.ntmps57;go_wp2_with (first|((with_reducible refine gate_callee (f := 65) rfl ?_);refine goesL_ (some 12) rfl rfl Tryz.func65 (by kernel_rfl) rfl #[.string a0,.string a3] rfl (by (try simp only [mT,mC,mN]);first|done|rfl|(simp only [xD,xT];rfl)) ?_;(with_reducible refine (strings_TrimSuffix.calls a0 a3 t268 _ A5.out).mono ?_);rintro e w' ⟨rfl,⟨nd,rfl⟩⟩;refine ⟨_,rfl,?_⟩));go_loopg [9] k (fun kq v9 w' => ∃ (x9_1 : Int),v9 = .int .i64 x9_1 ∧ Aside0 (impl_isSmall.l0 kq t268 a1 a2 x9_1 = some r) ∧ Aside0 (kq ≤ k) ∧ Drawn0 w w')
 case atStart => exact ⟨(0),(by first|rfl|(simp [*];done)),H',⟨Nat.le_refl _⟩,by repeat (first|exact Drawn0.refl _|apply Drawn0.step)⟩
 case round =>
  clear H';(try clear p2);(try clear c5);obtain ⟨x9_1,rfl,HA,HK1,⟨m1,rfl⟩⟩ := hrel
  cases gk with
  | zero => exact absurd HA.out (by simp [impl_isSmall.l0])
  | succ k1 =>
   have H := HA.out;clear HA;simp only [impl_isSmall.l0] at H
   by_cases c6 : x9_1 < (t268.size : Int)
   focus
    rw [if_pos c6] at H;have c6b0 : decide (x9_1 < (t268.size : Int)) = true := dT c6;clear c6
    by_cases c7 : 0 ≤ x9_1
    rotate_left;rw [if_neg c7] at H;exact absurd H (by simp);rw [if_pos c7] at H;have c7b0 : decide (0 ≤ x9_1) = true := dT c7;clear c7;obtain ⟨t269,A9,H⟩ := bE_ H
    by_cases c10 : t269 = true
    focus
     subst c10;rw [if_pos rfl] at H;have H' := aM H;clear H
    rotate_left
    focus
     replace c10 := Bool.eq_false_iff.mpr c10;subst c10;rw [if_neg Bool.false_ne_true] at H;obtain rfl := Option.some.inj H;simp only [eS,eP] at H;obtain ⟨rfl⟩ := H
   rotate_left 2
   focus
    rw [if_neg c6] at H;have c6b0 : decide (x9_1 < (t268.size : Int)) = false := dF c6;clear c6;obtain ⟨t270,A11,H⟩ := bE_ H;obtain rfl := Option.some.inj H;simp only [eS,eP] at H;obtain ⟨rfl⟩ := H
   all_goals
    (try (have p01 : 0 ≤ (x9_1 : Int) := oD (by assumption);have q01 : x9_1 < (t268.size : Int) := oD (by assumption);have hx01 := bt_at t268 x9_1;replace p01 := eq_true p01;replace q01 := eq_true q01));go_wp2_with (first|((with_reducible refine gate_callee (f := 37) rfl ?_);refine goesL_ (some 28) rfl rfl Tryz.func37 (by kernel_rfl) rfl #[.int .i64 (t268.size : Int),.int .i64 a1,.int .i64 a2] rfl (by (try simp only [mT,mC,mN]);first|done|rfl|(simp only [xD,xT];rfl)) ?_;(with_reducible refine (impl_inside.calls _ _ _ _ _ A11.out).mono ?_);rintro e w' ⟨rfl,⟨nd,rfl⟩⟩;refine ⟨_,rfl,?_⟩)|((with_reducible refine gate_callee (f := 66) rfl ?_);refine goesL_ (some 22) rfl rfl Tryz.func66 (by kernel_rfl) rfl #[.int .u8 (bt t268 x9_1)] rfl (by (try simp only [mT,mC,mN]);first|done|rfl|(simp only [xD,xT];rfl)) ?_;(with_reducible refine (impl_isLower.calls _ _ _ A9.out).mono ?_);rintro e w' ⟨rfl,⟨nd,rfl⟩⟩;refine ⟨_,rfl,?_⟩))
    first
     |
      go_ret;exact ⟨by first|rfl|(simp [*];done),by repeat (first|exact Drawn0.refl _|apply Drawn0.step)⟩
     |
      go_roundg k1
      case measure => have := HK1.out;omega
      case rel => exact ⟨(wrap64 (x9_1 + 1)),(by first|rfl|(simp [*];done)),H',⟨by have := HK1.out;omega⟩,by repeat (first|exact Drawn0.refl _|apply Drawn0.step)⟩
def impl_isTermKey.f (k : Nat) (a0 : ByteArray) : Option (Bool) := (impl_isSmall.f k a0 1 10 (⟨#[]⟩ : ByteArray)).bind fun t271 => (some t271)
theorem impl_isTermKey.mono : ∀ a0 k,LeO (impl_isTermKey.f k a0) (impl_isTermKey.f (k + 1) a0) := by
 intro a0 k
 unfold impl_isTermKey.f
 repeat' first
   | (with_reducible exact impl_isSmall.mono _ _ _ _ _)
   | (with_reducible exact LeO.refl _)
   | (with_reducible exact LeO.none _)
   | (with_reducible refine LeO.ite ?_ ?_)
   | (with_reducible refine LeO.bind ?_ (fun _ => ?_))
   | exact impl_isSmall.mono _ _ _ _ _
   | exact LeO.none _
   | refine LeO.ite ?_ ?_
   | refine LeO.bind ?_ (fun _ => ?_)
set_option maxHeartbeats 8000000 in
set_option maxRecDepth 100000 in
theorem impl_isTermKey.calls (k : Nat) (a0 : ByteArray) (r : Bool) (w : World) (h : impl_isTermKey.f k a0 = some r) :
  Calls Tryz.prog 41 #[.string a0] w fun e w' => e = .returned (.bool r) ∧ Drawn0 w w' := by
 have H : ((impl_isSmall.f k a0 1 10 (⟨#[]⟩ : ByteArray)).bind fun t271 => (some t271)) = some r := h;clear h;obtain ⟨t271,A2,H⟩ := bE_ H;obtain rfl := Option.some.inj H;simp only [eS,eP] at H;obtain ⟨rfl⟩ := H;go_enter Tryz.func41,Tryz.ntmps41;go_wp2_with (first|((with_reducible refine gate_callee (f := 57) rfl ?_);refine goesL_ (some 4) rfl rfl Tryz.func57 (by kernel_rfl) rfl #[.string a0,.int .i64 1,.int .i64 10,.string (⟨#[]⟩ : ByteArray)] rfl (by (try simp only [mT,mC,mN]);first|done|rfl|(simp only [xD,xT];rfl)) ?_;(with_reducible refine (impl_isSmall.calls k a0 1 10 (⟨#[]⟩ : ByteArray) t271 _ A2.out).mono ?_);rintro e w' ⟨rfl,⟨nd,rfl⟩⟩;refine ⟨_,rfl,?_⟩));go_ret;exact ⟨by first|rfl|(simp [*];done),by repeat (first|exact Drawn0.refl _|apply Drawn0.step)⟩
def impl_arePrintable.l0 : Nat → ByteArray → Int → Option (Bool)
 | 0,_,_ => none
 | k + 1,x0,x3 => if x3 < (x0.size : Int) then (if 0 ≤ x3 then (if (bt x0 x3) < 32 then (some false) else (if (bt x0 x3) > 126 then (some false) else (impl_arePrintable.l0 k x0 (wrap64 (x3 + 1))))) else (none)) else (some true)
def impl_arePrintable.f (k : Nat) (a0 : ByteArray) : Option (Bool) := impl_arePrintable.l0 k a0 0
theorem impl_arePrintable.mono_l : ∀ k,(∀ y0 y1,LeO (impl_arePrintable.l0 k y0 y1) (impl_arePrintable.l0 (k + 1) y0 y1))
 | 0 => fun _ _ r h => by simp [impl_arePrintable.l0] at h
 | k + 1 => by
  have ih0 := impl_arePrintable.mono_l k
  ·intro y0 y1
   unfold impl_arePrintable.l0
   repeat' first
   | (with_reducible exact ih0 _ _)
   | (with_reducible exact LeO.refl _)
   | (with_reducible exact LeO.none _)
   | (with_reducible refine LeO.ite ?_ ?_)
   | (with_reducible refine LeO.bind ?_ (fun _ => ?_))
   | exact ih0 _ _
   | exact LeO.none _
   | refine LeO.ite ?_ ?_
   | refine LeO.bind ?_ (fun _ => ?_)
theorem impl_arePrintable.mono : ∀ a0 k,LeO (impl_arePrintable.f k a0) (impl_arePrintable.f (k + 1) a0) := by
 intro a0 k
 have ih0 := impl_arePrintable.mono_l k
 unfold impl_arePrintable.f
 repeat' first
   | (with_reducible exact ih0 _ _)
   | (with_reducible exact LeO.refl _)
   | (with_reducible exact LeO.none _)
   | (with_reducible refine LeO.ite ?_ ?_)
   | (with_reducible refine LeO.bind ?_ (fun _ => ?_))
   | exact ih0 _ _
   | exact LeO.none _
   | refine LeO.ite ?_ ?_
   | refine LeO.bind ?_ (fun _ => ?_)
set_option maxHeartbeats 8000000 in
set_option maxRecDepth 100000 in
theorem impl_arePrintable.calls (k : Nat) (a0 : ByteArray) (r : Bool) (w : World) (h : impl_arePrintable.f k a0 = some r) :
  Calls Tryz.prog 33 #[.string a0] w fun e w' => e = .returned (.bool r) ∧ Drawn0 w w' := by
 have H : (impl_arePrintable.l0 k a0 0) = some r := h;clear h;have H' := aM H;clear H;go_enter Tryz.func33,Tryz.ntmps33;go_wp2;go_loopg [3] k (fun kq v3 w' => ∃ (x3_1 : Int),v3 = .int .i64 x3_1 ∧ Aside0 (impl_arePrintable.l0 kq a0 x3_1 = some r) ∧ Aside0 (kq ≤ k) ∧ Drawn0 w w')
 case atStart => exact ⟨(0),(by first|rfl|(simp [*];done)),H',⟨Nat.le_refl _⟩,by repeat (first|exact Drawn0.refl _|apply Drawn0.step)⟩
 case round =>
  clear H';obtain ⟨x3_1,rfl,HA,HK1,⟨m1,rfl⟩⟩ := hrel
  cases gk with
  | zero => exact absurd HA.out (by simp [impl_arePrintable.l0])
  | succ k1 =>
   have H := HA.out;clear HA;simp only [impl_arePrintable.l0] at H
   by_cases c2 : x3_1 < (a0.size : Int)
   focus
    rw [if_pos c2] at H;have c2b0 : decide (x3_1 < (a0.size : Int)) = true := dT c2;clear c2
    by_cases c3 : 0 ≤ x3_1
    rotate_left;rw [if_neg c3] at H;exact absurd H (by simp);rw [if_pos c3] at H;have c3b0 : decide (0 ≤ x3_1) = true := dT c3;clear c3
    by_cases c5 : (bt a0 x3_1) < 32
    focus
     rw [if_pos c5] at H;have c5b0 : decide ((bt a0 x3_1) < 32) = true := dT c5;clear c5;obtain rfl := Option.some.inj H;simp only [eS,eP] at H;obtain ⟨rfl⟩ := H
    rotate_left
    focus
     rw [if_neg c5] at H;have c5b0 : decide ((bt a0 x3_1) < 32) = false := dF c5;clear c5
     by_cases c7 : (bt a0 x3_1) > 126
     focus
      rw [if_pos c7] at H;have c7b0 : decide (126 < (bt a0 x3_1)) = true := dT c7;clear c7;obtain rfl := Option.some.inj H;simp only [eS,eP] at H;obtain ⟨rfl⟩ := H
     rotate_left
     focus
      rw [if_neg c7] at H;have c7b0 : decide (126 < (bt a0 x3_1)) = false := dF c7;clear c7;have H' := aM H;clear H
   rotate_left 3
   focus
    rw [if_neg c2] at H;have c2b0 : decide (x3_1 < (a0.size : Int)) = false := dF c2;clear c2;obtain rfl := Option.some.inj H;simp only [eS,eP] at H;obtain ⟨rfl⟩ := H
   all_goals
    (try (have p01 : 0 ≤ (x3_1 : Int) := oD (by assumption);have q01 : x3_1 < (a0.size : Int) := oD (by assumption);have hx01 := bt_at a0 x3_1;replace p01 := eq_true p01;replace q01 := eq_true q01));go_wp2
    first
     |
      go_ret;exact ⟨by first|rfl|(simp [*];done),by repeat (first|exact Drawn0.refl _|apply Drawn0.step)⟩
     |
      go_roundg k1
      case measure => have := HK1.out;omega
      case rel => exact ⟨(wrap64 (x3_1 + 1)),(by first|rfl|(simp [*];done)),H',⟨by have := HK1.out;omega⟩,by repeat (first|exact Drawn0.refl _|apply Drawn0.step)⟩
def impl_isTermText.f (k : Nat) (a0 : ByteArray) (a1 : Int) : Option (Bool) := (impl_inside.f (a0.size : Int) 1 a1).bind fun t272 => (if t272 = true then ((impl_arePrintable.f k a0).bind fun t273 => (some t273)) else (some false))
theorem impl_isTermText.mono : ∀ a0 a1 k,LeO (impl_isTermText.f k a0 a1) (impl_isTermText.f (k + 1) a0 a1) := by
 intro a0 a1 k
 unfold impl_isTermText.f
 repeat' first
   | (with_reducible exact impl_arePrintable.mono _ _)
   | (with_reducible exact LeO.refl _)
   | (with_reducible exact LeO.none _)
   | (with_reducible refine LeO.ite ?_ ?_)
   | (with_reducible refine LeO.bind ?_ (fun _ => ?_))
   | exact impl_arePrintable.mono _ _
   | exact LeO.none _
   | refine LeO.ite ?_ ?_
   | refine LeO.bind ?_ (fun _ => ?_)
set_option maxHeartbeats 8000000 in
set_option maxRecDepth 100000 in
theorem impl_isTermText.calls (k : Nat) (a0 : ByteArray) (a1 : Int) (r : Bool) (w : World) (h : impl_isTermText.f k a0 a1 = some r) :
  Calls Tryz.prog 42 #[.string a0,.int .i64 a1] w fun e w' => e = .returned (.bool r) ∧ Drawn0 w w' := by
 have H : ((impl_inside.f (a0.size : Int) 1 a1).bind fun t272 => (if t272 = true then ((impl_arePrintable.f k a0).bind fun t273 => (some t273)) else (some false))) = some r := h;clear h;obtain ⟨t272,A3,H⟩ := bE_ H
 by_cases c4 : t272 = true
 focus
  subst c4;rw [if_pos rfl] at H;obtain ⟨t273,A5,H⟩ := bE_ H;obtain rfl := Option.some.inj H;simp only [eS,eP] at H;obtain ⟨rfl⟩ := H
 rotate_left
 focus
  replace c4 := Bool.eq_false_iff.mpr c4;subst c4;rw [if_neg Bool.false_ne_true] at H;obtain rfl := Option.some.inj H;simp only [eS,eP] at H;obtain ⟨rfl⟩ := H
 all_goals
  go_enter Tryz.func42,Tryz.ntmps42;go_wp2_with (first|((with_reducible refine gate_callee (f := 37) rfl ?_);refine goesL_ (some 8) rfl rfl Tryz.func37 (by kernel_rfl) rfl #[.int .i64 (a0.size : Int),.int .i64 1,.int .i64 a1] rfl (by (try simp only [mT,mC,mN]);first|done|rfl|(simp only [xD,xT];rfl)) ?_;(with_reducible refine (impl_inside.calls _ _ _ _ _ A3.out).mono ?_);rintro e w' ⟨rfl,⟨nd,rfl⟩⟩;refine ⟨_,rfl,?_⟩)|(go_at_call 33;(with_reducible refine (impl_arePrintable.calls _ _ _ _ A5.out).mono ?_);rintro e w' ⟨rfl,⟨nd,rfl⟩⟩));go_ret;exact ⟨by first|rfl|(simp [*];done),by repeat (first|exact Drawn0.refl _|apply Drawn0.step)⟩
def stringslite_Index.f (a0 a1 : ByteArray) : Option (Int) := if a1.size = 1 then some (Lib.indexByte a0.data.toList (bt a1 0).toNat.toUInt8) else none
theorem stringslite_Index.calls (a0 a1 : ByteArray) (r : Int) (w : World) (h : stringslite_Index.f a0 a1 = some r) :
  Calls Tryz.prog 77 #[.string a0,.string a1] w fun e w' => e = .returned (.int .i64 r) ∧ Drawn0 w w' := by
 unfold stringslite_Index.f at h;split at h
 ·rename_i hs;obtain rfl := Option.some.inj h
  obtain ⟨c,rfl⟩ : ∃ c : UInt8,a1 = ⟨#[c]⟩ := by
   obtain ⟨⟨l⟩⟩ := a1;have hl : l.length = 1 := hs
   match l,hl with
   | [c],_ => exact ⟨c,rfl⟩
  have hc : (bt ⟨#[c]⟩ 0).toNat.toUInt8 = c := by
   have : bt ⟨#[c]⟩ 0 = (c.toNat : Int) := rfl;rw [this,Int.toNat_natCast];simp
  rw [hc];refine (Tryz.stringslite_Index_one a0 c w).mono ?_;rintro e w' ⟨rfl,rfl⟩;exact ⟨rfl,Drawn0.refl _⟩
 ·cases h
def strings_Index.f (a0 : ByteArray) (a1 : ByteArray) : Option (Int) := (stringslite_Index.f a0 a1).bind fun t274 => (some t274)
set_option maxHeartbeats 8000000 in
set_option maxRecDepth 100000 in
theorem strings_Index.calls (a0 : ByteArray) (a1 : ByteArray) (r : Int) (w : World) (h : strings_Index.f a0 a1 = some r) :
  Calls Tryz.prog 67 #[.string a0,.string a1] w fun e w' => e = .returned (.int .i64 r) ∧ Drawn0 w w' := by
 have H : ((stringslite_Index.f a0 a1).bind fun t274 => (some t274)) = some r := h;clear h;obtain ⟨t274,A3,H⟩ := bE_ H;obtain rfl := Option.some.inj H;simp only [eS,eP] at H;obtain ⟨rfl⟩ := H;go_enter Tryz.func67,Tryz.ntmps67;go_wp2_with (first|((with_reducible refine gate_callee (f := 77) rfl ?_);refine goesL_ (some 7) rfl rfl Tryz.func77 (by kernel_rfl) rfl #[.string a0,.string a1] rfl (by (try simp only [mT,mC,mN]);first|done|rfl|(simp only [xD,xT];rfl)) ?_;(with_reducible refine (stringslite_Index.calls a0 a1 t274 _ A3.out).mono ?_);rintro e w' ⟨rfl,⟨nd,rfl⟩⟩;refine ⟨_,rfl,?_⟩));go_ret;exact ⟨by first|rfl|(simp [*];done),by repeat (first|exact Drawn0.refl _|apply Drawn0.step)⟩
def strings_Contains.f (a0 : ByteArray) (a1 : ByteArray) : Option (Bool) := (strings_Index.f a0 a1).bind fun t275 => (some (decide (t275 ≥ 0)))
set_option maxHeartbeats 8000000 in
set_option maxRecDepth 100000 in
theorem strings_Contains.calls (a0 : ByteArray) (a1 : ByteArray) (r : Bool) (w : World) (h : strings_Contains.f a0 a1 = some r) :
  Calls Tryz.prog 59 #[.string a0,.string a1] w fun e w' => e = .returned (.bool r) ∧ Drawn0 w w' := by
 have H : ((strings_Index.f a0 a1).bind fun t275 => (some (decide (t275 ≥ 0)))) = some r := h;clear h;obtain ⟨t275,A3,H⟩ := bE_ H;obtain rfl := Option.some.inj H;simp only [eS,eP] at H;obtain ⟨rfl⟩ := H;go_enter Tryz.func59,Tryz.ntmps59;go_wp2_with (first|((with_reducible refine gate_callee (f := 67) rfl ?_);refine goesL_ (some 7) rfl rfl Tryz.func67 (by kernel_rfl) rfl #[.string a0,.string a1] rfl (by (try simp only [mT,mC,mN]);first|done|rfl|(simp only [xD,xT];rfl)) ?_;(with_reducible refine (strings_Index.calls a0 a1 t275 _ A3.out).mono ?_);rintro e w' ⟨rfl,⟨nd,rfl⟩⟩;refine ⟨_,rfl,?_⟩));go_ret;exact ⟨by first|rfl|(simp [*];done),by repeat (first|exact Drawn0.refl _|apply Drawn0.step)⟩
def impl_isOrdinalRule.f (k : Nat) (a0_0 : Int) (a0_1 : Int) (a0_2 : ByteArray) : Option (Bool) := (impl_inside.f a0_0 1 1000).bind fun t277 => (if t277 = true then ((impl_inside.f a0_1 0 (wrap64 (a0_0 - 1))).bind fun t278 => (if t278 = true then (if (a0_2.size : Int) ≤ 4 then ((impl_arePrintable.f k a0_2).bind fun t279 => (if t279 = true then ((strings_Contains.f a0_2 (⟨#[32]⟩ : ByteArray)).bind fun t280 => (some (!t280))) else (some false))) else (some false)) else (some false))) else (some false))
theorem impl_isOrdinalRule.mono : ∀ a0 a1 a2 k,LeO (impl_isOrdinalRule.f k a0 a1 a2) (impl_isOrdinalRule.f (k + 1) a0 a1 a2) := by
 intro a0 a1 a2 k
 unfold impl_isOrdinalRule.f
 repeat' first
   | (with_reducible exact impl_arePrintable.mono _ _)
   | (with_reducible exact LeO.refl _)
   | (with_reducible exact LeO.none _)
   | (with_reducible refine LeO.ite ?_ ?_)
   | (with_reducible refine LeO.bind ?_ (fun _ => ?_))
   | exact impl_arePrintable.mono _ _
   | exact LeO.none _
   | refine LeO.ite ?_ ?_
   | refine LeO.bind ?_ (fun _ => ?_)
set_option maxHeartbeats 8000000 in
set_option maxRecDepth 100000 in
theorem impl_isOrdinalRule.calls (k : Nat) (a0_0 : Int) (a0_1 : Int) (a0_2 : ByteArray) (r : Bool) (w : World) (h : impl_isOrdinalRule.f k a0_0 a0_1 a0_2 = some r) :
  Calls Tryz.prog 45 #[.agg #[.int .i64 a0_0,.int .i64 a0_1,.string a0_2]] w fun e w' => e = .returned (.bool r) ∧ Below w.heap.size w w' := by
 have hu67 := Tryz.underlying67;have HB := aM (Below.refl w.heap.size w);have H : ((impl_inside.f a0_0 1 1000).bind fun t277 => (if t277 = true then ((impl_inside.f a0_1 0 (wrap64 (a0_0 - 1))).bind fun t278 => (if t278 = true then (if (a0_2.size : Int) ≤ 4 then ((impl_arePrintable.f k a0_2).bind fun t279 => (if t279 = true then ((strings_Contains.f a0_2 (⟨#[32]⟩ : ByteArray)).bind fun t280 => (some (!t280))) else (some false))) else (some false)) else (some false))) else (some false))) = some r := h;clear h;obtain ⟨t277,A2,H⟩ := bE_ H
 by_cases c3 : t277 = true
 focus
  subst c3;rw [if_pos rfl] at H;obtain ⟨t278,A4,H⟩ := bE_ H
  by_cases c5 : t278 = true
  focus
   subst c5;rw [if_pos rfl] at H
   by_cases c6 : (a0_2.size : Int) ≤ 4
   focus
    rw [if_pos c6] at H;have c6b0 : decide ((a0_2.size : Int) ≤ 4) = true := dT c6;have c6b1 : decide (a0_2.size ≤ 4) = true := dT (by omega);clear c6;obtain ⟨t279,A7,H⟩ := bE_ H
    by_cases c8 : t279 = true
    focus
     subst c8;rw [if_pos rfl] at H;obtain ⟨t280,A9,H⟩ := bE_ H;obtain rfl := Option.some.inj H;simp only [eS,eP] at H;obtain ⟨rfl⟩ := H
    rotate_left
    focus
     replace c8 := Bool.eq_false_iff.mpr c8;subst c8;rw [if_neg Bool.false_ne_true] at H;obtain rfl := Option.some.inj H;simp only [eS,eP] at H;obtain ⟨rfl⟩ := H
   rotate_left 2
   focus
    rw [if_neg c6] at H;have c6b0 : decide ((a0_2.size : Int) ≤ 4) = false := dF c6;have c6b1 : decide (a0_2.size ≤ 4) = false := dF (by omega);clear c6;obtain rfl := Option.some.inj H;simp only [eS,eP] at H;obtain ⟨rfl⟩ := H
  rotate_left 3
  focus
   replace c5 := Bool.eq_false_iff.mpr c5;subst c5;rw [if_neg Bool.false_ne_true] at H;obtain rfl := Option.some.inj H;simp only [eS,eP] at H;obtain ⟨rfl⟩ := H
 rotate_left 4
 focus
  replace c3 := Bool.eq_false_iff.mpr c3;subst c3;rw [if_neg Bool.false_ne_true] at H;obtain rfl := Option.some.inj H;simp only [eS,eP] at H;obtain ⟨rfl⟩ := H
 all_goals
  go_enter Tryz.func45,Tryz.ntmps45;go_wp2_with (first|((with_reducible refine gate_dst (N := 1) rfl ?_);(try (refine gate_guard (by rfl) ?_;dsimp only));refine box_event ?hg (N := 1) ?hd (cs := #[.int .i64 a0_0,.int .i64 a0_1,.string a0_2]) (t := 67) ?hr ?_;(case hd => rfl);(case hg => rfl);(case hr => first|(go_simp;done)|(go_simp;rfl));intro gb276 hg Wgb276 hbox hb;have BK276 := aM (hbox);have GW276 := aM ((by rw [hg];exact (lZ hb_) : w.heap.size ≤ gb276));have GE276 := GW276;replace HB := aM (lT hb_ hb);clear hb hbox hg;obtain ⟨hcz276x276_0,hcz276x276_1,hcz276x276_2,hfz276x276_0,hfz276x276_1,hfz276x276_2⟩ := z3_ BK276.out)|((with_reducible refine gate_callee (f := 37) rfl ?_);refine goesL_ (some 5) rfl rfl Tryz.func37 (by kernel_rfl) rfl #[.int .i64 a0_0,.int .i64 1,.int .i64 1000] rfl (by (try simp only [mT,mC,mN]);first|done|rfl|(simp only [xD,xT];rfl)) ?_;(with_reducible refine (impl_inside.calls _ _ _ _ _ A2.out).mono ?_);rintro e w' ⟨rfl,⟨nd,rfl⟩⟩;refine ⟨_,rfl,?_⟩)|(go_at_call 37;(with_reducible refine (impl_inside.calls _ _ _ _ _ A4.out).mono ?_);rintro e w' ⟨rfl,⟨nd,rfl⟩⟩)|(go_at_call 33;(with_reducible refine (impl_arePrintable.calls _ _ _ _ A7.out).mono ?_);rintro e w' ⟨rfl,⟨nd,rfl⟩⟩)|(go_at_call 59;(with_reducible refine (strings_Contains.calls _ _ _ _ A9.out).mono ?_);rintro e w' ⟨rfl,⟨nd,rfl⟩⟩));go_ret;exact ⟨by first|rfl|(simp [*];done),hb_⟩
def impl_IsValidLocale_1.f (k : Nat) (a0_0 : Int) (a0_1 : Int) (a0_2 : ByteArray) : Option (Bool) := (impl_isOrdinalRule.f k a0_0 a0_1 a0_2).bind fun t282 => (some (!t282))
theorem impl_IsValidLocale_1.mono : ∀ a0 a1 a2 k,LeO (impl_IsValidLocale_1.f k a0 a1 a2) (impl_IsValidLocale_1.f (k + 1) a0 a1 a2) := by
 intro a0 a1 a2 k
 unfold impl_IsValidLocale_1.f
 repeat' first
   | (with_reducible exact impl_isOrdinalRule.mono _ _ _ _)
   | (with_reducible exact LeO.refl _)
   | (with_reducible exact LeO.none _)
   | (with_reducible refine LeO.ite ?_ ?_)
   | (with_reducible refine LeO.bind ?_ (fun _ => ?_))
   | exact impl_isOrdinalRule.mono _ _ _ _
   | exact LeO.none _
   | refine LeO.ite ?_ ?_
   | refine LeO.bind ?_ (fun _ => ?_)
set_option maxHeartbeats 8000000 in
set_option maxRecDepth 100000 in
theorem impl_IsValidLocale_1.calls (k : Nat) (a0_0 : Int) (a0_1 : Int) (a0_2 : ByteArray) (r : Bool) (w : World) (h : impl_IsValidLocale_1.f k a0_0 a0_1 a0_2 = some r) :
  Calls Tryz.prog 44 #[.agg #[.int .i64 a0_0,.int .i64 a0_1,.string a0_2]] w fun e w' => e = .returned (.bool r) ∧ Below w.heap.size w w' := by
 have hu67 := Tryz.underlying67;have HB := aM (Below.refl w.heap.size w);have H : ((impl_isOrdinalRule.f k a0_0 a0_1 a0_2).bind fun t282 => (some (!t282))) = some r := h;clear h;obtain ⟨t282,A2,H⟩ := bE_ H;obtain rfl := Option.some.inj H;simp only [eS,eP] at H;obtain ⟨rfl⟩ := H;go_enter Tryz.func44,Tryz.ntmps44;go_wp2_with (first|((with_reducible refine gate_dst (N := 1) rfl ?_);refine box_event ?hg (N := 1) ?hd (cs := #[.int .i64 a0_0,.int .i64 a0_1,.string a0_2]) (t := 67) ?hr ?_;(case hd => rfl);(case hg => rfl);(case hr => first|(go_simp;done)|(go_simp;rfl));intro gb281 hg w3 hbox hb;have BK281 := aM (hbox);have GW281 := aM ((by rw [hg];exact (lZ hb_) : w.heap.size ≤ gb281));have GE281 := GW281;replace HB := aM (lT hb_ hb);clear hb hbox hg;obtain ⟨hcz4_0,hcz4_1,hcz4_2,hfz4_0,hfz4_1,hfz4_2⟩ := z3_ BK281.out)|((with_reducible refine gate_callee (f := 45) rfl ?_);refine goesL_ (some 4) rfl rfl Tryz.func45 (by kernel_rfl) rfl #[.agg #[.int .i64 a0_0,.int .i64 a0_1,.string a0_2]] rfl (by (try simp only [mT,mC,mN]);first|done|rfl|(simp only [xD,xT];rfl)) ?_;(with_reducible refine (impl_isOrdinalRule.calls k a0_0 a0_1 a0_2 t282 _ A2.out).mono ?_);rintro e w5 ⟨rfl,hb⟩;refine ⟨_,rfl,?_⟩;replace BK281 := aM (bW (g := gb281) (o := .cells #[.int .i64 a0_0,.int .i64 a0_1,.string a0_2] 67 (0,0)) (bk_ BK281.out) hb);replace HB := aM (lT hb_ hb);(try clear hb)));go_ret;exact ⟨by first|rfl|(simp [*];done),hb_⟩
end Go.Proofs.YtmkkcpdpfelalaaGreatDoor.P
