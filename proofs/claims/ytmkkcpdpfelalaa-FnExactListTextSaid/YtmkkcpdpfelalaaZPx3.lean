/- Written by a program in this session: each theorem here says that a Go function computes the Lean function beside it, or that a law's row holds, under the conditions that the theorem itself states. -/
import Derived.Test.YtmkkcpdpfelalaaZPx0
import Derived.Test.YtmkkcpdpfelalaaZPx2
namespace Go.Proofs.Ytmkkcpdpfelalaa.P
open Go.RowKit Go.Proofs.YtmkkcpdpfelalaaW.PrintWords Go.Proofs.YtmkkcpdpfelalaaW.PrintLast Go.Proofs.YtmkkcpdpfelalaaW.PrintMore
attribute [local go_sem] max2_int min2_int max_two min_two max_three min_three max_four min_four   -- for this text's walks alone
set_option linter.unusedVariables false
set_option linter.unusedSimpArgs false
def spec_IsValidLocale.f (k : Nat) (a0_0 : ByteArray) (l0_1 : List (S61)) (l0_2 : List (S72)) (a0_3 : ByteArray) (a0_4 : ByteArray) : Option (Bool) := (spec_l23Good.f k a0_0 l0_1 l0_2 a0_3 a0_4).bind fun t130 => (some t130)
theorem spec_IsValidLocale.mono : ∀ a0 a1 a2 a3 a4 k,LeO (spec_IsValidLocale.f k a0 a1 a2 a3 a4) (spec_IsValidLocale.f (k + 1) a0 a1 a2 a3 a4) := by
 intro a0 a1 a2 a3 a4 k
 unfold spec_IsValidLocale.f
 repeat' first
   | (with_reducible exact spec_l23Good.mono _ _ _ _ _ _)
   | (with_reducible exact LeO.refl _)
   | (with_reducible exact LeO.none _)
   | (with_reducible refine LeO.ite ?_ ?_)
   | (with_reducible refine LeO.bind ?_ (fun _ => ?_))
   | exact spec_l23Good.mono _ _ _ _ _ _
   | exact LeO.none _
   | refine LeO.ite ?_ ?_
   | refine LeO.bind ?_ (fun _ => ?_)
set_option maxHeartbeats 8000000 in
set_option maxRecDepth 100000 in
theorem spec_IsValidLocale.calls (k : Nat) (a0_0 : ByteArray) (A0_1 : Option Addr) (c0_1 : Nat) (l0_1 : List (S61)) (A0_2 : Option Addr) (c0_2 : Nat) (l0_2 : List (S72)) (a0_3 : ByteArray) (a0_4 : ByteArray) (r : Bool) (w : World) (hr0_1 : Kd.C k61 w A0_1 l0_1.length l0_1) (hc0_1 : l0_1.length ≤ c0_1) (hr0_2 : Kd.C k72 w A0_2 l0_2.length l0_2) (hc0_2 : l0_2.length ≤ c0_2) (h : spec_IsValidLocale.f k a0_0 l0_1 l0_2 a0_3 a0_4 = some r) :
  Calls Try.prog 10 #[.agg #[.string a0_0,.slice A0_1 l0_1.length c0_1,.slice A0_2 l0_2.length c0_2,.string a0_3,.string a0_4]] w fun e w' => e = .returned (.bool r) ∧ Below w.heap.size w w' := by
 have hu31 := Try.underlying31;have HR0_1 := aM hr0_1;have HC0_1 := aM hc0_1;clear hr0_1 hc0_1;have HR0_2 := aM hr0_2;have HC0_2 := aM hc0_2;clear hr0_2 hc0_2;have HB := aM (Below.refl w.heap.size w);have H : ((spec_l23Good.f k a0_0 l0_1 l0_2 a0_3 a0_4).bind fun t130 => (some t130)) = some r := h;clear h;obtain ⟨t130,A2,H⟩ := bE_ H;obtain rfl := Option.some.inj H;simp only [eS,eP] at H;obtain ⟨rfl⟩ := H;go_enter Try.func10,Try.ntmps10;go_wp2_with (first|((with_reducible refine gate_dst (N := 1) rfl ?_);refine box_event ?hg (N := 1) ?hd (cs := #[.string a0_0,.slice A0_1 l0_1.length c0_1,.slice A0_2 l0_2.length c0_2,.string a0_3,.string a0_4]) (t := 31) ?hr ?_;(case hd => rfl);(case hg => rfl);(case hr => first|(go_simp;done)|(go_simp;rfl));intro gb129 hg w3 hbox hb;have BK129 := aM (hbox);have GW129 := aM ((by rw [hg];exact (lZ (by repeat (first|(with_reducible first|exact HB.out|apply lA|apply lN|apply lD)|exact HB.out))) : w.heap.size ≤ gb129));have GE129 := GW129;replace HB := aM (lT (by repeat (first|(with_reducible first|exact HB.out|apply lA|apply lN|apply lD)|exact HB.out)) hb);clear hb hbox hg;obtain ⟨hcz4_0,hcz4_1,hcz4_2,hcz4_3,hcz4_4,hfz4_0,hfz4_1,hfz4_2,hfz4_3,hfz4_4⟩ := z5_ BK129.out)|((with_reducible refine gate_callee (f := 38) rfl ?_);refine goesL_ (some 4) rfl rfl Try.func38 (by kernel_rfl) rfl #[.agg #[.string a0_0,.slice A0_1 l0_1.length c0_1,.slice A0_2 l0_2.length c0_2,.string a0_3,.string a0_4]] rfl (by (try simp only [mT,mC,mN]);first|done|rfl|(simp only [xD,xT];rfl)) ?_;(with_reducible refine (spec_l23Good.calls k a0_0 _ _ l0_1 _ _ l0_2 a0_3 a0_4 t130 _ ?side1 ?side2 ?side3 ?side4 A2.out).mono ?_);(case side1 => repeat (first|exact (cB HR0_1.out HB.out)|(with_reducible first|refine cA ?_ _|refine cN ?_ _|refine cD ?_)));(case side2 => exact HC0_1.out);(case side3 => repeat (first|exact (cB HR0_2.out HB.out)|(with_reducible first|refine cA ?_ _|refine cN ?_ _|refine cD ?_)));(case side4 => exact HC0_2.out);rintro e w5 ⟨rfl,hb⟩;refine ⟨_,rfl,?_⟩;replace BK129 := aM (bW (g := gb129) (o := .cells #[.string a0_0,.slice A0_1 l0_1.length c0_1,.slice A0_2 l0_2.length c0_2,.string a0_3,.string a0_4] 31 (0,0)) (by (with_reducible repeat (first|refine bN ?_ _|refine bD ?_|refine bA ?_ _));exact BK129.out) hb);replace HB := aM (lT (by repeat (first|(with_reducible first|exact HB.out|apply lA|apply lN|apply lD|refine lS ?_ GE129.out)|exact HB.out)) hb);(try clear hb)));go_ret;exact ⟨by first|rfl|(simp [*];done),by repeat (first|(with_reducible first|exact HB.out|apply lA|apply lN|apply lD|refine lS ?_ GE129.out)|exact HB.out)⟩
def laws_toTerm.f (a0_0 : ByteArray) (a0_1 : ByteArray) (a0_2 : ByteArray) : Option (ByteArray × ByteArray × ByteArray) := some (a0_0,a0_1,a0_2)
set_option maxHeartbeats 8000000 in
set_option maxRecDepth 100000 in
theorem laws_toTerm.calls (a0_0 : ByteArray) (a0_1 : ByteArray) (a0_2 : ByteArray) (r1 : ByteArray) (r2 : ByteArray) (r3 : ByteArray) (w : World) (h : laws_toTerm.f a0_0 a0_1 a0_2 = some (r1,r2,r3)) :
  Calls Try.prog 33 #[.agg #[.string a0_0,.string a0_1,.string a0_2]] w fun e w' => e = .returned (.agg #[.string r1,.string r2,.string r3]) ∧ Below w.heap.size w w' := by
 have hu57 := Try.underlying57;have hu61 := Try.underlying61;have HB := aM (Below.refl w.heap.size w);have H : (some (a0_0,a0_1,a0_2)) = some (r1,r2,r3) := h;clear h;simp only [eS,eP] at H;obtain ⟨rfl,rfl,rfl⟩ := H;go_enter Try.func33,Try.ntmps33;go_wp2_with (first|((with_reducible refine gate_dst (N := 1) rfl ?_);refine box_event ?hg (N := 1) ?hd (cs := #[.string a0_0,.string a0_1,.string a0_2]) (t := 57) ?hr ?_;(case hd => rfl);(case hg => rfl);(case hr => first|(go_simp;done)|(go_simp;rfl));intro gb131 hg w2 hbox hb;have BK131 := aM (hbox);have GW131 := aM ((by rw [hg];exact (lZ (by repeat (first|(with_reducible first|exact HB.out|apply lA|apply lN|apply lD)|exact HB.out))) : w.heap.size ≤ gb131));have GE131 := GW131;replace HB := aM (lT (by repeat (first|(with_reducible first|exact HB.out|apply lA|apply lN|apply lD)|exact HB.out)) hb);clear hb hbox hg)|((with_reducible refine gate_dst (N := 2) rfl ?_);refine box_event ?hg (N := 2) ?hd (cs := #[.string (⟨#[]⟩ : ByteArray),.string (⟨#[]⟩ : ByteArray),.string (⟨#[]⟩ : ByteArray)]) (t := 61) ?hr ?_;(case hd => rfl);(case hg => rfl);(case hr => first|(go_simp;done)|(go_simp;rfl));intro gb132 hg w3 hbox hb;have BK132 := aM (hbox);have GW132 := aM ((by rw [hg];exact (lZ (by repeat (first|(with_reducible first|exact HB.out|apply lA|apply lN|apply lD|refine lS ?_ GE131.out)|exact HB.out))) : w.heap.size ≤ gb132));have GE132 := GW132;have NB131_132 := aM ((by rw [hg];exact Nat.ne_of_lt (blk_lt (g := gb131) (o := .cells #[.string a0_0,.string a0_1,.string a0_2] 57 (0,0)) (by (with_reducible repeat (first|refine bN ?_ _|refine bD ?_|refine bA ?_ _));exact BK131.out)) : gb131 ≠ gb132));have NB132_131 := aM ((by rw [hg];exact Nat.ne_of_gt (blk_lt (g := gb131) (o := .cells #[.string a0_0,.string a0_1,.string a0_2] 57 (0,0)) (by (with_reducible repeat (first|refine bN ?_ _|refine bD ?_|refine bA ?_ _));exact BK131.out)) : gb132 ≠ gb131));replace BK131 := aM (bW (g := gb131) (o := .cells #[.string a0_0,.string a0_1,.string a0_2] 57 (0,0)) (by (with_reducible repeat (first|refine bN ?_ _|refine bD ?_|refine bA ?_ _));exact BK131.out) hb);replace HB := aM (lT (by repeat (first|(with_reducible first|exact HB.out|apply lA|apply lN|apply lD|refine lS ?_ GE131.out)|exact HB.out)) hb);clear hb hbox hg)|((with_reducible refine gate_dst (N := 3) rfl ?_);refine box_event ?hg (N := 3) ?hd (cs := #[.string (⟨#[]⟩ : ByteArray),.string (⟨#[]⟩ : ByteArray),.string (⟨#[]⟩ : ByteArray)]) (t := 61) ?hr ?_;(case hd => rfl);(case hg => rfl);(case hr => first|(go_simp;done)|(go_simp;rfl));intro gb133 hg w4 hbox hb;have BK133 := aM (hbox);have GW133 := aM ((by rw [hg];exact (lZ (by repeat (first|(with_reducible first|exact HB.out|apply lA|apply lN|apply lD|refine lS ?_ GE131.out|refine lS ?_ GE132.out)|exact HB.out))) : w.heap.size ≤ gb133));have GE133 := GW133;have NB131_133 := aM ((by rw [hg];exact Nat.ne_of_lt (blk_lt (g := gb131) (o := .cells #[.string a0_0,.string a0_1,.string a0_2] 57 (0,0)) (by (with_reducible repeat (first|refine bN ?_ _|refine bD ?_|refine bA ?_ _));exact BK131.out)) : gb131 ≠ gb133));have NB133_131 := aM ((by rw [hg];exact Nat.ne_of_gt (blk_lt (g := gb131) (o := .cells #[.string a0_0,.string a0_1,.string a0_2] 57 (0,0)) (by (with_reducible repeat (first|refine bN ?_ _|refine bD ?_|refine bA ?_ _));exact BK131.out)) : gb133 ≠ gb131));have NB132_133 := aM ((by rw [hg];exact Nat.ne_of_lt (blk_lt (g := gb132) (o := .cells #[.string (⟨#[]⟩ : ByteArray),.string (⟨#[]⟩ : ByteArray),.string (⟨#[]⟩ : ByteArray)] 61 (0,0)) (by (with_reducible repeat (first|refine bN ?_ _|refine bD ?_|refine bA ?_ _));exact BK132.out)) : gb132 ≠ gb133));have NB133_132 := aM ((by rw [hg];exact Nat.ne_of_gt (blk_lt (g := gb132) (o := .cells #[.string (⟨#[]⟩ : ByteArray),.string (⟨#[]⟩ : ByteArray),.string (⟨#[]⟩ : ByteArray)] 61 (0,0)) (by (with_reducible repeat (first|refine bN ?_ _|refine bD ?_|refine bA ?_ _));exact BK132.out)) : gb133 ≠ gb132));replace BK131 := aM (bW (g := gb131) (o := .cells #[.string a0_0,.string a0_1,.string a0_2] 57 (0,0)) (by (with_reducible repeat (first|refine bN ?_ _|refine bD ?_|refine bA ?_ _));exact BK131.out) hb);replace BK132 := aM (bW (g := gb132) (o := .cells #[.string (⟨#[]⟩ : ByteArray),.string (⟨#[]⟩ : ByteArray),.string (⟨#[]⟩ : ByteArray)] 61 (0,0)) (by (with_reducible repeat (first|refine bN ?_ _|refine bD ?_|refine bA ?_ _));exact BK132.out) hb);replace HB := aM (lT (by repeat (first|(with_reducible first|exact HB.out|apply lA|apply lN|apply lD|refine lS ?_ GE131.out|refine lS ?_ GE132.out)|exact HB.out)) hb);clear hb hbox hg;have hnb5 := NB131_132.out;have hnc5 := NB132_131.out;have hnb6 := NB131_133.out;have hnc6 := NB133_131.out;obtain ⟨hcz7_0,hcz7_1,hcz7_2,hfz7_0,hfz7_1,hfz7_2⟩ := z3_ BK131.out;have hnb8 := NB133_132.out;have hnc8 := NB132_133.out;obtain ⟨hcz9_0,hcz9_1,hcz9_2,hfz9_0,hfz9_1,hfz9_2⟩ := z3_ BK133.out;obtain ⟨hcz10_0,hcz10_1,hcz10_2,hfz10_0,hfz10_1,hfz10_2⟩ := z3_ BK132.out));refine bodyPost_ret (results_cell_row rfl _ _ gb132 61 #[.string a0_0,.string a0_1,.string a0_2] (0,0) _ rfl (by (with_reducible repeat (first|refine bN ?_ _|refine bD ?_|refine bA ?_ _));refine blk_put (cs := #[.string a0_0,.string a0_1,.string (⟨#[]⟩ : ByteArray)]) ?_ 2 _ rfl;(with_reducible repeat (first|refine bN ?_ _|refine bD ?_|refine bA ?_ _));refine blk_put (cs := #[.string a0_0,.string (⟨#[]⟩ : ByteArray),.string (⟨#[]⟩ : ByteArray)]) ?_ 1 _ rfl;(with_reducible repeat (first|refine bN ?_ _|refine bD ?_|refine bA ?_ _));refine blk_put (cs := #[.string (⟨#[]⟩ : ByteArray),.string (⟨#[]⟩ : ByteArray),.string (⟨#[]⟩ : ByteArray)]) ?_ 0 _ rfl;(with_reducible repeat (first|refine bN ?_ _|refine bD ?_|refine bA ?_ _));refine blk_far ?_ NB132_133.out _;(with_reducible repeat (first|refine bN ?_ _|refine bD ?_|refine bA ?_ _));refine blk_far ?_ NB132_133.out _;(with_reducible repeat (first|refine bN ?_ _|refine bD ?_|refine bA ?_ _));refine blk_far ?_ NB132_133.out _;(with_reducible repeat (first|refine bN ?_ _|refine bD ?_|refine bA ?_ _));exact BK132.out) Try.underlying61 rfl (by kernel_rfl)) rfl ?_;exact ⟨by first|rfl|(simp [*];done),by repeat (first|(with_reducible first|exact HB.out|apply lA|apply lN|apply lD|refine lS ?_ GE131.out|refine lS ?_ GE132.out|refine lS ?_ GE133.out)|exact HB.out)⟩
def laws_toTermS.l0 : Nat → List (S57) → List (S61) → Int → Option ((List (S61)))
 | 0,_,_,_ => none
 | k + 1,x0,x3,x4 => if x4 < (x0.length : Int) then (if 0 ≤ x4 then ((laws_toTerm.f ((rd_T57 x0 x4).f0) ((rd_T57 x0 x4).f1) ((rd_T57 x0 x4).f2)).bind fun bt138 => (if x4 < (x3.length : Int) then (laws_toTermS.l0 k x0 (x3.set (x4 : Int).toNat (⟨bt138.1,bt138.2.1,bt138.2.2⟩ : S61)) (wrap64 (x4 + 1))) else (none))) else (none)) else (some x3)
def laws_toTermS.f (k : Nat) (l0 : List (S57)) : Option ((List (S61))) := if 0 ≤ (l0.length : Int) then (if ((l0.length : Int) : Int).toNat ≤ 5864062014805 then (laws_toTermS.l0 k l0 (List.replicate ((l0.length : Int) : Int).toNat z61) 0) else (none)) else (none)
theorem laws_toTermS.mono_l : ∀ k,(∀ y0 y1 y2,LeO (laws_toTermS.l0 k y0 y1 y2) (laws_toTermS.l0 (k + 1) y0 y1 y2))
 | 0 => fun _ _ _ r h => by simp [laws_toTermS.l0] at h
 | k + 1 => by
  have ih0 := laws_toTermS.mono_l k
  ·intro y0 y1 y2
   unfold laws_toTermS.l0
   repeat' first
   | (with_reducible exact ih0 _ _ _)
   | (with_reducible exact LeO.refl _)
   | (with_reducible exact LeO.none _)
   | (with_reducible refine LeO.ite ?_ ?_)
   | (with_reducible refine LeO.bind ?_ (fun _ => ?_))
   | exact ih0 _ _ _
   | exact LeO.none _
   | refine LeO.ite ?_ ?_
   | refine LeO.bind ?_ (fun _ => ?_)
theorem laws_toTermS.mono : ∀ a0 k,LeO (laws_toTermS.f k a0) (laws_toTermS.f (k + 1) a0) := by
 intro a0 k
 have ih0 := laws_toTermS.mono_l k
 unfold laws_toTermS.f
 repeat' first
   | (with_reducible exact ih0 _ _ _)
   | (with_reducible exact LeO.refl _)
   | (with_reducible exact LeO.none _)
   | (with_reducible refine LeO.ite ?_ ?_)
   | (with_reducible refine LeO.bind ?_ (fun _ => ?_))
   | exact ih0 _ _ _
   | exact LeO.none _
   | refine LeO.ite ?_ ?_
   | refine LeO.bind ?_ (fun _ => ?_)
set_option maxHeartbeats 8000000 in
set_option maxRecDepth 100000 in
theorem laws_toTermS.calls (k : Nat) (A0 : Option Addr) (c0 : Nat) (l0 : List (S57)) (r : List (S61)) (w : World) (hr0 : Kd.C k57 w A0 l0.length l0) (hc0 : l0.length ≤ c0) (h : laws_toTermS.f k l0 = some r) :
  Calls Try.prog 39 #[.slice A0 l0.length c0] w fun e w' => ∃ v0_ : Value,e = .returned (v0_) ∧ Kd.R k61 61 w' w.heap.size (fun _ => True) v0_ r ∧ Below w.heap.size w w' := by
 have hu57 := Try.underlying57;have hu61 := Try.underlying61;have HR0 := aM hr0;have HC0 := aM hc0;clear hr0 hc0;have HB := aM (Below.refl w.heap.size w);have H : (if 0 ≤ (l0.length : Int) then (if ((l0.length : Int) : Int).toNat ≤ 5864062014805 then (laws_toTermS.l0 k l0 (List.replicate ((l0.length : Int) : Int).toNat z61) 0) else (none)) else (none)) = some r := h;clear h
 by_cases c2 : 0 ≤ (l0.length : Int)
 ·rw [if_pos c2] at H;have c2b0 := eq_true c2;have c2b1 : decide (0 ≤ (l0.length : Int)) = true := dT c2;clear c2
  by_cases c3 : ((l0.length : Int) : Int).toNat ≤ 5864062014805
  ·rw [if_pos c3] at H;have c3b0 := eq_true c3;have c3b1 : decide (((l0.length : Int) : Int).toNat ≤ 5864062014805) = true := dT c3;clear c3;obtain ⟨y134,hy134⟩ : ∃ y_ : List (S61),y_ = (List.replicate ((l0.length : Int) : Int).toNat z61) := ⟨_,rfl⟩;replace H : (laws_toTermS.l0 k l0 y134 0) = some r := (by first|(rw [hy134];with_reducible exact H)|(have H2_ := (Option.bind_some _ _).symm.trans H;rw [hy134];with_reducible exact H2_)|(have H2_ := (Option.bind_some _ _).symm.trans H;with_reducible exact H2_)|with_reducible exact H|(rw [hy134];exact H)|exact H);have Ny134 := aM hy134;clear hy134;have H' := aM H;clear H;go_enter Try.func39,Try.ntmps39;go_wp2_with (first|((with_reducible refine gate_dst (N := 7) rfl ?_);refine Kd.R_make k61 _ 61 rfl (N := 7) rfl 28 _ _ rfl (l0.length : Int) rfl rfl Try.underlying28 (.agg #[(.string ⟨#[]⟩),(.string ⟨#[]⟩),(.string ⟨#[]⟩)]) 48 info61 rfl (by decide) (by omega) z61 (ok := fun _ => True) (okp := fun _ => True) (k61_mkM _ _ _ z61 ) (fun _ hk => hk) trivial (oD (by assumption)) (Nat.le_trans (Nat.mul_le_mul_right _ (oD (by assumption) : (l0.length : Int).toNat ≤ 5864062014805)) (by omega)) (Below.refl _ _) (Nat.le_refl _) ?_;intro v135 w4 ho5 hb hg_ hnew_;clear hg_ hnew_;(first|rw [← Ny134.out] at ho5|(simp only [Int.reduceToNat] at ho5;rw [← Ny134.out] at ho5));have HO136 := aM (Kd.R_lower ho5 (lZ (by repeat (first|(with_reducible first|exact HB.out|apply lA|apply lN|apply lD)|exact HB.out))));replace HB := aM (lT (by repeat (first|(with_reducible first|exact HB.out|apply lA|apply lN|apply lD)|exact HB.out)) hb);clear hb ho5));go_loopg [4] k (fun kq v4 w' => ∃ (x3_1 : List (S61)) (x4_1 : Int),v4 = .int .i64 x4_1 ∧ Aside0 (laws_toTermS.l0 kq l0 x3_1 x4_1 = some r) ∧ Aside0 (kq ≤ k) ∧ Aside0 (Kd.R k61 61 w' w.heap.size (fun _ => True) v135 x3_1) ∧ Aside0 (Below w.heap.size w w'))
   case atStart => exact ⟨(y134),(0),(by first|rfl|(simp [*];done)),H',⟨Nat.le_refl _⟩,⟨by (with_reducible repeat (first|apply rA|apply rN|apply rD));exact HO136.out⟩,⟨by repeat (first|(with_reducible first|exact HB.out|apply lA|apply lN|apply lD)|exact HB.out)⟩⟩
   case round =>
    clear H';(try clear c2);(try clear c2b0);(try clear c2b1);(try clear p2);(try clear c3);(try clear c3b0);(try clear c3b1);obtain ⟨x3_1,x4_1,rfl,HA,HK1,HO_3,HB⟩ := hrel
    cases gk with
    | zero => exact absurd HA.out (by simp [laws_toTermS.l0])
    | succ k1 =>
     have H := HA.out;clear HA;simp only [laws_toTermS.l0] at H
     by_cases c6 : x4_1 < (l0.length : Int)
     focus
      rw [if_pos c6] at H;have c6b0 : decide (x4_1 < (l0.length : Int)) = true := dT c6;clear c6
      by_cases c7 : 0 ≤ x4_1
      rotate_left;rw [if_neg c7] at H;exact absurd H (by simp);rw [if_pos c7] at H;have c7b0 : decide (0 ≤ x4_1) = true := dT c7;clear c7;replace H := Option.bind_eq_some_iff.mp H;obtain ⟨⟨t138,t139,t140⟩,A80,H⟩ := H;replace H : (if x4_1 < (x3_1.length : Int) then (laws_toTermS.l0 k1 l0 (x3_1.set (x4_1 : Int).toNat (⟨t138,t139,t140⟩ : S61)) (wrap64 (x4_1 + 1))) else (none)) = some r := H;have A8 := aM A80;clear A80
      by_cases c9 : x4_1 < (x3_1.length : Int)
      rotate_left;rw [if_neg c9] at H;exact absurd H (by simp);rw [if_pos c9] at H;have c9b0 : decide (x4_1 < (x3_1.length : Int)) = true := dT c9;clear c9;obtain ⟨y141,hy141⟩ : ∃ y_ : List (S61),y_ = (x3_1.set (x4_1 : Int).toNat (⟨t138,t139,t140⟩ : S61)) := ⟨_,rfl⟩;replace H : (laws_toTermS.l0 k1 l0 y141 (wrap64 (x4_1 + 1))) = some r := (by first|(rw [hy141];with_reducible exact H)|(have H2_ := (Option.bind_some _ _).symm.trans H;rw [hy141];with_reducible exact H2_)|(have H2_ := (Option.bind_some _ _).symm.trans H;with_reducible exact H2_)|with_reducible exact H|(rw [hy141];exact H)|exact H);have Ny141 := aM hy141;clear hy141;have H' := aM H;clear H
     rotate_left
     focus
      rw [if_neg c6] at H;have c6b0 : decide (x4_1 < (l0.length : Int)) = false := dF c6;clear c6;obtain rfl := Option.some.inj H;simp only [eS,eP] at H;obtain ⟨rfl⟩ := H
     all_goals
      (try (have p01 : 0 ≤ (x4_1 : Int) := oD (by assumption);have q01 : x4_1 < (l0.length : Int) := oD (by assumption);obtain ⟨ad01,e01,hx01_0,hx01_1,hx01_2⟩ := at_T57 HR0.out x4_1 p01 q01;cases e01;replace hx01_0 := (HB.out.cell (wB w _ hx01_0)).trans hx01_0;replace hx01_1 := (HB.out.cell (wB w _ hx01_1)).trans hx01_1;replace hx01_2 := (HB.out.cell (wB w _ hx01_2)).trans hx01_2;replace p01 := eq_true p01;replace q01 := eq_true q01));go_wp2_with (first|((with_reducible refine gate_callee (f := 33) rfl ?_);refine goesL_ (some 20) rfl rfl Try.func33 (by kernel_rfl) rfl #[.agg #[.string ((rd_T57 l0 x4_1).f0),.string ((rd_T57 l0 x4_1).f1),.string ((rd_T57 l0 x4_1).f2)]] rfl (by (try simp only [mT,mC,mN]);first|done|rfl|(simp only [xD,xT];rfl)) ?_;(with_reducible refine (laws_toTerm.calls _ _ _ _ _ _ _ A8.out).mono ?_);rintro e WA8 ⟨rfl,hb⟩;refine ⟨_,rfl,?_⟩;replace HO_3 := aM (rB (by (with_reducible repeat (first|apply rA|apply rN|apply rD));exact HO_3.out) hb);replace HB := aM (lT (by repeat (first|(with_reducible first|exact HB.out|apply lA|apply lN|apply lD)|exact HB.out)) hb);(try clear hb);have p02 : 0 ≤ (x4_1 : Int) := oD (by assumption);have q02 : (x4_1 : Int) < ((x3_1.length : Int) : Int) := oD (by assumption);obtain ⟨go10,co10,eo10,gb10,gl10,cl10,HG10⟩ := Kd.R_form HO_3.out (by omega);(first|cases eo10|(injection eo10 with ea_ en_ ec_;(first|subst ea_|(injection ea_ with ea_;subst ea_));subst ec_;clear en_));have GB10 := aM gb10;have GG10 := aM HG10;clear gb10 gl10 HG10;obtain ⟨ce10,hcl10,hM10,hcc10,hfr10⟩ := Kd.R_elem HO_3.out z61 (x4_1 : Int) p02 q02;obtain rfl := k61_openM hM10;have hx02_0 : WA8.cell? ⟨go10,(x4_1 : Int).toNat * 3,none⟩ = some (.string ((rd_T61 x3_1 x4_1).f0)) := hcc10 0 _ rfl;have hx02_1 : WA8.cell? ⟨go10,(x4_1 : Int).toNat * 3 + 1,none⟩ = some (.string ((rd_T61 x3_1 x4_1).f1)) := hcc10 1 _ rfl;have hx02_2 : WA8.cell? ⟨go10,(x4_1 : Int).toNat * 3 + 2,none⟩ = some (.string ((rd_T61 x3_1 x4_1).f2)) := hcc10 2 _ rfl;have hf10_0 : WA8.frozen? ⟨go10,(x4_1 : Int).toNat * 3,none⟩ = false := hfr10 0;have hf10_1 : WA8.frozen? ⟨go10,(x4_1 : Int).toNat * 3 + 1,none⟩ = false := hfr10 1;have hf10_2 : WA8.frozen? ⟨go10,(x4_1 : Int).toNat * 3 + 2,none⟩ = false := hfr10 2;clear hcl10 hcc10 hfr10 hM10;replace p02 := eq_true p02;replace q02 := eq_true q02;have HX12 := aM (show Kd.R k61 61 WA8 w.heap.size (fun _ => True) (.slice (some ⟨go10,0,none⟩) x3_1.length co10) x3_1 from (by (with_reducible repeat (first|apply rA|apply rN|apply rD));exact HO_3.out));obtain ⟨ce12,hcl12,hM12,hcc12,hfr12⟩ := Kd.R_elem HX12.out z61 (x4_1 : Int) (oD (by assumption)) (by have h_ : (x4_1 : Int) < ((x3_1.length : Int) : Int) := oD (by assumption);first|exact h_|(have e_ := (rR HO_3.out).1;omega)|simpa using h_);obtain rfl := k61_openM hM12;have HP12 := Kd.R_seg HX12.out (x4_1 : Int) (oD (by assumption)) (by have h_ : (x4_1 : Int) < ((x3_1.length : Int) : Int) := oD (by assumption);first|exact h_|(have e_ := (rR HO_3.out).1;omega)|simpa using h_) (seg := [.string t138,.string t139,.string t140]) (j := 0) hcl12 hcc12 (show 3 ≤ 3 from by decide) (x' := (⟨t138,t139,t140⟩ : S61)) (k61_mkM _ _ _ (⟨t138,t139,t140⟩ : S61) ) (fun _ hk => hk);have hx12_0 := hcc12 0 _ rfl;(try simp only [show (k61).sz = 3 from rfl,Nat.mul_one,Nat.add_zero] at hx12_0);have hf12_0 := hfr12 0;(try simp only [show (k61).sz = 3 from rfl,Nat.mul_one,Nat.add_zero] at hf12_0);have hx12_1 := hcc12 1 _ rfl;(try simp only [show (k61).sz = 3 from rfl,Nat.mul_one,Nat.add_zero] at hx12_1);have hf12_1 := hfr12 1;(try simp only [show (k61).sz = 3 from rfl,Nat.mul_one,Nat.add_zero] at hf12_1);have hx12_2 := hcc12 2 _ rfl;(try simp only [show (k61).sz = 3 from rfl,Nat.mul_one,Nat.add_zero] at hx12_2);have hf12_2 := hfr12 2;(try simp only [show (k61).sz = 3 from rfl,Nat.mul_one,Nat.add_zero] at hf12_2);clear hcl12 hcc12 hfr12 hM12)|((with_reducible refine gate_store (t := 61) (p := 21) rfl ?_);refine store_event (t := 61) (p := 21) (v := ?vo_w13) (w1 := (((WA8.setCell ⟨go10,(x4_1 : Int).toNat * 3,none⟩ (.string t138)).setCell ⟨go10,(x4_1 : Int).toNat * 3 + 1,none⟩ (.string t139)).setCell ⟨go10,(x4_1 : Int).toNat * 3 + 2,none⟩ (.string t140))) ?hg ?ho ?hn ?hr ?_;(case ho => rfl);(case hg => rfl);(case hn => rfl);(case hr => first|(go_simp;done)|(go_simp;rfl));intro w13 hw;have hg : WA8.grownBy w13 (some go10) := (by rw [hw];exact HP12.2);have hp_ : Kd.R k61 61 w13 w.heap.size (fun _ => True) (.slice (some ⟨go10,0,none⟩) x3_1.length co10) y141 := (by rw [hw,Ny141.out];exact HP12.1);clear HP12;replace HO_3 := aM (hp_);replace HB := aM ((by rw [hw];exact lS (lS (lS (HB.out) GB10.out) GB10.out) GB10.out : Below w.heap.size w w13));clear hg hw hp_))
      first
       |
        go_ret;exact ⟨_,by first|rfl|(simp [*];done),by (with_reducible repeat (first|apply rA|apply rN|apply rD));exact HO_3.out,by repeat (first|(with_reducible first|exact HB.out|apply lA|apply lN|apply lD)|exact HB.out)⟩
       |
        go_roundg k1
        case measure => have := HK1.out;omega
        case rel => exact ⟨(y141),(wrap64 (x4_1 + 1)),(by first|rfl|(simp [*];done)),H',⟨by have := HK1.out;omega⟩,⟨by (with_reducible repeat (first|apply rA|apply rN|apply rD));exact HO_3.out⟩,⟨by repeat (first|(with_reducible first|exact HB.out|apply lA|apply lN|apply lD)|exact HB.out)⟩⟩
  ·rw [if_neg c3] at H;exact absurd H (by simp)
 ·rw [if_neg c2] at H;exact absurd H (by simp)
def laws_toOrdinalRule.f (a0_0 : Int) (a0_1 : Int) (a0_2 : ByteArray) : Option (Int × Int × ByteArray) := some (a0_0,a0_1,a0_2)
set_option maxHeartbeats 8000000 in
set_option maxRecDepth 100000 in
theorem laws_toOrdinalRule.calls (a0_0 : Int) (a0_1 : Int) (a0_2 : ByteArray) (r1 : Int) (r2 : Int) (r3 : ByteArray) (w : World) (h : laws_toOrdinalRule.f a0_0 a0_1 a0_2 = some (r1,r2,r3)) :
  Calls Try.prog 72 #[.agg #[.int .i64 a0_0,.int .i64 a0_1,.string a0_2]] w fun e w' => e = .returned (.agg #[.int .i64 r1,.int .i64 r2,.string r3]) ∧ Below w.heap.size w w' := by
 have hu91 := Try.underlying91;have hu72 := Try.underlying72;have HB := aM (Below.refl w.heap.size w);have H : (some (a0_0,a0_1,a0_2)) = some (r1,r2,r3) := h;clear h;simp only [eS,eP] at H;obtain ⟨rfl,rfl,rfl⟩ := H;go_enter Try.func72,Try.ntmps72;go_wp2_with (first|((with_reducible refine gate_dst (N := 1) rfl ?_);refine box_event ?hg (N := 1) ?hd (cs := #[.int .i64 a0_0,.int .i64 a0_1,.string a0_2]) (t := 91) ?hr ?_;(case hd => rfl);(case hg => rfl);(case hr => first|(go_simp;done)|(go_simp;rfl));intro gb142 hg w2 hbox hb;have BK142 := aM (hbox);have GW142 := aM ((by rw [hg];exact (lZ (by repeat (first|(with_reducible first|exact HB.out|apply lA|apply lN|apply lD)|exact HB.out))) : w.heap.size ≤ gb142));have GE142 := GW142;replace HB := aM (lT (by repeat (first|(with_reducible first|exact HB.out|apply lA|apply lN|apply lD)|exact HB.out)) hb);clear hb hbox hg)|((with_reducible refine gate_dst (N := 2) rfl ?_);refine box_event ?hg (N := 2) ?hd (cs := #[.int .i64 0,.int .i64 0,.string (⟨#[]⟩ : ByteArray)]) (t := 72) ?hr ?_;(case hd => rfl);(case hg => rfl);(case hr => first|(go_simp;done)|(go_simp;rfl));intro gb143 hg w3 hbox hb;have BK143 := aM (hbox);have GW143 := aM ((by rw [hg];exact (lZ (by repeat (first|(with_reducible first|exact HB.out|apply lA|apply lN|apply lD|refine lS ?_ GE142.out)|exact HB.out))) : w.heap.size ≤ gb143));have GE143 := GW143;have NB142_143 := aM ((by rw [hg];exact Nat.ne_of_lt (blk_lt (g := gb142) (o := .cells #[.int .i64 a0_0,.int .i64 a0_1,.string a0_2] 91 (0,0)) (by (with_reducible repeat (first|refine bN ?_ _|refine bD ?_|refine bA ?_ _));exact BK142.out)) : gb142 ≠ gb143));have NB143_142 := aM ((by rw [hg];exact Nat.ne_of_gt (blk_lt (g := gb142) (o := .cells #[.int .i64 a0_0,.int .i64 a0_1,.string a0_2] 91 (0,0)) (by (with_reducible repeat (first|refine bN ?_ _|refine bD ?_|refine bA ?_ _));exact BK142.out)) : gb143 ≠ gb142));replace BK142 := aM (bW (g := gb142) (o := .cells #[.int .i64 a0_0,.int .i64 a0_1,.string a0_2] 91 (0,0)) (by (with_reducible repeat (first|refine bN ?_ _|refine bD ?_|refine bA ?_ _));exact BK142.out) hb);replace HB := aM (lT (by repeat (first|(with_reducible first|exact HB.out|apply lA|apply lN|apply lD|refine lS ?_ GE142.out)|exact HB.out)) hb);clear hb hbox hg)|((with_reducible refine gate_dst (N := 3) rfl ?_);refine box_event ?hg (N := 3) ?hd (cs := #[.int .i64 0,.int .i64 0,.string (⟨#[]⟩ : ByteArray)]) (t := 72) ?hr ?_;(case hd => rfl);(case hg => rfl);(case hr => first|(go_simp;done)|(go_simp;rfl));intro gb144 hg w4 hbox hb;have BK144 := aM (hbox);have GW144 := aM ((by rw [hg];exact (lZ (by repeat (first|(with_reducible first|exact HB.out|apply lA|apply lN|apply lD|refine lS ?_ GE142.out|refine lS ?_ GE143.out)|exact HB.out))) : w.heap.size ≤ gb144));have GE144 := GW144;have NB142_144 := aM ((by rw [hg];exact Nat.ne_of_lt (blk_lt (g := gb142) (o := .cells #[.int .i64 a0_0,.int .i64 a0_1,.string a0_2] 91 (0,0)) (by (with_reducible repeat (first|refine bN ?_ _|refine bD ?_|refine bA ?_ _));exact BK142.out)) : gb142 ≠ gb144));have NB144_142 := aM ((by rw [hg];exact Nat.ne_of_gt (blk_lt (g := gb142) (o := .cells #[.int .i64 a0_0,.int .i64 a0_1,.string a0_2] 91 (0,0)) (by (with_reducible repeat (first|refine bN ?_ _|refine bD ?_|refine bA ?_ _));exact BK142.out)) : gb144 ≠ gb142));have NB143_144 := aM ((by rw [hg];exact Nat.ne_of_lt (blk_lt (g := gb143) (o := .cells #[.int .i64 0,.int .i64 0,.string (⟨#[]⟩ : ByteArray)] 72 (0,0)) (by (with_reducible repeat (first|refine bN ?_ _|refine bD ?_|refine bA ?_ _));exact BK143.out)) : gb143 ≠ gb144));have NB144_143 := aM ((by rw [hg];exact Nat.ne_of_gt (blk_lt (g := gb143) (o := .cells #[.int .i64 0,.int .i64 0,.string (⟨#[]⟩ : ByteArray)] 72 (0,0)) (by (with_reducible repeat (first|refine bN ?_ _|refine bD ?_|refine bA ?_ _));exact BK143.out)) : gb144 ≠ gb143));replace BK142 := aM (bW (g := gb142) (o := .cells #[.int .i64 a0_0,.int .i64 a0_1,.string a0_2] 91 (0,0)) (by (with_reducible repeat (first|refine bN ?_ _|refine bD ?_|refine bA ?_ _));exact BK142.out) hb);replace BK143 := aM (bW (g := gb143) (o := .cells #[.int .i64 0,.int .i64 0,.string (⟨#[]⟩ : ByteArray)] 72 (0,0)) (by (with_reducible repeat (first|refine bN ?_ _|refine bD ?_|refine bA ?_ _));exact BK143.out) hb);replace HB := aM (lT (by repeat (first|(with_reducible first|exact HB.out|apply lA|apply lN|apply lD|refine lS ?_ GE142.out|refine lS ?_ GE143.out)|exact HB.out)) hb);clear hb hbox hg;have hnb5 := NB142_143.out;have hnc5 := NB143_142.out;have hnb6 := NB142_144.out;have hnc6 := NB144_142.out;obtain ⟨hcz7_0,hcz7_1,hcz7_2,hfz7_0,hfz7_1,hfz7_2⟩ := z3_ BK142.out;have hnb8 := NB144_143.out;have hnc8 := NB143_144.out;obtain ⟨hcz9_0,hcz9_1,hcz9_2,hfz9_0,hfz9_1,hfz9_2⟩ := z3_ BK144.out;obtain ⟨hcz10_0,hcz10_1,hcz10_2,hfz10_0,hfz10_1,hfz10_2⟩ := z3_ BK143.out));refine bodyPost_ret (results_cell_row rfl _ _ gb143 72 #[.int .i64 a0_0,.int .i64 a0_1,.string a0_2] (0,0) _ rfl (by (with_reducible repeat (first|refine bN ?_ _|refine bD ?_|refine bA ?_ _));refine blk_put (cs := #[.int .i64 a0_0,.int .i64 a0_1,.string (⟨#[]⟩ : ByteArray)]) ?_ 2 _ rfl;(with_reducible repeat (first|refine bN ?_ _|refine bD ?_|refine bA ?_ _));refine blk_put (cs := #[.int .i64 a0_0,.int .i64 0,.string (⟨#[]⟩ : ByteArray)]) ?_ 1 _ rfl;(with_reducible repeat (first|refine bN ?_ _|refine bD ?_|refine bA ?_ _));refine blk_put (cs := #[.int .i64 0,.int .i64 0,.string (⟨#[]⟩ : ByteArray)]) ?_ 0 _ rfl;(with_reducible repeat (first|refine bN ?_ _|refine bD ?_|refine bA ?_ _));refine blk_far ?_ NB143_144.out _;(with_reducible repeat (first|refine bN ?_ _|refine bD ?_|refine bA ?_ _));refine blk_far ?_ NB143_144.out _;(with_reducible repeat (first|refine bN ?_ _|refine bD ?_|refine bA ?_ _));refine blk_far ?_ NB143_144.out _;(with_reducible repeat (first|refine bN ?_ _|refine bD ?_|refine bA ?_ _));exact BK143.out) Try.underlying72 rfl (by kernel_rfl)) rfl ?_;exact ⟨by first|rfl|(simp [*];done),by repeat (first|(with_reducible first|exact HB.out|apply lA|apply lN|apply lD|refine lS ?_ GE142.out|refine lS ?_ GE143.out|refine lS ?_ GE144.out)|exact HB.out)⟩
def laws_toOrdinalRuleS.l0 : Nat → List (S91) → List (S72) → Int → Option ((List (S72)))
 | 0,_,_,_ => none
 | k + 1,x0,x3,x4 => if x4 < (x0.length : Int) then (if 0 ≤ x4 then ((laws_toOrdinalRule.f ((rd_T91 x0 x4).f0) ((rd_T91 x0 x4).f1) ((rd_T91 x0 x4).f2)).bind fun bt149 => (if x4 < (x3.length : Int) then (laws_toOrdinalRuleS.l0 k x0 (x3.set (x4 : Int).toNat (⟨bt149.1,bt149.2.1,bt149.2.2⟩ : S72)) (wrap64 (x4 + 1))) else (none))) else (none)) else (some x3)
def laws_toOrdinalRuleS.f (k : Nat) (l0 : List (S91)) : Option ((List (S72))) := if 0 ≤ (l0.length : Int) then (if ((l0.length : Int) : Int).toNat ≤ 8796093022208 then (laws_toOrdinalRuleS.l0 k l0 (List.replicate ((l0.length : Int) : Int).toNat z72) 0) else (none)) else (none)
theorem laws_toOrdinalRuleS.mono_l : ∀ k,(∀ y0 y1 y2,LeO (laws_toOrdinalRuleS.l0 k y0 y1 y2) (laws_toOrdinalRuleS.l0 (k + 1) y0 y1 y2))
 | 0 => fun _ _ _ r h => by simp [laws_toOrdinalRuleS.l0] at h
 | k + 1 => by
  have ih0 := laws_toOrdinalRuleS.mono_l k
  ·intro y0 y1 y2
   unfold laws_toOrdinalRuleS.l0
   repeat' first
   | (with_reducible exact ih0 _ _ _)
   | (with_reducible exact LeO.refl _)
   | (with_reducible exact LeO.none _)
   | (with_reducible refine LeO.ite ?_ ?_)
   | (with_reducible refine LeO.bind ?_ (fun _ => ?_))
   | exact ih0 _ _ _
   | exact LeO.none _
   | refine LeO.ite ?_ ?_
   | refine LeO.bind ?_ (fun _ => ?_)
theorem laws_toOrdinalRuleS.mono : ∀ a0 k,LeO (laws_toOrdinalRuleS.f k a0) (laws_toOrdinalRuleS.f (k + 1) a0) := by
 intro a0 k
 have ih0 := laws_toOrdinalRuleS.mono_l k
 unfold laws_toOrdinalRuleS.f
 repeat' first
   | (with_reducible exact ih0 _ _ _)
   | (with_reducible exact LeO.refl _)
   | (with_reducible exact LeO.none _)
   | (with_reducible refine LeO.ite ?_ ?_)
   | (with_reducible refine LeO.bind ?_ (fun _ => ?_))
   | exact ih0 _ _ _
   | exact LeO.none _
   | refine LeO.ite ?_ ?_
   | refine LeO.bind ?_ (fun _ => ?_)
set_option maxHeartbeats 8000000 in
set_option maxRecDepth 100000 in
theorem laws_toOrdinalRuleS.calls (k : Nat) (A0 : Option Addr) (c0 : Nat) (l0 : List (S91)) (r : List (S72)) (w : World) (hr0 : Kd.C k91 w A0 l0.length l0) (hc0 : l0.length ≤ c0) (h : laws_toOrdinalRuleS.f k l0 = some r) :
  Calls Try.prog 40 #[.slice A0 l0.length c0] w fun e w' => ∃ v0_ : Value,e = .returned (v0_) ∧ Kd.R k72 72 w' w.heap.size (fun _ => True) v0_ r ∧ Below w.heap.size w w' := by
 have hu91 := Try.underlying91;have hu72 := Try.underlying72;have HR0 := aM hr0;have HC0 := aM hc0;clear hr0 hc0;have HB := aM (Below.refl w.heap.size w);have H : (if 0 ≤ (l0.length : Int) then (if ((l0.length : Int) : Int).toNat ≤ 8796093022208 then (laws_toOrdinalRuleS.l0 k l0 (List.replicate ((l0.length : Int) : Int).toNat z72) 0) else (none)) else (none)) = some r := h;clear h
 by_cases c2 : 0 ≤ (l0.length : Int)
 ·rw [if_pos c2] at H;have c2b0 := eq_true c2;have c2b1 : decide (0 ≤ (l0.length : Int)) = true := dT c2;clear c2
  by_cases c3 : ((l0.length : Int) : Int).toNat ≤ 8796093022208
  ·rw [if_pos c3] at H;have c3b0 := eq_true c3;have c3b1 : decide (((l0.length : Int) : Int).toNat ≤ 8796093022208) = true := dT c3;clear c3;obtain ⟨y145,hy145⟩ : ∃ y_ : List (S72),y_ = (List.replicate ((l0.length : Int) : Int).toNat z72) := ⟨_,rfl⟩;replace H : (laws_toOrdinalRuleS.l0 k l0 y145 0) = some r := (by first|(rw [hy145];with_reducible exact H)|(have H2_ := (Option.bind_some _ _).symm.trans H;rw [hy145];with_reducible exact H2_)|(have H2_ := (Option.bind_some _ _).symm.trans H;with_reducible exact H2_)|with_reducible exact H|(rw [hy145];exact H)|exact H);have Ny145 := aM hy145;clear hy145;have H' := aM H;clear H;go_enter Try.func40,Try.ntmps40;go_wp2_with (first|((with_reducible refine gate_dst (N := 7) rfl ?_);refine Kd.R_make k72 _ 72 rfl (N := 7) rfl 29 _ _ rfl (l0.length : Int) rfl rfl Try.underlying29 (.agg #[(.int .i64 0),(.int .i64 0),(.string ⟨#[]⟩)]) 32 info72 rfl (by decide) (by omega) z72 (ok := fun _ => True) (okp := fun _ => True) (k72_mkM _ _ _ z72 ) (fun _ hk => hk) trivial (oD (by assumption)) (Nat.le_trans (Nat.mul_le_mul_right _ (oD (by assumption) : (l0.length : Int).toNat ≤ 8796093022208)) (by omega)) (Below.refl _ _) (Nat.le_refl _) ?_;intro v146 w4 ho5 hb hg_ hnew_;clear hg_ hnew_;(first|rw [← Ny145.out] at ho5|(simp only [Int.reduceToNat] at ho5;rw [← Ny145.out] at ho5));have HO147 := aM (Kd.R_lower ho5 (lZ (by repeat (first|(with_reducible first|exact HB.out|apply lA|apply lN|apply lD)|exact HB.out))));replace HB := aM (lT (by repeat (first|(with_reducible first|exact HB.out|apply lA|apply lN|apply lD)|exact HB.out)) hb);clear hb ho5));go_loopg [4] k (fun kq v4 w' => ∃ (x3_1 : List (S72)) (x4_1 : Int),v4 = .int .i64 x4_1 ∧ Aside0 (laws_toOrdinalRuleS.l0 kq l0 x3_1 x4_1 = some r) ∧ Aside0 (kq ≤ k) ∧ Aside0 (Kd.R k72 72 w' w.heap.size (fun _ => True) v146 x3_1) ∧ Aside0 (Below w.heap.size w w'))
   case atStart => exact ⟨(y145),(0),(by first|rfl|(simp [*];done)),H',⟨Nat.le_refl _⟩,⟨by (with_reducible repeat (first|apply rA|apply rN|apply rD));exact HO147.out⟩,⟨by repeat (first|(with_reducible first|exact HB.out|apply lA|apply lN|apply lD)|exact HB.out)⟩⟩
   case round =>
    clear H';(try clear c2);(try clear c2b0);(try clear c2b1);(try clear p2);(try clear c3);(try clear c3b0);(try clear c3b1);(try clear c4);obtain ⟨x3_1,x4_1,rfl,HA,HK1,HO_3,HB⟩ := hrel
    cases gk with
    | zero => exact absurd HA.out (by simp [laws_toOrdinalRuleS.l0])
    | succ k1 =>
     have H := HA.out;clear HA;simp only [laws_toOrdinalRuleS.l0] at H
     by_cases c6 : x4_1 < (l0.length : Int)
     focus
      rw [if_pos c6] at H;have c6b0 : decide (x4_1 < (l0.length : Int)) = true := dT c6;clear c6
      by_cases c7 : 0 ≤ x4_1
      rotate_left;rw [if_neg c7] at H;exact absurd H (by simp);rw [if_pos c7] at H;have c7b0 : decide (0 ≤ x4_1) = true := dT c7;clear c7;replace H := Option.bind_eq_some_iff.mp H;obtain ⟨⟨t149,t150,t151⟩,A80,H⟩ := H;replace H : (if x4_1 < (x3_1.length : Int) then (laws_toOrdinalRuleS.l0 k1 l0 (x3_1.set (x4_1 : Int).toNat (⟨t149,t150,t151⟩ : S72)) (wrap64 (x4_1 + 1))) else (none)) = some r := H;have A8 := aM A80;clear A80
      by_cases c9 : x4_1 < (x3_1.length : Int)
      rotate_left;rw [if_neg c9] at H;exact absurd H (by simp);rw [if_pos c9] at H;have c9b0 : decide (x4_1 < (x3_1.length : Int)) = true := dT c9;clear c9;obtain ⟨y152,hy152⟩ : ∃ y_ : List (S72),y_ = (x3_1.set (x4_1 : Int).toNat (⟨t149,t150,t151⟩ : S72)) := ⟨_,rfl⟩;replace H : (laws_toOrdinalRuleS.l0 k1 l0 y152 (wrap64 (x4_1 + 1))) = some r := (by first|(rw [hy152];with_reducible exact H)|(have H2_ := (Option.bind_some _ _).symm.trans H;rw [hy152];with_reducible exact H2_)|(have H2_ := (Option.bind_some _ _).symm.trans H;with_reducible exact H2_)|with_reducible exact H|(rw [hy152];exact H)|exact H);have Ny152 := aM hy152;clear hy152;have H' := aM H;clear H
     rotate_left
     focus
      rw [if_neg c6] at H;have c6b0 : decide (x4_1 < (l0.length : Int)) = false := dF c6;clear c6;obtain rfl := Option.some.inj H;simp only [eS,eP] at H;obtain ⟨rfl⟩ := H
     all_goals
      (try (have p01 : 0 ≤ (x4_1 : Int) := oD (by assumption);have q01 : x4_1 < (l0.length : Int) := oD (by assumption);obtain ⟨ad01,e01,hx01_0,hx01_1,hx01_2⟩ := at_T91 HR0.out x4_1 p01 q01;cases e01;replace hx01_0 := (HB.out.cell (wB w _ hx01_0)).trans hx01_0;replace hx01_1 := (HB.out.cell (wB w _ hx01_1)).trans hx01_1;replace hx01_2 := (HB.out.cell (wB w _ hx01_2)).trans hx01_2;replace p01 := eq_true p01;replace q01 := eq_true q01));go_wp2_with (first|((with_reducible refine gate_callee (f := 72) rfl ?_);refine goesL_ (some 20) rfl rfl Try.func72 (by kernel_rfl) rfl #[.agg #[.int .i64 ((rd_T91 l0 x4_1).f0),.int .i64 ((rd_T91 l0 x4_1).f1),.string ((rd_T91 l0 x4_1).f2)]] rfl (by (try simp only [mT,mC,mN]);first|done|rfl|(simp only [xD,xT];rfl)) ?_;(with_reducible refine (laws_toOrdinalRule.calls _ _ _ _ _ _ _ A8.out).mono ?_);rintro e WA8 ⟨rfl,hb⟩;refine ⟨_,rfl,?_⟩;replace HO_3 := aM (rB (by (with_reducible repeat (first|apply rA|apply rN|apply rD));exact HO_3.out) hb);replace HB := aM (lT (by repeat (first|(with_reducible first|exact HB.out|apply lA|apply lN|apply lD)|exact HB.out)) hb);(try clear hb);have p02 : 0 ≤ (x4_1 : Int) := oD (by assumption);have q02 : (x4_1 : Int) < ((x3_1.length : Int) : Int) := oD (by assumption);obtain ⟨go10,co10,eo10,gb10,gl10,cl10,HG10⟩ := Kd.R_form HO_3.out (by omega);(first|cases eo10|(injection eo10 with ea_ en_ ec_;(first|subst ea_|(injection ea_ with ea_;subst ea_));subst ec_;clear en_));have GB10 := aM gb10;have GG10 := aM HG10;clear gb10 gl10 HG10;obtain ⟨ce10,hcl10,hM10,hcc10,hfr10⟩ := Kd.R_elem HO_3.out z72 (x4_1 : Int) p02 q02;obtain rfl := k72_openM hM10;have hx02_0 : WA8.cell? ⟨go10,(x4_1 : Int).toNat * 3,none⟩ = some (.int .i64 ((rd_T72 x3_1 x4_1).f0)) := hcc10 0 _ rfl;have hx02_1 : WA8.cell? ⟨go10,(x4_1 : Int).toNat * 3 + 1,none⟩ = some (.int .i64 ((rd_T72 x3_1 x4_1).f1)) := hcc10 1 _ rfl;have hx02_2 : WA8.cell? ⟨go10,(x4_1 : Int).toNat * 3 + 2,none⟩ = some (.string ((rd_T72 x3_1 x4_1).f2)) := hcc10 2 _ rfl;have hf10_0 : WA8.frozen? ⟨go10,(x4_1 : Int).toNat * 3,none⟩ = false := hfr10 0;have hf10_1 : WA8.frozen? ⟨go10,(x4_1 : Int).toNat * 3 + 1,none⟩ = false := hfr10 1;have hf10_2 : WA8.frozen? ⟨go10,(x4_1 : Int).toNat * 3 + 2,none⟩ = false := hfr10 2;clear hcl10 hcc10 hfr10 hM10;replace p02 := eq_true p02;replace q02 := eq_true q02;have HX12 := aM (show Kd.R k72 72 WA8 w.heap.size (fun _ => True) (.slice (some ⟨go10,0,none⟩) x3_1.length co10) x3_1 from (by (with_reducible repeat (first|apply rA|apply rN|apply rD));exact HO_3.out));obtain ⟨ce12,hcl12,hM12,hcc12,hfr12⟩ := Kd.R_elem HX12.out z72 (x4_1 : Int) (oD (by assumption)) (by have h_ : (x4_1 : Int) < ((x3_1.length : Int) : Int) := oD (by assumption);first|exact h_|(have e_ := (rR HO_3.out).1;omega)|simpa using h_);obtain rfl := k72_openM hM12;have HP12 := Kd.R_seg HX12.out (x4_1 : Int) (oD (by assumption)) (by have h_ : (x4_1 : Int) < ((x3_1.length : Int) : Int) := oD (by assumption);first|exact h_|(have e_ := (rR HO_3.out).1;omega)|simpa using h_) (seg := [.int .i64 t149,.int .i64 t150,.string t151]) (j := 0) hcl12 hcc12 (show 3 ≤ 3 from by decide) (x' := (⟨t149,t150,t151⟩ : S72)) (k72_mkM _ _ _ (⟨t149,t150,t151⟩ : S72) ) (fun _ hk => hk);have hx12_0 := hcc12 0 _ rfl;(try simp only [show (k72).sz = 3 from rfl,Nat.mul_one,Nat.add_zero] at hx12_0);have hf12_0 := hfr12 0;(try simp only [show (k72).sz = 3 from rfl,Nat.mul_one,Nat.add_zero] at hf12_0);have hx12_1 := hcc12 1 _ rfl;(try simp only [show (k72).sz = 3 from rfl,Nat.mul_one,Nat.add_zero] at hx12_1);have hf12_1 := hfr12 1;(try simp only [show (k72).sz = 3 from rfl,Nat.mul_one,Nat.add_zero] at hf12_1);have hx12_2 := hcc12 2 _ rfl;(try simp only [show (k72).sz = 3 from rfl,Nat.mul_one,Nat.add_zero] at hx12_2);have hf12_2 := hfr12 2;(try simp only [show (k72).sz = 3 from rfl,Nat.mul_one,Nat.add_zero] at hf12_2);clear hcl12 hcc12 hfr12 hM12)|((with_reducible refine gate_store (t := 72) (p := 21) rfl ?_);refine store_event (t := 72) (p := 21) (v := ?vo_w13) (w1 := (((WA8.setCell ⟨go10,(x4_1 : Int).toNat * 3,none⟩ (.int .i64 t149)).setCell ⟨go10,(x4_1 : Int).toNat * 3 + 1,none⟩ (.int .i64 t150)).setCell ⟨go10,(x4_1 : Int).toNat * 3 + 2,none⟩ (.string t151))) ?hg ?ho ?hn ?hr ?_;(case ho => rfl);(case hg => rfl);(case hn => rfl);(case hr => first|(go_simp;done)|(go_simp;rfl));intro w13 hw;have hg : WA8.grownBy w13 (some go10) := (by rw [hw];exact HP12.2);have hp_ : Kd.R k72 72 w13 w.heap.size (fun _ => True) (.slice (some ⟨go10,0,none⟩) x3_1.length co10) y152 := (by rw [hw,Ny152.out];exact HP12.1);clear HP12;replace HO_3 := aM (hp_);replace HB := aM ((by rw [hw];exact lS (lS (lS (HB.out) GB10.out) GB10.out) GB10.out : Below w.heap.size w w13));clear hg hw hp_))
      first
       |
        go_ret;exact ⟨_,by first|rfl|(simp [*];done),by (with_reducible repeat (first|apply rA|apply rN|apply rD));exact HO_3.out,by repeat (first|(with_reducible first|exact HB.out|apply lA|apply lN|apply lD)|exact HB.out)⟩
       |
        go_roundg k1
        case measure => have := HK1.out;omega
        case rel => exact ⟨(y152),(wrap64 (x4_1 + 1)),(by first|rfl|(simp [*];done)),H',⟨by have := HK1.out;omega⟩,⟨by (with_reducible repeat (first|apply rA|apply rN|apply rD));exact HO_3.out⟩,⟨by repeat (first|(with_reducible first|exact HB.out|apply lA|apply lN|apply lD)|exact HB.out)⟩⟩
  ·rw [if_neg c3] at H;exact absurd H (by simp)
 ·rw [if_neg c2] at H;exact absurd H (by simp)
def laws_toLocale.f (k : Nat) (a0_0 : ByteArray) (l0_1 : List (S57)) (l0_2 : List (S91)) (a0_3 : ByteArray) (a0_4 : ByteArray) : Option (ByteArray × (List (S61)) × (List (S72)) × ByteArray × ByteArray) := (laws_toTermS.f k l0_1).bind fun t156 => ((laws_toOrdinalRuleS.f k l0_2).bind fun t159 => (some (a0_0,t156,t159,a0_3,a0_4)))
theorem laws_toLocale.mono : ∀ a0 a1 a2 a3 a4 k,LeO (laws_toLocale.f k a0 a1 a2 a3 a4) (laws_toLocale.f (k + 1) a0 a1 a2 a3 a4) := by
 intro a0 a1 a2 a3 a4 k
 unfold laws_toLocale.f
 repeat' first
   | (with_reducible exact laws_toOrdinalRuleS.mono _ _)
   | (with_reducible exact laws_toTermS.mono _ _)
   | (with_reducible exact LeO.refl _)
   | (with_reducible exact LeO.none _)
   | (with_reducible refine LeO.ite ?_ ?_)
   | (with_reducible refine LeO.bind ?_ (fun _ => ?_))
   | exact laws_toOrdinalRuleS.mono _ _
   | exact laws_toTermS.mono _ _
   | exact LeO.none _
   | refine LeO.ite ?_ ?_
   | refine LeO.bind ?_ (fun _ => ?_)
set_option maxHeartbeats 8000000 in
set_option maxRecDepth 100000 in
theorem laws_toLocale.calls (k : Nat) (a0_0 : ByteArray) (A0_1 : Option Addr) (c0_1 : Nat) (l0_1 : List (S57)) (A0_2 : Option Addr) (c0_2 : Nat) (l0_2 : List (S91)) (a0_3 : ByteArray) (a0_4 : ByteArray) (r1 : ByteArray) (r2 : List (S61)) (r3 : List (S72)) (r4 : ByteArray) (r5 : ByteArray) (w : World) (hr0_1 : Kd.C k57 w A0_1 l0_1.length l0_1) (hc0_1 : l0_1.length ≤ c0_1) (hr0_2 : Kd.C k91 w A0_2 l0_2.length l0_2) (hc0_2 : l0_2.length ≤ c0_2) (h : laws_toLocale.f k a0_0 l0_1 l0_2 a0_3 a0_4 = some (r1,r2,r3,r4,r5)) :
  Calls Try.prog 11 #[.agg #[.string a0_0,.slice A0_1 l0_1.length c0_1,.slice A0_2 l0_2.length c0_2,.string a0_3,.string a0_4]] w fun e w' => ∃ v1_ v2_ : Value,e = .returned (.agg #[.string r1,v1_,v2_,.string r4,.string r5]) ∧ Kd.R k61 61 w' w.heap.size (fun _ => True) v1_ r2 ∧ Kd.R k72 72 w' w.heap.size (fun _ => True) v2_ r3 ∧ Below w.heap.size w w' := by
 have hu25 := Try.underlying25;have hu31 := Try.underlying31;have HR0_1 := aM hr0_1;have HC0_1 := aM hc0_1;clear hr0_1 hc0_1;have HR0_2 := aM hr0_2;have HC0_2 := aM hc0_2;clear hr0_2 hc0_2;have HB := aM (Below.refl w.heap.size w);have H : ((laws_toTermS.f k l0_1).bind fun t156 => ((laws_toOrdinalRuleS.f k l0_2).bind fun t159 => (some (a0_0,t156,t159,a0_3,a0_4)))) = some (r1,r2,r3,r4,r5) := h;clear h;obtain ⟨t156,A2,H⟩ := bE_ H;obtain ⟨t159,A3,H⟩ := bE_ H;simp only [eS,eP] at H;obtain ⟨rfl,rfl,rfl,rfl,rfl⟩ := H;go_enter Try.func11,Try.ntmps11;go_wp2_with (first|((with_reducible refine gate_dst (N := 1) rfl ?_);refine box_event ?hg (N := 1) ?hd (cs := #[.string a0_0,.slice A0_1 l0_1.length c0_1,.slice A0_2 l0_2.length c0_2,.string a0_3,.string a0_4]) (t := 25) ?hr ?_;(case hd => rfl);(case hg => rfl);(case hr => first|(go_simp;done)|(go_simp;rfl));intro gb153 hg w4 hbox hb;have BK153 := aM (hbox);have GW153 := aM ((by rw [hg];exact (lZ (by repeat (first|(with_reducible first|exact HB.out|apply lA|apply lN|apply lD)|exact HB.out))) : w.heap.size ≤ gb153));have GE153 := GW153;replace HB := aM (lT (by repeat (first|(with_reducible first|exact HB.out|apply lA|apply lN|apply lD)|exact HB.out)) hb);clear hb hbox hg)|((with_reducible refine gate_dst (N := 2) rfl ?_);refine box_event ?hg (N := 2) ?hd (cs := #[.string (⟨#[]⟩ : ByteArray),.slice none 0 0,.slice none 0 0,.string (⟨#[]⟩ : ByteArray),.string (⟨#[]⟩ : ByteArray)]) (t := 31) ?hr ?_;(case hd => rfl);(case hg => rfl);(case hr => first|(go_simp;done)|(go_simp;rfl));intro gb154 hg w5 hbox hb;have BK154 := aM (hbox);have GW154 := aM ((by rw [hg];exact (lZ (by repeat (first|(with_reducible first|exact HB.out|apply lA|apply lN|apply lD|refine lS ?_ GE153.out)|exact HB.out))) : w.heap.size ≤ gb154));have GE154 := GW154;have NB153_154 := aM ((by rw [hg];exact Nat.ne_of_lt (blk_lt (g := gb153) (o := .cells #[.string a0_0,.slice A0_1 l0_1.length c0_1,.slice A0_2 l0_2.length c0_2,.string a0_3,.string a0_4] 25 (0,0)) (by (with_reducible repeat (first|refine bN ?_ _|refine bD ?_|refine bA ?_ _));exact BK153.out)) : gb153 ≠ gb154));have NB154_153 := aM ((by rw [hg];exact Nat.ne_of_gt (blk_lt (g := gb153) (o := .cells #[.string a0_0,.slice A0_1 l0_1.length c0_1,.slice A0_2 l0_2.length c0_2,.string a0_3,.string a0_4] 25 (0,0)) (by (with_reducible repeat (first|refine bN ?_ _|refine bD ?_|refine bA ?_ _));exact BK153.out)) : gb154 ≠ gb153));replace BK153 := aM (bW (g := gb153) (o := .cells #[.string a0_0,.slice A0_1 l0_1.length c0_1,.slice A0_2 l0_2.length c0_2,.string a0_3,.string a0_4] 25 (0,0)) (by (with_reducible repeat (first|refine bN ?_ _|refine bD ?_|refine bA ?_ _));exact BK153.out) hb);replace HB := aM (lT (by repeat (first|(with_reducible first|exact HB.out|apply lA|apply lN|apply lD|refine lS ?_ GE153.out)|exact HB.out)) hb);clear hb hbox hg)|((with_reducible refine gate_dst (N := 3) rfl ?_);refine box_event ?hg (N := 3) ?hd (cs := #[.string (⟨#[]⟩ : ByteArray),.slice none 0 0,.slice none 0 0,.string (⟨#[]⟩ : ByteArray),.string (⟨#[]⟩ : ByteArray)]) (t := 31) ?hr ?_;(case hd => rfl);(case hg => rfl);(case hr => first|(go_simp;done)|(go_simp;rfl));intro gb155 hg w6 hbox hb;have BK155 := aM (hbox);have GW155 := aM ((by rw [hg];exact (lZ (by repeat (first|(with_reducible first|exact HB.out|apply lA|apply lN|apply lD|refine lS ?_ GE153.out|refine lS ?_ GE154.out)|exact HB.out))) : w.heap.size ≤ gb155));have GE155 := GW155;have NB153_155 := aM ((by rw [hg];exact Nat.ne_of_lt (blk_lt (g := gb153) (o := .cells #[.string a0_0,.slice A0_1 l0_1.length c0_1,.slice A0_2 l0_2.length c0_2,.string a0_3,.string a0_4] 25 (0,0)) (by (with_reducible repeat (first|refine bN ?_ _|refine bD ?_|refine bA ?_ _));exact BK153.out)) : gb153 ≠ gb155));have NB155_153 := aM ((by rw [hg];exact Nat.ne_of_gt (blk_lt (g := gb153) (o := .cells #[.string a0_0,.slice A0_1 l0_1.length c0_1,.slice A0_2 l0_2.length c0_2,.string a0_3,.string a0_4] 25 (0,0)) (by (with_reducible repeat (first|refine bN ?_ _|refine bD ?_|refine bA ?_ _));exact BK153.out)) : gb155 ≠ gb153));have NB154_155 := aM ((by rw [hg];exact Nat.ne_of_lt (blk_lt (g := gb154) (o := .cells #[.string (⟨#[]⟩ : ByteArray),.slice none 0 0,.slice none 0 0,.string (⟨#[]⟩ : ByteArray),.string (⟨#[]⟩ : ByteArray)] 31 (0,0)) (by (with_reducible repeat (first|refine bN ?_ _|refine bD ?_|refine bA ?_ _));exact BK154.out)) : gb154 ≠ gb155));have NB155_154 := aM ((by rw [hg];exact Nat.ne_of_gt (blk_lt (g := gb154) (o := .cells #[.string (⟨#[]⟩ : ByteArray),.slice none 0 0,.slice none 0 0,.string (⟨#[]⟩ : ByteArray),.string (⟨#[]⟩ : ByteArray)] 31 (0,0)) (by (with_reducible repeat (first|refine bN ?_ _|refine bD ?_|refine bA ?_ _));exact BK154.out)) : gb155 ≠ gb154));replace BK153 := aM (bW (g := gb153) (o := .cells #[.string a0_0,.slice A0_1 l0_1.length c0_1,.slice A0_2 l0_2.length c0_2,.string a0_3,.string a0_4] 25 (0,0)) (by (with_reducible repeat (first|refine bN ?_ _|refine bD ?_|refine bA ?_ _));exact BK153.out) hb);replace BK154 := aM (bW (g := gb154) (o := .cells #[.string (⟨#[]⟩ : ByteArray),.slice none 0 0,.slice none 0 0,.string (⟨#[]⟩ : ByteArray),.string (⟨#[]⟩ : ByteArray)] 31 (0,0)) (by (with_reducible repeat (first|refine bN ?_ _|refine bD ?_|refine bA ?_ _));exact BK154.out) hb);replace HB := aM (lT (by repeat (first|(with_reducible first|exact HB.out|apply lA|apply lN|apply lD|refine lS ?_ GE153.out|refine lS ?_ GE154.out)|exact HB.out)) hb);clear hb hbox hg;have hnb7 := NB153_154.out;have hnc7 := NB154_153.out;have hnb8 := NB153_155.out;have hnc8 := NB155_153.out;obtain ⟨hcz9_0,hcz9_1,hcz9_2,hcz9_3,hcz9_4,hfz9_0,hfz9_1,hfz9_2,hfz9_3,hfz9_4⟩ := z5_ BK153.out;have hnb10 := NB155_154.out;have hnc10 := NB154_155.out;obtain ⟨hcz11_0,hcz11_1,hcz11_2,hcz11_3,hcz11_4,hfz11_0,hfz11_1,hfz11_2,hfz11_3,hfz11_4⟩ := z5_ BK155.out)|((with_reducible refine gate_callee (f := 39) rfl ?_);refine goesL_ (some 9) rfl rfl Try.func39 (by kernel_rfl) rfl #[.slice A0_1 l0_1.length c0_1] rfl (by (try simp only [mT,mC,mN]);first|done|rfl|(simp only [xD,xT];rfl)) ?_;(with_reducible refine (laws_toTermS.calls k _ _ l0_1 t156 _ ?side1 ?side2 A2.out).mono ?_);(case side1 => exact cB HR0_1.out (by repeat (first|(with_reducible first|exact HB.out|apply lA|apply lN|apply lD|refine lS ?_ GE153.out|refine lS ?_ GE154.out|refine lS ?_ GE155.out)|exact HB.out)));(case side2 => exact HC0_1.out);rintro e w12 ⟨v157,rfl,ho0,hb⟩;refine ⟨_,rfl,?_⟩;have HO158 := aM (Kd.R_lower ho0 (lZ (by repeat (first|(with_reducible first|exact HB.out|apply lA|apply lN|apply lD|refine lS ?_ GE153.out|refine lS ?_ GE154.out|refine lS ?_ GE155.out)|exact HB.out))));replace BK153 := aM (bW (g := gb153) (o := .cells #[.string a0_0,.slice A0_1 l0_1.length c0_1,.slice A0_2 l0_2.length c0_2,.string a0_3,.string a0_4] 25 (0,0)) (by (with_reducible repeat (first|refine bN ?_ _|refine bD ?_|refine bA ?_ _));refine blk_far ?_ NB153_155.out _;(with_reducible repeat (first|refine bN ?_ _|refine bD ?_|refine bA ?_ _));exact BK153.out) hb);replace BK154 := aM (bW (g := gb154) (o := .cells #[.string (⟨#[]⟩ : ByteArray),.slice none 0 0,.slice none 0 0,.string (⟨#[]⟩ : ByteArray),.string (⟨#[]⟩ : ByteArray)] 31 (0,0)) (by (with_reducible repeat (first|refine bN ?_ _|refine bD ?_|refine bA ?_ _));refine blk_far ?_ NB154_155.out _;(with_reducible repeat (first|refine bN ?_ _|refine bD ?_|refine bA ?_ _));exact BK154.out) hb);replace BK155 := aM (bW (g := gb155) (o := .cells #[.string a0_0,.slice none 0 0,.slice none 0 0,.string (⟨#[]⟩ : ByteArray),.string (⟨#[]⟩ : ByteArray)] 31 (0,0)) (by (with_reducible repeat (first|refine bN ?_ _|refine bD ?_|refine bA ?_ _));refine blk_put (cs := #[.string (⟨#[]⟩ : ByteArray),.slice none 0 0,.slice none 0 0,.string (⟨#[]⟩ : ByteArray),.string (⟨#[]⟩ : ByteArray)]) ?_ 0 _ rfl;(with_reducible repeat (first|refine bN ?_ _|refine bD ?_|refine bA ?_ _));exact BK155.out) hb);replace HB := aM (lT (by repeat (first|(with_reducible first|exact HB.out|apply lA|apply lN|apply lD|refine lS ?_ GE153.out|refine lS ?_ GE154.out|refine lS ?_ GE155.out)|exact HB.out)) hb);(try clear hb);(try clear ho0);obtain ⟨Ao13,co13,eo13⟩ := Kd.R_slice HO158.out;subst eo13;obtain ⟨hcz14_0,hcz14_1,hcz14_2,hcz14_3,hcz14_4,hfz14_0,hfz14_1,hfz14_2,hfz14_3,hfz14_4⟩ := z5_ BK155.out;obtain ⟨hcz15_0,hcz15_1,hcz15_2,hcz15_3,hcz15_4,hfz15_0,hfz15_1,hfz15_2,hfz15_3,hfz15_4⟩ := z5_ BK153.out)|((with_reducible refine gate_callee (f := 40) rfl ?_);refine goesL_ (some 13) rfl rfl Try.func40 (by kernel_rfl) rfl #[.slice A0_2 l0_2.length c0_2] rfl (by (try simp only [mT,mC,mN]);first|done|rfl|(simp only [xD,xT];rfl)) ?_;(with_reducible refine (laws_toOrdinalRuleS.calls k _ _ l0_2 t159 _ ?side1 ?side2 A3.out).mono ?_);(case side1 => exact cB HR0_2.out (by repeat (first|(with_reducible first|exact HB.out|apply lA|apply lN|apply lD|refine lS ?_ GE153.out|refine lS ?_ GE154.out|refine lS ?_ GE155.out)|exact HB.out)));(case side2 => exact HC0_2.out);rintro e w16 ⟨v160,rfl,ho0,hb⟩;refine ⟨_,rfl,?_⟩;have HO161 := aM (Kd.R_lower ho0 (lZ (by repeat (first|(with_reducible first|exact HB.out|apply lA|apply lN|apply lD|refine lS ?_ GE153.out|refine lS ?_ GE154.out|refine lS ?_ GE155.out)|exact HB.out))));replace HO158 := aM (rB (by (with_reducible repeat (first|apply rA|apply rN|apply rD));exact (Kd.R_mono (rF (p := ⟨gb155,1,none⟩) (Kd.R_types HO158.out BK155.out (by decide)) (fun _ hk => hk.2) (.slice Ao13 t156.length co13)) (fun _ h_ => h_.1))) hb);replace BK153 := aM (bW (g := gb153) (o := .cells #[.string a0_0,.slice A0_1 l0_1.length c0_1,.slice A0_2 l0_2.length c0_2,.string a0_3,.string a0_4] 25 (0,0)) (by (with_reducible repeat (first|refine bN ?_ _|refine bD ?_|refine bA ?_ _));refine blk_far ?_ NB153_155.out _;(with_reducible repeat (first|refine bN ?_ _|refine bD ?_|refine bA ?_ _));exact BK153.out) hb);replace BK154 := aM (bW (g := gb154) (o := .cells #[.string (⟨#[]⟩ : ByteArray),.slice none 0 0,.slice none 0 0,.string (⟨#[]⟩ : ByteArray),.string (⟨#[]⟩ : ByteArray)] 31 (0,0)) (by (with_reducible repeat (first|refine bN ?_ _|refine bD ?_|refine bA ?_ _));refine blk_far ?_ NB154_155.out _;(with_reducible repeat (first|refine bN ?_ _|refine bD ?_|refine bA ?_ _));exact BK154.out) hb);replace BK155 := aM (bW (g := gb155) (o := .cells #[.string a0_0,.slice Ao13 t156.length co13,.slice none 0 0,.string (⟨#[]⟩ : ByteArray),.string (⟨#[]⟩ : ByteArray)] 31 (0,0)) (by (with_reducible repeat (first|refine bN ?_ _|refine bD ?_|refine bA ?_ _));refine blk_put (cs := #[.string a0_0,.slice none 0 0,.slice none 0 0,.string (⟨#[]⟩ : ByteArray),.string (⟨#[]⟩ : ByteArray)]) ?_ 1 _ rfl;(with_reducible repeat (first|refine bN ?_ _|refine bD ?_|refine bA ?_ _));exact BK155.out) hb);replace HB := aM (lT (by repeat (first|(with_reducible first|exact HB.out|apply lA|apply lN|apply lD|refine lS ?_ GE153.out|refine lS ?_ GE154.out|refine lS ?_ GE155.out)|exact HB.out)) hb);(try clear hb);(try clear ho0);obtain ⟨Ao17,co17,eo17⟩ := Kd.R_slice HO161.out;subst eo17;obtain ⟨hcz18_0,hcz18_1,hcz18_2,hcz18_3,hcz18_4,hfz18_0,hfz18_1,hfz18_2,hfz18_3,hfz18_4⟩ := z5_ BK155.out;obtain ⟨hcz19_0,hcz19_1,hcz19_2,hcz19_3,hcz19_4,hfz19_0,hfz19_1,hfz19_2,hfz19_3,hfz19_4⟩ := z5_ BK153.out;obtain ⟨hcz20_0,hcz20_1,hcz20_2,hcz20_3,hcz20_4,hfz20_0,hfz20_1,hfz20_2,hfz20_3,hfz20_4⟩ := z5_ BK154.out));refine bodyPost_ret (results_cell_row rfl _ _ gb154 31 #[.string a0_0,.slice Ao13 t156.length co13,.slice Ao17 t159.length co17,.string a0_3,.string a0_4] (0,0) _ rfl (by (with_reducible repeat (first|refine bN ?_ _|refine bD ?_|refine bA ?_ _));refine blk_put (cs := #[.string a0_0,.slice Ao13 t156.length co13,.slice Ao17 t159.length co17,.string a0_3,.string (⟨#[]⟩ : ByteArray)]) ?_ 4 _ rfl;(with_reducible repeat (first|refine bN ?_ _|refine bD ?_|refine bA ?_ _));refine blk_put (cs := #[.string a0_0,.slice Ao13 t156.length co13,.slice Ao17 t159.length co17,.string (⟨#[]⟩ : ByteArray),.string (⟨#[]⟩ : ByteArray)]) ?_ 3 _ rfl;(with_reducible repeat (first|refine bN ?_ _|refine bD ?_|refine bA ?_ _));refine blk_put (cs := #[.string a0_0,.slice Ao13 t156.length co13,.slice none 0 0,.string (⟨#[]⟩ : ByteArray),.string (⟨#[]⟩ : ByteArray)]) ?_ 2 _ rfl;(with_reducible repeat (first|refine bN ?_ _|refine bD ?_|refine bA ?_ _));refine blk_put (cs := #[.string a0_0,.slice none 0 0,.slice none 0 0,.string (⟨#[]⟩ : ByteArray),.string (⟨#[]⟩ : ByteArray)]) ?_ 1 _ rfl;(with_reducible repeat (first|refine bN ?_ _|refine bD ?_|refine bA ?_ _));refine blk_put (cs := #[.string (⟨#[]⟩ : ByteArray),.slice none 0 0,.slice none 0 0,.string (⟨#[]⟩ : ByteArray),.string (⟨#[]⟩ : ByteArray)]) ?_ 0 _ rfl;(with_reducible repeat (first|refine bN ?_ _|refine bD ?_|refine bA ?_ _));refine blk_far ?_ NB154_155.out _;(with_reducible repeat (first|refine bN ?_ _|refine bD ?_|refine bA ?_ _));refine blk_far ?_ NB154_155.out _;(with_reducible repeat (first|refine bN ?_ _|refine bD ?_|refine bA ?_ _));refine blk_far ?_ NB154_155.out _;(with_reducible repeat (first|refine bN ?_ _|refine bD ?_|refine bA ?_ _));exact BK154.out) Try.underlying31 rfl (by kernel_rfl)) rfl ?_;exact ⟨_,_,by first|rfl|(simp [*];done),by (with_reducible repeat (first|apply rA|apply rN|apply rD));exact Kd.R_mono (rF (p := ⟨gb154,4,none⟩) (rF (p := ⟨gb154,3,none⟩) (rF (p := ⟨gb154,2,none⟩) (rF (p := ⟨gb154,1,none⟩) (rF (p := ⟨gb154,0,none⟩) (rF (p := ⟨gb155,4,none⟩) (rF (p := ⟨gb155,3,none⟩) (rF (p := ⟨gb155,2,none⟩) (Kd.R_types (Kd.R_types HO158.out BK155.out (by decide)) BK154.out (by decide)) (fun _ hk => hk.1.2) (.slice Ao17 t159.length co17)) (fun _ hk => hk.1.2) (.string a0_3)) (fun _ hk => hk.1.2) (.string a0_4)) (fun _ hk => hk.2) (.string a0_0)) (fun _ hk => hk.2) (.slice Ao13 t156.length co13)) (fun _ hk => hk.2) (.slice Ao17 t159.length co17)) (fun _ hk => hk.2) (.string a0_3)) (fun _ hk => hk.2) (.string a0_4)) (fun _ hk => trivial),by (with_reducible repeat (first|apply rA|apply rN|apply rD));exact Kd.R_mono (rF (p := ⟨gb154,4,none⟩) (rF (p := ⟨gb154,3,none⟩) (rF (p := ⟨gb154,2,none⟩) (rF (p := ⟨gb154,1,none⟩) (rF (p := ⟨gb154,0,none⟩) (rF (p := ⟨gb155,4,none⟩) (rF (p := ⟨gb155,3,none⟩) (rF (p := ⟨gb155,2,none⟩) (Kd.R_types (Kd.R_types HO161.out BK155.out (by decide)) BK154.out (by decide)) (fun _ hk => hk.1.2) (.slice Ao17 t159.length co17)) (fun _ hk => hk.1.2) (.string a0_3)) (fun _ hk => hk.1.2) (.string a0_4)) (fun _ hk => hk.2) (.string a0_0)) (fun _ hk => hk.2) (.slice Ao13 t156.length co13)) (fun _ hk => hk.2) (.slice Ao17 t159.length co17)) (fun _ hk => hk.2) (.string a0_3)) (fun _ hk => hk.2) (.string a0_4)) (fun _ hk => trivial),by repeat (first|(with_reducible first|exact HB.out|apply lA|apply lN|apply lD|refine lS ?_ GE153.out|refine lS ?_ GE154.out|refine lS ?_ GE155.out)|exact HB.out)⟩
def impl_inside.f (a0 : Int) (a1 : Int) (a2 : Int) : Option (Bool) := if a0 ≥ a1 then (some (decide (a0 ≤ a2))) else (some false)
set_option maxHeartbeats 8000000 in
set_option maxRecDepth 100000 in
theorem impl_inside.calls (a0 : Int) (a1 : Int) (a2 : Int) (r : Bool) (w : World) (h : impl_inside.f a0 a1 a2 = some r) :
  Calls Try.prog 74 #[.int .i64 a0,.int .i64 a1,.int .i64 a2] w fun e w' => e = .returned (.bool r) ∧ Drawn0 w w' := by
 have H : (if a0 ≥ a1 then (some (decide (a0 ≤ a2))) else (some false)) = some r := h;clear h
 by_cases c4 : a0 ≥ a1
 focus
  rw [if_pos c4] at H;have c4b0 : decide (a1 ≤ a0) = true := dT c4;clear c4;obtain rfl := Option.some.inj H;simp only [eS,eP] at H;obtain ⟨rfl⟩ := H
 rotate_left
 focus
  rw [if_neg c4] at H;have c4b0 : decide (a1 ≤ a0) = false := dF c4;clear c4;obtain rfl := Option.some.inj H;simp only [eS,eP] at H;obtain ⟨rfl⟩ := H
 all_goals
  go_enter Try.func74,Try.ntmps74;go_wp2;go_ret;exact ⟨by first|rfl|(simp [*];done),by repeat (first|exact Drawn0.refl _|apply Drawn0.step)⟩
def stringslite_HasSuffix.f (a0 : ByteArray) (a1 : ByteArray) : Option (Bool) := if (a0.size : Int) ≥ (a1.size : Int) then (if 0 ≤ (wrap64 ((a0.size : Int) - (a1.size : Int))) then (if (wrap64 ((a0.size : Int) - (a1.size : Int))) ≤ (a0.size : Int) then (some ((a0.extract ((wrap64 ((a0.size : Int) - (a1.size : Int))) : Int).toNat a0.size).toList == a1.toList)) else (none)) else (none)) else (some false)
set_option maxHeartbeats 8000000 in
set_option maxRecDepth 100000 in
theorem stringslite_HasSuffix.calls (a0 : ByteArray) (a1 : ByteArray) (r : Bool) (w : World) (h : stringslite_HasSuffix.f a0 a1 = some r) :
  Calls Try.prog 99 #[.string a0,.string a1] w fun e w' => e = .returned (.bool r) ∧ Drawn0 w w' := by
 have H : (if (a0.size : Int) ≥ (a1.size : Int) then (if 0 ≤ (wrap64 ((a0.size : Int) - (a1.size : Int))) then (if (wrap64 ((a0.size : Int) - (a1.size : Int))) ≤ (a0.size : Int) then (some ((a0.extract ((wrap64 ((a0.size : Int) - (a1.size : Int))) : Int).toNat a0.size).toList == a1.toList)) else (none)) else (none)) else (some false)) = some r := h;clear h
 by_cases c3 : (a0.size : Int) ≥ (a1.size : Int)
 ·rw [if_pos c3] at H;have c3b0 : decide ((a1.size : Int) ≤ (a0.size : Int)) = true := dT c3;have c3b1 : decide (a1.size ≤ a0.size) = true := dT (Int.ofNat_le.mp c3);clear c3;obtain ⟨ji4,hji4⟩ : ∃ j_ : Int,(wrap64 ((a0.size : Int) - (a1.size : Int))) = j_ := ⟨_,rfl⟩;replace H : (if 0 ≤ (ji4) then (if (ji4) ≤ (a0.size : Int) then (some ((a0.extract ((ji4) : Int).toNat a0.size).toList == a1.toList)) else (none)) else (none)) = some r := (by first|(rw [hji4] at H;exact H)|(simp only [hji4] at H ⊢;exact H));have hji4w : (IntKind.i64.wrap ((a0.size : Int) - (a1.size : Int))) = ji4 := (i64_w _).trans hji4
  by_cases c5 : 0 ≤ (ji4)
  ·rw [if_pos c5] at H;have c5b0 := eq_true c5;have c5b1 : decide (0 ≤ (ji4)) = true := dT c5;clear c5
   by_cases c6 : (ji4) ≤ (a0.size : Int)
   ·rw [if_pos c6] at H;have c6b0 := eq_true c6;have c6b1 : decide ((ji4) ≤ (a0.size : Int)) = true := dT c6;clear c6;obtain rfl := Option.some.inj H;simp only [eS,eP] at H;obtain ⟨rfl⟩ := H;go_enter Try.func99,Try.ntmps99;go_wp2;go_ret;exact ⟨by first|rfl|(simp;done)|(simp [my_isEmpty];done)|(simp only [← hji4] <;> (first|rfl|simp))|(simp [*];done),by repeat (first|exact Drawn0.refl _|apply Drawn0.step)⟩
   ·rw [if_neg c6] at H;exact absurd H (by simp)
  ·rw [if_neg c5] at H;exact absurd H (by simp)
 ·rw [if_neg c3] at H;have c3b0 : decide ((a1.size : Int) ≤ (a0.size : Int)) = false := dF c3;have c3b1 : decide (a1.size ≤ a0.size) = false := dF (fun h => c3 (Int.ofNat_le.mpr h));clear c3;obtain rfl := Option.some.inj H;simp only [eS,eP] at H;obtain ⟨rfl⟩ := H;go_enter Try.func99,Try.ntmps99;go_wp2;go_ret;exact ⟨by first|rfl|(simp [*];done),by repeat (first|exact Drawn0.refl _|apply Drawn0.step)⟩
def stringslite_TrimSuffix.f (a0 : ByteArray) (a1 : ByteArray) : Option (ByteArray) := (stringslite_HasSuffix.f a0 a1).bind fun t162 => (if t162 = true then (if 0 ≤ (wrap64 ((a0.size : Int) - (a1.size : Int))) then (if (wrap64 ((a0.size : Int) - (a1.size : Int))) ≤ (a0.size : Int) then (some (a0.extract 0 ((wrap64 ((a0.size : Int) - (a1.size : Int))) : Int).toNat)) else (none)) else (none)) else (some a0))
set_option maxHeartbeats 8000000 in
set_option maxRecDepth 100000 in
theorem stringslite_TrimSuffix.calls (a0 : ByteArray) (a1 : ByteArray) (r : ByteArray) (w : World) (h : stringslite_TrimSuffix.f a0 a1 = some r) :
  Calls Try.prog 94 #[.string a0,.string a1] w fun e w' => e = .returned (.string r) ∧ Drawn0 w w' := by
 have H : ((stringslite_HasSuffix.f a0 a1).bind fun t162 => (if t162 = true then (if 0 ≤ (wrap64 ((a0.size : Int) - (a1.size : Int))) then (if (wrap64 ((a0.size : Int) - (a1.size : Int))) ≤ (a0.size : Int) then (some (a0.extract 0 ((wrap64 ((a0.size : Int) - (a1.size : Int))) : Int).toNat)) else (none)) else (none)) else (some a0))) = some r := h;clear h;obtain ⟨t162,A3,H⟩ := bE_ H
 by_cases c4 : t162 = true
 focus
  subst c4;rw [if_pos rfl] at H;obtain ⟨ji5,hji5⟩ : ∃ j_ : Int,(wrap64 ((a0.size : Int) - (a1.size : Int))) = j_ := ⟨_,rfl⟩;replace H : (if 0 ≤ (ji5) then (if (ji5) ≤ (a0.size : Int) then (some (a0.extract 0 ((ji5) : Int).toNat)) else (none)) else (none)) = some r := (by first|(rw [hji5] at H;exact H)|(simp only [hji5] at H ⊢;exact H));(try rw [hji5] at A3);have hji5w : (IntKind.i64.wrap ((a0.size : Int) - (a1.size : Int))) = ji5 := (i64_w _).trans hji5
  by_cases c6 : 0 ≤ (ji5)
  rotate_left;rw [if_neg c6] at H;exact absurd H (by simp);rw [if_pos c6] at H;have c6b0 := eq_true c6;have c6b1 : decide (0 ≤ (ji5)) = true := dT c6;clear c6
  by_cases c7 : (ji5) ≤ (a0.size : Int)
  rotate_left;rw [if_neg c7] at H;exact absurd H (by simp);rw [if_pos c7] at H;have c7b0 := eq_true c7;have c7b1 : decide ((ji5) ≤ (a0.size : Int)) = true := dT c7;clear c7;obtain rfl := Option.some.inj H;simp only [eS,eP] at H;obtain ⟨rfl⟩ := H
 rotate_left
 focus
  replace c4 := Bool.eq_false_iff.mpr c4;subst c4;rw [if_neg Bool.false_ne_true] at H;obtain rfl := Option.some.inj H;simp only [eS,eP] at H;obtain ⟨rfl⟩ := H
 all_goals
  go_enter Try.func94,Try.ntmps94;go_wp2_with (first|((with_reducible refine gate_callee (f := 99) rfl ?_);refine goesL_ (some 7) rfl rfl Try.func99 (by kernel_rfl) rfl #[.string a0,.string a1] rfl (by (try simp only [mT,mC,mN]);first|done|rfl|(simp only [xD,xT];rfl)) ?_;(with_reducible refine (stringslite_HasSuffix.calls _ _ _ _ A3.out).mono ?_);rintro e w' ⟨rfl,⟨nd,rfl⟩⟩;refine ⟨_,rfl,?_⟩));go_ret;(first|exact ⟨by first|rfl|(simp;done)|(simp [my_isEmpty];done)|(simp only [← hji5] <;> (first|rfl|simp))|(simp [*];done),by repeat (first|exact Drawn0.refl _|apply Drawn0.step)⟩|exact ⟨by first|rfl|(simp [*];done),by repeat (first|exact Drawn0.refl _|apply Drawn0.step)⟩)
def strings_TrimSuffix.f (a0 : ByteArray) (a1 : ByteArray) : Option (ByteArray) := (stringslite_TrimSuffix.f a0 a1).bind fun t163 => (some t163)
set_option maxHeartbeats 8000000 in
set_option maxRecDepth 100000 in
theorem strings_TrimSuffix.calls (a0 : ByteArray) (a1 : ByteArray) (r : ByteArray) (w : World) (h : strings_TrimSuffix.f a0 a1 = some r) :
  Calls Try.prog 88 #[.string a0,.string a1] w fun e w' => e = .returned (.string r) ∧ Drawn0 w w' := by
 have H : ((stringslite_TrimSuffix.f a0 a1).bind fun t163 => (some t163)) = some r := h;clear h;obtain ⟨t163,A3,H⟩ := bE_ H;obtain rfl := Option.some.inj H;simp only [eS,eP] at H;obtain ⟨rfl⟩ := H;go_enter Try.func88,Try.ntmps88;go_wp2_with (first|((with_reducible refine gate_callee (f := 94) rfl ?_);refine goesL_ (some 7) rfl rfl Try.func94 (by kernel_rfl) rfl #[.string a0,.string a1] rfl (by (try simp only [mT,mC,mN]);first|done|rfl|(simp only [xD,xT];rfl)) ?_;(with_reducible refine (stringslite_TrimSuffix.calls a0 a1 t163 _ A3.out).mono ?_);rintro e w' ⟨rfl,⟨nd,rfl⟩⟩;refine ⟨_,rfl,?_⟩));go_ret;exact ⟨by first|rfl|(simp [*];done),by repeat (first|exact Drawn0.refl _|apply Drawn0.step)⟩
def impl_isLower.f (a0 : Int) : Option (Bool) := if a0 ≥ 97 then (some (decide (a0 ≤ 122))) else (some false)
set_option maxHeartbeats 8000000 in
set_option maxRecDepth 100000 in
theorem impl_isLower.calls (a0 : Int) (r : Bool) (w : World) (h : impl_isLower.f a0 = some r) :
  Calls Try.prog 89 #[.int .u8 a0] w fun e w' => e = .returned (.bool r) ∧ Drawn0 w w' := by
 have H : (if a0 ≥ 97 then (some (decide (a0 ≤ 122))) else (some false)) = some r := h;clear h
 by_cases c2 : a0 ≥ 97
 focus
  rw [if_pos c2] at H;have c2b0 : decide (97 ≤ a0) = true := dT c2;clear c2;obtain rfl := Option.some.inj H;simp only [eS,eP] at H;obtain ⟨rfl⟩ := H
 rotate_left
 focus
  rw [if_neg c2] at H;have c2b0 : decide (97 ≤ a0) = false := dF c2;clear c2;obtain rfl := Option.some.inj H;simp only [eS,eP] at H;obtain ⟨rfl⟩ := H
 all_goals
  go_enter Try.func89,Try.ntmps89;go_wp2;go_ret;exact ⟨by first|rfl|(simp [*];done),by repeat (first|exact Drawn0.refl _|apply Drawn0.step)⟩
def impl_isSmall.l0 : Nat → ByteArray → Int → Int → Int → Option (Bool)
 | 0,_,_,_,_ => none
 | k + 1,x0,x1,x2,x9 => if x9 < (x0.size : Int) then (if 0 ≤ x9 then ((impl_isLower.f (bt x0 x9)).bind fun t165 => (if t165 = true then (impl_isSmall.l0 k x0 x1 x2 (wrap64 (x9 + 1))) else (some false))) else (none)) else ((impl_inside.f (x0.size : Int) x1 x2).bind fun t166 => (some t166))
def impl_isSmall.f (k : Nat) (a0 : ByteArray) (a1 : Int) (a2 : Int) (a3 : ByteArray) : Option (Bool) := (strings_TrimSuffix.f a0 a3).bind fun t164 => (impl_isSmall.l0 k t164 a1 a2 0)
theorem impl_isSmall.mono_l : ∀ k,(∀ y0 y1 y2 y3,LeO (impl_isSmall.l0 k y0 y1 y2 y3) (impl_isSmall.l0 (k + 1) y0 y1 y2 y3))
 | 0 => fun _ _ _ _ r h => by simp [impl_isSmall.l0] at h
 | k + 1 => by
  have ih0 := impl_isSmall.mono_l k
  ·intro y0 y1 y2 y3
   unfold impl_isSmall.l0
   repeat' first
   | (with_reducible exact ih0 _ _ _ _)
   | (with_reducible exact LeO.refl _)
   | (with_reducible exact LeO.none _)
   | (with_reducible refine LeO.ite ?_ ?_)
   | (with_reducible refine LeO.bind ?_ (fun _ => ?_))
   | exact ih0 _ _ _ _
   | exact LeO.none _
   | refine LeO.ite ?_ ?_
   | refine LeO.bind ?_ (fun _ => ?_)
theorem impl_isSmall.mono : ∀ a0 a1 a2 a3 k,LeO (impl_isSmall.f k a0 a1 a2 a3) (impl_isSmall.f (k + 1) a0 a1 a2 a3) := by
 intro a0 a1 a2 a3 k
 have ih0 := impl_isSmall.mono_l k
 unfold impl_isSmall.f
 repeat' first
   | (with_reducible exact ih0 _ _ _ _)
   | (with_reducible exact LeO.refl _)
   | (with_reducible exact LeO.none _)
   | (with_reducible refine LeO.ite ?_ ?_)
   | (with_reducible refine LeO.bind ?_ (fun _ => ?_))
   | exact ih0 _ _ _ _
   | exact LeO.none _
   | refine LeO.ite ?_ ?_
   | refine LeO.bind ?_ (fun _ => ?_)
set_option maxHeartbeats 8000000 in
set_option maxRecDepth 100000 in
theorem impl_isSmall.calls (k : Nat) (a0 : ByteArray) (a1 : Int) (a2 : Int) (a3 : ByteArray) (r : Bool) (w : World) (h : impl_isSmall.f k a0 a1 a2 a3 = some r) :
  Calls Try.prog 73 #[.string a0,.int .i64 a1,.int .i64 a2,.string a3] w fun e w' => e = .returned (.bool r) ∧ Drawn0 w w' := by
 have H : ((strings_TrimSuffix.f a0 a3).bind fun t164 => (impl_isSmall.l0 k t164 a1 a2 0)) = some r := h;clear h;obtain ⟨t164,A5,H⟩ := bE_ H;have H' := aM H;clear H;go_enter Try.func73,Try.ntmps73;go_wp2_with (first|((with_reducible refine gate_callee (f := 88) rfl ?_);refine goesL_ (some 12) rfl rfl Try.func88 (by kernel_rfl) rfl #[.string a0,.string a3] rfl (by (try simp only [mT,mC,mN]);first|done|rfl|(simp only [xD,xT];rfl)) ?_;(with_reducible refine (strings_TrimSuffix.calls a0 a3 t164 _ A5.out).mono ?_);rintro e w' ⟨rfl,⟨nd,rfl⟩⟩;refine ⟨_,rfl,?_⟩));go_loopg [9] k (fun kq v9 w' => ∃ (x9_1 : Int),v9 = .int .i64 x9_1 ∧ Aside0 (impl_isSmall.l0 kq t164 a1 a2 x9_1 = some r) ∧ Aside0 (kq ≤ k) ∧ Drawn0 w w')
 case atStart => exact ⟨(0),(by first|rfl|(simp [*];done)),H',⟨Nat.le_refl _⟩,by repeat (first|exact Drawn0.refl _|apply Drawn0.step)⟩
 case round =>
  clear H';(try clear p2);obtain ⟨x9_1,rfl,HA,HK1,⟨m1,rfl⟩⟩ := hrel
  cases gk with
  | zero => exact absurd HA.out (by simp [impl_isSmall.l0])
  | succ k1 =>
   have H := HA.out;clear HA;simp only [impl_isSmall.l0] at H
   by_cases c6 : x9_1 < (t164.size : Int)
   focus
    rw [if_pos c6] at H;have c6b0 : decide (x9_1 < (t164.size : Int)) = true := dT c6;clear c6
    by_cases c7 : 0 ≤ x9_1
    rotate_left;rw [if_neg c7] at H;exact absurd H (by simp);rw [if_pos c7] at H;have c7b0 : decide (0 ≤ x9_1) = true := dT c7;clear c7;obtain ⟨t165,A9,H⟩ := bE_ H
    by_cases c10 : t165 = true
    focus
     subst c10;rw [if_pos rfl] at H;have H' := aM H;clear H
    rotate_left
    focus
     replace c10 := Bool.eq_false_iff.mpr c10;subst c10;rw [if_neg Bool.false_ne_true] at H;obtain rfl := Option.some.inj H;simp only [eS,eP] at H;obtain ⟨rfl⟩ := H
   rotate_left 2
   focus
    rw [if_neg c6] at H;have c6b0 : decide (x9_1 < (t164.size : Int)) = false := dF c6;clear c6;obtain ⟨t166,A11,H⟩ := bE_ H;obtain rfl := Option.some.inj H;simp only [eS,eP] at H;obtain ⟨rfl⟩ := H
   all_goals
    (try (have p01 : 0 ≤ (x9_1 : Int) := oD (by assumption);have q01 : x9_1 < (t164.size : Int) := oD (by assumption);have hx01 := bt_at t164 x9_1;replace p01 := eq_true p01;replace q01 := eq_true q01));go_wp2_with (first|((with_reducible refine gate_callee (f := 74) rfl ?_);refine goesL_ (some 28) rfl rfl Try.func74 (by kernel_rfl) rfl #[.int .i64 (t164.size : Int),.int .i64 a1,.int .i64 a2] rfl (by (try simp only [mT,mC,mN]);first|done|rfl|(simp only [xD,xT];rfl)) ?_;(with_reducible refine (impl_inside.calls _ _ _ _ _ A11.out).mono ?_);rintro e w' ⟨rfl,⟨nd,rfl⟩⟩;refine ⟨_,rfl,?_⟩)|((with_reducible refine gate_callee (f := 89) rfl ?_);refine goesL_ (some 22) rfl rfl Try.func89 (by kernel_rfl) rfl #[.int .u8 (bt t164 x9_1)] rfl (by (try simp only [mT,mC,mN]);first|done|rfl|(simp only [xD,xT];rfl)) ?_;(with_reducible refine (impl_isLower.calls _ _ _ A9.out).mono ?_);rintro e w' ⟨rfl,⟨nd,rfl⟩⟩;refine ⟨_,rfl,?_⟩))
    first
     |
      go_ret;exact ⟨by first|rfl|(simp [*];done),by repeat (first|exact Drawn0.refl _|apply Drawn0.step)⟩
     |
      go_roundg k1
      case measure => have := HK1.out;omega
      case rel => exact ⟨(wrap64 (x9_1 + 1)),(by first|rfl|(simp [*];done)),H',⟨by have := HK1.out;omega⟩,by repeat (first|exact Drawn0.refl _|apply Drawn0.step)⟩
def impl_isTermKey.f (k : Nat) (a0 : ByteArray) : Option (Bool) := (impl_isSmall.f k a0 1 10 (⟨#[]⟩ : ByteArray)).bind fun t167 => (some t167)
theorem impl_isTermKey.mono : ∀ a0 k,LeO (impl_isTermKey.f k a0) (impl_isTermKey.f (k + 1) a0) := by
 intro a0 k
 unfold impl_isTermKey.f
 repeat' first
   | (with_reducible exact impl_isSmall.mono _ _ _ _ _)
   | (with_reducible exact LeO.refl _)
   | (with_reducible exact LeO.none _)
   | (with_reducible refine LeO.ite ?_ ?_)
   | (with_reducible refine LeO.bind ?_ (fun _ => ?_))
   | exact impl_isSmall.mono _ _ _ _ _
   | exact LeO.none _
   | refine LeO.ite ?_ ?_
   | refine LeO.bind ?_ (fun _ => ?_)
set_option maxHeartbeats 8000000 in
set_option maxRecDepth 100000 in
theorem impl_isTermKey.calls (k : Nat) (a0 : ByteArray) (r : Bool) (w : World) (h : impl_isTermKey.f k a0 = some r) :
  Calls Try.prog 41 #[.string a0] w fun e w' => e = .returned (.bool r) ∧ Drawn0 w w' := by
 have H : ((impl_isSmall.f k a0 1 10 (⟨#[]⟩ : ByteArray)).bind fun t167 => (some t167)) = some r := h;clear h;obtain ⟨t167,A2,H⟩ := bE_ H;obtain rfl := Option.some.inj H;simp only [eS,eP] at H;obtain ⟨rfl⟩ := H;go_enter Try.func41,Try.ntmps41;go_wp2_with (first|((with_reducible refine gate_callee (f := 73) rfl ?_);refine goesL_ (some 4) rfl rfl Try.func73 (by kernel_rfl) rfl #[.string a0,.int .i64 1,.int .i64 10,.string (⟨#[]⟩ : ByteArray)] rfl (by (try simp only [mT,mC,mN]);first|done|rfl|(simp only [xD,xT];rfl)) ?_;(with_reducible refine (impl_isSmall.calls k a0 1 10 (⟨#[]⟩ : ByteArray) t167 _ A2.out).mono ?_);rintro e w' ⟨rfl,⟨nd,rfl⟩⟩;refine ⟨_,rfl,?_⟩));go_ret;exact ⟨by first|rfl|(simp [*];done),by repeat (first|exact Drawn0.refl _|apply Drawn0.step)⟩
def impl_arePrintable.l0 : Nat → ByteArray → Int → Option (Bool)
 | 0,_,_ => none
 | k + 1,x0,x3 => if x3 < (x0.size : Int) then (if 0 ≤ x3 then (if (bt x0 x3) < 32 then (some false) else (if (bt x0 x3) > 126 then (some false) else (impl_arePrintable.l0 k x0 (wrap64 (x3 + 1))))) else (none)) else (some true)
def impl_arePrintable.f (k : Nat) (a0 : ByteArray) : Option (Bool) := impl_arePrintable.l0 k a0 0
theorem impl_arePrintable.mono_l : ∀ k,(∀ y0 y1,LeO (impl_arePrintable.l0 k y0 y1) (impl_arePrintable.l0 (k + 1) y0 y1))
 | 0 => fun _ _ r h => by simp [impl_arePrintable.l0] at h
 | k + 1 => by
  have ih0 := impl_arePrintable.mono_l k
  ·intro y0 y1
   unfold impl_arePrintable.l0
   repeat' first
   | (with_reducible exact ih0 _ _)
   | (with_reducible exact LeO.refl _)
   | (with_reducible exact LeO.none _)
   | (with_reducible refine LeO.ite ?_ ?_)
   | (with_reducible refine LeO.bind ?_ (fun _ => ?_))
   | exact ih0 _ _
   | exact LeO.none _
   | refine LeO.ite ?_ ?_
   | refine LeO.bind ?_ (fun _ => ?_)
theorem impl_arePrintable.mono : ∀ a0 k,LeO (impl_arePrintable.f k a0) (impl_arePrintable.f (k + 1) a0) := by
 intro a0 k
 have ih0 := impl_arePrintable.mono_l k
 unfold impl_arePrintable.f
 repeat' first
   | (with_reducible exact ih0 _ _)
   | (with_reducible exact LeO.refl _)
   | (with_reducible exact LeO.none _)
   | (with_reducible refine LeO.ite ?_ ?_)
   | (with_reducible refine LeO.bind ?_ (fun _ => ?_))
   | exact ih0 _ _
   | exact LeO.none _
   | refine LeO.ite ?_ ?_
   | refine LeO.bind ?_ (fun _ => ?_)
set_option maxHeartbeats 8000000 in
set_option maxRecDepth 100000 in
theorem impl_arePrintable.calls (k : Nat) (a0 : ByteArray) (r : Bool) (w : World) (h : impl_arePrintable.f k a0 = some r) :
  Calls Try.prog 62 #[.string a0] w fun e w' => e = .returned (.bool r) ∧ Drawn0 w w' := by
 have H : (impl_arePrintable.l0 k a0 0) = some r := h;clear h;have H' := aM H;clear H;go_enter Try.func62,Try.ntmps62;go_wp2;go_loopg [3] k (fun kq v3 w' => ∃ (x3_1 : Int),v3 = .int .i64 x3_1 ∧ Aside0 (impl_arePrintable.l0 kq a0 x3_1 = some r) ∧ Aside0 (kq ≤ k) ∧ Drawn0 w w')
 case atStart => exact ⟨(0),(by first|rfl|(simp [*];done)),H',⟨Nat.le_refl _⟩,by repeat (first|exact Drawn0.refl _|apply Drawn0.step)⟩
 case round =>
  clear H';obtain ⟨x3_1,rfl,HA,HK1,⟨m1,rfl⟩⟩ := hrel
  cases gk with
  | zero => exact absurd HA.out (by simp [impl_arePrintable.l0])
  | succ k1 =>
   have H := HA.out;clear HA;simp only [impl_arePrintable.l0] at H
   by_cases c2 : x3_1 < (a0.size : Int)
   focus
    rw [if_pos c2] at H;have c2b0 : decide (x3_1 < (a0.size : Int)) = true := dT c2;clear c2
    by_cases c3 : 0 ≤ x3_1
    rotate_left;rw [if_neg c3] at H;exact absurd H (by simp);rw [if_pos c3] at H;have c3b0 : decide (0 ≤ x3_1) = true := dT c3;clear c3
    by_cases c5 : (bt a0 x3_1) < 32
    focus
     rw [if_pos c5] at H;have c5b0 : decide ((bt a0 x3_1) < 32) = true := dT c5;clear c5;obtain rfl := Option.some.inj H;simp only [eS,eP] at H;obtain ⟨rfl⟩ := H
    rotate_left
    focus
     rw [if_neg c5] at H;have c5b0 : decide ((bt a0 x3_1) < 32) = false := dF c5;clear c5
     by_cases c7 : (bt a0 x3_1) > 126
     focus
      rw [if_pos c7] at H;have c7b0 : decide (126 < (bt a0 x3_1)) = true := dT c7;clear c7;obtain rfl := Option.some.inj H;simp only [eS,eP] at H;obtain ⟨rfl⟩ := H
     rotate_left
     focus
      rw [if_neg c7] at H;have c7b0 : decide (126 < (bt a0 x3_1)) = false := dF c7;clear c7;have H' := aM H;clear H
   rotate_left 3
   focus
    rw [if_neg c2] at H;have c2b0 : decide (x3_1 < (a0.size : Int)) = false := dF c2;clear c2;obtain rfl := Option.some.inj H;simp only [eS,eP] at H;obtain ⟨rfl⟩ := H
   all_goals
    (try (have p01 : 0 ≤ (x3_1 : Int) := oD (by assumption);have q01 : x3_1 < (a0.size : Int) := oD (by assumption);have hx01 := bt_at a0 x3_1;replace p01 := eq_true p01;replace q01 := eq_true q01));go_wp2
    first
     |
      go_ret;exact ⟨by first|rfl|(simp [*];done),by repeat (first|exact Drawn0.refl _|apply Drawn0.step)⟩
     |
      go_roundg k1
      case measure => have := HK1.out;omega
      case rel => exact ⟨(wrap64 (x3_1 + 1)),(by first|rfl|(simp [*];done)),H',⟨by have := HK1.out;omega⟩,by repeat (first|exact Drawn0.refl _|apply Drawn0.step)⟩
end Go.Proofs.Ytmkkcpdpfelalaa.P
