/- Written by a program in this session: each theorem here says that a Go function computes the Lean function beside it, or that a law's row holds, under the conditions that the theorem itself states. -/
import Derived.Test.YtleckcbiifhanaaDoorZPx0
import Derived.Laws.CopyRow
import Derived.Laws.IdiomCopy
import Derived.Laws.NewBlocks
import Derived.Lib.AppendZerosOnto
import Derived.Lib.Overlaps
import Derived.Shelf.Spec.SlicesInsert
namespace Go.Proofs.YtleckcbiifhanaaDoor.P
open Go.RowKit Go.Proofs.YtleckcbiifhanaaDoorW.PrintWords Go.Proofs.YtleckcbiifhanaaDoorW.PrintLast Go.Proofs.YtleckcbiifhanaaDoorW.PrintMore
attribute [local go_sem] max2_int min2_int max_two min_two max_three min_three max_four min_four   -- for this text's walks alone
set_option linter.unusedVariables false
set_option linter.unusedSimpArgs false
def impl_newLocale.f (a0_0 : ByteArray) (l0_1 : List (S29)) (l0_2 : List (S66)) (a0_3 : ByteArray) (a0_4 : ByteArray) : Option (ByteArray × (List (S29)) × (List (S66)) × ByteArray × ByteArray) := (some (([] : List (S29)) : List (S29))).bind fun y300 => (if y300.length + l0_1.length < 2932031007402 then ((some (([] : List (S66)) : List (S66))).bind fun y306 => (if y306.length + l0_2.length < 4398046511104 then (some (a0_0,(y300 ++ l0_1),(y306 ++ l0_2),a0_3,a0_4)) else (none))) else (none))
set_option maxHeartbeats 8000000 in
set_option maxRecDepth 100000 in
theorem impl_newLocale.calls (a0_0 : ByteArray) (A0_1 : Option Addr) (c0_1 : Nat) (l0_1 : List (S29)) (A0_2 : Option Addr) (c0_2 : Nat) (l0_2 : List (S66)) (a0_3 : ByteArray) (a0_4 : ByteArray) (r1 : ByteArray) (r2 : List (S29)) (r3 : List (S66)) (r4 : ByteArray) (r5 : ByteArray) (w : World) (hr0_1 : Kd.C k29 w A0_1 l0_1.length l0_1) (hc0_1 : l0_1.length ≤ c0_1) (hr0_2 : Kd.C k66 w A0_2 l0_2.length l0_2) (hc0_2 : l0_2.length ≤ c0_2) (h : impl_newLocale.f a0_0 l0_1 l0_2 a0_3 a0_4 = some (r1,r2,r3,r4,r5)) :
  Calls Tryd.prog 22 #[.agg #[.string a0_0,.slice A0_1 l0_1.length c0_1,.slice A0_2 l0_2.length c0_2,.string a0_3,.string a0_4]] w fun e w' => ∃ v1_ v2_ : Value,e = .returned (.agg #[.string r1,v1_,v2_,.string r4,.string r5]) ∧ Kd.R k29 29 w' w.heap.size (fun _ => True) v1_ r2 ∧ Kd.R k66 66 w' w.heap.size (fun _ => True) v2_ r3 ∧ Below w.heap.size w w' := by
 have hu27 := Tryd.underlying27;have aD := aM hr0_1;have HC0_1 := aM hc0_1;clear hr0_1 hc0_1;have aE := aM hr0_2;have HC0_2 := aM hc0_2;clear hr0_2 hc0_2;have HB := aM (Below.refl w.heap.size w);have H : ((some (([] : List (S29)) : List (S29))).bind fun y300 => (if y300.length + l0_1.length < 2932031007402 then ((some (([] : List (S66)) : List (S66))).bind fun y306 => (if y306.length + l0_2.length < 4398046511104 then (some (a0_0,(y300 ++ l0_1),(y306 ++ l0_2),a0_3,a0_4)) else (none))) else (none))) = some (r1,r2,r3,r4,r5) := h;clear h;obtain ⟨y300,ah⟩ : ∃ y_ : List (S29),y_ = (([] : List (S29))) := ⟨_,rfl⟩;replace H : (if y300.length + l0_1.length < 2932031007402 then ((some (([] : List (S66)) : List (S66))).bind fun y306 => (if y306.length + l0_2.length < 4398046511104 then (some (a0_0,(y300 ++ l0_1),(y306 ++ l0_2),a0_3,a0_4)) else (none))) else (none)) = some (r1,r2,r3,r4,r5) := (by first|(rw [ah];with_reducible exact H)|(have H2_ := (Option.bind_some _ _).symm.trans H;rw [ah];with_reducible exact H2_)|(have H2_ := (Option.bind_some _ _).symm.trans H;with_reducible exact H2_)|with_reducible exact H|(rw [ah];exact H)|exact H);have az := aM ah;clear ah
 by_cases c2 : y300.length + l0_1.length < 2932031007402
 ·rw [if_pos c2] at H;have aK := aM c2;clear c2;obtain ⟨af,ai⟩ : ∃ y_ : List (S29),y_ = (y300 ++ l0_1) := ⟨_,rfl⟩;replace H : ((some (([] : List (S66)) : List (S66))).bind fun y306 => (if y306.length + l0_2.length < 4398046511104 then (some (a0_0,af,(y306 ++ l0_2),a0_3,a0_4)) else (none))) = some (r1,r2,r3,r4,r5) := (by first|(rw [ai];with_reducible exact H)|(have H2_ := (Option.bind_some _ _).symm.trans H;rw [ai];with_reducible exact H2_)|(have H2_ := (Option.bind_some _ _).symm.trans H;with_reducible exact H2_)|with_reducible exact H|(rw [ai];exact H)|exact H);have aG := aM ai;clear ai;obtain ⟨y306,aj⟩ : ∃ y_ : List (S66),y_ = (([] : List (S66))) := ⟨_,rfl⟩;replace H : (if y306.length + l0_2.length < 4398046511104 then (some (a0_0,af,(y306 ++ l0_2),a0_3,a0_4)) else (none)) = some (r1,r2,r3,r4,r5) := (by first|(rw [aj];with_reducible exact H)|(have H2_ := (Option.bind_some _ _).symm.trans H;rw [aj];with_reducible exact H2_)|(have H2_ := (Option.bind_some _ _).symm.trans H;with_reducible exact H2_)|with_reducible exact H|(rw [aj];exact H)|exact H);have aA := aM aj;clear aj
  by_cases c3 : y306.length + l0_2.length < 4398046511104
  ·rw [if_pos c3] at H;have aN := aM c3;clear c3;obtain ⟨ak,al⟩ : ∃ y_ : List (S66),y_ = (y306 ++ l0_2) := ⟨_,rfl⟩;replace H : (some (a0_0,af,ak,a0_3,a0_4)) = some (r1,r2,r3,r4,r5) := (by first|(rw [al];with_reducible exact H)|(have H2_ := (Option.bind_some _ _).symm.trans H;rw [al];with_reducible exact H2_)|(have H2_ := (Option.bind_some _ _).symm.trans H;with_reducible exact H2_)|with_reducible exact H|(rw [al];exact H)|exact H);have aH := aM al;clear al;simp only [eS,eP] at H;obtain ⟨rfl,rfl,rfl,rfl,rfl⟩ := H;go_enter Tryd.func22,Tryd.ntmps22;go_wp2_with (first|((with_reducible refine gate_dst (N := 1) rfl ?_);refine bx_ (N := 1) (cs := #[.string a0_0,.slice A0_1 l0_1.length c0_1,.slice A0_2 l0_2.length c0_2,.string a0_3,.string a0_4]) (t := 27) ?_;intro am hg w4 hbox hb;have aa := aM (hbox);have aI := aM ((by rw [hg];exact (lZ wB_) : w.heap.size ≤ am));have GE298 := aI;replace HB := aM (lT wB_ hb);clear hb hbox hg)|((with_reducible refine gate_dst (N := 2) rfl ?_);refine bx_ (N := 2) (cs := #[.string (⟨#[]⟩ : ByteArray),.slice none 0 0,.slice none 0 0,.string (⟨#[]⟩ : ByteArray),.string (⟨#[]⟩ : ByteArray)]) (t := 27) ?_;intro ac hg w5 hbox hb;have ab := aM (hbox);have aJ := aM ((by rw [hg];exact (lZ wB_) : w.heap.size ≤ ac));have GE299 := aJ;have ax := aM (nl_ hg aa.out);have ae := aM (ng_ hg aa.out);replace aa := aM (bw_ aa.out hb);replace HB := aM (lT wB_ hb);clear hb hbox hg)|((with_reducible refine gate_dst (N := 3) rfl ?_);refine Kd.R_lit k29 _ 29 ?hg (N := 3) ?hd (xs := ([] : List (S29))) (inner := []) (ok := fun _ => True) (okp := fun _ => True) ?hr ?hp (fun _ hk => hk) trivial (Below.refl _ _) (Nat.le_refl _) (by simp) ?_;(case hd => rfl);(case hg => rfl);(case hr => first|(go_simp;done)|(go_simp;rfl));(case hp => exact (Reps.none _ _));intro aP w6 ho7 hb hg_ hnew_;clear hg_ hnew_;(first|rw [← az.out] at ho7|(simp only [Int.reduceToNat] at ho7;rw [← az.out] at ho7));have aw := aM (Kd.R_lower ho7 (lZ wB_));replace aa := aM (bw_ aa.out hb);replace ab := aM (bw_ ab.out hb);replace HB := aM (lT wB_ hb);clear hb ho7;have hnb8 := ax.out;have hnc8 := ae.out;obtain ⟨hcz9_0,hcz9_1,hcz9_2,hcz9_3,hcz9_4,hfz9_0,hfz9_1,hfz9_2,hfz9_3,hfz9_4⟩ := z5_ aa.out)|((with_reducible refine gate_builtin (b := .append) (xs := #[.tmp 3,.tmp 5]) rfl ?_);at_builtin;refine Kd.R_append_rows k29 (w0 := w) w.heap.size rfl (.tmp 3) (.tmp 5) 24 29 (.agg #[(.string ⟨#[]⟩),(.string ⟨#[]⟩),(.string ⟨#[]⟩)]) 48 rfl Tryd.underlying24 info29 rfl (by decide) (by omega) aP y300 l0_1 _ _ _ (fun _ => True) (fun _ => False) rfl rfl ?aO ?aR (fun _ _ h => h) (fun _ h => h.elim) ?aF ?aB ?aS ?aL ?_;(case aR => repeat (first|exact (cB aD.out HB.out)|(with_reducible first|refine cA ?_ _|refine cN ?_ _|refine cD ?_)));(case aB => exact wB_);(case aF => exact (fun _ _ => trivial));(case aO => exact (wO_ aw.out));(case aS => exact (lZ wB_));(case aL => have := aK.out;omega);intro v304 w10 ho hb hg hat;rw [← aG.out] at ho;have n0_ := aM (bg_ aa.out hg (Kd.R_ne aw.out aa.out (by decide)));have n1_ := aM (bg_ ab.out hg (Kd.R_ne aw.out ab.out (by decide)));have n2_ := aM (hb);have n3_ := aM (ho);clear aa;clear ab;clear HB;clear aw;have aa := n0_;have ab := n1_;have HB := n2_;have ag := n3_;clear n0_ n1_ n2_ n3_;clear ho hb hg hat;obtain ⟨an,ap,aQ⟩ := Kd.R_slice ag.out;subst aQ;obtain ⟨hcz12_0,hcz12_1,hcz12_2,hcz12_3,hcz12_4,hfz12_0,hfz12_1,hfz12_2,hfz12_3,hfz12_4⟩ := z5_ aa.out)|((with_reducible refine gate_dst (N := 8) rfl ?_);refine Kd.R_lit k66 _ 66 ?hg (N := 8) ?hd (xs := ([] : List (S66))) (inner := []) (ok := fun _ => True) (okp := fun _ => True) ?hr ?hp (fun _ hk => hk) trivial (Below.refl _ _) (Nat.le_refl _) (by simp) ?_;(case hd => rfl);(case hg => rfl);(case hr => first|(go_simp;done)|(go_simp;rfl));(case hp => exact (Reps.none _ _));intro aT w13 ay hb hg_ hnew_;clear hg_ hnew_;(first|rw [← aA.out] at ay|(simp only [Int.reduceToNat] at ay;rw [← aA.out] at ay));have ar := aM (Kd.R_lower ay (lZ wB_));replace ag := aM (rB (by (with_reducible repeat (first|apply rA|apply rN|apply rD));exact (Kd.R_mono (rF (p := ⟨am,1,none⟩) (Kd.R_types ag.out aa.out (by decide)) (fun _ hk => hk.2) (.slice an af.length ap)) (fun _ h_ => h_.1))) hb);replace aa := aM (bW (g := am) (o := .cells #[.string a0_0,.slice an af.length ap,.slice A0_2 l0_2.length c0_2,.string a0_3,.string a0_4] 27 (0,0)) (by (with_reducible repeat (first|refine bN ?_ _|refine bD ?_|refine bA ?_ _));refine blk_put (cs := #[.string a0_0,.slice A0_1 l0_1.length c0_1,.slice A0_2 l0_2.length c0_2,.string a0_3,.string a0_4]) ?_ 1 _ rfl;(with_reducible repeat (first|refine bN ?_ _|refine bD ?_|refine bA ?_ _));exact aa.out) hb);replace ab := aM (bW (g := ac) (o := .cells #[.string (⟨#[]⟩ : ByteArray),.slice none 0 0,.slice none 0 0,.string (⟨#[]⟩ : ByteArray),.string (⟨#[]⟩ : ByteArray)] 27 (0,0)) (bf_ ae.out ab.out) hb);replace HB := aM (lT wB_ hb);clear hb ay;obtain ⟨hcz15_0,hcz15_1,hcz15_2,hcz15_3,hcz15_4,hfz15_0,hfz15_1,hfz15_2,hfz15_3,hfz15_4⟩ := z5_ aa.out)|((with_reducible refine gate_builtin (b := .append) (xs := #[.tmp 8,.tmp 10]) rfl ?_);at_builtin;refine Kd.R_append_rows k66 (w0 := w) w.heap.size rfl (.tmp 8) (.tmp 10) 25 66 (.agg #[(.int .i64 0),(.int .i64 0),(.string ⟨#[]⟩)]) 32 rfl Tryd.underlying25 info66 rfl (by decide) (by omega) aT y306 l0_2 _ _ _ (fun _ => True) (fun _ => False) rfl rfl ?aO ?aR (fun _ _ h => h) (fun _ h => h.elim) ?aF ?aB ?aS ?aL ?_;(case aR => repeat (first|exact (cB aE.out HB.out)|(with_reducible first|refine cA ?_ _|refine cN ?_ _|refine cD ?_)));(case aB => exact wB_);(case aF => exact (fun _ _ => trivial));(case aO => exact (wO_ ar.out));(case aS => exact (lZ wB_));(case aL => have := aN.out;omega);intro v310 w16 ho hb hg hat;rw [← aH.out] at ho;have n0_ := aM (bg_ aa.out hg (Kd.R_ne ar.out aa.out (by decide)));have n1_ := aM (bg_ ab.out hg (Kd.R_ne ar.out ab.out (by decide)));have n2_ := aM (Kd.R_over' (wO_ ag.out) (Kd.R_typed (wO_ ar.out)) (by decide) hg);have n3_ := aM (hb);have n4_ := aM (ho);clear aa;clear ab;clear ag;clear HB;clear ar;have aa := n0_;have ab := n1_;have ag := n2_;have HB := n3_;have aC := n4_;clear n0_ n1_ n2_ n3_ n4_;clear ho hb hg hat;obtain ⟨au,av,aU⟩ := Kd.R_slice aC.out;subst aU;obtain ⟨hcz18_0,hcz18_1,hcz18_2,hcz18_3,hcz18_4,hfz18_0,hfz18_1,hfz18_2,hfz18_3,hfz18_4⟩ := z5_ aa.out;obtain ⟨hcz19_0,hcz19_1,hcz19_2,hcz19_3,hcz19_4,hfz19_0,hfz19_1,hfz19_2,hfz19_3,hfz19_4⟩ := z5_ ab.out));refine bodyPost_ret (results_cell_row rfl _ _ ac 27 #[.string a0_0,.slice an af.length ap,.slice au ak.length av,.string a0_3,.string a0_4] (0,0) _ rfl (by (with_reducible repeat (first|refine bN ?_ _|refine bD ?_|refine bA ?_ _));refine blk_put (cs := #[.string a0_0,.slice an af.length ap,.slice au ak.length av,.string a0_3,.string (⟨#[]⟩ : ByteArray)]) ?_ 4 _ rfl;(with_reducible repeat (first|refine bN ?_ _|refine bD ?_|refine bA ?_ _));refine blk_put (cs := #[.string a0_0,.slice an af.length ap,.slice au ak.length av,.string (⟨#[]⟩ : ByteArray),.string (⟨#[]⟩ : ByteArray)]) ?_ 3 _ rfl;(with_reducible repeat (first|refine bN ?_ _|refine bD ?_|refine bA ?_ _));refine blk_put (cs := #[.string a0_0,.slice an af.length ap,.slice none 0 0,.string (⟨#[]⟩ : ByteArray),.string (⟨#[]⟩ : ByteArray)]) ?_ 2 _ rfl;(with_reducible repeat (first|refine bN ?_ _|refine bD ?_|refine bA ?_ _));refine blk_put (cs := #[.string a0_0,.slice none 0 0,.slice none 0 0,.string (⟨#[]⟩ : ByteArray),.string (⟨#[]⟩ : ByteArray)]) ?_ 1 _ rfl;(with_reducible repeat (first|refine bN ?_ _|refine bD ?_|refine bA ?_ _));refine blk_put (cs := #[.string (⟨#[]⟩ : ByteArray),.slice none 0 0,.slice none 0 0,.string (⟨#[]⟩ : ByteArray),.string (⟨#[]⟩ : ByteArray)]) ?_ 0 _ rfl;exact bf_ ae.out ab.out) Tryd.underlying27 rfl (by kernel_rfl)) rfl ?_;exact ⟨_,_,by first|rfl|(simp [*];done),by (with_reducible repeat (first|apply rA|apply rN|apply rD));exact Kd.R_mono (rF (p := ⟨ac,4,none⟩) (rF (p := ⟨ac,3,none⟩) (rF (p := ⟨ac,2,none⟩) (rF (p := ⟨ac,1,none⟩) (rF (p := ⟨ac,0,none⟩) (rF (p := ⟨am,2,none⟩) (Kd.R_types (Kd.R_types ag.out aa.out (by decide)) ab.out (by decide)) (fun _ hk => hk.1.2) (.slice au ak.length av)) (fun _ hk => hk.2) (.string a0_0)) (fun _ hk => hk.2) (.slice an af.length ap)) (fun _ hk => hk.2) (.slice au ak.length av)) (fun _ hk => hk.2) (.string a0_3)) (fun _ hk => hk.2) (.string a0_4)) (fun _ hk => trivial),by (with_reducible repeat (first|apply rA|apply rN|apply rD));exact Kd.R_mono (rF (p := ⟨ac,4,none⟩) (rF (p := ⟨ac,3,none⟩) (rF (p := ⟨ac,2,none⟩) (rF (p := ⟨ac,1,none⟩) (rF (p := ⟨ac,0,none⟩) (rF (p := ⟨am,2,none⟩) (Kd.R_types (Kd.R_types aC.out aa.out (by decide)) ab.out (by decide)) (fun _ hk => hk.1.2) (.slice au ak.length av)) (fun _ hk => hk.2) (.string a0_0)) (fun _ hk => hk.2) (.slice an af.length ap)) (fun _ hk => hk.2) (.slice au ak.length av)) (fun _ hk => hk.2) (.string a0_3)) (fun _ hk => hk.2) (.string a0_4)) (fun _ hk => trivial),wB_⟩
  ·rw [if_neg c3] at H;exact absurd H (by simp)
 ·rw [if_neg c2] at H;exact absurd H (by simp)
theorem impl_Term_law1 {α : Type} (L cs : List α) (a b k : Nat) (hab : a ≤ b) (hb : b + k ≤ L.length) (hk : cs.length = k) (M C1 : List α) (hMd : M = (L.drop a).take (b - a)) (hCd : C1 = L.take (a + k) ++ M ++ L.drop (a + k + M.length)) :
  M.length = b - a ∧ C1.length = L.length ∧ (C1.take a ++ cs ++ C1.drop (a + cs.length)).length = L.length ∧ (C1.take a ++ cs ++ C1.drop (a + cs.length)).take (b + k) = (L.take b).take a ++ (cs ++ (L.take b).drop a) := by
 have hM : M.length = b - a := (by simp [hMd];omega)
 have h1 : C1.take a = L.take a := by
  simp only [hCd,List.append_assoc];rw [List.take_append_of_le_length (by simp;omega),List.take_take,Nat.min_eq_left (by omega)]
 have h2 : C1.drop (a + k) = M ++ L.drop (b + k) := by
  simp only [hCd,List.append_assoc];rw [List.drop_append_of_le_length (by simp;omega),List.drop_eq_nil_of_le (by simp;omega),List.nil_append,hM];congr 2;omega
 have h3 : C1.length = L.length := (by simp [hCd,hM];omega);refine ⟨hM,h3,?_,?_⟩
 ·rw [h1,hk,h2];simp [hM];omega
 ·rw [h1,hk,h2,List.take_take,Nat.min_eq_left hab,List.drop_take,List.append_assoc,List.take_append,List.take_append,List.take_of_length_le (l := L.take a) (by simp;omega),List.take_of_length_le (l := cs) (by simp;omega)];have e : b + k - (L.take a).length - cs.length = M.length := (by simp;omega);rw [e,List.take_left',hMd];rfl
theorem impl_Term_law2 {α : Type} (L cs Z Z2 : List α) (a b k : Nat) (hab : a ≤ b) (hb : L.length = b) (hk : cs.length = k) (hZ : Z.length = b + k - a) (R C1 : List α) (hRd : R = L.take a ++ Z ++ Z2) (hCd : C1 = R.take a ++ cs ++ R.drop (a + cs.length)) :
  C1.length = R.length ∧ (C1.take (a + k) ++ L.drop a ++ C1.drop (a + k + (L.drop a).length)).length = R.length ∧ (C1.take (a + k) ++ L.drop a ++ C1.drop (a + k + (L.drop a).length)).take (b + k) = L.take a ++ (cs ++ L.drop a) := by
 have h1 : R.take a = L.take a := by
  simp only [hRd,List.append_assoc];rw [List.take_append_of_le_length (by simp;omega),List.take_take,Nat.min_self]
 have h2 : C1.take (a + k) = L.take a ++ cs := by
  simp only [hCd,h1];rw [List.take_append_of_le_length (by simp;omega),List.take_of_length_le (by simp;omega)]
 have hR : R.length = b + k + Z2.length := (by simp [hRd];omega);have hC : C1.length = R.length := (by simp only [hCd,h1];simp;omega);refine ⟨hC,?_,?_⟩
 ·rw [h2];simp;omega
 ·rw [h2,List.append_assoc,List.append_assoc,List.take_append,List.take_append,List.take_append];rw [List.take_of_length_le (l := L.take a) (by simp;omega),List.take_of_length_le (l := cs) (by simp;omega),List.take_of_length_le (l := L.drop a) (by simp;omega)];have e : b + k - (L.take a).length - cs.length - (L.drop a).length = 0 := (by simp;omega);rw [e,List.take_zero,List.append_nil]
theorem impl_Term_copy {P : Program} (w : World) (dT sT ty elem : TypeId) (g o dLen dCap : Nat) (a : Addr) (sLen sCap sz n : Nat) (cur : Array Value) (t : TypeId) (cs : List Value)
  (hu : P.underlying dT = some (.slice elem)) (hs : (P.info? elem).map (·.size) = some sz)
  (hg : w.heap[g]? = some (.cells cur t (0,0))) (hn : n = Nat.min sLen dLen) (hcl : cs.length = n * sz)
  (hsrc : ∀ j v,cs[j]? = some v → w.cell? (a.add j) = some v) (hfit : o + cs.length ≤ cur.size) (h1 : ∀ v ∈ cs,v.oneCell' = true) :
  (Builtin.copy_ #[dT,sT] ty #[.slice (some ⟨g,o,none⟩) dLen dCap,.slice (some a) sLen sCap]).run P w =
   .ok (goInt n) (w.setRow g (cur.toList.take o ++ cs ++ cur.toList.drop (o + cs.length)).toArray) := by
 have hl := run_loadCells_list (P := P) w a cs hsrc;have hst := run_storeCells_at P g o t cs 0 cur w hg (by simpa using hfit) h1;cases hq : P.info? elem with
 | none => simp [hq] at hs
 | some i =>
  have hi : i.size = sz := (by simpa [hq] using hs);rw [hcl] at hl;simp [Builtin.copy_,run_underlying hu,Builtin.lenOf,Builtin.firstCells,sizeOf,typeInfo,hq,hi,← hn,hl,hst]
theorem impl_Term_reps {α : Type} {R : α → List Value → Prop} {size : Nat} {ps qs : List α} {cs ds : List Value} (h : Reps R size ps cs) (k : Reps R size qs ds) : Reps R size (ps ++ qs) (cs ++ ds) := by
 refine ⟨by rw [List.length_append,h.1,k.1,List.length_append,Nat.add_mul],fun j q hq => ?_⟩;rcases Nat.lt_or_ge j ps.length with hj|hj
 ·rw [List.getElem?_append_left hj] at hq;have h1 : j * size + size ≤ cs.length := (by rw [h.1,← Nat.succ_mul];exact Nat.mul_le_mul_right _ hj);have h2 := h.2 j q hq;rw [List.drop_append_of_le_length (by omega),List.take_append_of_le_length (by rw [xD];omega)];exact h2
 ·rw [List.getElem?_append_right hj] at hq;have h2 := k.2 _ q hq;have h3 : cs.length ≤ j * size := (by rw [h.1];exact Nat.mul_le_mul_right _ hj);rw [List.drop_append,List.drop_eq_nil_of_le h3,List.nil_append,h.1,← Nat.sub_mul];exact h2
theorem impl_Term_inserted {α : Type} {d : Kd α} {e base i : Nat} {ok okp : Nat → Prop} {W w1 : World} {v v1 : Value} {xs : List α} {p : α} {inner cs : List Value} (hi : i ≤ xs.length) (h0 : ∀ k,v.ownBlock = some k → ok k) (hr : Reps (d.M W base (fun k => ok k ∧ some k ≠ v.ownBlock)) d.sz xs inner) (hp : d.M W base okp p cs) (hokp : ∀ k,okp k → ok k ∧ some k ≠ v.ownBlock) (hfresh : ∀ k,W.heap.size ≤ k → ok k)
  (hown : w1.ownsRow base e d.sz v1 (xs.length + 1) (inner.take (i * d.sz) ++ (cs ++ inner.drop (i * d.sz)))) (hg : W.grownBy w1 v.ownBlock) (hat : v1.ownBlock = v.ownBlock ∨ ∃ b,v1.ownBlock = some b ∧ W.heap.size ≤ b) : d.R e w1 base ok v1 (xs.take i ++ ([p] ++ xs.drop i)) := by
 have hne : ∀ k,some k ≠ v.ownBlock → k < W.heap.size → some k ≠ v1.ownBlock := by
  intro k hk hlt;rcases hat with hat|⟨b,hb,hle⟩
  ·rw [hat];exact hk
  ·rw [hb];intro he;injection he with he;omega
 have step : ∀ {q : α} {c : List Value} {o : Nat → Prop},d.M W base o q c → (∀ k,o k → ok k ∧ some k ≠ v.ownBlock) → d.M w1 base (fun k => ok k ∧ some k ≠ v1.ownBlock) q c := by
  intro q c o hq ho;have h1 := d.M_move (w1 := w1) (fun k hk => hg.block k hk.2.2.1 (ho k hk.1).2) (d.M_bound hq);exact d.M_mono (fun k hk => ⟨(ho k hk.1).1,hne k (ho k hk.1).2 hk.2.2.1⟩) h1
 have hx := hr.imp_ (fun _ _ hq => step hq (fun _ hk => hk))
 have h1 : Reps (d.M w1 base (fun k => ok k ∧ some k ≠ v1.ownBlock)) d.sz [p] cs := by
  have := (Reps.none (d.M w1 base (fun k => ok k ∧ some k ≠ v1.ownBlock)) d.sz).snoc (step hp hokp) (d.K_len (d.K_of_M hp));simpa using this
 have hlen : (xs.take i ++ ([p] ++ xs.drop i)).length = xs.length + 1 := by
  simp only [List.length_append,xT,xD,List.length_singleton];omega
 refine ⟨fun k hk => ?_,_,by rw [hlen];exact hown,impl_Term_reps (Kd.reps_take hx hi) (impl_Term_reps h1 (Kd.reps_drop hx))⟩;rcases hat with hat|⟨b,hb,hle⟩
 ·exact h0 k (hat ▸ hk)
 ·rw [hb] at hk;injection hk with hk;exact hfresh k (by omega)
theorem impl_Term_ones {α : Type} {R : α → List Value → Prop} {size : Nat} {ps : List α} {cs : List Value} (h : Reps R size ps cs) (h1 : ∀ {p c},R p c → ∀ u ∈ c,u.oneCell' = true) (hs : 0 < size) : ∀ u ∈ cs,u.oneCell' = true := by
 intro u hu;obtain ⟨j,hj,rfl⟩ := List.getElem_of_mem hu
 have hlt : j / size < ps.length := by
  rw [h.1] at hj;exact Nat.div_lt_of_lt_mul (by rw [Nat.mul_comm];exact hj)
 have := h.2 (j / size) ps[j / size] (List.getElem?_eq_getElem hlt);refine h1 this _ ?_;rw [List.mem_iff_getElem?];refine ⟨j % size,?_⟩;rw [List.getElem?_take,if_pos (Nat.mod_lt _ hs),List.getElem?_drop];have e : j / size * size + j % size = j := (by rw [Nat.mul_comm];exact Nat.div_add_mod j size);rw [e];exact List.getElem?_eq_getElem hj
set_option maxHeartbeats 4000000 in
set_option maxRecDepth 100000 in
theorem impl_Term_end (base n c : Nat) (A : Option Addr) (inner cs : List Value) (W : World) (hn : n ≤ c) (hc : c ≤ maxLen) (hown : W.ownsRow base 29 3 (.slice A n c) n inner) (vb vc : Nat)
  (hvb : ∀ j u,cs[j]? = some u → W.cell? ⟨vb,j,none⟩ = some u) (hcs : cs.length = 3) (h1 : ∀ u ∈ cs,u.oneCell' = true) (hbig : (n + 1) * 48 ≤ 140737488355328) (hbase : base ≤ W.heap.size) :
  Calls Tryd.prog 23 #[.slice A n c,.int .i64 n,.slice (some ⟨vb,0,none⟩) 1 vc] W fun e w' =>
   ∃ v1,e = .returned v1 ∧ w'.ownsRow base 29 3 v1 (n + 1) (inner ++ cs) ∧ W.grownBy w' (Value.slice A n c).ownBlock ∧ (v1.ownBlock = (Value.slice A n c).ownBlock ∨ ∃ b,v1.ownBlock = some b ∧ W.heap.size ≤ b) := by
 have hnn : (n : Int) ≤ (n : Int) := Int.le_refl _;have hn' : (n : Int) ≤ (c : Int) := (by omega);have h00 : ¬ ((1 : Int) = 0) := (by decide);have huS := Tryd.underlying24;go_enter Tryd.func23,Tryd.ntmps23;obtain ⟨i0,hi0,hz0,hs0,hb0⟩ := info_parts info29;go_wp2_with (at_builtin;refine wpList_append_own_at (w := W) rfl (.tmp 23) (.tmp 24) 24 rfl base 29 i0 _ 3 48 Tryd.underlying24 hi0 hz0 hs0 hb0 rfl (by decide) (.slice A n c) n inner rfl hown ⟨vb,0,none⟩ 1 vc cs rfl (by omega) (fun j u hj => by rw [Addr.add_lit,Nat.zero_add];exact hvb j u hj) h1 (by simp only [maxLen] at hc ⊢;omega) (by omega) hbase ?_;intro v1 w1 ho1 hg1 _ hat1)
 all_goals first
  | (go_ret;first|exact ⟨_,rfl,ho1,hg1,hat1.imp id (fun h => ⟨_,h,Nat.le_refl _⟩)⟩|exact ⟨_,rfl,ho1,by cases A <;> exact hg1,by cases A <;> exact hat1.imp id (fun h => ⟨_,h,Nat.le_refl _⟩)⟩)
  | (exfalso;omega)
set_option maxHeartbeats 4000000 in
set_option maxRecDepth 100000 in
theorem impl_Term_shift (base n c i b : Nat) (inner cs : List Value) (cur : Array Value) (W : World) (hi : i < n) (hroom : n + 1 ≤ c) (hc : c ≤ maxLen) (hb : W.heap[b]? = some (.cells cur 29 (0,0))) (hbb : base ≤ b) (hsz : cur.size = c * 3) (hcur : cur.toList.take (n * 3) = inner) (vb vc : Nat) (hvb : vb ≠ b) (curv : Array Value) (hvc : 1 ≤ vc) (hvz : curv.size = vc * 3)
  (hv : W.heap[vb]? = some (.cells curv 29 (0,0))) (hvcs : curv.toList.take 3 = cs) (h1 : ∀ u ∈ cs,u.oneCell' = true) (h1' : ∀ u ∈ inner,u.oneCell' = true) :
  Calls Tryd.prog 23 #[.slice (some ⟨b,0,none⟩) n c,.int .i64 i,.slice (some ⟨vb,0,none⟩) 1 vc] W fun e w' =>
   ∃ v1,e = .returned v1 ∧ w'.ownsRow base 29 3 v1 (n + 1) (inner.take (i * 3) ++ (cs ++ inner.drop (i * 3))) ∧ W.grownBy w' (some b) ∧ v1.ownBlock = some b := by
 have hz2 : ¬ ((i : Int) = (n : Int)) := (by omega);have hc63 : c ≤ 9223372036854775807 := (by simp only [maxLen] at hc;omega);have hin : i ≤ n := (by omega);have hw1 : IntKind.i64.wrap ((i : Int) + 1) = (i : Int) + 1 := (by rw [IntKind.wrap_i64];omega);have hw2 : IntKind.i64.wrap ((n : Int) + 1) = (n : Int) + 1 := (by rw [IntKind.wrap_i64];omega);have hb1 : (0 : Int) ≤ (i : Int) + 1 := (by omega);have htn : ((i : Int) + 1).toNat = i + 1 := (by omega);have htm : ((n : Int) + 1).toNat = n + 1 := (by omega);have hb2 : ¬ (c = i + 1) := (by omega);have hb3 : (i : Int) ≤ (n : Int) + 1 := (by omega);have hb4 : ¬ (c = i) := (by omega);have hb5 : ¬ ((c : Int) < (n : Int) + 1) := (by omega);have mixed : Tryd.prog.follows Departure.mixedOrders = true := (by first|rfl|kernel_rfl);have huS := Tryd.underlying24;obtain ⟨i0,hi0,hz0,hs0,hb0⟩ := info_parts info29;have hsz3 : (Tryd.prog.info? 29).map (·.size) = some 3 := (by rw [hi0];simp [hs0]);have hcs3 : cs.length = 3 := (by rw [← hvcs,xT,Array.length_toList,hvz];omega)
 have hvcell : ∀ (W' : World),W'.heap[vb]? = some (.cells curv 29 (0,0)) → ∀ j u,cs[j]? = some u → W'.cell? ((⟨vb,0,none⟩ : Addr).add j) = some u := fun W' hW' j u hj => by
  rw [Addr.add_lit,Nat.zero_add];rw [← hvcs,List.getElem?_take] at hj;split at hj
  ·simpa [World.cell?,hW'] using hj
  ·cases hj
 have hov : ∀ lb cb,(callFunc 48 #[.slice (some ⟨vb,0,none⟩) 1 vc,.slice (some ⟨b,(i + 1) * 3,none⟩) lb cb]).run Tryd.prog W = .ok (.value (.bool false)) W := fun lb cb => by
  rw [run_callFunc_extern Tryd.func48 (by kernel_rfl) (by kernel_rfl) (by kernel_rfl) (e := Extern.SlicesOverlaps.overlaps #[24,24] #[4]) (by kernel_rfl),
   Lib.run_overlaps_apart W 24 4 29 Tryd.underlying24 3 (by intro w;simp [sizeOf,typeInfo,hi0,hs0]) ⟨vb,0,none⟩ ⟨b,(i + 1) * 3,none⟩ 1 vc lb cb hvb 29 29 (vc * 3) (c * 3) (by simp [World.shape?,hv,hvz]) (by simp [World.shape?,hb,hsz]) (by omega) (by simp [World.frozen?,hv]) (by simp [World.frozen?,hv])]
  rfl
 obtain ⟨M,hM⟩ : ∃ M,M = (cur.toList.drop (i * 3)).take (n * 3 - i * 3) := ⟨_,rfl⟩;obtain ⟨L1,hL1⟩ : ∃ L1,L1 = cur.toList.take (i * 3 + 3) ++ M ++ cur.toList.drop (i * 3 + 3 + M.length) := ⟨_,rfl⟩;obtain ⟨hMl,hL1l,hL2l,hlaw⟩ := impl_Term_law1 cur.toList cs (i * 3) (n * 3) 3 (by omega) (by rw [Array.length_toList,hsz];omega) hcs3 M L1 hM hL1;obtain ⟨L2,hL2⟩ : ∃ L2,L2 = L1.take (i * 3) ++ cs ++ L1.drop (i * 3 + cs.length) := ⟨_,rfl⟩;rw [← hL2] at hL2l hlaw;have hcl : cur.toList.length = c * 3 := (by rw [Array.length_toList,hsz])
 have hsrc1 : ∀ j u,M[j]? = some u → (W.drew).cell? ((⟨b,i * 3,none⟩ : Addr).add j) = some u := fun j u hj => by
  rw [Addr.add_lit];rw [hM,List.getElem?_take] at hj;split at hj
  ·rw [List.getElem?_drop] at hj;have hb' : W.drew.heap[b]? = some (.cells cur 29 (0,0)) := hb;simpa [World.cell?,hb'] using hj
  ·cases hj
 have hone1 : ∀ u ∈ M,u.oneCell' = true := fun u hu => h1' u (by
  rw [← hcur];rw [hM,← List.drop_take] at hu;exact List.mem_of_mem_drop hu)
 obtain ⟨W1,hW1⟩ : ∃ W1,W1 = W.drew.setRow b L1.toArray := ⟨_,rfl⟩
 have hcp1 : ∀ ty dc sc,(Builtin.copy_ #[24,24] ty #[.slice (some ⟨b,(i + 1) * 3,none⟩) (n - i) dc,.slice (some ⟨b,i * 3,none⟩) (n + 1 - i) sc]).run Tryd.prog W.drew = .ok (goInt ((n - i : Nat) : Int)) W1 := fun ty dc sc => by
  have h := impl_Term_copy (P := Tryd.prog) W.drew 24 24 ty 29 b ((i + 1) * 3) (n - i) dc ⟨b,i * 3,none⟩ (n + 1 - i) sc 3 (n - i) cur 29 M Tryd.underlying24 hsz3 hb (by simp only [Nat.min_def];split <;> omega) (by rw [hMl];omega) hsrc1 (by rw [hMl,hsz];omega) hone1;rw [h,hW1,hL1,show (i + 1) * 3 = i * 3 + 3 by omega]
 have hb1' : W1.heap[b]? = some (.cells L1.toArray 29 (0,0)) := (by rw [hW1];exact setRow_heap W.drew b cur _ _ _ hb);have hv1' : W1.heap[vb]? = some (.cells curv 29 (0,0)) := (by rw [hW1];exact (setRow_other W.drew b vb _ hvb).trans hv);obtain ⟨W2,hW2⟩ : ∃ W2,W2 = W1.setRow b L2.toArray := ⟨_,rfl⟩
 have hcp2 : ∀ ty dc,(Builtin.copy_ #[24,24] ty #[.slice (some ⟨b,i * 3,none⟩) (n + 1 - i) dc,.slice (some ⟨vb,0,none⟩) 1 vc]).run Tryd.prog W1 = .ok (goInt ((1 : Nat) : Int)) W2 := fun ty dc => by
  have h := impl_Term_copy (P := Tryd.prog) W1 24 24 ty 29 b (i * 3) (n + 1 - i) dc ⟨vb,0,none⟩ 1 vc 3 1 L1.toArray 29 cs Tryd.underlying24 hsz3 hb1' (by simp only [Nat.min_def];split <;> omega) (by omega) (hvcell W1 hv1') (by rw [hcs3];simp only [List.size_toArray];rw [hL1l,hcl];omega) h1;rw [h,hW2,hL2]
 have hout : W2.ownsRow base 29 3 (.slice (some ⟨b,0,none⟩) (n + 1) c) (n + 1) (inner.take (i * 3) ++ (cs ++ inner.drop (i * 3))) := by
  have e : (n + 1) * 3 = n * 3 + 3 := (by omega);rw [← hcur,← hlaw];refine ⟨?_,.inr ⟨b,c,L2.toArray,rfl,hbb,by rw [hW2];exact setRow_heap W1 b _ _ _ _ hb1',by omega,hc,?_,?_⟩⟩
  ·rw [xT,hL2l,hcl];omega
  ·rw [List.size_toArray,hL2l,hcl]
  ·rw [e]
 have hgr : W.grownBy W2 (some b) := by
  refine ⟨?_,?_,?_,?_,fun k hk hne => ?_⟩
  ·rw [hW2,hW1];rfl
  ·rw [hW2,hW1];rfl
  ·rw [hW2,hW1];rfl
  ·rw [hW2,hW1];simp [World.setRow]
  ·have hkb : k ≠ b := fun h => hne (by rw [h]);rw [hW2,setRow_other _ _ _ _ hkb,hW1,setRow_other _ _ _ _ hkb];rfl
 have HO := aM hout;have HG := aM hgr;clear hout hgr hW2 hW1 hL1 hL2 hM hMl hL1l hL2l hlaw hcl hsrc1 hone1 hb1' hv1' hvcell hcur hsz hv hvz hvcs h1 h1' hcs3;go_enter Tryd.func23,Tryd.ntmps23;go_wp2_with (simp only [hov]);go_region_law_o (refine step_copy_runI rfl _ _ 24 24 rfl _ _ (by simp [Act.eval,Act.put]) (by simp [Act.eval,Act.put]) (hcp1 _ _ _) ?_);go_wp2_with (at_builtin;refine wpList_copy_runI _ rfl _ _ 24 24 rfl _ _ rfl rfl (hcp2 _ _) ?_);go_ret;exact ⟨_,rfl,HO.out,HG.out,rfl⟩
set_option maxHeartbeats 4000000 in
set_option maxRecDepth 100000 in
theorem impl_Term_grow (base n c i b : Nat) (inner cs : List Value) (cur : Array Value) (W : World) (hi : i < n) (hnc : n ≤ c) (hroom : c < n + 1) (hbig : (n + 1) * 48 ≤ 140737488355328) (hb : W.heap[b]? = some (.cells cur 29 (0,0))) (hbb : base ≤ b) (hsz : cur.size = c * 3) (hcur : cur.toList.take (n * 3) = inner) (vb vc : Nat) (hvb : vb ≠ b) (curv : Array Value) (hvc : 1 ≤ vc) (hvz : curv.size = vc * 3)
  (hv : W.heap[vb]? = some (.cells curv 29 (0,0))) (hvcs : curv.toList.take 3 = cs) (h1 : ∀ u ∈ cs,u.oneCell' = true) (h1' : ∀ u ∈ inner,u.oneCell' = true) :
  Calls Tryd.prog 23 #[.slice (some ⟨b,0,none⟩) n c,.int .i64 i,.slice (some ⟨vb,0,none⟩) 1 vc] W fun e w' =>
   ∃ v1,e = .returned v1 ∧ w'.ownsRow base 29 3 v1 (n + 1) (inner.take (i * 3) ++ (cs ++ inner.drop (i * 3))) ∧ W.grownBy w' (some b) ∧ v1.ownBlock = some W.heap.size := by
 have hz2 : ¬ ((i : Int) = (n : Int)) := by omega
 have hz3 : (c : Int) < (n : Int) + 1 := by omega
 have hin : i ≤ n := by omega
 have hbw : b < W.heap.size := by
  rcases Nat.lt_or_ge b W.heap.size with h|h
  ·exact h
  ·simp [Array.getElem?_eq_none h] at hb
 have hvw : vb < W.heap.size := by
  rcases Nat.lt_or_ge vb W.heap.size with h|h
  ·exact h
  ·simp [Array.getElem?_eq_none h] at hv
 have hw1 : IntKind.i64.wrap ((i : Int) + 1) = (i : Int) + 1 := by rw [IntKind.wrap_i64];omega
 have hw2 : IntKind.i64.wrap ((n : Int) + 1) = (n : Int) + 1 := by rw [IntKind.wrap_i64];omega
 have hw3 : IntKind.i64.wrap ((n : Int) + 1 - (i : Int)) = (n : Int) + 1 - (i : Int) := by rw [IntKind.wrap_i64];omega
 have hb1 : (0 : Int) ≤ (i : Int) + 1 := by omega
 have htn : ((i : Int) + 1).toNat = i + 1 := by omega
 have hb3 : (i : Int) ≤ (n : Int) := by omega
 have hci : ¬ (c = i) := by omega
 have mixed : Tryd.prog.follows Departure.mixedOrders = true := by first|rfl|kernel_rfl
 have huS := Tryd.underlying24
 obtain ⟨i0,hi0,hz0,hs0,hb0⟩ := info_parts info29
 have hsz3 : (Tryd.prog.info? 29).map (·.size) = some 3 := by rw [hi0];simp [hs0]
 have hcs3 : cs.length = 3 := by rw [← hvcs,xT,Array.length_toList,hvz];omega
 have hil : inner.length = n * 3 := by rw [← hcur,xT,Array.length_toList,hsz];omega
 have hvcell : ∀ (W' : World),W'.heap[vb]? = some (.cells curv 29 (0,0)) → ∀ j u,cs[j]? = some u → W'.cell? ((⟨vb,0,none⟩ : Addr).add j) = some u := fun W' hW' j u hj => by
  rw [Addr.add_lit,Nat.zero_add]
  rw [← hvcs,List.getElem?_take] at hj
  split at hj
  ·simpa [World.cell?,hW'] using hj
  ·cases hj
 have hbcell : ∀ (W' : World),W'.heap[b]? = some (.cells cur 29 (0,0)) → ∀ o j u,(inner.drop o)[j]? = some u → W'.cell? ((⟨b,o,none⟩ : Addr).add j) = some u := fun W' hW' o j u hj => by
  rw [Addr.add_lit]
  rw [List.getElem?_drop,← hcur,List.getElem?_take] at hj
  split at hj
  ·simpa [World.cell?,hW'] using hj
  ·cases hj
 have hkk : (n : Int) + 1 - (i : Int) = ((n + 1 - i : Nat) : Int) := by omega
 have hik : i + (n + 1 - i) = n + 1 := by omega
 have hold : (Builtin.firstCells i0.size i (.slice (some ⟨b,0,none⟩) i c)).run Tryd.prog W.drew = .ok (inner.take (i * 3)).toArray W.drew := by
  rw [hs0]
  exact run_firstCells_some W.drew 3 i ⟨b,0,none⟩ i c (inner.take (i * 3)) (by rw [xT];omega) (fun j v hj => by
   rw [List.getElem?_take] at hj
   split at hj
   ·exact hbcell W.drew hb 0 j v (by simpa using hj)
   ·cases hj)
 obtain ⟨G,hG⟩ : ∃ G,G = grownCap W (n + 1) c 29 := ⟨_,rfl⟩
 obtain ⟨Z,hZ⟩ : ∃ Z : Array Value,Z = Builtin.zeroCells (#[.string ⟨#[]⟩,.string ⟨#[]⟩,.string ⟨#[]⟩] : Array Value) (n + 1 - i) := ⟨_,rfl⟩
 obtain ⟨Z2,hZ2⟩ : ∃ Z2 : Array Value,Z2 = Builtin.zeroCells (#[.string ⟨#[]⟩,.string ⟨#[]⟩,.string ⟨#[]⟩] : Array Value) (G - (n + 1)) := ⟨_,rfl⟩
 obtain ⟨R,hR⟩ : ∃ R,R = inner.take (i * 3) ++ Z.toList ++ Z2.toList := ⟨_,rfl⟩
 have hrz : ∀ ty,(Builtin.append_ #[24,3] ty #[.slice (some ⟨b,0,none⟩) i c,.int .i64 ((n : Int) + 1 - (i : Int))]).run Tryd.prog W =
   .ok (.slice (some ⟨W.heap.size,0,none⟩) (n + 1) G) (W.drew.alloc (.cells R.toArray 29)) := fun ty => by
  have h := Lib.run_append_grow_zeros W 24 3 ty 29 i0 _ .i64 .i64 Tryd.underlying24 Tryd.underlying3 hi0 hz0 (some ⟨b,0,none⟩) i c (inner.take (i * 3)) hold (n + 1 - i) (by omega) (by omega) (by omega) (by omega) (by rw [hb0];omega) (by rw [hb0,hik];exact growslice_fits hroom hbig)
  rw [hik] at h
  rw [hkk,h,hG,hR,hZ,hZ2,← hG]
  simp [Value.cells]
  congr 2
  apply Array.ext'
  simp
 obtain ⟨N,hNd⟩ : ∃ N,N = W.heap.size := ⟨_,rfl⟩
 obtain ⟨W1,hW1⟩ : ∃ W1,W1 = W.drew.alloc (.cells R.toArray 29) := ⟨_,rfl⟩
 rw [← hW1,← hNd] at hrz
 have hZl : Z.toList.length = n * 3 + 3 - i * 3 := by
  rw [Array.length_toList,hZ,size_zeroCells];simp;omega
 obtain ⟨C1,hC1⟩ : ∃ C1,C1 = R.take (i * 3) ++ cs ++ R.drop (i * 3 + cs.length) := ⟨_,rfl⟩
 obtain ⟨hC1l,hC2l,hlaw⟩ := impl_Term_law2 inner cs Z.toList Z2.toList (i * 3) (n * 3) 3 (by omega) hil hcs3 hZl R C1 hR hC1
 obtain ⟨C2,hC2⟩ : ∃ C2,C2 = C1.take (i * 3 + 3) ++ inner.drop (i * 3) ++ C1.drop (i * 3 + 3 + (inner.drop (i * 3)).length) := ⟨_,rfl⟩
 rw [← hC2] at hC2l hlaw
 have hGn : n + 1 ≤ G := by rw [hG];exact grownCap_ge W _ _ _
 have hGm : G ≤ maxLen := by rw [hG];exact grownCap_le_maxLen W (n + 1) c 29 (by unfold maxLen;omega)
 have hG63 : G ≤ 9223372036854775807 := by have := hGm;unfold maxLen at this;omega
 have hRl : R.length = G * 3 := by
  rw [hR];simp only [List.length_append,hZl,Array.length_toList,hZ2,size_zeroCells,xT,hil];simp;omega
 have hdl : (inner.drop (i * 3)).length = (n - i) * 3 := by rw [xD,hil];omega
 have hN1 : W1.heap[N]? = some (.cells R.toArray 29 (0,0)) := by rw [hW1,hNd];exact heap_alloc_new W.drew _
 have hold1 : ∀ k,k < N → W1.heap[k]? = W.heap[k]? := fun k hk => by
  rw [hW1]
  exact (lA (Below.refl W.drew.heap.size W.drew) _).block k (by rw [hNd] at hk;exact hk)
 have hcpA : ∀ (W' : World),W'.heap = W1.heap → ∀ ty dc,(Builtin.copy_ #[24,24] ty #[.slice (some ⟨N,i * 3,none⟩) (n + 1 - i) dc,.slice (some ⟨vb,0,none⟩) 1 vc]).run Tryd.prog W' = .ok (goInt ((1 : Nat) : Int)) (W'.setRow N C1.toArray) := fun W' hW' ty dc => by
  have h := impl_Term_copy (P := Tryd.prog) W' 24 24 ty 29 N (i * 3) (n + 1 - i) dc ⟨vb,0,none⟩ 1 vc 3 1 R.toArray 29 cs Tryd.underlying24 hsz3 (by rw [hW'];exact hN1) (by simp only [Nat.min_def];split <;> omega) (by omega) (hvcell W' (by rw [hW',hold1 vb (by omega)];exact hv)) (by rw [hcs3,List.size_toArray,hRl];omega) h1
  rw [h,hC1]
 have hN2 : (W1.setRow N C1.toArray).heap[N]? = some (.cells C1.toArray 29 (0,0)) := setRow_heap W1 N _ _ _ _ hN1
 have hcpB : ∀ (W' : World),W'.heap = (W1.setRow N C1.toArray).heap → ∀ ty dc sc,(Builtin.copy_ #[24,24] ty #[.slice (some ⟨N,(i + 1) * 3,none⟩) (n - i) dc,.slice (some ⟨b,i * 3,none⟩) (n - i) sc]).run Tryd.prog W' = .ok (goInt ((n - i : Nat) : Int)) (W'.setRow N C2.toArray) := fun W' hW' ty dc sc => by
  have h := impl_Term_copy (P := Tryd.prog) W' 24 24 ty 29 N ((i + 1) * 3) (n - i) dc ⟨b,i * 3,none⟩ (n - i) sc 3 (n - i) C1.toArray 29 (inner.drop (i * 3)) Tryd.underlying24 hsz3 (by rw [hW'];exact hN2) (by simp only [Nat.min_def];split <;> omega) hdl (hbcell W' (by rw [hW',setRow_other _ _ _ _ (show b ≠ N by omega),hold1 b (by omega)];exact hb) (i * 3)) (by rw [hdl,List.size_toArray,hC1l,hRl];omega) (fun u hu => h1' u (List.mem_of_mem_drop hu))
  rw [h,hC2,show (i + 1) * 3 = i * 3 + 3 by omega]
 have hGi : ¬ (G = i) := by omega
 have hGim : ¬ (G = i + 1) := by omega
 have hout : ∀ W3 : World,W3.heap = ((W1.setRow N C1.toArray).setRow N C2.toArray).heap → W3.ownsRow base 29 3 (.slice (some ⟨N,0,none⟩) (n + 1) G) (n + 1) (inner.take (i * 3) ++ (cs ++ inner.drop (i * 3))) := fun W3 hW3 => by
  have e : (n + 1) * 3 = n * 3 + 3 := by omega
  rw [← hlaw]
  refine ⟨?_,.inr ⟨N,G,C2.toArray,rfl,by omega,by rw [hW3];exact setRow_heap _ N _ _ _ _ hN2,by omega,hGm,?_,?_⟩⟩
  ·rw [xT,hC2l,hRl];omega
  ·rw [List.size_toArray,hC2l,hRl]
  ·rw [e]
 have hgr : ∀ W3 : World,W3.heap = ((W1.setRow N C1.toArray).setRow N C2.toArray).heap → W3.os = W.os → W3.tape = W.tape → W3.output = W.output → W.grownBy W3 (some b) := fun W3 hW3 h1_ h2_ h3_ => by
  refine ⟨h1_,h2_,h3_,?_,fun k hk _ => ?_⟩
  ·rw [hW3];simp only [World.setRow,Array.size_modify];rw [hW1];exact (lA (Below.refl W.drew.heap.size W.drew) _).size
  ·rw [hW3,setRow_other _ _ _ _ (show k ≠ N by omega),setRow_other _ _ _ _ (show k ≠ N by omega)]
   exact hold1 k (by omega)
 have HO := aM hout
 have HG := aM hgr
 subst hNd
 subst hW1
 have hcpA' := hcpA (W.alloc (.cells R.toArray 29)).drew (by rfl)
 have hcpB' := hcpB ((W.alloc (.cells R.toArray 29)).drew.setRow W.heap.size C1.toArray).drew (by rfl)
 clear hout hgr hC1 hC2 hC1l hC2l hlaw hRl hdl hN1 hN2 hold1 hZl hZ hZ2 hR hG hold hkk hik hvcell hbcell hcur hsz hv hvz hvcs h1 h1' hcs3 hil
 go_enter Tryd.func23,Tryd.ntmps23
 go_wp2_with (at_builtin;refine Lib.wpList_append_run _ rfl _ _ _ _ rfl _ _ rfl rfl _ _ (hrz _) ?_)
 go_region_law_o (refine step_copy_runI rfl _ _ 24 24 rfl (.slice (some ⟨N,(i + 1) * 3,none⟩) (n - i) (G - (i + 1))) (.slice (some ⟨b,i * 3,none⟩) (n - i) (c - i)) (by simp [Act.eval,Act.put]) (by simp [Act.eval,Act.put]) (hcpB' 3 (G - (i + 1)) (c - i)) ?_)
 go_wp2
 go_ret
 exact ⟨_,rfl,HO.out _ rfl,HG.out _ rfl rfl rfl rfl,rfl⟩
def impl_Term.f (l0 : List S29) (a1 : Int) (l2 : List S29) : Option (List S29) := if 0 ≤ a1 ∧ a1 ≤ (l0.length : Int) ∧ l2.length = 1 ∧ (l0.length + 1) * 48 ≤ 140737488355328 then some (l0.take a1.toNat ++ (l2 ++ l0.drop a1.toNat)) else none
set_option maxHeartbeats 4000000 in
set_option maxRecDepth 100000 in
theorem impl_Term.calls (P0_ : Nat → Prop) (u9000_ : Value) (l0 : List S29) (a1 : Int) (P2_ : Nat → Prop) (u9001_ : Value) (l2 : List S29) (r0 : List S29) (w0 w : World) (hB : Below w0.heap.size w0 w) (ho0 : Kd.R k29 29 w w0.heap.size P0_ u9000_ l0) (hp0_2 : ∀ k_,P0_ k_ → ¬ P2_ k_) (ho2 : Kd.R k29 29 w w0.heap.size P2_ u9001_ l2) (hp2_0 : ∀ k_,P2_ k_ → ¬ P0_ k_) (h : impl_Term.f l0 a1 l2 = some r0) :
  Calls Tryd.prog 23 #[u9000_,.int .i64 a1,u9001_] w fun e w' => ∃ v0_ : Value,e = .returned (v0_) ∧ Kd.R k29 29 w' w0.heap.size (fun k_ => ((P0_ k_ ∨ P2_ k_) ∨ w.heap.size ≤ k_)) v0_ r0 ∧ Below w0.heap.size w0 w' ∧ Kept w w' (fun k_ => P0_ k_ ∨ P2_ k_) := by
 unfold impl_Term.f at h
 by_cases hc : 0 ≤ a1 ∧ a1 ≤ (l0.length : Int) ∧ l2.length = 1 ∧ (l0.length + 1) * 48 ≤ 140737488355328
 ·rw [if_pos hc] at h
  obtain rfl := Option.some.inj h
  clear h
  obtain ⟨hc1,hc2,hc3,hc4⟩ := hc
  obtain ⟨i,rfl⟩ : ∃ i : Nat,a1 = (i : Int) := ⟨a1.toNat,by omega⟩
  rw [Int.toNat_natCast]
  have hin : i ≤ l0.length := by omega
  obtain ⟨t,rfl⟩ : ∃ t,l2 = [t] := List.length_eq_one_iff.1 hc3
  obtain ⟨h0,inner,hown,hr⟩ := ho0
  obtain ⟨h2,innerv,hownv,hrv⟩ := ho2
  have hdsz : (k29).sz = 3 := rfl
  have hr' := hrv.2 0 t rfl
  have hvl := hrv.1
  have hone : ∀ u ∈ innerv,u.oneCell' = true := fun u hu => by
   have hz : (innerv.drop (0 * (k29).sz)).take (k29).sz = innerv := by
    rw [Nat.zero_mul,List.drop_zero]
    exact List.take_of_length_le (by rw [hvl,List.length_singleton,Nat.one_mul];exact Nat.le_refl _)
   have := Kd.K_one _ (Kd.K_of_M _ hr')
   rw [hz] at this
   exact this u hu
  have hcsl : (innerv.drop (0 * (k29).sz)).take (k29).sz = innerv := by
   rw [Nat.zero_mul,List.drop_zero]
   exact List.take_of_length_le (by rw [hvl,List.length_singleton,Nat.one_mul];exact Nat.le_refl _)
  rw [hcsl] at hr'
  have hone' : ∀ u ∈ inner,u.oneCell' = true := fun u hu => impl_Term_ones hr (fun h => Kd.K_one _ (Kd.K_of_M _ h)) (by rw [hdsz];decide) u hu
  have hfin : ∀ (w' : World) (v1 : Value),w'.ownsRow w0.heap.size 29 3 v1 (l0.length + 1) (inner.take (i * 3) ++ (innerv ++ inner.drop (i * 3))) → w.grownBy w' u9000_.ownBlock → (v1.ownBlock = u9000_.ownBlock ∨ ∃ b,v1.ownBlock = some b ∧ w.heap.size ≤ b) →
    Kd.R k29 29 w' w0.heap.size (fun k_ => ((P0_ k_ ∨ P2_ k_) ∨ w.heap.size ≤ k_)) v1 (l0.take i ++ ([t] ++ l0.drop i)) ∧ Below w0.heap.size w0 w' ∧ Kept w w' (fun k_ => P0_ k_ ∨ P2_ k_) := fun w' v1 ho hg hat => by
   refine ⟨?_,?_,?_⟩
   ·refine impl_Term_inserted (d := k29) (W := w) (v := u9000_) (okp := fun k => P2_ k ∧ some k ≠ u9001_.ownBlock) hin (fun k hk => .inl (.inl (h0 k hk))) (hr.imp_ (fun _ _ hq => Kd.M_mono _ (fun k hk => ⟨.inl (.inl hk.1),hk.2⟩) hq)) hr' (fun k hk => ⟨.inl (.inr hk.1),fun e => hp0_2 k (h0 k e.symm) hk.1⟩) (fun k hk => .inr hk) ho hg hat
   ·exact hB.grown hg hB.size (fun k hk => own_base hown k hk)
   ·exact Kept.of_grown hg (Kept.refl w _) (fun k hk => .inl (.inl (h0 k hk)))
  rcases hownv.2 with ⟨_,hbad⟩|⟨vb,vc,curv,rfl,hvbb,hv,hvn,hvm,hvz,hvcs⟩
  ·cases hbad
  have hvcs' : curv.toList.take 3 = innerv := hvcs
  have hcs3 : innerv.length = 3 := by rw [hvl,hdsz];rfl
  have hvb2 : P2_ vb := h2 vb rfl
  by_cases he : i = l0.length
  ·subst he
   rcases hown.2 with ⟨rfl,hn0⟩|⟨b,c,cur,rfl,hbb,hb,hn,hm,hsz,hcur⟩
   ·obtain rfl : l0 = [] := List.length_eq_zero_iff.1 hn0
    have hown0 : w.ownsRow w0.heap.size 29 3 (.slice none 0 0) 0 inner := hown
    refine (impl_Term_end w0.heap.size 0 0 none inner innerv w (Nat.le_refl _) (Nat.zero_le _) hown0 vb vc ?_ hcs3 hone hc4 hB.size).mono ?_
    ·intro j u hj
     rw [← hvcs',List.getElem?_take] at hj
     split at hj
     ·simpa [World.cell?,hv] using hj
     ·cases hj
    ·rintro e w' ⟨v1,rfl,ho,hg,hat⟩
     have hil : inner = [] := by simpa using hr.1
     subst hil
     exact ⟨v1,rfl,hfin w' v1 (by simpa using ho) hg hat⟩
   ·refine (impl_Term_end w0.heap.size l0.length c (some ⟨b,0,none⟩) inner innerv w hn hm hown vb vc ?_ hcs3 hone hc4 hB.size).mono ?_
    ·intro j u hj
     rw [← hvcs',List.getElem?_take] at hj
     split at hj
     ·simpa [World.cell?,hv] using hj
     ·cases hj
    ·rintro e w' ⟨v1,rfl,ho,hg,hat⟩
     have hil : inner.length = l0.length * 3 := hr.1
     refine ⟨v1,rfl,hfin w' v1 ?_ hg hat⟩
     rw [List.take_of_length_le (by omega),List.drop_eq_nil_of_le (by omega),List.append_nil]
     exact ho
  ·have hlt : i < l0.length := by omega
   rcases hown.2 with ⟨rfl,hn0⟩|⟨b,c,cur,rfl,hbb,hb,hn,hm,hsz,hcur⟩
   ·omega
   have hvb : vb ≠ b := fun e => hp0_2 b (h0 b rfl) (e ▸ hvb2)
   by_cases hroom : l0.length + 1 ≤ c
   ·refine (impl_Term_shift w0.heap.size l0.length c i b inner innerv cur w hlt hroom hm hb hbb hsz hcur vb vc hvb curv hvn hvz hv hvcs' hone hone').mono ?_
    rintro e w' ⟨v1,rfl,ho,hg,hat⟩
    exact ⟨v1,rfl,hfin w' v1 ho hg (.inl hat)⟩
   ·refine (impl_Term_grow w0.heap.size l0.length c i b inner innerv cur w hlt hn (by omega) hc4 hb hbb hsz hcur vb vc hvb curv hvn hvz hv hvcs' hone hone').mono ?_
    rintro e w' ⟨v1,rfl,ho,hg,hat⟩
    exact ⟨v1,rfl,hfin w' v1 ho hg (.inr ⟨_,hat,Nat.le_refl _⟩)⟩
 ·rw [if_neg hc] at h
  cases h
end Go.Proofs.YtleckcbiifhanaaDoor.P
