/- Walks: each Go function computes the Lean function beside it; conditions: those of each theorem. -/
import Derived.Test.YtmafmhgmdegplaaGreatDoorZPx0
import Derived.Test.YtmafmhgmdegplaaGreatDoorZPx4
import Derived.Test.YtmafmhgmdegplaaGreatDoorZPx6
namespace Go.Proofs.YtmafmhgmdegplaaGreatDoor.P
open Go.RowKit Go.Proofs.YtmafmhgmdegplaaGreatDoorW.PrintWords Go.Proofs.YtmafmhgmdegplaaGreatDoorW.PrintLast Go.Proofs.YtmafmhgmdegplaaGreatDoorW.PrintMore
set_option maxHeartbeats 8000000
set_option maxRecDepth 100000
attribute [local go_sem] max2_int min2_int max_two min_two max_three min_three max_four min_four   -- for this text's walks alone
set_option linter.unusedVariables false
set_option linter.unusedSimpArgs false
mutual
def Fal.l0 : Nat → ByteArray → List ByteArray → List Int → Int → Option (List ByteArray)
 | 0,_,_,_,_ => none
 | k + 1,x0,x3,x4,x5 => if x5 ≤ (x0.size : Int) then (if x5 = (x0.size : Int) then (Fal.j1 k x0 x3 x4 x5 true) else (if 0 ≤ x5 then (if x5 < (x0.size : Int) then (Fal.j1 k x0 x3 x4 x5 ((bt x0 x5) == 32)) else (none)) else (none))) else (some x3)
def Fal.j1 : Nat → ByteArray → List ByteArray → List Int → Int → Bool → Option (List ByteArray)
 | 0,_,_,_,_,_ => none
 | k + 1,x0,x3,x4,x5,ae => if ae = true then (if (x4.length : Int) > 0 then (if x3.length < 8796093022208 then (Fal.l0 k x0 (x3 ++ [strOfNums x4]) (([] : List Int)) (wrap64 (x5 + 1))) else (none)) else (Fal.l0 k x0 x3 (([] : List Int)) (wrap64 (x5 + 1)))) else (if 0 ≤ x5 then (if x5 < (x0.size : Int) then ((Fce.f (bt x0 x5)).bind fun aa => (if aa = true then ((FbV.f (bt x0 x5)).bind fun ab => (if x4.length < 140737488355328 then (Fal.l0 k x0 x3 (x4 ++ [ab]) (wrap64 (x5 + 1))) else (none))) else ((FbT.f (bt x0 x5)).bind fun ac => (if ac = true then ((FbV.f (bt x0 x5)).bind fun ad => (if x4.length < 140737488355328 then (Fal.l0 k x0 x3 (x4 ++ [ad]) (wrap64 (x5 + 1))) else (none))) else (Fal.l0 k x0 x3 x4 (wrap64 (x5 + 1))))))) else (none)) else (none))
end
def Fal.f (k : Nat) (a0 : ByteArray) : Option (List ByteArray) := Fal.l0 k a0 (([] : List ByteArray)) (([] : List Int)) 0
theorem Fal.mono_l : ∀ k,(∀ y0 y1 y2 y3,LeO (Fal.l0 k y0 y1 y2 y3) (Fal.l0 (k + 1) y0 y1 y2 y3)) ∧ (∀ y0 y1 y2 y3 y4,LeO (Fal.j1 k y0 y1 y2 y3 y4) (Fal.j1 (k + 1) y0 y1 y2 y3 y4))
 | 0 => ⟨fun _ _ _ _ r h => by simp [Fal.l0] at h,fun _ _ _ _ _ r h => by simp [Fal.j1] at h⟩
 | k + 1 => by
  obtain ⟨ih0,ih1⟩ := Fal.mono_l k
  refine ⟨?_,?_⟩
  all_goals (intros;first|unfold Fal.l0|unfold Fal.j1)
  all_goals repeat' (first|with_reducible (first|exact ih0 _ _ _ _|exact ih1 _ _ _ _ _|exact LeO.refl _|exact LeO.none _|refine LeO.ite ?_ ?_|refine LeO.bind ?_ (fun _ => ?_))|exact LeO.none _|refine LeO.ite ?_ ?_|refine LeO.bind ?_ (fun _ => ?_))
theorem Fal.mono : ∀ a0 k,LeO (Fal.f k a0) (Fal.f (k + 1) a0) := by
 intro a0 k
 obtain ⟨ih0,ih1⟩ := Fal.mono_l k
 unfold Fal.f
 repeat' (first|with_reducible (first|exact ih0 _ _ _ _|exact ih1 _ _ _ _ _|exact LeO.refl _|exact LeO.none _|refine LeO.ite ?_ ?_|refine LeO.bind ?_ (fun _ => ?_))|exact LeO.none _|refine LeO.ite ?_ ?_|refine LeO.bind ?_ (fun _ => ?_))
theorem Fal.calls (k : Nat) (a0 : ByteArray) (r : List ByteArray) (w : World) (h : Fal.f k a0 = some r) :
  Calls Tryz.prog 145 #[.string a0] w fun e w' => ∃ v0_ : Value,e = .returned (v0_) ∧ Kd.R Kd.string 9 w' w.heap.size (fun _ => True) v0_ r ∧ Below w.heap.size w w' := by
 have HB := aM (Below.refl w.heap.size w);have H : (Fal.l0 k a0 (([] : List ByteArray)) (([] : List Int)) 0) = some r := h;clear h;obtain ⟨aA,ai⟩ : ∃ y_ : List ByteArray,y_ = (([] : List ByteArray)) := ⟨_,rfl⟩;replace H : (Fal.l0 k a0 aA (([] : List Int)) 0) = some r := (yH_ ai H);have av := aM ai;clear ai;obtain ⟨aN,aj⟩ : ∃ y_ : List Int,y_ = (([] : List Int)) := ⟨_,rfl⟩;replace H : (Fal.l0 k a0 aA aN 0) = some r := (yH_ aj H);have aw := aM aj;clear aj;have H' := aM H;clear H;go_enter Tryz.func145,Tryz.ntmps145;go_wp2_with (first|((with_reducible refine gate_dst (N := 6) rfl ?_);refine Kd.R_lit Kd.string _ 9 ?hg (N := 6) ?hd (xs := ([] : List ByteArray)) (inner := []) (ok := fun _ => True) (okp := fun _ => True) ?hr ?hp (fun _ hk => hk) trivial (Below.refl _ _) (Nat.le_refl _) (by simp) ?_;(case hd => rfl);(case hg => rfl);(case hr => first|(go_simp;done)|(go_simp;rfl));(case hp => exact (Reps.none _ _));intro v193 w2 aQ hb hg_ hnew_;clear hg_ hnew_;(first|rw [← av.out] at aQ|(simp only [Int.reduceToNat] at aQ;rw [← av.out] at aQ));have ak := aM (Kd.R_lower aQ (lZ wB_));replace HB := aM (lT wB_ hb);clear hb aQ)|((with_reducible refine gate_dst (N := 7) rfl ?_);refine Kd.R_lit (Kd.int .u8) _ 5 ?hg (N := 7) ?hd (xs := ([] : List Int)) (inner := []) (ok := fun _ => True) (okp := fun _ => True) ?hr ?hp (fun _ hk => hk) trivial (Below.refl _ _) (Nat.le_refl _) (by simp) ?_;(case hd => rfl);(case hg => rfl);(case hr => first|(go_simp;done)|(go_simp;rfl));(case hp => exact (Reps.none _ _));intro v196 w4 aR hb hg_ hnew_;clear hg_ hnew_;(first|rw [← aw.out] at aR|(simp only [Int.reduceToNat] at aR;rw [← aw.out] at aR));have aT := aM (Kd.R_lower aR (lZ wB_));replace ak := aM (rB (wO_ ak.out) hb);replace HB := aM (lT wB_ hb);clear hb aR));go_loopg [3,4,5] k (fun kq v3 v4 v5 w' => ∃ (ae : List ByteArray) (ac : List Int) (aa : Int),v5 = .int .i64 aa ∧ Aside0 (Fal.l0 kq a0 ae ac aa = some r) ∧ Aside0 (kq ≤ k) ∧ Aside0 (Kd.R Kd.string 9 w' w.heap.size (fun _ => True) v3 ae) ∧ Aside0 (Kd.R (Kd.int .u8) 5 w' w.heap.size (fun _ => True) v4 ac) ∧ Aside0 (Below w.heap.size w w'))
 case atStart => exact ⟨(aA),(aN),(0),vR_,H',⟨Nat.le_refl _⟩,⟨wO_ ak.out⟩,⟨wO_ aT.out⟩,⟨wB_⟩⟩
 case round =>
  clear H';obtain ⟨ae,ac,aa,rfl,HA,ax,ad,ab,HB⟩ := hrel
  cases gk with
  | zero => exact absurd HA.out (by simp [Fal.l0])
  | succ k1 =>
   have H := HA.out;clear HA;simp only [Fal.l0] at H
   by_cases c6 : aa ≤ (a0.size : Int)
   ·rw [if_pos c6] at H;have bj := dT c6;clear c6;have bk := aM H;clear H;go_upto_region 6 with (fail);go_cut [23] (fun bs wc => ∃ (kq : Nat) (af : Bool),bs = .bool af ∧ Aside0 (Fal.j1 kq a0 ae ac aa af = some r) ∧ Aside0 (kq ≤ k1) ∧ Aside0 (Kd.R Kd.string 9 wc w.heap.size (fun _ => True) u3 ae) ∧ Aside0 (Kd.R (Kd.int .u8) 5 wc w.heap.size (fun _ => True) u4 ac) ∧ Aside0 (Below w.heap.size w wc))
    case first =>
     have H := bk.out;clear bk
     by_cases c8 : aa = (a0.size : Int)
     ·rw [if_pos c8] at H;have al := qE.mpr c8;have bl := qN.mpr c8;clear c8;(first|rw [al]|(simp only [i64_w,i32_w];rw [al])|skip);have H' := aM H;clear H;go_wp2;go_meet
      case rel => exact ⟨_,(true),vR_,H',⟨by have := ax.out;first|omega|exact Nat.le_refl _⟩,⟨wO_ ad.out⟩,⟨wO_ ab.out⟩,⟨wB_⟩⟩
     ·rw [if_neg c8] at H;have al := qF.mpr c8;have bl := qB.mpr c8;(first|rw [al]|(simp only [i64_w,i32_w];rw [al])|skip)
      by_cases c9 : 0 ≤ aa
      ·rw [if_pos c9] at H;have c9b0 := dT c9;clear c9
       by_cases c10 : aa < (a0.size : Int)
       ·rw [if_pos c10] at H;have c10b0 := dT c10;clear c10;have H' := aM H;clear H;have bq : 0 ≤ (aa : Int) := oD (by assumption);have br : aa < (a0.size : Int) := oD (by assumption);have hx11 := bt_at a0 aa;replace bq := eq_true bq;replace br := eq_true br;go_wp2;go_meet
        case rel => exact ⟨_,(((bt a0 aa) == 32)),vR_,H',⟨by have := ax.out;first|omega|exact Nat.le_refl _⟩,⟨wO_ ad.out⟩,⟨wO_ ab.out⟩,⟨wB_⟩⟩
       ·rw [if_neg c10] at H;exact nH_ H
      ·rw [if_neg c9] at H;exact nH_ H
    case rest =>
     clear bk;obtain ⟨kq,af,rfl,HA,aH,ad,ab,HB⟩ := hcut
     cases kq with
     | zero => exact absurd HA.out (by simp [Fal.j1])
     | succ aJ =>
      have H := HA.out;clear HA;simp only [Fal.j1] at H
      by_cases c12 : af = true
      focus
       subst c12;rw [if_pos rfl] at H
       by_cases aK : (ac.length : Int) > 0
       focus
        rw [if_pos aK] at H;have aU : decide (0 < (ac.length : Int)) = true := dT aK;have aV : decide (0 < ac.length) = true := dT (by omega);clear aK
        by_cases bc : ae.length < 8796093022208
        rotate_left;rw [if_neg bc] at H;exact nH_ H;rw [if_pos bc] at H;have aW := aM bc;clear bc;obtain ⟨aC,am⟩ : ∃ y_ : List ByteArray,y_ = (ae ++ [strOfNums ac]) := ⟨_,rfl⟩;replace H : (Fal.l0 aJ a0 aC (([] : List Int)) (wrap64 (aa + 1))) = some r := (yH_ am H);have aX := aM am;clear am;obtain ⟨aY,an⟩ : ∃ y_ : List Int,y_ = (([] : List Int)) := ⟨_,rfl⟩;replace H : (Fal.l0 aJ a0 aC aY (wrap64 (aa + 1))) = some r := (yH_ an H);have ay := aM an;clear an;have H' := aM H;clear H;obtain ⟨bm,bn,aD⟩ := Kd.R_slice ab.out;subst aD;have hcv16 := own_string (P := Tryz.prog) Tryz.underlying63 Tryz.underlying5 Tryz.underlying9 (Kd.own_of_R ab.out)
       rotate_left
       focus
        rw [if_neg aK] at H;have aU : decide (0 < (ac.length : Int)) = false := dF aK;have aV : decide (0 < ac.length) = false := dF (by omega);clear aK;obtain ⟨aZ,ao⟩ : ∃ y_ : List Int,y_ = (([] : List Int)) := ⟨_,rfl⟩;replace H : (Fal.l0 aJ a0 ae aZ (wrap64 (aa + 1))) = some r := (yH_ ao H);have az := aM ao;clear ao;have H' := aM H;clear H;obtain ⟨bm,bn,aD⟩ := Kd.R_slice ab.out;subst aD
      rotate_left 2
      focus
       replace c12 := qO.mpr c12;subst c12;rw [if_neg qT] at H
       by_cases bd : 0 ≤ aa
       rotate_left;rw [if_neg bd] at H;exact nH_ H;rw [if_pos bd] at H;have c23b0 := dT bd;clear bd
       by_cases be : aa < (a0.size : Int)
       rotate_left;rw [if_neg be] at H;exact nH_ H;rw [if_pos be] at H;have c24b0 := dT be;clear be;obtain ⟨bo,bu,H⟩ := bE_ H
       by_cases bf : bo = true
       focus
        subst bf;rw [if_pos rfl] at H;obtain ⟨aE,bv,H⟩ := bE_ H
        by_cases bg : ac.length < 140737488355328
        rotate_left;rw [if_neg bg] at H;exact nH_ H;rw [if_pos bg] at H;have a1 := aM bg;clear bg;obtain ⟨a2,ap⟩ : ∃ y_ : List Int,y_ = (ac ++ [aE]) := ⟨_,rfl⟩;replace H : (Fal.l0 aJ a0 ae a2 (wrap64 (aa + 1))) = some r := (yH_ ap H);have a3 := aM ap;clear ap;have H' := aM H;clear H
       rotate_left
       focus
        replace bf := qO.mpr bf;subst bf;rw [if_neg qT] at H;obtain ⟨bp,bw,H⟩ := bE_ H
        by_cases bh : bp = true
        focus
         subst bh;rw [if_pos rfl] at H;obtain ⟨aG,bz,H⟩ := bE_ H
         by_cases bi : ac.length < 140737488355328
         rotate_left;rw [if_neg bi] at H;exact nH_ H;rw [if_pos bi] at H;have a4 := aM bi;clear bi;obtain ⟨a5,ar⟩ : ∃ y_ : List Int,y_ = (ac ++ [aG]) := ⟨_,rfl⟩;replace H : (Fal.l0 aJ a0 ae a5 (wrap64 (aa + 1))) = some r := (yH_ ar H);have a6 := aM ar;clear ar;have H' := aM H;clear H
        rotate_left
        focus
         replace bh := qO.mpr bh;subst bh;rw [if_neg qT] at H;have H' := aM H;clear H
      all_goals
       (try (have p01 : 0 ≤ (aa : Int) := oD (by assumption);have q01 : aa < (a0.size : Int) := oD (by assumption);have a7 := bt_at a0 aa;replace p01 := eq_true p01;replace q01 := eq_true q01));go_wp2_with (first|((with_reducible refine gate_callee (f := 183) rfl ?_);refine gl_ (some 36) Tryz.func183 #[.int .u8 (bt a0 aa)] ?_;(with_reducible refine (Fce.calls _ _ _ bu.out).mono ?_);rintro e w' ⟨rfl,⟨nd,rfl⟩⟩;refine ⟨_,rfl,?_⟩;have p01 : 0 ≤ (aa : Int) := oD (by assumption);have q01 : aa < (a0.size : Int) := oD (by assumption);have a7 := bt_at a0 aa;replace p01 := eq_true p01;replace q01 := eq_true q01)|(go_at_call 176;(with_reducible refine (FbT.calls _ _ _ bw.out).mono ?_);rintro e w' ⟨rfl,⟨nd,rfl⟩⟩;(try (have p01 : 0 ≤ (aa : Int) := oD (by assumption);have q01 : aa < (a0.size : Int) := oD (by assumption);have a7 := bt_at a0 aa;replace p01 := eq_true p01;replace q01 := eq_true q01)))|((with_reducible refine gate_callee (f := 184) rfl ?_);refine gl_ (some 47) Tryz.func184 #[.int .u8 (bt a0 aa)] ?_;(with_reducible refine (FbV.calls _ _ _ bz.out).mono ?_);rintro e w' ⟨rfl,⟨nd,rfl⟩⟩;refine ⟨_,rfl,?_⟩)|((with_reducible refine gate_builtin (b := .append) (xs := #[.tmp 43,.tmp 48]) rfl ?_);at_builtin;refine Kd.R_append (Kd.int .u8) (w0 := w) w.heap.size rfl (.tmp 43) (.tmp 48) 63 5 (.int .u8 0) 1 rfl Tryz.underlying63 info5 rfl (by decide) (by omega) u4 ac aG [.int .u8 aG] (fun _ => True) (fun _ => False) rfl rfl ?aP (fun _ hk => hk.elim) ?aF ?aO ?aB ?aS ?aL ?_;(case aP => exact rfl);(case aB => exact wB_);(case aF => exact (fun _ _ => trivial));(case aO => exact (wO_ ab.out));(case aS => exact (lZ wB_));(case aL => have := a4.out;omega);intro v215 w38 ho hb hg hat;rw [← a6.out] at ho;have n0_ := aM (Kd.R_over' (wO_ ad.out) (Kd.R_typed (wO_ ab.out)) (by decide) hg);have n1_ := aM (hb);have n2_ := aM (ho);clear ad;clear HB;clear ab;have ad := n0_;have HB := n1_;have a8 := n2_;clear n0_ n1_ n2_;clear ho hb hg hat)|((with_reducible refine gate_callee (f := 184) rfl ?_);refine gl_ (some 47) Tryz.func184 #[.int .u8 (bt a0 aa)] ?_;(with_reducible refine (FbV.calls _ _ _ bv.out).mono ?_);rintro e w' ⟨rfl,⟨nd,rfl⟩⟩;refine ⟨_,rfl,?_⟩)|((with_reducible refine gate_builtin (b := .append) (xs := #[.tmp 43,.tmp 48]) rfl ?_);at_builtin;refine Kd.R_append (Kd.int .u8) (w0 := w) w.heap.size rfl (.tmp 43) (.tmp 48) 63 5 (.int .u8 0) 1 rfl Tryz.underlying63 info5 rfl (by decide) (by omega) u4 ac aE [.int .u8 aE] (fun _ => True) (fun _ => False) rfl rfl ?aP (fun _ hk => hk.elim) ?aF ?aO ?aB ?aS ?aL ?_;(case aP => exact rfl);(case aB => exact wB_);(case aF => exact (fun _ _ => trivial));(case aO => exact (wO_ ab.out));(case aS => exact (lZ wB_));(case aL => have := a1.out;omega);intro v210 w31 ho hb hg hat;rw [← a3.out] at ho;have n0_ := aM (Kd.R_over' (wO_ ad.out) (Kd.R_typed (wO_ ab.out)) (by decide) hg);have n1_ := aM (hb);have n2_ := aM (ho);clear ad;clear HB;clear ab;have ad := n0_;have HB := n1_;have a9 := n2_;clear n0_ n1_ n2_;clear ho hb hg hat)|((with_reducible refine gate_dst (N := 32) rfl ?_);refine Kd.R_lit (Kd.int .u8) _ 5 ?hg (N := 32) ?hd (xs := ([] : List Int)) (inner := []) (ok := fun _ => True) (okp := fun _ => True) ?hr ?hp (fun _ hk => hk) trivial (Below.refl _ _) (Nat.le_refl _) (by simp) ?_;(case hd => rfl);(case hg => rfl);(case hr => first|(go_simp;done)|(go_simp;rfl));(case hp => exact (Reps.none _ _));intro v205 w21 ag hb hg_ hnew_;clear hg_ hnew_;(first|rw [← az.out] at ag|(simp only [Int.reduceToNat] at ag;rw [← az.out] at ag));have ba := aM (Kd.R_lower (Kd.R_new' ag (Kd.R_lt (wO_ ab.out))) (lZ wB_));replace ad := aM (rB (wO_ ad.out) hb);replace ab := aM (Kd.R_elder' (wO_ ab.out) (Kd.R_base ag) hb);replace HB := aM (lT wB_ hb);clear hb ag)|((with_reducible refine gate_builtin (b := .append) (xs := #[.tmp 27,.tmp 30]) rfl ?_);at_builtin;refine Kd.R_append Kd.string (w0 := w) w.heap.size rfl (.tmp 27) (.tmp 30) 50 9 (.string ⟨#[]⟩) 16 rfl Tryz.underlying50 info9 rfl (by decide) (by omega) u3 ae (strOfNums ac) [.string (strOfNums ac)] (fun _ => True) (fun _ => False) rfl rfl ?aP (fun _ hk => hk.elim) ?aF ?aO ?aB ?aS ?aL ?_;(case aP => exact rfl);(case aB => exact wB_);(case aF => exact (fun _ _ => trivial));(case aO => exact (wO_ ad.out));(case aS => exact (lZ wB_));(case aL => have := aW.out;omega);intro v199 w17 ho hb hg hat;rw [← aX.out] at ho;have n0_ := aM (Kd.R_over' (wO_ ab.out) (Kd.R_typed (wO_ ad.out)) (by decide) hg);have n1_ := aM (hb);have n2_ := aM (ho);clear ab;clear HB;clear ad;have ab := n0_;have HB := n1_;have au := n2_;clear n0_ n1_ n2_;clear ho hb hg hat)|((with_reducible refine gate_dst (N := 32) rfl ?_);refine Kd.R_lit (Kd.int .u8) _ 5 ?hg (N := 32) ?hd (xs := ([] : List Int)) (inner := []) (ok := fun _ => True) (okp := fun _ => True) ?hr ?hp (fun _ hk => hk) trivial (Below.refl _ _) (Nat.le_refl _) (by simp) ?_;(case hd => rfl);(case hg => rfl);(case hr => first|(go_simp;done)|(go_simp;rfl));(case hp => exact (Reps.none _ _));intro v202 w18 ah hb hg_ hnew_;clear hg_ hnew_;(first|rw [← ay.out] at ah|(simp only [Int.reduceToNat] at ah;rw [← ay.out] at ah));have bb := aM (Kd.R_lower (Kd.R_new' ah (Kd.R_lt (wO_ ab.out))) (lZ wB_));replace ab := aM (Kd.R_elder' (wO_ ab.out) (Kd.R_base ah) hb);replace au := aM (rB (wO_ au.out) hb);replace HB := aM (lT wB_ hb);clear hb ah));go_roundg aJ
       case measure => have := ax.out;have := aH.out;omega
       case rel => first|(exact ⟨(aC),(aY),(wrap64 (aa + 1)),vR_,H',⟨by have := ax.out;have := aH.out;omega⟩,⟨wO_ au.out⟩,⟨by (with_reducible repeat (first|apply rA|apply rN|apply rD));exact Kd.R_mono bb.out (fun _ hk => trivial)⟩,⟨wB_⟩⟩)|(exact ⟨(ae),(aZ),(wrap64 (aa + 1)),vR_,H',⟨by have := ax.out;have := aH.out;omega⟩,⟨wO_ ad.out⟩,⟨by (with_reducible repeat (first|apply rA|apply rN|apply rD));exact Kd.R_mono ba.out (fun _ hk => trivial)⟩,⟨wB_⟩⟩)|(exact ⟨(ae),(a2),(wrap64 (aa + 1)),vR_,H',⟨by have := ax.out;have := aH.out;omega⟩,⟨wO_ ad.out⟩,⟨wO_ a9.out⟩,⟨wB_⟩⟩)|(exact ⟨(ae),(a5),(wrap64 (aa + 1)),vR_,H',⟨by have := ax.out;have := aH.out;omega⟩,⟨wO_ ad.out⟩,⟨wO_ a8.out⟩,⟨wB_⟩⟩)|(exact ⟨(ae),(ac),(wrap64 (aa + 1)),vR_,H',⟨by have := ax.out;have := aH.out;omega⟩,⟨wO_ ad.out⟩,⟨wO_ ab.out⟩,⟨wB_⟩⟩)
   ·rw [if_neg c6] at H;have bj := dF c6;clear c6;obtain rfl := oI H;go_wp2;go_ret;exact ⟨_,vR_,wO_ ad.out,wB_⟩
mutual
def Fax.l0 : Nat → List ByteArray → List ByteArray → Int → ByteArray → Int → List (S157) → List (S157) → ByteArray → ByteArray → ByteArray → Int → Int → Int → Bool → Int → ByteArray → ByteArray → Option (List ByteArray)
 | 0,_,_,_,_,_,_,_,_,_,_,_,_,_,_,_,_,_ => none
 | k + 1,x7,x8,x9,aa,ab,ac,ad,ae,af,ag,ah,ai,aj,ak,al,am,an => if x9 < (x8.length : Int) then (if 0 ≤ x9 then ((Fax.f k aa ab ac ad ae af ag ah ai aj ak al am an (rdOf ByteArray.empty x8 x9)).bind fun ao => (if x7.length + ao.length < 8796093022208 then (Fax.l0 k (x7 ++ ao) x8 (wrap64 (x9 + 1)) aa ab ac ad ae af ag ah ai aj ak al am an) else (none))) else (none)) else (some x7)
def Fax.f : Nat → ByteArray → Int → List (S157) → List (S157) → ByteArray → ByteArray → ByteArray → Int → Int → Int → Bool → Int → ByteArray → ByteArray → ByteArray → Option (List ByteArray)
 | 0,_,_,_,_,_,_,_,_,_,_,_,_,_,_,_ => none
 | k + 1,ae,af,ag,ah,ai,aj,ak,al,am,an,aa,ab,ac,ad,a1 => if a1.toList = ([] : List UInt8) then ((FbL.f).bind fun ap => (Fax.l0 k (([] : List ByteArray)) ap 0 ae af ag ah ai aj ak al am an aa ab ac ad)) else ((FbN.f k ae af ag ah ai aj ak al am an aa ab ac ad a1).bind fun ao => ((Fal.f k ao.1).bind fun ar => (some ar)))
end
theorem Fax.mono_l : ∀ k,(∀ y0 y1 y2 y3 y4 y5 y6 y7 y8 y9 aa ab ac ad ae,LeO (Fax.f k y0 y1 y2 y3 y4 y5 y6 y7 y8 y9 aa ab ac ad ae) (Fax.f (k + 1) y0 y1 y2 y3 y4 y5 y6 y7 y8 y9 aa ab ac ad ae)) ∧ (∀ y0 y1 y2 y3 y4 y5 y6 y7 y8 y9 aa ab ac ad ae af ag,LeO (Fax.l0 k y0 y1 y2 y3 y4 y5 y6 y7 y8 y9 aa ab ac ad ae af ag) (Fax.l0 (k + 1) y0 y1 y2 y3 y4 y5 y6 y7 y8 y9 aa ab ac ad ae af ag))
 | 0 => ⟨fun _ _ _ _ _ _ _ _ _ _ _ _ _ _ _ r h => by simp [Fax.f] at h,fun _ _ _ _ _ _ _ _ _ _ _ _ _ _ _ _ _ r h => by simp [Fax.l0] at h⟩
 | k + 1 => by
  obtain ⟨ih0,ih1⟩ := Fax.mono_l k
  refine ⟨?_,?_⟩
  all_goals (intros;first|unfold Fax.f|unfold Fax.l0)
  all_goals repeat' (first|with_reducible (first|exact ih0 _ _ _ _ _ _ _ _ _ _ _ _ _ _ _|exact ih1 _ _ _ _ _ _ _ _ _ _ _ _ _ _ _ _ _|exact FbN.mono _ _ _ _ _ _ _ _ _ _ _ _ _ _ _ _|exact Fal.mono _ _|exact LeO.refl _|exact LeO.none _|refine LeO.ite ?_ ?_|refine LeO.bind ?_ (fun _ => ?_))|exact LeO.none _|refine LeO.ite ?_ ?_|refine LeO.bind ?_ (fun _ => ?_))
theorem Fax.mono : ∀ a0 a1 a2 a3 a4 a5 a6 a7 a8 a9 aa ab ac ad ae k,LeO (Fax.f k a0 a1 a2 a3 a4 a5 a6 a7 a8 a9 aa ab ac ad ae) (Fax.f (k + 1) a0 a1 a2 a3 a4 a5 a6 a7 a8 a9 aa ab ac ad ae) := by
 intro a0 a1 a2 a3 a4 a5 a6 a7 a8 a9 aa ab ac ad ae k;obtain ⟨ih0,ih1⟩ := Fax.mono_l k;exact ih0 a0 a1 a2 a3 a4 a5 a6 a7 a8 a9 aa ab ac ad ae
def Fax.T9 : Bool × List (List Nat × List Nat) := (true,[([],[]),([],[]),([],[]),([],[]),([2,3],[2,3]),([4],[4]),([1,5],[1,5]),([0,6,6],[0,6]),([7,7,0,1,2,3,4,5,6,7],[0,7])])
def Fax.B9 : List Nat := [0,0,0,0,12,28,62,127,255]
theorem Fax.tab9 : rtab .any (opsOf Tryz.f90 9) = Fax.T9 := by kernel_rfl
theorem Fax.bits9 : waitsOk Fax.T9.2 Fax.B9 = true := by kernel_rfl
theorem Fax.calls (k : Nat) : ∀ (ai : ByteArray) (aj : Int) (ay : Option Addr) (az : Nat) (ag : List (S157)) (aA : Option Addr) (aC : Nat) (ah : List (S157)) (ak : ByteArray) (al : ByteArray) (am : ByteArray) (an : Int) (ao : Int) (ap : Int) (ac : Bool) (ad : Int) (ae : ByteArray) (af : ByteArray) (a1 : ByteArray) (r : List ByteArray) (w : World) (aJ : Kd.C k157 w ay ag.length ag) (aK : ag.length ≤ az) (aN : Kd.C k157 w aA ah.length ah) (aP : ah.length ≤ aC) (h : Fax.f k ai aj ag ah ak al am an ao ap ac ad ae af a1 = some r),
  Calls Tryz.prog 90 #[.agg #[.string ai,.int .i64 aj,.slice ay ag.length az,.slice aA ah.length aC,.string ak,.string al,.string am,.int .i64 an,.int .i64 ao,.int .i64 ap,.bool ac,.int .i64 ad,.string ae,.string af],.string a1] w fun e w' => ∃ v0_ : Value,e = .returned (v0_) ∧ Kd.R Kd.string 9 w' w.heap.size (fun _ => True) v0_ r ∧ Below w.heap.size w w' := by
 induction k using Nat.strongRecOn with
 | _ k ih =>
 intro ai aj ay az ag aA aC ah ak al am an ao ap ac ad ae af a1 r w aJ aK aN aP h
 cases k with
 | zero => exact absurd h (by simp [Fax.f])
 | succ k =>
 simp only [Fax.f] at h;have hu41 := Tryz.underlying41;have aY := aM aJ;have aZ := aM aK;clear aJ aK;have a0 := aM aN;have a2 := aM aP;clear aN aP;have HB := aM (Below.refl w.heap.size w);have H : (if a1.toList = ([] : List UInt8) then ((FbL.f).bind fun ar => (Fax.l0 k (([] : List ByteArray)) ar 0 ai aj ag ah ak al am an ao ap ac ad ae af)) else ((FbN.f k ai aj ag ah ak al am an ao ap ac ad ae af a1).bind fun a7 => ((Fal.f k a7.1).bind fun aQ => (some aQ)))) = some r := h;clear h
 by_cases c3 : a1.toList = ([] : List UInt8)
 ·rw [if_pos c3] at H;have bo := qE.mpr c3;have bp := qN.mpr c3;clear c3;obtain ⟨a8,aT⟩ : ∃ y_ : List ByteArray,y_ = (([] : List ByteArray)) := ⟨_,rfl⟩;replace H : ((FbL.f).bind fun ar => (Fax.l0 k a8 ar 0 ai aj ag ah ak al am an ao ap ac ad ae af)) = some r := (yH_ aT H);have a3 := aM aT;clear aT;obtain ⟨ar,A4,H⟩ := bE_ H;have H' := aM H;clear H;go_enter Tryz.func90,Tryz.ntmps90;go_wp2_with (first|((with_reducible refine gate_dst (N := 2) rfl ?_);refine bx_ (N := 2) (cs := #[.string ai,.int .i64 aj,.slice ay ag.length az,.slice aA ah.length aC,.string ak,.string al,.string am,.int .i64 an,.int .i64 ao,.int .i64 ap,.bool ac,.int .i64 ad,.string ae,.string af]) (t := 41) ?_;intro ab hg w5 hbox hb;have aa := aM (hbox);have aU := aM ((by rw [hg];exact (lZ wB_) : w.heap.size ≤ ab));have a9 := aU;replace HB := aM (lT wB_ hb);clear hb hbox hg)|((with_reducible refine gate_dst (N := 20) rfl ?_);refine Kd.R_lit Kd.string _ 9 ?hg (N := 20) ?hd (xs := ([] : List ByteArray)) (inner := []) (ok := fun _ => True) (okp := fun _ => True) ?hr ?hp (fun _ hk => hk) trivial (Below.refl _ _) (Nat.le_refl _) (by simp) ?_;(case hd => rfl);(case hg => rfl);(case hr => first|(go_simp;done)|(go_simp;rfl));(case hp => exact (Reps.none _ _));intro v224 w6 ba hb hg_ hnew_;clear hg_ hnew_;(first|rw [← a3.out] at ba|(simp only [Int.reduceToNat] at ba;rw [← a3.out] at ba));have aD := aM (Kd.R_lower ba (lZ wB_));replace aa := aM (bw_ aa.out hb);replace HB := aM (lT wB_ hb);clear hb ba)|((with_reducible refine gate_callee (f := 146) rfl ?_);refine gl_ (some 21) Tryz.func146 #[] ?_;(with_reducible refine (FbL.calls  ar _ A4.out).mono ?_);rintro e w8 ⟨bb,rfl,a4,hb⟩;refine ⟨_,rfl,?_⟩;have bc := aM (Kd.R_lower (Kd.R_new' a4 (Kd.R_lt (wO_ aD.out))) (lZ wB_));replace aD := aM (Kd.R_elder' (wO_ aD.out) (Kd.R_base a4) hb);replace aa := aM (bw_ aa.out hb);replace HB := aM (lT wB_ hb)));go_loopg [7,9] k (fun kq v7 v9 w' => ∃ (aG : List ByteArray) (au : Int),v9 = .int .i64 au ∧ Aside0 (Fax.l0 kq aG ar au ai aj ag ah ak al am an ao ap ac ad ae af = some r) ∧ Aside0 (kq ≤ k) ∧ Aside0 (Kd.R Kd.string 9 w' w.heap.size (fun k_ => some k_ ≠ (bb : Value).ownBlock) v7 aG) ∧ Aside0 (Kd.R Kd.string 9 w' w.heap.size (fun k_ => some k_ ≠ (v7 : Value).ownBlock) bb ar) ∧ Aside0 (w'.heap[ab]? = some (.cells #[.string ai,.int .i64 aj,(.slice ay ag.length az),(.slice aA ah.length aC),.string ak,.string al,.string am,.int .i64 an,.int .i64 ao,.int .i64 ap,.bool ac,.int .i64 ad,.string ae,.string af] 41 (0,0))) ∧ Aside0 (Below w.heap.size w w'))
  case atStart => exact ⟨(a8),(0),vR_,H',⟨Nat.le_refl _⟩,⟨by (with_reducible repeat (first|apply rA|apply rN|apply rD));exact Kd.R_mono aD.out (fun _ hk => hk.2)⟩,⟨by (with_reducible repeat (first|apply rA|apply rN|apply rD));exact Kd.R_mono bc.out (fun _ hk => hk.2)⟩,⟨wC_ aa.out⟩,⟨wB_⟩⟩
  case round =>
   clear H';obtain ⟨aG,au,rfl,HA,bq,aw,av,aa,HB⟩ := hrel
   cases gk with
   | zero => exact absurd HA.out (by simp [Fax.l0])
   | succ k1 =>
    have H := HA.out;clear HA;simp only [Fax.l0] at H
    by_cases c9 : au < (ar.length : Int)
    ·rw [if_pos c9] at H;have br := dT c9;clear c9
     by_cases c10 : 0 ≤ au
     ·rw [if_pos c10] at H;have c10b0 := dT c10;clear c10;obtain ⟨aH,bH,H⟩ := bE_ H
      by_cases c12 : aG.length + aH.length < 8796093022208
      ·rw [if_pos c12] at H;have bd := aM c12;clear c12;obtain ⟨be,aV⟩ : ∃ y_ : List ByteArray,y_ = (aG ++ aH) := ⟨_,rfl⟩;replace H : (Fax.l0 k1 be ar (wrap64 (au + 1)) ai aj ag ah ak al am an ao ap ac ad ae af) = some r := (yH_ aV H);have bf := aM aV;clear aV;have H' := aM H;clear H;obtain ⟨Ao13,bg,bs⟩ := Kd.R_slice av.out;subst bs;(try go_wp2);replace aw := aM (rD aw.out);replace av := aM (rD av.out);replace aa := aM (bD aa.out);replace HB := aM (lD HB.out);have a5 : 0 ≤ (au : Int) := oD (by assumption);have a6 : au < (ar.length : Int) := oD (by assumption);obtain ⟨aW,bu,aE⟩ := Kd.at_string (rR av.out).2.2 au a5 a6;cases bu;replace a5 := eq_true a5;replace a6 := eq_true a6;refine start_ (n := 9) (S := fun w' => w'.cell? ⟨ab,0,none⟩ = some (.string ai) ∧ w'.cell? ⟨ab,1,none⟩ = some (.int .i64 aj) ∧ w'.cell? ⟨ab,2,none⟩ = some (.slice ay ag.length az) ∧ w'.cell? ⟨ab,3,none⟩ = some (.slice aA ah.length aC) ∧ w'.cell? ⟨ab,4,none⟩ = some (.string ak) ∧ w'.cell? ⟨ab,5,none⟩ = some (.string al) ∧ w'.cell? ⟨ab,6,none⟩ = some (.string am) ∧ w'.cell? ⟨ab,7,none⟩ = some (.int .i64 an) ∧ w'.cell? ⟨ab,8,none⟩ = some (.int .i64 ao) ∧ w'.cell? ⟨ab,9,none⟩ = some (.int .i64 ap) ∧ w'.cell? ⟨ab,10,none⟩ = some (.bool ac) ∧ w'.cell? ⟨ab,11,none⟩ = some (.int .i64 ad) ∧ w'.cell? ⟨ab,12,none⟩ = some (.string ae) ∧ w'.cell? ⟨ab,13,none⟩ = some (.string af) ∧ w'.cell? (aW.add (au).toNat) = some (.string (rdOf ByteArray.empty ar au))) (ds := [7]) (mk_ 9 0) (by kernel_rfl) rfl (by kernel_rfl) (ze14_ aa.out (aE)) (fun hHeld => ?_);refine with_tabW Fax.tab9 Fax.bits9 (fun HT_ HW_ => ?_);generalize wr.drew = w14 at aw av aa HB aE hHeld ⊢;refine pV_ (i := 0) (N := some 28) (mk_ 9 1) rfl rfl HT_.out ?_;refine pV_ (i := 2) (N := some 30) (mk_ 9 5) rfl rfl HT_.out ?_;refine pV_ (i := 3) (N := some 31) (mk_ 9 13) rfl rfl HT_.out ?_;refine pV_ (i := 4) (N := some 32) (mk_ 9 29) rfl rfl HT_.out ?_;refine tV_ (i := 1) (N := some 29) (mk_ 9 31) rfl rfl HT_.out HW_.out hHeld ?_;refine tV_ (i := 5) (N := some 33) (mk_ 9 63) rfl rfl HT_.out HW_.out hHeld ?_;refine one_ (i := 6) (N := some 34) (mk_ 9 127) rfl rfl (one_of HT_.out (by kernel_rfl)) (by decide) (fun K hK => ?_);refine gs_ Tryz.func90 #[.agg #[.string ai,.int .i64 aj,.slice ay ag.length az,.slice aA ah.length aC,.string ak,.string al,.string am,.int .i64 an,.int .i64 ao,.int .i64 ap,.bool ac,.int .i64 ad,.string ae,.string af],.string (rdOf ByteArray.empty ar au)] ?_;(with_reducible refine (ih k1 (by have := bq.out;omega) ai aj _ _ ag _ _ ah ak al am an ao ap ac ad ae af (rdOf ByteArray.empty ar au) aH _ ?side1 ?side2 ?side3 ?side4 bH.out).mono ?_);(case side1 => exact wX_ aY.out);(case side2 => exact aZ.out);(case side3 => exact wX_ a0.out);(case side4 => exact a2.out);rintro e w15 ⟨v231,rfl,a4,hb⟩;have bh := (hb.cell (wB _ _ (hHeld.2.2.2.2.2.2.2.2.2.2.2.2.2.2))).trans (hHeld.2.2.2.2.2.2.2.2.2.2.2.2.2.2);refine ⟨_,rfl,?_⟩;have ax := aM (Kd.R_lower (Kd.R_new' (Kd.R_new' a4 (Kd.R_lt (wO_ aw.out))) (Kd.R_lt (wO_ av.out))) (lZ wB_));replace aw := aM (Kd.R_elder' (wO_ aw.out) (Kd.R_base a4) hb);replace av := aM (Kd.R_elder' (wO_ av.out) (Kd.R_base a4) hb);replace aa := aM (bw_ aa.out hb);replace HB := aM (lT wB_ hb);obtain ⟨bi,bj,bk⟩ := Kd.R_slice ax.out;(first|subst bk|(injection bk with bz bI bB;have bJ := bz.symm;have bK := bB.symm;clear bz bI bB;subst bJ;subst bK));refine hK.out _ _ (ze14_ aa.out (bh)) (fun hHeld => ?_);clear hK K;refine norm_ (a' := ?_) ?_ ?_;rotate_left;show Act.put _ (some 34) _ = _;simp only [Act.put,lI,sZ,sS,i64_w,i32_w];rfl;refine last_ (i := 7) (N := some 35) (mk_ 9 255) rfl rfl (one_of HT_.out (by kernel_rfl)) (by decide) (fun K hK => ?_);refine Kd.R_append_rows_step Kd.string (w0 := w) w.heap.size (by rfl) (.tmp 28) (.tmp 34) 50 9 (.string ⟨#[]⟩) 16 rfl Tryz.underlying50 info9 rfl (by decide) (by omega) u7 aG aH _ _ _ (fun k_ => some k_ ≠ (.slice (some aW) ar.length bg : Value).ownBlock ∧ some k_ ≠ (.slice bi aH.length bj : Value).ownBlock) (fun _ => False) rfl rfl ?aO ?aR (fun _ _ h => h) (fun _ h => h.elim) ?aF ?aB ?aS ?aL ?_;(case aR => repeat (first|exact (rR ax.out).2.2|(with_reducible first|refine cA ?_ _|refine cN ?_ _|refine cD ?_)));(case aB => exact wB_);(case aF => exact (fun k_ hk => ⟨Kd.fresh' (Kd.R_lt (wO_ av.out)) k_ hk,Kd.fresh' (Kd.R_lt (wO_ ax.out)) k_ hk⟩));(case aO => exact (wO_ aw.out));(case aS => exact (lZ wB_));(case aL => have := bd.out;omega);intro v234 w16 ho hb hg hat;rw [← bf.out] at ho;have n0_ := aM (Kd.R_after (ok := (fun k_ => some k_ ≠ (.slice bi aH.length bj : Value).ownBlock)) (by (with_reducible repeat (first|apply rA|apply rN|apply rD));exact Kd.R_mono av.out (fun _ hk => ⟨hk.2,hk.1⟩)) hg hat);have n1_ := aM (bg_ aa.out hg (Kd.R_ne aw.out aa.out (by decide)));have n2_ := aM (Kd.R_after (ok := (fun k_ => some k_ ≠ (.slice (some aW) ar.length bg : Value).ownBlock)) (by (with_reducible repeat (first|apply rA|apply rN|apply rD));exact Kd.R_mono ax.out (fun _ hk => ⟨hk.2,hk.1.2⟩)) hg hat);have bE := aM (hb);have bG := aM (ho);clear av;clear aa;clear ax;clear HB;clear aw;have av := n0_;have aa := n1_;have ax := n2_;have HB := bE;have bl := bG;clear n0_ n1_ n2_ bE bG;clear ho hb hg hat;refine hK.out _ _ ?_;clear hK K;refine norm_ (a' := ?_) ?_ ?_;rotate_left;show Act.put _ (some 35) _ = _;simp only [Act.put,lI,sZ,sS,i64_w,i32_w];rfl;refine pV_ (i := 8) (N := some 7) (mk_ 9 511) rfl rfl HT_.out ?_;refine done_ (done_of HT_.out (by kernel_rfl)) ?_;(try go_wp2);go_roundg k1
       case measure => have := bq.out;omega
       case rel => exact ⟨(be),(wrap64 (au + 1)),vR_,H',⟨by have := bq.out;omega⟩,⟨by (with_reducible repeat (first|apply rA|apply rN|apply rD));exact Kd.R_mono bl.out (fun _ hk => hk.1)⟩,⟨by (with_reducible repeat (first|apply rA|apply rN|apply rD));exact Kd.R_mono av.out (fun _ hk => hk.2)⟩,⟨wC_ aa.out⟩,⟨wB_⟩⟩
      ·rw [if_neg c12] at H;exact nH_ H
     ·rw [if_neg c10] at H;exact nH_ H
    ·rw [if_neg c9] at H;have br := dF c9;clear c9;obtain rfl := oI H;obtain ⟨Ao18,co18,bv⟩ := Kd.R_slice av.out;subst bv;go_wp2;go_ret;exact ⟨_,vR_,by (with_reducible repeat (first|apply rA|apply rN|apply rD));exact Kd.R_mono aw.out (fun _ hk => trivial),wB_⟩
 ·rw [if_neg c3] at H;have bo := qF.mpr c3;have bp := qB.mpr c3;replace H := oB.mp H;obtain ⟨⟨aX,bw⟩,bm,H⟩ := H;replace H : ((Fal.f k aX).bind fun aQ => (some aQ)) = some r := H;have bL := aM bm;clear bm;obtain ⟨aQ,bM,H⟩ := bE_ H;obtain rfl := oI H;go_enter Tryz.func90,Tryz.ntmps90;go_wp2_with (first|((with_reducible refine gate_dst (N := 2) rfl ?_);refine bx_ (N := 2) (cs := #[.string ai,.int .i64 aj,.slice ay ag.length az,.slice aA ah.length aC,.string ak,.string al,.string am,.int .i64 an,.int .i64 ao,.int .i64 ap,.bool ac,.int .i64 ad,.string ae,.string af]) (t := 41) ?_;intro ab hg w21 hbox hb;have aa := aM (hbox);have aU := aM ((by rw [hg];exact (lZ wB_) : w.heap.size ≤ ab));have a9 := aU;replace HB := aM (lT wB_ hb);clear hb hbox hg;obtain ⟨_,_,_,_,_,_,_,_,_,_,_,_,_,_,_,_,_,_,_,_,_,_,_,_,_,_,_,_⟩ := z14_ aa.out)|((with_reducible refine gate_callee (f := 144) rfl ?_);refine gl_ (some 15) Tryz.func144 #[.agg #[.string ai,.int .i64 aj,.slice ay ag.length az,.slice aA ah.length aC,.string ak,.string al,.string am,.int .i64 an,.int .i64 ao,.int .i64 ap,.bool ac,.int .i64 ad,.string ae,.string af],.string a1] ?_;(with_reducible refine (FbN.calls k ai aj _ _ ag _ _ ah ak al am an ao ap ac ad ae af a1 aX bw _ ?side1 ?side2 ?side3 ?side4 bL.out).mono ?_);(case side1 => exact wX_ aY.out);(case side2 => exact aZ.out);(case side3 => exact wX_ a0.out);(case side4 => exact a2.out);rintro e w23 ⟨rfl,hb⟩;refine ⟨_,rfl,?_⟩;replace aa := aM (bw_ aa.out hb);replace HB := aM (lT wB_ hb))|((with_reducible refine gate_callee (f := 145) rfl ?_);refine gl_ (some 19) Tryz.func145 #[.string aX] ?_;(with_reducible refine (Fal.calls k aX aQ _ bM.out).mono ?_);rintro e w24 ⟨v221,rfl,a4,hb⟩;refine ⟨_,rfl,?_⟩;have bn := aM (Kd.R_lower a4 (lZ wB_));replace aa := aM (bw_ aa.out hb);replace HB := aM (lT wB_ hb)));go_ret;exact ⟨_,vR_,wO_ bn.out,wB_⟩
def Fbi.l0 : Nat → List ByteArray → ByteArray → Int → Option (Bool)
 | 0,_,_,_ => none
 | k + 1,x0,x1,x5 => if x5 < (x0.length : Int) then (if 0 ≤ x5 then (if (rdOf ByteArray.empty x0 x5).toList = x1.toList then (some true) else (Fbi.l0 k x0 x1 (wrap64 (x5 + 1)))) else (none)) else (some false)
def Fbi.f (k : Nat) (l0 : List ByteArray) (a1 : ByteArray) : Option (Bool) := Fbi.l0 k l0 a1 0
theorem Fbi.mono_l : ∀ k,(∀ y0 y1 y2,LeO (Fbi.l0 k y0 y1 y2) (Fbi.l0 (k + 1) y0 y1 y2))
 | 0 => fun _ _ _ r h => by simp [Fbi.l0] at h
 | k + 1 => by
  have ih0 := Fbi.mono_l k
  ·intro y0 y1 y2
   unfold Fbi.l0
   repeat' (first|with_reducible (first|exact ih0 _ _ _|exact LeO.refl _|exact LeO.none _|refine LeO.ite ?_ ?_|refine LeO.bind ?_ (fun _ => ?_))|exact LeO.none _|refine LeO.ite ?_ ?_|refine LeO.bind ?_ (fun _ => ?_))
theorem Fbi.mono : ∀ a0 a1 k,LeO (Fbi.f k a0 a1) (Fbi.f (k + 1) a0 a1) := by
 intro a0 a1 k
 have ih0 := Fbi.mono_l k
 unfold Fbi.f
 repeat' (first|with_reducible (first|exact ih0 _ _ _|exact LeO.refl _|exact LeO.none _|refine LeO.ite ?_ ?_|refine LeO.bind ?_ (fun _ => ?_))|exact LeO.none _|refine LeO.ite ?_ ?_|refine LeO.bind ?_ (fun _ => ?_))
theorem Fbi.calls (k : Nat) (A0 : Option Addr) (c0 : Nat) (l0 : List ByteArray) (a1 : ByteArray) (r : Bool) (w : World) (ae : Kd.C Kd.string w A0 l0.length l0) (af : l0.length ≤ c0) (h : Fbi.f k l0 a1 = some r) :
  Calls Tryz.prog 92 #[.slice A0 l0.length c0,.string a1] w fun e w' => e = .returned (.bool r) ∧ Drawn0 w w' := by
 have ah := aM ae;have HC0 := aM af;clear ae af;have H : (Fbi.l0 k l0 a1 0) = some r := h;clear h;have H' := aM H;clear H;go_enter Tryz.func92,Tryz.ntmps92;go_wp2;go_loopg [5] k (fun kq v5 w' => ∃ (aa : Int),v5 = .int .i64 aa ∧ Aside0 (Fbi.l0 kq l0 a1 aa = some r) ∧ Aside0 (kq ≤ k) ∧ Drawn0 w w')
 case atStart => exact ⟨(0),vR_,H',⟨Nat.le_refl _⟩,dw_⟩
 case round =>
  clear H';obtain ⟨aa,rfl,HA,ag,⟨m1,rfl⟩⟩ := hrel
  cases gk with
  | zero => exact absurd HA.out (by simp [Fbi.l0])
  | succ k1 =>
   have H := HA.out;clear HA;simp only [Fbi.l0] at H
   by_cases c3 : aa < (l0.length : Int)
   focus
    rw [if_pos c3] at H;have ab := dT c3;clear c3
    by_cases c4 : 0 ≤ aa
    rotate_left;rw [if_neg c4] at H;exact nH_ H;rw [if_pos c4] at H;have c4b0 := dT c4;clear c4
    by_cases c5 : (rdOf ByteArray.empty l0 aa).toList = a1.toList
    focus
     rw [if_pos c5] at H;have ac := qE.mpr c5;have ad := qN.mpr c5;clear c5;obtain rfl := oI H
    rotate_left
    focus
     rw [if_neg c5] at H;have ac := qF.mpr c5;have ad := qB.mpr c5;have H' := aM H;clear H
   rotate_left 2
   focus
    rw [if_neg c3] at H;have ab := dF c3;clear c3;obtain rfl := oI H
   all_goals
    (try (have p01 : 0 ≤ (aa : Int) := oD (by assumption);have q01 : aa < (l0.length : Int) := oD (by assumption);obtain ⟨ad01,ai,hx01_0⟩ := Kd.at_string ah.out aa p01 q01;cases ai;replace p01 := eq_true p01;replace q01 := eq_true q01));go_wp2
    first
     |
      go_ret;exact ⟨vR_,dw_⟩
     |
      go_roundg k1
      case measure => have := ag.out;omega
      case rel => exact ⟨(wrap64 (aa + 1)),vR_,H',⟨by have := ag.out;omega⟩,dw_⟩
end Go.Proofs.YtmafmhgmdegplaaGreatDoor.P
