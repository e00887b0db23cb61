/- Walks: each Go function computes the Lean function beside it; conditions: those of each theorem. -/
import Derived.Test.YtmafmhgmdegplaaGreatDoorZPx0
import Derived.Test.YtmafmhgmdegplaaGreatDoorZPx9
import Derived.Test.YtmafmhgmdegplaaGreatDoorZPx1
import Derived.Test.YtmafmhgmdegplaaGreatDoorZPx4
namespace Go.Proofs.YtmafmhgmdegplaaGreatDoor.P
open Go.RowKit Go.Proofs.YtmafmhgmdegplaaGreatDoorW.PrintWords Go.Proofs.YtmafmhgmdegplaaGreatDoorW.PrintLast Go.Proofs.YtmafmhgmdegplaaGreatDoorW.PrintMore
attribute [local go_sem] max2_int min2_int max_two min_two max_three min_three max_four min_four   -- for this text's walks alone
set_option linter.unusedVariables false
set_option linter.unusedSimpArgs false
set_option maxHeartbeats 8000000
set_option maxRecDepth 100000
def Fa8.l0 : Nat → ByteArray → Int → List ByteArray → Int → Int → Option (List ByteArray)
 | 0,_,_,_,_,_ => none
 | k + 1,x0,x1,x5,x6,x7 => if x7 < (x0.size : Int) then (if 0 ≤ x7 then (if (bt x0 x7) = x1 then (if 0 ≤ x6 then (if x6 ≤ x7 then (if x7 ≤ (x0.size : Int) then (if x5.length < 8796093022208 then (Fa8.l0 k x0 x1 (x5 ++ [x0.extract (x6 : Int).toNat (x7 : Int).toNat]) (wrap64 (x7 + 1)) (wrap64 (x7 + 1))) else (none)) else (none)) else (none)) else (none)) else (Fa8.l0 k x0 x1 x5 x6 (wrap64 (x7 + 1)))) else (none)) else (if 0 ≤ x6 then (if x6 ≤ (x0.size : Int) then (if x5.length < 8796093022208 then (some (x5 ++ [x0.extract (x6 : Int).toNat x0.size])) else (none)) else (none)) else (none))
def Fa8.f (k : Nat) (a0 : ByteArray) (a1 : Int) : Option (List ByteArray) := Fa8.l0 k a0 a1 (([] : List ByteArray)) 0 0
theorem Fa8.mono_l : ∀ k,(∀ y0 y1 y2 y3 y4,LeO (Fa8.l0 k y0 y1 y2 y3 y4) (Fa8.l0 (k + 1) y0 y1 y2 y3 y4))
 | 0 => fun _ _ _ _ _ r h => by simp [Fa8.l0] at h
 | k + 1 => by
  have ih0 := Fa8.mono_l k
  ·intro y0 y1 y2 y3 y4
   unfold Fa8.l0
   repeat' (first|with_reducible (first|exact ih0 _ _ _ _ _|exact LeO.refl _|exact LeO.none _|refine LeO.ite ?_ ?_|refine LeO.bind ?_ (fun _ => ?_))|exact LeO.none _|refine LeO.ite ?_ ?_|refine LeO.bind ?_ (fun _ => ?_))
theorem Fa8.mono : ∀ a0 a1 k,LeO (Fa8.f k a0 a1) (Fa8.f (k + 1) a0 a1) := by
 intro a0 a1 k
 have ih0 := Fa8.mono_l k
 unfold Fa8.f
 repeat' (first|with_reducible (first|exact ih0 _ _ _ _ _|exact LeO.refl _|exact LeO.none _|refine LeO.ite ?_ ?_|refine LeO.bind ?_ (fun _ => ?_))|exact LeO.none _|refine LeO.ite ?_ ?_|refine LeO.bind ?_ (fun _ => ?_))
theorem Fa8.calls (k : Nat) (a0 : ByteArray) (a1 : Int) (r : List ByteArray) (w : World) (h : Fa8.f k a0 a1 = some r) :
  Calls Tryz.prog 244 #[.string a0,.int .u8 a1] w fun e w' => ∃ aE : Value,e = .returned (aE) ∧ Kd.R Kd.string 9 w' w.heap.size (fun _ => True) aE r ∧ Below w.heap.size w w' := by
 have HB := aM (Below.refl w.heap.size w);have H : (Fa8.l0 k a0 a1 (([] : List ByteArray)) 0 0) = some r := h;clear h;obtain ⟨ai,ad⟩ : ∃ y_ : List ByteArray,y_ = (([] : List ByteArray)) := ⟨_,rfl⟩;replace H : (Fa8.l0 k a0 a1 ai 0 0) = some r := (yH_ ad H);have ah := aM ad;clear ad;have H' := aM H;clear H;go_enter Tryz.func244,Tryz.ntmps244;go_wp2_with (first|((with_reducible refine gate_dst (N := 8) rfl ?_);refine Kd.R_lit Kd.string _ 9 ?hg (N := 8) ?hd (xs := ([] : List ByteArray)) (inner := []) (ok := fun _ => True) (okp := fun _ => True) ?hr ?hp (fun _ hk => hk) trivial (Below.refl _ _) (Nat.le_refl _) (by simp) ?_;(case hd => rfl);(case hg => rfl);(case hr => first|(go_simp;done)|(go_simp;rfl));(case hp => exact (Reps.none _ _));intro v265 w3 aj hb hg_ hnew_;clear hg_ hnew_;(first|rw [← ah.out] at aj|(simp only [Int.reduceToNat] at aj;rw [← ah.out] at aj));have ak := aM (Kd.R_lower aj (lZ wB_));replace HB := aM (lT wB_ hb);clear hb aj));go_loopg [5,6,7] k (fun kq v5 v6 v7 w' => ∃ (ac : List ByteArray) (ab : Int) (aa : Int),v6 = .int .i64 ab ∧ v7 = .int .i64 aa ∧ Aside0 (Fa8.l0 kq a0 a1 ac ab aa = some r) ∧ Aside0 (kq ≤ k) ∧ Aside0 (Kd.R Kd.string 9 w' w.heap.size (fun _ => True) v5 ac) ∧ Aside0 (Below w.heap.size w w'))
 case atStart => exact ⟨(ai),(0),(0),vR_,vR_,H',⟨Nat.le_refl _⟩,⟨wO_ ak.out⟩,⟨wB_⟩⟩
 case round =>
  clear H';obtain ⟨ac,ab,aa,rfl,rfl,HA,ay,ae,HB⟩ := hrel
  cases gk with
  | zero => exact absurd HA.out (by simp [Fa8.l0])
  | succ k1 =>
   have H := HA.out;clear HA;simp only [Fa8.l0] at H
   by_cases c5 : aa < (a0.size : Int)
   focus
    rw [if_pos c5] at H;have az := dT c5;clear c5
    by_cases c6 : 0 ≤ aa
    rotate_left;rw [if_neg c6] at H;exact nH_ H;rw [if_pos c6] at H;have c6b0 := dT c6;clear c6
    by_cases c8 : (bt a0 aa) = a1
    focus
     rw [if_pos c8] at H;have aA := qE.mpr c8;have aC := qN.mpr c8;clear c8
     by_cases c9 : 0 ≤ ab
     rotate_left;rw [if_neg c9] at H;exact nH_ H;rw [if_pos c9] at H;have c9b0 := eq_true c9;have c9b1 := dT c9;clear c9
     by_cases c10 : ab ≤ aa
     rotate_left;rw [if_neg c10] at H;exact nH_ H;rw [if_pos c10] at H;have c10b0 := eq_true c10;have c10b1 := dT c10;clear c10
     by_cases c11 : aa ≤ (a0.size : Int)
     rotate_left;rw [if_neg c11] at H;exact nH_ H;rw [if_pos c11] at H;have c11b0 := eq_true c11;have c11b1 := dT c11;clear c11
     by_cases c12 : ac.length < 8796093022208
     rotate_left;rw [if_neg c12] at H;exact nH_ H;rw [if_pos c12] at H;have al := aM c12;clear c12;obtain ⟨am,af⟩ : ∃ y_ : List ByteArray,y_ = (ac ++ [a0.extract (ab : Int).toNat (aa : Int).toNat]) := ⟨_,rfl⟩;replace H : (Fa8.l0 k1 a0 a1 am (wrap64 (aa + 1)) (wrap64 (aa + 1))) = some r := (yH_ af H);have an := aM af;clear af;have H' := aM H;clear H
    rotate_left
    focus
     rw [if_neg c8] at H;have aA := qF.mpr c8;have aC := qB.mpr c8;have H' := aM H;clear H
   rotate_left 2
   focus
    rw [if_neg c5] at H;have az := dF c5;clear c5
    by_cases c14 : 0 ≤ ab
    rotate_left;rw [if_neg c14] at H;exact nH_ H;rw [if_pos c14] at H;have c14b0 := eq_true c14;have c14b1 := dT c14;clear c14
    by_cases ao : ab ≤ (a0.size : Int)
    rotate_left;rw [if_neg ao] at H;exact nH_ H;rw [if_pos ao] at H;have c15b0 := eq_true ao;have c15b1 := dT ao;clear ao
    by_cases c16 : ac.length < 8796093022208
    rotate_left;rw [if_neg c16] at H;exact nH_ H;rw [if_pos c16] at H;have ap := aM c16;clear c16;obtain ⟨aD,ag⟩ : ∃ y_ : List ByteArray,y_ = (ac ++ [a0.extract (ab : Int).toNat a0.size]) := ⟨_,rfl⟩;replace H : (some aD) = some r := (yH_ ag H);have ar := aM ag;clear ag;obtain rfl := oI H
   all_goals
    (try (have p01 : 0 ≤ (aa : Int) := oD (by assumption);have q01 : aa < (a0.size : Int) := oD (by assumption);have hx01 := bt_at a0 aa;replace p01 := eq_true p01;replace q01 := eq_true q01));go_wp2_with (first|((with_reducible refine gate_builtin (b := .append) (xs := #[.tmp 29,.tmp 33]) rfl ?_);at_builtin;refine Kd.R_append Kd.string (w0 := w) w.heap.size rfl (.tmp 29) (.tmp 33) 50 9 (.string ⟨#[]⟩) 16 rfl Tryz.underlying50 info9 rfl (by decide) (by omega) u5 ac (a0.extract (ab : Int).toNat a0.size) [.string (a0.extract (ab : Int).toNat a0.size)] (fun _ => True) (fun _ => False) rfl rfl ?aP (fun _ hk => hk.elim) ?aF ?aO ?aB ?aS ?aL ?_;(case aP => exact rfl);(case aB => exact wB_);(case aF => exact (fun _ _ => trivial));(case aO => exact (wO_ ae.out));(case aS => exact (lZ wB_));(case aL => have := ap.out;omega);intro v271 w17 ho hb hg hat;rw [← ar.out] at ho;have au := aM (hb);have av := aM (ho);clear HB;clear ae;have HB := au;have aw := av;clear au av;clear ho hb hg hat)|((with_reducible refine gate_builtin (b := .append) (xs := #[.tmp 20,.tmp 25]) rfl ?_);at_builtin;refine Kd.R_append Kd.string (w0 := w) w.heap.size rfl (.tmp 20) (.tmp 25) 50 9 (.string ⟨#[]⟩) 16 rfl Tryz.underlying50 info9 rfl (by decide) (by omega) u5 ac (a0.extract (ab : Int).toNat (aa : Int).toNat) [.string (a0.extract (ab : Int).toNat (aa : Int).toNat)] (fun _ => True) (fun _ => False) rfl rfl ?aP (fun _ hk => hk.elim) ?aF ?aO ?aB ?aS ?aL ?_;(case aP => exact rfl);(case aB => exact wB_);(case aF => exact (fun _ _ => trivial));(case aO => exact (wO_ ae.out));(case aS => exact (lZ wB_));(case aL => have := al.out;omega);intro v268 w13 ho hb hg hat;rw [← an.out] at ho;have au := aM (hb);have av := aM (ho);clear HB;clear ae;have HB := au;have ax := av;clear au av;clear ho hb hg hat))
    first
     |
      go_ret;exact ⟨_,vR_,wO_ aw.out,wB_⟩
     |
      go_roundg k1
      case measure => have := ay.out;omega
      case rel => first|(exact ⟨(am),(wrap64 (aa + 1)),(wrap64 (aa + 1)),vR_,vR_,H',⟨by have := ay.out;omega⟩,⟨wO_ ax.out⟩,⟨wB_⟩⟩)|(exact ⟨(ac),(ab),(wrap64 (aa + 1)),vR_,vR_,H',⟨by have := ay.out;omega⟩,⟨wO_ ae.out⟩,⟨wB_⟩⟩)
mutual
def Faq.l0 : Nat → List ByteArray → Int → Option (Bool)
 | 0,_,_ => none
 | k + 1,x3,x4 => if x4 < (x3.length : Int) then (if 0 ≤ x4 then ((Fau.f k (rdOf ByteArray.empty x3 x4)).bind fun aa => (if aa = true then (Faq.l1 k x3 x4 0) else (some false))) else (none)) else (some (decide ((x3.length : Int) ≤ 2)))
def Faq.l1 : Nat → List ByteArray → Int → Int → Option (Bool)
 | 0,_,_,_ => none
 | k + 1,x3,x4,x5 => if 0 ≤ x4 then (if x4 < (x3.length : Int) then (if x5 < ((rdOf ByteArray.empty x3 x4).size : Int) then (if 0 ≤ x5 then ((FbJ.f (bt (rdOf ByteArray.empty x3 x4) x5)).bind fun aa => (if aa = true then (Faq.l1 k x3 x4 (wrap64 (x5 + 1))) else (some false))) else (none)) else (Faq.l0 k x3 (wrap64 (x4 + 1)))) else (none)) else (none)
end
def Faq.f (k : Nat) (a0 : ByteArray) : Option (Bool) := if a0.toList = ([] : List UInt8) then (some true) else ((Fa8.f k a0 32).bind fun aa => (Faq.l0 k aa 0))
theorem Faq.mono_l : ∀ k,(∀ y0 y1,LeO (Faq.l0 k y0 y1) (Faq.l0 (k + 1) y0 y1)) ∧ (∀ y0 y1 y2,LeO (Faq.l1 k y0 y1 y2) (Faq.l1 (k + 1) y0 y1 y2))
 | 0 => ⟨fun _ _ r h => by simp [Faq.l0] at h,fun _ _ _ r h => by simp [Faq.l1] at h⟩
 | k + 1 => by
  obtain ⟨ih0,ih1⟩ := Faq.mono_l k
  refine ⟨?_,?_⟩
  all_goals (intros;first|unfold Faq.l0|unfold Faq.l1)
  all_goals repeat' (first|with_reducible (first|exact ih0 _ _|exact ih1 _ _ _|exact Fa8.mono _ _ _|exact Fau.mono _ _|exact LeO.refl _|exact LeO.none _|refine LeO.ite ?_ ?_|refine LeO.bind ?_ (fun _ => ?_))|exact LeO.none _|refine LeO.ite ?_ ?_|refine LeO.bind ?_ (fun _ => ?_))
theorem Faq.mono : ∀ a0 k,LeO (Faq.f k a0) (Faq.f (k + 1) a0) := by
 intro a0 k
 obtain ⟨ih0,ih1⟩ := Faq.mono_l k
 unfold Faq.f
 repeat' (first|with_reducible (first|exact ih0 _ _|exact ih1 _ _ _|exact Fa8.mono _ _ _|exact Fau.mono _ _|exact LeO.refl _|exact LeO.none _|refine LeO.ite ?_ ?_|refine LeO.bind ?_ (fun _ => ?_))|exact LeO.none _|refine LeO.ite ?_ ?_|refine LeO.bind ?_ (fun _ => ?_))
theorem Faq.calls (k : Nat) (a0 : ByteArray) (r : Bool) (w : World) (h : Faq.f k a0 = some r) :
  Calls Tryz.prog 212 #[.string a0] w fun e w' => e = .returned (.bool r) ∧ Below w.heap.size w w' := by
 have HB := aM (Below.refl w.heap.size w);have H : (if a0.toList = ([] : List UInt8) then (some true) else ((Fa8.f k a0 32).bind fun ab => (Faq.l0 k ab 0))) = some r := h;clear h
 by_cases c2 : a0.toList = ([] : List UInt8)
 ·rw [if_pos c2] at H;have al := qE.mpr c2;have am := qN.mpr c2;clear c2;obtain rfl := oI H;go_enter Tryz.func212,Tryz.ntmps212;go_wp2;go_ret;exact ⟨vR_,wB_⟩
 ·rw [if_neg c2] at H;have al := qF.mpr c2;have am := qB.mpr c2;obtain ⟨ab,A3,H⟩ := bE_ H;have H' := aM H;clear H;go_enter Tryz.func212,Tryz.ntmps212;go_wp2_with (first|((with_reducible refine gate_callee (f := 244) rfl ?_);refine gl_ (some 9) Tryz.func244 #[.string a0,.int .u8 32] ?_;(with_reducible refine (Fa8.calls k a0 32 ab _ A3.out).mono ?_);rintro e w4 ⟨an,rfl,aw,hb⟩;refine ⟨_,rfl,?_⟩;have ag := aM (Kd.R_lower aw (lZ wB_));replace HB := aM (lT wB_ hb)));go_loopg [4] k (fun kq v4 w' => ∃ (aa : Int),v4 = .int .i64 aa ∧ Aside0 (Faq.l0 kq ab aa = some r) ∧ Aside0 (kq ≤ k) ∧ Aside0 (Kd.R Kd.string 9 w' w.heap.size (fun _ => True) an ab) ∧ Aside0 (Below w.heap.size w w'))
  case atStart => exact ⟨(0),vR_,H',⟨Nat.le_refl _⟩,⟨wO_ ag.out⟩,⟨wB_⟩⟩
  case round =>
   clear H';obtain ⟨aa,rfl,HA,ao,ad,HB⟩ := hrel
   cases gk with
   | zero => exact absurd HA.out (by simp [Faq.l0])
   | succ k1 =>
    have H := HA.out;clear HA;simp only [Faq.l0] at H
    by_cases c5 : aa < (ab.length : Int)
    focus
     rw [if_pos c5] at H;have ap := dT c5;clear c5
     by_cases c6 : 0 ≤ aa
     rotate_left;rw [if_neg c6] at H;exact nH_ H;rw [if_pos c6] at H;have c6b0 := dT c6;clear c6;obtain ⟨ar,A7,H⟩ := bE_ H
     by_cases c8 : ar = true
     focus
      subst c8;rw [if_pos rfl] at H;have H' := aM H;clear H;obtain ⟨ah,af,ae⟩ := Kd.R_slice ad.out;subst ae
     rotate_left
     focus
      replace c8 := qO.mpr c8;subst c8;rw [if_neg qT] at H;obtain rfl := oI H;obtain ⟨ah,af,ae⟩ := Kd.R_slice ad.out;subst ae
    rotate_left 2
    focus
     rw [if_neg c5] at H;have ap := dF c5;clear c5;obtain rfl := oI H;obtain ⟨ah,af,ae⟩ := Kd.R_slice ad.out;subst ae
    all_goals
     (try (have p03 : 0 ≤ (aa : Int) := oD (by assumption);have q03 : aa < (ab.length : Int) := oD (by assumption);obtain ⟨ai,ax,hx03_0⟩ := Kd.at_string (rR ad.out).2.2 aa p03 q03;cases ax;replace p03 := eq_true p03;replace q03 := eq_true q03));go_wp2_with (first|((with_reducible refine gate_callee (f := 210) rfl ?_);refine gl_ (some 20) Tryz.func210 #[.string (rdOf ByteArray.empty ab aa)] ?_;(with_reducible refine (Fau.calls _ _ _ _ A7.out).mono ?_);rintro e w' ⟨rfl,⟨nd,rfl⟩⟩;refine ⟨_,rfl,?_⟩))
     first
      |
       go_ret;exact ⟨vR_,wB_⟩
      |
       go_loopg [5] k1 (fun kq v5 w' => ∃ (ac : Int),v5 = .int .i64 ac ∧ Aside0 (Faq.l1 kq ab aa ac = some r) ∧ Aside0 (kq ≤ k1) ∧ Aside0 (Kd.R Kd.string 9 w' w.heap.size (fun _ => True) (.slice (some ai) ab.length af) ab) ∧ Aside0 (Below w.heap.size w w'))
       case atStart => exact ⟨(0),vR_,H',⟨Nat.le_refl _⟩,⟨wO_ ad.out⟩,⟨wB_⟩⟩
       case round =>
        clear H';obtain ⟨ac,rfl,HA,au,ad,HB⟩ := hrel
        cases gk with
        | zero => exact absurd HA.out (by simp [Faq.l1])
        | succ k2 =>
         have H := HA.out;clear HA;simp only [Faq.l1] at H
         by_cases c10 : 0 ≤ aa
         rotate_left;rw [if_neg c10] at H;exact nH_ H;rw [if_pos c10] at H;have c10b0 := dT c10;clear c10
         by_cases c11 : aa < (ab.length : Int)
         rotate_left;rw [if_neg c11] at H;exact nH_ H;rw [if_pos c11] at H;have c11b0 := dT c11;clear c11
         by_cases c12 : ac < ((rdOf ByteArray.empty ab aa).size : Int)
         focus
          rw [if_pos c12] at H;have aj := dT c12;clear c12
          by_cases ak : 0 ≤ ac
          rotate_left;rw [if_neg ak] at H;exact nH_ H;rw [if_pos ak] at H;have c13b0 := dT ak;clear ak;obtain ⟨av,ay,H⟩ := bE_ H
          by_cases c16 : av = true
          focus
           subst c16;rw [if_pos rfl] at H;have H' := aM H;clear H
          rotate_left
          focus
           replace c16 := qO.mpr c16;subst c16;rw [if_neg qT] at H;obtain rfl := oI H
         rotate_left 2
         focus
          rw [if_neg c12] at H;have aj := dF c12;clear c12;have H' := aM H;clear H
         all_goals
          (try (have p01 : 0 ≤ (aa : Int) := oD (by assumption);have q01 : aa < (ab.length : Int) := oD (by assumption);obtain ⟨ad01,e01,hx01_0⟩ := Kd.at_string (rR ad.out).2.2 aa p01 q01;obtain rfl : ai = ad01 := (by injection e01);replace p01 := eq_true p01;replace q01 := eq_true q01));(try (have p02 : 0 ≤ (ac : Int) := oD (by assumption);have q02 : ac < ((rdOf ByteArray.empty ab aa).size : Int) := oD (by assumption);have hx02 := bt_at (rdOf ByteArray.empty ab aa) ac;replace p02 := eq_true p02;replace q02 := eq_true q02));go_wp2_with (first|((with_reducible refine gate_callee (f := 162) rfl ?_);refine gl_ (some 37) Tryz.func162 #[.int .u8 (bt (rdOf ByteArray.empty ab aa) ac)] ?_;(with_reducible refine (FbJ.calls _ _ _ ay.out).mono ?_);rintro e w' ⟨rfl,⟨nd,rfl⟩⟩;refine ⟨_,rfl,?_⟩))
          first
           |
            go_ret;exact ⟨vR_,wB_⟩
           |
            go_roundg k2
            case measure => have := ao.out;have := au.out;omega
            case rel => first|(exact ⟨(wrap64 (ac + 1)),vR_,H',⟨by have := ao.out;have := au.out;omega⟩,⟨wO_ ad.out⟩,⟨wB_⟩⟩)|(exact ⟨(wrap64 (aa + 1)),vR_,H',⟨by have := ao.out;have := au.out;omega⟩,⟨wO_ ad.out⟩,⟨wB_⟩⟩)
def Fbh.l0 : Nat → Int → List ByteArray → ByteArray → ByteArray → ByteArray → Option (Bool)
 | 0,_,_,_,_,_ => none
 | k + 1,x3,aa,ad,ab,ac => if x3 < (aa.length : Int) then (if 0 ≤ x3 then ((Fau.f k (rdOf ByteArray.empty aa x3)).bind fun ae => (if ae = true then (if 0 < ((rdOf ByteArray.empty aa x3).size : Int) then ((Fb0.f (bt (rdOf ByteArray.empty aa x3) 0)).bind fun af => (if af = true then (Fbh.l0 k (wrap64 (x3 + 1)) aa ad ab ac) else (some false))) else (none)) else (some false))) else (none)) else (if (aa.length : Int) ≤ 3 then ((Faq.f k ad).bind fun ag => (if ag = true then ((Fau.f k ab).bind fun ah => (if ah = true then (if 0 < (ab.size : Int) then ((Fb0.f (bt ab 0)).bind fun ai => (if ai = true then (if ac.toList = ([] : List UInt8) then (some true) else ((Fau.f k ac).bind fun aj => (some aj))) else (some false))) else (none)) else (some false))) else (some false))) else (some false))
def Fbh.f (k : Nat) (aa : List ByteArray) (ab : ByteArray) (ac : ByteArray) (ad : ByteArray) : Option (Bool) := Fbh.l0 k 0 aa ab ac ad
theorem Fbh.mono_l : ∀ k,(∀ y0 y1 y2 y3 y4,LeO (Fbh.l0 k y0 y1 y2 y3 y4) (Fbh.l0 (k + 1) y0 y1 y2 y3 y4))
 | 0 => fun _ _ _ _ _ r h => by simp [Fbh.l0] at h
 | k + 1 => by
  have ih0 := Fbh.mono_l k
  ·intro y0 y1 y2 y3 y4
   unfold Fbh.l0
   repeat' (first|with_reducible (first|exact ih0 _ _ _ _ _|exact Faq.mono _ _|exact Fau.mono _ _|exact LeO.refl _|exact LeO.none _|refine LeO.ite ?_ ?_|refine LeO.bind ?_ (fun _ => ?_))|exact LeO.none _|refine LeO.ite ?_ ?_|refine LeO.bind ?_ (fun _ => ?_))
theorem Fbh.mono : ∀ a0 a1 a2 a3 k,LeO (Fbh.f k a0 a1 a2 a3) (Fbh.f (k + 1) a0 a1 a2 a3) := by
 intro a0 a1 a2 a3 k
 have ih0 := Fbh.mono_l k
 unfold Fbh.f
 repeat' (first|with_reducible (first|exact ih0 _ _ _ _ _|exact Faq.mono _ _|exact Fau.mono _ _|exact LeO.refl _|exact LeO.none _|refine LeO.ite ?_ ?_|refine LeO.bind ?_ (fun _ => ?_))|exact LeO.none _|refine LeO.ite ?_ ?_|refine LeO.bind ?_ (fun _ => ?_))
theorem Fbh.calls (k : Nat) (ai : Option Addr) (aj : Nat) (aa : List ByteArray) (af : ByteArray) (ac : ByteArray) (ae : ByteArray) (r : Bool) (w : World) (ak : Kd.C Kd.string w ai aa.length aa) (al : aa.length ≤ aj) (h : Fbh.f k aa af ac ae = some r) :
  Calls Tryz.prog 163 #[.agg #[.slice ai aa.length aj,.string af,.string ac,.string ae]] w fun e w' => e = .returned (.bool r) ∧ Below w.heap.size w w' := by
 have hu157 := Tryz.underlying157;have am := aM ak;have HC0_0 := aM al;clear ak al;have HB := aM (Below.refl w.heap.size w);have H : (Fbh.l0 k 0 aa af ac ae) = some r := h;clear h;have H' := aM H;clear H;go_enter Tryz.func163,Tryz.ntmps163;go_wp2_with (first|((with_reducible refine gate_dst (N := 1) rfl ?_);refine bx_ (N := 1) (cs := #[.slice ai aa.length aj,.string af,.string ac,.string ae]) (t := 157) ?_;intro an hg w2 hbox hb;have ad := aM (hbox);have ap := aM ((by rw [hg];exact (lZ wB_) : w.heap.size ≤ an));have GE281 := ap;replace HB := aM (lT wB_ hb);clear hb hbox hg));go_loopg [3] k (fun kq v3 w' => ∃ (ab : Int),v3 = .int .i64 ab ∧ Aside0 (Fbh.l0 kq ab aa af ac ae = some r) ∧ Aside0 (kq ≤ k) ∧ Aside0 (w'.heap[an]? = some (.cells #[(.slice ai aa.length aj),.string af,.string ac,.string ae] 157 (0,0))) ∧ Aside0 (Below w.heap.size w w'))
 case atStart => exact ⟨(0),vR_,H',⟨Nat.le_refl _⟩,⟨wC_ ad.out⟩,⟨wB_⟩⟩
 case round =>
  clear H';obtain ⟨ab,rfl,HA,aJ,ad,HB⟩ := hrel
  cases gk with
  | zero => exact absurd HA.out (by simp [Fbh.l0])
  | succ k1 =>
   have H := HA.out;clear HA;simp only [Fbh.l0] at H
   by_cases c3 : ab < (aa.length : Int)
   focus
    rw [if_pos c3] at H;have aA := dT c3;clear c3
    by_cases c4 : 0 ≤ ab
    rotate_left;rw [if_neg c4] at H;exact nH_ H;rw [if_pos c4] at H;have c4b0 := dT c4;clear c4;obtain ⟨aC,A5,H⟩ := bE_ H
    by_cases c6 : aC = true
    focus
     subst c6;rw [if_pos rfl] at H
     by_cases c7 : 0 < ((rdOf ByteArray.empty aa ab).size : Int)
     rotate_left;rw [if_neg c7] at H;exact nH_ H;rw [if_pos c7] at H;have c7b0 := dT c7;have c7b1 : decide (0 < (rdOf ByteArray.empty aa ab).size) = true := dT (by omega);clear c7;obtain ⟨aD,A9,H⟩ := bE_ H
     by_cases c10 : aD = true
     focus
      subst c10;rw [if_pos rfl] at H;have H' := aM H;clear H
     rotate_left
     focus
      replace c10 := qO.mpr c10;subst c10;rw [if_neg qT] at H;obtain rfl := oI H
    rotate_left 2
    focus
     replace c6 := qO.mpr c6;subst c6;rw [if_neg qT] at H;obtain rfl := oI H
   rotate_left 3
   focus
    rw [if_neg c3] at H;have aA := dF c3;clear c3
    by_cases c14 : (aa.length : Int) ≤ 3
    focus
     rw [if_pos c14] at H;have ar := dT c14;have au : decide (aa.length ≤ 3) = true := dT (by omega);clear c14;obtain ⟨aE,aN,H⟩ := bE_ H
     by_cases c16 : aE = true
     focus
      subst c16;rw [if_pos rfl] at H;obtain ⟨aF,aK,H⟩ := bE_ H
      by_cases ax : aF = true
      focus
       subst ax;rw [if_pos rfl] at H
       by_cases ay : 0 < (ac.size : Int)
       rotate_left;rw [if_neg ay] at H;exact nH_ H;rw [if_pos ay] at H;have c19b0 := dT ay;have c19b1 : decide (0 < ac.size) = true := dT (by omega);clear ay;obtain ⟨aG,aO,H⟩ := bE_ H
       by_cases az : aG = true
       focus
        subst az;rw [if_pos rfl] at H
        by_cases ao : ae.toList = ([] : List UInt8)
        focus
         rw [if_pos ao] at H;have av := qE.mpr ao;have aw := qN.mpr ao;clear ao;obtain rfl := oI H
        rotate_left
        focus
         rw [if_neg ao] at H;have av := qF.mpr ao;have aw := qB.mpr ao;obtain ⟨t289,aP,H⟩ := bE_ H;obtain rfl := oI H
       rotate_left 2
       focus
        replace az := qO.mpr az;subst az;rw [if_neg qT] at H;obtain rfl := oI H
      rotate_left 3
      focus
       replace ax := qO.mpr ax;subst ax;rw [if_neg qT] at H;obtain rfl := oI H
     rotate_left 4
     focus
      replace c16 := qO.mpr c16;subst c16;rw [if_neg qT] at H;obtain rfl := oI H
    rotate_left 5
    focus
     rw [if_neg c14] at H;have ar := dF c14;have au : decide (aa.length ≤ 3) = false := dF (by omega);clear c14;obtain rfl := oI H
   all_goals
    (try obtain ⟨_,_,_,_,_,_,_,_⟩ := z4_ ad.out);(try (have p01 : 0 ≤ (ab : Int) := oD (by assumption);have q01 : ab < (aa.length : Int) := oD (by assumption);obtain ⟨ad01,e01,ag⟩ := Kd.at_string am.out ab p01 q01;cases e01;replace ag := mv_ HB.out ag;replace p01 := eq_true p01;replace q01 := eq_true q01));go_wp2_with (first|(go_at_call 212;(with_reducible refine (Faq.calls _ _ _ _ aN.out).mono ?_);rintro e WA15 ⟨rfl,hb⟩;replace ad := aM (bw_ ad.out hb);replace HB := aM (lT wB_ hb);obtain ⟨_,_,_,_,_,_,_,_⟩ := z4_ ad.out)|(go_at_call 210;(with_reducible refine (Fau.calls _ _ _ _ aK.out).mono ?_);rintro e w' ⟨rfl,⟨nd,rfl⟩⟩;have aQ : 0 ≤ (0 : Int) := (by omega);have aL : 0 < ac.size := (by have : (0 : Int) < (ac.size : Int) := oD (by assumption);omega);have hx04 : ∀ h : 0 < ac.size,((ac[0]'h).toNat : Int) = bt ac 0 := bt_at ac 0;clear aQ;have qi20 : (0 < (ac.size : Int)) = True := eq_true (oD (by assumption));replace aL := eq_true aL)|(go_at_call 210;(with_reducible refine (Fau.calls _ _ _ _ aK.out).mono ?_);rintro e w' ⟨rfl,⟨nd,rfl⟩⟩)|(go_at_call 211;(with_reducible refine (Fb0.calls _ _ _ aO.out).mono ?_);rintro e w' ⟨rfl,⟨nd,rfl⟩⟩)|(go_at_call 210;(with_reducible refine (Fau.calls _ _ _ _ aP.out).mono ?_);rintro e w' ⟨rfl,⟨nd,rfl⟩⟩)|((with_reducible refine gate_callee (f := 210) rfl ?_);refine gl_ (some 16) Tryz.func210 #[.string (rdOf ByteArray.empty aa ab)] ?_;(with_reducible refine (Fau.calls _ _ _ _ A5.out).mono ?_);rintro e w' ⟨rfl,⟨nd,rfl⟩⟩;refine ⟨_,rfl,?_⟩;have p02 : 0 ≤ (ab : Int) := oD (by assumption);have q02 : ab < (aa.length : Int) := oD (by assumption);obtain ⟨aH,aR,ah⟩ := Kd.at_string am.out ab p02 q02;obtain rfl : ad01 = aH := (by injection aR);replace ah := mv_ HB.out ah;replace p02 := eq_true p02;replace q02 := eq_true q02;have p03 : 0 ≤ (0 : Int) := (by omega);have q03 : 0 < (rdOf ByteArray.empty aa ab).size := (by have : (0 : Int) < ((rdOf ByteArray.empty aa ab).size : Int) := oD (by assumption);omega);have hx03 : ∀ h : 0 < (rdOf ByteArray.empty aa ab).size,(((rdOf ByteArray.empty aa ab)[0]'h).toNat : Int) = bt (rdOf ByteArray.empty aa ab) 0 := bt_at (rdOf ByteArray.empty aa ab) 0;clear p03;have qi8 : (0 < ((rdOf ByteArray.empty aa ab).size : Int)) = True := eq_true (oD (by assumption));replace q03 := eq_true q03)|((with_reducible refine gate_callee (f := 210) rfl ?_);refine gl_ (some 16) Tryz.func210 #[.string (rdOf ByteArray.empty aa ab)] ?_;(with_reducible refine (Fau.calls _ _ _ _ A5.out).mono ?_);rintro e w' ⟨rfl,⟨nd,rfl⟩⟩;refine ⟨_,rfl,?_⟩)|(go_at_call 211;(with_reducible refine (Fb0.calls _ _ _ A9.out).mono ?_);rintro e w' ⟨rfl,⟨nd,rfl⟩⟩))
    first
     |
      go_ret;exact ⟨vR_,wB_⟩
     |
      go_roundg k1
      case measure => have := aJ.out;omega
      case rel => exact ⟨(wrap64 (ab + 1)),vR_,H',⟨by have := aJ.out;omega⟩,⟨wC_ ad.out⟩,⟨wB_⟩⟩
mutual
def FaB.l0 : Nat → List (S157) → Int → Option (Bool)
 | 0,_,_ => none
 | k + 1,x0,x3 => if x3 < (x0.length : Int) then (FaB.j1 k x0 x3 (decide (x3 ≤ 4))) else (FaB.j1 k x0 x3 false)
def FaB.j1 : Nat → List (S157) → Int → Bool → Option (Bool)
 | 0,_,_,_ => none
 | k + 1,x0,x3,ab => if ab = true then (if 0 ≤ x3 then (if x3 < (x0.length : Int) then ((Fbh.f k ((Fat x0 x3).f0) ((Fat x0 x3).f1) ((Fat x0 x3).f2) ((Fat x0 x3).f3)).bind fun aa => (if aa = true then (FaB.l0 k x0 (wrap64 (x3 + 1))) else (some false))) else (none)) else (none)) else (some (decide ((x0.length : Int) ≤ 4)))
end
def FaB.f (k : Nat) (l0 : List (S157)) : Option (Bool) := FaB.l0 k l0 0
theorem FaB.mono_l : ∀ k,(∀ y0 y1,LeO (FaB.l0 k y0 y1) (FaB.l0 (k + 1) y0 y1)) ∧ (∀ y0 y1 y2,LeO (FaB.j1 k y0 y1 y2) (FaB.j1 (k + 1) y0 y1 y2))
 | 0 => ⟨fun _ _ r h => by simp [FaB.l0] at h,fun _ _ _ r h => by simp [FaB.j1] at h⟩
 | k + 1 => by
  obtain ⟨ih0,ih1⟩ := FaB.mono_l k
  refine ⟨?_,?_⟩
  all_goals (intros;first|unfold FaB.l0|unfold FaB.j1)
  all_goals repeat' (first|with_reducible (first|exact ih0 _ _|exact ih1 _ _ _|exact Fbh.mono _ _ _ _ _|exact LeO.refl _|exact LeO.none _|refine LeO.ite ?_ ?_|refine LeO.bind ?_ (fun _ => ?_))|exact LeO.none _|refine LeO.ite ?_ ?_|refine LeO.bind ?_ (fun _ => ?_))
theorem FaB.mono : ∀ a0 k,LeO (FaB.f k a0) (FaB.f (k + 1) a0) := by
 intro a0 k
 obtain ⟨ih0,ih1⟩ := FaB.mono_l k
 unfold FaB.f
 repeat' (first|with_reducible (first|exact ih0 _ _|exact ih1 _ _ _|exact Fbh.mono _ _ _ _ _|exact LeO.refl _|exact LeO.none _|refine LeO.ite ?_ ?_|refine LeO.bind ?_ (fun _ => ?_))|exact LeO.none _|refine LeO.ite ?_ ?_|refine LeO.bind ?_ (fun _ => ?_))
theorem FaB.calls (k : Nat) (A0 : Option Addr) (c0 : Nat) (l0 : List (S157)) (r : Bool) (w : World) (av : Kd.C k157 w A0 l0.length l0) (aw : l0.length ≤ c0) (h : FaB.f k l0 = some r) :
  Calls Tryz.prog 122 #[.slice A0 l0.length c0] w fun e w' => e = .returned (.bool r) ∧ Below w.heap.size w w' := by
 have hu157 := Tryz.underlying157;have ay := aM av;have HC0 := aM aw;clear av aw;have HB := aM (Below.refl w.heap.size w);have H : (FaB.l0 k l0 0) = some r := h;clear h;have H' := aM H;clear H;go_enter Tryz.func122,Tryz.ntmps122;go_wp2;go_loopg [3] k (fun kq v3 w' => ∃ (aa : Int),v3 = .int .i64 aa ∧ Aside0 (FaB.l0 kq l0 aa = some r) ∧ Aside0 (kq ≤ k) ∧ Aside0 (Below w.heap.size w w'))
 case atStart => exact ⟨(0),vR_,H',⟨Nat.le_refl _⟩,⟨wB_⟩⟩
 case round =>
  clear H';obtain ⟨aa,rfl,HA,an,HB⟩ := hrel
  cases gk with
  | zero => exact absurd HA.out (by simp [FaB.l0])
  | succ k1 =>
   have H := HA.out;clear HA;simp only [FaB.l0] at H;have ao := aM H;clear H;go_upto_region 2 with (fail);go_cut [11] (fun az wc => ∃ (kq : Nat) (ab : Bool),az = .bool ab ∧ Aside0 (FaB.j1 kq l0 aa ab = some r) ∧ Aside0 (kq ≤ k1) ∧ Aside0 (Below w.heap.size w wc))
   case first =>
    have H := ao.out;clear ao
    by_cases c3 : aa < (l0.length : Int)
    ·rw [if_pos c3] at H;have ac := dT c3;clear c3;(first|rw [ac]|(simp only [i64_w,i32_w];rw [ac])|skip);have H' := aM H;clear H;go_wp2;go_meet
     case rel => exact ⟨_,(decide (aa ≤ 4)),vR_,H',⟨by have := an.out;first|omega|exact Nat.le_refl _⟩,⟨wB_⟩⟩
    ·rw [if_neg c3] at H;have ac := dF c3;clear c3;(first|rw [ac]|(simp only [i64_w,i32_w];rw [ac])|skip);have H' := aM H;clear H;go_wp2;go_meet
     case rel => exact ⟨_,(false),vR_,H',⟨by have := an.out;first|omega|exact Nat.le_refl _⟩,⟨wB_⟩⟩
   case rest =>
    clear ao;obtain ⟨kq,ab,rfl,HA,ax,HB⟩ := hcut
    cases kq with
    | zero => exact absurd HA.out (by simp [FaB.j1])
    | succ aA =>
     have H := HA.out;clear HA;simp only [FaB.j1] at H
     by_cases c4 : ab = true
     focus
      subst c4;rw [if_pos rfl] at H
      by_cases c5 : 0 ≤ aa
      rotate_left;rw [if_neg c5] at H;exact nH_ H;rw [if_pos c5] at H;have c5b0 := dT c5;clear c5
      by_cases c6 : aa < (l0.length : Int)
      rotate_left;rw [if_neg c6] at H;exact nH_ H;rw [if_pos c6] at H;have c6b0 := dT c6;clear c6;obtain ⟨ap,A7,H⟩ := bE_ H
      by_cases c8 : ap = true
      focus
       subst c8;rw [if_pos rfl] at H;have H' := aM H;clear H
      rotate_left
      focus
       replace c8 := qO.mpr c8;subst c8;rw [if_neg qT] at H;obtain rfl := oI H
     rotate_left 2
     focus
      replace c4 := qO.mpr c4;subst c4;rw [if_neg qT] at H;obtain rfl := oI H
     all_goals
      (try (have ar : 0 ≤ (aa : Int) := oD (by assumption);have au : aa < (l0.length : Int) := oD (by assumption);obtain ⟨ad01,al,am,aC,ad,ae,af,ag,ah,ai⟩ := Fct ay.out aa ar au;cases aC;replace ad := mv_ HB.out ad;replace ae := mv_ HB.out ae;replace af := mv_ HB.out af;replace ag := mv_ HB.out ag;have aj := aM ai;have ak := aM ah;clear ai ah;replace ar := eq_true ar;replace au := eq_true au));go_wp2_with (first|((with_reducible refine gate_callee (f := 163) rfl ?_);refine gl_ (some 18) Tryz.func163 #[.agg #[.slice al ((Fat l0 aa).f0).length am,.string ((Fat l0 aa).f1),.string ((Fat l0 aa).f2),.string ((Fat l0 aa).f3)]] ?_;(with_reducible refine (Fbh.calls _ _ _ _ _ _ _ _ _ ?side1 ?side2 A7.out).mono ?_);(case side1 => exact wX_ aj.out);(case side2 => exact ak.out);rintro e WA7 ⟨rfl,hb⟩;refine ⟨_,rfl,?_⟩;replace HB := aM (lT wB_ hb)))
      first
       |
        go_ret;exact ⟨vR_,wB_⟩
       |
        go_roundg aA
        case measure => have := an.out;have := ax.out;omega
        case rel => exact ⟨(wrap64 (aa + 1)),vR_,H',⟨by have := an.out;have := ax.out;omega⟩,⟨wB_⟩⟩
def Fa5.l0 : Nat → ByteArray → Int → Option (Bool)
 | 0,_,_ => none
 | k + 1,x0,x3 => if x3 < (x0.size : Int) then (if 0 ≤ x3 then (if (bt x0 x3) < 32 then (some false) else (if (bt x0 x3) > 126 then (some false) else (Fa5.l0 k x0 (wrap64 (x3 + 1))))) else (none)) else (if x0.toList = ([] : List UInt8) then (some true) else (if 0 < (x0.size : Int) then (if (bt x0 0) = 32 then (some false) else (if 0 ≤ (wrap64 ((x0.size : Int) - 1)) then (if (wrap64 ((x0.size : Int) - 1)) < (x0.size : Int) then (some ((bt x0 (wrap64 ((x0.size : Int) - 1))) != 32)) else (none)) else (none))) else (none)))
def Fa5.f (k : Nat) (a0 : ByteArray) : Option (Bool) := if (a0.size : Int) > 40 then (some false) else (Fa5.l0 k a0 0)
theorem Fa5.mono_l : ∀ k,(∀ y0 y1,LeO (Fa5.l0 k y0 y1) (Fa5.l0 (k + 1) y0 y1))
 | 0 => fun _ _ r h => by simp [Fa5.l0] at h
 | k + 1 => by
  have ih0 := Fa5.mono_l k
  ·intro y0 y1
   unfold Fa5.l0
   repeat' (first|with_reducible (first|exact ih0 _ _|exact LeO.refl _|exact LeO.none _|refine LeO.ite ?_ ?_|refine LeO.bind ?_ (fun _ => ?_))|exact LeO.none _|refine LeO.ite ?_ ?_|refine LeO.bind ?_ (fun _ => ?_))
theorem Fa5.mono : ∀ a0 k,LeO (Fa5.f k a0) (Fa5.f (k + 1) a0) := by
 intro a0 k
 have ih0 := Fa5.mono_l k
 unfold Fa5.f
 repeat' (first|with_reducible (first|exact ih0 _ _|exact LeO.refl _|exact LeO.none _|refine LeO.ite ?_ ?_|refine LeO.bind ?_ (fun _ => ?_))|exact LeO.none _|refine LeO.ite ?_ ?_|refine LeO.bind ?_ (fun _ => ?_))
theorem Fa5.calls (k : Nat) (a0 : ByteArray) (r : Bool) (w : World) (h : Fa5.f k a0 = some r) :
  Calls Tryz.prog 123 #[.string a0] w fun e w' => e = .returned (.bool r) ∧ Drawn0 w w' := by
 have H : (if (a0.size : Int) > 40 then (some false) else (Fa5.l0 k a0 0)) = some r := h;clear h
 by_cases c2 : (a0.size : Int) > 40
 ·rw [if_pos c2] at H;have aj : decide (40 < (a0.size : Int)) = true := dT c2;have ak : decide (40 < a0.size) = true := dT (by omega);clear c2;obtain rfl := oI H;go_enter Tryz.func123,Tryz.ntmps123;go_wp2;go_ret;exact ⟨vR_,dw_⟩
 ·rw [if_neg c2] at H;have aj : decide (40 < (a0.size : Int)) = false := dF c2;have ak : decide (40 < a0.size) = false := dF (by omega);clear c2;have H' := aM H;clear H;go_enter Tryz.func123,Tryz.ntmps123;go_wp2;go_loopg [3] k (fun kq v3 w' => ∃ (aa : Int),v3 = .int .i64 aa ∧ Aside0 (Fa5.l0 kq a0 aa = some r) ∧ Aside0 (kq ≤ k) ∧ Drawn0 w w')
  case atStart => exact ⟨(0),vR_,H',⟨Nat.le_refl _⟩,dw_⟩
  case round =>
   clear H';obtain ⟨aa,rfl,HA,aw,⟨m1,rfl⟩⟩ := hrel
   cases gk with
   | zero => exact absurd HA.out (by simp [Fa5.l0])
   | succ k1 =>
    have H := HA.out;clear HA;simp only [Fa5.l0] at H
    by_cases c3 : aa < (a0.size : Int)
    ·rw [if_pos c3] at H;have al := dT c3;clear c3
     by_cases c4 : 0 ≤ aa
     ·rw [if_pos c4] at H;have c4b0 := dT c4;clear c4
      by_cases c6 : (bt a0 aa) < 32
      ·rw [if_pos c6] at H;have am := dT c6;clear c6;obtain rfl := oI H;have p5 : 0 ≤ (aa : Int) := oD (by assumption);have q5 : aa < (a0.size : Int) := oD (by assumption);have ax := bt_at a0 aa;replace p5 := eq_true p5;replace q5 := eq_true q5;go_wp2;go_ret;exact ⟨vR_,dw_⟩
      ·rw [if_neg c6] at H;have am := dF c6;clear c6
       by_cases c8 : (bt a0 aa) > 126
       ·rw [if_pos c8] at H;have an : decide (126 < (bt a0 aa)) = true := dT c8;clear c8;obtain rfl := oI H;have p5 : 0 ≤ (aa : Int) := oD (by assumption);have q5 : aa < (a0.size : Int) := oD (by assumption);have ax := bt_at a0 aa;replace p5 := eq_true p5;replace q5 := eq_true q5;have p7 : 0 ≤ (aa : Int) := oD (by assumption);have q7 : aa < (a0.size : Int) := oD (by assumption);have aA := bt_at a0 aa;replace p7 := eq_true p7;replace q7 := eq_true q7;go_wp2;go_ret;exact ⟨vR_,dw_⟩
       ·rw [if_neg c8] at H;have an : decide (126 < (bt a0 aa)) = false := dF c8;clear c8;have H' := aM H;clear H;have p5 : 0 ≤ (aa : Int) := oD (by assumption);have q5 : aa < (a0.size : Int) := oD (by assumption);have ax := bt_at a0 aa;replace p5 := eq_true p5;replace q5 := eq_true q5;have p7 : 0 ≤ (aa : Int) := oD (by assumption);have q7 : aa < (a0.size : Int) := oD (by assumption);have aA := bt_at a0 aa;replace p7 := eq_true p7;replace q7 := eq_true q7;go_wp2;go_roundg k1
        case measure => have := aw.out;omega
        case rel => exact ⟨(wrap64 (aa + 1)),vR_,H',⟨by have := aw.out;omega⟩,dw_⟩
     ·rw [if_neg c4] at H;exact nH_ H
    ·rw [if_neg c3] at H;have al := dF c3;clear c3
     by_cases c9 : a0.toList = ([] : List UInt8)
     ·rw [if_pos c9] at H;have ao := qE.mpr c9;have ap := qN.mpr c9;clear c9;obtain rfl := oI H;go_wp2;go_ret;exact ⟨vR_,dw_⟩
     ·rw [if_neg c9] at H;have ao := qF.mpr c9;have ap := qB.mpr c9
      by_cases c10 : 0 < (a0.size : Int)
      ·rw [if_pos c10] at H;have c10b0 := dT c10;have c10b1 : decide (0 < a0.size) = true := dT (by omega);clear c10
       by_cases ad : (bt a0 0) = 32
       ·rw [if_pos ad] at H;have ae := qE.mpr ad;have af := qN.mpr ad;clear ad;obtain rfl := oI H;have ar : 0 ≤ (0 : Int) := (by omega);have ag : 0 < a0.size := (by have : (0 : Int) < (a0.size : Int) := oD (by assumption);omega);have au : ∀ h : 0 < a0.size,((a0[0]'h).toNat : Int) = bt a0 0 := bt_at a0 0;clear ar;have av : (0 < (a0.size : Int)) = True := eq_true (oD (by assumption));replace ag := eq_true ag;go_wp2;go_ret;exact ⟨vR_,dw_⟩
       ·rw [if_neg ad] at H;have ae := qF.mpr ad;have af := qB.mpr ad;obtain ⟨ab,ac⟩ : ∃ j_ : Int,(wrap64 ((a0.size : Int) - 1)) = j_ := ⟨_,rfl⟩;replace H : (if 0 ≤ (ab) then (if (ab) < (a0.size : Int) then (some ((bt a0 (ab)) != 32)) else (none)) else (none)) = some r := (by first|(rw [ac] at H;exact H)|(simp only [ac] at H ⊢;exact H));have hji13w : (IntKind.i64.wrap ((a0.size : Int) - 1)) = ab := (i64_w _).trans ac
        by_cases ah : 0 ≤ (ab)
        ·rw [if_pos ah] at H;have c14b0 := dT ah;clear ah
         by_cases ai : (ab) < (a0.size : Int)
         ·rw [if_pos ai] at H;have c15b0 := dT ai;clear ai;obtain rfl := oI H;have ar : 0 ≤ (0 : Int) := (by omega);have ag : 0 < a0.size := (by have : (0 : Int) < (a0.size : Int) := oD (by assumption);omega);have au : ∀ h : 0 < a0.size,((a0[0]'h).toNat : Int) = bt a0 0 := bt_at a0 0;clear ar;have av : (0 < (a0.size : Int)) = True := eq_true (oD (by assumption));replace ag := eq_true ag;have ay : 0 ≤ ((ab) : Int) := oD (by assumption);have az : (ab) < (a0.size : Int) := oD (by assumption);have hx16 := bt_at a0 (ab);replace ay := eq_true ay;replace az := eq_true az;go_wp2;go_ret;exact ⟨by first|rfl|(simp;done)|(simp [my_isEmpty];done)|(simp only [← ac] <;> (first|rfl|simp))|(simp [*];done),dw_⟩
         ·rw [if_neg ai] at H;exact nH_ H
        ·rw [if_neg ah] at H;exact nH_ H
      ·rw [if_neg c10] at H;exact nH_ H
def Fbd.j0 : Nat → Bool → Option (Int)
 | 0,_ => none
 | k + 1,aa => if aa = true then (some 29) else (some 28)
def Fbd.f (k : Nat) (a0 : Int) (a1 : Int) : Option (Int) := if a1 = 2 then (if (Int.tmod a0 4) = 0 then (if (Int.tmod a0 100) = 0 then (Fbd.j0 k ((Int.tmod a0 400) == 0)) else (Fbd.j0 k true)) else (Fbd.j0 k ((Int.tmod a0 400) == 0))) else (if a1 = 4 then (some 30) else (if a1 = 6 then (some 30) else (if a1 = 9 then (some 30) else (if a1 = 11 then (some 30) else (some 31)))))
theorem Fbd.mono_l : ∀ k,(∀ y0,LeO (Fbd.j0 k y0) (Fbd.j0 (k + 1) y0))
 | 0 => fun _ r h => by simp [Fbd.j0] at h
 | k + 1 => by
  have ih0 := Fbd.mono_l k
  ·intro y0
   unfold Fbd.j0
   repeat' (first|with_reducible (first|exact ih0 _|exact LeO.refl _|exact LeO.none _|refine LeO.ite ?_ ?_|refine LeO.bind ?_ (fun _ => ?_))|exact LeO.none _|refine LeO.ite ?_ ?_|refine LeO.bind ?_ (fun _ => ?_))
theorem Fbd.mono : ∀ a0 a1 k,LeO (Fbd.f k a0 a1) (Fbd.f (k + 1) a0 a1) := by
 intro a0 a1 k
 have ih0 := Fbd.mono_l k
 unfold Fbd.f
 repeat' (first|with_reducible (first|exact ih0 _|exact LeO.refl _|exact LeO.none _|refine LeO.ite ?_ ?_|refine LeO.bind ?_ (fun _ => ?_))|exact LeO.none _|refine LeO.ite ?_ ?_|refine LeO.bind ?_ (fun _ => ?_))
theorem Fbd.calls (k : Nat) (a0 : Int) (a1 : Int) (r : Int) (w : World) (h : Fbd.f k a0 a1 = some r) :
  Calls Tryz.prog 164 #[.int .i64 a0,.int .i64 a1] w fun e w' => e = .returned (.int .i64 r) ∧ Drawn0 w w' := by
 have H : (if a1 = 2 then (if (Int.tmod a0 4) = 0 then (if (Int.tmod a0 100) = 0 then (Fbd.j0 k ((Int.tmod a0 400) == 0)) else (Fbd.j0 k true)) else (Fbd.j0 k ((Int.tmod a0 400) == 0))) else (if a1 = 4 then (some 30) else (if a1 = 6 then (some 30) else (if a1 = 9 then (some 30) else (if a1 = 11 then (some 30) else (some 31)))))) = some r := h;clear h
 by_cases c3 : a1 = 2
 focus
  rw [if_pos c3] at H;have ah := qE.mpr c3;have ai := qN.mpr c3;clear c3;have aj := aM H;clear H
 rotate_left
 focus
  rw [if_neg c3] at H;have ah := qF.mpr c3;have ai := qB.mpr c3
  by_cases c8 : a1 = 4
  focus
   rw [if_pos c8] at H;have ak := qE.mpr c8;have al := qN.mpr c8;clear c8;obtain rfl := oI H
  rotate_left
  focus
   rw [if_neg c8] at H;have ak := qF.mpr c8;have al := qB.mpr c8
   by_cases c9 : a1 = 6
   focus
    rw [if_pos c9] at H;have am := qE.mpr c9;have an := qN.mpr c9;clear c9;obtain rfl := oI H
   rotate_left
   focus
    rw [if_neg c9] at H;have am := qF.mpr c9;have an := qB.mpr c9
    by_cases c10 : a1 = 9
    focus
     rw [if_pos c10] at H;have ad := qE.mpr c10;have ae := qN.mpr c10;clear c10;obtain rfl := oI H
    rotate_left
    focus
     rw [if_neg c10] at H;have ad := qF.mpr c10;have ae := qB.mpr c10
     by_cases ac : a1 = 11
     focus
      rw [if_pos ac] at H;have af := qE.mpr ac;have ag := qN.mpr ac;clear ac;obtain rfl := oI H
     rotate_left
     focus
      rw [if_neg ac] at H;have af := qF.mpr ac;have ag := qB.mpr ac;obtain rfl := oI H
 all_goals
  go_enter Tryz.func164,Tryz.ntmps164
  first
   |
    go_wp2;go_ret;exact ⟨vR_,dw_⟩
   |
    go_upto_region 2 with (fail);go_cut [19] (fun au wc => ∃ (kq : Nat) (aa : Bool),au = .bool aa ∧ Aside0 (Fbd.j0 kq aa = some r) ∧ Aside0 (kq ≤ k) ∧ Drawn0 w wc)
    case first =>
     have H := aj.out;clear aj
     by_cases c5 : (Int.tmod a0 4) = 0
     focus
      rw [if_pos c5] at H;have ab := qE.mpr c5;have ao := qN.mpr c5;clear c5;(first|rw [ab]|(simp only [i64_w,i32_w];rw [ab])|skip)
      by_cases c6 : (Int.tmod a0 100) = 0
      focus
       rw [if_pos c6] at H;have ap := qE.mpr c6;have ar := qN.mpr c6;clear c6;have H' := aM H;clear H
      rotate_left
      focus
       rw [if_neg c6] at H;have ap := qF.mpr c6;have ar := qB.mpr c6;have H' := aM H;clear H
     rotate_left 2
     focus
      rw [if_neg c5] at H;have ab := qF.mpr c5;have ao := qB.mpr c5;(first|rw [ab]|(simp only [i64_w,i32_w];rw [ab])|skip);have H' := aM H;clear H
     all_goals
      go_wp2;go_meet
      case rel => first|(exact ⟨_,(((Int.tmod a0 400) == 0)),vR_,H',⟨by first|omega|exact Nat.le_refl _⟩,dw_⟩)|(exact ⟨_,(true),vR_,H',⟨by first|omega|exact Nat.le_refl _⟩,dw_⟩)
    case rest =>
     clear aj;obtain ⟨kq,aa,rfl,HA,HJ3,⟨mc3,rfl⟩⟩ := hcut
     cases kq with
     | zero => exact absurd HA.out (by simp [Fbd.j0])
     | succ kj3 =>
      have H := HA.out;clear HA;simp only [Fbd.j0] at H
      by_cases c7 : aa = true
      focus
       subst c7;rw [if_pos rfl] at H;obtain rfl := oI H
      rotate_left
      focus
       replace c7 := qO.mpr c7;subst c7;rw [if_neg qT] at H;obtain rfl := oI H
      all_goals
       go_wp2;go_ret;exact ⟨vR_,dw_⟩
attribute [local go_sem high] eqA39
def Fbk.j0 : Nat → Bool → Int → Int → Int → Bool → Option (Bool)
 | 0,_,_,_,_,_ => none
 | k + 1,x7,ac,aa,ab,ad => if x7 = true then (some false) else (if ad = true then (if aa = 0 then (some (ab == 0)) else (some false)) else (if aa = 0 then (some (ab == 0)) else ((Fbd.f k ac aa).bind fun ae => ((Fbl.f ab 0 ae).bind fun af => (some af)))))
def Fbk.f (k : Nat) (aa : Int) (ab : Int) (ac : Int) (ad : Bool) : Option (Bool) := if (aa == 0 && (ab == 0 && (ac == 0 && (!ad)))) = true then (some true) else ((Fbl.f aa 1 2999).bind fun ae => (if ae = true then ((Fbl.f ab 0 12).bind fun af => (Fbk.j0 k (!af) aa ab ac ad)) else (Fbk.j0 k true aa ab ac ad)))
theorem Fbk.mono_l : ∀ k,(∀ y0 y1 y2 y3 y4,LeO (Fbk.j0 k y0 y1 y2 y3 y4) (Fbk.j0 (k + 1) y0 y1 y2 y3 y4))
 | 0 => fun _ _ _ _ _ r h => by simp [Fbk.j0] at h
 | k + 1 => by
  have ih0 := Fbk.mono_l k
  ·intro y0 y1 y2 y3 y4
   unfold Fbk.j0
   repeat' (first|with_reducible (first|exact ih0 _ _ _ _ _|exact Fbd.mono _ _ _|exact LeO.refl _|exact LeO.none _|refine LeO.ite ?_ ?_|refine LeO.bind ?_ (fun _ => ?_))|exact LeO.none _|refine LeO.ite ?_ ?_|refine LeO.bind ?_ (fun _ => ?_))
theorem Fbk.mono : ∀ a0 a1 a2 a3 k,LeO (Fbk.f k a0 a1 a2 a3) (Fbk.f (k + 1) a0 a1 a2 a3) := by
 intro a0 a1 a2 a3 k
 have ih0 := Fbk.mono_l k
 unfold Fbk.f
 repeat' (first|with_reducible (first|exact ih0 _ _ _ _ _|exact Fbd.mono _ _ _|exact LeO.refl _|exact LeO.none _|refine LeO.ite ?_ ?_|refine LeO.bind ?_ (fun _ => ?_))|exact LeO.none _|refine LeO.ite ?_ ?_|refine LeO.bind ?_ (fun _ => ?_))
theorem Fbk.calls (k : Nat) (ad : Int) (ac : Int) (af : Int) (ae : Bool) (r : Bool) (w : World) (h : Fbk.f k ad ac af ae = some r) :
  Calls Tryz.prog 124 #[.agg #[.int .i64 ad,.int .i64 ac,.int .i64 af,.bool ae]] w fun e w' => e = .returned (.bool r) ∧ Below w.heap.size w w' := by
 have hu39 := Tryz.underlying39;have HB := aM (Below.refl w.heap.size w);have H : (if (ad == 0 && (ac == 0 && (af == 0 && (!ae)))) = true then (some true) else ((Fbl.f ad 1 2999).bind fun aR => (if aR = true then ((Fbl.f ac 0 12).bind fun aT => (Fbk.j0 k (!aT) ad ac af ae)) else (Fbk.j0 k true ad ac af ae)))) = some r := h;clear h
 by_cases c2 : (ad == 0 && (ac == 0 && (af == 0 && (!ae)))) = true
 ·rw [if_pos c2] at H;have a2 : (ad == 0 && (ac == 0 && (af == 0 && (!ae)))) = true := c2;(try (have a3 : decide (ad = 0 && (ac == 0 && (af == 0 && (!ae)))) = true := by simpa using c2));(try (have a4 : (ad == 0 && (ac == 0 && (af == 0 && (!ae)))) = true := by simpa using c2));clear c2;obtain rfl := oI H;go_enter Tryz.func124,Tryz.ntmps124;go_wp2_with (first|((with_reducible refine gate_dst (N := 1) rfl ?_);refine bx_ (N := 1) (cs := #[.int .i64 ad,.int .i64 ac,.int .i64 af,.bool ae]) (t := 39) ?_;intro aa hg w3 hbox hb;have ab := aM (hbox);have ag := aM ((by rw [hg];exact (lZ wB_) : w.heap.size ≤ aa));have ah := ag;replace HB := aM (lT wB_ hb);clear hb hbox hg;obtain ⟨ar,au,av,aw,ax,ay,az,aA⟩ := z4_ ab.out));(repeat (go_quiet (first|((with_reducible refine gate_dst (N := 1) rfl ?_);refine bx_ (N := 1) (cs := #[.int .i64 ad,.int .i64 ac,.int .i64 af,.bool ae]) (t := 39) ?_;intro aa hg w3 hbox hb;have aC := aM (lT wB_ hb);have aD := aM (hbox);have aE := aM ((by rw [hg];exact (lZ wB_) : w.heap.size ≤ aa));have aF := aM ((by rw [hg];exact (lZ wB_) : w.heap.size ≤ aa));clear HB;have HB := aC;have ab := aD;have ag := aE;have ah := aF;clear aC aD aE aF;clear hb hbox hg;obtain ⟨ar,au,av,aw,ax,ay,az,aA⟩ := z4_ ab.out));try go_wp2_with (first|((with_reducible refine gate_dst (N := 1) rfl ?_);refine bx_ (N := 1) (cs := #[.int .i64 ad,.int .i64 ac,.int .i64 af,.bool ae]) (t := 39) ?_;intro aa hg w3 hbox hb;have aC := aM (lT wB_ hb);have aD := aM (hbox);have aE := aM ((by rw [hg];exact (lZ wB_) : w.heap.size ≤ aa));have aF := aM ((by rw [hg];exact (lZ wB_) : w.heap.size ≤ aa));clear HB;have HB := aC;have ab := aD;have ag := aE;have ah := aF;clear aC aD aE aF;clear hb hbox hg;obtain ⟨ar,au,av,aw,ax,ay,az,aA⟩ := z4_ ab.out))));go_ret;exact ⟨vR_,wB_⟩
 ·rw [if_neg c2] at H;have a2 : (ad == 0 && (ac == 0 && (af == 0 && (!ae)))) = false := (by simpa using c2);(try (have a3 : decide (ad = 0 && (ac == 0 && (af == 0 && (!ae)))) = false := by simpa using c2));(try (have a4 : (ad == 0 && (ac == 0 && (af == 0 && (!ae)))) = false := by simpa using c2));(try (have c2b3 : ¬ (ad = 0 && (ac == 0 && (af == 0 && (!ae)))) := by simpa using c2));clear c2;have a5 := aM H;clear H;go_enter Tryz.func124,Tryz.ntmps124;go_upto_region 3 with (first|((with_reducible refine gate_dst (N := 1) rfl ?_);refine bx_ (N := 1) (cs := #[.int .i64 ad,.int .i64 ac,.int .i64 af,.bool ae]) (t := 39) ?_;intro aa hg w6 hbox hb;have ab := aM (hbox);have ag := aM ((by rw [hg];exact (lZ wB_) : w.heap.size ≤ aa));have ah := ag;replace HB := aM (lT wB_ hb);clear hb hbox hg;obtain ⟨aG,aH,aJ,aK,aL,aN,aO,aP⟩ := z4_ ab.out));(repeat (go_quiet (first|((with_reducible refine gate_dst (N := 1) rfl ?_);refine bx_ (N := 1) (cs := #[.int .i64 ad,.int .i64 ac,.int .i64 af,.bool ae]) (t := 39) ?_;intro aa hg w6 hbox hb;have aC := aM (lT wB_ hb);have aD := aM (hbox);have aE := aM ((by rw [hg];exact (lZ wB_) : w.heap.size ≤ aa));have aF := aM ((by rw [hg];exact (lZ wB_) : w.heap.size ≤ aa));clear HB;have HB := aC;have ab := aD;have ag := aE;have ah := aF;clear aC aD aE aF;clear hb hbox hg;obtain ⟨aG,aH,aJ,aK,aL,aN,aO,aP⟩ := z4_ ab.out));go_upto_region 3 with (first|((with_reducible refine gate_dst (N := 1) rfl ?_);refine bx_ (N := 1) (cs := #[.int .i64 ad,.int .i64 ac,.int .i64 af,.bool ae]) (t := 39) ?_;intro aa hg w6 hbox hb;have aC := aM (lT wB_ hb);have aD := aM (hbox);have aE := aM ((by rw [hg];exact (lZ wB_) : w.heap.size ≤ aa));have aF := aM ((by rw [hg];exact (lZ wB_) : w.heap.size ≤ aa));clear HB;have HB := aC;have ab := aD;have ag := aE;have ah := aF;clear aC aD aE aF;clear hb hbox hg;obtain ⟨aG,aH,aJ,aK,aL,aN,aO,aP⟩ := z4_ ab.out))));(try simp only [Act.put,lI,sZ,sS]);go_cut [7] (fun v7 wc => ∃ (kq : Nat) (aQ : Bool),v7 = .bool aQ ∧ Aside0 (Fbk.j0 kq aQ ad ac af ae = some r) ∧ Aside0 (kq ≤ k) ∧ Aside0 (wc.heap[aa]? = some (.cells #[.int .i64 ad,.int .i64 ac,.int .i64 af,.bool ae] 39 (0,0))) ∧ Aside0 (Below w.heap.size w wc))
  case first =>
   have H := a5.out;clear a5;obtain ⟨aR,A8,H⟩ := bE_ H
   by_cases c9 : aR = true
   focus
    subst c9;rw [if_pos rfl] at H;obtain ⟨aT,a6,H⟩ := bE_ H;have H' := aM H;clear H
   rotate_left
   focus
    replace c9 := qO.mpr c9;subst c9;rw [if_neg qT] at H;have H' := aM H;clear H
   all_goals
    obtain ⟨ai,aj,ak,al,am,an,ao,ap⟩ := z4_ ab.out;go_wp2_with (first|(go_at_call 121;(with_reducible refine (Fbl.calls _ _ _ _ _ A8.out).mono ?_);rintro e w' ⟨rfl,⟨nd,rfl⟩⟩;(try first|exact ⟨rfl,_,wD _ _ _⟩|exact ⟨rfl,_,Eq.trans (wD _ _ _) (congrArg (World.drewN _) (Nat.add_assoc _ _ _))⟩))|(go_at_call 121;(with_reducible refine (Fbl.calls _ _ _ _ _ a6.out).mono ?_);rintro e w' ⟨rfl,⟨nd,rfl⟩⟩;(try first|exact ⟨rfl,_,wD _ _ _⟩|exact ⟨rfl,_,Eq.trans (wD _ _ _) (congrArg (World.drewN _) (Nat.add_assoc _ _ _))⟩)))
    first
     |
      (repeat (go_quiet (first|(go_at_call 121;(with_reducible refine (Fbl.calls _ _ _ _ _ A8.out).mono ?_);rintro e w' ⟨rfl,⟨nd,rfl⟩⟩;(try first|exact ⟨rfl,_,wD _ _ _⟩|exact ⟨rfl,_,Eq.trans (wD _ _ _) (congrArg (World.drewN _) (Nat.add_assoc _ _ _))⟩)));try go_wp2_with (first|(go_at_call 121;(with_reducible refine (Fbl.calls _ _ _ _ _ A8.out).mono ?_);rintro e w' ⟨rfl,⟨nd,rfl⟩⟩;(try first|exact ⟨rfl,_,wD _ _ _⟩|exact ⟨rfl,_,Eq.trans (wD _ _ _) (congrArg (World.drewN _) (Nat.add_assoc _ _ _))⟩)))));go_meet
      case rel => exact ⟨_,(true),vR_,H',⟨by first|omega|exact Nat.le_refl _⟩,⟨wC_ ab.out⟩,⟨wB_⟩⟩
     |
      (repeat (go_quiet (first|(go_at_call 121;(with_reducible refine (Fbl.calls _ _ _ _ _ A8.out).mono ?_);rintro e w' ⟨rfl,⟨nd,rfl⟩⟩;(try first|exact ⟨rfl,_,wD _ _ _⟩|exact ⟨rfl,_,Eq.trans (wD _ _ _) (congrArg (World.drewN _) (Nat.add_assoc _ _ _))⟩))|(go_at_call 121;(with_reducible refine (Fbl.calls _ _ _ _ _ a6.out).mono ?_);rintro e w' ⟨rfl,⟨nd,rfl⟩⟩;(try first|exact ⟨rfl,_,wD _ _ _⟩|exact ⟨rfl,_,Eq.trans (wD _ _ _) (congrArg (World.drewN _) (Nat.add_assoc _ _ _))⟩)));try go_wp2_with (first|(go_at_call 121;(with_reducible refine (Fbl.calls _ _ _ _ _ A8.out).mono ?_);rintro e w' ⟨rfl,⟨nd,rfl⟩⟩;(try first|exact ⟨rfl,_,wD _ _ _⟩|exact ⟨rfl,_,Eq.trans (wD _ _ _) (congrArg (World.drewN _) (Nat.add_assoc _ _ _))⟩))|(go_at_call 121;(with_reducible refine (Fbl.calls _ _ _ _ _ a6.out).mono ?_);rintro e w' ⟨rfl,⟨nd,rfl⟩⟩;(try first|exact ⟨rfl,_,wD _ _ _⟩|exact ⟨rfl,_,Eq.trans (wD _ _ _) (congrArg (World.drewN _) (Nat.add_assoc _ _ _))⟩)))));go_meet
      case rel => exact ⟨_,(!aT),vR_,H',⟨by first|omega|exact Nat.le_refl _⟩,⟨wC_ ab.out⟩,⟨wB_⟩⟩
  case rest =>
   clear a5;obtain ⟨kq,aQ,rfl,HA,HJ4,ab,HB⟩ := hcut
   cases kq with
   | zero => exact absurd HA.out (by simp [Fbk.j0])
   | succ kj4 =>
    have H := HA.out;clear HA;simp only [Fbk.j0] at H
    by_cases a0 : aQ = true
    focus
     subst a0;rw [if_pos rfl] at H;obtain rfl := oI H
    rotate_left
    focus
     replace a0 := qO.mpr a0;subst a0;rw [if_neg qT] at H
     by_cases a1 : ae = true
     focus
      subst a1;rw [if_pos rfl] at H
      by_cases aU : ac = 0
      focus
       rw [if_pos aU] at H;have aW := qE.mpr aU;have aX := qN.mpr aU;clear aU;obtain rfl := oI H
      rotate_left
      focus
       rw [if_neg aU] at H;have aW := qF.mpr aU;have aX := qB.mpr aU;obtain rfl := oI H
     rotate_left 2
     focus
      replace a1 := qO.mpr a1;subst a1;rw [if_neg qT] at H
      by_cases aV : ac = 0
      focus
       rw [if_pos aV] at H;have aY := qE.mpr aV;have aZ := qN.mpr aV;clear aV;obtain rfl := oI H
      rotate_left
      focus
       rw [if_neg aV] at H;have aY := qF.mpr aV;have aZ := qB.mpr aV;obtain ⟨t295,a7,H⟩ := bE_ H;obtain ⟨t296,a8,H⟩ := bE_ H;obtain rfl := oI H
    all_goals
     (try obtain ⟨ai,aj,ak,al,am,an,ao,ap⟩ := z4_ ab.out);go_wp2_with (first|(go_at_call 164;(with_reducible refine (Fbd.calls _ _ _ _ _ a7.out).mono ?_);rintro e w' ⟨rfl,⟨nd,rfl⟩⟩;(try first|exact ⟨rfl,_,wD _ _ _⟩|exact ⟨rfl,_,Eq.trans (wD _ _ _) (congrArg (World.drewN _) (Nat.add_assoc _ _ _))⟩))|(go_at_call 121;(with_reducible refine (Fbl.calls _ _ _ _ _ a8.out).mono ?_);rintro e w' ⟨rfl,⟨nd,rfl⟩⟩;(try first|exact ⟨rfl,_,wD _ _ _⟩|exact ⟨rfl,_,Eq.trans (wD _ _ _) (congrArg (World.drewN _) (Nat.add_assoc _ _ _))⟩)))
     first
      |
       (repeat (go_quiet (fail);try go_wp2));go_ret;exact ⟨vR_,wB_⟩
      |
       (repeat (go_quiet (first|(go_at_call 164;(with_reducible refine (Fbd.calls _ _ _ _ _ a7.out).mono ?_);rintro e w' ⟨rfl,⟨nd,rfl⟩⟩;(try first|exact ⟨rfl,_,wD _ _ _⟩|exact ⟨rfl,_,Eq.trans (wD _ _ _) (congrArg (World.drewN _) (Nat.add_assoc _ _ _))⟩))|(go_at_call 121;(with_reducible refine (Fbl.calls _ _ _ _ _ a8.out).mono ?_);rintro e w' ⟨rfl,⟨nd,rfl⟩⟩;(try first|exact ⟨rfl,_,wD _ _ _⟩|exact ⟨rfl,_,Eq.trans (wD _ _ _) (congrArg (World.drewN _) (Nat.add_assoc _ _ _))⟩)));try go_wp2_with (first|(go_at_call 164;(with_reducible refine (Fbd.calls _ _ _ _ _ a7.out).mono ?_);rintro e w' ⟨rfl,⟨nd,rfl⟩⟩;(try first|exact ⟨rfl,_,wD _ _ _⟩|exact ⟨rfl,_,Eq.trans (wD _ _ _) (congrArg (World.drewN _) (Nat.add_assoc _ _ _))⟩))|(go_at_call 121;(with_reducible refine (Fbl.calls _ _ _ _ _ a8.out).mono ?_);rintro e w' ⟨rfl,⟨nd,rfl⟩⟩;(try first|exact ⟨rfl,_,wD _ _ _⟩|exact ⟨rfl,_,Eq.trans (wD _ _ _) (congrArg (World.drewN _) (Nat.add_assoc _ _ _))⟩)))));go_ret;exact ⟨vR_,wB_⟩
mutual
def Fay.j0 : Nat → Bool → ByteArray → Int → List (S157) → List (S157) → ByteArray → ByteArray → ByteArray → Int → Int → Int → Bool → Int → ByteArray → ByteArray → Option (Bool)
 | 0,_,_,_,_,_,_,_,_,_,_,_,_,_,_,_ => none
 | k + 1,av,ae,af,ag,ah,aa,ab,ac,ai,aj,ak,al,am,ad,an => if av = true then (some false) else ((Fa5.f k aa).bind fun ao => (if ao = true then ((Fa5.f k ab).bind fun ap => (if ap = true then ((Fa5.f k ac).bind fun ar => (if ar = true then ((Fa5.f k ad).bind fun au => (Fay.j1 k (!au) ae af ag ah aa ab ac ai aj ak al am ad an)) else (Fay.j1 k true ae af ag ah aa ab ac ai aj ak al am ad an))) else (Fay.j1 k true ae af ag ah aa ab ac ai aj ak al am ad an))) else (Fay.j1 k true ae af ag ah aa ab ac ai aj ak al am ad an)))
def Fay.j1 : Nat → Bool → ByteArray → Int → List (S157) → List (S157) → ByteArray → ByteArray → ByteArray → Int → Int → Int → Bool → Int → ByteArray → ByteArray → Option (Bool)
 | 0,_,_,_,_,_,_,_,_,_,_,_,_,_,_,_ => none
 | k + 1,ak,ab,x298001,x298002,x298003,x298004,x298005,x298006,ac,ad,ae,af,ag,x298012,aa => if ak = true then (some false) else ((Fbk.f k ac ad ae af).bind fun ah => (if ah = true then ((Fbl.f ag 0 9999).bind fun ai => (if ai = true then (if aa.toList = ([] : List UInt8) then (some true) else ((FaJ.f k aa).bind fun aj => (if aj = true then (some (aa.toList != ab.toList)) else (some false)))) else (some false))) else (some false)))
end
def Fay.f (k : Nat) (ae : ByteArray) (af : Int) (ag : List (S157)) (ah : List (S157)) (ai : ByteArray) (aj : ByteArray) (ak : ByteArray) (al : Int) (am : Int) (an : Int) (aa : Bool) (ab : Int) (ac : ByteArray) (ad : ByteArray) : Option (Bool) := (FaJ.f k ae).bind fun ao => (if ao = true then ((Fbl.f af 1 4).bind fun ap => (if ap = true then ((FaB.f k ag).bind fun ar => (if ar = true then ((FaB.f k ah).bind fun au => (Fay.j0 k (!au) ae af ag ah ai aj ak al am an aa ab ac ad)) else (Fay.j0 k true ae af ag ah ai aj ak al am an aa ab ac ad))) else (Fay.j0 k true ae af ag ah ai aj ak al am an aa ab ac ad))) else (Fay.j0 k true ae af ag ah ai aj ak al am an aa ab ac ad))
theorem Fay.mono_l : ∀ k,(∀ y0 y1 y2 y3 y4 y5 y6 y7 y8 y9 aa ab ac ad ae,LeO (Fay.j0 k y0 y1 y2 y3 y4 y5 y6 y7 y8 y9 aa ab ac ad ae) (Fay.j0 (k + 1) y0 y1 y2 y3 y4 y5 y6 y7 y8 y9 aa ab ac ad ae)) ∧ (∀ y0 y1 y2 y3 y4 y5 y6 y7 y8 y9 aa ab ac ad ae,LeO (Fay.j1 k y0 y1 y2 y3 y4 y5 y6 y7 y8 y9 aa ab ac ad ae) (Fay.j1 (k + 1) y0 y1 y2 y3 y4 y5 y6 y7 y8 y9 aa ab ac ad ae))
 | 0 => ⟨fun _ _ _ _ _ _ _ _ _ _ _ _ _ _ _ r h => by simp [Fay.j0] at h,fun _ _ _ _ _ _ _ _ _ _ _ _ _ _ _ r h => by simp [Fay.j1] at h⟩
 | k + 1 => by
  obtain ⟨ih0,ih1⟩ := Fay.mono_l k
  refine ⟨?_,?_⟩
  all_goals (intros;first|unfold Fay.j0|unfold Fay.j1)
  all_goals repeat' (first|with_reducible (first|exact ih0 _ _ _ _ _ _ _ _ _ _ _ _ _ _ _|exact ih1 _ _ _ _ _ _ _ _ _ _ _ _ _ _ _|exact FaB.mono _ _|exact Fbk.mono _ _ _ _ _|exact FaJ.mono _ _|exact Fa5.mono _ _|exact LeO.refl _|exact LeO.none _|refine LeO.ite ?_ ?_|refine LeO.bind ?_ (fun _ => ?_))|exact LeO.none _|refine LeO.ite ?_ ?_|refine LeO.bind ?_ (fun _ => ?_))
theorem Fay.mono : ∀ a0 a1 a2 a3 a4 a5 a6 a7 a8 a9 aa ab ac ad k,LeO (Fay.f k a0 a1 a2 a3 a4 a5 a6 a7 a8 a9 aa ab ac ad) (Fay.f (k + 1) a0 a1 a2 a3 a4 a5 a6 a7 a8 a9 aa ab ac ad) := by
 intro a0 a1 a2 a3 a4 a5 a6 a7 a8 a9 aa ab ac ad k
 obtain ⟨ih0,ih1⟩ := Fay.mono_l k
 unfold Fay.f
 repeat' (first|with_reducible (first|exact ih0 _ _ _ _ _ _ _ _ _ _ _ _ _ _ _|exact ih1 _ _ _ _ _ _ _ _ _ _ _ _ _ _ _|exact FaB.mono _ _|exact Fbk.mono _ _ _ _ _|exact FaJ.mono _ _|exact Fa5.mono _ _|exact LeO.refl _|exact LeO.none _|refine LeO.ite ?_ ?_|refine LeO.bind ?_ (fun _ => ?_))|exact LeO.none _|refine LeO.ite ?_ ?_|refine LeO.bind ?_ (fun _ => ?_))
theorem Fay.calls (k : Nat) (ah : ByteArray) (ai : Int) (a0 : Option Addr) (a1 : Nat) (af : List (S157)) (a2 : Option Addr) (a3 : Nat) (ag : List (S157)) (aj : ByteArray) (an : ByteArray) (ao : ByteArray) (ak : Int) (al : Int) (am : Int) (ab : Bool) (ad : Int) (ae : ByteArray) (ac : ByteArray) (r : Bool) (w : World) (a5 : Kd.C k157 w a0 af.length af) (a6 : af.length ≤ a1) (a7 : Kd.C k157 w a2 ag.length ag) (a8 : ag.length ≤ a3) (h : Fay.f k ah ai af ag aj an ao ak al am ab ad ae ac = some r) :
  Calls Tryz.prog 60 #[.agg #[.string ah,.int .i64 ai,.slice a0 af.length a1,.slice a2 ag.length a3,.string aj,.string an,.string ao,.int .i64 ak,.int .i64 al,.int .i64 am,.bool ab,.int .i64 ad,.string ae,.string ac]] w fun e w' => e = .returned (.bool r) ∧ Below w.heap.size w w' := by
 have hu41 := Tryz.underlying41;have hu39 := Tryz.underlying39;have bf := aM a5;have bg := aM a6;clear a5 a6;have bh := aM a7;have bi := aM a8;clear a7 a8;have HB := aM (Below.refl w.heap.size w);have H : ((FaJ.f k ah).bind fun a9 => (if a9 = true then ((Fbl.f ai 1 4).bind fun ba => (if ba = true then ((FaB.f k af).bind fun bb => (if bb = true then ((FaB.f k ag).bind fun bc => (Fay.j0 k (!bc) ah ai af ag aj an ao ak al am ab ad ae ac)) else (Fay.j0 k true ah ai af ag aj an ao ak al am ab ad ae ac))) else (Fay.j0 k true ah ai af ag aj an ao ak al am ab ad ae ac))) else (Fay.j0 k true ah ai af ag aj an ao ak al am ab ad ae ac))) = some r := h;clear h;have bv := aM H;clear H;go_enter Tryz.func60,Tryz.ntmps60;go_upto_region 1 with (first|((with_reducible refine gate_dst (N := 1) rfl ?_);refine bx_ (N := 1) (cs := #[.string ah,.int .i64 ai,.slice a0 af.length a1,.slice a2 ag.length a3,.string aj,.string an,.string ao,.int .i64 ak,.int .i64 al,.int .i64 am,.bool ab,.int .i64 ad,.string ae,.string ac]) (t := 41) ?_;intro a4 hg w3 hbox hb;have aa := aM (hbox);have bj := aM ((by rw [hg];exact (lZ wB_) : w.heap.size ≤ a4));have GE297 := bj;replace HB := aM (lT wB_ hb);clear hb hbox hg));(try simp only [Act.put,lI,sZ,sS]);go_cut [24] (fun bK wc => ∃ (kq : Nat) (aZ : Bool),bK = .bool aZ ∧ Aside0 (Fay.j0 kq aZ ah ai af ag aj an ao ak al am ab ad ae ac = some r) ∧ Aside0 (kq ≤ k) ∧ Aside0 (wc.heap[a4]? = some (.cells #[.string ah,.int .i64 ai,(.slice a0 af.length a1),(.slice a2 ag.length a3),.string aj,.string an,.string ao,.int .i64 ak,.int .i64 al,.int .i64 am,.bool ab,.int .i64 ad,.string ae,.string ac] 41 (0,0))) ∧ Aside0 (Below w.heap.size w wc))
 case first =>
  have H := bv.out;clear bv;obtain ⟨a9,A4,H⟩ := bE_ H
  by_cases c5 : a9 = true
  focus
   subst c5;rw [if_pos rfl] at H;obtain ⟨ba,A6,H⟩ := bE_ H
   by_cases c7 : ba = true
   focus
    subst c7;rw [if_pos rfl] at H;obtain ⟨bb,A8,H⟩ := bE_ H
    by_cases c9 : bb = true
    focus
     subst c9;rw [if_pos rfl] at H;obtain ⟨bc,bL,H⟩ := bE_ H;have H' := aM H;clear H
    rotate_left
    focus
     replace c9 := qO.mpr c9;subst c9;rw [if_neg qT] at H;have H' := aM H;clear H
   rotate_left 2
   focus
    replace c7 := qO.mpr c7;subst c7;rw [if_neg qT] at H;have H' := aM H;clear H
  rotate_left 3
  focus
   replace c5 := qO.mpr c5;subst c5;rw [if_neg qT] at H;have H' := aM H;clear H
  all_goals
   obtain ⟨aA,aC,aD,aE,aF,aG,aH,aJ,aK,aL,ap,ar,au,av,aN,aO,aP,aQ,aR,aT,aU,aV,aW,aX,aw,ax,ay,az⟩ := z14_ aa.out;go_wp2_with (first|((with_reducible refine gate_callee (f := 120) rfl ?_);refine gl_ (some 5) Tryz.func120 #[.string ah] ?_;(with_reducible refine (FaJ.calls _ _ _ _ A4.out).mono ?_);rintro e w' ⟨rfl,⟨nd,rfl⟩⟩;refine ⟨_,rfl,?_⟩)|(go_at_call 121;(with_reducible refine (Fbl.calls _ _ _ _ _ A6.out).mono ?_);rintro e w' ⟨rfl,⟨nd,rfl⟩⟩)|(go_at_call 122;(with_reducible refine (FaB.calls _ _ _ _ _ _ ?side1 ?side2 A8.out).mono ?_);(case side1 => repeat (first|exact (cB bf.out wB_)|(with_reducible first|refine cA ?_ _|refine cN ?_ _|refine cD ?_)));(case side2 => exact bg.out);rintro e WA8 ⟨rfl,hb⟩;replace aa := aM (bw_ aa.out hb);replace HB := aM (lT wB_ hb);obtain ⟨_,_,_,_,_,_,_,_,_,_,_,_,_,_,_,_,_,_,_,_,_,_,_,_,_,_,_,_⟩ := z14_ aa.out)|(go_at_call 122;(with_reducible refine (FaB.calls _ _ _ _ _ _ ?side1 ?side2 bL.out).mono ?_);(case side1 => exact wX_ bh.out);(case side2 => exact bi.out);rintro e WA10 ⟨rfl,hb⟩;replace aa := aM (bw_ aa.out hb);replace HB := aM (lT wB_ hb)));go_meet
   case rel => first|(exact ⟨_,(!bc),vR_,H',⟨by first|omega|exact Nat.le_refl _⟩,⟨wC_ aa.out⟩,⟨wB_⟩⟩)|(exact ⟨_,(true),vR_,H',⟨by first|omega|exact Nat.le_refl _⟩,⟨wC_ aa.out⟩,⟨wB_⟩⟩)
 case rest =>
  clear bv;obtain ⟨kq,aZ,rfl,HA,bJ,aa,HB⟩ := hcut
  cases kq with
  | zero => exact absurd HA.out (by simp [Fay.j0])
  | succ bM =>
   have H := HA.out;clear HA;simp only [Fay.j0] at H
   by_cases bm : aZ = true
   ·subst bm;rw [if_pos rfl] at H;obtain rfl := oI H;go_wp2;go_ret;exact ⟨vR_,wB_⟩
   ·replace bm := qO.mpr bm;subst bm;rw [if_neg qT] at H;have bd := aM H;clear H;go_upto_region 3 with (fail);go_cut [46] (fun bO wc => ∃ (kq : Nat) (aY : Bool),bO = .bool aY ∧ Aside0 (Fay.j1 kq aY ah ai af ag aj an ao ak al am ab ad ae ac = some r) ∧ Aside0 (kq ≤ bM) ∧ Aside0 (wc.heap[a4]? = some (.cells #[.string ah,.int .i64 ai,(.slice a0 af.length a1),(.slice a2 ag.length a3),.string aj,.string an,.string ao,.int .i64 ak,.int .i64 al,.int .i64 am,.bool ab,.int .i64 ad,.string ae,.string ac] 41 (0,0))) ∧ Aside0 (Below w.heap.size w wc))
    case first =>
     have H := bd.out;clear bd;obtain ⟨bw,bP,H⟩ := bE_ H
     by_cases bn : bw = true
     focus
      subst bn;rw [if_pos rfl] at H;obtain ⟨bz,bQ,H⟩ := bE_ H
      by_cases bo : bz = true
      focus
       subst bo;rw [if_pos rfl] at H;obtain ⟨bB,bR,H⟩ := bE_ H
       by_cases bp : bB = true
       focus
        subst bp;rw [if_pos rfl] at H;obtain ⟨bE,bS,H⟩ := bE_ H;have H' := aM H;clear H
       rotate_left
       focus
        replace bp := qO.mpr bp;subst bp;rw [if_neg qT] at H;have H' := aM H;clear H
      rotate_left 2
      focus
       replace bo := qO.mpr bo;subst bo;rw [if_neg qT] at H;have H' := aM H;clear H
     rotate_left 3
     focus
      replace bn := qO.mpr bn;subst bn;rw [if_neg qT] at H;have H' := aM H;clear H
     all_goals
      obtain ⟨aA,aC,aD,aE,aF,aG,aH,aJ,aK,aL,ap,ar,au,av,aN,aO,aP,aQ,aR,aT,aU,aV,aW,aX,aw,ax,ay,az⟩ := z14_ aa.out;go_wp2_with (first|((with_reducible refine gate_callee (f := 123) rfl ?_);refine gl_ (some 27) Tryz.func123 #[.string aj] ?_;(with_reducible refine (Fa5.calls _ _ _ _ bP.out).mono ?_);rintro e w' ⟨rfl,⟨nd,rfl⟩⟩;refine ⟨_,rfl,?_⟩)|(go_at_call 123;(with_reducible refine (Fa5.calls _ _ _ _ bQ.out).mono ?_);rintro e w' ⟨rfl,⟨nd,rfl⟩⟩)|(go_at_call 123;(with_reducible refine (Fa5.calls _ _ _ _ bR.out).mono ?_);rintro e w' ⟨rfl,⟨nd,rfl⟩⟩)|(go_at_call 123;(with_reducible refine (Fa5.calls _ _ _ _ bS.out).mono ?_);rintro e w' ⟨rfl,⟨nd,rfl⟩⟩));go_meet
      case rel => first|(exact ⟨_,(!bE),vR_,H',⟨by have := bJ.out;first|omega|exact Nat.le_refl _⟩,⟨wC_ aa.out⟩,⟨wB_⟩⟩)|(exact ⟨_,(true),vR_,H',⟨by have := bJ.out;first|omega|exact Nat.le_refl _⟩,⟨wC_ aa.out⟩,⟨wB_⟩⟩)
    case rest =>
     clear bd;obtain ⟨kq,aY,rfl,HA,HJ19,aa,HB⟩ := hcut
     cases kq with
     | zero => exact absurd HA.out (by simp [Fay.j1])
     | succ kj19 =>
      have H := HA.out;clear HA;simp only [Fay.j1] at H
      by_cases bq : aY = true
      focus
       subst bq;rw [if_pos rfl] at H;obtain rfl := oI H
      rotate_left
      focus
       replace bq := qO.mpr bq;subst bq;rw [if_neg qT] at H;obtain ⟨bG,bT,H⟩ := bE_ H
       by_cases br : bG = true
       focus
        subst br;rw [if_pos rfl] at H;obtain ⟨bH,bU,H⟩ := bE_ H
        by_cases bs : bH = true
        focus
         subst bs;rw [if_pos rfl] at H
         by_cases be : ac.toList = ([] : List UInt8)
         focus
          rw [if_pos be] at H;have bk := qE.mpr be;have bl := qN.mpr be;clear be;obtain rfl := oI H
         rotate_left
         focus
          rw [if_neg be] at H;have bk := qF.mpr be;have bl := qB.mpr be;obtain ⟨bI,bV,H⟩ := bE_ H
          by_cases bu : bI = true
          focus
           subst bu;rw [if_pos rfl] at H;obtain rfl := oI H
          rotate_left
          focus
           replace bu := qO.mpr bu;subst bu;rw [if_neg qT] at H;obtain rfl := oI H
        rotate_left 3
        focus
         replace bs := qO.mpr bs;subst bs;rw [if_neg qT] at H;obtain rfl := oI H
       rotate_left 4
       focus
        replace br := qO.mpr br;subst br;rw [if_neg qT] at H;obtain rfl := oI H
      all_goals
       (try obtain ⟨aA,aC,aD,aE,aF,aG,aH,aJ,aK,aL,ap,ar,au,av,aN,aO,aP,aQ,aR,aT,aU,aV,aW,aX,aw,ax,ay,az⟩ := z14_ aa.out);go_wp2_with (first|((with_reducible refine gate_callee (f := 124) rfl ?_);refine gl_ (some 49) Tryz.func124 #[.agg #[.int .i64 ak,.int .i64 al,.int .i64 am,.bool ab]] ?_;(with_reducible refine (Fbk.calls _ _ _ _ _ _ _ bT.out).mono ?_);rintro e WA33 ⟨rfl,hb⟩;refine ⟨_,rfl,?_⟩;replace aa := aM (bw_ aa.out hb);replace HB := aM (lT wB_ hb);obtain ⟨_,_,_,_,_,_,_,_,_,_,_,_,_,_,_,_,_,_,_,_,_,_,_,_,_,_,_,_⟩ := z14_ aa.out)|(go_at_call 121;(with_reducible refine (Fbl.calls _ _ _ _ _ bU.out).mono ?_);rintro e w' ⟨rfl,⟨nd,rfl⟩⟩)|(go_at_call 120;(with_reducible refine (FaJ.calls _ _ _ _ bV.out).mono ?_);rintro e w' ⟨rfl,⟨nd,rfl⟩⟩));go_ret;exact ⟨vR_,wB_⟩
end Go.Proofs.YtmafmhgmdegplaaGreatDoor.P
