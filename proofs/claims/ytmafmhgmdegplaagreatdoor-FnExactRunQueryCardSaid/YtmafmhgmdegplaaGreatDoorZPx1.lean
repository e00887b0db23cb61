/- Walks: each Go function computes the Lean function beside it; conditions: those of each theorem. -/
import Derived.Test.YtmafmhgmdegplaaGreatDoorZPx0
namespace Go.Proofs.YtmafmhgmdegplaaGreatDoor.P
open Go.RowKit Go.Proofs.YtmafmhgmdegplaaGreatDoorW.PrintWords Go.Proofs.YtmafmhgmdegplaaGreatDoorW.PrintLast Go.Proofs.YtmafmhgmdegplaaGreatDoorW.PrintMore
attribute [local go_sem] max2_int min2_int max_two min_two max_three min_three max_four min_four   -- for this text's walks alone
set_option linter.unusedVariables false
set_option linter.unusedSimpArgs false
set_option maxHeartbeats 8000000
set_option maxRecDepth 100000
theorem eqA39 (d : Nat) (w : World) (x0 y0 : Int) (x1 y1 : Int) (x2 y2 : Int) (x3 y3 : Bool) :
  (Op.equalIn (d + 2) 39 (.agg #[.int .i64 x0,.int .i64 x1,.int .i64 x2,.bool x3]) (.agg #[.int .i64 y0,.int .i64 y1,.int .i64 y2,.bool y3])).run Tryz.prog w = .ok (x0 == y0 && (x1 == y1 && (x2 == y2 && (x3 == y3)))) w := by
 refine eqA_of Tryz.underlying39 (by kernel_rfl) ?_;refine eqf_cons (by rfl) (by go_simp;rfl) (by go_simp;rfl) (by go_simp) ?_;refine eqf_cons (by rfl) (by go_simp;rfl) (by go_simp;rfl) (by go_simp) ?_;refine eqf_cons (by rfl) (by go_simp;rfl) (by go_simp;rfl) (by go_simp) ?_;exact eqf_last (by rfl) (by go_simp;rfl) (by go_simp;rfl) (by go_simp)
mutual
def FaC.l0 : Nat → List (S24) → Int → Int → Option (Int)
 | 0,_,_,_ => none
 | k + 1,x0,x1,x5 => if x5 < (x0.length : Int) then (if 0 ≤ x5 then ((Fbm.f k ((Fbv x0 x5).f0) ((Fbv x0 x5).f1) ((Fbv x0 x5).f2) ((Fbv x0 x5).f3) x1).bind fun aa => (if aa < 0 then (some (-1)) else (FaC.l0 k x0 aa (wrap64 (x5 + 1))))) else (none)) else (some x1)
def FaC.f : Nat → List (S24) → Int → Option (Int)
 | 0,_,_ => none
 | k + 1,l0,a1 => if (wrap64 (a1 - (l0.length : Int))) < 0 then (some (-1)) else (FaC.l0 k l0 (wrap64 (a1 - (l0.length : Int))) 0)
def Fbm.f : Nat → Int → ByteArray → ByteArray → List (S24) → Int → Option (Int)
 | 0,_,_,_,_,_ => none
 | k + 1,a0_0,aa,ab,ad,a1 => if (wrap64 (a1 - (aa.size : Int))) < 0 then (some (-1)) else (if (wrap64 ((wrap64 (a1 - (aa.size : Int))) - (ab.size : Int))) < 0 then (some (-1)) else ((FaC.f k ad (wrap64 ((wrap64 (a1 - (aa.size : Int))) - (ab.size : Int)))).bind fun ac => (if ac < 0 then (some (-1)) else (some ac))))
end
theorem FaC.mono_l : ∀ k,(∀ y0 y1,LeO (FaC.f k y0 y1) (FaC.f (k + 1) y0 y1)) ∧ (∀ y0 y1 y2,LeO (FaC.l0 k y0 y1 y2) (FaC.l0 (k + 1) y0 y1 y2)) ∧ (∀ y0 y1 y2 y3 y4,LeO (Fbm.f k y0 y1 y2 y3 y4) (Fbm.f (k + 1) y0 y1 y2 y3 y4))
 | 0 => ⟨fun _ _ r h => by simp [FaC.f] at h,fun _ _ _ r h => by simp [FaC.l0] at h,fun _ _ _ _ _ r h => by simp [Fbm.f] at h⟩
 | k + 1 => by
  obtain ⟨ih0,ih1,ih2⟩ := FaC.mono_l k
  refine ⟨?_,?_,?_⟩
  all_goals (intros;first|unfold FaC.f|unfold FaC.l0|unfold Fbm.f)
  all_goals repeat' (first|with_reducible (first|exact ih0 _ _|exact ih1 _ _ _|exact ih2 _ _ _ _ _|exact LeO.refl _|exact LeO.none _|refine LeO.ite ?_ ?_|refine LeO.bind ?_ (fun _ => ?_))|exact LeO.none _|refine LeO.ite ?_ ?_|refine LeO.bind ?_ (fun _ => ?_))
theorem FaC.mono : ∀ a0 a1 k,LeO (FaC.f k a0 a1) (FaC.f (k + 1) a0 a1) := by
 intro a0 a1 k;obtain ⟨ih0,ih1,ih2⟩ := FaC.mono_l k;exact ih0 a0 a1
theorem Fbm.mono : ∀ a0 a1 a2 a3 a4 k,LeO (Fbm.f k a0 a1 a2 a3 a4) (Fbm.f (k + 1) a0 a1 a2 a3 a4) := by
 intro a0 a1 a2 a3 a4 k;obtain ⟨ih0,ih1,ih2⟩ := FaC.mono_l k;exact ih2 a0 a1 a2 a3 a4
theorem FaC.both (k : Nat) : (∀ (A0 : Option Addr) (c0 : Nat) (l0 : List (S24)) (a1 : Int) (r : Int) (w : World) (hr0 : Kd.C k24 w A0 l0.length l0) (hc0 : l0.length ≤ c0) (h : FaC.f k l0 a1 = some r),
  Calls Tryz.prog 57 #[.slice A0 l0.length c0,.int .i64 a1] w fun e w' => e = .returned (.int .i64 r) ∧ Below w.heap.size w w') ∧ (∀ (au : Int) (ab : ByteArray) (ad : ByteArray) (ae : Option Addr) (af : Nat) (ac : List (S24)) (a1 : Int) (r : Int) (w : World) (ag : Kd.C k24 w ae ac.length ac) (ah : ac.length ≤ af) (h : Fbm.f k au ab ad ac a1 = some r),
  Calls Tryz.prog 9 #[.agg #[.int .i64 au,.string ab,.string ad,.slice ae ac.length af],.int .i64 a1] w fun e w' => e = .returned (.int .i64 r) ∧ Below w.heap.size w w') := by
 induction k using Nat.strongRecOn with
 | _ k ih0 =>
 refine ⟨?_,?_⟩
 ·have ih := fun j (hj : j < k) => (ih0 j hj).1;have ihP := fun j (hj : j < k) => (ih0 j hj).2;clear ih0;intro A0 c0 l0 a1 r w hr0 hc0 h
  cases k with
  | zero => exact absurd h (by simp [FaC.f])
  | succ k =>
  simp only [FaC.f] at h;have hu24 := Tryz.underlying24;have HR0 := aM hr0;have HC0 := aM hc0;clear hr0 hc0;have HB := aM (Below.refl w.heap.size w);have H : (if (wrap64 (a1 - (l0.length : Int))) < 0 then (some (-1)) else (FaC.l0 k l0 (wrap64 (a1 - (l0.length : Int))) 0)) = some r := h;clear h
  by_cases c3 : (wrap64 (a1 - (l0.length : Int))) < 0
  ·rw [if_pos c3] at H;have av := dT c3;clear c3;obtain rfl := oI H;go_enter Tryz.func57,Tryz.ntmps57;go_wp2;go_ret;exact ⟨vR_,wB_⟩
  ·rw [if_neg c3] at H;have av := dF c3;clear c3;have H' := aM H;clear H;go_enter Tryz.func57,Tryz.ntmps57;go_wp2;go_loopg [1,5] k (fun kq v1 v5 w' => ∃ (ai : Int) (aa : Int),v1 = .int .i64 ai ∧ v5 = .int .i64 aa ∧ Aside0 (FaC.l0 kq l0 ai aa = some r) ∧ Aside0 (kq ≤ k) ∧ Aside0 (Below w.heap.size w w'))
   case atStart => exact ⟨(wrap64 (a1 - (l0.length : Int))),(0),vR_,vR_,H',⟨Nat.le_refl _⟩,⟨wB_⟩⟩
   case round =>
    clear H';obtain ⟨ai,aa,rfl,rfl,HA,aH,HB⟩ := hrel
    cases gk with
    | zero => exact absurd HA.out (by simp [FaC.l0])
    | succ k1 =>
     have H := HA.out;clear HA;simp only [FaC.l0] at H
     by_cases c4 : aa < (l0.length : Int)
     focus
      rw [if_pos c4] at H;have aJ := dT c4;clear c4
      by_cases c5 : 0 ≤ aa
      rotate_left;rw [if_neg c5] at H;exact nH_ H;rw [if_pos c5] at H;have c5b0 := dT c5;clear c5;obtain ⟨aw,A6,H⟩ := bE_ H
      by_cases c7 : aw < 0
      focus
       rw [if_pos c7] at H;have aK := dT c7;clear c7;obtain rfl := oI H
      rotate_left
      focus
       rw [if_neg c7] at H;have aK := dF c7;clear c7;have H' := aM H;clear H
     rotate_left 2
     focus
      rw [if_neg c4] at H;have aJ := dF c4;clear c4;obtain rfl := oI H
     all_goals
      (try (have aL : 0 ≤ (aa : Int) := oD (by assumption);have aN : aa < (l0.length : Int) := oD (by assumption);obtain ⟨ad01,az,aA,aP,aj,ak,al,am,an,ao⟩ := Fcx HR0.out aa aL aN;cases aP;replace aj := mv_ HB.out aj;replace ak := mv_ HB.out ak;replace al := mv_ HB.out al;replace am := mv_ HB.out am;have ax := aM ao;have ay := aM an;clear ao an;replace aL := eq_true aL;replace aN := eq_true aN));go_wp2_with (first|((with_reducible refine gate_callee (f := 9) rfl ?_);refine gl_ (some 23) Tryz.func9 #[.agg #[.int .i64 ((Fbv l0 aa).f0),.string ((Fbv l0 aa).f1),.string ((Fbv l0 aa).f2),.slice az ((Fbv l0 aa).f3).length aA],.int .i64 ai] ?_;(with_reducible refine (ihP k1 (by have := aH.out;omega) ((Fbv l0 aa).f0) ((Fbv l0 aa).f1) ((Fbv l0 aa).f2) _ _ ((Fbv l0 aa).f3) ai aw _ ?side1 ?side2 A6.out).mono ?_);(case side1 => exact wX_ ax.out);(case side2 => exact ay.out);rintro e WA6 ⟨rfl,hb⟩;refine ⟨_,rfl,?_⟩;replace HB := aM (lT wB_ hb)))
      first
       |
        go_ret;exact ⟨vR_,wB_⟩
       |
        go_roundg k1
        case measure => have := aH.out;omega
        case rel => exact ⟨(aw),(wrap64 (aa + 1)),vR_,vR_,H',⟨by have := aH.out;omega⟩,⟨wB_⟩⟩
 ·have ih := fun j (hj : j < k) => (ih0 j hj).2;have ihP := fun j (hj : j < k) => (ih0 j hj).1;clear ih0;intro au ab ad ae af ac a1 r w ag ah h
  cases k with
  | zero => exact absurd h (by simp [Fbm.f])
  | succ k =>
  simp only [Fbm.f] at h;have hu24 := Tryz.underlying24;have aC := aM ag;have aD := aM ah;clear ag ah;have HB := aM (Below.refl w.heap.size w);have H : (if (wrap64 (a1 - (ab.size : Int))) < 0 then (some (-1)) else (if (wrap64 ((wrap64 (a1 - (ab.size : Int))) - (ad.size : Int))) < 0 then (some (-1)) else ((FaC.f k ac (wrap64 ((wrap64 (a1 - (ab.size : Int))) - (ad.size : Int)))).bind fun ap => (if ap < 0 then (some (-1)) else (some ap))))) = some r := h;clear h
  by_cases c3 : (wrap64 (a1 - (ab.size : Int))) < 0
  focus
   rw [if_pos c3] at H;have av : decide ((wrap64 (a1 - (ab.size : Int))) < 0) = true := dT c3;clear c3;obtain rfl := oI H
  rotate_left
  focus
   rw [if_neg c3] at H;have av : decide ((wrap64 (a1 - (ab.size : Int))) < 0) = false := dF c3;clear c3
   by_cases c6 : (wrap64 ((wrap64 (a1 - (ab.size : Int))) - (ad.size : Int))) < 0
   focus
    rw [if_pos c6] at H;have aO := dT c6;clear c6;obtain rfl := oI H
   rotate_left
   focus
    rw [if_neg c6] at H;have aO := dF c6;clear c6;obtain ⟨ap,A9,H⟩ := bE_ H
    by_cases c10 : ap < 0
    focus
     rw [if_pos c10] at H;have aE := dT c10;clear c10;obtain rfl := oI H
    rotate_left
    focus
     rw [if_neg c10] at H;have aE := dF c10;clear c10;obtain rfl := oI H
  all_goals
   go_enter Tryz.func9,Tryz.ntmps9;go_wp2_with (first|((with_reducible refine gate_dst (N := 2) rfl ?_);refine bx_ (N := 2) (cs := #[.int .i64 au,.string ab,.string ad,.slice ae ac.length af]) (t := 24) ?_;intro aF hg Wgb103 hbox hb;have ar := aM (hbox);have aG := aM ((by rw [hg];exact (lZ wB_) : w.heap.size ≤ aF));have GE103 := aG;replace HB := aM (lT wB_ hb);clear hb hbox hg;obtain ⟨_,_,_,_,_,_,_,_⟩ := z4_ ar.out)|((with_reducible refine gate_callee (f := 57) rfl ?_);refine gl_ (some 22) Tryz.func57 #[.slice ae ac.length af,.int .i64 (wrap64 ((wrap64 (a1 - (ab.size : Int))) - (ad.size : Int)))] ?_;(with_reducible refine (ihP k (by omega) _ _ ac (wrap64 ((wrap64 (a1 - (ab.size : Int))) - (ad.size : Int))) ap _ ?side1 ?side2 A9.out).mono ?_);(case side1 => exact wX_ aC.out);(case side2 => exact aD.out);rintro e WA9 ⟨rfl,hb⟩;refine ⟨_,rfl,?_⟩;replace ar := aM (bw_ ar.out hb);replace HB := aM (lT wB_ hb)));go_ret;exact ⟨vR_,wB_⟩
theorem FaC.calls (k : Nat) : ∀ (A0 : Option Addr) (c0 : Nat) (l0 : List (S24)) (a1 : Int) (r : Int) (w : World) (hr0 : Kd.C k24 w A0 l0.length l0) (hc0 : l0.length ≤ c0) (h : FaC.f k l0 a1 = some r),
  Calls Tryz.prog 57 #[.slice A0 l0.length c0,.int .i64 a1] w fun e w' => e = .returned (.int .i64 r) ∧ Below w.heap.size w w' := (FaC.both k).1
theorem Fbm.calls (k : Nat) : ∀ (ab : Int) (ac : ByteArray) (ad : ByteArray) (ae : Option Addr) (af : Nat) (aa : List (S24)) (a1 : Int) (r : Int) (w : World) (hr0_3 : Kd.C k24 w ae aa.length aa) (hc0_3 : aa.length ≤ af) (h : Fbm.f k ab ac ad aa a1 = some r),
  Calls Tryz.prog 9 #[.agg #[.int .i64 ab,.string ac,.string ad,.slice ae aa.length af],.int .i64 a1] w fun e w' => e = .returned (.int .i64 r) ∧ Below w.heap.size w w' := (FaC.both k).2
mutual
def FaD.l0 : Nat → List (S24) → List (S36) → Int → Option ((List (S36)))
 | 0,_,_,_ => none
 | k + 1,x0,x3,x4 => if x4 < (x0.length : Int) then (if 0 ≤ x4 then ((Fbe.f k ((Fbv x0 x4).f0) ((Fbv x0 x4).f1) ((Fbv x0 x4).f2) ((Fbv x0 x4).f3)).bind fun aa => (if x4 < (x3.length : Int) then (FaD.l0 k x0 (x3.set (x4 : Int).toNat (⟨aa.1,aa.2.1,aa.2.2.1,aa.2.2.2⟩ : S36)) (wrap64 (x4 + 1))) else (none))) else (none)) else (some x3)
def FaD.f : Nat → List (S24) → Option ((List (S36)))
 | 0,_ => none
 | k + 1,l0 => if 0 ≤ (l0.length : Int) then (if ((l0.length : Int) : Int).toNat ≤ 4398046511104 then (FaD.l0 k l0 (List.replicate ((l0.length : Int) : Int).toNat z36) 0) else (none)) else (none)
def Fbe.f : Nat → Int → ByteArray → ByteArray → List (S24) → Option (Int × ByteArray × ByteArray × (List (S36)))
 | 0,_,_,_,_ => none
 | k + 1,aa,ab,ac,ad => (FaD.f k ad).bind fun ae => (some (aa,ab,ac,ae))
end
theorem FaD.mono_l : ∀ k,(∀ y0,LeO (FaD.f k y0) (FaD.f (k + 1) y0)) ∧ (∀ y0 y1 y2,LeO (FaD.l0 k y0 y1 y2) (FaD.l0 (k + 1) y0 y1 y2)) ∧ (∀ y0 y1 y2 y3,LeO (Fbe.f k y0 y1 y2 y3) (Fbe.f (k + 1) y0 y1 y2 y3))
 | 0 => ⟨fun _ r h => by simp [FaD.f] at h,fun _ _ _ r h => by simp [FaD.l0] at h,fun _ _ _ _ r h => by simp [Fbe.f] at h⟩
 | k + 1 => by
  obtain ⟨ih0,ih1,ih2⟩ := FaD.mono_l k
  refine ⟨?_,?_,?_⟩
  all_goals (intros;first|unfold FaD.f|unfold FaD.l0|unfold Fbe.f)
  all_goals repeat' (first|with_reducible (first|exact ih0 _|exact ih1 _ _ _|exact ih2 _ _ _ _|exact LeO.refl _|exact LeO.none _|refine LeO.ite ?_ ?_|refine LeO.bind ?_ (fun _ => ?_))|exact LeO.none _|refine LeO.ite ?_ ?_|refine LeO.bind ?_ (fun _ => ?_))
theorem FaD.mono : ∀ a0 k,LeO (FaD.f k a0) (FaD.f (k + 1) a0) := by
 intro a0 k;obtain ⟨ih0,ih1,ih2⟩ := FaD.mono_l k;exact ih0 a0
theorem Fbe.mono : ∀ a0 a1 a2 a3 k,LeO (Fbe.f k a0 a1 a2 a3) (Fbe.f (k + 1) a0 a1 a2 a3) := by
 intro a0 a1 a2 a3 k;obtain ⟨ih0,ih1,ih2⟩ := FaD.mono_l k;exact ih2 a0 a1 a2 a3
theorem R_form_laws_toQuery {α : Type} {d : Kd α} {e base : Nat} {w : World} {ok : Nat → Prop} {v : Value} {xs : List α} (h : Kd.R d e w base ok v xs) : ∃ A n c,v = .slice A n c := by
 obtain ⟨_,inner,⟨_,hv⟩,_⟩ := h;rcases hv with ⟨rfl,_⟩|⟨g,cap,cur,rfl,_⟩
 ·exact ⟨_,_,_,rfl⟩
 ·exact ⟨_,_,_,rfl⟩
theorem FaD.both (k : Nat) : (∀ (A0 : Option Addr) (c0 : Nat) (l0 : List (S24)) (r : List (S36)) (w : World) (hr0 : Kd.C k24 w A0 l0.length l0) (hc0 : l0.length ≤ c0) (h : FaD.f k l0 = some r),
  Calls Tryz.prog 62 #[.slice A0 l0.length c0] w fun e w' => ∃ v0_ : Value,e = .returned (v0_) ∧ Kd.R k36 36 w' w.heap.size (fun _ => True) v0_ r ∧ Below w.heap.size w w') ∧ (∀ (ab : Int) (ah : ByteArray) (ak : ByteArray) (aH : Option Addr) (aJ : Nat) (al : List (S24)) (r1 : Int) (r2 : ByteArray) (r3 : ByteArray) (r4 : List (S36)) (w : World) (aR : Kd.C k24 w aH al.length al) (aT : al.length ≤ aJ) (h : Fbe.f k ab ah ak al = some (r1,r2,r3,r4)),
  Calls Tryz.prog 12 #[.agg #[.int .i64 ab,.string ah,.string ak,.slice aH al.length aJ]] w fun e w' => ∃ v3_ : Value,e = .returned (.agg #[.int .i64 r1,.string r2,.string r3,v3_]) ∧ Kd.R k36 36 w' w.heap.size (fun _ => True) v3_ r4 ∧ Below w.heap.size w w') := by
 induction k using Nat.strongRecOn with
 | _ k ih0 =>
 refine ⟨?_,?_⟩
 ·have ih := fun j (hj : j < k) => (ih0 j hj).1;have ihP := fun j (hj : j < k) => (ih0 j hj).2;clear ih0;intro A0 c0 l0 r w hr0 hc0 h
  cases k with
  | zero => exact absurd h (by simp [FaD.f])
  | succ k =>
  simp only [FaD.f] at h;have hu24 := Tryz.underlying24;have bL := Tryz.underlying36;have HR0 := aM hr0;have HC0 := aM hc0;clear hr0 hc0;have HB := aM (Below.refl w.heap.size w);have H : (if 0 ≤ (l0.length : Int) then (if ((l0.length : Int) : Int).toNat ≤ 4398046511104 then (FaD.l0 k l0 (List.replicate ((l0.length : Int) : Int).toNat z36) 0) else (none)) else (none)) = some r := h;clear h
  by_cases c2 : 0 ≤ (l0.length : Int)
  ·rw [if_pos c2] at H;have c2b0 := eq_true c2;have c2b1 := dT c2;clear c2
   by_cases c3 : ((l0.length : Int) : Int).toNat ≤ 4398046511104
   ·rw [if_pos c3] at H;have c3b0 := eq_true c3;have c3b1 := dT c3;clear c3;obtain ⟨bm,aU⟩ : ∃ y_ : List (S36),y_ = (List.replicate ((l0.length : Int) : Int).toNat z36) := ⟨_,rfl⟩;replace H : (FaD.l0 k l0 bm 0) = some r := (yH_ aU H);have a1 := aM aU;clear aU;have H' := aM H;clear H;go_enter Tryz.func62,Tryz.ntmps62;go_wp2_with (first|((with_reducible refine gate_dst (N := 7) rfl ?_);refine Kd.R_make k36 _ 36 rfl (N := 7) rfl 34 _ _ rfl (l0.length : Int) rfl rfl Tryz.underlying34 (.agg #[(.int .i64 0),(.string ⟨#[]⟩),(.string ⟨#[]⟩),(.slice none 0 0)]) 64 info36 rfl (by decide) (by omega) z36 (ok := fun _ => True) (okp := fun _ => True) (k36_mkM _ _ _ z36 (Kd.R_nil _ _ _ _ _)) (fun _ hk => hk) trivial (oD (by assumption)) (Nat.le_trans (Nat.mul_le_mul_right _ (oD (by assumption) : (l0.length : Int).toNat ≤ 4398046511104)) (by omega)) (Below.refl _ _) (Nat.le_refl _) ?_;intro bM w4 bn hb hg_ hnew_;clear hg_ hnew_;(first|rw [← a1.out] at bn|(simp only [Int.reduceToNat] at bn;rw [← a1.out] at bn));have bo := aM (Kd.R_lower bn (lZ wB_));replace HB := aM (lT wB_ hb);clear hb bn));go_loopg [4] k (fun kq v4 w' => ∃ (ae : List (S36)) (aa : Int),v4 = .int .i64 aa ∧ Aside0 (FaD.l0 kq l0 ae aa = some r) ∧ Aside0 (kq ≤ k) ∧ Aside0 (Kd.R k36 36 w' w.heap.size (fun _ => True) bM ae) ∧ Aside0 (Below w.heap.size w w'))
    case atStart => exact ⟨(bm),(0),vR_,H',⟨Nat.le_refl _⟩,⟨wO_ bo.out⟩,⟨wB_⟩⟩
    case round =>
     clear H';obtain ⟨ae,aa,rfl,HA,bO,af,HB⟩ := hrel
     cases gk with
     | zero => exact absurd HA.out (by simp [FaD.l0])
     | succ k1 =>
      have H := HA.out;clear HA;simp only [FaD.l0] at H
      by_cases c6 : aa < (l0.length : Int)
      ·rw [if_pos c6] at H;have bP := dT c6;clear c6
       by_cases c7 : 0 ≤ aa
       ·rw [if_pos c7] at H;have c7b0 := dT c7;clear c7;replace H := oB.mp H;obtain ⟨⟨aw,ax,ay,aV⟩,bY,H⟩ := H;replace H : (if aa < (ae.length : Int) then (FaD.l0 k1 l0 (ae.set (aa : Int).toNat (⟨aw,ax,ay,aV⟩ : S36)) (wrap64 (aa + 1))) else (none)) = some r := H;have A8 := aM bY;clear bY
        by_cases c9 : aa < (ae.length : Int)
        ·rw [if_pos c9] at H;have c9b0 := dT c9;clear c9;obtain ⟨a5,aW⟩ : ∃ y_ : List (S36),y_ = (ae.set (aa : Int).toNat (⟨aw,ax,ay,aV⟩ : S36)) := ⟨_,rfl⟩;replace H : (FaD.l0 k1 l0 a5 (wrap64 (aa + 1))) = some r := (yH_ aW H);have bp := aM aW;clear aW;have H' := aM H;clear H;have a6 : 0 ≤ (aa : Int) := oD (by assumption);have a7 : aa < (l0.length : Int) := oD (by assumption);obtain ⟨ad108,a8,a9,bQ,az,aA,aC,aD,aE,aF⟩ := Fcx HR0.out aa a6 a7;cases bQ;replace az := mv_ HB.out az;replace aA := mv_ HB.out aA;replace aC := mv_ HB.out aC;replace aD := mv_ HB.out aD;have aX := aM aF;have aY := aM aE;clear aF aE;replace a6 := eq_true a6;replace a7 := eq_true a7;go_wp2_with (first|((with_reducible refine gate_callee (f := 12) rfl ?_);refine gl_ (some 20) Tryz.func12 #[.agg #[.int .i64 ((Fbv l0 aa).f0),.string ((Fbv l0 aa).f1),.string ((Fbv l0 aa).f2),.slice a8 ((Fbv l0 aa).f3).length a9]] ?_;(with_reducible refine (ihP k1 (by have := bO.out;omega) ((Fbv l0 aa).f0) ((Fbv l0 aa).f1) ((Fbv l0 aa).f2) _ _ ((Fbv l0 aa).f3) aw ax ay aV _ ?side1 ?side2 A8.out).mono ?_);(case side1 => exact wX_ aX.out);(case side2 => exact aY.out);rintro e aQ ⟨aZ,rfl,bK,hb⟩;refine ⟨_,rfl,?_⟩;have aG := aM (Kd.R_lower (Kd.R_new' bK (Kd.R_lt (wO_ af.out))) (lZ wB_));replace af := aM (Kd.R_elder' (wO_ af.out) (Kd.R_base bK) hb);replace HB := aM (lT wB_ hb);have bR : 0 ≤ (aa : Int) := oD (by assumption);have bS : (aa : Int) < ((ae.length : Int) : Int) := oD (by assumption);obtain ⟨ag,bq,br,bs,bT,cl10,bu⟩ := Kd.R_form af.out (by omega);(first|cases br|(injection br with ea_ en_ ec_;(first|subst ea_|(injection ea_ with ea_;subst ea_));subst ec_;clear en_));have a0 := aM bs;have GG10 := aM bu;clear bs bT bu;obtain ⟨ce10,bv,bw,ao,ap⟩ := Kd.R_elem af.out z36 (aa : Int) bR bS;obtain ⟨ba,rfl,ge10_3⟩ := k36_openM bw;have hx10_0 : aQ.cell? ⟨ag,(aa : Int).toNat * 4,none⟩ = some (.int .i64 ((Fab ae aa).f0)) := ao 0 _ rfl;have hx10_1 : aQ.cell? ⟨ag,(aa : Int).toNat * 4 + 1,none⟩ = some (.string ((Fab ae aa).f1)) := ao 1 _ rfl;have hx10_2 : aQ.cell? ⟨ag,(aa : Int).toNat * 4 + 2,none⟩ = some (.string ((Fab ae aa).f2)) := ao 2 _ rfl;have hx10_3 : aQ.cell? ⟨ag,(aa : Int).toNat * 4 + 3,none⟩ = some (ba) := ao 3 _ rfl;have hf10_0 : aQ.frozen? ⟨ag,(aa : Int).toNat * 4,none⟩ = false := ap 0;have hf10_1 : aQ.frozen? ⟨ag,(aa : Int).toNat * 4 + 1,none⟩ = false := ap 1;have hf10_2 : aQ.frozen? ⟨ag,(aa : Int).toNat * 4 + 2,none⟩ = false := ap 2;have hf10_3 : aQ.frozen? ⟨ag,(aa : Int).toNat * 4 + 3,none⟩ = false := ap 3;clear bv ao ap bw;replace bR := eq_true bR;replace bS := eq_true bS;have n_ := aM (Kd.R_mono (ok' := (fun k_ => some k_ ≠ (aZ : Value).ownBlock)) af.out (fun k_ hk => hk.2));clear af;have af := n_;clear n_;have bz := aM (show Kd.R k36 36 aQ w.heap.size (fun _ => True) (.slice (some ⟨ag,0,none⟩) ae.length bq) ae from (by (with_reducible repeat (first|apply rA|apply rN|apply rD));exact Kd.R_mono af.out (fun _ hk => trivial)));obtain ⟨ce12,a2,bB,am,ar⟩ := Kd.R_elem bz.out z36 (aa : Int) (oD (by assumption)) (by have h_ : (aa : Int) < ((ae.length : Int) : Int) := oD (by assumption);first|exact h_|(have e_ := (rR af.out).1;omega)|simpa using h_);obtain ⟨ve12_3,rfl,ge12_3⟩ := k36_openM bB;have bb := Kd.R_seg bz.out (aa : Int) (oD (by assumption)) (by have h_ : (aa : Int) < ((ae.length : Int) : Int) := oD (by assumption);first|exact h_|(have e_ := (rR af.out).1;omega)|simpa using h_) (seg := [.int .i64 aw,.string ax,.string ay,aZ]) (j := 0) a2 am (show 4 ≤ 4 from by decide) (x' := (⟨aw,ax,ay,aV⟩ : S36)) (k36_mkM _ _ _ (⟨aw,ax,ay,aV⟩ : S36) (Kd.R_mono (aG.out) (fun k_ hk => ⟨trivial,fun e_ => (hk.2) (by rw [e_];rfl)⟩))) (fun _ hk => hk);have bc := am 0 _ rfl;(try simp only [show (k36).sz = 4 from rfl,Nat.mul_one,Nat.add_zero] at bc);have bd := ar 0;(try simp only [show (k36).sz = 4 from rfl,Nat.mul_one,Nat.add_zero] at bd);have be := am 1 _ rfl;(try simp only [show (k36).sz = 4 from rfl,Nat.mul_one,Nat.add_zero] at be);have bf := ar 1;(try simp only [show (k36).sz = 4 from rfl,Nat.mul_one,Nat.add_zero] at bf);have bg := am 2 _ rfl;(try simp only [show (k36).sz = 4 from rfl,Nat.mul_one,Nat.add_zero] at bg);have bh := ar 2;(try simp only [show (k36).sz = 4 from rfl,Nat.mul_one,Nat.add_zero] at bh);have bi := am 3 _ rfl;(try simp only [show (k36).sz = 4 from rfl,Nat.mul_one,Nat.add_zero] at bi);have bj := ar 3;(try simp only [show (k36).sz = 4 from rfl,Nat.mul_one,Nat.add_zero] at bj);clear a2 am ar bB)|((with_reducible refine gate_store (t := 36) (p := 21) rfl ?_);refine store_event (t := 36) (p := 21) (v := ?vo_w13) (w1 := ((((aQ.setCell ⟨ag,(aa : Int).toNat * 4,none⟩ (.int .i64 aw)).setCell ⟨ag,(aa : Int).toNat * 4 + 1,none⟩ (.string ax)).setCell ⟨ag,(aa : Int).toNat * 4 + 2,none⟩ (.string ay)).setCell ⟨ag,(aa : Int).toNat * 4 + 3,none⟩ (aZ))) ?hg ?ho ?hn ?hr ?_;(case ho => rfl);(case hg => rfl);(case hn => rfl);(case hr => obtain ⟨A1_,bU,c1_,hv1_⟩ : ∃ A n c,aZ = .slice A n c := (by first|exact R_form_laws_toQuery aG.out|exact R_form_laws_toQuery (Kd.S_R aG.out));first|(go_simp;done)|(go_simp;rfl));intro bV hw;have hg : aQ.grownBy bV (some ag) := (by rw [hw];exact bb.2);have hp_ : Kd.R k36 36 bV w.heap.size (fun _ => True) (.slice (some ⟨ag,0,none⟩) ae.length bq) a5 := (by rw [hw,bp.out];exact bb.1);clear bb;have bZ := aM (hp_);have bU := aM ((by rw [hw];exact lS (lS (lS (lS (HB.out) a0.out) a0.out) a0.out) a0.out : Below w.heap.size w bV));clear af;clear HB;clear aG;have af := bZ;have HB := bU;clear bZ bU;clear hg hw hp_));go_roundg k1
         case measure => have := bO.out;omega
         case rel => exact ⟨(a5),(wrap64 (aa + 1)),vR_,H',⟨by have := bO.out;omega⟩,⟨wO_ af.out⟩,⟨wB_⟩⟩
        ·rw [if_neg c9] at H;exact nH_ H
       ·rw [if_neg c7] at H;exact nH_ H
      ·rw [if_neg c6] at H;have bP := dF c6;clear c6;obtain rfl := oI H;go_wp2;go_ret;exact ⟨_,vR_,wO_ af.out,wB_⟩
   ·rw [if_neg c3] at H;exact nH_ H
  ·rw [if_neg c2] at H;exact nH_ H
 ·have ih := fun j (hj : j < k) => (ih0 j hj).2;have ihP := fun j (hj : j < k) => (ih0 j hj).1;clear ih0;intro ab ah ak aH aJ al r1 r2 r3 r4 w aR aT h
  cases k with
  | zero => exact absurd h (by simp [Fbe.f])
  | succ k =>
  simp only [Fbe.f] at h;have hu24 := Tryz.underlying24;have bL := Tryz.underlying36;have bE := aM aR;have bG := aM aT;clear aR aT;have HB := aM (Below.refl w.heap.size w);have H : ((FaD.f k al).bind fun aK => (some (ab,ah,ak,aK))) = some (r1,r2,r3,r4) := h;clear h;obtain ⟨aK,A2,H⟩ := bE_ H;simp only [eS,eP] at H;obtain ⟨rfl,rfl,rfl,rfl⟩ := H;go_enter Tryz.func12,Tryz.ntmps12;go_wp2_with (first|((with_reducible refine gate_dst (N := 1) rfl ?_);refine bx_ (N := 1) (cs := #[.int .i64 ab,.string ah,.string ak,.slice aH al.length aJ]) (t := 24) ?_;intro a3 hg w3 hbox hb;have ac := aM (hbox);have bH := aM ((by rw [hg];exact (lZ wB_) : w.heap.size ≤ a3));have GE116 := bH;replace HB := aM (lT wB_ hb);clear hb hbox hg)|((with_reducible refine gate_dst (N := 2) rfl ?_);refine bx_ (N := 2) (cs := #[.int .i64 0,.string (⟨#[]⟩ : ByteArray),.string (⟨#[]⟩ : ByteArray),.slice none 0 0]) (t := 36) ?_;intro ai hg w4 hbox hb;have aj := aM (hbox);have bI := aM ((by rw [hg];exact (lZ wB_) : w.heap.size ≤ ai));have GE117 := bI;have aL := aM (nl_ hg ac.out);have aN := aM (ng_ hg ac.out);replace ac := aM (bw_ ac.out hb);replace HB := aM (lT wB_ hb);clear hb hbox hg)|((with_reducible refine gate_dst (N := 3) rfl ?_);refine bx_ (N := 3) (cs := #[.int .i64 0,.string (⟨#[]⟩ : ByteArray),.string (⟨#[]⟩ : ByteArray),.slice none 0 0]) (t := 36) ?_;intro au hg w5 hbox hb;have av := aM (hbox);have bJ := aM ((by rw [hg];exact (lZ wB_) : w.heap.size ≤ au));have GE118 := bJ;have an := aM (nl_ hg ac.out);have aO := aM (ng_ hg ac.out);have ad := aM (nl_ hg aj.out);have aP := aM (ng_ hg aj.out);replace ac := aM (bw_ ac.out hb);replace aj := aM (bw_ aj.out hb);replace HB := aM (lT wB_ hb);clear hb hbox hg;have hnb6 := aL.out;have hnc6 := aN.out;have hnb7 := an.out;have hnc7 := aO.out;obtain ⟨_,_,_,_,_,_,_,_⟩ := z4_ ac.out;have hnb9 := aP.out;have hnc9 := ad.out;obtain ⟨_,_,_,_,_,_,_,_⟩ := z4_ av.out)|((with_reducible refine gate_callee (f := 62) rfl ?_);refine gl_ (some 15) Tryz.func62 #[.slice aH al.length aJ] ?_;(with_reducible refine (ihP k (by omega) _ _ al aK _ ?side1 ?side2 A2.out).mono ?_);(case side1 => exact cB bE.out wB_);(case side2 => exact bG.out);rintro e aQ ⟨v120,rfl,bK,hb⟩;refine ⟨_,rfl,?_⟩;have a4 := aM (Kd.R_lower (Kd.R_newB (Kd.R_newB bK (g := ai) (o := .cells #[.int .i64 0,.string (⟨#[]⟩ : ByteArray),.string (⟨#[]⟩ : ByteArray),.slice none 0 0] 36 (0,0)) (bf_ ad.out aj.out)) (g := au) (o := .cells #[.int .i64 ab,.string ah,.string ak,.slice none 0 0] 36 (0,0)) (by (with_reducible repeat (first|refine bN ?_ _|refine bD ?_|refine bA ?_ _));refine blk_put (cs := #[.int .i64 ab,.string ah,.string (⟨#[]⟩ : ByteArray),.slice none 0 0]) ?_ 2 _ rfl;(with_reducible repeat (first|refine bN ?_ _|refine bD ?_|refine bA ?_ _));refine blk_put (cs := #[.int .i64 ab,.string (⟨#[]⟩ : ByteArray),.string (⟨#[]⟩ : ByteArray),.slice none 0 0]) ?_ 1 _ rfl;(with_reducible repeat (first|refine bN ?_ _|refine bD ?_|refine bA ?_ _));refine blk_put (cs := #[.int .i64 0,.string (⟨#[]⟩ : ByteArray),.string (⟨#[]⟩ : ByteArray),.slice none 0 0]) ?_ 0 _ rfl;(with_reducible repeat (first|refine bN ?_ _|refine bD ?_|refine bA ?_ _));exact av.out)) (lZ wB_));replace ac := aM (bW (g := a3) (o := .cells #[.int .i64 ab,.string ah,.string ak,.slice aH al.length aJ] 24 (0,0)) (bf_ an.out ac.out) hb);replace aj := aM (bW (g := ai) (o := .cells #[.int .i64 0,.string (⟨#[]⟩ : ByteArray),.string (⟨#[]⟩ : ByteArray),.slice none 0 0] 36 (0,0)) (bf_ ad.out aj.out) hb);replace av := aM (bW (g := au) (o := .cells #[.int .i64 ab,.string ah,.string ak,.slice none 0 0] 36 (0,0)) (by (with_reducible repeat (first|refine bN ?_ _|refine bD ?_|refine bA ?_ _));refine blk_put (cs := #[.int .i64 ab,.string ah,.string (⟨#[]⟩ : ByteArray),.slice none 0 0]) ?_ 2 _ rfl;(with_reducible repeat (first|refine bN ?_ _|refine bD ?_|refine bA ?_ _));refine blk_put (cs := #[.int .i64 ab,.string (⟨#[]⟩ : ByteArray),.string (⟨#[]⟩ : ByteArray),.slice none 0 0]) ?_ 1 _ rfl;(with_reducible repeat (first|refine bN ?_ _|refine bD ?_|refine bA ?_ _));refine blk_put (cs := #[.int .i64 0,.string (⟨#[]⟩ : ByteArray),.string (⟨#[]⟩ : ByteArray),.slice none 0 0]) ?_ 0 _ rfl;(with_reducible repeat (first|refine bN ?_ _|refine bD ?_|refine bA ?_ _));exact av.out) hb);replace HB := aM (lT wB_ hb);obtain ⟨bk,bl,bX⟩ := Kd.R_slice a4.out;subst bX;obtain ⟨_,_,_,_,_,_,_,_⟩ := z4_ av.out;obtain ⟨_,_,_,_,_,_,_,_⟩ := z4_ aj.out));refine bodyPost_ret (results_cell_row rfl _ _ ai 36 #[.int .i64 ab,.string ah,.string ak,.slice bk aK.length bl] (0,0) _ rfl (by (with_reducible repeat (first|refine bN ?_ _|refine bD ?_|refine bA ?_ _));refine blk_put (cs := #[.int .i64 ab,.string ah,.string ak,.slice none 0 0]) ?_ 3 _ rfl;(with_reducible repeat (first|refine bN ?_ _|refine bD ?_|refine bA ?_ _));refine blk_put (cs := #[.int .i64 ab,.string ah,.string (⟨#[]⟩ : ByteArray),.slice none 0 0]) ?_ 2 _ rfl;(with_reducible repeat (first|refine bN ?_ _|refine bD ?_|refine bA ?_ _));refine blk_put (cs := #[.int .i64 ab,.string (⟨#[]⟩ : ByteArray),.string (⟨#[]⟩ : ByteArray),.slice none 0 0]) ?_ 1 _ rfl;(with_reducible repeat (first|refine bN ?_ _|refine bD ?_|refine bA ?_ _));refine blk_put (cs := #[.int .i64 0,.string (⟨#[]⟩ : ByteArray),.string (⟨#[]⟩ : ByteArray),.slice none 0 0]) ?_ 0 _ rfl;exact bf_ ad.out aj.out) Tryz.underlying36 rfl (by kernel_rfl)) rfl ?_;exact ⟨_,vR_,by (with_reducible repeat (first|apply rA|apply rN|apply rD));exact Kd.R_mono (rF (p := ⟨ai,3,none⟩) (rF (p := ⟨ai,2,none⟩) (rF (p := ⟨ai,1,none⟩) (rF (p := ⟨ai,0,none⟩) (rF (p := ⟨au,3,none⟩) (Kd.R_mono (Kd.R_mono a4.out (fun k_ hk => (⟨hk,hk.2⟩ : _ ∧ k_ ≠ au))) (fun k_ hk => (⟨hk,hk.1.1.2⟩ : _ ∧ k_ ≠ ai))) (fun _ hk => hk.1.2) (.slice bk aK.length bl)) (fun _ hk => hk.2) (.int .i64 ab)) (fun _ hk => hk.2) (.string ah)) (fun _ hk => hk.2) (.string ak)) (fun _ hk => hk.2) (.slice bk aK.length bl)) (fun _ hk => trivial),wB_⟩
theorem FaD.calls (k : Nat) : ∀ (A0 : Option Addr) (c0 : Nat) (l0 : List (S24)) (r : List (S36)) (w : World) (hr0 : Kd.C k24 w A0 l0.length l0) (hc0 : l0.length ≤ c0) (h : FaD.f k l0 = some r),
  Calls Tryz.prog 62 #[.slice A0 l0.length c0] w fun e w' => ∃ v0_ : Value,e = .returned (v0_) ∧ Kd.R k36 36 w' w.heap.size (fun _ => True) v0_ r ∧ Below w.heap.size w w' := (FaD.both k).1
theorem Fbe.calls (k : Nat) : ∀ (ab : Int) (ac : ByteArray) (ad : ByteArray) (ae : Option Addr) (af : Nat) (aa : List (S24)) (r1 : Int) (r2 : ByteArray) (r3 : ByteArray) (r4 : List (S36)) (w : World) (hr0_3 : Kd.C k24 w ae aa.length aa) (hc0_3 : aa.length ≤ af) (h : Fbe.f k ab ac ad aa = some (r1,r2,r3,r4)),
  Calls Tryz.prog 12 #[.agg #[.int .i64 ab,.string ac,.string ad,.slice ae aa.length af]] w fun e w' => ∃ v3_ : Value,e = .returned (.agg #[.int .i64 r1,.string r2,.string r3,v3_]) ∧ Kd.R k36 36 w' w.heap.size (fun _ => True) v3_ r4 ∧ Below w.heap.size w w' := (FaD.both k).2
mutual
def Faz.l0 : Nat → List (S36) → List (S36) → Int → Option (Bool)
 | 0,_,_,_ => none
 | k + 1,x0,x1,x5 => if x5 < (x0.length : Int) then (if 0 ≤ x5 then (if x5 < (x1.length : Int) then ((Fbr.f k ((Fab x0 x5).f0) ((Fab x0 x5).f1) ((Fab x0 x5).f2) ((Fab x0 x5).f3) ((Fab x1 x5).f0) ((Fab x1 x5).f1) ((Fab x1 x5).f2) ((Fab x1 x5).f3)).bind fun aa => (if aa = true then (Faz.l0 k x0 x1 (wrap64 (x5 + 1))) else (some false))) else (none)) else (none)) else (some true)
def Faz.f : Nat → List (S36) → List (S36) → Option (Bool)
 | 0,_,_ => none
 | k + 1,l0,l1 => if (l0.length : Int) = (l1.length : Int) then (Faz.l0 k l0 l1 0) else (some false)
def Fbr.f : Nat → Int → ByteArray → ByteArray → List (S36) → Int → ByteArray → ByteArray → List (S36) → Option (Bool)
 | 0,_,_,_,_,_,_,_,_ => none
 | k + 1,aa,ab,ac,ad,ae,af,ag,ah => if aa = ae then (if ab.toList = af.toList then (if ac.toList = ag.toList then ((Faz.f k ad ah).bind fun ai => (if ai = true then (some true) else (some false))) else (some false)) else (some false)) else (some false)
end
theorem Faz.mono_l : ∀ k,(∀ y0 y1,LeO (Faz.f k y0 y1) (Faz.f (k + 1) y0 y1)) ∧ (∀ y0 y1 y2,LeO (Faz.l0 k y0 y1 y2) (Faz.l0 (k + 1) y0 y1 y2)) ∧ (∀ y0 y1 y2 y3 y4 y5 y6 y7,LeO (Fbr.f k y0 y1 y2 y3 y4 y5 y6 y7) (Fbr.f (k + 1) y0 y1 y2 y3 y4 y5 y6 y7))
 | 0 => ⟨fun _ _ r h => by simp [Faz.f] at h,fun _ _ _ r h => by simp [Faz.l0] at h,fun _ _ _ _ _ _ _ _ r h => by simp [Fbr.f] at h⟩
 | k + 1 => by
  obtain ⟨ih0,ih1,ih2⟩ := Faz.mono_l k
  refine ⟨?_,?_,?_⟩
  all_goals (intros;first|unfold Faz.f|unfold Faz.l0|unfold Fbr.f)
  all_goals repeat' (first|with_reducible (first|exact ih0 _ _|exact ih1 _ _ _|exact ih2 _ _ _ _ _ _ _ _|exact LeO.refl _|exact LeO.none _|refine LeO.ite ?_ ?_|refine LeO.bind ?_ (fun _ => ?_))|exact LeO.none _|refine LeO.ite ?_ ?_|refine LeO.bind ?_ (fun _ => ?_))
theorem Faz.mono : ∀ a0 a1 k,LeO (Faz.f k a0 a1) (Faz.f (k + 1) a0 a1) := by
 intro a0 a1 k;obtain ⟨ih0,ih1,ih2⟩ := Faz.mono_l k;exact ih0 a0 a1
theorem Fbr.mono : ∀ a0 a1 a2 a3 a4 a5 a6 a7 k,LeO (Fbr.f k a0 a1 a2 a3 a4 a5 a6 a7) (Fbr.f (k + 1) a0 a1 a2 a3 a4 a5 a6 a7) := by
 intro a0 a1 a2 a3 a4 a5 a6 a7 k;obtain ⟨ih0,ih1,ih2⟩ := Faz.mono_l k;exact ih2 a0 a1 a2 a3 a4 a5 a6 a7
def Faz.T6 : Bool × List (List Nat × List Nat) := (true,[([],[]),([],[]),([0,1],[0,1]),([2],[2]),([],[]),([],[]),([4,5],[4,5]),([6],[6]),([3,7],[3,7]),([8],[8])])
def Faz.B6 : List Nat := [0,0,3,7,0,0,48,112,255,511]
theorem Faz.tab6 : rtab .any (opsOf Tryz.f67 6) = Faz.T6 := by kernel_rfl
theorem Faz.bits6 : waitsOk Faz.T6.2 Faz.B6 = true := by kernel_rfl
theorem Faz.both (k : Nat) : (∀ (A0 : Option Addr) (c0 : Nat) (l0 : List (S36)) (A1 : Option Addr) (c1 : Nat) (l1 : List (S36)) (r : Bool) (w : World) (hr0 : Kd.C k36 w A0 l0.length l0) (hc0 : l0.length ≤ c0) (hr1 : Kd.C k36 w A1 l1.length l1) (hc1 : l1.length ≤ c1) (h : Faz.f k l0 l1 = some r),
  Calls Tryz.prog 67 #[.slice A0 l0.length c0,.slice A1 l1.length c1] w fun e w' => e = .returned (.bool r) ∧ Below w.heap.size w w') ∧ (∀ (ae : Int) (af : ByteArray) (ag : ByteArray) (aJ : Option Addr) (aK : Nat) (ac : List (S36)) (ah : Int) (ai : ByteArray) (aj : ByteArray) (aL : Option Addr) (aN : Nat) (ad : List (S36)) (r : Bool) (w : World) (aQ : Kd.C k36 w aJ ac.length ac) (aR : ac.length ≤ aK) (aT : Kd.C k36 w aL ad.length ad) (aU : ad.length ≤ aN) (h : Fbr.f k ae af ag ac ah ai aj ad = some r),
  Calls Tryz.prog 15 #[.agg #[.int .i64 ae,.string af,.string ag,.slice aJ ac.length aK],.agg #[.int .i64 ah,.string ai,.string aj,.slice aL ad.length aN]] w fun e w' => e = .returned (.bool r) ∧ Below w.heap.size w w') := by
 induction k using Nat.strongRecOn with
 | _ k ih0 =>
 refine ⟨?_,?_⟩
 ·have ih := fun j (hj : j < k) => (ih0 j hj).1;have ihP := fun j (hj : j < k) => (ih0 j hj).2;clear ih0;intro A0 c0 l0 A1 c1 l1 r w hr0 hc0 hr1 hc1 h
  cases k with
  | zero => exact absurd h (by simp [Faz.f])
  | succ k =>
  simp only [Faz.f] at h;have bj := Tryz.underlying36;have HR0 := aM hr0;have HC0 := aM hc0;clear hr0 hc0;have bq := aM hr1;have HC1 := aM hc1;clear hr1 hc1;have HB := aM (Below.refl w.heap.size w);have H : (if (l0.length : Int) = (l1.length : Int) then (Faz.l0 k l0 l1 0) else (some false)) = some r := h;clear h
  by_cases c3 : (l0.length : Int) = (l1.length : Int)
  ·rw [if_pos c3] at H;have a9 := qE.mpr c3;have ba := qN.mpr c3;have bk : (l0.length == l1.length) = true := (by first|simpa using c3|(simp at c3 ⊢;omega));clear c3;have H' := aM H;clear H;go_enter Tryz.func67,Tryz.ntmps67;go_wp2;go_loopg [5] k (fun kq v5 w' => ∃ (aa : Int),v5 = .int .i64 aa ∧ Aside0 (Faz.l0 kq l0 l1 aa = some r) ∧ Aside0 (kq ≤ k) ∧ Aside0 (Below w.heap.size w w'))
   case atStart => exact ⟨(0),vR_,H',⟨Nat.le_refl _⟩,⟨wB_⟩⟩
   case round =>
    clear H';obtain ⟨aa,rfl,HA,bi,HB⟩ := hrel
    cases gk with
    | zero => exact absurd HA.out (by simp [Faz.l0])
    | succ k1 =>
     have H := HA.out;clear HA;simp only [Faz.l0] at H
     by_cases c4 : aa < (l0.length : Int)
     focus
      rw [if_pos c4] at H;have bb := dT c4;clear c4
      by_cases c5 : 0 ≤ aa
      rotate_left;rw [if_neg c5] at H;exact nH_ H;rw [if_pos c5] at H;have bd := dT c5;clear c5
      by_cases c6 : aa < (l1.length : Int)
      rotate_left;rw [if_neg c6] at H;exact nH_ H;rw [if_pos c6] at H;have c6b0 := dT c6;clear c6;obtain ⟨bl,A7,H⟩ := bE_ H
      by_cases c8 : bl = true
      focus
       subst c8;rw [if_pos rfl] at H;have H' := aM H;clear H
      rotate_left
      focus
       replace c8 := qO.mpr c8;subst c8;rw [if_neg qT] at H;obtain rfl := oI H
     rotate_left 2
     focus
      rw [if_neg c4] at H;have bb := dF c4;clear c4;obtain rfl := oI H
     all_goals
      (try go_wp2)
      first
       |
        go_ret;exact ⟨vR_,wB_⟩
       |
        replace HB := aM (lD HB.out);have p01 : 0 ≤ (aa : Int) := oD (by assumption);have q01 : aa < (l0.length : Int) := oD (by assumption);obtain ⟨ad01,a1,a2,e01,ak,al,am,an,aV,aW⟩ := Fcr HR0.out aa p01 q01;have aw := an;have ax := am;have ay := al;have az := ak;cases e01;replace ak := mv_ HB.out ak;replace al := mv_ HB.out al;replace am := mv_ HB.out am;replace an := mv_ HB.out an;have aA := aM aW;have aX := aM aV;clear aW aV;replace p01 := eq_true p01;replace q01 := eq_true q01;have bm : 0 ≤ (aa : Int) := oD (by assumption);have bn : aa < (l1.length : Int) := oD (by assumption);obtain ⟨aC,a3,a4,br,ao,ap,ar,au,aY,aZ⟩ := Fcr bq.out aa bm bn;have aD := au;have aE := ar;have aF := ap;have aG := ao;cases br;replace ao := mv_ HB.out ao;replace ap := mv_ HB.out ap;replace ar := mv_ HB.out ar;replace au := mv_ HB.out au;have aH := aM aZ;have a0 := aM aY;clear aZ aY;replace bm := eq_true bm;replace bn := eq_true bn;refine start_ (n := 10) (S := fun w' => w'.cell? (ad01.add ((aa).toNat * 4)) = some (.int .i64 ((Fab l0 aa).f0)) ∧ w'.cell? ⟨(ad01.add ((aa).toNat * 4)).block,(ad01.add ((aa).toNat * 4)).off + 1,none⟩ = some (.string ((Fab l0 aa).f1)) ∧ w'.cell? ⟨(ad01.add ((aa).toNat * 4)).block,(ad01.add ((aa).toNat * 4)).off + 2,none⟩ = some (.string ((Fab l0 aa).f2)) ∧ w'.cell? ⟨(ad01.add ((aa).toNat * 4)).block,(ad01.add ((aa).toNat * 4)).off + 3,none⟩ = some (.slice a1 ((Fab l0 aa).f3).length a2) ∧ w'.cell? (aC.add ((aa).toNat * 4)) = some (.int .i64 ((Fab l1 aa).f0)) ∧ w'.cell? ⟨(aC.add ((aa).toNat * 4)).block,(aC.add ((aa).toNat * 4)).off + 1,none⟩ = some (.string ((Fab l1 aa).f1)) ∧ w'.cell? ⟨(aC.add ((aa).toNat * 4)).block,(aC.add ((aa).toNat * 4)).off + 2,none⟩ = some (.string ((Fab l1 aa).f2)) ∧ w'.cell? ⟨(aC.add ((aa).toNat * 4)).block,(aC.add ((aa).toNat * 4)).off + 3,none⟩ = some (.slice a3 ((Fab l1 aa).f3).length a4)) (ds := []) (mk_ 10 0) (by kernel_rfl) rfl (by kernel_rfl) ⟨mv_ HB.out az,mv_ HB.out ay,mv_ HB.out ax,mv_ HB.out aw,mv_ HB.out aG,mv_ HB.out aF,mv_ HB.out aE,mv_ HB.out aD⟩ (fun hHeld => ?_);refine with_tabW Faz.tab6 Faz.bits6 (fun HT_ HW_ => ?_);generalize wr.drew = wk0 at HB aA aH ak al am an ao ap ar au hHeld ⊢;refine pV_ (i := 0) (N := some 17) (mk_ 10 1) rfl rfl HT_.out ?_;refine pV_ (i := 1) (N := some 18) (mk_ 10 3) rfl rfl HT_.out ?_;refine pV_ (i := 2) (N := some 19) (mk_ 10 7) rfl rfl HT_.out ?_;refine pV_ (i := 4) (N := some 21) (mk_ 10 23) rfl rfl HT_.out ?_;refine pV_ (i := 5) (N := some 22) (mk_ 10 55) rfl rfl HT_.out ?_;refine pV_ (i := 6) (N := some 23) (mk_ 10 119) rfl rfl HT_.out ?_;refine tV_ (i := 3) (N := some 20) (mk_ 10 127) rfl rfl HT_.out HW_.out hHeld ?_;refine tV_ (i := 7) (N := some 24) (mk_ 10 255) rfl rfl HT_.out HW_.out hHeld ?_;refine one_ (i := 8) (N := some 25) (mk_ 10 511) rfl rfl (one_of HT_.out (by kernel_rfl)) (by decide) (fun K hK => ?_);refine gs_ Tryz.func15 #[.agg #[.int .i64 ((Fab l0 aa).f0),.string ((Fab l0 aa).f1),.string ((Fab l0 aa).f2),.slice a1 ((Fab l0 aa).f3).length a2],.agg #[.int .i64 ((Fab l1 aa).f0),.string ((Fab l1 aa).f1),.string ((Fab l1 aa).f2),.slice a3 ((Fab l1 aa).f3).length a4]] ?_
        first
         |
          (with_reducible refine (ihP k1 (by have := bi.out;omega) ((Fab l0 aa).f0) ((Fab l0 aa).f1) ((Fab l0 aa).f2) _ _ ((Fab l0 aa).f3) ((Fab l1 aa).f0) ((Fab l1 aa).f1) ((Fab l1 aa).f2) _ _ ((Fab l1 aa).f3) false _ ?side1 ?side2 ?side3 ?side4 A7.out).mono ?_);(case side1 => exact wX_ aA.out);(case side2 => exact aX.out);(case side3 => exact wX_ aH.out);(case side4 => exact a0.out);rintro e bs ⟨rfl,hb⟩;refine ⟨_,rfl,?_⟩;replace HB := aM (lT wB_ hb);refine hK.out _ _ ⟨mv_ HB.out az,mv_ HB.out ay,mv_ HB.out ax,mv_ HB.out aw,mv_ HB.out aG,mv_ HB.out aF,mv_ HB.out aE,mv_ HB.out aD⟩ (fun hHeld => ?_);clear hK K;refine norm_ (a' := ?_) ?_ ?_;rotate_left;show Act.put _ (some 25) _ = _;simp only [Act.put,lI,sZ,sS,i64_w,i32_w];rfl;refine pV_ (i := 9) (N := some 26) (mk_ 10 1023) rfl rfl HT_.out ?_;refine done_ (done_of HT_.out (by kernel_rfl)) ?_;(try go_wp2);go_ret;exact ⟨vR_,wB_⟩
         |
          (with_reducible refine (ihP k1 (by have := bi.out;omega) ((Fab l0 aa).f0) ((Fab l0 aa).f1) ((Fab l0 aa).f2) _ _ ((Fab l0 aa).f3) ((Fab l1 aa).f0) ((Fab l1 aa).f1) ((Fab l1 aa).f2) _ _ ((Fab l1 aa).f3) true _ ?side1 ?side2 ?side3 ?side4 A7.out).mono ?_);(case side1 => exact wX_ aA.out);(case side2 => exact aX.out);(case side3 => exact wX_ aH.out);(case side4 => exact a0.out);rintro e bs ⟨rfl,hb⟩;refine ⟨_,rfl,?_⟩;replace HB := aM (lT wB_ hb);refine hK.out _ _ ⟨mv_ HB.out az,mv_ HB.out ay,mv_ HB.out ax,mv_ HB.out aw,mv_ HB.out aG,mv_ HB.out aF,mv_ HB.out aE,mv_ HB.out aD⟩ (fun hHeld => ?_);clear hK K;refine norm_ (a' := ?_) ?_ ?_;rotate_left;show Act.put _ (some 25) _ = _;simp only [Act.put,lI,sZ,sS,i64_w,i32_w];rfl;refine pV_ (i := 9) (N := some 26) (mk_ 10 1023) rfl rfl HT_.out ?_;refine done_ (done_of HT_.out (by kernel_rfl)) ?_;(try go_wp2);go_roundg k1
          case measure => have := bi.out;omega
          case rel => exact ⟨(wrap64 (aa + 1)),vR_,H',⟨by have := bi.out;omega⟩,⟨wB_⟩⟩
  ·rw [if_neg c3] at H;have a9 := qF.mpr c3;have ba := qB.mpr c3;have bk : (l0.length == l1.length) = false := (by first|simpa using c3|(simp at c3 ⊢;omega));obtain rfl := oI H;go_enter Tryz.func67,Tryz.ntmps67;go_wp2;go_ret;exact ⟨vR_,wB_⟩
 ·have ih := fun j (hj : j < k) => (ih0 j hj).2;have ihP := fun j (hj : j < k) => (ih0 j hj).1;clear ih0;intro ae af ag aJ aK ac ah ai aj aL aN ad r w aQ aR aT aU h
  cases k with
  | zero => exact absurd h (by simp [Fbr.f])
  | succ k =>
  simp only [Fbr.f] at h;have bj := Tryz.underlying36;have a5 := aM aQ;have a6 := aM aR;clear aQ aR;have a7 := aM aT;have a8 := aM aU;clear aT aU;have HB := aM (Below.refl w.heap.size w);have H : (if ae = ah then (if af.toList = ai.toList then (if ag.toList = aj.toList then ((Faz.f k ac ad).bind fun bc => (if bc = true then (some true) else (some false))) else (some false)) else (some false)) else (some false)) = some r := h;clear h
  by_cases c3 : ae = ah
  focus
   rw [if_pos c3] at H;have a9 : (ae == ah) = true := qE.mpr c3;have ba : (ae != ah) = false := qN.mpr c3;clear c3
   by_cases c4 : af.toList = ai.toList
   focus
    rw [if_pos c4] at H;have bb : (af.toList == ai.toList) = true := qE.mpr c4;have bo : (af.toList != ai.toList) = false := qN.mpr c4;clear c4
    by_cases c5 : ag.toList = aj.toList
    focus
     rw [if_pos c5] at H;have bd : (ag.toList == aj.toList) = true := qE.mpr c5;have bp : (ag.toList != aj.toList) = false := qN.mpr c5;clear c5;obtain ⟨bc,A6,H⟩ := bE_ H
     by_cases c7 : bc = true
     focus
      subst c7;rw [if_pos rfl] at H;obtain rfl := oI H
     rotate_left
     focus
      replace c7 := qO.mpr c7;subst c7;rw [if_neg qT] at H;obtain rfl := oI H
    rotate_left 2
    focus
     rw [if_neg c5] at H;have bd : (ag.toList == aj.toList) = false := qF.mpr c5;have bp : (ag.toList != aj.toList) = true := qB.mpr c5;obtain rfl := oI H
   rotate_left 3
   focus
    rw [if_neg c4] at H;have bb : (af.toList == ai.toList) = false := qF.mpr c4;have bo : (af.toList != ai.toList) = true := qB.mpr c4;obtain rfl := oI H
  rotate_left 4
  focus
   rw [if_neg c3] at H;have a9 : (ae == ah) = false := qF.mpr c3;have ba : (ae != ah) = true := qB.mpr c3;obtain rfl := oI H
  all_goals
   go_enter Tryz.func15,Tryz.ntmps15;go_wp2_with (first|((with_reducible refine gate_dst (N := 2) rfl ?_);refine bx_ (N := 2) (cs := #[.int .i64 ae,.string af,.string ag,.slice aJ ac.length aK]) (t := 36) ?_;intro be hg Wgb125 hbox hb;have ab := aM (hbox);have bf := aM ((by rw [hg];exact (lZ wB_) : w.heap.size ≤ be));have GE125 := bf;replace HB := aM (lT wB_ hb);clear hb hbox hg)|((with_reducible refine gate_dst (N := 3) rfl ?_);refine bx_ (N := 3) (cs := #[.int .i64 ah,.string ai,.string aj,.slice aL ad.length aN]) (t := 36) ?_;intro bg hg Wgb126 hbox hb;have av := aM (hbox);have bh := aM ((by rw [hg];exact (lZ wB_) : w.heap.size ≤ bg));have GE126 := bh;have aO := aM (nl_ hg ab.out);have aP := aM (ng_ hg ab.out);replace ab := aM (bw_ ab.out hb);replace HB := aM (lT wB_ hb);clear hb hbox hg;have hnby125_126 := aO.out;have hncy126_125 := aP.out;obtain ⟨_,_,_,_,_,_,_,_⟩ := z4_ ab.out;obtain ⟨_,_,_,_,_,_,_,_⟩ := z4_ av.out)|((with_reducible refine gate_callee (f := 67) rfl ?_);refine gl_ (some 24) Tryz.func67 #[.slice aJ ac.length aK,.slice aL ad.length aN] ?_;(with_reducible refine (ihP k (by omega) _ _ ac _ _ ad false _ ?side1 ?side2 ?side3 ?side4 A6.out).mono ?_);(case side1 => exact wX_ a5.out);(case side2 => exact a6.out);(case side3 => exact wX_ a7.out);(case side4 => exact a8.out);rintro e bu ⟨rfl,hb⟩;refine ⟨_,rfl,?_⟩;replace ab := aM (bw_ ab.out hb);replace av := aM (bw_ av.out hb);replace HB := aM (lT wB_ hb))|((with_reducible refine gate_callee (f := 67) rfl ?_);refine gl_ (some 24) Tryz.func67 #[.slice aJ ac.length aK,.slice aL ad.length aN] ?_;(with_reducible refine (ihP k (by omega) _ _ ac _ _ ad true _ ?side1 ?side2 ?side3 ?side4 A6.out).mono ?_);(case side1 => exact wX_ a5.out);(case side2 => exact a6.out);(case side3 => exact wX_ a7.out);(case side4 => exact a8.out);rintro e bu ⟨rfl,hb⟩;refine ⟨_,rfl,?_⟩;replace ab := aM (bw_ ab.out hb);replace av := aM (bw_ av.out hb);replace HB := aM (lT wB_ hb)));go_ret;exact ⟨vR_,wB_⟩
theorem Faz.calls (k : Nat) : ∀ (A0 : Option Addr) (c0 : Nat) (l0 : List (S36)) (A1 : Option Addr) (c1 : Nat) (l1 : List (S36)) (r : Bool) (w : World) (hr0 : Kd.C k36 w A0 l0.length l0) (hc0 : l0.length ≤ c0) (hr1 : Kd.C k36 w A1 l1.length l1) (hc1 : l1.length ≤ c1) (h : Faz.f k l0 l1 = some r),
  Calls Tryz.prog 67 #[.slice A0 l0.length c0,.slice A1 l1.length c1] w fun e w' => e = .returned (.bool r) ∧ Below w.heap.size w w' := (Faz.both k).1
theorem Fbr.calls (k : Nat) : ∀ (ac : Int) (ad : ByteArray) (ae : ByteArray) (af : Option Addr) (ag : Nat) (aa : List (S36)) (ah : Int) (ai : ByteArray) (aj : ByteArray) (ak : Option Addr) (al : Nat) (ab : List (S36)) (r : Bool) (w : World) (hr0_3 : Kd.C k36 w af aa.length aa) (hc0_3 : aa.length ≤ ag) (hr1_3 : Kd.C k36 w ak ab.length ab) (hc1_3 : ab.length ≤ al) (h : Fbr.f k ac ad ae aa ah ai aj ab = some r),
  Calls Tryz.prog 15 #[.agg #[.int .i64 ac,.string ad,.string ae,.slice af aa.length ag],.agg #[.int .i64 ah,.string ai,.string aj,.slice ak ab.length al]] w fun e w' => e = .returned (.bool r) ∧ Below w.heap.size w w' := (Faz.both k).2
def FaZ.l0 : Nat → List ByteArray → Int → Int → Option (Int)
 | 0,_,_,_ => none
 | k + 1,x0,x1,x5 => if x5 < (x0.length : Int) then (if 0 ≤ x5 then (if (wrap64 (x1 - ((rdOf ByteArray.empty x0 x5).size : Int))) < 0 then (some (-1)) else (FaZ.l0 k x0 (wrap64 (x1 - ((rdOf ByteArray.empty x0 x5).size : Int))) (wrap64 (x5 + 1)))) else (none)) else (some x1)
def FaZ.f (k : Nat) (l0 : List ByteArray) (a1 : Int) : Option (Int) := if (wrap64 (a1 - (l0.length : Int))) < 0 then (some (-1)) else (FaZ.l0 k l0 (wrap64 (a1 - (l0.length : Int))) 0)
theorem FaZ.mono_l : ∀ k,(∀ y0 y1 y2,LeO (FaZ.l0 k y0 y1 y2) (FaZ.l0 (k + 1) y0 y1 y2))
 | 0 => fun _ _ _ r h => by simp [FaZ.l0] at h
 | k + 1 => by
  have ih0 := FaZ.mono_l k
  ·intro y0 y1 y2
   unfold FaZ.l0
   repeat' (first|with_reducible (first|exact ih0 _ _ _|exact LeO.refl _|exact LeO.none _|refine LeO.ite ?_ ?_|refine LeO.bind ?_ (fun _ => ?_))|exact LeO.none _|refine LeO.ite ?_ ?_|refine LeO.bind ?_ (fun _ => ?_))
theorem FaZ.mono : ∀ a0 a1 k,LeO (FaZ.f k a0 a1) (FaZ.f (k + 1) a0 a1) := by
 intro a0 a1 k
 have ih0 := FaZ.mono_l k
 unfold FaZ.f
 repeat' (first|with_reducible (first|exact ih0 _ _ _|exact LeO.refl _|exact LeO.none _|refine LeO.ite ?_ ?_|refine LeO.bind ?_ (fun _ => ?_))|exact LeO.none _|refine LeO.ite ?_ ?_|refine LeO.bind ?_ (fun _ => ?_))
theorem FaZ.calls (k : Nat) (A0 : Option Addr) (c0 : Nat) (l0 : List ByteArray) (a1 : Int) (r : Int) (w : World) (hr0 : Kd.C Kd.string w A0 l0.length l0) (hc0 : l0.length ≤ c0) (h : FaZ.f k l0 a1 = some r) :
  Calls Tryz.prog 43 #[.slice A0 l0.length c0,.int .i64 a1] w fun e w' => e = .returned (.int .i64 r) ∧ Drawn0 w w' := by
 have HR0 := aM hr0;have HC0 := aM hc0;clear hr0 hc0;have H : (if (wrap64 (a1 - (l0.length : Int))) < 0 then (some (-1)) else (FaZ.l0 k l0 (wrap64 (a1 - (l0.length : Int))) 0)) = some r := h;clear h
 by_cases c3 : (wrap64 (a1 - (l0.length : Int))) < 0
 ·rw [if_pos c3] at H;have ac := dT c3;clear c3;obtain rfl := oI H;go_enter Tryz.func43,Tryz.ntmps43;go_wp2;go_ret;exact ⟨vR_,dw_⟩
 ·rw [if_neg c3] at H;have ac := dF c3;clear c3;have H' := aM H;clear H;go_enter Tryz.func43,Tryz.ntmps43;go_wp2;go_loopg [1,5] k (fun kq v1 v5 w' => ∃ (ab : Int) (aa : Int),v1 = .int .i64 ab ∧ v5 = .int .i64 aa ∧ Aside0 (FaZ.l0 kq l0 ab aa = some r) ∧ Aside0 (kq ≤ k) ∧ Drawn0 w w')
  case atStart => exact ⟨(wrap64 (a1 - (l0.length : Int))),(0),vR_,vR_,H',⟨Nat.le_refl _⟩,dw_⟩
  case round =>
   clear H';obtain ⟨ab,aa,rfl,rfl,HA,af,⟨m1,rfl⟩⟩ := hrel
   cases gk with
   | zero => exact absurd HA.out (by simp [FaZ.l0])
   | succ k1 =>
    have H := HA.out;clear HA;simp only [FaZ.l0] at H
    by_cases c4 : aa < (l0.length : Int)
    focus
     rw [if_pos c4] at H;have ad := dT c4;clear c4
     by_cases c5 : 0 ≤ aa
     rotate_left;rw [if_neg c5] at H;exact nH_ H;rw [if_pos c5] at H;have c5b0 := dT c5;clear c5
     by_cases c6 : (wrap64 (ab - ((rdOf ByteArray.empty l0 aa).size : Int))) < 0
     focus
      rw [if_pos c6] at H;have ae := dT c6;clear c6;obtain rfl := oI H
     rotate_left
     focus
      rw [if_neg c6] at H;have ae := dF c6;clear c6;have H' := aM H;clear H
    rotate_left 2
    focus
     rw [if_neg c4] at H;have ad := dF c4;clear c4;obtain rfl := oI H
    all_goals
     (try (have p01 : 0 ≤ (aa : Int) := oD (by assumption);have q01 : aa < (l0.length : Int) := oD (by assumption);obtain ⟨ad01,e01,hx01_0⟩ := Kd.at_string HR0.out aa p01 q01;cases e01;replace p01 := eq_true p01;replace q01 := eq_true q01));go_wp2
     first
      |
       go_ret;exact ⟨vR_,dw_⟩
      |
       go_roundg k1
       case measure => have := af.out;omega
       case rel => exact ⟨(wrap64 (ab - ((rdOf ByteArray.empty l0 aa).size : Int))),(wrap64 (aa + 1)),vR_,vR_,H',⟨by have := af.out;omega⟩,dw_⟩
def FbY.f (k : Nat) (ae : List ByteArray) (ab : ByteArray) (ac : ByteArray) (ad : ByteArray) (a1 : Int) : Option (Int) := (FaZ.f k ae a1).bind fun aa => (if aa < 0 then (some (-1)) else (if (wrap64 (aa - (ab.size : Int))) < 0 then (some (-1)) else (if (wrap64 ((wrap64 (aa - (ab.size : Int))) - (ac.size : Int))) < 0 then (some (-1)) else (if (wrap64 ((wrap64 ((wrap64 (aa - (ab.size : Int))) - (ac.size : Int))) - (ad.size : Int))) < 0 then (some (-1)) else (some (wrap64 ((wrap64 ((wrap64 (aa - (ab.size : Int))) - (ac.size : Int))) - (ad.size : Int))))))))
theorem FbY.mono : ∀ a0 a1 a2 a3 a4 k,LeO (FbY.f k a0 a1 a2 a3 a4) (FbY.f (k + 1) a0 a1 a2 a3 a4) := by
 intro a0 a1 a2 a3 a4 k
 unfold FbY.f
 repeat' (first|with_reducible (first|exact FaZ.mono _ _ _|exact LeO.refl _|exact LeO.none _|refine LeO.ite ?_ ?_|refine LeO.bind ?_ (fun _ => ?_))|exact LeO.none _|refine LeO.ite ?_ ?_|refine LeO.bind ?_ (fun _ => ?_))
theorem FbY.calls (k : Nat) (af : Option Addr) (ag : Nat) (ac : List ByteArray) (aa : ByteArray) (ad : ByteArray) (ae : ByteArray) (a1 : Int) (r : Int) (w : World) (ah : Kd.C Kd.string w af ac.length ac) (ai : ac.length ≤ ag) (h : FbY.f k ac aa ad ae a1 = some r) :
  Calls Tryz.prog 117 #[.agg #[.slice af ac.length ag,.string aa,.string ad,.string ae],.int .i64 a1] w fun e w' => e = .returned (.int .i64 r) ∧ Below w.heap.size w w' := by
 have hu152 := Tryz.underlying152;have ak := aM ah;have al := aM ai;clear ah ai;have HB := aM (Below.refl w.heap.size w);have H : ((FaZ.f k ac a1).bind fun ab => (if ab < 0 then (some (-1)) else (if (wrap64 (ab - (aa.size : Int))) < 0 then (some (-1)) else (if (wrap64 ((wrap64 (ab - (aa.size : Int))) - (ad.size : Int))) < 0 then (some (-1)) else (if (wrap64 ((wrap64 ((wrap64 (ab - (aa.size : Int))) - (ad.size : Int))) - (ae.size : Int))) < 0 then (some (-1)) else (some (wrap64 ((wrap64 ((wrap64 (ab - (aa.size : Int))) - (ad.size : Int))) - (ae.size : Int))))))))) = some r := h;clear h;obtain ⟨ab,A3,H⟩ := bE_ H
 by_cases c4 : ab < 0
 focus
  rw [if_pos c4] at H;have au := dT c4;clear c4;obtain rfl := oI H
 rotate_left
 focus
  rw [if_neg c4] at H;have au := dF c4;clear c4
  by_cases c7 : (wrap64 (ab - (aa.size : Int))) < 0
  focus
   rw [if_pos c7] at H;have av := dT c7;clear c7;obtain rfl := oI H
  rotate_left
  focus
   rw [if_neg c7] at H;have av := dF c7;clear c7
   by_cases c10 : (wrap64 ((wrap64 (ab - (aa.size : Int))) - (ad.size : Int))) < 0
   focus
    rw [if_pos c10] at H;have am := dT c10;clear c10;obtain rfl := oI H
   rotate_left
   focus
    rw [if_neg c10] at H;have am := dF c10;clear c10
    by_cases aj : (wrap64 ((wrap64 ((wrap64 (ab - (aa.size : Int))) - (ad.size : Int))) - (ae.size : Int))) < 0
    focus
     rw [if_pos aj] at H;have an := dT aj;clear aj;obtain rfl := oI H
    rotate_left
    focus
     rw [if_neg aj] at H;have an := dF aj;clear aj;obtain rfl := oI H
 all_goals
  go_enter Tryz.func117,Tryz.ntmps117;go_wp2_with (first|((with_reducible refine gate_dst (N := 2) rfl ?_);refine bx_ (N := 2) (cs := #[.slice af ac.length ag,.string aa,.string ad,.string ae]) (t := 152) ?_;intro ao hg Wgb129 hbox hb;have ap := aM (hbox);have ar := aM ((by rw [hg];exact (lZ wB_) : w.heap.size ≤ ao));have GE129 := ar;replace HB := aM (lT wB_ hb);clear hb hbox hg;obtain ⟨_,_,_,_,_,_,_,_⟩ := z4_ ap.out)|((with_reducible refine gate_callee (f := 43) rfl ?_);refine gl_ (some 8) Tryz.func43 #[.slice af ac.length ag,.int .i64 a1] ?_;(with_reducible refine (FaZ.calls _ _ _ _ _ _ _ ?side1 ?side2 A3.out).mono ?_);(case side1 => exact wX_ ak.out);(case side2 => exact al.out);rintro e w' ⟨rfl,⟨nd,rfl⟩⟩;refine ⟨_,rfl,?_⟩));go_ret;exact ⟨vR_,wB_⟩
end Go.Proofs.YtmafmhgmdegplaaGreatDoor.P
