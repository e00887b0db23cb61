/- Walks: each Go function computes the Lean function beside it; conditions: those of each theorem. -/
import Derived.Test.YtmafmhgmdegplaaGreatDoorZPx0
import Derived.Test.YtmafmhgmdegplaaGreatDoorZPx11
namespace Go.Proofs.YtmafmhgmdegplaaGreatDoor.P
open Go.RowKit Go.Proofs.YtmafmhgmdegplaaGreatDoorW.PrintWords Go.Proofs.YtmafmhgmdegplaaGreatDoorW.PrintLast Go.Proofs.YtmafmhgmdegplaaGreatDoorW.PrintMore
set_option maxHeartbeats 8000000
set_option maxRecDepth 100000
attribute [local go_sem] max2_int min2_int max_two min_two max_three min_three max_four min_four   -- for this text's walks alone
set_option linter.unusedVariables false
set_option linter.unusedSimpArgs false
def FaW.l0 : Nat → List (S157) → ByteArray → Int → Option (ByteArray)
 | 0,_,_,_ => none
 | k + 1,x0,x3,x4 => if x4 < (x0.length : Int) then (if x4 > 0 then (if x3.size + 2 ≤ 9223372036854775807 then (if 0 ≤ x4 then ((FaG.f k ((Fas x0 x4).f0) ((Fas x0 x4).f1) ((Fas x0 x4).f2) ((Fas x0 x4).f3)).bind fun aa => (if (x3 ++ (⟨#[59,32]⟩ : ByteArray)).size + aa.size ≤ 9223372036854775807 then (FaW.l0 k x0 ((x3 ++ (⟨#[59,32]⟩ : ByteArray)) ++ aa) (wrap64 (x4 + 1))) else (none))) else (none)) else (none)) else (if 0 ≤ x4 then ((FaG.f k ((Fas x0 x4).f0) ((Fas x0 x4).f1) ((Fas x0 x4).f2) ((Fas x0 x4).f3)).bind fun ab => (if x3.size + ab.size ≤ 9223372036854775807 then (FaW.l0 k x0 (x3 ++ ab) (wrap64 (x4 + 1))) else (none))) else (none))) else (some x3)
def FaW.f (k : Nat) (l0 : List (S157)) : Option (ByteArray) := FaW.l0 k l0 (⟨#[]⟩ : ByteArray) 0
theorem FaW.mono_l : ∀ k,(∀ y0 y1 y2,LeO (FaW.l0 k y0 y1 y2) (FaW.l0 (k + 1) y0 y1 y2))
 | 0 => fun _ _ _ r h => by simp [FaW.l0] at h
 | k + 1 => by
  have ih0 := FaW.mono_l k
  ·intro y0 y1 y2
   unfold FaW.l0
   repeat' (first|with_reducible (first|exact ih0 _ _ _|exact FaG.mono _ _ _ _ _|exact LeO.refl _|exact LeO.none _|refine LeO.ite ?_ ?_|refine LeO.bind ?_ (fun _ => ?_))|exact LeO.none _|refine LeO.ite ?_ ?_|refine LeO.bind ?_ (fun _ => ?_))
theorem FaW.mono : ∀ a0 k,LeO (FaW.f k a0) (FaW.f (k + 1) a0) := by
 intro a0 k
 have ih0 := FaW.mono_l k
 unfold FaW.f
 repeat' (first|with_reducible (first|exact ih0 _ _ _|exact FaG.mono _ _ _ _ _|exact LeO.refl _|exact LeO.none _|refine LeO.ite ?_ ?_|refine LeO.bind ?_ (fun _ => ?_))|exact LeO.none _|refine LeO.ite ?_ ?_|refine LeO.bind ?_ (fun _ => ?_))
theorem FaW.calls (k : Nat) (A0 : Option Addr) (c0 : Nat) (l0 : List (S157)) (r : ByteArray) (w : World) (aw : Kd.C k157 w A0 l0.length l0) (ax : l0.length ≤ c0) (h : FaW.f k l0 = some r) :
  Calls Tryz.prog 181 #[.slice A0 l0.length c0] w fun e w' => e = .returned (.string r) ∧ Below w.heap.size w w' := by
 have hu157 := Tryz.underlying157;have ay := aM aw;have HC0 := aM ax;clear aw ax;have HB := aM (Below.refl w.heap.size w);have H : (FaW.l0 k l0 (⟨#[]⟩ : ByteArray) 0) = some r := h;clear h;have H' := aM H;clear H;go_enter Tryz.func181,Tryz.ntmps181;go_wp2;go_loopg [3,4] k (fun kq v3 v4 w' => ∃ (ab : ByteArray) (aa : Int),v3 = .string ab ∧ v4 = .int .i64 aa ∧ Aside0 (FaW.l0 kq l0 ab aa = some r) ∧ Aside0 (kq ≤ k) ∧ Aside0 (Below w.heap.size w w'))
 case atStart => exact ⟨((⟨#[]⟩ : ByteArray)),(0),vR_,vR_,H',⟨Nat.le_refl _⟩,⟨wB_⟩⟩
 case round =>
  clear H';obtain ⟨ab,aa,rfl,rfl,HA,ao,HB⟩ := hrel
  cases gk with
  | zero => exact absurd HA.out (by simp [FaW.l0])
  | succ k1 =>
   have H := HA.out;clear HA;simp only [FaW.l0] at H
   by_cases c2 : aa < (l0.length : Int)
   focus
    rw [if_pos c2] at H;have ap := dT c2;clear c2
    by_cases c3 : aa > 0
    focus
     rw [if_pos c3] at H;have ar : decide (0 < aa) = true := dT c3;clear c3
     by_cases c4 : ab.size + 2 ≤ 9223372036854775807
     rotate_left;rw [if_neg c4] at H;exact nH_ H;rw [if_pos c4] at H;have c4b0 := eq_true c4;have c4b1 := dT c4;(try have c4b2 : (9223372036854775807 < ab.size + 2) = False := eq_false (Nat.not_lt.2 c4))
     by_cases c5 : 0 ≤ aa
     rotate_left;rw [if_neg c5] at H;exact nH_ H;rw [if_pos c5] at H;have c5b0 := dT c5;clear c5;obtain ⟨ak,A6,H⟩ := bE_ H
     by_cases c7 : (ab ++ (⟨#[59,32]⟩ : ByteArray)).size + ak.size ≤ 9223372036854775807
     rotate_left;rw [if_neg c7] at H;exact nH_ H;rw [if_pos c7] at H;have c7b0 := eq_true c7;have c7b1 := dT c7;(try have c7b3 : (9223372036854775807 < ab.size + 2 + ak.size) = False := eq_false (by have h_ := c7;simp only [ByteArray.size_append,ByteArray.size_extract] at h_;have hs0_ : (⟨#[59,32]⟩ : ByteArray).size = 2 := rfl;omega));(try have c7b2 : (9223372036854775807 < (ab ++ (⟨#[59,32]⟩ : ByteArray)).size + ak.size) = False := eq_false (Nat.not_lt.2 c7));have H' := aM H;clear H
    rotate_left
    focus
     rw [if_neg c3] at H;have ar : decide (0 < aa) = false := dF c3;clear c3
     by_cases c9 : 0 ≤ aa
     rotate_left;rw [if_neg c9] at H;exact nH_ H;rw [if_pos c9] at H;have c9b0 := dT c9;clear c9;obtain ⟨an,az,H⟩ := bE_ H
     by_cases c11 : ab.size + an.size ≤ 9223372036854775807
     rotate_left;rw [if_neg c11] at H;exact nH_ H;rw [if_pos c11] at H;have c11b0 := eq_true c11;have c11b1 := dT c11;(try have c11b2 : (9223372036854775807 < ab.size + an.size) = False := eq_false (Nat.not_lt.2 c11));have H' := aM H;clear H
   rotate_left 2
   focus
    rw [if_neg c2] at H;have ap := dF c2;clear c2;obtain rfl := oI H
   all_goals
    (try (have au : 0 ≤ (aa : Int) := oD (by assumption);have av : aa < (l0.length : Int) := oD (by assumption);obtain ⟨ad01,al,am,aA,ac,ad,ae,af,ag,ah⟩ := Fcf ay.out aa au av;cases aA;replace ac := mv_ HB.out ac;replace ad := mv_ HB.out ad;replace ae := mv_ HB.out ae;replace af := mv_ HB.out af;have ai := aM ah;have aj := aM ag;clear ah ag;replace au := eq_true au;replace av := eq_true av));go_wp2_with (first|((with_reducible refine gate_callee (f := 226) rfl ?_);refine gl_ (some 20) Tryz.func226 #[.agg #[.slice al ((Fas l0 aa).f0).length am,.string ((Fas l0 aa).f1),.string ((Fas l0 aa).f2),.string ((Fas l0 aa).f3)]] ?_;(with_reducible refine (FaG.calls _ _ _ _ _ _ _ _ _ ?side1 ?side2 az.out).mono ?_);(case side1 => exact wX_ ai.out);(case side2 => exact aj.out);rintro e WA10 ⟨rfl,hb⟩;refine ⟨_,rfl,?_⟩;replace HB := aM (lT wB_ hb))|((with_reducible refine gate_callee (f := 226) rfl ?_);refine gl_ (some 20) Tryz.func226 #[.agg #[.slice al ((Fas l0 aa).f0).length am,.string ((Fas l0 aa).f1),.string ((Fas l0 aa).f2),.string ((Fas l0 aa).f3)]] ?_;(with_reducible refine (FaG.calls _ _ _ _ _ _ _ _ _ ?side1 ?side2 A6.out).mono ?_);(case side1 => exact wX_ ai.out);(case side2 => exact aj.out);rintro e WA6 ⟨rfl,hb⟩;refine ⟨_,rfl,?_⟩;replace HB := aM (lT wB_ hb)))
    first
     |
      go_ret;exact ⟨vR_,wB_⟩
     |
      go_roundg k1
      case measure => have := ao.out;omega
      case rel => first|(exact ⟨((ab ++ (⟨#[59,32]⟩ : ByteArray)) ++ ak),(wrap64 (aa + 1)),vR_,vR_,H',⟨by have := ao.out;omega⟩,⟨wB_⟩⟩)|(exact ⟨(ab ++ an),(wrap64 (aa + 1)),vR_,vR_,H',⟨by have := ao.out;omega⟩,⟨wB_⟩⟩)
def Fa7.l0 : Nat → Int → ByteArray → Option (ByteArray)
 | 0,_,_ => none
 | k + 1,x1,x5 => if (x5.size : Int) < x1 then (if 1 + x5.size ≤ 9223372036854775807 then (Fa7.l0 k x1 ((⟨#[48]⟩ : ByteArray) ++ x5)) else (none)) else (some x5)
def Fa7.f (k : Nat) (a0 : Int) (a1 : Int) : Option (ByteArray) := (FaS.f k a0).bind fun aa => (Fa7.l0 k a1 aa)
theorem Fa7.mono_l : ∀ k,(∀ y0 y1,LeO (Fa7.l0 k y0 y1) (Fa7.l0 (k + 1) y0 y1))
 | 0 => fun _ _ r h => by simp [Fa7.l0] at h
 | k + 1 => by
  have ih0 := Fa7.mono_l k
  ·intro y0 y1
   unfold Fa7.l0
   repeat' (first|with_reducible (first|exact ih0 _ _|exact FaS.mono _ _|exact LeO.refl _|exact LeO.none _|refine LeO.ite ?_ ?_|refine LeO.bind ?_ (fun _ => ?_))|exact LeO.none _|refine LeO.ite ?_ ?_|refine LeO.bind ?_ (fun _ => ?_))
theorem Fa7.mono : ∀ a0 a1 k,LeO (Fa7.f k a0 a1) (Fa7.f (k + 1) a0 a1) := by
 intro a0 a1 k
 have ih0 := Fa7.mono_l k
 unfold Fa7.f
 repeat' (first|with_reducible (first|exact ih0 _ _|exact FaS.mono _ _|exact LeO.refl _|exact LeO.none _|refine LeO.ite ?_ ?_|refine LeO.bind ?_ (fun _ => ?_))|exact LeO.none _|refine LeO.ite ?_ ?_|refine LeO.bind ?_ (fun _ => ?_))
theorem Fa7.calls (k : Nat) (a0 : Int) (a1 : Int) (r : ByteArray) (w : World) (h : Fa7.f k a0 a1 = some r) :
  Calls Tryz.prog 227 #[.int .i64 a0,.int .i64 a1] w fun e w' => e = .returned (.string r) ∧ Below w.heap.size w w' := by
 have HB := aM (Below.refl w.heap.size w);have H : ((FaS.f k a0).bind fun ab => (Fa7.l0 k a1 ab)) = some r := h;clear h;obtain ⟨ab,A3,H⟩ := bE_ H;have H' := aM H;clear H;go_enter Tryz.func227,Tryz.ntmps227;go_wp2_with (first|((with_reducible refine gate_callee (f := 142) rfl ?_);refine gl_ (some 7) Tryz.func142 #[.int .i64 a0] ?_;(with_reducible refine (FaS.calls k a0 ab _ A3.out).mono ?_);rintro e w4 ⟨rfl,hb⟩;refine ⟨_,rfl,?_⟩;replace HB := aM (lT wB_ hb)));go_loopg [5] k (fun kq v5 w' => ∃ (aa : ByteArray),v5 = .string aa ∧ Aside0 (Fa7.l0 kq a1 aa = some r) ∧ Aside0 (kq ≤ k) ∧ Aside0 (Below w.heap.size w w'))
 case atStart => exact ⟨(ab),vR_,H',⟨Nat.le_refl _⟩,⟨wB_⟩⟩
 case round =>
  clear H';obtain ⟨aa,rfl,HA,ad,HB⟩ := hrel
  cases gk with
  | zero => exact absurd HA.out (by simp [Fa7.l0])
  | succ k1 =>
   have H := HA.out;clear HA;simp only [Fa7.l0] at H
   by_cases c5 : (aa.size : Int) < a1
   ·rw [if_pos c5] at H;have ac := dT c5;clear c5
    by_cases c6 : 1 + aa.size ≤ 9223372036854775807
    ·rw [if_pos c6] at H;have c6b0 := eq_true c6;have c6b1 := dT c6;(try have c6b2 : (9223372036854775807 < 1 + aa.size) = False := eq_false (Nat.not_lt.2 c6));have H' := aM H;clear H;go_wp2;go_roundg k1
     case measure => have := ad.out;omega
     case rel => exact ⟨((⟨#[48]⟩ : ByteArray) ++ aa),vR_,H',⟨by have := ad.out;omega⟩,⟨wB_⟩⟩
    ·rw [if_neg c6] at H;exact nH_ H
   ·rw [if_neg c5] at H;have ac := dF c5;clear c5;obtain rfl := oI H;go_wp2;go_ret;exact ⟨vR_,wB_⟩
def Fbb.j0 : Nat → ByteArray → Int → Int → Int → Bool → Option (ByteArray)
 | 0,_,_,_,_,_ => none
 | k + 1,x3,x285000,x285001,aa,ab => if aa > 0 then (if x3.size + 1 ≤ 9223372036854775807 then ((Fa7.f k aa 2).bind fun ac => (if (x3 ++ (⟨#[45]⟩ : ByteArray)).size + ac.size ≤ 9223372036854775807 then (if ab = true then (if 1 + ((x3 ++ (⟨#[45]⟩ : ByteArray)) ++ ac).size ≤ 9223372036854775807 then (some ((⟨#[99]⟩ : ByteArray) ++ ((x3 ++ (⟨#[45]⟩ : ByteArray)) ++ ac))) else (none)) else (some ((x3 ++ (⟨#[45]⟩ : ByteArray)) ++ ac))) else (none))) else (none)) else (if ab = true then (if 1 + x3.size ≤ 9223372036854775807 then (some ((⟨#[99]⟩ : ByteArray) ++ x3)) else (none)) else (some x3))
def Fbb.f (k : Nat) (aa : Int) (ab : Int) (ad : Int) (ae : Bool) : Option (ByteArray) := if aa = 0 then (some (⟨#[117,110,107,110,111,119,110]⟩ : ByteArray)) else ((Fa7.f k aa 4).bind fun ac => (if ab > 0 then (if ac.size + 1 ≤ 9223372036854775807 then ((Fa7.f k ab 2).bind fun af => (if (ac ++ (⟨#[45]⟩ : ByteArray)).size + af.size ≤ 9223372036854775807 then (Fbb.j0 k ((ac ++ (⟨#[45]⟩ : ByteArray)) ++ af) aa ab ad ae) else (none))) else (none)) else (Fbb.j0 k ac aa ab ad ae)))
theorem Fbb.mono_l : ∀ k,(∀ y0 y1 y2 y3 y4,LeO (Fbb.j0 k y0 y1 y2 y3 y4) (Fbb.j0 (k + 1) y0 y1 y2 y3 y4))
 | 0 => fun _ _ _ _ _ r h => by simp [Fbb.j0] at h
 | k + 1 => by
  have ih0 := Fbb.mono_l k
  ·intro y0 y1 y2 y3 y4
   unfold Fbb.j0
   repeat' (first|with_reducible (first|exact ih0 _ _ _ _ _|exact Fa7.mono _ _ _|exact LeO.refl _|exact LeO.none _|refine LeO.ite ?_ ?_|refine LeO.bind ?_ (fun _ => ?_))|exact LeO.none _|refine LeO.ite ?_ ?_|refine LeO.bind ?_ (fun _ => ?_))
theorem Fbb.mono : ∀ a0 a1 a2 a3 k,LeO (Fbb.f k a0 a1 a2 a3) (Fbb.f (k + 1) a0 a1 a2 a3) := by
 intro a0 a1 a2 a3 k
 have ih0 := Fbb.mono_l k
 unfold Fbb.f
 repeat' (first|with_reducible (first|exact ih0 _ _ _ _ _|exact Fa7.mono _ _ _|exact LeO.refl _|exact LeO.none _|refine LeO.ite ?_ ?_|refine LeO.bind ?_ (fun _ => ?_))|exact LeO.none _|refine LeO.ite ?_ ?_|refine LeO.bind ?_ (fun _ => ?_))
theorem Fbb.calls (k : Nat) (ac : Int) (ab : Int) (ad : Int) (ag : Bool) (r : ByteArray) (w : World) (h : Fbb.f k ac ab ad ag = some r) :
  Calls Tryz.prog 182 #[.agg #[.int .i64 ac,.int .i64 ab,.int .i64 ad,.bool ag]] w fun e w' => e = .returned (.string r) ∧ Below w.heap.size w w' := by
 have hu39 := Tryz.underlying39;have HB := aM (Below.refl w.heap.size w);have H : (if ac = 0 then (some (⟨#[117,110,107,110,111,119,110]⟩ : ByteArray)) else ((Fa7.f k ac 4).bind fun ae => (if ab > 0 then (if ae.size + 1 ≤ 9223372036854775807 then ((Fa7.f k ab 2).bind fun ah => (if (ae ++ (⟨#[45]⟩ : ByteArray)).size + ah.size ≤ 9223372036854775807 then (Fbb.j0 k ((ae ++ (⟨#[45]⟩ : ByteArray)) ++ ah) ac ab ad ag) else (none))) else (none)) else (Fbb.j0 k ae ac ab ad ag)))) = some r := h;clear h
 by_cases c2 : ac = 0
 ·rw [if_pos c2] at H;have aJ := qE.mpr c2;have aK := qN.mpr c2;clear c2;obtain rfl := oI H;go_enter Tryz.func182,Tryz.ntmps182;go_wp2_with (first|((with_reducible refine gate_dst (N := 1) rfl ?_);refine bx_ (N := 1) (cs := #[.int .i64 ac,.int .i64 ab,.int .i64 ad,.bool ag]) (t := 39) ?_;intro au hg w3 hbox hb;have aa := aM (hbox);have aw := aM ((by rw [hg];exact (lZ wB_) : w.heap.size ≤ au));have aA := aw;replace HB := aM (lT wB_ hb);clear hb hbox hg;obtain ⟨_,_,_,_,_,_,_,_⟩ := z4_ aa.out));go_ret;exact ⟨vR_,wB_⟩
 ·rw [if_neg c2] at H;have aJ := qF.mpr c2;have aK := qB.mpr c2;obtain ⟨ae,A5,H⟩ := bE_ H;have aL := aM H;clear H;go_enter Tryz.func182,Tryz.ntmps182;go_upto_if 12 with (first|((with_reducible refine gate_dst (N := 1) rfl ?_);refine bx_ (N := 1) (cs := #[.int .i64 ac,.int .i64 ab,.int .i64 ad,.bool ag]) (t := 39) ?_;intro au hg w7 hbox hb;have aa := aM (hbox);have aw := aM ((by rw [hg];exact (lZ wB_) : w.heap.size ≤ au));have aA := aw;replace HB := aM (lT wB_ hb);clear hb hbox hg;obtain ⟨_,_,_,_,_,_,_,_⟩ := z4_ aa.out)|((with_reducible refine gate_callee (f := 227) rfl ?_);refine gl_ (some 9) Tryz.func227 #[.int .i64 ac,.int .i64 4] ?_;(with_reducible refine (Fa7.calls k ac 4 ae _ A5.out).mono ?_);rintro e w9 ⟨rfl,hb⟩;refine ⟨_,rfl,?_⟩;replace aa := aM (bw_ aa.out hb);replace HB := aM (lT wB_ hb);obtain ⟨_,_,_,_,_,_,_,_⟩ := z4_ aa.out));(try simp only [Act.put,lI,sZ,sS]);go_cut [3] (fun v3 wc => ∃ (kq : Nat) (af : ByteArray),v3 = .string af ∧ Aside0 (Fbb.j0 kq af ac ab ad ag = some r) ∧ Aside0 (kq ≤ k) ∧ Aside0 (wc.heap[au]? = some (.cells #[.int .i64 ac,.int .i64 ab,.int .i64 ad,.bool ag] 39 (0,0))) ∧ Aside0 (Below w.heap.size w wc))
  case first =>
   have H := aL.out;clear aL
   by_cases c11 : ab > 0
   ·rw [if_pos c11] at H;have ai : decide (0 < ab) = true := dT c11;clear c11;(first|rw [ai]|(simp only [i64_w,i32_w];rw [ai])|skip)
    by_cases aC : ae.size + 1 ≤ 9223372036854775807
    ·rw [if_pos aC] at H;have c12b0 := eq_true aC;have c12b1 := dT aC;(try have c12b2 : (9223372036854775807 < ae.size + 1) = False := eq_false (Nat.not_lt.2 aC));obtain ⟨ah,aP,H⟩ := bE_ H
     by_cases ax : (ae ++ (⟨#[45]⟩ : ByteArray)).size + ah.size ≤ 9223372036854775807
     ·rw [if_pos ax] at H;have c14b0 := eq_true ax;have c14b1 := dT ax;(try have c14b3 : (9223372036854775807 < ae.size + 1 + ah.size) = False := eq_false (by have h_ := ax;simp only [ByteArray.size_append,ByteArray.size_extract] at h_;have hs0_ : (⟨#[45]⟩ : ByteArray).size = 1 := rfl;omega));(try have c14b2 : (9223372036854775807 < (ae ++ (⟨#[45]⟩ : ByteArray)).size + ah.size) = False := eq_false (Nat.not_lt.2 ax));have H' := aM H;clear H;obtain ⟨_,_,_,_,_,_,_,_⟩ := z4_ aa.out;go_wp2_with (first|((with_reducible refine gate_callee (f := 227) rfl ?_);refine gl_ (some 17) Tryz.func227 #[.int .i64 ab,.int .i64 2] ?_;(with_reducible refine (Fa7.calls k ab 2 ah _ aP.out).mono ?_);rintro e w16 ⟨rfl,hb⟩;refine ⟨_,rfl,?_⟩;replace aa := aM (bw_ aa.out hb);replace HB := aM (lT wB_ hb)));go_meet
      case rel => exact ⟨_,((ae ++ (⟨#[45]⟩ : ByteArray)) ++ ah),vR_,H',⟨by first|omega|exact Nat.le_refl _⟩,⟨wC_ aa.out⟩,⟨wB_⟩⟩
     ·rw [if_neg ax] at H;exact nH_ H
    ·rw [if_neg aC] at H;exact nH_ H
   ·rw [if_neg c11] at H;have ai : decide (0 < ab) = false := dF c11;clear c11;(first|rw [ai]|(simp only [i64_w,i32_w];rw [ai])|skip);have H' := aM H;clear H;go_wp2;go_meet
    case rel => exact ⟨_,(ae),vR_,H',⟨by first|omega|exact Nat.le_refl _⟩,⟨wC_ aa.out⟩,⟨wB_⟩⟩
  case rest =>
   clear aL;obtain ⟨kq,af,rfl,HA,HJ5,aa,HB⟩ := hcut
   cases kq with
   | zero => exact absurd HA.out (by simp [Fbb.j0])
   | succ kj5 =>
    have H := HA.out;clear HA;simp only [Fbb.j0] at H
    by_cases ay : ad > 0
    focus
     rw [if_pos ay] at H;have aD : decide (0 < ad) = true := dT ay;clear ay
     by_cases aE : af.size + 1 ≤ 9223372036854775807
     rotate_left;rw [if_neg aE] at H;exact nH_ H;rw [if_pos aE] at H;have c18b0 := eq_true aE;have c18b1 := dT aE;(try have c18b2 : (9223372036854775807 < af.size + 1) = False := eq_false (Nat.not_lt.2 aE));obtain ⟨av,aO,H⟩ := bE_ H
     by_cases az : (af ++ (⟨#[45]⟩ : ByteArray)).size + av.size ≤ 9223372036854775807
     rotate_left;rw [if_neg az] at H;exact nH_ H;rw [if_pos az] at H;have c20b0 := eq_true az;have c20b1 := dT az;(try have c20b3 : (9223372036854775807 < af.size + 1 + av.size) = False := eq_false (by have h_ := az;simp only [ByteArray.size_append,ByteArray.size_extract] at h_;have hs0_ : (⟨#[45]⟩ : ByteArray).size = 1 := rfl;omega));(try have c20b2 : (9223372036854775807 < (af ++ (⟨#[45]⟩ : ByteArray)).size + av.size) = False := eq_false (Nat.not_lt.2 az))
     by_cases aG : ag = true
     focus
      subst aG;rw [if_pos rfl] at H
      by_cases c22 : 1 + ((af ++ (⟨#[45]⟩ : ByteArray)) ++ av).size ≤ 9223372036854775807
      rotate_left;rw [if_neg c22] at H;exact nH_ H;rw [if_pos c22] at H;have c22b0 := eq_true c22;have c22b1 := dT c22;(try have c22b3 : (9223372036854775807 < 1 + (af.size + 1 + av.size)) = False := eq_false (by have h_ := c22;simp only [ByteArray.size_append,ByteArray.size_extract] at h_;have hs0_ : (⟨#[45]⟩ : ByteArray).size = 1 := rfl;omega));(try have c22b2 : (9223372036854775807 < 1 + ((af ++ (⟨#[45]⟩ : ByteArray)) ++ av).size) = False := eq_false (Nat.not_lt.2 c22));obtain rfl := oI H
     rotate_left
     focus
      replace aG := qO.mpr aG;subst aG;rw [if_neg qT] at H;obtain rfl := oI H
    rotate_left 2
    focus
     rw [if_neg ay] at H;have aD : decide (0 < ad) = false := dF ay;clear ay
     by_cases aH : ag = true
     focus
      subst aH;rw [if_pos rfl] at H
      by_cases aF : 1 + af.size ≤ 9223372036854775807
      rotate_left;rw [if_neg aF] at H;exact nH_ H;rw [if_pos aF] at H;have c30b0 := eq_true aF;have c30b1 := dT aF;(try have c30b2 : (9223372036854775807 < 1 + af.size) = False := eq_false (Nat.not_lt.2 aF));obtain rfl := oI H
     rotate_left
     focus
      replace aH := qO.mpr aH;subst aH;rw [if_neg qT] at H;obtain rfl := oI H
    all_goals
     obtain ⟨_,_,_,_,_,_,_,_⟩ := z4_ aa.out;go_wp2_with (first|((with_reducible refine gate_callee (f := 227) rfl ?_);refine gl_ (some 26) Tryz.func227 #[.int .i64 ad,.int .i64 2] ?_;(with_reducible refine (Fa7.calls _ _ _ _ _ aO.out).mono ?_);rintro e aN ⟨rfl,hb⟩;refine ⟨_,rfl,?_⟩;replace aa := aM (bw_ aa.out hb);replace HB := aM (lT wB_ hb);obtain ⟨aj,ak,al,am,an,ao,ap,ar⟩ := z4_ aa.out)|((with_reducible refine gate_callee (f := 227) rfl ?_);refine gl_ (some 26) Tryz.func227 #[.int .i64 ad,.int .i64 2] ?_;(with_reducible refine (Fa7.calls _ _ _ _ _ aO.out).mono ?_);rintro e aN ⟨rfl,hb⟩;refine ⟨_,rfl,?_⟩;replace aa := aM (bw_ aa.out hb);replace HB := aM (lT wB_ hb);obtain ⟨aj,ak,al,am,an,ao,ap,ar⟩ := z4_ aa.out));go_ret;exact ⟨vR_,wB_⟩
def FbD.f (k : Nat) (a0_0 : ByteArray) (a0_1 : Int) (ae : List (S157)) (af : List (S157)) (ag : ByteArray) (ah : ByteArray) (ai : ByteArray) (ab : Int) (aj : Int) (ak : Int) (ac : Bool) (aa : Int) (ad : ByteArray) (a0_13 : ByteArray) (a1 : ByteArray) : Option (ByteArray × Bool) := if a1.toList = ([97,117,116,104,111,114,115] : List UInt8) then ((FaW.f k ae).bind fun al => (some (al,true))) else (if a1.toList = ([101,100,105,116,111,114,115] : List UInt8) then ((FaW.f k af).bind fun am => (some (am,true))) else (if a1.toList = ([116,105,116,108,101] : List UInt8) then (some (ag,true)) else (if a1.toList = ([99,111,110,116,97,105,110,101,114] : List UInt8) then (some (ah,true)) else (if a1.toList = ([112,117,98,108,105,115,104,101,114] : List UInt8) then (some (ai,true)) else (if a1.toList = ([112,97,103,101,115] : List UInt8) then (some (ad,true)) else (if a1.toList = ([100,97,116,101] : List UInt8) then (if ab = 0 then (some ((⟨#[]⟩ : ByteArray),true)) else ((Fbb.f k ab aj ak ac).bind fun an => (some (an,true)))) else (if a1.toList = ([118,111,108,117,109,101] : List UInt8) then (if aa = 0 then (some ((⟨#[]⟩ : ByteArray),true)) else ((FaS.f k aa).bind fun ao => (some (ao,true)))) else (some ((⟨#[]⟩ : ByteArray),false)))))))))
theorem FbD.mono : ∀ a0 a1 a2 a3 a4 a5 a6 a7 a8 a9 aa ab ac ad ae k,LeO (FbD.f k a0 a1 a2 a3 a4 a5 a6 a7 a8 a9 aa ab ac ad ae) (FbD.f (k + 1) a0 a1 a2 a3 a4 a5 a6 a7 a8 a9 aa ab ac ad ae) := by
 intro a0 a1 a2 a3 a4 a5 a6 a7 a8 a9 aa ab ac ad ae k
 unfold FbD.f
 repeat' (first|with_reducible (first|exact FaS.mono _ _|exact Fbb.mono _ _ _ _ _|exact FaW.mono _ _|exact LeO.refl _|exact LeO.none _|refine LeO.ite ?_ ?_|refine LeO.bind ?_ (fun _ => ?_))|exact LeO.none _|refine LeO.ite ?_ ?_|refine LeO.bind ?_ (fun _ => ?_))
theorem FbD.calls (k : Nat) (ay : ByteArray) (az : Int) (ak : Option Addr) (al : Nat) (ac : List (S157)) (am : Option Addr) (an : Nat) (ad : List (S157)) (ao : ByteArray) (ap : ByteArray) (ar : ByteArray) (af : Int) (ah : Int) (ai : Int) (ae : Bool) (ab : Int) (ag : ByteArray) (aj : ByteArray) (a1 : ByteArray) (r1 : ByteArray) (r2 : Bool) (w : World) (au : Kd.C k157 w ak ac.length ac) (av : ac.length ≤ al) (aw : Kd.C k157 w am ad.length ad) (ax : ad.length ≤ an) (h : FbD.f k ay az ac ad ao ap ar af ah ai ae ab ag aj a1 = some (r1,r2)) :
  Calls Tryz.prog 144 #[.agg #[.string ay,.int .i64 az,.slice ak ac.length al,.slice am ad.length an,.string ao,.string ap,.string ar,.int .i64 af,.int .i64 ah,.int .i64 ai,.bool ae,.int .i64 ab,.string ag,.string aj],.string a1] w fun e w' => e = .returned (.tuple #[.string r1,.bool r2]) ∧ Below w.heap.size w w' := by
 have hu41 := Tryz.underlying41;have hu39 := Tryz.underlying39;have aJ := aM au;have aK := aM av;clear au av;have aL := aM aw;have aN := aM ax;clear aw ax;have HB := aM (Below.refl w.heap.size w);have H : (if a1.toList = ([97,117,116,104,111,114,115] : List UInt8) then ((FaW.f k ac).bind fun aO => (some (aO,true))) else (if a1.toList = ([101,100,105,116,111,114,115] : List UInt8) then ((FaW.f k ad).bind fun aP => (some (aP,true))) else (if a1.toList = ([116,105,116,108,101] : List UInt8) then (some (ao,true)) else (if a1.toList = ([99,111,110,116,97,105,110,101,114] : List UInt8) then (some (ap,true)) else (if a1.toList = ([112,117,98,108,105,115,104,101,114] : List UInt8) then (some (ar,true)) else (if a1.toList = ([112,97,103,101,115] : List UInt8) then (some (ag,true)) else (if a1.toList = ([100,97,116,101] : List UInt8) then (if af = 0 then (some ((⟨#[]⟩ : ByteArray),true)) else ((Fbb.f k af ah ai ae).bind fun aQ => (some (aQ,true)))) else (if a1.toList = ([118,111,108,117,109,101] : List UInt8) then (if ab = 0 then (some ((⟨#[]⟩ : ByteArray),true)) else ((FaS.f k ab).bind fun aR => (some (aR,true)))) else (some ((⟨#[]⟩ : ByteArray),false)))))))))) = some (r1,r2) := h;clear h
 by_cases c3 : a1.toList = ([97,117,116,104,111,114,115] : List UInt8)
 focus
  rw [if_pos c3] at H;have bc := qE.mpr c3;have bd := qN.mpr c3;clear c3;obtain ⟨aO,A4,H⟩ := bE_ H;simp only [eS,eP] at H;obtain ⟨rfl,rfl⟩ := H
 rotate_left
 focus
  rw [if_neg c3] at H;have bc := qF.mpr c3;have bd := qB.mpr c3
  by_cases c8 : a1.toList = ([101,100,105,116,111,114,115] : List UInt8)
  focus
   rw [if_pos c8] at H;have be := qE.mpr c8;have bf := qN.mpr c8;clear c8;obtain ⟨aP,A9,H⟩ := bE_ H;simp only [eS,eP] at H;obtain ⟨rfl,rfl⟩ := H
  rotate_left
  focus
   rw [if_neg c8] at H;have be := qF.mpr c8;have bf := qB.mpr c8
   by_cases aA : a1.toList = ([116,105,116,108,101] : List UInt8)
   focus
    rw [if_pos aA] at H;have aT := qE.mpr aA;have aU := qN.mpr aA;clear aA;simp only [eS,eP] at H;obtain ⟨rfl,rfl⟩ := H
   rotate_left
   focus
    rw [if_neg aA] at H;have aT := qF.mpr aA;have aU := qB.mpr aA
    by_cases aC : a1.toList = ([99,111,110,116,97,105,110,101,114] : List UInt8)
    focus
     rw [if_pos aC] at H;have aV := qE.mpr aC;have aW := qN.mpr aC;clear aC;simp only [eS,eP] at H;obtain ⟨rfl,rfl⟩ := H
    rotate_left
    focus
     rw [if_neg aC] at H;have aV := qF.mpr aC;have aW := qB.mpr aC
     by_cases aD : a1.toList = ([112,117,98,108,105,115,104,101,114] : List UInt8)
     focus
      rw [if_pos aD] at H;have aX := qE.mpr aD;have aY := qN.mpr aD;clear aD;simp only [eS,eP] at H;obtain ⟨rfl,rfl⟩ := H
     rotate_left
     focus
      rw [if_neg aD] at H;have aX := qF.mpr aD;have aY := qB.mpr aD
      by_cases c22 : a1.toList = ([112,97,103,101,115] : List UInt8)
      focus
       rw [if_pos c22] at H;have aZ := qE.mpr c22;have a0 := qN.mpr c22;clear c22;simp only [eS,eP] at H;obtain ⟨rfl,rfl⟩ := H
      rotate_left
      focus
       rw [if_neg c22] at H;have aZ := qF.mpr c22;have a0 := qB.mpr c22
       by_cases aE : a1.toList = ([100,97,116,101] : List UInt8)
       focus
        rw [if_pos aE] at H;have a2 := qE.mpr aE;have a3 := qN.mpr aE;clear aE
        by_cases aF : af = 0
        focus
         rw [if_pos aF] at H;have a4 := qE.mpr aF;have a5 := qN.mpr aF;clear aF;simp only [eS,eP] at H;obtain ⟨rfl,rfl⟩ := H
        rotate_left
        focus
         rw [if_neg aF] at H;have a4 := qF.mpr aF;have a5 := qB.mpr aF;obtain ⟨aQ,bg,H⟩ := bE_ H;simp only [eS,eP] at H;obtain ⟨rfl,rfl⟩ := H
       rotate_left 2
       focus
        rw [if_neg aE] at H;have a2 := qF.mpr aE;have a3 := qB.mpr aE
        by_cases aG : a1.toList = ([118,111,108,117,109,101] : List UInt8)
        focus
         rw [if_pos aG] at H;have a6 := qE.mpr aG;have a7 := qN.mpr aG;clear aG
         by_cases aH : ab = 0
         focus
          rw [if_pos aH] at H;have a8 := qE.mpr aH;have a9 := qN.mpr aH;clear aH;simp only [eS,eP] at H;obtain ⟨rfl,rfl⟩ := H
         rotate_left
         focus
          rw [if_neg aH] at H;have a8 := qF.mpr aH;have a9 := qB.mpr aH;obtain ⟨aR,bh,H⟩ := bE_ H;simp only [eS,eP] at H;obtain ⟨rfl,rfl⟩ := H
        rotate_left 2
        focus
         rw [if_neg aG] at H;have a6 := qF.mpr aG;have a7 := qB.mpr aG;simp only [eS,eP] at H;obtain ⟨rfl,rfl⟩ := H
 all_goals
  go_enter Tryz.func144,Tryz.ntmps144;go_wp2_with (first|((with_reducible refine gate_dst (N := 2) rfl ?_);refine bx_ (N := 2) (cs := #[.string ay,.int .i64 az,.slice ak ac.length al,.slice am ad.length an,.string ao,.string ap,.string ar,.int .i64 af,.int .i64 ah,.int .i64 ai,.bool ae,.int .i64 ab,.string ag,.string aj]) (t := 41) ?_;intro ba hg Wgb288 hbox hb;have aa := aM (hbox);have bb := aM ((by rw [hg];exact (lZ wB_) : w.heap.size ≤ ba));have GE288 := bb;replace HB := aM (lT wB_ hb);clear hb hbox hg;obtain ⟨_,_,_,_,_,_,_,_,_,_,_,_,_,_,_,_,_,_,_,_,_,_,_,_,_,_,_,_⟩ := z14_ aa.out)|((with_reducible refine gate_callee (f := 142) rfl ?_);refine gl_ (some 49) Tryz.func142 #[.int .i64 ab] ?_;(with_reducible refine (FaS.calls _ _ _ _ bh.out).mono ?_);rintro e WA37 ⟨rfl,hb⟩;refine ⟨_,rfl,?_⟩;replace aa := aM (bw_ aa.out hb);replace HB := aM (lT wB_ hb))|((with_reducible refine gate_callee (f := 182) rfl ?_);refine gl_ (some 41) Tryz.func182 #[.agg #[.int .i64 af,.int .i64 ah,.int .i64 ai,.bool ae]] ?_;(with_reducible refine (Fbb.calls _ _ _ _ _ _ _ bg.out).mono ?_);rintro e WA29 ⟨rfl,hb⟩;refine ⟨_,rfl,?_⟩;replace aa := aM (bw_ aa.out hb);replace HB := aM (lT wB_ hb))|((with_reducible refine gate_callee (f := 181) rfl ?_);refine gl_ (some 16) Tryz.func181 #[.slice am ad.length an] ?_;(with_reducible refine (FaW.calls _ _ _ _ _ _ ?side1 ?side2 A9.out).mono ?_);(case side1 => exact wX_ aL.out);(case side2 => exact aN.out);rintro e WA9 ⟨rfl,hb⟩;refine ⟨_,rfl,?_⟩;replace aa := aM (bw_ aa.out hb);replace HB := aM (lT wB_ hb))|((with_reducible refine gate_callee (f := 181) rfl ?_);refine gl_ (some 11) Tryz.func181 #[.slice ak ac.length al] ?_;(with_reducible refine (FaW.calls _ _ _ _ _ _ ?side1 ?side2 A4.out).mono ?_);(case side1 => exact wX_ aJ.out);(case side2 => exact aK.out);rintro e WA4 ⟨rfl,hb⟩;refine ⟨_,rfl,?_⟩;replace aa := aM (bw_ aa.out hb);replace HB := aM (lT wB_ hb)));go_ret2;exact ⟨vR_,wB_⟩
def Fce.f (a0 : Int) : Option (Bool) := if a0 ≥ 48 then (some (decide (a0 ≤ 57))) else (some false)
theorem Fce.calls (a0 : Int) (r : Bool) (w : World) (h : Fce.f a0 = some r) :
  Calls Tryz.prog 176 #[.int .u8 a0] w fun e w' => e = .returned (.bool r) ∧ Drawn0 w w' := by
 have H : (if a0 ≥ 48 then (some (decide (a0 ≤ 57))) else (some false)) = some r := h;clear h
 by_cases c2 : a0 ≥ 48
 focus
  rw [if_pos c2] at H;have aa : decide (48 ≤ a0) = true := dT c2;clear c2;obtain rfl := oI H
 rotate_left
 focus
  rw [if_neg c2] at H;have aa : decide (48 ≤ a0) = false := dF c2;clear c2;obtain rfl := oI H
 all_goals
  go_enter Tryz.func176,Tryz.ntmps176;go_wp2;go_ret;exact ⟨vR_,dw_⟩
def Fb1.f (a0 : Int) : Option (Bool) := if a0 ≥ 65 then (if a0 ≤ 90 then (some true) else (if a0 ≥ 97 then (some (decide (a0 ≤ 122))) else (some false))) else (if a0 ≥ 97 then (some (decide (a0 ≤ 122))) else (some false))
theorem Fb1.calls (a0 : Int) (r : Bool) (w : World) (h : Fb1.f a0 = some r) :
  Calls Tryz.prog 183 #[.int .u8 a0] w fun e w' => e = .returned (.bool r) ∧ Drawn0 w w' := by
 have H : (if a0 ≥ 65 then (if a0 ≤ 90 then (some true) else (if a0 ≥ 97 then (some (decide (a0 ≤ 122))) else (some false))) else (if a0 ≥ 97 then (some (decide (a0 ≤ 122))) else (some false))) = some r := h;clear h
 by_cases c2 : a0 ≥ 65
 focus
  rw [if_pos c2] at H;have aa : decide (65 ≤ a0) = true := dT c2;clear c2
  by_cases c3 : a0 ≤ 90
  focus
   rw [if_pos c3] at H;have ab := dT c3;clear c3;obtain rfl := oI H
  rotate_left
  focus
   rw [if_neg c3] at H;have ab := dF c3;clear c3
   by_cases c4 : a0 ≥ 97
   focus
    rw [if_pos c4] at H;have ac : decide (97 ≤ a0) = true := dT c4;clear c4;obtain rfl := oI H
   rotate_left
   focus
    rw [if_neg c4] at H;have ac : decide (97 ≤ a0) = false := dF c4;clear c4;obtain rfl := oI H
 rotate_left 3
 focus
  rw [if_neg c2] at H;have aa : decide (65 ≤ a0) = false := dF c2;clear c2
  by_cases c5 : a0 ≥ 97
  focus
   rw [if_pos c5] at H;have ad : decide (97 ≤ a0) = true := dT c5;clear c5;obtain rfl := oI H
  rotate_left
  focus
   rw [if_neg c5] at H;have ad : decide (97 ≤ a0) = false := dF c5;clear c5;obtain rfl := oI H
 all_goals
  go_enter Tryz.func183,Tryz.ntmps183;go_wp2;go_ret;exact ⟨vR_,dw_⟩
end Go.Proofs.YtmafmhgmdegplaaGreatDoor.P
