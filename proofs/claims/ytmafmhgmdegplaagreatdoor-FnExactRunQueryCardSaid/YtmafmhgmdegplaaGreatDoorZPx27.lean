/- Walks: each Go function computes the Lean function beside it; conditions: those of each theorem. -/
import Derived.Test.YtmafmhgmdegplaaGreatDoorZPx0
import Derived.Test.YtmafmhgmdegplaaGreatDoorZPx24
import Derived.Test.YtmafmhgmdegplaaGreatDoorZPx18
import Derived.Test.YtmafmhgmdegplaaGreatDoorZPx22
namespace Go.Proofs.YtmafmhgmdegplaaGreatDoor.P
open Go.RowKit Go.Proofs.YtmafmhgmdegplaaGreatDoorW.PrintWords Go.Proofs.YtmafmhgmdegplaaGreatDoorW.PrintLast Go.Proofs.YtmafmhgmdegplaaGreatDoorW.PrintMore
set_option maxHeartbeats 8000000
set_option maxRecDepth 100000
attribute [local go_sem] geqStr max2_int min2_int max_two min_two max_three min_three max_four min_four   -- for this text's walks alone
set_option linter.unusedVariables false
set_option linter.unusedSimpArgs false
def Faj.l0 : Nat → List (S41) → Int → Int → List (S41) → Option (Bool)
 | 0,_,_,_,_ => none
 | k + 1,x6,x7,x8,aa => if x8 < x7 then (if 0 ≤ x8 then (if x8 < (x6.length : Int) then ((Far.f k ((Faa x6 x8).f0) ((Faa x6 x8).f1) ((Faa x6 x8).f2) ((Faa x6 x8).f3) ((Faa x6 x8).f4) ((Faa x6 x8).f5) ((Faa x6 x8).f6) ((Faa x6 x8).f7.f0) ((Faa x6 x8).f7.f1) ((Faa x6 x8).f7.f2) ((Faa x6 x8).f7.f3) ((Faa x6 x8).f8) ((Faa x6 x8).f9) ((Faa x6 x8).f10)).bind fun ab => (if ab = true then (if x8 > 0 then (if 0 ≤ (wrap64 (x8 - 1)) then (if (wrap64 (x8 - 1)) < (aa.length : Int) then (if ((Op.bytesLess (((Faa aa (wrap64 (x8 - 1))).f0).toList) (((Faa x6 x8).f0).toList)) = true) then (Faj.l0 k x6 x7 (wrap64 (x8 + 1)) aa) else (some false)) else (none)) else (none)) else (Faj.l0 k x6 x7 (wrap64 (x8 + 1)) aa)) else (some false))) else (none)) else (none)) else (some (decide ((aa.length : Int) ≤ 8)))
def Faj.f (k : Nat) (aa : List (S41)) : Option (Bool) := Faj.l0 k aa (aa.length : Int) 0 aa
theorem Faj.mono_l : ∀ k,(∀ y0 y1 y2 y3,LeO (Faj.l0 k y0 y1 y2 y3) (Faj.l0 (k + 1) y0 y1 y2 y3))
 | 0 => fun _ _ _ _ r h => by simp [Faj.l0] at h
 | k + 1 => by
  have ih0 := Faj.mono_l k
  ·intro y0 y1 y2 y3
   unfold Faj.l0
   repeat' (first|with_reducible (first|exact ih0 _ _ _ _|exact Far.mono _ _ _ _ _ _ _ _ _ _ _ _ _ _ _|exact LeO.refl _|exact LeO.none _|refine LeO.ite ?_ ?_|refine LeO.bind ?_ (fun _ => ?_))|exact LeO.none _|refine LeO.ite ?_ ?_|refine LeO.bind ?_ (fun _ => ?_))
theorem Faj.mono : ∀ a0 k,LeO (Faj.f k a0) (Faj.f (k + 1) a0) := by
 intro a0 k
 have ih0 := Faj.mono_l k
 unfold Faj.f
 repeat' (first|with_reducible (first|exact ih0 _ _ _ _|exact Far.mono _ _ _ _ _ _ _ _ _ _ _ _ _ _ _|exact LeO.refl _|exact LeO.none _|refine LeO.ite ?_ ?_|refine LeO.bind ?_ (fun _ => ?_))|exact LeO.none _|refine LeO.ite ?_ ?_|refine LeO.bind ?_ (fun _ => ?_))
def Faj.T4 : Bool × List (List Nat × List Nat) := (true,[([],[]),([0],[0]),([1],[1]),([2,1],[2]),([3],[3]),([4,3],[3,4]),([5,3,3],[3,5]),([6],[6]),([7,6],[6,7]),([6],[6]),([9,6],[6,9]),([8,10,6],[6,8,10]),([11,6],[6,11]),([12,6],[6,12]),([6],[6]),([14,6],[6,14]),([13,15,6],[6,13,15]),([6,16,3],[3,6,16]),([3,17],[3,17])])
def Faj.B4 : List Nat := [0,1,3,7,15,31,63,127,255,127,639,2047,4095,8191,127,16511,65535,131071,262143]
theorem Faj.tab4 : rtab .any (opsOf Tryz.f73 4) = Faj.T4 := by kernel_rfl
theorem Faj.bits4 : waitsOk Faj.T4.2 Faj.B4 = true := by kernel_rfl
theorem Faj.calls (k : Nat) (bp : Option Addr) (aQ : Nat) (aa : List (S41)) (r : Bool) (w : World) (bq : Kd.C k41 w bp aa.length aa) (br : aa.length ≤ aQ) (hG : Gm w) (h : Faj.f k aa = some r) :
  Calls Tryz.prog 73 #[.agg #[.slice bp aa.length aQ]] w fun e w' => e = .returned (.bool r) ∧ Below w.heap.size w w' := by
 have hu55 := Tryz.underlying55;have hu41 := Tryz.underlying41;have bs := aM bq;have HC0_0 := aM br;clear bq br;have HB := aM (Below.refl w.heap.size w);have HG := aM hG;clear hG;have H : (Faj.l0 k aa (aa.length : Int) 0 aa) = some r := h;clear h;have H' := aM H;clear H;go_enter Tryz.func73,Tryz.ntmps73;go_wp2_with (first|((with_reducible refine gate_dst (N := 1) rfl ?_);refine bx_ (N := 1) (cs := #[.slice bp aa.length aQ]) (t := 55) ?_;intro aF hg w2 hbox hb;have ae := aM (hbox);have bB := aM ((by rw [hg];exact (lZ wB_) : w.heap.size ≤ aF));have GE533 := bB;replace HB := aM (lT wB_ hb);clear hb hbox hg;obtain ⟨_,_⟩ := z1_ ae.out));go_loopg [8] k (fun kq v8 w' => ∃ (ab : Int),v8 = .int .i64 ab ∧ Aside0 (Faj.l0 kq aa (aa.length : Int) ab aa = some r) ∧ Aside0 (kq ≤ k) ∧ Aside0 (w'.heap[aF]? = some (.cells #[(.slice bp aa.length aQ)] 55 (0,0))) ∧ Aside0 (Below w.heap.size w w'))
 case atStart => exact ⟨(0),vR_,H',⟨Nat.le_refl _⟩,⟨wC_ ae.out⟩,⟨wB_⟩⟩
 case round =>
  clear H';obtain ⟨ab,rfl,HA,bM,ae,HB⟩ := hrel
  cases gk with
  | zero => exact absurd HA.out (by simp [Faj.l0])
  | succ k1 =>
   have H := HA.out;clear HA;simp only [Faj.l0] at H
   by_cases c4 : ab < (aa.length : Int)
   focus
    rw [if_pos c4] at H;have bQ := dT c4;clear c4
    by_cases c5 : 0 ≤ ab
    rotate_left;rw [if_neg c5] at H;exact nH_ H;rw [if_pos c5] at H;have c5b0 := dT c5;clear c5
    by_cases c6 : ab < (aa.length : Int)
    rotate_left;rw [if_neg c6] at H;exact nH_ H;rw [if_pos c6] at H;have c6b0 := dT c6;clear c6;obtain ⟨bR,A7,H⟩ := bE_ H
    by_cases c8 : bR = true
    focus
     subst c8;rw [if_pos rfl] at H
     by_cases c9 : ab > 0
     focus
      rw [if_pos c9] at H;have bS : decide (0 < ab) = true := dT c9;clear c9;obtain ⟨ad,aE⟩ : ∃ j_ : Int,(wrap64 (ab - 1)) = j_ := ⟨_,rfl⟩;replace H : (if 0 ≤ (ad) then (if (ad) < (aa.length : Int) then (if ((Op.bytesLess (((Faa aa (ad)).f0).toList) (((Faa aa ab).f0).toList)) = true) then (Faj.l0 k1 aa (aa.length : Int) (wrap64 (ab + 1)) aa) else (some false)) else (none)) else (none)) = some r := (by first|(rw [aE] at H;exact H)|(simp only [aE] at H ⊢;exact H));(try rw [aE] at A7);have hji10w : (IntKind.i64.wrap (ab - 1)) = ad := (i64_w _).trans aE
      by_cases bO : 0 ≤ (ad)
      rotate_left;rw [if_neg bO] at H;exact nH_ H;rw [if_pos bO] at H;have c11b0 := dT bO;clear bO
      by_cases bP : (ad) < (aa.length : Int)
      rotate_left;rw [if_neg bP] at H;exact nH_ H;rw [if_pos bP] at H;have c12b0 := dT bP;clear bP
      by_cases bz : ((Op.bytesLess (((Faa aa (ad)).f0).toList) (((Faa aa ab).f0).toList)) = true)
      focus
       rw [if_pos bz] at H;have bE : (Op.bytesLess (((Faa aa (ad)).f0).toList) (((Faa aa ab).f0).toList)) = true := bz;clear bz;have H' := aM H;clear H
      rotate_left
      focus
       rw [if_neg bz] at H;have bE : (Op.bytesLess (((Faa aa (ad)).f0).toList) (((Faa aa ab).f0).toList)) = false := (by simpa using bz);clear bz;obtain rfl := oI H
     rotate_left 2
     focus
      rw [if_neg c9] at H;have bS : decide (0 < ab) = false := dF c9;clear c9;have H' := aM H;clear H
    rotate_left 3
    focus
     replace c8 := qO.mpr c8;subst c8;rw [if_neg qT] at H;obtain rfl := oI H
   rotate_left 4
   focus
    rw [if_neg c4] at H;have bQ := dF c4;clear c4;obtain rfl := oI H
   all_goals
    (try (have bT : 0 ≤ (ab : Int) := oD (by assumption);have bU : ab < (aa.length : Int) := oD (by assumption);obtain ⟨af,al,am,an,ao,b4,aT,aU,aV,aW,aX,aY,aZ,a0,a1,a2,aG,aH,aJ,aK,a3,a4,a5,a6⟩ := Fcs bs.out ab bT bU;cases b4;replace aT := mv_ HB.out aT;replace aU := mv_ HB.out aU;replace aV := mv_ HB.out aV;replace aW := mv_ HB.out aW;replace aX := mv_ HB.out aX;replace aY := mv_ HB.out aY;replace aZ := mv_ HB.out aZ;replace a0 := mv_ HB.out a0;replace a1 := mv_ HB.out a1;replace a2 := mv_ HB.out a2;replace aG := mv_ HB.out aG;replace aH := mv_ HB.out aH;replace aJ := mv_ HB.out aJ;replace aK := mv_ HB.out aK;have a7 := aM a4;have a8 := aM a3;clear a4 a3;have a9 := aM a6;have ba := aM a5;clear a6 a5;replace bT := eq_true bT;replace bU := eq_true bU));(try obtain ⟨_,_⟩ := z1_ ae.out);(try go_wp2_with (first|((with_reducible refine gate_dst (N := 4) rfl ?_);refine bx_ (N := 4) (cs := #[.string (⟨#[]⟩ : ByteArray),.int .i64 0,.slice none 0 0,.slice none 0 0,.string (⟨#[]⟩ : ByteArray),.string (⟨#[]⟩ : ByteArray),.string (⟨#[]⟩ : ByteArray),.int .i64 0,.int .i64 0,.int .i64 0,.bool false,.int .i64 0,.string (⟨#[]⟩ : ByteArray),.string (⟨#[]⟩ : ByteArray)]) (t := 41) ?_;intro ac hg bu hbox hb;have ag := aM (hbox);have bG := aM ((by rw [hg];exact (lZ wB_) : w.heap.size ≤ ac));have GE535 := bG;have ap := aM (nl_ hg ae.out);have aR := aM (ng_ hg ae.out);replace ae := aM (bw_ ae.out hb);replace HB := aM (lT wB_ hb);clear hb hbox hg;have hnby535_533 := aR.out;have hncy533_535 := ap.out;obtain ⟨_,_,_,_,_,_,_,_,_,_,_,_,_,_,_,_,_,_,_,_,_,_,_,_,_,_,_,_⟩ := z14_ ag.out)))
    first
     |
      go_ret;exact ⟨vR_,wB_⟩
     |
      obtain ⟨bH,hW_⟩ : ∃ W_ : World,W_ = (((((((((((((bu.setCell ⟨ac,0,none⟩ (.string ((Faa aa ab).f0))).setCell ⟨ac,1,none⟩ (.int .i64 ((Faa aa ab).f1))).setCell ⟨ac,2,none⟩ (.slice al ((Faa aa ab).f2).length am)).setCell ⟨ac,3,none⟩ (.slice an ((Faa aa ab).f3).length ao)).setCell ⟨ac,4,none⟩ (.string ((Faa aa ab).f4))).setCell ⟨ac,5,none⟩ (.string ((Faa aa ab).f5))).setCell ⟨ac,6,none⟩ (.string ((Faa aa ab).f6))).setCell ⟨ac,7,none⟩ (.int .i64 ((Faa aa ab).f7.f0))).setCell ⟨ac,8,none⟩ (.int .i64 ((Faa aa ab).f7.f1))).setCell ⟨ac,9,none⟩ (.int .i64 ((Faa aa ab).f7.f2))).setCell ⟨ac,10,none⟩ (.bool ((Faa aa ab).f7.f3))).setCell ⟨ac,11,none⟩ (.int .i64 ((Faa aa ab).f8))).setCell ⟨ac,12,none⟩ (.string ((Faa aa ab).f9))).setCell ⟨ac,13,none⟩ (.string ((Faa aa ab).f10)) := ⟨_,rfl⟩;have bZ : Aside0 (bH.heap[aF]? = some (.cells #[.slice (some af) aa.length aQ] 55 (0,0))) := ⟨by rw [hW_];exact bf_ ap.out ae.out⟩;have b2 : Aside0 (bH.heap[ac]? = some (.cells #[.string ((Faa aa ab).f0),.int .i64 ((Faa aa ab).f1),.slice al ((Faa aa ab).f2).length am,.slice an ((Faa aa ab).f3).length ao,.string ((Faa aa ab).f4),.string ((Faa aa ab).f5),.string ((Faa aa ab).f6),.int .i64 ((Faa aa ab).f7.f0),.int .i64 ((Faa aa ab).f7.f1),.int .i64 ((Faa aa ab).f7.f2),.bool ((Faa aa ab).f7.f3),.int .i64 ((Faa aa ab).f8),.string ((Faa aa ab).f9),.string ((Faa aa ab).f10)] 41 (0,0))) := ⟨by rw [hW_];exact bq14_ ag.out⟩;have b3 : Aside0 (Below w.heap.size w bH) := ⟨by rw [hW_];exact wB_⟩;rewrite [← hW_];clear hW_;have ae := bZ;have ag := b2;have HB := b3;clear bZ b2 b3;replace ae := aM (bD ae.out);replace ag := aM (bD ag.out);replace HB := aM (lD HB.out)
      first
       |
        refine start_ (n := 19) (S := fun w' => w'.cell? ⟨ac,0,none⟩ = some (.string ((Faa aa ab).f0)) ∧ w'.cell? ⟨ac,1,none⟩ = some (.int .i64 ((Faa aa ab).f1)) ∧ w'.cell? ⟨ac,2,none⟩ = some (.slice al ((Faa aa ab).f2).length am) ∧ w'.cell? ⟨ac,3,none⟩ = some (.slice an ((Faa aa ab).f3).length ao) ∧ w'.cell? ⟨ac,4,none⟩ = some (.string ((Faa aa ab).f4)) ∧ w'.cell? ⟨ac,5,none⟩ = some (.string ((Faa aa ab).f5)) ∧ w'.cell? ⟨ac,6,none⟩ = some (.string ((Faa aa ab).f6)) ∧ w'.cell? ⟨ac,7,none⟩ = some (.int .i64 ((Faa aa ab).f7.f0)) ∧ w'.cell? ⟨ac,8,none⟩ = some (.int .i64 ((Faa aa ab).f7.f1)) ∧ w'.cell? ⟨ac,9,none⟩ = some (.int .i64 ((Faa aa ab).f7.f2)) ∧ w'.cell? ⟨ac,10,none⟩ = some (.bool ((Faa aa ab).f7.f3)) ∧ w'.cell? ⟨ac,11,none⟩ = some (.int .i64 ((Faa aa ab).f8)) ∧ w'.cell? ⟨ac,12,none⟩ = some (.string ((Faa aa ab).f9)) ∧ w'.cell? ⟨ac,13,none⟩ = some (.string ((Faa aa ab).f10))) (ds := []) (mk_ 19 0) (by kernel_rfl) rfl (by kernel_rfl) (zf14_ ag.out) (fun hHeld => ?_);refine with_tabW Faj.tab4 Faj.bits4 (fun HT_ HW_ => ?_);generalize bH.drew = b5 at ae ag HB hHeld ⊢;refine tV_ (i := 0) (N := some 13) (mk_ 19 1) rfl rfl HT_.out HW_.out hHeld ?_;refine one_ (i := 1) (N := some 14) (mk_ 19 3) rfl rfl (one_of HT_.out (by kernel_rfl)) (by decide) (fun K hK => ?_);refine gs_ Tryz.func65 #[.agg #[.string ((Faa aa ab).f0),.int .i64 ((Faa aa ab).f1),.slice al ((Faa aa ab).f2).length am,.slice an ((Faa aa ab).f3).length ao,.string ((Faa aa ab).f4),.string ((Faa aa ab).f5),.string ((Faa aa ab).f6),.int .i64 ((Faa aa ab).f7.f0),.int .i64 ((Faa aa ab).f7.f1),.int .i64 ((Faa aa ab).f7.f2),.bool ((Faa aa ab).f7.f3),.int .i64 ((Faa aa ab).f8),.string ((Faa aa ab).f9),.string ((Faa aa ab).f10)]] ?_;(with_reducible refine (Far.calls _ _ _ _ _ _ _ _ _ _ _ _ _ _ _ _ _ _ _ _ _ ?side1 ?side2 ?side3 ?side4 ?side5 A7.out).mono ?_);(case side1 => exact wX_ a7.out);(case side2 => exact a8.out);(case side3 => exact wX_ a9.out);(case side4 => exact ba.out);(case side5 => exact Gm.below HG.out wB_);rintro e b6 ⟨rfl,hb⟩;refine ⟨_,rfl,?_⟩;replace ae := aM (bw_ ae.out hb);replace ag := aM (bw_ ag.out hb);replace HB := aM (lT wB_ hb);refine hK.out _ _ (zf14_ ag.out) (fun hHeld => ?_);clear hK K;refine norm_ (a' := ?_) ?_ ?_;rotate_left;show Act.put _ (some 14) _ = _;simp only [Act.put,lI,sZ,sS,i64_w,i32_w];rfl;refine pV_ (i := 2) (N := some 15) (mk_ 19 7) rfl rfl HT_.out ?_;refine pV_ (i := 3) (N := some 16) (mk_ 19 15) rfl rfl HT_.out ?_
        first
         |
          refine pU_ (i := 4) (N := some 17) (mk_ 19 31) rfl rfl HT_.out ?_;refine pU_ (i := 5) (N := some 18) (mk_ 19 63) rfl rfl HT_.out ?_;refine pU_ (i := 6) (N := some 19) (mk_ 19 127) rfl rfl HT_.out ?_;refine pU_ (i := 7) (N := some 20) (mk_ 19 255) rfl rfl HT_.out ?_;refine pU_ (i := 8) (N := some 21) (mk_ 19 511) rfl rfl HT_.out ?_;refine pU_ (i := 9) (N := some 22) (mk_ 19 1023) rfl rfl HT_.out ?_;refine pU_ (i := 10) (N := some 23) (mk_ 19 2047) rfl rfl HT_.out ?_;refine pU_ (i := 11) (N := some 24) (mk_ 19 4095) rfl rfl HT_.out ?_;refine pU_ (i := 12) (N := some 25) (mk_ 19 8191) rfl rfl HT_.out ?_;refine pU_ (i := 13) (N := some 26) (mk_ 19 16383) rfl rfl HT_.out ?_;refine pU_ (i := 14) (N := some 27) (mk_ 19 32767) rfl rfl HT_.out ?_;refine pU_ (i := 15) (N := some 28) (mk_ 19 65535) rfl rfl HT_.out ?_;refine pU_ (i := 16) (N := some 29) (mk_ 19 131071) rfl rfl HT_.out ?_;refine pU_ (i := 17) (N := some 30) (mk_ 19 262143) rfl rfl HT_.out ?_;refine pV_ (i := 18) (N := some 31) (mk_ 19 524287) rfl rfl HT_.out ?_;refine done_ (done_of HT_.out (by kernel_rfl)) ?_;(try go_wp2);go_ret;exact ⟨vR_,wB_⟩
         |
          refine pV_ (i := 4) (N := some 17) (mk_ 19 31) rfl rfl HT_.out ?_;refine pV_ (i := 5) (N := some 18) (mk_ 19 63) rfl rfl HT_.out ?_;refine pV_ (i := 6) (N := some 19) (mk_ 19 127) rfl rfl HT_.out ?_;refine pU_ (i := 7) (N := some 20) (mk_ 19 255) rfl rfl HT_.out ?_;refine pU_ (i := 8) (N := some 21) (mk_ 19 511) rfl rfl HT_.out ?_;refine pU_ (i := 9) (N := some 22) (mk_ 19 1023) rfl rfl HT_.out ?_;refine pU_ (i := 10) (N := some 23) (mk_ 19 2047) rfl rfl HT_.out ?_;refine pU_ (i := 11) (N := some 24) (mk_ 19 4095) rfl rfl HT_.out ?_;refine pU_ (i := 12) (N := some 25) (mk_ 19 8191) rfl rfl HT_.out ?_;refine pU_ (i := 13) (N := some 26) (mk_ 19 16383) rfl rfl HT_.out ?_;refine pU_ (i := 14) (N := some 27) (mk_ 19 32767) rfl rfl HT_.out ?_;refine pU_ (i := 15) (N := some 28) (mk_ 19 65535) rfl rfl HT_.out ?_;refine pU_ (i := 16) (N := some 29) (mk_ 19 131071) rfl rfl HT_.out ?_;refine pV_ (i := 17) (N := some 30) (mk_ 19 262143) rfl rfl HT_.out ?_;refine pV_ (i := 18) (N := some 31) (mk_ 19 524287) rfl rfl HT_.out ?_;refine done_ (done_of HT_.out (by kernel_rfl)) ?_;(try go_wp2);go_roundg k1
          case measure => have := bM.out;omega
          case rel => exact ⟨(wrap64 (ab + 1)),vR_,H',⟨by have := bM.out;omega⟩,⟨wC_ ae.out⟩,⟨wB_⟩⟩
       |
        have bV : 0 ≤ ((ad) : Int) := oD (by assumption);have bX : (ad) < (aa.length : Int) := oD (by assumption);obtain ⟨bY,bI,bJ,bK,bL,b7,ar,au,av,aw,ax,ay,az,aA,aC,aD,ah,ai,aj,ak,bb,bc,bd,be⟩ := Fcs bs.out (ad) bV bX;have aL := ak;have aN := aj;have aO := ai;have aP := ah;have bf := aD;have bg := aC;have bh := aA;have bi := az;have bj := ay;have bk := ax;have bl := aw;have bm := av;have bn := au;have bo := ar;obtain rfl : af = bY := (by injection b7);replace ar := mv_ HB.out ar;replace au := mv_ HB.out au;replace av := mv_ HB.out av;replace aw := mv_ HB.out aw;replace ax := mv_ HB.out ax;replace ay := mv_ HB.out ay;replace az := mv_ HB.out az;replace aA := mv_ HB.out aA;replace aC := mv_ HB.out aC;replace aD := mv_ HB.out aD;replace ah := mv_ HB.out ah;replace ai := mv_ HB.out ai;replace aj := mv_ HB.out aj;replace ak := mv_ HB.out ak;have bv := aM bc;have HC02_2 := aM bb;clear bc bb;have bw := aM be;have HC02_3 := aM bd;clear be bd;replace bV := eq_true bV;replace bX := eq_true bX;refine start_ (n := 19) (S := fun w' => w'.cell? ⟨ac,0,none⟩ = some (.string ((Faa aa ab).f0)) ∧ w'.cell? ⟨ac,1,none⟩ = some (.int .i64 ((Faa aa ab).f1)) ∧ w'.cell? ⟨ac,2,none⟩ = some (.slice al ((Faa aa ab).f2).length am) ∧ w'.cell? ⟨ac,3,none⟩ = some (.slice an ((Faa aa ab).f3).length ao) ∧ w'.cell? ⟨ac,4,none⟩ = some (.string ((Faa aa ab).f4)) ∧ w'.cell? ⟨ac,5,none⟩ = some (.string ((Faa aa ab).f5)) ∧ w'.cell? ⟨ac,6,none⟩ = some (.string ((Faa aa ab).f6)) ∧ w'.cell? ⟨ac,7,none⟩ = some (.int .i64 ((Faa aa ab).f7.f0)) ∧ w'.cell? ⟨ac,8,none⟩ = some (.int .i64 ((Faa aa ab).f7.f1)) ∧ w'.cell? ⟨ac,9,none⟩ = some (.int .i64 ((Faa aa ab).f7.f2)) ∧ w'.cell? ⟨ac,10,none⟩ = some (.bool ((Faa aa ab).f7.f3)) ∧ w'.cell? ⟨ac,11,none⟩ = some (.int .i64 ((Faa aa ab).f8)) ∧ w'.cell? ⟨ac,12,none⟩ = some (.string ((Faa aa ab).f9)) ∧ w'.cell? ⟨ac,13,none⟩ = some (.string ((Faa aa ab).f10)) ∧ w'.cell? ⟨aF,0,none⟩ = some (.slice (some af) aa.length aQ) ∧ w'.cell? (af.add (((ad)).toNat * 14)) = some (.string ((Faa aa (ad)).f0)) ∧ w'.cell? ⟨(af.add (((ad)).toNat * 14)).block,(af.add (((ad)).toNat * 14)).off + 1,none⟩ = some (.int .i64 ((Faa aa (ad)).f1)) ∧ w'.cell? ⟨(af.add (((ad)).toNat * 14)).block,(af.add (((ad)).toNat * 14)).off + 2,none⟩ = some (.slice bI ((Faa aa (ad)).f2).length bJ) ∧ w'.cell? ⟨(af.add (((ad)).toNat * 14)).block,(af.add (((ad)).toNat * 14)).off + 3,none⟩ = some (.slice bK ((Faa aa (ad)).f3).length bL) ∧ w'.cell? ⟨(af.add (((ad)).toNat * 14)).block,(af.add (((ad)).toNat * 14)).off + 4,none⟩ = some (.string ((Faa aa (ad)).f4)) ∧ w'.cell? ⟨(af.add (((ad)).toNat * 14)).block,(af.add (((ad)).toNat * 14)).off + 5,none⟩ = some (.string ((Faa aa (ad)).f5)) ∧ w'.cell? ⟨(af.add (((ad)).toNat * 14)).block,(af.add (((ad)).toNat * 14)).off + 6,none⟩ = some (.string ((Faa aa (ad)).f6)) ∧ w'.cell? ⟨(af.add (((ad)).toNat * 14)).block,(af.add (((ad)).toNat * 14)).off + 7,none⟩ = some (.int .i64 ((Faa aa (ad)).f7.f0)) ∧ w'.cell? ⟨(af.add (((ad)).toNat * 14)).block,(af.add (((ad)).toNat * 14)).off + 8,none⟩ = some (.int .i64 ((Faa aa (ad)).f7.f1)) ∧ w'.cell? ⟨(af.add (((ad)).toNat * 14)).block,(af.add (((ad)).toNat * 14)).off + 9,none⟩ = some (.int .i64 ((Faa aa (ad)).f7.f2)) ∧ w'.cell? ⟨(af.add (((ad)).toNat * 14)).block,(af.add (((ad)).toNat * 14)).off + 10,none⟩ = some (.bool ((Faa aa (ad)).f7.f3)) ∧ w'.cell? ⟨(af.add (((ad)).toNat * 14)).block,(af.add (((ad)).toNat * 14)).off + 11,none⟩ = some (.int .i64 ((Faa aa (ad)).f8)) ∧ w'.cell? ⟨(af.add (((ad)).toNat * 14)).block,(af.add (((ad)).toNat * 14)).off + 12,none⟩ = some (.string ((Faa aa (ad)).f9)) ∧ w'.cell? ⟨(af.add (((ad)).toNat * 14)).block,(af.add (((ad)).toNat * 14)).off + 13,none⟩ = some (.string ((Faa aa (ad)).f10))) (ds := []) (mk_ 19 0) (by kernel_rfl) rfl (by kernel_rfl) (ze14_ ag.out ⟨(bC ae.out 0).trans rfl,mv_ HB.out bo,mv_ HB.out bn,mv_ HB.out bm,mv_ HB.out bl,mv_ HB.out bk,mv_ HB.out bj,mv_ HB.out bi,mv_ HB.out bh,mv_ HB.out bg,mv_ HB.out bf,mv_ HB.out aP,mv_ HB.out aO,mv_ HB.out aN,mv_ HB.out aL⟩) (fun hHeld => ?_);refine with_tabW Faj.tab4 Faj.bits4 (fun HT_ HW_ => ?_);generalize bH.drew = b5 at ae ag HB bv bw ar au ah ai aj ak av aw ax ay az aA aC aD hHeld ⊢;refine tV_ (i := 0) (N := some 13) (mk_ 19 1) rfl rfl HT_.out HW_.out hHeld ?_;refine one_ (i := 1) (N := some 14) (mk_ 19 3) rfl rfl (one_of HT_.out (by kernel_rfl)) (by decide) (fun K hK => ?_);refine gs_ Tryz.func65 #[.agg #[.string ((Faa aa ab).f0),.int .i64 ((Faa aa ab).f1),.slice al ((Faa aa ab).f2).length am,.slice an ((Faa aa ab).f3).length ao,.string ((Faa aa ab).f4),.string ((Faa aa ab).f5),.string ((Faa aa ab).f6),.int .i64 ((Faa aa ab).f7.f0),.int .i64 ((Faa aa ab).f7.f1),.int .i64 ((Faa aa ab).f7.f2),.bool ((Faa aa ab).f7.f3),.int .i64 ((Faa aa ab).f8),.string ((Faa aa ab).f9),.string ((Faa aa ab).f10)]] ?_;(with_reducible refine (Far.calls _ _ _ _ _ _ _ _ _ _ _ _ _ _ _ _ _ _ _ _ _ ?side1 ?side2 ?side3 ?side4 ?side5 A7.out).mono ?_);(case side1 => exact wX_ a7.out);(case side2 => exact a8.out);(case side3 => exact wX_ a9.out);(case side4 => exact ba.out);(case side5 => exact Gm.below HG.out wB_);rintro e b6 ⟨rfl,hb⟩;refine ⟨_,rfl,?_⟩;replace ae := aM (bw_ ae.out hb);replace ag := aM (bw_ ag.out hb);replace HB := aM (lT wB_ hb);refine hK.out _ _ (ze14_ ag.out ⟨(bC ae.out 0).trans rfl,mv_ HB.out bo,mv_ HB.out bn,mv_ HB.out bm,mv_ HB.out bl,mv_ HB.out bk,mv_ HB.out bj,mv_ HB.out bi,mv_ HB.out bh,mv_ HB.out bg,mv_ HB.out bf,mv_ HB.out aP,mv_ HB.out aO,mv_ HB.out aN,mv_ HB.out aL⟩) (fun hHeld => ?_);clear hK K;refine norm_ (a' := ?_) ?_ ?_;rotate_left;show Act.put _ (some 14) _ = _;simp only [Act.put,lI,sZ,sS,i64_w,i32_w];rfl;refine pV_ (i := 2) (N := some 15) (mk_ 19 7) rfl rfl HT_.out ?_;refine pV_ (i := 3) (N := some 16) (mk_ 19 15) rfl rfl HT_.out ?_;refine pV_ (i := 4) (N := some 17) (mk_ 19 31) rfl rfl HT_.out ?_;refine pV_ (i := 5) (N := some 18) (mk_ 19 63) rfl rfl HT_.out ?_;refine pV_ (i := 6) (N := some 19) (mk_ 19 127) rfl rfl HT_.out ?_;refine pV_ (i := 7) (N := some 20) (mk_ 19 255) rfl rfl HT_.out ?_;refine pV_ (i := 9) (N := some 22) (mk_ 19 767) rfl rfl HT_.out ?_;refine pV_ (i := 10) (N := some 23) (mk_ 19 1791) rfl rfl HT_.out ?_;refine pV_ (i := 14) (N := some 27) (mk_ 19 18175) rfl rfl HT_.out ?_;refine tV_ (i := 8) (N := some 21) (mk_ 19 18431) rfl rfl HT_.out HW_.out hHeld ?_;refine pV_ (i := 11) (N := some 24) (mk_ 19 20479) rfl rfl HT_.out ?_;refine pV_ (i := 12) (N := some 25) (mk_ 19 24575) rfl rfl HT_.out ?_;refine tV_ (i := 13) (N := some 26) (mk_ 19 32767) rfl rfl HT_.out HW_.out hHeld ?_;refine tV_ (i := 15) (N := some 28) (mk_ 19 65535) rfl rfl HT_.out HW_.out hHeld ?_;refine pV_ (i := 16) (N := some 29) (mk_ 19 131071) rfl rfl HT_.out ?_;refine pV_ (i := 17) (N := some 30) (mk_ 19 262143) rfl rfl HT_.out ?_;refine pV_ (i := 18) (N := some 31) (mk_ 19 524287) rfl rfl HT_.out ?_;refine done_ (done_of HT_.out (by kernel_rfl)) ?_;(try go_wp2)
        first
         |
          go_ret;exact ⟨by first|rfl|(simp [errW_none,errW_some] <;> rfl)|(simp only [← aE];first|rfl|(simp [errW_none,errW_some] <;> rfl))|(simp [*,errW_none,errW_some] <;> rfl),wB_⟩
         |
          go_roundg k1
          case measure => have := bM.out;omega
          case rel => exact ⟨(wrap64 (ab + 1)),vR_,H',⟨by have := bM.out;omega⟩,⟨wC_ ae.out⟩,⟨wB_⟩⟩
mutual
def Fam.j0 : Nat → Bool → Int → ByteArray → ByteArray → List (S36) → List (S41) → Option (List ByteArray × Bool)
 | 0,_,_,_,_,_,_ => none
 | k + 1,af,ab,ac,ad,ae,aa => if af = true then (some (([] : List ByteArray),false)) else (Fam.l0 k (([] : List ByteArray)) aa (aa.length : Int) 0 ab ac ad ae)
def Fam.l0 : Nat → List ByteArray → List (S41) → Int → Int → Int → ByteArray → ByteArray → List (S36) → Option (List ByteArray × Bool)
 | 0,_,_,_,_,_,_,_,_ => none
 | k + 1,x6,af,ag,aa,ab,ac,ad,ae => if aa < ag then (if 0 ≤ aa then (if aa < (af.length : Int) then ((Fag.f k ab ac ad ae ((Faa af aa).f0) ((Faa af aa).f1) ((Faa af aa).f2) ((Faa af aa).f3) ((Faa af aa).f4) ((Faa af aa).f5) ((Faa af aa).f6) ((Faa af aa).f7.f0) ((Faa af aa).f7.f1) ((Faa af aa).f7.f2) ((Faa af aa).f7.f3) ((Faa af aa).f8) ((Faa af aa).f9) ((Faa af aa).f10)).bind fun ah => (if ah = true then (if x6.length < 8796093022208 then (Fam.l0 k (x6 ++ [(Faa af aa).f0]) af ag (wrap64 (aa + 1)) ab ac ad ae) else (none)) else (Fam.l0 k x6 af ag (wrap64 (aa + 1)) ab ac ad ae))) else (none)) else (none)) else (some (x6,true))
end
def Fam.f (k : Nat) (aa : Int) (ab : ByteArray) (ac : ByteArray) (ad : List (S36)) (ae : List (S41)) : Option (List ByteArray × Bool) := (Fbu.f k aa ab ac ad).bind fun af => (if af = true then ((Faj.f k ae).bind fun ag => (Fam.j0 k (!ag) aa ab ac ad ae)) else (Fam.j0 k true aa ab ac ad ae))
theorem Fam.mono_l : ∀ k,(∀ y0 y1 y2 y3 y4 y5,LeO (Fam.j0 k y0 y1 y2 y3 y4 y5) (Fam.j0 (k + 1) y0 y1 y2 y3 y4 y5)) ∧ (∀ y0 y1 y2 y3 y4 y5 y6 y7,LeO (Fam.l0 k y0 y1 y2 y3 y4 y5 y6 y7) (Fam.l0 (k + 1) y0 y1 y2 y3 y4 y5 y6 y7))
 | 0 => ⟨fun _ _ _ _ _ _ r h => by simp [Fam.j0] at h,fun _ _ _ _ _ _ _ _ r h => by simp [Fam.l0] at h⟩
 | k + 1 => by
  obtain ⟨ih0,ih1⟩ := Fam.mono_l k
  refine ⟨?_,?_⟩
  all_goals (intros;first|unfold Fam.j0|unfold Fam.l0)
  all_goals repeat' (first|with_reducible (first|exact ih0 _ _ _ _ _ _|exact ih1 _ _ _ _ _ _ _ _|exact Faj.mono _ _|exact Fbu.mono _ _ _ _ _|exact Fag.mono _ _ _ _ _ _ _ _ _ _ _ _ _ _ _ _ _ _ _|exact LeO.refl _|exact LeO.none _|refine LeO.ite ?_ ?_|refine LeO.bind ?_ (fun _ => ?_))|exact LeO.none _|refine LeO.ite ?_ ?_|refine LeO.bind ?_ (fun _ => ?_))
theorem Fam.mono : ∀ a0 a1 a2 a3 a4 k,LeO (Fam.f k a0 a1 a2 a3 a4) (Fam.f (k + 1) a0 a1 a2 a3 a4) := by
 intro a0 a1 a2 a3 a4 k
 obtain ⟨ih0,ih1⟩ := Fam.mono_l k
 unfold Fam.f
 repeat' (first|with_reducible (first|exact ih0 _ _ _ _ _ _|exact ih1 _ _ _ _ _ _ _ _|exact Faj.mono _ _|exact Fbu.mono _ _ _ _ _|exact Fag.mono _ _ _ _ _ _ _ _ _ _ _ _ _ _ _ _ _ _ _|exact LeO.refl _|exact LeO.none _|refine LeO.ite ?_ ?_|refine LeO.bind ?_ (fun _ => ?_))|exact LeO.none _|refine LeO.ite ?_ ?_|refine LeO.bind ?_ (fun _ => ?_))
theorem Fam.calls (k : Nat) (ai : Int) (aj : ByteArray) (ak : ByteArray) (ap : Option Addr) (ar : Nat) (af : List (S36)) (aH : Option Addr) (aD : Nat) (ab : List (S41)) (r1 : List ByteArray) (r2 : Bool) (w : World) (a9 : Kd.C k36 w ap af.length af) (ba : af.length ≤ ar) (bb : Kd.C k41 w aH ab.length ab) (bc : ab.length ≤ aD) (hG : Gfb w) (h : Fam.f k ai aj ak af ab = some (r1,r2)) :
  Calls Tryz.prog 20 #[.agg #[.int .i64 ai,.string aj,.string ak,.slice ap af.length ar],.agg #[.slice aH ab.length aD]] w fun e w' => ∃ bR : Value,e = .returned (.tuple #[bR,.bool r2]) ∧ Kd.R Kd.string 9 w' w.heap.size (fun _ => True) bR r1 ∧ Below w.heap.size w w' := by
 have hu36 := Tryz.underlying36;have hu55 := Tryz.underlying55;have hu41 := Tryz.underlying41;have bd := aM a9;have be := aM ba;clear a9 ba;have bf := aM bb;have bo := aM bc;clear bb bc;have HB := aM (Below.refl w.heap.size w);have HG := aM hG;clear hG;have H : ((Fbu.f k ai aj ak af).bind fun bh => (if bh = true then ((Faj.f k ab).bind fun bi => (Fam.j0 k (!bi) ai aj ak af ab)) else (Fam.j0 k true ai aj ak af ab))) = some (r1,r2) := h;clear h;have bL := aM H;clear H;go_enter Tryz.func20,Tryz.ntmps20;go_upto_region 1 with (first|((with_reducible refine gate_dst (N := 2) rfl ?_);refine bx_ (N := 2) (cs := #[.int .i64 ai,.string aj,.string ak,.slice ap af.length ar]) (t := 36) ?_;intro av hg w4 hbox hb;have ac := aM (hbox);have bp := aM ((by rw [hg];exact (lZ wB_) : w.heap.size ≤ av));have GE538 := bp;replace HB := aM (lT wB_ hb);clear hb hbox hg)|((with_reducible refine gate_dst (N := 3) rfl ?_);refine bx_ (N := 3) (cs := #[.slice aH ab.length aD]) (t := 55) ?_;intro aw hg w5 hbox hb;have ad := aM (hbox);have bq := aM ((by rw [hg];exact (lZ wB_) : w.heap.size ≤ aw));have GE539 := bq;have ag := aM (nl_ hg ac.out);have ah := aM (ng_ hg ac.out);replace ac := aM (bw_ ac.out hb);replace HB := aM (lT wB_ hb);clear hb hbox hg));(try simp only [Act.put,lI,sZ,sS]);go_cut [16] (fun bY wc => ∃ (kq : Nat) (ax : Bool),bY = .bool ax ∧ Aside0 (Fam.j0 kq ax ai aj ak af ab = some (r1,r2)) ∧ Aside0 (kq ≤ k) ∧ Aside0 (wc.heap[av]? = some (.cells #[.int .i64 ai,.string aj,.string ak,(.slice ap af.length ar)] 36 (0,0))) ∧ Aside0 (wc.heap[aw]? = some (.cells #[(.slice aH ab.length aD)] 55 (0,0))) ∧ Aside0 (Below w.heap.size w wc))
 case first =>
  have H := bL.out;clear bL;obtain ⟨bh,A6,H⟩ := bE_ H
  by_cases c7 : bh = true
  focus
   subst c7;rw [if_pos rfl] at H;obtain ⟨bi,A8,H⟩ := bE_ H;have H' := aM H;clear H;have hnb9 := ag.out;have hnc9 := ah.out
  rotate_left
  focus
   replace c7 := qO.mpr c7;subst c7;rw [if_neg qT] at H;have H' := aM H;clear H;have hnb14 := ag.out;have hnc14 := ah.out
  all_goals
   obtain ⟨_,_,_,_,_,_,_,_⟩ := z4_ ac.out;go_wp2_with (first|((with_reducible refine gate_callee (f := 31) rfl ?_);refine gl_ (some 10) Tryz.func31 #[.agg #[.int .i64 ai,.string aj,.string ak,.slice ap af.length ar]] ?_;(with_reducible refine (Fbu.calls _ _ _ _ _ _ _ _ _ ?side1 ?side2 ?side3 A6.out).mono ?_);(case side1 => exact wX_ bd.out);(case side2 => exact be.out);(case side3 => exact Gfw.below HG.out.toGfw wB_);rintro e WA6 ⟨rfl,hb⟩;refine ⟨_,rfl,?_⟩;replace ac := aM (bw_ ac.out hb);replace ad := aM (bw_ ad.out hb);replace HB := aM (lT wB_ hb);obtain ⟨_,_⟩ := z1_ ad.out)|(go_at_call 73;(with_reducible refine (Faj.calls _ _ _ _ _ _ ?side1 ?side2 ?side3 A8.out).mono ?_);(case side1 => exact wX_ bf.out);(case side2 => exact bo.out);(case side3 => exact Gm.below HG.out.toGm wB_);rintro e WA8 ⟨rfl,hb⟩;replace ac := aM (bw_ ac.out hb);replace ad := aM (bw_ ad.out hb);replace HB := aM (lT wB_ hb)));go_meet
   case rel => first|(exact ⟨_,(!bi),vR_,H',⟨by first|omega|exact Nat.le_refl _⟩,⟨wC_ ac.out⟩,⟨wC_ ad.out⟩,⟨wB_⟩⟩)|(exact ⟨_,(true),vR_,H',⟨by first|omega|exact Nat.le_refl _⟩,⟨wC_ ac.out⟩,⟨wC_ ad.out⟩,⟨wB_⟩⟩)
 case rest =>
  clear bL;obtain ⟨kq,ax,rfl,HA,bM,ac,ad,HB⟩ := hcut
  cases kq with
  | zero => exact absurd HA.out (by simp [Fam.j0])
  | succ bO =>
   have H := HA.out;clear HA;simp only [Fam.j0] at H
   by_cases bG : ax = true
   ·subst bG;rw [if_pos rfl] at H;simp only [eS,eP] at H;obtain ⟨rfl,rfl⟩ := H;go_wp2;go_ret2;exact ⟨_,vR_,by first|exact Kd.R_nil _ _ _ _ _|exact Kd.N_nil _ _ _ _ _|exact Kd.V_nil _ _ _ _ _|exact Kd.Q_nil _ _ _ _ _|exact Kd.S_nil _ _ _ _ _,wB_⟩
   ·replace bG := qO.mpr bG;subst bG;rw [if_neg qT] at H;obtain ⟨br,aJ⟩ : ∃ y_ : List ByteArray,y_ = (([] : List ByteArray)) := ⟨_,rfl⟩;replace H : (Fam.l0 bO br ab (ab.length : Int) 0 ai aj ak af) = some (r1,r2) := (yH_ aJ H);have bg := aM aJ;clear aJ;have H' := aM H;clear H;go_wp2_with (first|((with_reducible refine gate_dst (N := 17) rfl ?_);refine Kd.R_lit Kd.string _ 9 ?hg (N := 17) ?hd (xs := ([] : List ByteArray)) (inner := []) (ok := fun _ => True) (okp := fun _ => True) ?hr ?hp (fun _ hk => hk) trivial (Below.refl _ _) (Nat.le_refl _) (by simp) ?_;(case hd => rfl);(case hg => rfl);(case hr => first|(go_simp;done)|(go_simp;rfl));(case hp => exact (Reps.none _ _));intro v543 w18 aK hb hg_ hnew_;clear hg_ hnew_;(first|rw [← bg.out] at aK|(simp only [Int.reduceToNat] at aK;rw [← bg.out] at aK));have bs := aM (Kd.R_lower aK (lZ wB_));replace ac := aM (bw_ ac.out hb);replace ad := aM (bw_ ad.out hb);replace HB := aM (lT wB_ hb);clear hb aK;have hnb20 := ah.out;have hnc20 := ag.out;obtain ⟨_,_⟩ := z1_ ad.out));go_loopg [6,21] bO (fun kq v6 bZ w' => ∃ (au : List ByteArray) (aa : Int),bZ = .int .i64 aa ∧ Aside0 (Fam.l0 kq au ab (ab.length : Int) aa ai aj ak af = some (r1,r2)) ∧ Aside0 (kq ≤ bO) ∧ Aside0 (Kd.R Kd.string 9 w' w.heap.size (fun _ => True) v6 au) ∧ Aside0 (w'.heap[av]? = some (.cells #[.int .i64 ai,.string aj,.string ak,(.slice ap af.length ar)] 36 (0,0))) ∧ Aside0 (w'.heap[aw]? = some (.cells #[(.slice aH ab.length aD)] 55 (0,0))) ∧ Aside0 (Below w.heap.size w w'))
    case atStart => exact ⟨(br),(0),vR_,H',⟨Nat.le_refl _⟩,⟨wO_ bs.out⟩,⟨wC_ ac.out⟩,⟨wC_ ad.out⟩,⟨wB_⟩⟩
    case round =>
     clear H';obtain ⟨au,aa,rfl,HA,bP,am,ac,ad,HB⟩ := hrel
     cases gk with
     | zero => exact absurd HA.out (by simp [Fam.l0])
     | succ k2 =>
      have H := HA.out;clear HA;simp only [Fam.l0] at H
      by_cases bn : aa < (ab.length : Int)
      focus
       rw [if_pos bn] at H;have bu := dT bn;clear bn
       by_cases bH : 0 ≤ aa
       rotate_left;rw [if_neg bH] at H;exact nH_ H;rw [if_pos bH] at H;have c23b0 := dT bH;clear bH
       by_cases bI : aa < (ab.length : Int)
       rotate_left;rw [if_neg bI] at H;exact nH_ H;rw [if_pos bI] at H;have c24b0 := dT bI;clear bI;obtain ⟨bQ,b2,H⟩ := bE_ H
       by_cases bJ : bQ = true
       focus
        subst bJ;rw [if_pos rfl] at H
        by_cases bK : au.length < 8796093022208
        rotate_left;rw [if_neg bK] at H;exact nH_ H;rw [if_pos bK] at H;have bv := aM bK;clear bK;obtain ⟨bw,aN⟩ : ∃ y_ : List ByteArray,y_ = (au ++ [(Faa ab aa).f0]) := ⟨_,rfl⟩;replace H : (Fam.l0 k2 bw ab (ab.length : Int) (wrap64 (aa + 1)) ai aj ak af) = some (r1,r2) := (yH_ aN H);have bz := aM aN;clear aN;have H' := aM H;clear H
       rotate_left
       focus
        replace bJ := qO.mpr bJ;subst bJ;rw [if_neg qT] at H;have H' := aM H;clear H
      rotate_left 2
      focus
       rw [if_neg bn] at H;have bu := dF bn;clear bn;simp only [eS,eP] at H;obtain ⟨rfl,rfl⟩ := H
      all_goals
       (try (have p01 : 0 ≤ (aa : Int) := oD (by assumption);have q01 : aa < (ab.length : Int) := oD (by assumption);obtain ⟨ad01,aQ,aR,aT,aU,e01,aV,aW,aX,aY,aZ,a0,a1,a2,a3,a4,ay,az,aA,aC,a5,a6,a7,a8⟩ := Fcs bf.out aa p01 q01;cases e01;replace aV := mv_ HB.out aV;replace aW := mv_ HB.out aW;replace aX := mv_ HB.out aX;replace aY := mv_ HB.out aY;replace aZ := mv_ HB.out aZ;replace a0 := mv_ HB.out a0;replace a1 := mv_ HB.out a1;replace a2 := mv_ HB.out a2;replace a3 := mv_ HB.out a3;replace a4 := mv_ HB.out a4;replace ay := mv_ HB.out ay;replace az := mv_ HB.out az;replace aA := mv_ HB.out aA;replace aC := mv_ HB.out aC;have bj := aM a6;have bk := aM a5;clear a6 a5;have bl := aM a8;have bm := aM a7;clear a8 a7;replace p01 := eq_true p01;replace q01 := eq_true q01));go_wp2_with (first|((with_reducible refine gate_dst (N := 8) rfl ?_);refine bx_ (N := 8) (cs := #[.string (⟨#[]⟩ : ByteArray),.int .i64 0,.slice none 0 0,.slice none 0 0,.string (⟨#[]⟩ : ByteArray),.string (⟨#[]⟩ : ByteArray),.string (⟨#[]⟩ : ByteArray),.int .i64 0,.int .i64 0,.int .i64 0,.bool false,.int .i64 0,.string (⟨#[]⟩ : ByteArray),.string (⟨#[]⟩ : ByteArray)]) (t := 41) ?_;intro ae hg Wgb546 hbox hb;have al := aM (hbox);have bB := aM ((by rw [hg];exact (lZ wB_) : w.heap.size ≤ ae));have GE546 := bB;have an := aM (nl_ hg ac.out);have aE := aM (ng_ hg ac.out);have ao := aM (nl_ hg ad.out);have aG := aM (ng_ hg ad.out);replace am := aM (rB (wO_ am.out) hb);replace ac := aM (bw_ ac.out hb);replace ad := aM (bw_ ad.out hb);replace HB := aM (lT wB_ hb);clear hb hbox hg;have hnby546_538 := aE.out;have hncy538_546 := an.out;have hnby546_539 := aG.out;have hncy539_546 := ao.out;obtain ⟨_,_,_,_,_,_,_,_,_,_,_,_,_,_,_,_,_,_,_,_,_,_,_,_,_,_,_,_⟩ := z14_ al.out;have hnby538_539 := ag.out;have hncy539_538 := ah.out;obtain ⟨_,_,_,_,_,_,_,_⟩ := z4_ ac.out)|((with_reducible refine gate_callee (f := 66) rfl ?_);refine gl_ (some 27) Tryz.func66 #[.agg #[.int .i64 ai,.string aj,.string ak,.slice ap af.length ar],.agg #[.string ((Faa ab aa).f0),.int .i64 ((Faa ab aa).f1),.slice aQ ((Faa ab aa).f2).length aR,.slice aT ((Faa ab aa).f3).length aU,.string ((Faa ab aa).f4),.string ((Faa ab aa).f5),.string ((Faa ab aa).f6),.int .i64 ((Faa ab aa).f7.f0),.int .i64 ((Faa ab aa).f7.f1),.int .i64 ((Faa ab aa).f7.f2),.bool ((Faa ab aa).f7.f3),.int .i64 ((Faa ab aa).f8),.string ((Faa ab aa).f9),.string ((Faa ab aa).f10)]] ?_;(with_reducible refine (Fag.calls _ _ _ _ _ _ _ _ _ _ _ _ _ _ _ _ _ _ _ _ _ _ _ _ _ _ _ ?side1 ?side2 ?side3 ?side4 ?side5 ?side6 ?side7 b2.out).mono ?_);(case side1 => exact cB bd.out wB_);(case side2 => exact be.out);(case side3 => exact cB bj.out wB_);(case side4 => exact bk.out);(case side5 => exact cB bl.out wB_);(case side6 => exact bm.out);(case side7 => exact Gfb.below HG.out wB_);rintro e WA25 ⟨rfl,hb⟩;refine ⟨_,rfl,?_⟩;replace am := aM (rB (by (with_reducible repeat (first|apply rA|apply rN|apply rD));exact (Kd.R_mono (rF (p := ⟨ae,13,none⟩) (rF (p := ⟨ae,12,none⟩) (rF (p := ⟨ae,11,none⟩) (rF (p := ⟨ae,10,none⟩) (rF (p := ⟨ae,9,none⟩) (rF (p := ⟨ae,8,none⟩) (rF (p := ⟨ae,7,none⟩) (rF (p := ⟨ae,6,none⟩) (rF (p := ⟨ae,5,none⟩) (rF (p := ⟨ae,4,none⟩) (rF (p := ⟨ae,3,none⟩) (rF (p := ⟨ae,2,none⟩) (rF (p := ⟨ae,1,none⟩) (rF (p := ⟨ae,0,none⟩) (Kd.R_types am.out al.out (by decide)) (fun _ hk => hk.2) (.string ((Faa ab aa).f0))) (fun _ hk => hk.2) (.int .i64 ((Faa ab aa).f1))) (fun _ hk => hk.2) (.slice aQ ((Faa ab aa).f2).length aR)) (fun _ hk => hk.2) (.slice aT ((Faa ab aa).f3).length aU)) (fun _ hk => hk.2) (.string ((Faa ab aa).f4))) (fun _ hk => hk.2) (.string ((Faa ab aa).f5))) (fun _ hk => hk.2) (.string ((Faa ab aa).f6))) (fun _ hk => hk.2) (.int .i64 ((Faa ab aa).f7.f0))) (fun _ hk => hk.2) (.int .i64 ((Faa ab aa).f7.f1))) (fun _ hk => hk.2) (.int .i64 ((Faa ab aa).f7.f2))) (fun _ hk => hk.2) (.bool ((Faa ab aa).f7.f3))) (fun _ hk => hk.2) (.int .i64 ((Faa ab aa).f8))) (fun _ hk => hk.2) (.string ((Faa ab aa).f9))) (fun _ hk => hk.2) (.string ((Faa ab aa).f10))) (fun _ h_ => h_.1))) hb);replace ac := aM (bW (g := av) (o := .cells #[.int .i64 ai,.string aj,.string ak,.slice ap af.length ar] 36 (0,0)) (bf_ an.out ac.out) hb);replace ad := aM (bW (g := aw) (o := .cells #[.slice (some ad01) ab.length aD] 55 (0,0)) (bf_ ao.out ad.out) hb);replace al := aM (bW (g := ae) (o := .cells #[.string ((Faa ab aa).f0),.int .i64 ((Faa ab aa).f1),.slice aQ ((Faa ab aa).f2).length aR,.slice aT ((Faa ab aa).f3).length aU,.string ((Faa ab aa).f4),.string ((Faa ab aa).f5),.string ((Faa ab aa).f6),.int .i64 ((Faa ab aa).f7.f0),.int .i64 ((Faa ab aa).f7.f1),.int .i64 ((Faa ab aa).f7.f2),.bool ((Faa ab aa).f7.f3),.int .i64 ((Faa ab aa).f8),.string ((Faa ab aa).f9),.string ((Faa ab aa).f10)] 41 (0,0)) (bq14_ al.out) hb);replace HB := aM (lT wB_ hb);obtain ⟨_,_,_,_,_,_,_,_,_,_,_,_,_,_,_,_,_,_,_,_,_,_,_,_,_,_,_,_⟩ := z14_ al.out)|((with_reducible refine gate_builtin (b := .append) (xs := #[.tmp 28,.tmp 31]) rfl ?_);at_builtin;refine Kd.R_append Kd.string (w0 := w) w.heap.size rfl (.tmp 28) (.tmp 31) 50 9 (.string ⟨#[]⟩) 16 rfl Tryz.underlying50 info9 rfl (by decide) (by omega) u6 au ((Faa ab aa).f0) [.string ((Faa ab aa).f0)] (fun _ => True) (fun _ => False) rfl rfl ?aP (fun _ hk => hk.elim) ?aF ?aO ?aB ?aS ?aL ?_;(case aP => exact rfl);(case aB => exact wB_);(case aF => exact (fun _ _ => trivial));(case aO => exact (wO_ am.out));(case aS => exact (lZ wB_));(case aL => have := bv.out;omega);intro v549 w36 ho hb hg hat;rw [← bz.out] at ho;have bS := aM (bg_ ac.out hg (Kd.R_ne am.out ac.out (by decide)));have bT := aM (bg_ ad.out hg (Kd.R_ne am.out ad.out (by decide)));have bU := aM (bg_ al.out hg (Kd.R_ne am.out al.out (by decide)));have bV := aM (hb);have bX := aM (ho);clear ac;clear ad;clear al;clear HB;clear am;have ac := bS;have ad := bT;have al := bU;have HB := bV;have bE := bX;clear bS bT bU bV bX;clear ho hb hg hat))
       first
        |
         go_ret2;exact ⟨_,vR_,wO_ am.out,wB_⟩
        |
         go_roundg k2
         case measure => have := bM.out;have := bP.out;omega
         case rel => first|(exact ⟨(bw),(wrap64 (aa + 1)),vR_,H',⟨by have := bM.out;have := bP.out;omega⟩,⟨wO_ bE.out⟩,⟨wC_ ac.out⟩,⟨wC_ ad.out⟩,⟨wB_⟩⟩)|(exact ⟨(au),(wrap64 (aa + 1)),vR_,H',⟨by have := bM.out;have := bP.out;omega⟩,⟨wO_ am.out⟩,⟨wC_ ac.out⟩,⟨wC_ ad.out⟩,⟨wB_⟩⟩)
def Faw.l0 : Nat → List ByteArray → List ByteArray → Int → Option (Bool)
 | 0,_,_,_ => none
 | k + 1,x0,x1,x5 => if x5 < (x0.length : Int) then (if 0 ≤ x5 then (if x5 < (x1.length : Int) then (if (rdOf ByteArray.empty x0 x5).toList = (rdOf ByteArray.empty x1 x5).toList then (Faw.l0 k x0 x1 (wrap64 (x5 + 1))) else (some false)) else (none)) else (none)) else (some true)
def Faw.f (k : Nat) (l0 : List ByteArray) (l1 : List ByteArray) : Option (Bool) := if (l0.length : Int) = (l1.length : Int) then (Faw.l0 k l0 l1 0) else (some false)
theorem Faw.mono_l : ∀ k,(∀ y0 y1 y2,LeO (Faw.l0 k y0 y1 y2) (Faw.l0 (k + 1) y0 y1 y2))
 | 0 => fun _ _ _ r h => by simp [Faw.l0] at h
 | k + 1 => by
  have ih0 := Faw.mono_l k
  ·intro y0 y1 y2
   unfold Faw.l0
   repeat' (first|with_reducible (first|exact ih0 _ _ _|exact LeO.refl _|exact LeO.none _|refine LeO.ite ?_ ?_|refine LeO.bind ?_ (fun _ => ?_))|exact LeO.none _|refine LeO.ite ?_ ?_|refine LeO.bind ?_ (fun _ => ?_))
theorem Faw.mono : ∀ a0 a1 k,LeO (Faw.f k a0 a1) (Faw.f (k + 1) a0 a1) := by
 intro a0 a1 k
 have ih0 := Faw.mono_l k
 unfold Faw.f
 repeat' (first|with_reducible (first|exact ih0 _ _ _|exact LeO.refl _|exact LeO.none _|refine LeO.ite ?_ ?_|refine LeO.bind ?_ (fun _ => ?_))|exact LeO.none _|refine LeO.ite ?_ ?_|refine LeO.bind ?_ (fun _ => ?_))
theorem Faw.calls (k : Nat) (A0 : Option Addr) (c0 : Nat) (l0 : List ByteArray) (A1 : Option Addr) (c1 : Nat) (l1 : List ByteArray) (r : Bool) (w : World) (aj : Kd.C Kd.string w A0 l0.length l0) (ak : l0.length ≤ c0) (al : Kd.C Kd.string w A1 l1.length l1) (am : l1.length ≤ c1) (h : Faw.f k l0 l1 = some r) :
  Calls Tryz.prog 21 #[.slice A0 l0.length c0,.slice A1 l1.length c1] w fun e w' => e = .returned (.bool r) ∧ Drawn0 w w' := by
 have ao := aM aj;have HC0 := aM ak;clear aj ak;have ap := aM al;have HC1 := aM am;clear al am;have H : (if (l0.length : Int) = (l1.length : Int) then (Faw.l0 k l0 l1 0) else (some false)) = some r := h;clear h
 by_cases c3 : (l0.length : Int) = (l1.length : Int)
 ·rw [if_pos c3] at H;have ab := qE.mpr c3;have ac := qN.mpr c3;have ad : (l0.length == l1.length) = true := (by first|simpa using c3|(simp at c3 ⊢;omega));clear c3;have H' := aM H;clear H;go_enter Tryz.func21,Tryz.ntmps21;go_wp2;(repeat (go_quiet (fail);try go_wp2));go_loopg [5] k (fun kq v5 w' => ∃ (aa : Int),v5 = .int .i64 aa ∧ Aside0 (Faw.l0 kq l0 l1 aa = some r) ∧ Aside0 (kq ≤ k) ∧ Drawn0 w w')
  case atStart => exact ⟨(0),vR_,H',⟨Nat.le_refl _⟩,dw_⟩
  case round =>
   clear H';obtain ⟨aa,rfl,HA,an,⟨m1,rfl⟩⟩ := hrel
   cases gk with
   | zero => exact absurd HA.out (by simp [Faw.l0])
   | succ k1 =>
    have H := HA.out;clear HA;simp only [Faw.l0] at H
    by_cases c4 : aa < (l0.length : Int)
    focus
     rw [if_pos c4] at H;have ae := dT c4;clear c4
     by_cases c5 : 0 ≤ aa
     rotate_left;rw [if_neg c5] at H;exact nH_ H;rw [if_pos c5] at H;have c5b0 := dT c5;clear c5
     by_cases c6 : aa < (l1.length : Int)
     rotate_left;rw [if_neg c6] at H;exact nH_ H;rw [if_pos c6] at H;have c6b0 := dT c6;clear c6
     by_cases c7 : (rdOf ByteArray.empty l0 aa).toList = (rdOf ByteArray.empty l1 aa).toList
     focus
      rw [if_pos c7] at H;have af := qE.mpr c7;have ag := qN.mpr c7;clear c7;have H' := aM H;clear H
     rotate_left
     focus
      rw [if_neg c7] at H;have af := qF.mpr c7;have ag := qB.mpr c7;obtain rfl := oI H
    rotate_left 2
    focus
     rw [if_neg c4] at H;have ae := dF c4;clear c4;obtain rfl := oI H
    all_goals
     (try (have p01 : 0 ≤ (aa : Int) := oD (by assumption);have q01 : aa < (l0.length : Int) := oD (by assumption);obtain ⟨ad01,e01,hx01_0⟩ := Kd.at_string ao.out aa p01 q01;cases e01;replace p01 := eq_true p01;replace q01 := eq_true q01));(try (have ah : 0 ≤ (aa : Int) := oD (by assumption);have ai : aa < (l1.length : Int) := oD (by assumption);obtain ⟨ad02,ar,hx02_0⟩ := Kd.at_string ap.out aa ah ai;cases ar;replace ah := eq_true ah;replace ai := eq_true ai));go_wp2;(repeat (go_quiet (fail);try go_wp2))
     first
      |
       go_ret;exact ⟨vR_,dw_⟩
      |
       go_roundg k1
       case measure => have := an.out;omega
       case rel => exact ⟨(wrap64 (aa + 1)),vR_,H',⟨by have := an.out;omega⟩,dw_⟩
 ·rw [if_neg c3] at H;have ab := qF.mpr c3;have ac := qB.mpr c3;have ad : (l0.length == l1.length) = false := (by first|simpa using c3|(simp at c3 ⊢;omega));obtain rfl := oI H;go_enter Tryz.func21,Tryz.ntmps21;go_wp2;(repeat (go_quiet (fail);try go_wp2));go_ret;exact ⟨vR_,dw_⟩
def Fb2.f (k : Nat) (aa : List ByteArray) (ab : ByteArray) (ac : ByteArray) (ad : ByteArray) (ae : List ByteArray) (af : ByteArray) (ag : ByteArray) (ah : ByteArray) : Option (Bool) := (Faw.f k aa ae).bind fun ai => (if ai = true then (if ab.toList = af.toList then (if ac.toList = ag.toList then (if ad.toList = ah.toList then (some true) else (some false)) else (some false)) else (some false)) else (some false))
theorem Fb2.mono : ∀ a0 a1 a2 a3 a4 a5 a6 a7 k,LeO (Fb2.f k a0 a1 a2 a3 a4 a5 a6 a7) (Fb2.f (k + 1) a0 a1 a2 a3 a4 a5 a6 a7) := by
 intro a0 a1 a2 a3 a4 a5 a6 a7 k
 unfold Fb2.f
 repeat' (first|with_reducible (first|exact Faw.mono _ _ _|exact LeO.refl _|exact LeO.none _|refine LeO.ite ?_ ?_|refine LeO.bind ?_ (fun _ => ?_))|exact LeO.none _|refine LeO.ite ?_ ?_|refine LeO.bind ?_ (fun _ => ?_))
theorem Fb2.calls (k : Nat) (al : Option Addr) (am : Nat) (aa : List ByteArray) (af : ByteArray) (ag : ByteArray) (ah : ByteArray) (an : Option Addr) (ao : Nat) (ab : List ByteArray) (ai : ByteArray) (aj : ByteArray) (ak : ByteArray) (r : Bool) (w : World) (ap : Kd.C Kd.string w al aa.length aa) (ar : aa.length ≤ am) (au : Kd.C Kd.string w an ab.length ab) (av : ab.length ≤ ao) (h : Fb2.f k aa af ag ah ab ai aj ak = some r) :
  Calls Tryz.prog 132 #[.agg #[.slice al aa.length am,.string af,.string ag,.string ah],.agg #[.slice an ab.length ao,.string ai,.string aj,.string ak]] w fun e w' => e = .returned (.bool r) ∧ Below w.heap.size w w' := by
 have hu157 := Tryz.underlying157;have ax := aM ap;have ay := aM ar;clear ap ar;have az := aM au;have aA := aM av;clear au av;have HB := aM (Below.refl w.heap.size w);have H : ((Faw.f k aa ab).bind fun aw => (if aw = true then (if af.toList = ai.toList then (if ag.toList = aj.toList then (if ah.toList = ak.toList then (some true) else (some false)) else (some false)) else (some false)) else (some false))) = some r := h;clear h;obtain ⟨aw,A3,H⟩ := bE_ H
 by_cases c4 : aw = true
 focus
  subst c4;rw [if_pos rfl] at H
  by_cases c5 : af.toList = ai.toList
  focus
   rw [if_pos c5] at H;have aH := qE.mpr c5;have aJ := qN.mpr c5;clear c5
   by_cases c6 : ag.toList = aj.toList
   focus
    rw [if_pos c6] at H;have aK := qE.mpr c6;have aL := qN.mpr c6;clear c6
    by_cases c7 : ah.toList = ak.toList
    focus
     rw [if_pos c7] at H;have aN := qE.mpr c7;have aO := qN.mpr c7;clear c7;obtain rfl := oI H
    rotate_left
    focus
     rw [if_neg c7] at H;have aN := qF.mpr c7;have aO := qB.mpr c7;obtain rfl := oI H
   rotate_left 2
   focus
    rw [if_neg c6] at H;have aK := qF.mpr c6;have aL := qB.mpr c6;obtain rfl := oI H
  rotate_left 3
  focus
   rw [if_neg c5] at H;have aH := qF.mpr c5;have aJ := qB.mpr c5;obtain rfl := oI H
 rotate_left 4
 focus
  replace c4 := qO.mpr c4;subst c4;rw [if_neg qT] at H;obtain rfl := oI H
 all_goals
  go_enter Tryz.func132,Tryz.ntmps132;go_wp2_with (first|((with_reducible refine gate_dst (N := 2) rfl ?_);refine bx_ (N := 2) (cs := #[.slice al aa.length am,.string af,.string ag,.string ah]) (t := 157) ?_;intro aC hg Wgb553 hbox hb;have ac := aM (hbox);have aD := aM ((by rw [hg];exact (lZ wB_) : w.heap.size ≤ aC));have GE553 := aD;replace HB := aM (lT wB_ hb);clear hb hbox hg)|((with_reducible refine gate_dst (N := 3) rfl ?_);refine bx_ (N := 3) (cs := #[.slice an ab.length ao,.string ai,.string aj,.string ak]) (t := 157) ?_;intro aE hg Wgb554 hbox hb;have aF := aM (hbox);have aG := aM ((by rw [hg];exact (lZ wB_) : w.heap.size ≤ aE));have GE554 := aG;have ad := aM (nl_ hg ac.out);have ae := aM (ng_ hg ac.out);replace ac := aM (bw_ ac.out hb);replace HB := aM (lT wB_ hb);clear hb hbox hg;have hnby553_554 := ad.out;have hncy554_553 := ae.out;obtain ⟨_,_,_,_,_,_,_,_⟩ := z4_ ac.out;obtain ⟨_,_,_,_,_,_,_,_⟩ := z4_ aF.out)|((with_reducible refine gate_callee (f := 21) rfl ?_);refine gl_ (some 9) Tryz.func21 #[.slice al aa.length am,.slice an ab.length ao] ?_;(with_reducible refine (Faw.calls _ _ _ _ _ _ _ _ _ ?side1 ?side2 ?side3 ?side4 A3.out).mono ?_);(case side1 => exact wX_ ax.out);(case side2 => exact ay.out);(case side3 => exact wX_ az.out);(case side4 => exact aA.out);rintro e w' ⟨rfl,⟨nd,rfl⟩⟩;refine ⟨_,rfl,?_⟩));go_ret;exact ⟨vR_,wB_⟩
end Go.Proofs.YtmafmhgmdegplaaGreatDoor.P
