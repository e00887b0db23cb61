/- Walks: each Go function computes the Lean function beside it; conditions: those of each theorem. -/
import Derived.Test.YtmafmhgmdegplaaGreatDoorZPx0
import Derived.Test.YtmafmhgmdegplaaGreatDoorZPx8
namespace Go.Proofs.YtmafmhgmdegplaaGreatDoor.P
open Go.RowKit Go.Proofs.YtmafmhgmdegplaaGreatDoorW.PrintWords Go.Proofs.YtmafmhgmdegplaaGreatDoorW.PrintLast Go.Proofs.YtmafmhgmdegplaaGreatDoorW.PrintMore
set_option maxHeartbeats 8000000
set_option maxRecDepth 100000
attribute [local go_sem] geqStr max2_int min2_int max_two min_two max_three min_three max_four min_four   -- for this text's walks alone
set_option linter.unusedVariables false
set_option linter.unusedSimpArgs false
def FaA.l0 : Nat → Int → List (S41) → Option (Bool)
 | 0,_,_ => none
 | k + 1,x3,aa => if x3 < (aa.length : Int) then (if 0 ≤ x3 then ((Fav.f k ((Faa aa x3).f0) ((Faa aa x3).f1) ((Faa aa x3).f2) ((Faa aa x3).f3) ((Faa aa x3).f4) ((Faa aa x3).f5) ((Faa aa x3).f6) ((Faa aa x3).f7.f0) ((Faa aa x3).f7.f1) ((Faa aa x3).f7.f2) ((Faa aa x3).f7.f3) ((Faa aa x3).f8) ((Faa aa x3).f9) ((Faa aa x3).f10)).bind fun ab => (if ab = true then (if x3 > 0 then (if 0 ≤ (wrap64 (x3 - 1)) then (if (wrap64 (x3 - 1)) < (aa.length : Int) then (if ((Op.bytesLess (((Faa aa (wrap64 (x3 - 1))).f0).toList) (((Faa aa x3).f0).toList)) = true) then (FaA.l0 k (wrap64 (x3 + 1)) aa) else (some false)) else (none)) else (none)) else (FaA.l0 k (wrap64 (x3 + 1)) aa)) else (some false))) else (none)) else (some true)
def FaA.f (k : Nat) (aa : List (S41)) : Option (Bool) := if (aa.length : Int) > 8 then (some false) else (FaA.l0 k 0 aa)
theorem FaA.mono_l : ∀ k,(∀ y0 y1,LeO (FaA.l0 k y0 y1) (FaA.l0 (k + 1) y0 y1))
 | 0 => fun _ _ r h => by simp [FaA.l0] at h
 | k + 1 => by
  have ih0 := FaA.mono_l k
  ·intro y0 y1
   unfold FaA.l0
   repeat' (first|with_reducible (first|exact ih0 _ _|exact Fav.mono _ _ _ _ _ _ _ _ _ _ _ _ _ _ _|exact LeO.refl _|exact LeO.none _|refine LeO.ite ?_ ?_|refine LeO.bind ?_ (fun _ => ?_))|exact LeO.none _|refine LeO.ite ?_ ?_|refine LeO.bind ?_ (fun _ => ?_))
theorem FaA.mono : ∀ a0 k,LeO (FaA.f k a0) (FaA.f (k + 1) a0) := by
 intro a0 k
 have ih0 := FaA.mono_l k
 unfold FaA.f
 repeat' (first|with_reducible (first|exact ih0 _ _|exact Fav.mono _ _ _ _ _ _ _ _ _ _ _ _ _ _ _|exact LeO.refl _|exact LeO.none _|refine LeO.ite ?_ ?_|refine LeO.bind ?_ (fun _ => ?_))|exact LeO.none _|refine LeO.ite ?_ ?_|refine LeO.bind ?_ (fun _ => ?_))
def FaA.T6 : Bool × List (List Nat × List Nat) := (true,[([],[]),([0],[0]),([],[]),([1,2],[1,2]),([3],[3]),([4],[4]),([5],[5]),([6,5],[6]),([7],[7]),([8,7],[7,8]),([9,7,7],[7,9]),([10],[10]),([11,10],[10,11]),([10],[10]),([13,10],[10,13]),([12,14,10],[10,12,14]),([15,10],[10,15]),([16,10],[10,16]),([10],[10]),([18,10],[10,18]),([10],[10]),([19,20,10],[10,19,20]),([21,10],[10,21]),([22,10],[10,22]),([17,23,10],[10,17,23]),([10,24,7],[7,10,24]),([7,25],[7,25])])
def FaA.B6 : List Nat := [0,1,0,7,15,31,63,127,255,511,1023,2047,4095,2047,10239,32767,65535,131071,2047,264191,2047,1837055,3934207,8128511,16777215,33554431,67108863]
theorem FaA.tab6 : rtab .any (opsOf Tryz.f71 6) = FaA.T6 := by kernel_rfl
theorem FaA.bits6 : waitsOk FaA.T6.2 FaA.B6 = true := by kernel_rfl
theorem FaA.calls (k : Nat) (bI : Option Addr) (bj : Nat) (ab : List (S41)) (r : Bool) (w : World) (cS : Kd.C k41 w bI ab.length ab) (cT : ab.length ≤ bj) (h : FaA.f k ab = some r) :
  Calls Tryz.prog 71 #[.agg #[.slice bI ab.length bj]] w fun e w' => e = .returned (.bool r) ∧ Below w.heap.size w w' := by
 have hu55 := Tryz.underlying55;have hu41 := Tryz.underlying41;have bk := aM cS;have HC0_0 := aM cT;clear cS cT;have HB := aM (Below.refl w.heap.size w);have H : (if (ab.length : Int) > 8 then (some false) else (FaA.l0 k 0 ab)) = some r := h;clear h
 by_cases c2 : (ab.length : Int) > 8
 ·rw [if_pos c2] at H;have dD : decide (8 < (ab.length : Int)) = true := dT c2;have dE : decide (8 < ab.length) = true := dT (by omega);clear c2;obtain rfl := oI H;go_enter Tryz.func71,Tryz.ntmps71;go_wp2_with (first|((with_reducible refine gate_dst (N := 1) rfl ?_);refine bx_ (N := 1) (cs := #[.slice bI ab.length bj]) (t := 55) ?_;intro az hg w3 hbox hb;have ae := aM (hbox);have bJ := aM ((by rw [hg];exact (lZ wB_) : w.heap.size ≤ az));have dn := bJ;replace HB := aM (lT wB_ hb);clear hb hbox hg;obtain ⟨_,_⟩ := z1_ ae.out));go_ret;exact ⟨vR_,wB_⟩
 ·rw [if_neg c2] at H;have dD : decide (8 < (ab.length : Int)) = false := dF c2;have dE : decide (8 < ab.length) = false := dF (by omega);clear c2;have H' := aM H;clear H;go_enter Tryz.func71,Tryz.ntmps71;go_wp2_with (first|((with_reducible refine gate_dst (N := 1) rfl ?_);refine bx_ (N := 1) (cs := #[.slice bI ab.length bj]) (t := 55) ?_;intro az hg w5 hbox hb;have ae := aM (hbox);have bJ := aM ((by rw [hg];exact (lZ wB_) : w.heap.size ≤ az));have dn := bJ;replace HB := aM (lT wB_ hb);clear hb hbox hg;obtain ⟨_,_⟩ := z1_ ae.out));go_loopg [3] k (fun kq v3 w' => ∃ (aa : Int),v3 = .int .i64 aa ∧ Aside0 (FaA.l0 kq aa ab = some r) ∧ Aside0 (kq ≤ k) ∧ Aside0 (w'.heap[az]? = some (.cells #[(.slice bI ab.length bj)] 55 (0,0))) ∧ Aside0 (Below w.heap.size w w'))
  case atStart => exact ⟨(0),vR_,H',⟨Nat.le_refl _⟩,⟨wC_ ae.out⟩,⟨wB_⟩⟩
  case round =>
   clear H';obtain ⟨aa,rfl,HA,dA,ae,HB⟩ := hrel
   cases gk with
   | zero => exact absurd HA.out (by simp [FaA.l0])
   | succ k1 =>
    have H := HA.out;clear HA;simp only [FaA.l0] at H
    by_cases c7 : aa < (ab.length : Int)
    focus
     rw [if_pos c7] at H;have dG := dT c7;clear c7
     by_cases c8 : 0 ≤ aa
     rotate_left;rw [if_neg c8] at H;exact nH_ H;rw [if_pos c8] at H;have c8b0 := dT c8;clear c8;obtain ⟨dH,A9,H⟩ := bE_ H
     by_cases c10 : dH = true
     focus
      subst c10;rw [if_pos rfl] at H
      by_cases dl : aa > 0
      focus
       rw [if_pos dl] at H;have dp : decide (0 < aa) = true := dT dl;clear dl;obtain ⟨ad,bi⟩ : ∃ j_ : Int,(wrap64 (aa - 1)) = j_ := ⟨_,rfl⟩;replace H : (if 0 ≤ (ad) then (if (ad) < (ab.length : Int) then (if ((Op.bytesLess (((Faa ab (ad)).f0).toList) (((Faa ab aa).f0).toList)) = true) then (FaA.l0 k1 (wrap64 (aa + 1)) ab) else (some false)) else (none)) else (none)) = some r := (by first|(rw [bi] at H;exact H)|(simp only [bi] at H ⊢;exact H));(try rw [bi] at A9);have hji12w : (IntKind.i64.wrap (aa - 1)) = ad := (i64_w _).trans bi
       by_cases dB : 0 ≤ (ad)
       rotate_left;rw [if_neg dB] at H;exact nH_ H;rw [if_pos dB] at H;have c13b0 := dT dB;clear dB
       by_cases dC : (ad) < (ab.length : Int)
       rotate_left;rw [if_neg dC] at H;exact nH_ H;rw [if_pos dC] at H;have c14b0 := dT dC;clear dC
       by_cases dm : ((Op.bytesLess (((Faa ab (ad)).f0).toList) (((Faa ab aa).f0).toList)) = true)
       focus
        rw [if_pos dm] at H;have dq : (Op.bytesLess (((Faa ab (ad)).f0).toList) (((Faa ab aa).f0).toList)) = true := dm;clear dm;have H' := aM H;clear H
       rotate_left
       focus
        rw [if_neg dm] at H;have dq : (Op.bytesLess (((Faa ab (ad)).f0).toList) (((Faa ab aa).f0).toList)) = false := (by simpa using dm);clear dm;obtain rfl := oI H
      rotate_left 2
      focus
       rw [if_neg dl] at H;have dp : decide (0 < aa) = false := dF dl;clear dl;have H' := aM H;clear H
     rotate_left 3
     focus
      replace c10 := qO.mpr c10;subst c10;rw [if_neg qT] at H;obtain rfl := oI H
    rotate_left 4
    focus
     rw [if_neg c7] at H;have dG := dF c7;clear c7;obtain rfl := oI H
    all_goals
     obtain ⟨_,_⟩ := z1_ ae.out;(try go_wp2)
     first
      |
       go_ret;exact ⟨vR_,wB_⟩
      |
       replace ae := aM (bD ae.out);replace HB := aM (lD HB.out)
       first
        |
         have dI : 0 ≤ (aa : Int) := oD (by assumption);have dJ : aa < (ab.length : Int) := oD (by assumption);obtain ⟨af,cU,cV,cW,cX,dS,aA,aC,aD,aE,aF,aG,aH,aJ,aK,aL,ag,ah,ai,aj,bK,bL,bM,bO⟩ := Fb3 bk.out aa dI dJ;have bl := aj;have bm := ai;have bn := ah;have bo := ag;have bP := aL;have bQ := aK;have bR := aJ;have bS := aH;have bT := aG;have bU := aF;have bV := aE;have bX := aD;have bY := aC;have bZ := aA;cases dS;replace aA := mv_ HB.out aA;replace aC := mv_ HB.out aC;replace aD := mv_ HB.out aD;replace aE := mv_ HB.out aE;replace aF := mv_ HB.out aF;replace aG := mv_ HB.out aG;replace aH := mv_ HB.out aH;replace aJ := mv_ HB.out aJ;replace aK := mv_ HB.out aK;replace aL := mv_ HB.out aL;replace ag := mv_ HB.out ag;replace ah := mv_ HB.out ah;replace ai := mv_ HB.out ai;replace aj := mv_ HB.out aj;have b2 := aM bL;have dc := aM bK;clear bL bK;have b3 := aM bO;have dd := aM bM;clear bO bM;replace dI := eq_true dI;replace dJ := eq_true dJ;refine start_ (n := 27) (S := fun w' => w'.cell? ⟨az,0,none⟩ = some (.slice (some af) ab.length bj) ∧ w'.cell? (af.add ((aa).toNat * 14)) = some (.string ((Faa ab aa).f0)) ∧ w'.cell? ⟨(af.add ((aa).toNat * 14)).block,(af.add ((aa).toNat * 14)).off + 1,none⟩ = some (.int .i64 ((Faa ab aa).f1)) ∧ w'.cell? ⟨(af.add ((aa).toNat * 14)).block,(af.add ((aa).toNat * 14)).off + 2,none⟩ = some (.slice cU ((Faa ab aa).f2).length cV) ∧ w'.cell? ⟨(af.add ((aa).toNat * 14)).block,(af.add ((aa).toNat * 14)).off + 3,none⟩ = some (.slice cW ((Faa ab aa).f3).length cX) ∧ w'.cell? ⟨(af.add ((aa).toNat * 14)).block,(af.add ((aa).toNat * 14)).off + 4,none⟩ = some (.string ((Faa ab aa).f4)) ∧ w'.cell? ⟨(af.add ((aa).toNat * 14)).block,(af.add ((aa).toNat * 14)).off + 5,none⟩ = some (.string ((Faa ab aa).f5)) ∧ w'.cell? ⟨(af.add ((aa).toNat * 14)).block,(af.add ((aa).toNat * 14)).off + 6,none⟩ = some (.string ((Faa ab aa).f6)) ∧ w'.cell? ⟨(af.add ((aa).toNat * 14)).block,(af.add ((aa).toNat * 14)).off + 7,none⟩ = some (.int .i64 ((Faa ab aa).f7.f0)) ∧ w'.cell? ⟨(af.add ((aa).toNat * 14)).block,(af.add ((aa).toNat * 14)).off + 8,none⟩ = some (.int .i64 ((Faa ab aa).f7.f1)) ∧ w'.cell? ⟨(af.add ((aa).toNat * 14)).block,(af.add ((aa).toNat * 14)).off + 9,none⟩ = some (.int .i64 ((Faa ab aa).f7.f2)) ∧ w'.cell? ⟨(af.add ((aa).toNat * 14)).block,(af.add ((aa).toNat * 14)).off + 10,none⟩ = some (.bool ((Faa ab aa).f7.f3)) ∧ w'.cell? ⟨(af.add ((aa).toNat * 14)).block,(af.add ((aa).toNat * 14)).off + 11,none⟩ = some (.int .i64 ((Faa ab aa).f8)) ∧ w'.cell? ⟨(af.add ((aa).toNat * 14)).block,(af.add ((aa).toNat * 14)).off + 12,none⟩ = some (.string ((Faa ab aa).f9)) ∧ w'.cell? ⟨(af.add ((aa).toNat * 14)).block,(af.add ((aa).toNat * 14)).off + 13,none⟩ = some (.string ((Faa ab aa).f10))) (ds := []) (mk_ 27 0) (by kernel_rfl) rfl (by kernel_rfl) ⟨(bC ae.out 0).trans rfl,mv_ HB.out bZ,mv_ HB.out bY,mv_ HB.out bX,mv_ HB.out bV,mv_ HB.out bU,mv_ HB.out bT,mv_ HB.out bS,mv_ HB.out bR,mv_ HB.out bQ,mv_ HB.out bP,mv_ HB.out bo,mv_ HB.out bn,mv_ HB.out bm,mv_ HB.out bl⟩ (fun hHeld => ?_);refine with_tabW FaA.tab6 FaA.bits6 (fun HT_ HW_ => ?_);generalize wr.drew = dU at ae HB b2 b3 aA aC ag ah ai aj aD aE aF aG aH aJ aK aL hHeld ⊢;refine pV_ (i := 0) (N := some 15) (mk_ 27 1) rfl rfl HT_.out ?_;refine pV_ (i := 2) (N := some 17) (mk_ 27 5) rfl rfl HT_.out ?_;refine tV_ (i := 1) (N := some 16) (mk_ 27 7) rfl rfl HT_.out HW_.out hHeld ?_;refine pV_ (i := 3) (N := some 18) (mk_ 27 15) rfl rfl HT_.out ?_;refine tV_ (i := 4) (N := some 19) (mk_ 27 31) rfl rfl HT_.out HW_.out hHeld ?_;refine one_ (i := 5) (N := some 20) (mk_ 27 63) rfl rfl (one_of HT_.out (by kernel_rfl)) (by decide) (fun K hK => ?_);refine gs_ Tryz.func60 #[.agg #[.string ((Faa ab aa).f0),.int .i64 ((Faa ab aa).f1),.slice cU ((Faa ab aa).f2).length cV,.slice cW ((Faa ab aa).f3).length cX,.string ((Faa ab aa).f4),.string ((Faa ab aa).f5),.string ((Faa ab aa).f6),.int .i64 ((Faa ab aa).f7.f0),.int .i64 ((Faa ab aa).f7.f1),.int .i64 ((Faa ab aa).f7.f2),.bool ((Faa ab aa).f7.f3),.int .i64 ((Faa ab aa).f8),.string ((Faa ab aa).f9),.string ((Faa ab aa).f10)]] ?_;(with_reducible refine (Fav.calls _ _ _ _ _ _ _ _ _ _ _ _ _ _ _ _ _ _ _ _ _ ?side1 ?side2 ?side3 ?side4 A9.out).mono ?_);(case side1 => exact wX_ b2.out);(case side2 => exact dc.out);(case side3 => exact wX_ b3.out);(case side4 => exact dd.out);rintro e dV ⟨rfl,hb⟩;refine ⟨_,rfl,?_⟩;replace ae := aM (bw_ ae.out hb);replace HB := aM (lT wB_ hb);refine hK.out _ _ ⟨(bC ae.out 0).trans rfl,mv_ HB.out bZ,mv_ HB.out bY,mv_ HB.out bX,mv_ HB.out bV,mv_ HB.out bU,mv_ HB.out bT,mv_ HB.out bS,mv_ HB.out bR,mv_ HB.out bQ,mv_ HB.out bP,mv_ HB.out bo,mv_ HB.out bn,mv_ HB.out bm,mv_ HB.out bl⟩ (fun hHeld => ?_);clear hK K;refine norm_ (a' := ?_) ?_ ?_;rotate_left;show Act.put _ (some 20) _ = _;simp only [Act.put,lI,sZ,sS,i64_w,i32_w];rfl;refine pV_ (i := 6) (N := some 21) (mk_ 27 127) rfl rfl HT_.out ?_;refine pV_ (i := 7) (N := some 22) (mk_ 27 255) rfl rfl HT_.out ?_
         first
          |
           refine pU_ (i := 8) (N := some 23) (mk_ 27 511) rfl rfl HT_.out ?_;refine pU_ (i := 9) (N := some 24) (mk_ 27 1023) rfl rfl HT_.out ?_;refine pU_ (i := 10) (N := some 25) (mk_ 27 2047) rfl rfl HT_.out ?_;refine pU_ (i := 11) (N := some 26) (mk_ 27 4095) rfl rfl HT_.out ?_;refine pU_ (i := 12) (N := some 27) (mk_ 27 8191) rfl rfl HT_.out ?_;refine pU_ (i := 13) (N := some 28) (mk_ 27 16383) rfl rfl HT_.out ?_;refine pU_ (i := 14) (N := some 29) (mk_ 27 32767) rfl rfl HT_.out ?_;refine pU_ (i := 15) (N := some 30) (mk_ 27 65535) rfl rfl HT_.out ?_;refine pU_ (i := 16) (N := some 31) (mk_ 27 131071) rfl rfl HT_.out ?_;refine pU_ (i := 17) (N := some 32) (mk_ 27 262143) rfl rfl HT_.out ?_;refine pU_ (i := 18) (N := some 33) (mk_ 27 524287) rfl rfl HT_.out ?_;refine pU_ (i := 19) (N := some 34) (mk_ 27 1048575) rfl rfl HT_.out ?_;refine pU_ (i := 20) (N := some 35) (mk_ 27 2097151) rfl rfl HT_.out ?_;refine pU_ (i := 21) (N := some 36) (mk_ 27 4194303) rfl rfl HT_.out ?_;refine pU_ (i := 22) (N := some 37) (mk_ 27 8388607) rfl rfl HT_.out ?_;refine pU_ (i := 23) (N := some 38) (mk_ 27 16777215) rfl rfl HT_.out ?_;refine pU_ (i := 24) (N := some 39) (mk_ 27 33554431) rfl rfl HT_.out ?_;refine pU_ (i := 25) (N := some 40) (mk_ 27 67108863) rfl rfl HT_.out ?_;refine pV_ (i := 26) (N := some 41) (mk_ 27 134217727) rfl rfl HT_.out ?_;refine done_ (done_of HT_.out (by kernel_rfl)) ?_;(try go_wp2);go_ret;exact ⟨vR_,wB_⟩
          |
           refine pV_ (i := 8) (N := some 23) (mk_ 27 511) rfl rfl HT_.out ?_;refine pV_ (i := 9) (N := some 24) (mk_ 27 1023) rfl rfl HT_.out ?_;refine pV_ (i := 10) (N := some 25) (mk_ 27 2047) rfl rfl HT_.out ?_;refine pU_ (i := 11) (N := some 26) (mk_ 27 4095) rfl rfl HT_.out ?_;refine pU_ (i := 12) (N := some 27) (mk_ 27 8191) rfl rfl HT_.out ?_;refine pU_ (i := 13) (N := some 28) (mk_ 27 16383) rfl rfl HT_.out ?_;refine pU_ (i := 14) (N := some 29) (mk_ 27 32767) rfl rfl HT_.out ?_;refine pU_ (i := 15) (N := some 30) (mk_ 27 65535) rfl rfl HT_.out ?_;refine pU_ (i := 16) (N := some 31) (mk_ 27 131071) rfl rfl HT_.out ?_;refine pU_ (i := 17) (N := some 32) (mk_ 27 262143) rfl rfl HT_.out ?_;refine pU_ (i := 18) (N := some 33) (mk_ 27 524287) rfl rfl HT_.out ?_;refine pU_ (i := 19) (N := some 34) (mk_ 27 1048575) rfl rfl HT_.out ?_;refine pU_ (i := 20) (N := some 35) (mk_ 27 2097151) rfl rfl HT_.out ?_;refine pU_ (i := 21) (N := some 36) (mk_ 27 4194303) rfl rfl HT_.out ?_;refine pU_ (i := 22) (N := some 37) (mk_ 27 8388607) rfl rfl HT_.out ?_;refine pU_ (i := 23) (N := some 38) (mk_ 27 16777215) rfl rfl HT_.out ?_;refine pU_ (i := 24) (N := some 39) (mk_ 27 33554431) rfl rfl HT_.out ?_;refine pV_ (i := 25) (N := some 40) (mk_ 27 67108863) rfl rfl HT_.out ?_;refine pV_ (i := 26) (N := some 41) (mk_ 27 134217727) rfl rfl HT_.out ?_;refine done_ (done_of HT_.out (by kernel_rfl)) ?_;(try go_wp2);go_roundg k1
           case measure => have := dA.out;omega
           case rel => exact ⟨(wrap64 (aa + 1)),vR_,H',⟨by have := dA.out;omega⟩,⟨wC_ ae.out⟩,⟨wB_⟩⟩
        |
         have dK : 0 ≤ (aa : Int) := oD (by assumption);have dL : aa < (ab.length : Int) := oD (by assumption);obtain ⟨ac,cY,cZ,da,db,dW,aN,aO,aP,aQ,aR,aT,aU,aV,aW,aX,ak,al,am,an,b4,b5,b6,b7⟩ := Fb3 bk.out aa dK dL;have bp := an;have bq := am;have br := al;have bs := ak;have b8 := aX;have b9 := aW;have ca := aV;have cb := aU;have cc := aT;have cd := aR;have ce := aQ;have cf := aP;have cg := aO;have ch := aN;cases dW;replace aN := mv_ HB.out aN;replace aO := mv_ HB.out aO;replace aP := mv_ HB.out aP;replace aQ := mv_ HB.out aQ;replace aR := mv_ HB.out aR;replace aT := mv_ HB.out aT;replace aU := mv_ HB.out aU;replace aV := mv_ HB.out aV;replace aW := mv_ HB.out aW;replace aX := mv_ HB.out aX;replace ak := mv_ HB.out ak;replace al := mv_ HB.out al;replace am := mv_ HB.out am;replace an := mv_ HB.out an;have ci := aM b5;have de := aM b4;clear b5 b4;have cj := aM b7;have df := aM b6;clear b7 b6;replace dK := eq_true dK;replace dL := eq_true dL;have dM : 0 ≤ ((ad) : Int) := oD (by assumption);have dN : (ad) < (ab.length : Int) := oD (by assumption);obtain ⟨dO,dr,dt,du,dv,dX,aY,aZ,a0,a1,a2,a3,a4,a5,a6,a7,ao,ap,ar,au,ck,cm,cn,co⟩ := Fb3 bk.out (ad) dM dN;have bu := au;have bv := ar;have bw := ap;have bz := ao;have cp := a7;have cq := a6;have cr := a5;have ct := a4;have cu := a3;have cv := a2;have cw := a1;have cx := a0;have cy := aZ;have cz := aY;obtain rfl : ac = dO := (by injection dX);replace aY := mv_ HB.out aY;replace aZ := mv_ HB.out aZ;replace a0 := mv_ HB.out a0;replace a1 := mv_ HB.out a1;replace a2 := mv_ HB.out a2;replace a3 := mv_ HB.out a3;replace a4 := mv_ HB.out a4;replace a5 := mv_ HB.out a5;replace a6 := mv_ HB.out a6;replace a7 := mv_ HB.out a7;replace ao := mv_ HB.out ao;replace ap := mv_ HB.out ap;replace ar := mv_ HB.out ar;replace au := mv_ HB.out au;have dh := aM cm;have HC02_2 := aM ck;clear cm ck;have di := aM co;have HC02_3 := aM cn;clear co cn;replace dM := eq_true dM;replace dN := eq_true dN;have dP : 0 ≤ (aa : Int) := oD (by assumption);have dQ : aa < (ab.length : Int) := oD (by assumption);obtain ⟨dR,dw,dx,dy,dz,dY,a8,a9,ba,bb,bc,bd,be,bf,bg,bh,av,aw,ax,ay,cC,cE,cF,cG⟩ := Fb3 bk.out aa dP dQ;have bB := ay;have bE := ax;have bG := aw;have bH := av;have cH := bh;have cI := bg;have cJ := bf;have cK := be;have cL := bd;have cM := bc;have cO := bb;have cP := ba;have cQ := a9;have cR := a8;obtain rfl : ac = dR := (by injection dY);replace a8 := mv_ HB.out a8;replace a9 := mv_ HB.out a9;replace ba := mv_ HB.out ba;replace bb := mv_ HB.out bb;replace bc := mv_ HB.out bc;replace bd := mv_ HB.out bd;replace be := mv_ HB.out be;replace bf := mv_ HB.out bf;replace bg := mv_ HB.out bg;replace bh := mv_ HB.out bh;replace av := mv_ HB.out av;replace aw := mv_ HB.out aw;replace ax := mv_ HB.out ax;replace ay := mv_ HB.out ay;have dj := aM cE;have HC03_2 := aM cC;clear cE cC;have dk := aM cG;have HC03_3 := aM cF;clear cG cF;replace dP := eq_true dP;replace dQ := eq_true dQ;refine start_ (n := 27) (S := fun w' => w'.cell? ⟨az,0,none⟩ = some (.slice (some ac) ab.length bj) ∧ w'.cell? (ac.add ((aa).toNat * 14)) = some (.string ((Faa ab aa).f0)) ∧ w'.cell? ⟨(ac.add ((aa).toNat * 14)).block,(ac.add ((aa).toNat * 14)).off + 1,none⟩ = some (.int .i64 ((Faa ab aa).f1)) ∧ w'.cell? ⟨(ac.add ((aa).toNat * 14)).block,(ac.add ((aa).toNat * 14)).off + 2,none⟩ = some (.slice cY ((Faa ab aa).f2).length cZ) ∧ w'.cell? ⟨(ac.add ((aa).toNat * 14)).block,(ac.add ((aa).toNat * 14)).off + 3,none⟩ = some (.slice da ((Faa ab aa).f3).length db) ∧ w'.cell? ⟨(ac.add ((aa).toNat * 14)).block,(ac.add ((aa).toNat * 14)).off + 4,none⟩ = some (.string ((Faa ab aa).f4)) ∧ w'.cell? ⟨(ac.add ((aa).toNat * 14)).block,(ac.add ((aa).toNat * 14)).off + 5,none⟩ = some (.string ((Faa ab aa).f5)) ∧ w'.cell? ⟨(ac.add ((aa).toNat * 14)).block,(ac.add ((aa).toNat * 14)).off + 6,none⟩ = some (.string ((Faa ab aa).f6)) ∧ w'.cell? ⟨(ac.add ((aa).toNat * 14)).block,(ac.add ((aa).toNat * 14)).off + 7,none⟩ = some (.int .i64 ((Faa ab aa).f7.f0)) ∧ w'.cell? ⟨(ac.add ((aa).toNat * 14)).block,(ac.add ((aa).toNat * 14)).off + 8,none⟩ = some (.int .i64 ((Faa ab aa).f7.f1)) ∧ w'.cell? ⟨(ac.add ((aa).toNat * 14)).block,(ac.add ((aa).toNat * 14)).off + 9,none⟩ = some (.int .i64 ((Faa ab aa).f7.f2)) ∧ w'.cell? ⟨(ac.add ((aa).toNat * 14)).block,(ac.add ((aa).toNat * 14)).off + 10,none⟩ = some (.bool ((Faa ab aa).f7.f3)) ∧ w'.cell? ⟨(ac.add ((aa).toNat * 14)).block,(ac.add ((aa).toNat * 14)).off + 11,none⟩ = some (.int .i64 ((Faa ab aa).f8)) ∧ w'.cell? ⟨(ac.add ((aa).toNat * 14)).block,(ac.add ((aa).toNat * 14)).off + 12,none⟩ = some (.string ((Faa ab aa).f9)) ∧ w'.cell? ⟨(ac.add ((aa).toNat * 14)).block,(ac.add ((aa).toNat * 14)).off + 13,none⟩ = some (.string ((Faa ab aa).f10)) ∧ w'.cell? (ac.add (((ad)).toNat * 14)) = some (.string ((Faa ab (ad)).f0)) ∧ w'.cell? ⟨(ac.add (((ad)).toNat * 14)).block,(ac.add (((ad)).toNat * 14)).off + 1,none⟩ = some (.int .i64 ((Faa ab (ad)).f1)) ∧ w'.cell? ⟨(ac.add (((ad)).toNat * 14)).block,(ac.add (((ad)).toNat * 14)).off + 2,none⟩ = some (.slice dr ((Faa ab (ad)).f2).length dt) ∧ w'.cell? ⟨(ac.add (((ad)).toNat * 14)).block,(ac.add (((ad)).toNat * 14)).off + 3,none⟩ = some (.slice du ((Faa ab (ad)).f3).length dv) ∧ w'.cell? ⟨(ac.add (((ad)).toNat * 14)).block,(ac.add (((ad)).toNat * 14)).off + 4,none⟩ = some (.string ((Faa ab (ad)).f4)) ∧ w'.cell? ⟨(ac.add (((ad)).toNat * 14)).block,(ac.add (((ad)).toNat * 14)).off + 5,none⟩ = some (.string ((Faa ab (ad)).f5)) ∧ w'.cell? ⟨(ac.add (((ad)).toNat * 14)).block,(ac.add (((ad)).toNat * 14)).off + 6,none⟩ = some (.string ((Faa ab (ad)).f6)) ∧ w'.cell? ⟨(ac.add (((ad)).toNat * 14)).block,(ac.add (((ad)).toNat * 14)).off + 7,none⟩ = some (.int .i64 ((Faa ab (ad)).f7.f0)) ∧ w'.cell? ⟨(ac.add (((ad)).toNat * 14)).block,(ac.add (((ad)).toNat * 14)).off + 8,none⟩ = some (.int .i64 ((Faa ab (ad)).f7.f1)) ∧ w'.cell? ⟨(ac.add (((ad)).toNat * 14)).block,(ac.add (((ad)).toNat * 14)).off + 9,none⟩ = some (.int .i64 ((Faa ab (ad)).f7.f2)) ∧ w'.cell? ⟨(ac.add (((ad)).toNat * 14)).block,(ac.add (((ad)).toNat * 14)).off + 10,none⟩ = some (.bool ((Faa ab (ad)).f7.f3)) ∧ w'.cell? ⟨(ac.add (((ad)).toNat * 14)).block,(ac.add (((ad)).toNat * 14)).off + 11,none⟩ = some (.int .i64 ((Faa ab (ad)).f8)) ∧ w'.cell? ⟨(ac.add (((ad)).toNat * 14)).block,(ac.add (((ad)).toNat * 14)).off + 12,none⟩ = some (.string ((Faa ab (ad)).f9)) ∧ w'.cell? ⟨(ac.add (((ad)).toNat * 14)).block,(ac.add (((ad)).toNat * 14)).off + 13,none⟩ = some (.string ((Faa ab (ad)).f10)) ∧ w'.cell? (ac.add ((aa).toNat * 14)) = some (.string ((Faa ab aa).f0)) ∧ w'.cell? ⟨(ac.add ((aa).toNat * 14)).block,(ac.add ((aa).toNat * 14)).off + 1,none⟩ = some (.int .i64 ((Faa ab aa).f1)) ∧ w'.cell? ⟨(ac.add ((aa).toNat * 14)).block,(ac.add ((aa).toNat * 14)).off + 2,none⟩ = some (.slice dw ((Faa ab aa).f2).length dx) ∧ w'.cell? ⟨(ac.add ((aa).toNat * 14)).block,(ac.add ((aa).toNat * 14)).off + 3,none⟩ = some (.slice dy ((Faa ab aa).f3).length dz) ∧ w'.cell? ⟨(ac.add ((aa).toNat * 14)).block,(ac.add ((aa).toNat * 14)).off + 4,none⟩ = some (.string ((Faa ab aa).f4)) ∧ w'.cell? ⟨(ac.add ((aa).toNat * 14)).block,(ac.add ((aa).toNat * 14)).off + 5,none⟩ = some (.string ((Faa ab aa).f5)) ∧ w'.cell? ⟨(ac.add ((aa).toNat * 14)).block,(ac.add ((aa).toNat * 14)).off + 6,none⟩ = some (.string ((Faa ab aa).f6)) ∧ w'.cell? ⟨(ac.add ((aa).toNat * 14)).block,(ac.add ((aa).toNat * 14)).off + 7,none⟩ = some (.int .i64 ((Faa ab aa).f7.f0)) ∧ w'.cell? ⟨(ac.add ((aa).toNat * 14)).block,(ac.add ((aa).toNat * 14)).off + 8,none⟩ = some (.int .i64 ((Faa ab aa).f7.f1)) ∧ w'.cell? ⟨(ac.add ((aa).toNat * 14)).block,(ac.add ((aa).toNat * 14)).off + 9,none⟩ = some (.int .i64 ((Faa ab aa).f7.f2)) ∧ w'.cell? ⟨(ac.add ((aa).toNat * 14)).block,(ac.add ((aa).toNat * 14)).off + 10,none⟩ = some (.bool ((Faa ab aa).f7.f3)) ∧ w'.cell? ⟨(ac.add ((aa).toNat * 14)).block,(ac.add ((aa).toNat * 14)).off + 11,none⟩ = some (.int .i64 ((Faa ab aa).f8)) ∧ w'.cell? ⟨(ac.add ((aa).toNat * 14)).block,(ac.add ((aa).toNat * 14)).off + 12,none⟩ = some (.string ((Faa ab aa).f9)) ∧ w'.cell? ⟨(ac.add ((aa).toNat * 14)).block,(ac.add ((aa).toNat * 14)).off + 13,none⟩ = some (.string ((Faa ab aa).f10))) (ds := []) (mk_ 27 0) (by kernel_rfl) rfl (by kernel_rfl) ⟨(bC ae.out 0).trans rfl,mv_ HB.out ch,mv_ HB.out cg,mv_ HB.out cf,mv_ HB.out ce,mv_ HB.out cd,mv_ HB.out cc,mv_ HB.out cb,mv_ HB.out ca,mv_ HB.out b9,mv_ HB.out b8,mv_ HB.out bs,mv_ HB.out br,mv_ HB.out bq,mv_ HB.out bp,mv_ HB.out cz,mv_ HB.out cy,mv_ HB.out cx,mv_ HB.out cw,mv_ HB.out cv,mv_ HB.out cu,mv_ HB.out ct,mv_ HB.out cr,mv_ HB.out cq,mv_ HB.out cp,mv_ HB.out bz,mv_ HB.out bw,mv_ HB.out bv,mv_ HB.out bu,mv_ HB.out cR,mv_ HB.out cQ,mv_ HB.out cP,mv_ HB.out cO,mv_ HB.out cM,mv_ HB.out cL,mv_ HB.out cK,mv_ HB.out cJ,mv_ HB.out cI,mv_ HB.out cH,mv_ HB.out bH,mv_ HB.out bG,mv_ HB.out bE,mv_ HB.out bB⟩ (fun hHeld => ?_);refine with_tabW FaA.tab6 FaA.bits6 (fun HT_ HW_ => ?_);generalize wr.drew = dU at ae HB ci cj dh di dj dk aN aO ak al am an aP aQ aR aT aU aV aW aX aY aZ ao ap ar au a0 a1 a2 a3 a4 a5 a6 a7 a8 a9 av aw ax ay ba bb bc bd be bf bg bh hHeld ⊢;refine pV_ (i := 0) (N := some 15) (mk_ 27 1) rfl rfl HT_.out ?_;refine pV_ (i := 2) (N := some 17) (mk_ 27 5) rfl rfl HT_.out ?_;refine tV_ (i := 1) (N := some 16) (mk_ 27 7) rfl rfl HT_.out HW_.out hHeld ?_;refine pV_ (i := 3) (N := some 18) (mk_ 27 15) rfl rfl HT_.out ?_;refine tV_ (i := 4) (N := some 19) (mk_ 27 31) rfl rfl HT_.out HW_.out hHeld ?_;refine one_ (i := 5) (N := some 20) (mk_ 27 63) rfl rfl (one_of HT_.out (by kernel_rfl)) (by decide) (fun K hK => ?_);refine gs_ Tryz.func60 #[.agg #[.string ((Faa ab aa).f0),.int .i64 ((Faa ab aa).f1),.slice cY ((Faa ab aa).f2).length cZ,.slice da ((Faa ab aa).f3).length db,.string ((Faa ab aa).f4),.string ((Faa ab aa).f5),.string ((Faa ab aa).f6),.int .i64 ((Faa ab aa).f7.f0),.int .i64 ((Faa ab aa).f7.f1),.int .i64 ((Faa ab aa).f7.f2),.bool ((Faa ab aa).f7.f3),.int .i64 ((Faa ab aa).f8),.string ((Faa ab aa).f9),.string ((Faa ab aa).f10)]] ?_;(with_reducible refine (Fav.calls _ _ _ _ _ _ _ _ _ _ _ _ _ _ _ _ _ _ _ _ _ ?side1 ?side2 ?side3 ?side4 A9.out).mono ?_);(case side1 => exact wX_ ci.out);(case side2 => exact de.out);(case side3 => exact wX_ cj.out);(case side4 => exact df.out);rintro e dV ⟨rfl,hb⟩;refine ⟨_,rfl,?_⟩;replace ae := aM (bw_ ae.out hb);replace HB := aM (lT wB_ hb);refine hK.out _ _ ⟨(bC ae.out 0).trans rfl,mv_ HB.out ch,mv_ HB.out cg,mv_ HB.out cf,mv_ HB.out ce,mv_ HB.out cd,mv_ HB.out cc,mv_ HB.out cb,mv_ HB.out ca,mv_ HB.out b9,mv_ HB.out b8,mv_ HB.out bs,mv_ HB.out br,mv_ HB.out bq,mv_ HB.out bp,mv_ HB.out cz,mv_ HB.out cy,mv_ HB.out cx,mv_ HB.out cw,mv_ HB.out cv,mv_ HB.out cu,mv_ HB.out ct,mv_ HB.out cr,mv_ HB.out cq,mv_ HB.out cp,mv_ HB.out bz,mv_ HB.out bw,mv_ HB.out bv,mv_ HB.out bu,mv_ HB.out cR,mv_ HB.out cQ,mv_ HB.out cP,mv_ HB.out cO,mv_ HB.out cM,mv_ HB.out cL,mv_ HB.out cK,mv_ HB.out cJ,mv_ HB.out cI,mv_ HB.out cH,mv_ HB.out bH,mv_ HB.out bG,mv_ HB.out bE,mv_ HB.out bB⟩ (fun hHeld => ?_);clear hK K;refine norm_ (a' := ?_) ?_ ?_;rotate_left;show Act.put _ (some 20) _ = _;simp only [Act.put,lI,sZ,sS,i64_w,i32_w];rfl;refine pV_ (i := 6) (N := some 21) (mk_ 27 127) rfl rfl HT_.out ?_;refine pV_ (i := 7) (N := some 22) (mk_ 27 255) rfl rfl HT_.out ?_;refine pV_ (i := 8) (N := some 23) (mk_ 27 511) rfl rfl HT_.out ?_;refine pV_ (i := 9) (N := some 24) (mk_ 27 1023) rfl rfl HT_.out ?_;refine pV_ (i := 10) (N := some 25) (mk_ 27 2047) rfl rfl HT_.out ?_;refine pV_ (i := 11) (N := some 26) (mk_ 27 4095) rfl rfl HT_.out ?_;refine pV_ (i := 13) (N := some 28) (mk_ 27 12287) rfl rfl HT_.out ?_;refine pV_ (i := 14) (N := some 29) (mk_ 27 28671) rfl rfl HT_.out ?_;refine pV_ (i := 18) (N := some 33) (mk_ 27 290815) rfl rfl HT_.out ?_;refine pV_ (i := 20) (N := some 35) (mk_ 27 1339391) rfl rfl HT_.out ?_;refine tV_ (i := 12) (N := some 27) (mk_ 27 1343487) rfl rfl HT_.out HW_.out hHeld ?_;refine pV_ (i := 15) (N := some 30) (mk_ 27 1376255) rfl rfl HT_.out ?_;refine pV_ (i := 16) (N := some 31) (mk_ 27 1441791) rfl rfl HT_.out ?_;refine tV_ (i := 17) (N := some 32) (mk_ 27 1572863) rfl rfl HT_.out HW_.out hHeld ?_;refine tV_ (i := 19) (N := some 34) (mk_ 27 2097151) rfl rfl HT_.out HW_.out hHeld ?_;refine pV_ (i := 21) (N := some 36) (mk_ 27 4194303) rfl rfl HT_.out ?_;refine pV_ (i := 22) (N := some 37) (mk_ 27 8388607) rfl rfl HT_.out ?_;refine tV_ (i := 23) (N := some 38) (mk_ 27 16777215) rfl rfl HT_.out HW_.out hHeld ?_;refine pV_ (i := 24) (N := some 39) (mk_ 27 33554431) rfl rfl HT_.out ?_;refine pV_ (i := 25) (N := some 40) (mk_ 27 67108863) rfl rfl HT_.out ?_;refine pV_ (i := 26) (N := some 41) (mk_ 27 134217727) rfl rfl HT_.out ?_;refine done_ (done_of HT_.out (by kernel_rfl)) ?_;(try go_wp2)
         first
          |
           go_ret;exact ⟨by first|rfl|(simp [errW_none,errW_some] <;> rfl)|(simp only [← bi];first|rfl|(simp [errW_none,errW_some] <;> rfl))|(simp [*,errW_none,errW_some] <;> rfl),wB_⟩
          |
           go_roundg k1
           case measure => have := dA.out;omega
           case rel => exact ⟨(wrap64 (aa + 1)),vR_,H',⟨by have := dA.out;omega⟩,⟨wC_ ae.out⟩,⟨wB_⟩⟩
def FaS.f : Nat → Int → Option (ByteArray)
 | 0,_ => none
 | k + 1,a0 => if a0 < 0 then ((FaS.f k (wrap64 (-a0))).bind fun aa => (if 1 + aa.size ≤ 9223372036854775807 then (some ((⟨#[45]⟩ : ByteArray) ++ aa)) else (none))) else (if a0 < 10 then (if 0 ≤ a0 then (if a0 ≤ (wrap64 (a0 + 1)) then (if (wrap64 (a0 + 1)) ≤ 10 then (some ((⟨#[48,49,50,51,52,53,54,55,56,57]⟩ : ByteArray).extract (a0 : Int).toNat ((wrap64 (a0 + 1)) : Int).toNat)) else (none)) else (none)) else (none)) else ((FaS.f k (wrap64 (Int.tdiv a0 10))).bind fun ab => (if 0 ≤ (Int.tmod a0 10) then (if (Int.tmod a0 10) ≤ (wrap64 ((Int.tmod a0 10) + 1)) then (if (wrap64 ((Int.tmod a0 10) + 1)) ≤ 10 then (if ab.size + ((⟨#[48,49,50,51,52,53,54,55,56,57]⟩ : ByteArray).extract ((Int.tmod a0 10) : Int).toNat ((wrap64 ((Int.tmod a0 10) + 1)) : Int).toNat).size ≤ 9223372036854775807 then (some (ab ++ ((⟨#[48,49,50,51,52,53,54,55,56,57]⟩ : ByteArray).extract ((Int.tmod a0 10) : Int).toNat ((wrap64 ((Int.tmod a0 10) + 1)) : Int).toNat))) else (none)) else (none)) else (none)) else (none))))
theorem FaS.mono_l : ∀ k,(∀ y0,LeO (FaS.f k y0) (FaS.f (k + 1) y0))
 | 0 => fun _ r h => by simp [FaS.f] at h
 | k + 1 => by
  have ih0 := FaS.mono_l k
  ·intro y0
   unfold FaS.f
   repeat' (first|with_reducible (first|exact ih0 _|exact LeO.refl _|exact LeO.none _|refine LeO.ite ?_ ?_|refine LeO.bind ?_ (fun _ => ?_))|exact LeO.none _|refine LeO.ite ?_ ?_|refine LeO.bind ?_ (fun _ => ?_))
theorem FaS.mono : ∀ a0 k,LeO (FaS.f k a0) (FaS.f (k + 1) a0) := by
 intro a0 k;have ih0 := FaS.mono_l k;exact ih0 a0
def FaS.T5 : Bool × List (List Nat × List Nat) := (true,[([],[]),([0],[0]),([1],[1]),([],[]),([3],[3]),([],[]),([5],[5]),([6],[6]),([4,7],[4,7]),([2,8],[2,8]),([9,2,0,1,2,3,4,5,6,7,8,9],[9])])
def FaS.B5 : List Nat := [0,1,3,0,8,0,32,96,248,511,1023]
theorem FaS.tab5 : rtab .any (opsOf Tryz.f142 5) = FaS.T5 := by kernel_rfl
theorem FaS.bits5 : waitsOk FaS.T5.2 FaS.B5 = true := by kernel_rfl
theorem FaS.calls (k : Nat) : ∀ (a0 : Int) (r : ByteArray) (w : World) (h : FaS.f k a0 = some r),
  Calls Tryz.prog 142 #[.int .i64 a0] w fun e w' => e = .returned (.string r) ∧ Below w.heap.size w w' := by
 induction k using Nat.strongRecOn with
 | _ k ih =>
 intro a0 r w h
 cases k with
 | zero => exact absurd h (by simp [FaS.f])
 | succ k =>
 simp only [FaS.f] at h;have HB := aM (Below.refl w.heap.size w);have H : (if a0 < 0 then ((FaS.f k (wrap64 (-a0))).bind fun ad => (if 1 + ad.size ≤ 9223372036854775807 then (some ((⟨#[45]⟩ : ByteArray) ++ ad)) else (none))) else (if a0 < 10 then (if 0 ≤ a0 then (if a0 ≤ (wrap64 (a0 + 1)) then (if (wrap64 (a0 + 1)) ≤ 10 then (some ((⟨#[48,49,50,51,52,53,54,55,56,57]⟩ : ByteArray).extract (a0 : Int).toNat ((wrap64 (a0 + 1)) : Int).toNat)) else (none)) else (none)) else (none)) else ((FaS.f k (wrap64 (Int.tdiv a0 10))).bind fun ab => (if 0 ≤ (Int.tmod a0 10) then (if (Int.tmod a0 10) ≤ (wrap64 ((Int.tmod a0 10) + 1)) then (if (wrap64 ((Int.tmod a0 10) + 1)) ≤ 10 then (if ab.size + ((⟨#[48,49,50,51,52,53,54,55,56,57]⟩ : ByteArray).extract ((Int.tmod a0 10) : Int).toNat ((wrap64 ((Int.tmod a0 10) + 1)) : Int).toNat).size ≤ 9223372036854775807 then (some (ab ++ ((⟨#[48,49,50,51,52,53,54,55,56,57]⟩ : ByteArray).extract ((Int.tmod a0 10) : Int).toNat ((wrap64 ((Int.tmod a0 10) + 1)) : Int).toNat))) else (none)) else (none)) else (none)) else (none))))) = some r := h;clear h
 by_cases c2 : a0 < 0
 ·rw [if_pos c2] at H;have af := dT c2;clear c2;obtain ⟨ad,A3,H⟩ := bE_ H
  by_cases c4 : 1 + ad.size ≤ 9223372036854775807
  ·rw [if_pos c4] at H;have c4b0 := eq_true c4;have c4b1 := dT c4;(try have c4b2 : (9223372036854775807 < 1 + ad.size) = False := eq_false (Nat.not_lt.2 c4));obtain rfl := oI H;go_enter Tryz.func142,Tryz.ntmps142;go_wp2_with (first|((with_reducible refine gate_callee (f := 142) rfl ?_);refine gl_ (some 7) Tryz.func142 #[.int .i64 (wrap64 (-a0))] ?_;(with_reducible refine (ih k (by omega) (wrap64 (-a0)) ad _ A3.out).mono ?_);rintro e w5 ⟨rfl,hb⟩;refine ⟨_,rfl,?_⟩;replace HB := aM (lT wB_ hb)));go_ret;exact ⟨vR_,wB_⟩
  ·rw [if_neg c4] at H;exact nH_ H
 ·rw [if_neg c2] at H;have af := dF c2;clear c2
  by_cases c6 : a0 < 10
  ·rw [if_pos c6] at H;have ag := dT c6;clear c6
   by_cases c7 : 0 ≤ a0
   ·rw [if_pos c7] at H;have c7b0 := eq_true c7;have c7b1 := dT c7;clear c7
    by_cases c8 : a0 ≤ (wrap64 (a0 + 1))
    ·rw [if_pos c8] at H;have c8b0 := eq_true c8;have c8b1 := dT c8
     by_cases c9 : (wrap64 (a0 + 1)) ≤ 10
     ·rw [if_pos c9] at H;have c9b0 := eq_true c9;have c9b1 := dT c9;obtain rfl := oI H;go_enter Tryz.func142,Tryz.ntmps142;go_wp2;go_ret;exact ⟨vR_,wB_⟩
     ·rw [if_neg c9] at H;exact nH_ H
    ·rw [if_neg c8] at H;exact nH_ H
   ·rw [if_neg c7] at H;exact nH_ H
  ·rw [if_neg c6] at H;have ag := dF c6;clear c6;obtain ⟨ab,ah,H⟩ := bE_ H;obtain ⟨aa,ac⟩ : ∃ j_ : Int,(Int.tmod a0 10) = j_ := ⟨_,rfl⟩;replace H : (if 0 ≤ (aa) then (if (aa) ≤ (wrap64 ((aa) + 1)) then (if (wrap64 ((aa) + 1)) ≤ 10 then (if ab.size + ((⟨#[48,49,50,51,52,53,54,55,56,57]⟩ : ByteArray).extract ((aa) : Int).toNat ((wrap64 ((aa) + 1)) : Int).toNat).size ≤ 9223372036854775807 then (some (ab ++ ((⟨#[48,49,50,51,52,53,54,55,56,57]⟩ : ByteArray).extract ((aa) : Int).toNat ((wrap64 ((aa) + 1)) : Int).toNat))) else (none)) else (none)) else (none)) else (none)) = some r := (by first|(rw [ac] at H;exact H)|(simp only [ac] at H ⊢;exact H));(try rw [ac] at ah)
   by_cases c12 : 0 ≤ (aa)
   ·rw [if_pos c12] at H;have c12b0 := eq_true c12;have c12b1 := dT c12;clear c12
    by_cases c13 : (aa) ≤ (wrap64 ((aa) + 1))
    ·rw [if_pos c13] at H;have c13b0 := eq_true c13;have c13b1 := dT c13
     by_cases ae : (wrap64 ((aa) + 1)) ≤ 10
     ·rw [if_pos ae] at H;have c14b0 := eq_true ae;have c14b1 := dT ae
      by_cases c15 : ab.size + ((⟨#[48,49,50,51,52,53,54,55,56,57]⟩ : ByteArray).extract ((aa) : Int).toNat ((wrap64 ((aa) + 1)) : Int).toNat).size ≤ 9223372036854775807
      ·rw [if_pos c15] at H;have c15b0 := eq_true c15;have c15b1 := dT c15;(try have c15b3 : (9223372036854775807 < ab.size + ((((wrap64 ((aa) + 1)) : Int).toNat - ((aa) : Int).toNat))) = False := eq_false (by have h_ := c15;simp only [ByteArray.size_append,ByteArray.size_extract] at h_;have hs0_ : (⟨#[48,49,50,51,52,53,54,55,56,57]⟩ : ByteArray).size = 10 := rfl;omega));(try have c15b2 : (9223372036854775807 < ab.size + ((⟨#[48,49,50,51,52,53,54,55,56,57]⟩ : ByteArray).extract ((aa) : Int).toNat ((wrap64 ((aa) + 1)) : Int).toNat).size) = False := eq_false (Nat.not_lt.2 c15));obtain rfl := oI H;go_enter Tryz.func142,Tryz.ntmps142;(try go_wp2);replace HB := aM (lD HB.out);refine start_ (n := 11) (S := fun w' => True) (ds := []) (mk_ 11 0) (by kernel_rfl) rfl (by kernel_rfl) trivial (fun hHeld => ?_);refine with_tabW FaS.tab5 FaS.bits5 (fun HT_ HW_ => ?_);generalize w.drew = w16 at HB hHeld ⊢;refine pV_ (i := 0) (N := some 15) (mk_ 11 1) rfl rfl HT_.out ?_;refine pV_ (i := 1) (N := some 16) (mk_ 11 3) rfl rfl HT_.out ?_;refine pV_ (i := 3) (N := some 18) (mk_ 11 11) rfl rfl HT_.out ?_;refine pV_ (i := 4) (N := some 19) (mk_ 11 27) rfl rfl HT_.out ?_;refine pV_ (i := 5) (N := some 20) (mk_ 11 59) rfl rfl HT_.out ?_;refine pV_ (i := 6) (N := some 21) (mk_ 11 123) rfl rfl HT_.out ?_;refine pV_ (i := 7) (N := some 22) (mk_ 11 251) rfl rfl HT_.out ?_;refine pV_ (i := 8) (N := some 23) (mk_ 11 507) rfl rfl HT_.out ?_;refine one_ (i := 2) (N := some 17) (mk_ 11 511) rfl rfl (one_of HT_.out (by kernel_rfl)) (by decide) (fun K hK => ?_);refine gs_ Tryz.func142 #[.int .i64 (wrap64 (Int.tdiv a0 10))] ?_;(with_reducible refine (ih k (by omega) (wrap64 (Int.tdiv a0 10)) ab _ ah.out).mono ?_);rintro e w17 ⟨rfl,hb⟩;refine ⟨_,rfl,?_⟩;replace HB := aM (lT wB_ hb);refine hK.out _ _ trivial (fun hHeld => ?_);clear hK K;refine norm_ (a' := ?_) ?_ ?_;rotate_left;show Act.put _ (some 17) _ = _;simp only [Act.put,lI,sZ,sS,i64_w,i32_w];rfl;refine pV_ (i := 9) (N := some 24) (mk_ 11 1023) rfl rfl HT_.out ?_;refine pV_ (i := 10) (N := some 2) (mk_ 11 2047) rfl rfl HT_.out ?_;refine done_ (done_of HT_.out (by kernel_rfl)) ?_;(try go_wp2);go_ret;exact ⟨by first|rfl|(simp [errW_none,errW_some] <;> rfl)|(simp only [← ac];first|rfl|(simp [errW_none,errW_some] <;> rfl))|(simp [*,errW_none,errW_some] <;> rfl),wB_⟩
      ·rw [if_neg c15] at H;exact nH_ H
     ·rw [if_neg ae] at H;exact nH_ H
    ·rw [if_neg c13] at H;exact nH_ H
   ·rw [if_neg c12] at H;exact nH_ H
def FaI.l0 : Nat → List ByteArray → ByteArray → Int → Option (ByteArray)
 | 0,_,_,_ => none
 | k + 1,x0,x3,x4 => if x4 < (x0.length : Int) then (if x3.toList = ([] : List UInt8) then (if 0 ≤ x4 then (if x3.size + (rdOf ByteArray.empty x0 x4).size ≤ 9223372036854775807 then (FaI.l0 k x0 (x3 ++ (rdOf ByteArray.empty x0 x4)) (wrap64 (x4 + 1))) else (none)) else (none)) else (if 0 ≤ x4 then (if (rdOf ByteArray.empty x0 x4).toList = ([] : List UInt8) then (if x3.size + (rdOf ByteArray.empty x0 x4).size ≤ 9223372036854775807 then (FaI.l0 k x0 (x3 ++ (rdOf ByteArray.empty x0 x4)) (wrap64 (x4 + 1))) else (none)) else (if x3.size + 1 ≤ 9223372036854775807 then (if (x3 ++ (⟨#[32]⟩ : ByteArray)).size + (rdOf ByteArray.empty x0 x4).size ≤ 9223372036854775807 then (FaI.l0 k x0 ((x3 ++ (⟨#[32]⟩ : ByteArray)) ++ (rdOf ByteArray.empty x0 x4)) (wrap64 (x4 + 1))) else (none)) else (none))) else (none))) else (some x3)
def FaI.f (k : Nat) (l0 : List ByteArray) : Option (ByteArray) := FaI.l0 k l0 (⟨#[]⟩ : ByteArray) 0
theorem FaI.mono_l : ∀ k,(∀ y0 y1 y2,LeO (FaI.l0 k y0 y1 y2) (FaI.l0 (k + 1) y0 y1 y2))
 | 0 => fun _ _ _ r h => by simp [FaI.l0] at h
 | k + 1 => by
  have ih0 := FaI.mono_l k
  ·intro y0 y1 y2
   unfold FaI.l0
   repeat' (first|with_reducible (first|exact ih0 _ _ _|exact LeO.refl _|exact LeO.none _|refine LeO.ite ?_ ?_|refine LeO.bind ?_ (fun _ => ?_))|exact LeO.none _|refine LeO.ite ?_ ?_|refine LeO.bind ?_ (fun _ => ?_))
theorem FaI.mono : ∀ a0 k,LeO (FaI.f k a0) (FaI.f (k + 1) a0) := by
 intro a0 k
 have ih0 := FaI.mono_l k
 unfold FaI.f
 repeat' (first|with_reducible (first|exact ih0 _ _ _|exact LeO.refl _|exact LeO.none _|refine LeO.ite ?_ ?_|refine LeO.bind ?_ (fun _ => ?_))|exact LeO.none _|refine LeO.ite ?_ ?_|refine LeO.bind ?_ (fun _ => ?_))
theorem FaI.calls (k : Nat) (A0 : Option Addr) (c0 : Nat) (l0 : List ByteArray) (r : ByteArray) (w : World) (ao : Kd.C Kd.string w A0 l0.length l0) (ap : l0.length ≤ c0) (h : FaI.f k l0 = some r) :
  Calls Tryz.prog 255 #[.slice A0 l0.length c0] w fun e w' => e = .returned (.string r) ∧ Drawn0 w w' := by
 have ar := aM ao;have HC0 := aM ap;clear ao ap;have H : (FaI.l0 k l0 (⟨#[]⟩ : ByteArray) 0) = some r := h;clear h;have H' := aM H;clear H;go_enter Tryz.func255,Tryz.ntmps255;go_wp2;go_loopg [3,4] k (fun kq v3 v4 w' => ∃ (ab : ByteArray) (aa : Int),v3 = .string ab ∧ v4 = .int .i64 aa ∧ Aside0 (FaI.l0 kq l0 ab aa = some r) ∧ Aside0 (kq ≤ k) ∧ Drawn0 w w')
 case atStart => exact ⟨((⟨#[]⟩ : ByteArray)),(0),vR_,vR_,H',⟨Nat.le_refl _⟩,dw_⟩
 case round =>
  clear H';obtain ⟨ab,aa,rfl,rfl,HA,ac,⟨m1,rfl⟩⟩ := hrel
  cases gk with
  | zero => exact absurd HA.out (by simp [FaI.l0])
  | succ k1 =>
   have H := HA.out;clear HA;simp only [FaI.l0] at H
   by_cases c2 : aa < (l0.length : Int)
   focus
    rw [if_pos c2] at H;have ad := dT c2;clear c2
    by_cases c3 : ab.toList = ([] : List UInt8)
    focus
     rw [if_pos c3] at H;have ae := qE.mpr c3;have af := qN.mpr c3;clear c3
     by_cases c4 : 0 ≤ aa
     rotate_left;rw [if_neg c4] at H;exact nH_ H;rw [if_pos c4] at H;have c4b0 := dT c4;clear c4
     by_cases c5 : ab.size + (rdOf ByteArray.empty l0 aa).size ≤ 9223372036854775807
     rotate_left;rw [if_neg c5] at H;exact nH_ H;rw [if_pos c5] at H;have c5b0 := eq_true c5;have c5b1 := dT c5;(try have c5b2 : (9223372036854775807 < ab.size + (rdOf ByteArray.empty l0 aa).size) = False := eq_false (Nat.not_lt.2 c5));have H' := aM H;clear H
    rotate_left
    focus
     rw [if_neg c3] at H;have ae := qF.mpr c3;have af := qB.mpr c3
     by_cases c6 : 0 ≤ aa
     rotate_left;rw [if_neg c6] at H;exact nH_ H;rw [if_pos c6] at H;have c6b0 := dT c6;clear c6
     by_cases c7 : (rdOf ByteArray.empty l0 aa).toList = ([] : List UInt8)
     focus
      rw [if_pos c7] at H;have ag := qE.mpr c7;have ah := qN.mpr c7;clear c7
      by_cases c8 : ab.size + (rdOf ByteArray.empty l0 aa).size ≤ 9223372036854775807
      rotate_left;rw [if_neg c8] at H;exact nH_ H;rw [if_pos c8] at H;have c8b0 := eq_true c8;have c8b1 := dT c8;(try have c8b2 : (9223372036854775807 < ab.size + (rdOf ByteArray.empty l0 aa).size) = False := eq_false (Nat.not_lt.2 c8));have H' := aM H;clear H
     rotate_left
     focus
      rw [if_neg c7] at H;have ag := qF.mpr c7;have ah := qB.mpr c7
      by_cases c9 : ab.size + 1 ≤ 9223372036854775807
      rotate_left;rw [if_neg c9] at H;exact nH_ H;rw [if_pos c9] at H;have c9b0 := eq_true c9;have c9b1 := dT c9;(try have c9b2 : (9223372036854775807 < ab.size + 1) = False := eq_false (Nat.not_lt.2 c9))
      by_cases c10 : (ab ++ (⟨#[32]⟩ : ByteArray)).size + (rdOf ByteArray.empty l0 aa).size ≤ 9223372036854775807
      rotate_left;rw [if_neg c10] at H;exact nH_ H;rw [if_pos c10] at H;have c10b0 := eq_true c10;have c10b1 := dT c10;(try have c10b3 : (9223372036854775807 < ab.size + 1 + (rdOf ByteArray.empty l0 aa).size) = False := eq_false (by have h_ := c10;simp only [ByteArray.size_append,ByteArray.size_extract] at h_;have hs0_ : (⟨#[32]⟩ : ByteArray).size = 1 := rfl;omega));(try have c10b2 : (9223372036854775807 < (ab ++ (⟨#[32]⟩ : ByteArray)).size + (rdOf ByteArray.empty l0 aa).size) = False := eq_false (Nat.not_lt.2 c10));have H' := aM H;clear H
   rotate_left 3
   focus
    rw [if_neg c2] at H;have ad := dF c2;clear c2;obtain rfl := oI H
   all_goals
    (try (have ai : 0 ≤ (aa : Int) := oD (by assumption);have aj : aa < (l0.length : Int) := oD (by assumption);obtain ⟨ak,au,hx01_0⟩ := Kd.at_string ar.out aa ai aj;cases au;replace ai := eq_true ai;replace aj := eq_true aj));(try (have al : 0 ≤ (aa : Int) := oD (by assumption);have am : aa < (l0.length : Int) := oD (by assumption);obtain ⟨an,av,hx02_0⟩ := Kd.at_string ar.out aa al am;obtain rfl : ak = an := (by injection av);replace al := eq_true al;replace am := eq_true am));go_wp2
    first
     |
      go_ret;exact ⟨vR_,dw_⟩
     |
      go_roundg k1
      case measure => have := ac.out;omega
      case rel => first|(exact ⟨(ab ++ (rdOf ByteArray.empty l0 aa)),(wrap64 (aa + 1)),vR_,vR_,H',⟨by have := ac.out;omega⟩,dw_⟩)|(exact ⟨((ab ++ (⟨#[32]⟩ : ByteArray)) ++ (rdOf ByteArray.empty l0 aa)),(wrap64 (aa + 1)),vR_,vR_,H',⟨by have := ac.out;omega⟩,dw_⟩)
def FbH.f (k : Nat) (aa : List ByteArray) (a0_1 : ByteArray) (a0_2 : ByteArray) (a0_3 : ByteArray) : Option (ByteArray) := (FaI.f k aa).bind fun ab => (some ab)
theorem FbH.mono : ∀ a0 a1 a2 a3 k,LeO (FbH.f k a0 a1 a2 a3) (FbH.f (k + 1) a0 a1 a2 a3) := by
 intro a0 a1 a2 a3 k
 unfold FbH.f
 repeat' (first|with_reducible (first|exact FaI.mono _ _|exact LeO.refl _|exact LeO.none _|refine LeO.ite ?_ ?_|refine LeO.bind ?_ (fun _ => ?_))|exact LeO.none _|refine LeO.ite ?_ ?_|refine LeO.bind ?_ (fun _ => ?_))
theorem FbH.calls (k : Nat) (ab : Option Addr) (ac : Nat) (aa : List ByteArray) (af : ByteArray) (ag : ByteArray) (ah : ByteArray) (r : ByteArray) (w : World) (ad : Kd.C Kd.string w ab aa.length aa) (ae : aa.length ≤ ac) (h : FbH.f k aa af ag ah = some r) :
  Calls Tryz.prog 256 #[.agg #[.slice ab aa.length ac,.string af,.string ag,.string ah]] w fun e w' => e = .returned (.string r) ∧ Below w.heap.size w w' := by
 have hu157 := Tryz.underlying157;have aj := aM ad;have ak := aM ae;clear ad ae;have HB := aM (Below.refl w.heap.size w);have H : ((FaI.f k aa).bind fun ai => (some ai)) = some r := h;clear h;obtain ⟨ai,A2,H⟩ := bE_ H;obtain rfl := oI H;go_enter Tryz.func256,Tryz.ntmps256;go_wp2_with (first|((with_reducible refine gate_dst (N := 1) rfl ?_);refine bx_ (N := 1) (cs := #[.slice ab aa.length ac,.string af,.string ag,.string ah]) (t := 157) ?_;intro al hg w3 hbox hb;have am := aM (hbox);have an := aM ((by rw [hg];exact (lZ wB_) : w.heap.size ≤ al));have GE271 := an;replace HB := aM (lT wB_ hb);clear hb hbox hg;obtain ⟨_,_,_,_,_,_,_,_⟩ := z4_ am.out)|((with_reducible refine gate_callee (f := 255) rfl ?_);refine gl_ (some 5) Tryz.func255 #[.slice ab aa.length ac] ?_;(with_reducible refine (FaI.calls k _ _ aa ai _ ?side1 ?side2 A2.out).mono ?_);(case side1 => exact wX_ aj.out);(case side2 => exact ak.out);rintro e w' ⟨rfl,⟨nd,rfl⟩⟩;refine ⟨_,rfl,?_⟩));go_ret;exact ⟨vR_,wB_⟩
def FaG.j0 : Nat → ByteArray → Bool → List ByteArray → ByteArray → ByteArray → ByteArray → Option (ByteArray)
 | 0,_,_,_,_,_,_ => none
 | k + 1,x3,af,ac,ad,ae,aa => if af = true then (if x3.size + 2 ≤ 9223372036854775807 then ((FbH.f k ac ad ae aa).bind fun ab => (if (x3 ++ (⟨#[44,32]⟩ : ByteArray)).size + ab.size ≤ 9223372036854775807 then (if aa.toList = ([] : List UInt8) then (some ((x3 ++ (⟨#[44,32]⟩ : ByteArray)) ++ ab)) else (if ((x3 ++ (⟨#[44,32]⟩ : ByteArray)) ++ ab).size + 2 ≤ 9223372036854775807 then (if (((x3 ++ (⟨#[44,32]⟩ : ByteArray)) ++ ab) ++ (⟨#[44,32]⟩ : ByteArray)).size + aa.size ≤ 9223372036854775807 then (some ((((x3 ++ (⟨#[44,32]⟩ : ByteArray)) ++ ab) ++ (⟨#[44,32]⟩ : ByteArray)) ++ aa)) else (none)) else (none))) else (none))) else (none)) else (if aa.toList = ([] : List UInt8) then (some x3) else (if x3.size + 2 ≤ 9223372036854775807 then (if (x3 ++ (⟨#[44,32]⟩ : ByteArray)).size + aa.size ≤ 9223372036854775807 then (some ((x3 ++ (⟨#[44,32]⟩ : ByteArray)) ++ aa)) else (none)) else (none)))
def FaG.f (k : Nat) (aa : List ByteArray) (ab : ByteArray) (ac : ByteArray) (ad : ByteArray) : Option (ByteArray) := (FaI.f k (([ab,ac] : List ByteArray))).bind fun ae => (if (aa.length : Int) > 0 then (FaG.j0 k ae true aa ab ac ad) else (FaG.j0 k ae (ad.toList != ([] : List UInt8)) aa ab ac ad))
theorem FaG.mono_l : ∀ k,(∀ y0 y1 y2 y3 y4 y5,LeO (FaG.j0 k y0 y1 y2 y3 y4 y5) (FaG.j0 (k + 1) y0 y1 y2 y3 y4 y5))
 | 0 => fun _ _ _ _ _ _ r h => by simp [FaG.j0] at h
 | k + 1 => by
  have ih0 := FaG.mono_l k
  ·intro y0 y1 y2 y3 y4 y5
   unfold FaG.j0
   repeat' (first|with_reducible (first|exact ih0 _ _ _ _ _ _|exact FbH.mono _ _ _ _ _|exact FaI.mono _ _|exact LeO.refl _|exact LeO.none _|refine LeO.ite ?_ ?_|refine LeO.bind ?_ (fun _ => ?_))|exact LeO.none _|refine LeO.ite ?_ ?_|refine LeO.bind ?_ (fun _ => ?_))
theorem FaG.mono : ∀ a0 a1 a2 a3 k,LeO (FaG.f k a0 a1 a2 a3) (FaG.f (k + 1) a0 a1 a2 a3) := by
 intro a0 a1 a2 a3 k
 have ih0 := FaG.mono_l k
 unfold FaG.f
 repeat' (first|with_reducible (first|exact ih0 _ _ _ _ _ _|exact FbH.mono _ _ _ _ _|exact FaI.mono _ _|exact LeO.refl _|exact LeO.none _|refine LeO.ite ?_ ?_|refine LeO.bind ?_ (fun _ => ?_))|exact LeO.none _|refine LeO.ite ?_ ?_|refine LeO.bind ?_ (fun _ => ?_))
theorem FaG.calls (k : Nat) (ar : Option Addr) (au : Nat) (ac : List ByteArray) (ae : ByteArray) (af : ByteArray) (ab : ByteArray) (r : ByteArray) (w : World) (ay : Kd.C Kd.string w ar ac.length ac) (az : ac.length ≤ au) (h : FaG.f k ac ae af ab = some r) :
  Calls Tryz.prog 226 #[.agg #[.slice ar ac.length au,.string ae,.string af,.string ab]] w fun e w' => e = .returned (.string r) ∧ Below w.heap.size w w' := by
 have hu157 := Tryz.underlying157;have aK := aM ay;have aL := aM az;clear ay az;have HB := aM (Below.refl w.heap.size w);have H : ((FaI.f k (([ae,af] : List ByteArray))).bind fun aa => (if (ac.length : Int) > 0 then (FaG.j0 k aa true ac ae af ab) else (FaG.j0 k aa (ab.toList != ([] : List UInt8)) ac ae af ab))) = some r := h;clear h;obtain ⟨aD,av⟩ : ∃ y_ : List ByteArray,y_ = (([ae,af] : List ByteArray)) := ⟨_,rfl⟩;replace H : ((FaI.f k aD).bind fun aa => (if (ac.length : Int) > 0 then (FaG.j0 k aa true ac ae af ab) else (FaG.j0 k aa (ab.toList != ([] : List UInt8)) ac ae af ab))) = some r := (yH_ av H);have aA := aM av;clear av;obtain ⟨aa,A2,H⟩ := bE_ H;have aV := aM H;clear H;go_enter Tryz.func226,Tryz.ntmps226;go_upto_region 2 with (first|((with_reducible refine gate_dst (N := 1) rfl ?_);refine bx_ (N := 1) (cs := #[.slice ar ac.length au,.string ae,.string af,.string ab]) (t := 157) ?_;intro aC hg w4 hbox hb;have ad := aM (hbox);have aN := aM ((by rw [hg];exact (lZ wB_) : w.heap.size ≤ aC));have GE273 := aN;replace HB := aM (lT wB_ hb);clear hb hbox hg;obtain ⟨_,_,_,_,_,_,_,_⟩ := z4_ ad.out)|((with_reducible refine gate_dst (N := 8) rfl ?_);refine Kd.R_lit Kd.string _ 9 ?hg (N := 8) ?hd (xs := ([ae,af] : List ByteArray)) (inner := [.string ae,.string af]) (ok := fun _ => True) (okp := fun _ => True) ?hr ?hp (fun _ hk => hk) trivial (Below.refl _ _) (Nat.le_refl _) (by simp) ?_;(case hd => rfl);(case hg => rfl);(case hr => first|(go_simp;done)|(go_simp;rfl));(case hp => exact (Reps.one (show Kd.M Kd.string _ _ _ ae [.string ae] from rfl) (Reps.one (show Kd.M Kd.string _ _ _ af [.string af] from rfl) (Reps.none _ _))));intro v275 w6 aO hb hg_ hnew_;clear hg_ hnew_;(first|rw [← aA.out] at aO|(simp only [Int.reduceToNat] at aO;rw [← aA.out] at aO));have aw := aM (Kd.R_lower aO (lZ wB_));replace ad := aM (bw_ ad.out hb);replace HB := aM (lT wB_ hb);clear hb aO;obtain ⟨aX,aY,aZ⟩ := Kd.R_slice aw.out;subst aZ)|((with_reducible refine gate_callee (f := 255) rfl ?_);refine gl_ (some 9) Tryz.func255 #[.slice aX aD.length aY] ?_;(with_reducible refine (FaI.calls k _ _ aD aa _ ?side1 ?side2 A2.out).mono ?_);(case side1 => exact wY_ (rR aw.out).2.2);(case side2 => exact (rR aw.out).2.1);rintro e w' ⟨rfl,⟨nd,rfl⟩⟩;refine ⟨_,rfl,?_⟩));(try simp only [Act.put,lI,sZ,sS]);go_cut [18] (fun a0 wc => ∃ (kq : Nat) (ah : Bool),a0 = .bool ah ∧ Aside0 (FaG.j0 kq aa ah ac ae af ab = some r) ∧ Aside0 (kq ≤ k) ∧ Aside0 (wc.heap[aC]? = some (.cells #[(.slice ar ac.length au),.string ae,.string af,.string ab] 157 (0,0))) ∧ Aside0 (Below w.heap.size w wc))
 case first =>
  have H := aV.out;clear aV
  by_cases c9 : (ac.length : Int) > 0
  focus
   rw [if_pos c9] at H;have ax : decide (0 < (ac.length : Int)) = true := dT c9;have aW : decide (0 < ac.length) = true := dT (by omega);clear c9;(first|rw [ax]|(simp only [i64_w,i32_w];rw [ax])|skip);have H' := aM H;clear H
  rotate_left
  focus
   rw [if_neg c9] at H;have ax : decide (0 < (ac.length : Int)) = false := dF c9;have aW : decide (0 < ac.length) = false := dF (by omega);clear c9;(first|rw [ax]|(simp only [i64_w,i32_w];rw [ax])|skip);have H' := aM H;clear H
  all_goals
   obtain ⟨ai,aj,ak,al,am,an,ao,ap⟩ := z4_ ad.out;go_wp2;go_meet
   case rel => first|(exact ⟨_,(true),vR_,H',⟨by first|omega|exact Nat.le_refl _⟩,⟨wC_ ad.out⟩,⟨wB_⟩⟩)|(exact ⟨_,((ab.toList != ([] : List UInt8))),vR_,H',⟨by first|omega|exact Nat.le_refl _⟩,⟨wC_ ad.out⟩,⟨wB_⟩⟩)
 case rest =>
  clear aV;obtain ⟨kq,ah,rfl,HA,HJ2,ad,HB⟩ := hcut
  cases kq with
  | zero => exact absurd HA.out (by simp [FaG.j0])
  | succ kj2 =>
   have H := HA.out;clear HA;simp only [FaG.j0] at H
   by_cases c12 : ah = true
   focus
    subst c12;rw [if_pos rfl] at H
    by_cases c13 : aa.size + 2 ≤ 9223372036854775807
    rotate_left;rw [if_neg c13] at H;exact nH_ H;rw [if_pos c13] at H;have c13b0 := eq_true c13;have c13b1 := dT c13;(try have c13b2 : (9223372036854775807 < aa.size + 2) = False := eq_false (Nat.not_lt.2 c13));obtain ⟨ag,a1,H⟩ := bE_ H
    by_cases c15 : (aa ++ (⟨#[44,32]⟩ : ByteArray)).size + ag.size ≤ 9223372036854775807
    rotate_left;rw [if_neg c15] at H;exact nH_ H;rw [if_pos c15] at H;have c15b0 := eq_true c15;have c15b1 := dT c15;(try have c15b3 : (9223372036854775807 < aa.size + 2 + ag.size) = False := eq_false (by have h_ := c15;simp only [ByteArray.size_append,ByteArray.size_extract] at h_;have hs0_ : (⟨#[44,32]⟩ : ByteArray).size = 2 := rfl;omega));(try have c15b2 : (9223372036854775807 < (aa ++ (⟨#[44,32]⟩ : ByteArray)).size + ag.size) = False := eq_false (Nat.not_lt.2 c15))
    by_cases aE : ab.toList = ([] : List UInt8)
    focus
     rw [if_pos aE] at H;have aP := qE.mpr aE;have aQ := qN.mpr aE;clear aE;obtain rfl := oI H
    rotate_left
    focus
     rw [if_neg aE] at H;have aP := qF.mpr aE;have aQ := qB.mpr aE
     by_cases aG : ((aa ++ (⟨#[44,32]⟩ : ByteArray)) ++ ag).size + 2 ≤ 9223372036854775807
     rotate_left;rw [if_neg aG] at H;exact nH_ H;rw [if_pos aG] at H;have c20b0 := eq_true aG;have c20b1 := dT aG;(try have c20b3 : (9223372036854775807 < aa.size + 2 + ag.size + 2) = False := eq_false (by have h_ := aG;simp only [ByteArray.size_append,ByteArray.size_extract] at h_;have hs0_ : (⟨#[44,32]⟩ : ByteArray).size = 2 := rfl;omega));(try have c20b2 : (9223372036854775807 < ((aa ++ (⟨#[44,32]⟩ : ByteArray)) ++ ag).size + 2) = False := eq_false (Nat.not_lt.2 aG))
     by_cases aH : (((aa ++ (⟨#[44,32]⟩ : ByteArray)) ++ ag) ++ (⟨#[44,32]⟩ : ByteArray)).size + ab.size ≤ 9223372036854775807
     rotate_left;rw [if_neg aH] at H;exact nH_ H;rw [if_pos aH] at H;have c21b0 := eq_true aH;have c21b1 := dT aH;(try have c21b3 : (9223372036854775807 < aa.size + 2 + ag.size + 2 + ab.size) = False := eq_false (by have h_ := aH;simp only [ByteArray.size_append,ByteArray.size_extract] at h_;have hs0_ : (⟨#[44,32]⟩ : ByteArray).size = 2 := rfl;omega));(try have c21b2 : (9223372036854775807 < (((aa ++ (⟨#[44,32]⟩ : ByteArray)) ++ ag) ++ (⟨#[44,32]⟩ : ByteArray)).size + ab.size) = False := eq_false (Nat.not_lt.2 aH));obtain rfl := oI H
   rotate_left 2
   focus
    replace c12 := qO.mpr c12;subst c12;rw [if_neg qT] at H
    by_cases aF : ab.toList = ([] : List UInt8)
    focus
     rw [if_pos aF] at H;have aR := qE.mpr aF;have aT := qN.mpr aF;clear aF;obtain rfl := oI H
    rotate_left
    focus
     rw [if_neg aF] at H;have aR := qF.mpr aF;have aT := qB.mpr aF
     by_cases aU : aa.size + 2 ≤ 9223372036854775807
     rotate_left;rw [if_neg aU] at H;exact nH_ H;rw [if_pos aU] at H;have c27b0 := eq_true aU;have c27b1 := dT aU;(try have c27b2 : (9223372036854775807 < aa.size + 2) = False := eq_false (Nat.not_lt.2 aU))
     by_cases aJ : (aa ++ (⟨#[44,32]⟩ : ByteArray)).size + ab.size ≤ 9223372036854775807
     rotate_left;rw [if_neg aJ] at H;exact nH_ H;rw [if_pos aJ] at H;have c28b0 := eq_true aJ;have c28b1 := dT aJ;(try have c28b3 : (9223372036854775807 < aa.size + 2 + ab.size) = False := eq_false (by have h_ := aJ;simp only [ByteArray.size_append,ByteArray.size_extract] at h_;have hs0_ : (⟨#[44,32]⟩ : ByteArray).size = 2 := rfl;omega));(try have c28b2 : (9223372036854775807 < (aa ++ (⟨#[44,32]⟩ : ByteArray)).size + ab.size) = False := eq_false (Nat.not_lt.2 aJ));obtain rfl := oI H
   all_goals
    obtain ⟨ai,aj,ak,al,am,an,ao,ap⟩ := z4_ ad.out;go_wp2_with (first|((with_reducible refine gate_callee (f := 256) rfl ?_);refine gl_ (some 22) Tryz.func256 #[.agg #[.slice ar ac.length au,.string ae,.string af,.string ab]] ?_;(with_reducible refine (FbH.calls _ _ _ _ _ _ _ _ _ ?side1 ?side2 a1.out).mono ?_);(case side1 => exact wX_ aK.out);(case side2 => exact aL.out);rintro e WA14 ⟨rfl,hb⟩;refine ⟨_,rfl,?_⟩;replace ad := aM (bw_ ad.out hb);replace HB := aM (lT wB_ hb);obtain ⟨_,_,_,_,_,_,_,_⟩ := z4_ ad.out));go_ret;exact ⟨vR_,wB_⟩
end Go.Proofs.YtmafmhgmdegplaaGreatDoor.P
