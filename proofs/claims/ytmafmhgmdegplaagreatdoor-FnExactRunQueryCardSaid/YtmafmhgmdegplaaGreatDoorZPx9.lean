/- Walks: each Go function computes the Lean function beside it; conditions: those of each theorem. -/
import Derived.Test.YtmafmhgmdegplaaGreatDoorZPx0
import Derived.Test.YtmafmhgmdegplaaGreatDoorZPx8
import Derived.Test.YtmafmhgmdegplaaGreatDoorZPx4
namespace Go.Proofs.YtmafmhgmdegplaaGreatDoor.P
open Go.RowKit Go.Proofs.YtmafmhgmdegplaaGreatDoorW.PrintWords Go.Proofs.YtmafmhgmdegplaaGreatDoorW.PrintLast Go.Proofs.YtmafmhgmdegplaaGreatDoorW.PrintMore
attribute [local go_sem] max2_int min2_int max_two min_two max_three min_three max_four min_four   -- for this text's walks alone
set_option linter.unusedVariables false
set_option linter.unusedSimpArgs false
set_option maxHeartbeats 8000000
set_option maxRecDepth 100000
def Faf.f : Nat → Int → ByteArray → ByteArray → List (S36) → ByteArray → Int → List (S157) → List (S157) → ByteArray → ByteArray → ByteArray → Int → Int → Int → Bool → Int → ByteArray → ByteArray → Option (Bool)
 | 0,_,_,_,_,_,_,_,_,_,_,_,_,_,_,_,_,_,_ => none
 | k + 1,ap,ar,au,aa,af,ag,ah,ai,aj,ak,al,am,an,ao,ab,ac,ad,ae => if ap = 1 then ((Fax.f k af ag ah ai aj ak al am an ao ab ac ad ae ar).bind fun av => ((Fbi.f k av au).bind fun aw => (some aw))) else (if ap = 2 then (if 0 < (aa.length : Int) then ((Faf.f k ((Fab aa 0).f0) ((Fab aa 0).f1) ((Fab aa 0).f2) ((Fab aa 0).f3) af ag ah ai aj ak al am an ao ab ac ad ae).bind fun ax => (some (!ax))) else (none)) else (if ap = 3 then (if 0 < (aa.length : Int) then ((Faf.f k ((Fab aa 0).f0) ((Fab aa 0).f1) ((Fab aa 0).f2) ((Fab aa 0).f3) af ag ah ai aj ak al am an ao ab ac ad ae).bind fun ay => (if ay = true then (if 1 < (aa.length : Int) then ((Faf.f k ((Fab aa 1).f0) ((Fab aa 1).f1) ((Fab aa 1).f2) ((Fab aa 1).f3) af ag ah ai aj ak al am an ao ab ac ad ae).bind fun az => (some az)) else (none)) else (some false))) else (none)) else (if 0 < (aa.length : Int) then ((Faf.f k ((Fab aa 0).f0) ((Fab aa 0).f1) ((Fab aa 0).f2) ((Fab aa 0).f3) af ag ah ai aj ak al am an ao ab ac ad ae).bind fun aA => (if aA = true then (some true) else (if 1 < (aa.length : Int) then ((Faf.f k ((Fab aa 1).f0) ((Fab aa 1).f1) ((Fab aa 1).f2) ((Fab aa 1).f3) af ag ah ai aj ak al am an ao ab ac ad ae).bind fun aC => (some aC)) else (none)))) else (none))))
theorem Faf.mono_l : ∀ k,(∀ y0 y1 y2 y3 y4 y5 y6 y7 y8 y9 aa ab ac ad ae af ag ah,LeO (Faf.f k y0 y1 y2 y3 y4 y5 y6 y7 y8 y9 aa ab ac ad ae af ag ah) (Faf.f (k + 1) y0 y1 y2 y3 y4 y5 y6 y7 y8 y9 aa ab ac ad ae af ag ah))
 | 0 => fun _ _ _ _ _ _ _ _ _ _ _ _ _ _ _ _ _ _ r h => by simp [Faf.f] at h
 | k + 1 => by
  have ih0 := Faf.mono_l k
  ·intro y0 y1 y2 y3 y4 y5 y6 y7 y8 y9 aa ab ac ad ae af ag ah
   unfold Faf.f
   repeat' (first|with_reducible (first|exact ih0 _ _ _ _ _ _ _ _ _ _ _ _ _ _ _ _ _ _|exact Fbi.mono _ _ _|exact Fax.mono _ _ _ _ _ _ _ _ _ _ _ _ _ _ _ _|exact LeO.refl _|exact LeO.none _|refine LeO.ite ?_ ?_|refine LeO.bind ?_ (fun _ => ?_))|exact LeO.none _|refine LeO.ite ?_ ?_|refine LeO.bind ?_ (fun _ => ?_))
theorem Faf.mono : ∀ a0 a1 a2 a3 a4 a5 a6 a7 a8 a9 aa ab ac ad ae af ag ah k,LeO (Faf.f k a0 a1 a2 a3 a4 a5 a6 a7 a8 a9 aa ab ac ad ae af ag ah) (Faf.f (k + 1) a0 a1 a2 a3 a4 a5 a6 a7 a8 a9 aa ab ac ad ae af ag ah) := by
 intro a0 a1 a2 a3 a4 a5 a6 a7 a8 a9 aa ab ac ad ae af ag ah k;have ih0 := Faf.mono_l k;exact ih0 a0 a1 a2 a3 a4 a5 a6 a7 a8 a9 aa ab ac ad ae af ag ah
def Faf.T3 : Bool × List (List Nat × List Nat) := (true,[([],[]),([],[]),([1],[1]),([0,2],[0,2]),([],[]),([4],[4]),([3,5,3],[3,5]),([6,6,0,1,2,3,4,5,6],[6])])
def Faf.B3 : List Nat := [0,0,2,7,0,16,63,127]
theorem Faf.tab3 : rtab .any (opsOf Tryz.f61 3) = Faf.T3 := by kernel_rfl
theorem Faf.bits3 : waitsOk Faf.T3.2 Faf.B3 = true := by kernel_rfl
def Faf.T5 : Bool × List (List Nat × List Nat) := (true,[([],[]),([0],[0]),([1],[1]),([2],[2]),([],[]),([3,4],[3,4]),([5],[5]),([6,5,0,1,2,3,4,5,6],[6])])
def Faf.B5 : List Nat := [0,1,3,7,0,31,63,127]
theorem Faf.tab5 : rtab .any (opsOf Tryz.f61 5) = Faf.T5 := by kernel_rfl
theorem Faf.bits5 : waitsOk Faf.T5.2 Faf.B5 = true := by kernel_rfl
def Faf.T7 : Bool × List (List Nat × List Nat) := (true,[([],[]),([0],[0]),([1],[1]),([2],[2]),([],[]),([3,4],[3,4]),([5,5],[5]),([6],[6]),([7,6],[6,7]),([8,6],[6,8]),([9,6],[6,9]),([6],[6]),([10,11,6,6],[6,10,11]),([6,12],[6,12]),([13,12,0,1,2,3,4,5,6,7,8,9,10,11,12,13],[13])])
def Faf.B7 : List Nat := [0,1,3,7,0,31,63,127,255,511,1023,127,4095,8191,16383]
theorem Faf.tab7 : rtab .any (opsOf Tryz.f61 7) = Faf.T7 := by kernel_rfl
theorem Faf.bits7 : waitsOk Faf.T7.2 Faf.B7 = true := by kernel_rfl
def Faf.T8 : Bool × List (List Nat × List Nat) := (true,[([],[]),([0],[0]),([1],[1]),([2],[2]),([],[]),([3,4],[3,4]),([5,5],[5]),([6],[6]),([7,6],[6,7]),([8,6],[6,8]),([9,6],[6,9]),([6],[6]),([10,11,6,6],[6,10,11]),([6,12],[6,12]),([13,12,0,1,2,3,4,5,6,7,8,9,10,11,12,13],[13])])
def Faf.B8 : List Nat := [0,1,3,7,0,31,63,127,255,511,1023,127,4095,8191,16383]
theorem Faf.tab8 : rtab .any (opsOf Tryz.f61 8) = Faf.T8 := by kernel_rfl
theorem Faf.bits8 : waitsOk Faf.T8.2 Faf.B8 = true := by kernel_rfl
theorem Faf.calls (k : Nat) : ∀ (aZ : Int) (a7 : ByteArray) (a8 : ByteArray) (bi : Option Addr) (bc : Nat) (aa : List (S36)) (ar : ByteArray) (au : Int) (aV : Option Addr) (aW : Nat) (ao : List (S157)) (aX : Option Addr) (aY : Nat) (ap : List (S157)) (av : ByteArray) (aw : ByteArray) (ax : ByteArray) (ay : Int) (az : Int) (aA : Int) (aj : Bool) (ak : Int) (al : ByteArray) (am : ByteArray) (r : Bool) (w : World) (bj : Kd.C k36 w bi aa.length aa) (bk : aa.length ≤ bc) (bl : Kd.C k157 w aV ao.length ao) (bm : ao.length ≤ aW) (bn : Kd.C k157 w aX ap.length ap) (bo : ap.length ≤ aY) (h : Faf.f k aZ a7 a8 aa ar au ao ap av aw ax ay az aA aj ak al am = some r),
  Calls Tryz.prog 61 #[.agg #[.int .i64 aZ,.string a7,.string a8,.slice bi aa.length bc],.agg #[.string ar,.int .i64 au,.slice aV ao.length aW,.slice aX ap.length aY,.string av,.string aw,.string ax,.int .i64 ay,.int .i64 az,.int .i64 aA,.bool aj,.int .i64 ak,.string al,.string am]] w fun e w' => e = .returned (.bool r) ∧ Below w.heap.size w w' := by
 induction k using Nat.strongRecOn with
 | _ k ih =>
 intro aZ a7 a8 bi bc aa ar au aV aW ao aX aY ap av aw ax ay az aA aj ak al am r w bj bk bl bm bn bo h
 cases k with
 | zero => exact absurd h (by simp [Faf.f])
 | succ k =>
 simp only [Faf.f] at h;have hu36 := Tryz.underlying36;have hu41 := Tryz.underlying41;have bp := aM bj;have HC0_3 := aM bk;clear bj bk;have a3 := aM bl;have a4 := aM bm;clear bl bm;have a5 := aM bn;have a6 := aM bo;clear bn bo;have HB := aM (Below.refl w.heap.size w);have H : (if aZ = 1 then ((Fax.f k ar au ao ap av aw ax ay az aA aj ak al am a7).bind fun bu => ((Fbi.f k bu a8).bind fun bL => (some bL))) else (if aZ = 2 then (if 0 < (aa.length : Int) then ((Faf.f k ((Fab aa 0).f0) ((Fab aa 0).f1) ((Fab aa 0).f2) ((Fab aa 0).f3) ar au ao ap av aw ax ay az aA aj ak al am).bind fun bv => (some (!bv))) else (none)) else (if aZ = 3 then (if 0 < (aa.length : Int) then ((Faf.f k ((Fab aa 0).f0) ((Fab aa 0).f1) ((Fab aa 0).f2) ((Fab aa 0).f3) ar au ao ap av aw ax ay az aA aj ak al am).bind fun bw => (if bw = true then (if 1 < (aa.length : Int) then ((Faf.f k ((Fab aa 1).f0) ((Fab aa 1).f1) ((Fab aa 1).f2) ((Fab aa 1).f3) ar au ao ap av aw ax ay az aA aj ak al am).bind fun bz => (some bz)) else (none)) else (some false))) else (none)) else (if 0 < (aa.length : Int) then ((Faf.f k ((Fab aa 0).f0) ((Fab aa 0).f1) ((Fab aa 0).f2) ((Fab aa 0).f3) ar au ao ap av aw ax ay az aA aj ak al am).bind fun bB => (if bB = true then (some true) else (if 1 < (aa.length : Int) then ((Faf.f k ((Fab aa 1).f0) ((Fab aa 1).f1) ((Fab aa 1).f2) ((Fab aa 1).f3) ar au ao ap av aw ax ay az aA aj ak al am).bind fun bE => (some bE)) else (none)))) else (none))))) = some r := h;clear h
 by_cases c3 : aZ = 1
 focus
  rw [if_pos c3] at H;have b6 := qE.mpr c3;have b7 := qN.mpr c3;clear c3;obtain ⟨bu,A4,H⟩ := bE_ H;obtain ⟨bL,A5,H⟩ := bE_ H;obtain rfl := oI H
 rotate_left
 focus
  rw [if_neg c3] at H;have b6 := qF.mpr c3;have b7 := qB.mpr c3
  by_cases bG : aZ = 2
  focus
   rw [if_pos bG] at H;have bM := qE.mpr bG;have bO := qN.mpr bG;clear bG
   by_cases bX : 0 < (aa.length : Int)
   rotate_left;rw [if_neg bX] at H;exact nH_ H;rw [if_pos bX] at H;have c14b0 := dT bX;have c14b1 : decide (0 < aa.length) = true := dT (by omega);clear bX;obtain ⟨bv,cg,H⟩ := bE_ H;obtain rfl := oI H
  rotate_left
  focus
   rw [if_neg bG] at H;have bM := qF.mpr bG;have bO := qB.mpr bG
   by_cases bH : aZ = 3
   focus
    rw [if_pos bH] at H;have bP := qE.mpr bH;have bQ := qN.mpr bH;clear bH
    by_cases bY : 0 < (aa.length : Int)
    rotate_left;rw [if_neg bY] at H;exact nH_ H;rw [if_pos bY] at H;have c23b0 := dT bY;have c23b1 : decide (0 < aa.length) = true := dT (by omega);clear bY;obtain ⟨bw,cc,H⟩ := bE_ H
    by_cases bZ : bw = true
    focus
     subst bZ;rw [if_pos rfl] at H
     by_cases b2 : 1 < (aa.length : Int)
     rotate_left;rw [if_neg b2] at H;exact nH_ H;rw [if_pos b2] at H;have c26b0 := dT b2;have c26b1 : decide (1 < aa.length) = true := dT (by omega);clear b2;obtain ⟨bz,ch,H⟩ := bE_ H;obtain rfl := oI H
    rotate_left
    focus
     replace bZ := qO.mpr bZ;subst bZ;rw [if_neg qT] at H;obtain rfl := oI H
   rotate_left 2
   focus
    rw [if_neg bH] at H;have bP := qF.mpr bH;have bQ := qB.mpr bH
    by_cases b3 : 0 < (aa.length : Int)
    rotate_left;rw [if_neg b3] at H;exact nH_ H;rw [if_pos b3] at H;have c41b0 := dT b3;have c41b1 : decide (0 < aa.length) = true := dT (by omega);clear b3;obtain ⟨bB,cd,H⟩ := bE_ H
    by_cases b4 : bB = true
    focus
     subst b4;rw [if_pos rfl] at H;obtain rfl := oI H
    rotate_left
    focus
     replace b4 := qO.mpr b4;subst b4;rw [if_neg qT] at H
     by_cases b5 : 1 < (aa.length : Int)
     rotate_left;rw [if_neg b5] at H;exact nH_ H;rw [if_pos b5] at H;have c50b0 := dT b5;have c50b1 : decide (1 < aa.length) = true := dT (by omega);clear b5;obtain ⟨bE,ci,H⟩ := bE_ H;obtain rfl := oI H
 all_goals
  go_enter Tryz.func61,Tryz.ntmps61;(try go_wp2_with (first|((with_reducible refine gate_dst (N := 2) rfl ?_);refine bx_ (N := 2) (cs := #[.int .i64 aZ,.string a7,.string a8,.slice bi aa.length bc]) (t := 36) ?_;intro an hg Wgb237 hbox hb;have ac := aM (hbox);have bR := aM ((by rw [hg];exact (lZ wB_) : w.heap.size ≤ an));have GE237 := bR;replace HB := aM (lT wB_ hb);clear hb hbox hg)|((with_reducible refine gate_dst (N := 3) rfl ?_);refine bx_ (N := 3) (cs := #[.string ar,.int .i64 au,.slice aV ao.length aW,.slice aX ap.length aY,.string av,.string aw,.string ax,.int .i64 ay,.int .i64 az,.int .i64 aA,.bool aj,.int .i64 ak,.string al,.string am]) (t := 41) ?_;intro ab hg a2 hbox hb;have ad := aM (hbox);have bS := aM ((by rw [hg];exact (lZ wB_) : w.heap.size ≤ ab));have GE238 := bS;have bg := aM (nl_ hg ac.out);have bh := aM (ng_ hg ac.out);replace ac := aM (bw_ ac.out hb);replace HB := aM (lT wB_ hb);clear hb hbox hg;have hnby237_238 := bg.out;have hncy238_237 := bh.out;obtain ⟨_,_,_,_,_,_,_,_⟩ := z4_ ac.out)));replace ac := aM (bD ac.out);replace ad := aM (bD ad.out);replace HB := aM (lD HB.out)
  first
   |
    refine start_ (n := 8) (S := fun w' => w'.cell? ⟨ab,0,none⟩ = some (.string ar) ∧ w'.cell? ⟨ab,1,none⟩ = some (.int .i64 au) ∧ w'.cell? ⟨ab,2,none⟩ = some (.slice aV ao.length aW) ∧ w'.cell? ⟨ab,3,none⟩ = some (.slice aX ap.length aY) ∧ w'.cell? ⟨ab,4,none⟩ = some (.string av) ∧ w'.cell? ⟨ab,5,none⟩ = some (.string aw) ∧ w'.cell? ⟨ab,6,none⟩ = some (.string ax) ∧ w'.cell? ⟨ab,7,none⟩ = some (.int .i64 ay) ∧ w'.cell? ⟨ab,8,none⟩ = some (.int .i64 az) ∧ w'.cell? ⟨ab,9,none⟩ = some (.int .i64 aA) ∧ w'.cell? ⟨ab,10,none⟩ = some (.bool aj) ∧ w'.cell? ⟨ab,11,none⟩ = some (.int .i64 ak) ∧ w'.cell? ⟨ab,12,none⟩ = some (.string al) ∧ w'.cell? ⟨ab,13,none⟩ = some (.string am) ∧ w'.cell? ⟨an,0,none⟩ = some (.int .i64 aZ) ∧ w'.cell? ⟨an,1,none⟩ = some (.string a7) ∧ w'.cell? ⟨an,2,none⟩ = some (.string a8) ∧ w'.cell? ⟨an,3,none⟩ = some (.slice bi aa.length bc)) (ds := []) (mk_ 8 0) (by kernel_rfl) rfl (by kernel_rfl) (ze14_ ad.out (zf4_ ac.out)) (fun hHeld => ?_);refine with_tabW Faf.tab3 Faf.bits3 (fun HT_ HW_ => ?_);generalize a2.drew = bT at ac ad HB hHeld ⊢;refine pV_ (i := 1) (N := some 10) (mk_ 8 2) rfl rfl HT_.out ?_;refine pV_ (i := 4) (N := some 13) (mk_ 8 18) rfl rfl HT_.out ?_;refine tV_ (i := 0) (N := some 9) (mk_ 8 19) rfl rfl HT_.out HW_.out hHeld ?_;refine tV_ (i := 2) (N := some 11) (mk_ 8 23) rfl rfl HT_.out HW_.out hHeld ?_;refine tV_ (i := 5) (N := some 14) (mk_ 8 55) rfl rfl HT_.out HW_.out hHeld ?_;refine one_ (i := 3) (N := some 12) (mk_ 8 63) rfl rfl (one_of HT_.out (by kernel_rfl)) (by decide) (fun K hK => ?_);refine gs_ Tryz.func90 #[.agg #[.string ar,.int .i64 au,.slice aV ao.length aW,.slice aX ap.length aY,.string av,.string aw,.string ax,.int .i64 ay,.int .i64 az,.int .i64 aA,.bool aj,.int .i64 ak,.string al,.string am],.string a7] ?_;(with_reducible refine (Fax.calls _ _ _ _ _ _ _ _ _ _ _ _ _ _ _ _ _ _ _ _ _ _ ?side1 ?side2 ?side3 ?side4 A4.out).mono ?_);(case side1 => exact wX_ a3.out);(case side2 => exact a4.out);(case side3 => exact wX_ a5.out);(case side4 => exact a6.out);rintro e bU ⟨v240,rfl,cj,hb⟩;refine ⟨_,rfl,?_⟩;have bq := aM (Kd.R_lower cj (lZ wB_));replace ac := aM (bw_ ac.out hb);replace ad := aM (bw_ ad.out hb);replace HB := aM (lT wB_ hb);obtain ⟨b8,b9,bV⟩ := Kd.R_slice bq.out;(first|subst bV|(injection bV with ce ck cf;have cm := ce.symm;have cn := cf.symm;clear ce ck cf;subst cm;subst cn));refine hK.out _ _ (ze14_ ad.out (zf4_ ac.out)) (fun hHeld => ?_);clear hK K;refine norm_ (a' := ?_) ?_ ?_;rotate_left;show Act.put _ (some 12) _ = _;simp only [Act.put,lI,sZ,sS,i64_w,i32_w];rfl;refine one_ (i := 6) (N := some 15) (mk_ 8 127) rfl rfl (one_of HT_.out (by kernel_rfl)) (by decide) (fun K hK => ?_);refine gs_ Tryz.func92 #[.slice b8 bu.length b9,.string a8] ?_;(with_reducible refine (Fbi.calls _ _ _ _ _ _ _ ?side1 ?side2 A5.out).mono ?_);(case side1 => exact wY_ (rR bq.out).2.2);(case side2 => exact (rR bq.out).2.1);rintro e w' ⟨rfl,⟨nd,rfl⟩⟩;refine ⟨_,rfl,?_⟩;refine hK.out _ _ (ze14_ ad.out (zf4_ ac.out)) (fun hHeld => ?_);clear hK K;refine norm_ (a' := ?_) ?_ ?_;rotate_left;show Act.put _ (some 15) _ = _;simp only [Act.put,lI,sZ,sS,i64_w,i32_w];rfl;refine pV_ (i := 7) (N := some 4) (mk_ 8 255) rfl rfl HT_.out ?_;refine done_ (done_of HT_.out (by kernel_rfl)) ?_;(try go_wp2);go_ret;exact ⟨vR_,wB_⟩
   |
    have br : 0 ≤ (0 : Int) := (by omega);have bs : 0 < (aa.length : Int) := oD (by assumption);obtain ⟨ae,a0,a1,ca,af,ag,ah,ai,aR,aT⟩ := Fcr bp.out 0 br bs;have aC := ai;(try rw [show ((0 : Int)).toNat = 0 from rfl] at aC);(try rw [show 0 * 4 = 0 from rfl] at aC);(try rw [Addr.add_zero'] at aC);have aD := ah;(try rw [show ((0 : Int)).toNat = 0 from rfl] at aD);(try rw [show 0 * 4 = 0 from rfl] at aD);(try rw [Addr.add_zero'] at aD);have aE := ag;(try rw [show ((0 : Int)).toNat = 0 from rfl] at aE);(try rw [show 0 * 4 = 0 from rfl] at aE);(try rw [Addr.add_zero'] at aE);have aF := af;(try rw [show ((0 : Int)).toNat = 0 from rfl] at aF);(try rw [show 0 * 4 = 0 from rfl] at aF);(try rw [Addr.add_zero'] at aF)
    first
     |
      cases ca;have qi243 : (0 < aa.length) = True := eq_true (by omega);(try rw [show ((0 : Int)).toNat = 0 from rfl] at af);(try rw [show 0 * 4 = 0 from rfl] at af);(try rw [Addr.add_zero'] at af);(try rw [show ((0 : Int)).toNat = 0 from rfl] at ag);(try rw [show 0 * 4 = 0 from rfl] at ag);(try rw [Addr.add_zero'] at ag);(try rw [show ((0 : Int)).toNat = 0 from rfl] at ah);(try rw [show 0 * 4 = 0 from rfl] at ah);(try rw [Addr.add_zero'] at ah);(try rw [show ((0 : Int)).toNat = 0 from rfl] at ai);(try rw [show 0 * 4 = 0 from rfl] at ai);(try rw [Addr.add_zero'] at ai);replace af := mv_ HB.out af;replace ag := mv_ HB.out ag;replace ah := mv_ HB.out ah;replace ai := mv_ HB.out ai;have aL := aM aT;have aU := aM aR;clear aT aR;replace br := eq_true br;replace bs := eq_true bs;refine start_ (n := 8) (S := fun w' => w'.cell? ⟨an,0,none⟩ = some (.int .i64 aZ) ∧ w'.cell? ⟨an,1,none⟩ = some (.string a7) ∧ w'.cell? ⟨an,2,none⟩ = some (.string a8) ∧ w'.cell? ⟨an,3,none⟩ = some (.slice (some ae) aa.length bc) ∧ w'.cell? ⟨ab,0,none⟩ = some (.string ar) ∧ w'.cell? ⟨ab,1,none⟩ = some (.int .i64 au) ∧ w'.cell? ⟨ab,2,none⟩ = some (.slice aV ao.length aW) ∧ w'.cell? ⟨ab,3,none⟩ = some (.slice aX ap.length aY) ∧ w'.cell? ⟨ab,4,none⟩ = some (.string av) ∧ w'.cell? ⟨ab,5,none⟩ = some (.string aw) ∧ w'.cell? ⟨ab,6,none⟩ = some (.string ax) ∧ w'.cell? ⟨ab,7,none⟩ = some (.int .i64 ay) ∧ w'.cell? ⟨ab,8,none⟩ = some (.int .i64 az) ∧ w'.cell? ⟨ab,9,none⟩ = some (.int .i64 aA) ∧ w'.cell? ⟨ab,10,none⟩ = some (.bool aj) ∧ w'.cell? ⟨ab,11,none⟩ = some (.int .i64 ak) ∧ w'.cell? ⟨ab,12,none⟩ = some (.string al) ∧ w'.cell? ⟨ab,13,none⟩ = some (.string am) ∧ w'.cell? ae = some (.int .i64 ((Fab aa 0).f0)) ∧ w'.cell? ⟨ae.block,ae.off + 1,none⟩ = some (.string ((Fab aa 0).f1)) ∧ w'.cell? ⟨ae.block,ae.off + 2,none⟩ = some (.string ((Fab aa 0).f2)) ∧ w'.cell? ⟨ae.block,ae.off + 3,none⟩ = some (.slice a0 ((Fab aa 0).f3).length a1)) (ds := []) (mk_ 8 0) (by kernel_rfl) rfl (by kernel_rfl) (ze4_ ac.out (ze14_ ad.out ⟨mv_ HB.out aF,mv_ HB.out aE,mv_ HB.out aD,mv_ HB.out aC⟩)) (fun hHeld => ?_);refine with_tabW Faf.tab5 Faf.bits5 (fun HT_ HW_ => ?_);generalize a2.drew = bT at ac ad HB aL af ag ah ai hHeld ⊢;refine pV_ (i := 0) (N := some 18) (mk_ 8 1) rfl rfl HT_.out ?_;refine tV_ (i := 1) (N := some 19) (mk_ 8 3) rfl rfl HT_.out HW_.out hHeld ?_;refine pV_ (i := 2) (N := some 20) (mk_ 8 7) rfl rfl HT_.out ?_;refine tV_ (i := 3) (N := some 21) (mk_ 8 15) rfl rfl HT_.out HW_.out hHeld ?_;refine tV_ (i := 4) (N := some 22) (mk_ 8 31) rfl rfl HT_.out HW_.out hHeld ?_;refine one_ (i := 5) (N := some 23) (mk_ 8 63) rfl rfl (one_of HT_.out (by kernel_rfl)) (by decide) (fun K hK => ?_);refine gs_ Tryz.func61 #[.agg #[.int .i64 ((Fab aa 0).f0),.string ((Fab aa 0).f1),.string ((Fab aa 0).f2),.slice a0 ((Fab aa 0).f3).length a1],.agg #[.string ar,.int .i64 au,.slice aV ao.length aW,.slice aX ap.length aY,.string av,.string aw,.string ax,.int .i64 ay,.int .i64 az,.int .i64 aA,.bool aj,.int .i64 ak,.string al,.string am]] ?_;(with_reducible refine (ih k (by omega) ((Fab aa 0).f0) ((Fab aa 0).f1) ((Fab aa 0).f2) _ _ ((Fab aa 0).f3) ar au _ _ ao _ _ ap av aw ax ay az aA aj ak al am bv _ ?side1 ?side2 ?side3 ?side4 ?side5 ?side6 cg.out).mono ?_);(case side1 => exact wX_ aL.out);(case side2 => exact aU.out);(case side3 => exact wX_ a3.out);(case side4 => exact a4.out);(case side5 => exact wX_ a5.out);(case side6 => exact a6.out);rintro e bU ⟨rfl,hb⟩;refine ⟨_,rfl,?_⟩;replace ac := aM (bw_ ac.out hb);replace ad := aM (bw_ ad.out hb);replace HB := aM (lT wB_ hb);refine hK.out _ _ (ze4_ ac.out (ze14_ ad.out ⟨mv_ HB.out aF,mv_ HB.out aE,mv_ HB.out aD,mv_ HB.out aC⟩)) (fun hHeld => ?_);clear hK K;refine norm_ (a' := ?_) ?_ ?_;rotate_left;show Act.put _ (some 23) _ = _;simp only [Act.put,lI,sZ,sS,i64_w,i32_w];rfl;refine pV_ (i := 6) (N := some 24) (mk_ 8 127) rfl rfl HT_.out ?_;refine pV_ (i := 7) (N := some 4) (mk_ 8 255) rfl rfl HT_.out ?_;refine done_ (done_of HT_.out (by kernel_rfl)) ?_;(try go_wp2);go_ret;exact ⟨vR_,wB_⟩
     |
      cases ca;have qi245 : (0 < aa.length) = True := eq_true (by omega);(try rw [show ((0 : Int)).toNat = 0 from rfl] at af);(try rw [show 0 * 4 = 0 from rfl] at af);(try rw [Addr.add_zero'] at af);(try rw [show ((0 : Int)).toNat = 0 from rfl] at ag);(try rw [show 0 * 4 = 0 from rfl] at ag);(try rw [Addr.add_zero'] at ag);(try rw [show ((0 : Int)).toNat = 0 from rfl] at ah);(try rw [show 0 * 4 = 0 from rfl] at ah);(try rw [Addr.add_zero'] at ah);(try rw [show ((0 : Int)).toNat = 0 from rfl] at ai);(try rw [show 0 * 4 = 0 from rfl] at ai);(try rw [Addr.add_zero'] at ai)
      first
       |
        replace af := mv_ HB.out af;replace ag := mv_ HB.out ag;replace ah := mv_ HB.out ah;replace ai := mv_ HB.out ai;have aL := aM aT;have aU := aM aR;clear aT aR;replace br := eq_true br;replace bs := eq_true bs;refine start_ (n := 15) (S := fun w' => w'.cell? ⟨an,0,none⟩ = some (.int .i64 aZ) ∧ w'.cell? ⟨an,1,none⟩ = some (.string a7) ∧ w'.cell? ⟨an,2,none⟩ = some (.string a8) ∧ w'.cell? ⟨an,3,none⟩ = some (.slice (some ae) aa.length bc) ∧ w'.cell? ⟨ab,0,none⟩ = some (.string ar) ∧ w'.cell? ⟨ab,1,none⟩ = some (.int .i64 au) ∧ w'.cell? ⟨ab,2,none⟩ = some (.slice aV ao.length aW) ∧ w'.cell? ⟨ab,3,none⟩ = some (.slice aX ap.length aY) ∧ w'.cell? ⟨ab,4,none⟩ = some (.string av) ∧ w'.cell? ⟨ab,5,none⟩ = some (.string aw) ∧ w'.cell? ⟨ab,6,none⟩ = some (.string ax) ∧ w'.cell? ⟨ab,7,none⟩ = some (.int .i64 ay) ∧ w'.cell? ⟨ab,8,none⟩ = some (.int .i64 az) ∧ w'.cell? ⟨ab,9,none⟩ = some (.int .i64 aA) ∧ w'.cell? ⟨ab,10,none⟩ = some (.bool aj) ∧ w'.cell? ⟨ab,11,none⟩ = some (.int .i64 ak) ∧ w'.cell? ⟨ab,12,none⟩ = some (.string al) ∧ w'.cell? ⟨ab,13,none⟩ = some (.string am) ∧ w'.cell? ae = some (.int .i64 ((Fab aa 0).f0)) ∧ w'.cell? ⟨ae.block,ae.off + 1,none⟩ = some (.string ((Fab aa 0).f1)) ∧ w'.cell? ⟨ae.block,ae.off + 2,none⟩ = some (.string ((Fab aa 0).f2)) ∧ w'.cell? ⟨ae.block,ae.off + 3,none⟩ = some (.slice a0 ((Fab aa 0).f3).length a1)) (ds := []) (mk_ 15 0) (by kernel_rfl) rfl (by kernel_rfl) (ze4_ ac.out (ze14_ ad.out ⟨mv_ HB.out aF,mv_ HB.out aE,mv_ HB.out aD,mv_ HB.out aC⟩)) (fun hHeld => ?_);refine with_tabW Faf.tab7 Faf.bits7 (fun HT_ HW_ => ?_);generalize a2.drew = bT at ac ad HB aL af ag ah ai hHeld ⊢;refine pV_ (i := 0) (N := some 27) (mk_ 15 1) rfl rfl HT_.out ?_;refine tV_ (i := 1) (N := some 28) (mk_ 15 3) rfl rfl HT_.out HW_.out hHeld ?_;refine pV_ (i := 2) (N := some 29) (mk_ 15 7) rfl rfl HT_.out ?_;refine tV_ (i := 3) (N := some 30) (mk_ 15 15) rfl rfl HT_.out HW_.out hHeld ?_;refine tV_ (i := 4) (N := some 31) (mk_ 15 31) rfl rfl HT_.out HW_.out hHeld ?_;refine one_ (i := 5) (N := some 32) (mk_ 15 63) rfl rfl (one_of HT_.out (by kernel_rfl)) (by decide) (fun K hK => ?_);refine gs_ Tryz.func61 #[.agg #[.int .i64 ((Fab aa 0).f0),.string ((Fab aa 0).f1),.string ((Fab aa 0).f2),.slice a0 ((Fab aa 0).f3).length a1],.agg #[.string ar,.int .i64 au,.slice aV ao.length aW,.slice aX ap.length aY,.string av,.string aw,.string ax,.int .i64 ay,.int .i64 az,.int .i64 aA,.bool aj,.int .i64 ak,.string al,.string am]] ?_;(with_reducible refine (ih k (by omega) ((Fab aa 0).f0) ((Fab aa 0).f1) ((Fab aa 0).f2) _ _ ((Fab aa 0).f3) ar au _ _ ao _ _ ap av aw ax ay az aA aj ak al am false _ ?side1 ?side2 ?side3 ?side4 ?side5 ?side6 cc.out).mono ?_);(case side1 => exact wX_ aL.out);(case side2 => exact aU.out);(case side3 => exact wX_ a3.out);(case side4 => exact a4.out);(case side5 => exact wX_ a5.out);(case side6 => exact a6.out);rintro e bU ⟨rfl,hb⟩;refine ⟨_,rfl,?_⟩;replace ac := aM (bw_ ac.out hb);replace ad := aM (bw_ ad.out hb);replace HB := aM (lT wB_ hb);refine hK.out _ _ (ze4_ ac.out (ze14_ ad.out ⟨mv_ HB.out aF,mv_ HB.out aE,mv_ HB.out aD,mv_ HB.out aC⟩)) (fun hHeld => ?_);clear hK K;refine norm_ (a' := ?_) ?_ ?_;rotate_left;show Act.put _ (some 32) _ = _;simp only [Act.put,lI,sZ,sS,i64_w,i32_w];rfl;refine pV_ (i := 6) (N := some 33) (mk_ 15 127) rfl rfl HT_.out ?_;refine pU_ (i := 7) (N := some 34) (mk_ 15 255) rfl rfl HT_.out ?_;refine pU_ (i := 8) (N := some 35) (mk_ 15 511) rfl rfl HT_.out ?_;refine pU_ (i := 9) (N := some 36) (mk_ 15 1023) rfl rfl HT_.out ?_;refine pU_ (i := 10) (N := some 37) (mk_ 15 2047) rfl rfl HT_.out ?_;refine pU_ (i := 11) (N := some 38) (mk_ 15 4095) rfl rfl HT_.out ?_;refine pU_ (i := 12) (N := some 39) (mk_ 15 8191) rfl rfl HT_.out ?_;refine pV_ (i := 13) (N := some 40) (mk_ 15 16383) rfl rfl HT_.out ?_;refine pV_ (i := 14) (N := some 4) (mk_ 15 32767) rfl rfl HT_.out ?_;refine done_ (done_of HT_.out (by kernel_rfl)) ?_;(try go_wp2);go_ret;exact ⟨vR_,wB_⟩
       |
        replace af := mv_ HB.out af;replace ag := mv_ HB.out ag;replace ah := mv_ HB.out ah;replace ai := mv_ HB.out ai;have aL := aM aT;have aU := aM aR;clear aT aR;replace br := eq_true br;replace bs := eq_true bs;have bI : 0 ≤ (1 : Int) := (by omega);have bJ : 1 < (aa.length : Int) := oD (by assumption);obtain ⟨bK,bd,be,cb,aG,aH,aJ,aK,a9,ba⟩ := Fcr bp.out 1 bI bJ;have aN := aK;(try rw [show ((1 : Int)).toNat = 1 from rfl] at aN);(try rw [show 1 * 4 = 4 from rfl] at aN);(try simp only [Nat.reduceMul,Nat.reduceEqDiff,Go.Addr.add,↓reduceIte] at aN);have aO := aJ;(try rw [show ((1 : Int)).toNat = 1 from rfl] at aO);(try rw [show 1 * 4 = 4 from rfl] at aO);(try simp only [Nat.reduceMul,Nat.reduceEqDiff,Go.Addr.add,↓reduceIte] at aO);have aP := aH;(try rw [show ((1 : Int)).toNat = 1 from rfl] at aP);(try rw [show 1 * 4 = 4 from rfl] at aP);(try simp only [Nat.reduceMul,Nat.reduceEqDiff,Go.Addr.add,↓reduceIte] at aP);have aQ := aG;(try rw [show ((1 : Int)).toNat = 1 from rfl] at aQ);(try rw [show 1 * 4 = 4 from rfl] at aQ);(try simp only [Nat.reduceMul,Nat.reduceEqDiff,Go.Addr.add,↓reduceIte] at aQ);obtain rfl : ae = bK := (by injection cb);(try simp only [show (1 : Int).toNat = 1 from rfl,Nat.reduceMul,Nat.reduceEqDiff,Go.Addr.add,↓reduceIte] at aG);(try simp only [show (1 : Int).toNat = 1 from rfl,Nat.reduceMul,Nat.reduceEqDiff,Go.Addr.add,↓reduceIte] at aH);(try simp only [show (1 : Int).toNat = 1 from rfl,Nat.reduceMul,Nat.reduceEqDiff,Go.Addr.add,↓reduceIte] at aJ);(try simp only [show (1 : Int).toNat = 1 from rfl,Nat.reduceMul,Nat.reduceEqDiff,Go.Addr.add,↓reduceIte] at aK);have qi247 : (1 < aa.length) = True := eq_true (by omega);(try rw [show ((1 : Int)).toNat = 1 from rfl] at aG);(try rw [show 1 * 4 = 4 from rfl] at aG);(try rw [show ((1 : Int)).toNat = 1 from rfl] at aH);(try rw [show 1 * 4 = 4 from rfl] at aH);(try rw [show ((1 : Int)).toNat = 1 from rfl] at aJ);(try rw [show 1 * 4 = 4 from rfl] at aJ);(try rw [show ((1 : Int)).toNat = 1 from rfl] at aK);(try rw [show 1 * 4 = 4 from rfl] at aK);replace aG := mv_ HB.out aG;replace aH := mv_ HB.out aH;replace aJ := mv_ HB.out aJ;replace aK := mv_ HB.out aK;have bb := aM ba;have bf := aM a9;clear ba a9;replace bI := eq_true bI;replace bJ := eq_true bJ;refine start_ (n := 15) (S := fun w' => w'.cell? ⟨an,0,none⟩ = some (.int .i64 aZ) ∧ w'.cell? ⟨an,1,none⟩ = some (.string a7) ∧ w'.cell? ⟨an,2,none⟩ = some (.string a8) ∧ w'.cell? ⟨an,3,none⟩ = some (.slice (some ae) aa.length bc) ∧ w'.cell? ⟨ab,0,none⟩ = some (.string ar) ∧ w'.cell? ⟨ab,1,none⟩ = some (.int .i64 au) ∧ w'.cell? ⟨ab,2,none⟩ = some (.slice aV ao.length aW) ∧ w'.cell? ⟨ab,3,none⟩ = some (.slice aX ap.length aY) ∧ w'.cell? ⟨ab,4,none⟩ = some (.string av) ∧ w'.cell? ⟨ab,5,none⟩ = some (.string aw) ∧ w'.cell? ⟨ab,6,none⟩ = some (.string ax) ∧ w'.cell? ⟨ab,7,none⟩ = some (.int .i64 ay) ∧ w'.cell? ⟨ab,8,none⟩ = some (.int .i64 az) ∧ w'.cell? ⟨ab,9,none⟩ = some (.int .i64 aA) ∧ w'.cell? ⟨ab,10,none⟩ = some (.bool aj) ∧ w'.cell? ⟨ab,11,none⟩ = some (.int .i64 ak) ∧ w'.cell? ⟨ab,12,none⟩ = some (.string al) ∧ w'.cell? ⟨ab,13,none⟩ = some (.string am) ∧ w'.cell? ae = some (.int .i64 ((Fab aa 0).f0)) ∧ w'.cell? ⟨ae.block,ae.off + 1,none⟩ = some (.string ((Fab aa 0).f1)) ∧ w'.cell? ⟨ae.block,ae.off + 2,none⟩ = some (.string ((Fab aa 0).f2)) ∧ w'.cell? ⟨ae.block,ae.off + 3,none⟩ = some (.slice a0 ((Fab aa 0).f3).length a1) ∧ w'.cell? ⟨ae.block,ae.off + 4,none⟩ = some (.int .i64 ((Fab aa 1).f0)) ∧ w'.cell? ⟨ae.block,ae.off + 4 + 1,none⟩ = some (.string ((Fab aa 1).f1)) ∧ w'.cell? ⟨ae.block,ae.off + 4 + 2,none⟩ = some (.string ((Fab aa 1).f2)) ∧ w'.cell? ⟨ae.block,ae.off + 4 + 3,none⟩ = some (.slice bd ((Fab aa 1).f3).length be)) (ds := []) (mk_ 15 0) (by kernel_rfl) rfl (by kernel_rfl) (ze4_ ac.out (ze14_ ad.out ⟨mv_ HB.out aF,mv_ HB.out aE,mv_ HB.out aD,mv_ HB.out aC,mv_ HB.out aQ,mv_ HB.out aP,mv_ HB.out aO,mv_ HB.out aN⟩)) (fun hHeld => ?_);refine with_tabW Faf.tab7 Faf.bits7 (fun HT_ HW_ => ?_);generalize a2.drew = bT at ac ad HB aL bb af ag ah ai aG aH aJ aK hHeld ⊢;refine pV_ (i := 0) (N := some 27) (mk_ 15 1) rfl rfl HT_.out ?_;refine tV_ (i := 1) (N := some 28) (mk_ 15 3) rfl rfl HT_.out HW_.out hHeld ?_;refine pV_ (i := 2) (N := some 29) (mk_ 15 7) rfl rfl HT_.out ?_;refine tV_ (i := 3) (N := some 30) (mk_ 15 15) rfl rfl HT_.out HW_.out hHeld ?_;refine tV_ (i := 4) (N := some 31) (mk_ 15 31) rfl rfl HT_.out HW_.out hHeld ?_;refine one_ (i := 5) (N := some 32) (mk_ 15 63) rfl rfl (one_of HT_.out (by kernel_rfl)) (by decide) (fun K hK => ?_);refine gs_ Tryz.func61 #[.agg #[.int .i64 ((Fab aa 0).f0),.string ((Fab aa 0).f1),.string ((Fab aa 0).f2),.slice a0 ((Fab aa 0).f3).length a1],.agg #[.string ar,.int .i64 au,.slice aV ao.length aW,.slice aX ap.length aY,.string av,.string aw,.string ax,.int .i64 ay,.int .i64 az,.int .i64 aA,.bool aj,.int .i64 ak,.string al,.string am]] ?_;(with_reducible refine (ih k (by omega) ((Fab aa 0).f0) ((Fab aa 0).f1) ((Fab aa 0).f2) _ _ ((Fab aa 0).f3) ar au _ _ ao _ _ ap av aw ax ay az aA aj ak al am true _ ?side1 ?side2 ?side3 ?side4 ?side5 ?side6 cc.out).mono ?_);(case side1 => exact wX_ aL.out);(case side2 => exact aU.out);(case side3 => exact wX_ a3.out);(case side4 => exact a4.out);(case side5 => exact wX_ a5.out);(case side6 => exact a6.out);rintro e bU ⟨rfl,hb⟩;refine ⟨_,rfl,?_⟩;replace ac := aM (bw_ ac.out hb);replace ad := aM (bw_ ad.out hb);replace HB := aM (lT wB_ hb);refine hK.out _ _ (ze4_ ac.out (ze14_ ad.out ⟨mv_ HB.out aF,mv_ HB.out aE,mv_ HB.out aD,mv_ HB.out aC,mv_ HB.out aQ,mv_ HB.out aP,mv_ HB.out aO,mv_ HB.out aN⟩)) (fun hHeld => ?_);clear hK K;refine norm_ (a' := ?_) ?_ ?_;rotate_left;show Act.put _ (some 32) _ = _;simp only [Act.put,lI,sZ,sS,i64_w,i32_w];rfl;refine pV_ (i := 6) (N := some 33) (mk_ 15 127) rfl rfl HT_.out ?_;refine pV_ (i := 7) (N := some 34) (mk_ 15 255) rfl rfl HT_.out ?_;refine tV_ (i := 8) (N := some 35) (mk_ 15 511) rfl rfl HT_.out HW_.out hHeld ?_;refine pV_ (i := 9) (N := some 36) (mk_ 15 1023) rfl rfl HT_.out ?_;refine tV_ (i := 10) (N := some 37) (mk_ 15 2047) rfl rfl HT_.out HW_.out hHeld ?_;refine tV_ (i := 11) (N := some 38) (mk_ 15 4095) rfl rfl HT_.out HW_.out hHeld ?_;refine one_ (i := 12) (N := some 39) (mk_ 15 8191) rfl rfl (one_of HT_.out (by kernel_rfl)) (by decide) (fun K hK => ?_);refine gs_ Tryz.func61 #[.agg #[.int .i64 ((Fab aa 1).f0),.string ((Fab aa 1).f1),.string ((Fab aa 1).f2),.slice bd ((Fab aa 1).f3).length be],.agg #[.string ar,.int .i64 au,.slice aV ao.length aW,.slice aX ap.length aY,.string av,.string aw,.string ax,.int .i64 ay,.int .i64 az,.int .i64 aA,.bool aj,.int .i64 ak,.string al,.string am]] ?_;(with_reducible refine (ih k (by omega) ((Fab aa 1).f0) ((Fab aa 1).f1) ((Fab aa 1).f2) _ _ ((Fab aa 1).f3) ar au _ _ ao _ _ ap av aw ax ay az aA aj ak al am bz _ ?side1 ?side2 ?side3 ?side4 ?side5 ?side6 ch.out).mono ?_);(case side1 => exact wX_ bb.out);(case side2 => exact bf.out);(case side3 => exact wX_ a3.out);(case side4 => exact a4.out);(case side5 => exact wX_ a5.out);(case side6 => exact a6.out);rintro e co ⟨rfl,hb⟩;refine ⟨_,rfl,?_⟩;replace ac := aM (bw_ ac.out hb);replace ad := aM (bw_ ad.out hb);replace HB := aM (lT wB_ hb);refine hK.out _ _ (ze4_ ac.out (ze14_ ad.out ⟨mv_ HB.out aF,mv_ HB.out aE,mv_ HB.out aD,mv_ HB.out aC,mv_ HB.out aQ,mv_ HB.out aP,mv_ HB.out aO,mv_ HB.out aN⟩)) (fun hHeld => ?_);clear hK K;refine norm_ (a' := ?_) ?_ ?_;rotate_left;show Act.put _ (some 39) _ = _;simp only [Act.put,lI,sZ,sS,i64_w,i32_w];rfl;refine pV_ (i := 13) (N := some 40) (mk_ 15 16383) rfl rfl HT_.out ?_;refine pV_ (i := 14) (N := some 4) (mk_ 15 32767) rfl rfl HT_.out ?_;refine done_ (done_of HT_.out (by kernel_rfl)) ?_;(try go_wp2);go_ret;exact ⟨vR_,wB_⟩
     |
      cases ca;have qi249 : (0 < aa.length) = True := eq_true (by omega);(try rw [show ((0 : Int)).toNat = 0 from rfl] at af);(try rw [show 0 * 4 = 0 from rfl] at af);(try rw [Addr.add_zero'] at af);(try rw [show ((0 : Int)).toNat = 0 from rfl] at ag);(try rw [show 0 * 4 = 0 from rfl] at ag);(try rw [Addr.add_zero'] at ag);(try rw [show ((0 : Int)).toNat = 0 from rfl] at ah);(try rw [show 0 * 4 = 0 from rfl] at ah);(try rw [Addr.add_zero'] at ah);(try rw [show ((0 : Int)).toNat = 0 from rfl] at ai);(try rw [show 0 * 4 = 0 from rfl] at ai);(try rw [Addr.add_zero'] at ai)
      first
       |
        replace af := mv_ HB.out af;replace ag := mv_ HB.out ag;replace ah := mv_ HB.out ah;replace ai := mv_ HB.out ai;have aL := aM aT;have aU := aM aR;clear aT aR;replace br := eq_true br;replace bs := eq_true bs;refine start_ (n := 15) (S := fun w' => w'.cell? ⟨an,0,none⟩ = some (.int .i64 aZ) ∧ w'.cell? ⟨an,1,none⟩ = some (.string a7) ∧ w'.cell? ⟨an,2,none⟩ = some (.string a8) ∧ w'.cell? ⟨an,3,none⟩ = some (.slice (some ae) aa.length bc) ∧ w'.cell? ⟨ab,0,none⟩ = some (.string ar) ∧ w'.cell? ⟨ab,1,none⟩ = some (.int .i64 au) ∧ w'.cell? ⟨ab,2,none⟩ = some (.slice aV ao.length aW) ∧ w'.cell? ⟨ab,3,none⟩ = some (.slice aX ap.length aY) ∧ w'.cell? ⟨ab,4,none⟩ = some (.string av) ∧ w'.cell? ⟨ab,5,none⟩ = some (.string aw) ∧ w'.cell? ⟨ab,6,none⟩ = some (.string ax) ∧ w'.cell? ⟨ab,7,none⟩ = some (.int .i64 ay) ∧ w'.cell? ⟨ab,8,none⟩ = some (.int .i64 az) ∧ w'.cell? ⟨ab,9,none⟩ = some (.int .i64 aA) ∧ w'.cell? ⟨ab,10,none⟩ = some (.bool aj) ∧ w'.cell? ⟨ab,11,none⟩ = some (.int .i64 ak) ∧ w'.cell? ⟨ab,12,none⟩ = some (.string al) ∧ w'.cell? ⟨ab,13,none⟩ = some (.string am) ∧ w'.cell? ae = some (.int .i64 ((Fab aa 0).f0)) ∧ w'.cell? ⟨ae.block,ae.off + 1,none⟩ = some (.string ((Fab aa 0).f1)) ∧ w'.cell? ⟨ae.block,ae.off + 2,none⟩ = some (.string ((Fab aa 0).f2)) ∧ w'.cell? ⟨ae.block,ae.off + 3,none⟩ = some (.slice a0 ((Fab aa 0).f3).length a1)) (ds := []) (mk_ 15 0) (by kernel_rfl) rfl (by kernel_rfl) (ze4_ ac.out (ze14_ ad.out ⟨mv_ HB.out aF,mv_ HB.out aE,mv_ HB.out aD,mv_ HB.out aC⟩)) (fun hHeld => ?_);refine with_tabW Faf.tab8 Faf.bits8 (fun HT_ HW_ => ?_);generalize a2.drew = bT at ac ad HB aL af ag ah ai hHeld ⊢;refine pV_ (i := 0) (N := some 41) (mk_ 15 1) rfl rfl HT_.out ?_;refine tV_ (i := 1) (N := some 42) (mk_ 15 3) rfl rfl HT_.out HW_.out hHeld ?_;refine pV_ (i := 2) (N := some 43) (mk_ 15 7) rfl rfl HT_.out ?_;refine tV_ (i := 3) (N := some 44) (mk_ 15 15) rfl rfl HT_.out HW_.out hHeld ?_;refine tV_ (i := 4) (N := some 45) (mk_ 15 31) rfl rfl HT_.out HW_.out hHeld ?_;refine one_ (i := 5) (N := some 46) (mk_ 15 63) rfl rfl (one_of HT_.out (by kernel_rfl)) (by decide) (fun K hK => ?_);refine gs_ Tryz.func61 #[.agg #[.int .i64 ((Fab aa 0).f0),.string ((Fab aa 0).f1),.string ((Fab aa 0).f2),.slice a0 ((Fab aa 0).f3).length a1],.agg #[.string ar,.int .i64 au,.slice aV ao.length aW,.slice aX ap.length aY,.string av,.string aw,.string ax,.int .i64 ay,.int .i64 az,.int .i64 aA,.bool aj,.int .i64 ak,.string al,.string am]] ?_;(with_reducible refine (ih k (by omega) ((Fab aa 0).f0) ((Fab aa 0).f1) ((Fab aa 0).f2) _ _ ((Fab aa 0).f3) ar au _ _ ao _ _ ap av aw ax ay az aA aj ak al am true _ ?side1 ?side2 ?side3 ?side4 ?side5 ?side6 cd.out).mono ?_);(case side1 => exact wX_ aL.out);(case side2 => exact aU.out);(case side3 => exact wX_ a3.out);(case side4 => exact a4.out);(case side5 => exact wX_ a5.out);(case side6 => exact a6.out);rintro e bU ⟨rfl,hb⟩;refine ⟨_,rfl,?_⟩;replace ac := aM (bw_ ac.out hb);replace ad := aM (bw_ ad.out hb);replace HB := aM (lT wB_ hb);refine hK.out _ _ (ze4_ ac.out (ze14_ ad.out ⟨mv_ HB.out aF,mv_ HB.out aE,mv_ HB.out aD,mv_ HB.out aC⟩)) (fun hHeld => ?_);clear hK K;refine norm_ (a' := ?_) ?_ ?_;rotate_left;show Act.put _ (some 46) _ = _;simp only [Act.put,lI,sZ,sS,i64_w,i32_w];rfl;refine pV_ (i := 6) (N := some 47) (mk_ 15 127) rfl rfl HT_.out ?_;refine pU_ (i := 7) (N := some 48) (mk_ 15 255) rfl rfl HT_.out ?_;refine pU_ (i := 8) (N := some 49) (mk_ 15 511) rfl rfl HT_.out ?_;refine pU_ (i := 9) (N := some 50) (mk_ 15 1023) rfl rfl HT_.out ?_;refine pU_ (i := 10) (N := some 51) (mk_ 15 2047) rfl rfl HT_.out ?_;refine pU_ (i := 11) (N := some 52) (mk_ 15 4095) rfl rfl HT_.out ?_;refine pU_ (i := 12) (N := some 53) (mk_ 15 8191) rfl rfl HT_.out ?_;refine pV_ (i := 13) (N := some 54) (mk_ 15 16383) rfl rfl HT_.out ?_;refine pV_ (i := 14) (N := some 4) (mk_ 15 32767) rfl rfl HT_.out ?_;refine done_ (done_of HT_.out (by kernel_rfl)) ?_;(try go_wp2);go_ret;exact ⟨vR_,wB_⟩
       |
        replace af := mv_ HB.out af;replace ag := mv_ HB.out ag;replace ah := mv_ HB.out ah;replace ai := mv_ HB.out ai;have aL := aM aT;have aU := aM aR;clear aT aR;replace br := eq_true br;replace bs := eq_true bs;have bI : 0 ≤ (1 : Int) := (by omega);have bJ : 1 < (aa.length : Int) := oD (by assumption);obtain ⟨bK,bd,be,cb,aG,aH,aJ,aK,a9,ba⟩ := Fcr bp.out 1 bI bJ;have aN := aK;(try rw [show ((1 : Int)).toNat = 1 from rfl] at aN);(try rw [show 1 * 4 = 4 from rfl] at aN);(try simp only [Nat.reduceMul,Nat.reduceEqDiff,Go.Addr.add,↓reduceIte] at aN);have aO := aJ;(try rw [show ((1 : Int)).toNat = 1 from rfl] at aO);(try rw [show 1 * 4 = 4 from rfl] at aO);(try simp only [Nat.reduceMul,Nat.reduceEqDiff,Go.Addr.add,↓reduceIte] at aO);have aP := aH;(try rw [show ((1 : Int)).toNat = 1 from rfl] at aP);(try rw [show 1 * 4 = 4 from rfl] at aP);(try simp only [Nat.reduceMul,Nat.reduceEqDiff,Go.Addr.add,↓reduceIte] at aP);have aQ := aG;(try rw [show ((1 : Int)).toNat = 1 from rfl] at aQ);(try rw [show 1 * 4 = 4 from rfl] at aQ);(try simp only [Nat.reduceMul,Nat.reduceEqDiff,Go.Addr.add,↓reduceIte] at aQ);obtain rfl : ae = bK := (by injection cb);(try simp only [show (1 : Int).toNat = 1 from rfl,Nat.reduceMul,Nat.reduceEqDiff,Go.Addr.add,↓reduceIte] at aG);(try simp only [show (1 : Int).toNat = 1 from rfl,Nat.reduceMul,Nat.reduceEqDiff,Go.Addr.add,↓reduceIte] at aH);(try simp only [show (1 : Int).toNat = 1 from rfl,Nat.reduceMul,Nat.reduceEqDiff,Go.Addr.add,↓reduceIte] at aJ);(try simp only [show (1 : Int).toNat = 1 from rfl,Nat.reduceMul,Nat.reduceEqDiff,Go.Addr.add,↓reduceIte] at aK);have qi251 : (1 < aa.length) = True := eq_true (by omega);(try rw [show ((1 : Int)).toNat = 1 from rfl] at aG);(try rw [show 1 * 4 = 4 from rfl] at aG);(try rw [show ((1 : Int)).toNat = 1 from rfl] at aH);(try rw [show 1 * 4 = 4 from rfl] at aH);(try rw [show ((1 : Int)).toNat = 1 from rfl] at aJ);(try rw [show 1 * 4 = 4 from rfl] at aJ);(try rw [show ((1 : Int)).toNat = 1 from rfl] at aK);(try rw [show 1 * 4 = 4 from rfl] at aK);replace aG := mv_ HB.out aG;replace aH := mv_ HB.out aH;replace aJ := mv_ HB.out aJ;replace aK := mv_ HB.out aK;have bb := aM ba;have bf := aM a9;clear ba a9;replace bI := eq_true bI;replace bJ := eq_true bJ;refine start_ (n := 15) (S := fun w' => w'.cell? ⟨an,0,none⟩ = some (.int .i64 aZ) ∧ w'.cell? ⟨an,1,none⟩ = some (.string a7) ∧ w'.cell? ⟨an,2,none⟩ = some (.string a8) ∧ w'.cell? ⟨an,3,none⟩ = some (.slice (some ae) aa.length bc) ∧ w'.cell? ⟨ab,0,none⟩ = some (.string ar) ∧ w'.cell? ⟨ab,1,none⟩ = some (.int .i64 au) ∧ w'.cell? ⟨ab,2,none⟩ = some (.slice aV ao.length aW) ∧ w'.cell? ⟨ab,3,none⟩ = some (.slice aX ap.length aY) ∧ w'.cell? ⟨ab,4,none⟩ = some (.string av) ∧ w'.cell? ⟨ab,5,none⟩ = some (.string aw) ∧ w'.cell? ⟨ab,6,none⟩ = some (.string ax) ∧ w'.cell? ⟨ab,7,none⟩ = some (.int .i64 ay) ∧ w'.cell? ⟨ab,8,none⟩ = some (.int .i64 az) ∧ w'.cell? ⟨ab,9,none⟩ = some (.int .i64 aA) ∧ w'.cell? ⟨ab,10,none⟩ = some (.bool aj) ∧ w'.cell? ⟨ab,11,none⟩ = some (.int .i64 ak) ∧ w'.cell? ⟨ab,12,none⟩ = some (.string al) ∧ w'.cell? ⟨ab,13,none⟩ = some (.string am) ∧ w'.cell? ae = some (.int .i64 ((Fab aa 0).f0)) ∧ w'.cell? ⟨ae.block,ae.off + 1,none⟩ = some (.string ((Fab aa 0).f1)) ∧ w'.cell? ⟨ae.block,ae.off + 2,none⟩ = some (.string ((Fab aa 0).f2)) ∧ w'.cell? ⟨ae.block,ae.off + 3,none⟩ = some (.slice a0 ((Fab aa 0).f3).length a1) ∧ w'.cell? ⟨ae.block,ae.off + 4,none⟩ = some (.int .i64 ((Fab aa 1).f0)) ∧ w'.cell? ⟨ae.block,ae.off + 4 + 1,none⟩ = some (.string ((Fab aa 1).f1)) ∧ w'.cell? ⟨ae.block,ae.off + 4 + 2,none⟩ = some (.string ((Fab aa 1).f2)) ∧ w'.cell? ⟨ae.block,ae.off + 4 + 3,none⟩ = some (.slice bd ((Fab aa 1).f3).length be)) (ds := []) (mk_ 15 0) (by kernel_rfl) rfl (by kernel_rfl) (ze4_ ac.out (ze14_ ad.out ⟨mv_ HB.out aF,mv_ HB.out aE,mv_ HB.out aD,mv_ HB.out aC,mv_ HB.out aQ,mv_ HB.out aP,mv_ HB.out aO,mv_ HB.out aN⟩)) (fun hHeld => ?_);refine with_tabW Faf.tab8 Faf.bits8 (fun HT_ HW_ => ?_);generalize a2.drew = bT at ac ad HB aL bb af ag ah ai aG aH aJ aK hHeld ⊢;refine pV_ (i := 0) (N := some 41) (mk_ 15 1) rfl rfl HT_.out ?_;refine tV_ (i := 1) (N := some 42) (mk_ 15 3) rfl rfl HT_.out HW_.out hHeld ?_;refine pV_ (i := 2) (N := some 43) (mk_ 15 7) rfl rfl HT_.out ?_;refine tV_ (i := 3) (N := some 44) (mk_ 15 15) rfl rfl HT_.out HW_.out hHeld ?_;refine tV_ (i := 4) (N := some 45) (mk_ 15 31) rfl rfl HT_.out HW_.out hHeld ?_;refine one_ (i := 5) (N := some 46) (mk_ 15 63) rfl rfl (one_of HT_.out (by kernel_rfl)) (by decide) (fun K hK => ?_);refine gs_ Tryz.func61 #[.agg #[.int .i64 ((Fab aa 0).f0),.string ((Fab aa 0).f1),.string ((Fab aa 0).f2),.slice a0 ((Fab aa 0).f3).length a1],.agg #[.string ar,.int .i64 au,.slice aV ao.length aW,.slice aX ap.length aY,.string av,.string aw,.string ax,.int .i64 ay,.int .i64 az,.int .i64 aA,.bool aj,.int .i64 ak,.string al,.string am]] ?_;(with_reducible refine (ih k (by omega) ((Fab aa 0).f0) ((Fab aa 0).f1) ((Fab aa 0).f2) _ _ ((Fab aa 0).f3) ar au _ _ ao _ _ ap av aw ax ay az aA aj ak al am false _ ?side1 ?side2 ?side3 ?side4 ?side5 ?side6 cd.out).mono ?_);(case side1 => exact wX_ aL.out);(case side2 => exact aU.out);(case side3 => exact wX_ a3.out);(case side4 => exact a4.out);(case side5 => exact wX_ a5.out);(case side6 => exact a6.out);rintro e bU ⟨rfl,hb⟩;refine ⟨_,rfl,?_⟩;replace ac := aM (bw_ ac.out hb);replace ad := aM (bw_ ad.out hb);replace HB := aM (lT wB_ hb);refine hK.out _ _ (ze4_ ac.out (ze14_ ad.out ⟨mv_ HB.out aF,mv_ HB.out aE,mv_ HB.out aD,mv_ HB.out aC,mv_ HB.out aQ,mv_ HB.out aP,mv_ HB.out aO,mv_ HB.out aN⟩)) (fun hHeld => ?_);clear hK K;refine norm_ (a' := ?_) ?_ ?_;rotate_left;show Act.put _ (some 46) _ = _;simp only [Act.put,lI,sZ,sS,i64_w,i32_w];rfl;refine pV_ (i := 6) (N := some 47) (mk_ 15 127) rfl rfl HT_.out ?_;refine pV_ (i := 7) (N := some 48) (mk_ 15 255) rfl rfl HT_.out ?_;refine tV_ (i := 8) (N := some 49) (mk_ 15 511) rfl rfl HT_.out HW_.out hHeld ?_;refine pV_ (i := 9) (N := some 50) (mk_ 15 1023) rfl rfl HT_.out ?_;refine tV_ (i := 10) (N := some 51) (mk_ 15 2047) rfl rfl HT_.out HW_.out hHeld ?_;refine tV_ (i := 11) (N := some 52) (mk_ 15 4095) rfl rfl HT_.out HW_.out hHeld ?_;refine one_ (i := 12) (N := some 53) (mk_ 15 8191) rfl rfl (one_of HT_.out (by kernel_rfl)) (by decide) (fun K hK => ?_);refine gs_ Tryz.func61 #[.agg #[.int .i64 ((Fab aa 1).f0),.string ((Fab aa 1).f1),.string ((Fab aa 1).f2),.slice bd ((Fab aa 1).f3).length be],.agg #[.string ar,.int .i64 au,.slice aV ao.length aW,.slice aX ap.length aY,.string av,.string aw,.string ax,.int .i64 ay,.int .i64 az,.int .i64 aA,.bool aj,.int .i64 ak,.string al,.string am]] ?_;(with_reducible refine (ih k (by omega) ((Fab aa 1).f0) ((Fab aa 1).f1) ((Fab aa 1).f2) _ _ ((Fab aa 1).f3) ar au _ _ ao _ _ ap av aw ax ay az aA aj ak al am bE _ ?side1 ?side2 ?side3 ?side4 ?side5 ?side6 ci.out).mono ?_);(case side1 => exact wX_ bb.out);(case side2 => exact bf.out);(case side3 => exact wX_ a3.out);(case side4 => exact a4.out);(case side5 => exact wX_ a5.out);(case side6 => exact a6.out);rintro e co ⟨rfl,hb⟩;refine ⟨_,rfl,?_⟩;replace ac := aM (bw_ ac.out hb);replace ad := aM (bw_ ad.out hb);replace HB := aM (lT wB_ hb);refine hK.out _ _ (ze4_ ac.out (ze14_ ad.out ⟨mv_ HB.out aF,mv_ HB.out aE,mv_ HB.out aD,mv_ HB.out aC,mv_ HB.out aQ,mv_ HB.out aP,mv_ HB.out aO,mv_ HB.out aN⟩)) (fun hHeld => ?_);clear hK K;refine norm_ (a' := ?_) ?_ ?_;rotate_left;show Act.put _ (some 53) _ = _;simp only [Act.put,lI,sZ,sS,i64_w,i32_w];rfl;refine pV_ (i := 13) (N := some 54) (mk_ 15 16383) rfl rfl HT_.out ?_;refine pV_ (i := 14) (N := some 4) (mk_ 15 32767) rfl rfl HT_.out ?_;refine done_ (done_of HT_.out (by kernel_rfl)) ?_;(try go_wp2);go_ret;exact ⟨vR_,wB_⟩
def FbJ.f (a0 : Int) : Option (Bool) := if a0 ≥ 97 then (some (decide (a0 ≤ 122))) else (some false)
theorem FbJ.calls (a0 : Int) (r : Bool) (w : World) (h : FbJ.f a0 = some r) :
  Calls Tryz.prog 162 #[.int .u8 a0] w fun e w' => e = .returned (.bool r) ∧ Drawn0 w w' := by
 have H : (if a0 ≥ 97 then (some (decide (a0 ≤ 122))) else (some false)) = some r := h;clear h
 by_cases c2 : a0 ≥ 97
 focus
  rw [if_pos c2] at H;have aa : decide (97 ≤ a0) = true := dT c2;clear c2;obtain rfl := oI H
 rotate_left
 focus
  rw [if_neg c2] at H;have aa : decide (97 ≤ a0) = false := dF c2;clear c2;obtain rfl := oI H
 all_goals
  go_enter Tryz.func162,Tryz.ntmps162;go_wp2;go_ret;exact ⟨vR_,dw_⟩
mutual
def FaJ.j0 : Nat → ByteArray → Bool → Option (Bool)
 | 0,_,_ => none
 | k + 1,x0,aa => if aa = true then (some false) else (FaJ.l0 k x0 0)
def FaJ.l0 : Nat → ByteArray → Int → Option (Bool)
 | 0,_,_ => none
 | k + 1,x0,x3 => if x3 < (x0.size : Int) then (if 0 ≤ x3 then ((FbJ.f (bt x0 x3)).bind fun aa => (if aa = true then (FaJ.l0 k x0 (wrap64 (x3 + 1))) else (if (bt x0 x3) < 48 then (some false) else (if (bt x0 x3) > 57 then (some false) else (FaJ.l0 k x0 (wrap64 (x3 + 1))))))) else (none)) else (some true)
end
def FaJ.f (k : Nat) (a0 : ByteArray) : Option (Bool) := (Fbl.f (a0.size : Int) 1 10).bind fun aa => (if aa = true then (if 0 < (a0.size : Int) then ((FbJ.f (bt a0 0)).bind fun ab => (FaJ.j0 k a0 (!ab))) else (none)) else (FaJ.j0 k a0 true))
theorem FaJ.mono_l : ∀ k,(∀ y0 y1,LeO (FaJ.j0 k y0 y1) (FaJ.j0 (k + 1) y0 y1)) ∧ (∀ y0 y1,LeO (FaJ.l0 k y0 y1) (FaJ.l0 (k + 1) y0 y1))
 | 0 => ⟨fun _ _ r h => by simp [FaJ.j0] at h,fun _ _ r h => by simp [FaJ.l0] at h⟩
 | k + 1 => by
  obtain ⟨ih0,ih1⟩ := FaJ.mono_l k
  refine ⟨?_,?_⟩
  all_goals (intros;first|unfold FaJ.j0|unfold FaJ.l0)
  all_goals repeat' (first|with_reducible (first|exact ih0 _ _|exact ih1 _ _|exact LeO.refl _|exact LeO.none _|refine LeO.ite ?_ ?_|refine LeO.bind ?_ (fun _ => ?_))|exact LeO.none _|refine LeO.ite ?_ ?_|refine LeO.bind ?_ (fun _ => ?_))
theorem FaJ.mono : ∀ a0 k,LeO (FaJ.f k a0) (FaJ.f (k + 1) a0) := by
 intro a0 k
 obtain ⟨ih0,ih1⟩ := FaJ.mono_l k
 unfold FaJ.f
 repeat' (first|with_reducible (first|exact ih0 _ _|exact ih1 _ _|exact LeO.refl _|exact LeO.none _|refine LeO.ite ?_ ?_|refine LeO.bind ?_ (fun _ => ?_))|exact LeO.none _|refine LeO.ite ?_ ?_|refine LeO.bind ?_ (fun _ => ?_))
theorem FaJ.calls (k : Nat) (a0 : ByteArray) (r : Bool) (w : World) (h : FaJ.f k a0 = some r) :
  Calls Tryz.prog 120 #[.string a0] w fun e w' => e = .returned (.bool r) ∧ Drawn0 w w' := by
 have H : ((Fbl.f (a0.size : Int) 1 10).bind fun ac => (if ac = true then (if 0 < (a0.size : Int) then ((FbJ.f (bt a0 0)).bind fun ad => (FaJ.j0 k a0 (!ad))) else (none)) else (FaJ.j0 k a0 true))) = some r := h;clear h;have HC2 := aM H;clear H;go_enter Tryz.func120,Tryz.ntmps120;go_upto_region 1 with (fail);go_cut [13] (fun am wc => ∃ (kq : Nat) (ab : Bool),am = .bool ab ∧ Aside0 (FaJ.j0 kq a0 ab = some r) ∧ Aside0 (kq ≤ k) ∧ Drawn0 w wc)
 case first =>
  have H := HC2.out;clear HC2;obtain ⟨ac,A3,H⟩ := bE_ H
  by_cases c4 : ac = true
  focus
   subst c4;rw [if_pos rfl] at H
   by_cases c5 : 0 < (a0.size : Int)
   rotate_left;rw [if_neg c5] at H;exact nH_ H;rw [if_pos c5] at H;have af := dT c5;have c5b1 : decide (0 < a0.size) = true := dT (by omega);clear c5;(first|rw [af]|(simp only [i64_w,i32_w];rw [af])|skip);obtain ⟨ad,A7,H⟩ := bE_ H;have H' := aM H;clear H
  rotate_left
  focus
   replace c4 := qO.mpr c4;subst c4;rw [if_neg qT] at H;have H' := aM H;clear H
  all_goals
   go_wp2_with (first|((with_reducible refine gate_callee (f := 121) rfl ?_);refine gl_ (some 6) Tryz.func121 #[.int .i64 (a0.size : Int),.int .i64 1,.int .i64 10] ?_;(with_reducible refine (Fbl.calls _ _ _ _ _ A3.out).mono ?_);rintro e w' ⟨rfl,⟨nd,rfl⟩⟩;refine ⟨_,rfl,?_⟩;have p01 : 0 ≤ (0 : Int) := (by omega);have q01 : 0 < a0.size := (by have : (0 : Int) < (a0.size : Int) := oD (by assumption);omega);have hx01 : ∀ h : 0 < a0.size,((a0[0]'h).toNat : Int) = bt a0 0 := bt_at a0 0;clear p01;have qi6 : (0 < (a0.size : Int)) = True := eq_true (oD (by assumption));replace q01 := eq_true q01)|((with_reducible refine gate_callee (f := 121) rfl ?_);refine gl_ (some 6) Tryz.func121 #[.int .i64 (a0.size : Int),.int .i64 1,.int .i64 10] ?_;(with_reducible refine (Fbl.calls _ _ _ _ _ A3.out).mono ?_);rintro e w' ⟨rfl,⟨nd,rfl⟩⟩;refine ⟨_,rfl,?_⟩)|(go_at_call 162;(with_reducible refine (FbJ.calls _ _ _ A7.out).mono ?_);rintro e w' ⟨rfl,⟨nd,rfl⟩⟩));go_meet
   case rel => first|(exact ⟨_,(!ad),vR_,H',⟨by first|omega|exact Nat.le_refl _⟩,dw_⟩)|(exact ⟨_,(true),vR_,H',⟨by first|omega|exact Nat.le_refl _⟩,dw_⟩)
 case rest =>
  clear HC2;obtain ⟨kq,ab,rfl,HA,HJ1,⟨mc1,rfl⟩⟩ := hcut
  cases kq with
  | zero => exact absurd HA.out (by simp [FaJ.j0])
  | succ kj1 =>
   have H := HA.out;clear HA;simp only [FaJ.j0] at H
   by_cases c8 : ab = true
   ·subst c8;rw [if_pos rfl] at H;obtain rfl := oI H;go_wp2;go_ret;exact ⟨vR_,dw_⟩
   ·replace c8 := qO.mpr c8;subst c8;rw [if_neg qT] at H;have H' := aM H;clear H;go_wp2;go_loopg [3] kj1 (fun kq v3 w' => ∃ (aa : Int),v3 = .int .i64 aa ∧ Aside0 (FaJ.l0 kq a0 aa = some r) ∧ Aside0 (kq ≤ kj1) ∧ Drawn0 w w')
    case atStart => exact ⟨(0),vR_,H',⟨Nat.le_refl _⟩,dw_⟩
    case round =>
     clear H';obtain ⟨aa,rfl,HA,al,⟨m2,rfl⟩⟩ := hrel
     cases gk with
     | zero => exact absurd HA.out (by simp [FaJ.l0])
     | succ k2 =>
      have H := HA.out;clear HA;simp only [FaJ.l0] at H
      by_cases c9 : aa < (a0.size : Int)
      focus
       rw [if_pos c9] at H;have aj := dT c9;clear c9
       by_cases c10 : 0 ≤ aa
       rotate_left;rw [if_neg c10] at H;exact nH_ H;rw [if_pos c10] at H;have c10b0 := dT c10;clear c10;obtain ⟨ak,an,H⟩ := bE_ H
       by_cases ai : ak = true
       focus
        subst ai;rw [if_pos rfl] at H;have H' := aM H;clear H
       rotate_left
       focus
        replace ai := qO.mpr ai;subst ai;rw [if_neg qT] at H
        by_cases c15 : (bt a0 aa) < 48
        focus
         rw [if_pos c15] at H;have ag := dT c15;clear c15;obtain rfl := oI H
        rotate_left
        focus
         rw [if_neg c15] at H;have ag := dF c15;clear c15
         by_cases ae : (bt a0 aa) > 57
         focus
          rw [if_pos ae] at H;have ah : decide (57 < (bt a0 aa)) = true := dT ae;clear ae;obtain rfl := oI H
         rotate_left
         focus
          rw [if_neg ae] at H;have ah : decide (57 < (bt a0 aa)) = false := dF ae;clear ae;have H' := aM H;clear H
      rotate_left 4
      focus
       rw [if_neg c9] at H;have aj := dF c9;clear c9;obtain rfl := oI H
      all_goals
       (try (have p02 : 0 ≤ (aa : Int) := oD (by assumption);have q02 : aa < (a0.size : Int) := oD (by assumption);have hx02 := bt_at a0 aa;replace p02 := eq_true p02;replace q02 := eq_true q02));go_wp2_with (first|((with_reducible refine gate_callee (f := 162) rfl ?_);refine gl_ (some 23) Tryz.func162 #[.int .u8 (bt a0 aa)] ?_;(with_reducible refine (FbJ.calls _ _ _ an.out).mono ?_);rintro e w' ⟨rfl,⟨nd,rfl⟩⟩;refine ⟨_,rfl,?_⟩;(try (have p02 : 0 ≤ (aa : Int) := oD (by assumption);have q02 : aa < (a0.size : Int) := oD (by assumption);have hx02 := bt_at a0 aa;replace p02 := eq_true p02;replace q02 := eq_true q02))))
       first
        |
         go_ret;exact ⟨vR_,dw_⟩
        |
         go_roundg k2
         case measure => have := HJ1.out;have := al.out;omega
         case rel => exact ⟨(wrap64 (aa + 1)),vR_,H',⟨by have := HJ1.out;have := al.out;omega⟩,dw_⟩
def Fb0.f (a0 : Int) : Option (Bool) := if a0 ≥ 65 then (some (decide (a0 ≤ 90))) else (some false)
theorem Fb0.calls (a0 : Int) (r : Bool) (w : World) (h : Fb0.f a0 = some r) :
  Calls Tryz.prog 211 #[.int .u8 a0] w fun e w' => e = .returned (.bool r) ∧ Drawn0 w w' := by
 have H : (if a0 ≥ 65 then (some (decide (a0 ≤ 90))) else (some false)) = some r := h;clear h
 by_cases c2 : a0 ≥ 65
 focus
  rw [if_pos c2] at H;have aa : decide (65 ≤ a0) = true := dT c2;clear c2;obtain rfl := oI H
 rotate_left
 focus
  rw [if_neg c2] at H;have aa : decide (65 ≤ a0) = false := dF c2;clear c2;obtain rfl := oI H
 all_goals
  go_enter Tryz.func211,Tryz.ntmps211;go_wp2;go_ret;exact ⟨vR_,dw_⟩
def Fbq.f (a0 : Int) : Option (Bool) := (Fb0.f a0).bind fun aa => (if aa = true then (some true) else ((FbJ.f a0).bind fun ab => (some ab)))
theorem Fbq.calls (a0 : Int) (r : Bool) (w : World) (h : Fbq.f a0 = some r) :
  Calls Tryz.prog 243 #[.int .u8 a0] w fun e w' => e = .returned (.bool r) ∧ Drawn0 w w' := by
 have H : ((Fb0.f a0).bind fun aa => (if aa = true then (some true) else ((FbJ.f a0).bind fun ab => (some ab)))) = some r := h;clear h;obtain ⟨aa,A2,H⟩ := bE_ H
 by_cases c3 : aa = true
 focus
  subst c3;rw [if_pos rfl] at H;obtain rfl := oI H
 rotate_left
 focus
  replace c3 := qO.mpr c3;subst c3;rw [if_neg qT] at H;obtain ⟨ab,A4,H⟩ := bE_ H;obtain rfl := oI H
 all_goals
  go_enter Tryz.func243,Tryz.ntmps243;go_wp2_with (first|((with_reducible refine gate_callee (f := 211) rfl ?_);refine gl_ (some 4) Tryz.func211 #[.int .u8 a0] ?_;(with_reducible refine (Fb0.calls _ _ _ A2.out).mono ?_);rintro e w' ⟨rfl,⟨nd,rfl⟩⟩;refine ⟨_,rfl,?_⟩)|(go_at_call 162;(with_reducible refine (FbJ.calls _ _ _ A4.out).mono ?_);rintro e w' ⟨rfl,⟨nd,rfl⟩⟩));go_ret;exact ⟨vR_,dw_⟩
mutual
def Fau.j0 : Nat → ByteArray → Bool → Option (Bool)
 | 0,_,_ => none
 | k + 1,x0,aa => if aa = true then (some false) else (Fau.l0 k x0 1)
def Fau.l0 : Nat → ByteArray → Int → Option (Bool)
 | 0,_,_ => none
 | k + 1,x0,x3 => if x3 < (x0.size : Int) then (if 0 ≤ x3 then ((Fbq.f (bt x0 x3)).bind fun aa => (if aa = true then (Fau.l0 k x0 (wrap64 (x3 + 1))) else (if (bt x0 x3) = 45 then (if 0 ≤ (wrap64 (x3 - 1)) then (if (wrap64 (x3 - 1)) < (x0.size : Int) then ((Fbq.f (bt x0 (wrap64 (x3 - 1)))).bind fun ab => (if ab = true then (Fau.l0 k x0 (wrap64 (x3 + 1))) else (some false))) else (none)) else (none)) else (if (bt x0 x3) = 39 then (if 0 ≤ (wrap64 (x3 - 1)) then (if (wrap64 (x3 - 1)) < (x0.size : Int) then ((Fbq.f (bt x0 (wrap64 (x3 - 1)))).bind fun ac => (if ac = true then (Fau.l0 k x0 (wrap64 (x3 + 1))) else (some false))) else (none)) else (none)) else (some false))))) else (none)) else (some true)
end
def Fau.f (k : Nat) (a0 : ByteArray) : Option (Bool) := (Fbl.f (a0.size : Int) 1 12).bind fun aa => (if aa = true then (if 0 < (a0.size : Int) then ((Fbq.f (bt a0 0)).bind fun ab => (if ab = true then (if 0 ≤ (wrap64 ((a0.size : Int) - 1)) then (if (wrap64 ((a0.size : Int) - 1)) < (a0.size : Int) then ((Fbq.f (bt a0 (wrap64 ((a0.size : Int) - 1)))).bind fun ac => (Fau.j0 k a0 (!ac))) else (none)) else (none)) else (Fau.j0 k a0 true))) else (none)) else (Fau.j0 k a0 true))
theorem Fau.mono_l : ∀ k,(∀ y0 y1,LeO (Fau.j0 k y0 y1) (Fau.j0 (k + 1) y0 y1)) ∧ (∀ y0 y1,LeO (Fau.l0 k y0 y1) (Fau.l0 (k + 1) y0 y1))
 | 0 => ⟨fun _ _ r h => by simp [Fau.j0] at h,fun _ _ r h => by simp [Fau.l0] at h⟩
 | k + 1 => by
  obtain ⟨ih0,ih1⟩ := Fau.mono_l k
  refine ⟨?_,?_⟩
  all_goals (intros;first|unfold Fau.j0|unfold Fau.l0)
  all_goals repeat' (first|with_reducible (first|exact ih0 _ _|exact ih1 _ _|exact LeO.refl _|exact LeO.none _|refine LeO.ite ?_ ?_|refine LeO.bind ?_ (fun _ => ?_))|exact LeO.none _|refine LeO.ite ?_ ?_|refine LeO.bind ?_ (fun _ => ?_))
theorem Fau.mono : ∀ a0 k,LeO (Fau.f k a0) (Fau.f (k + 1) a0) := by
 intro a0 k
 obtain ⟨ih0,ih1⟩ := Fau.mono_l k
 unfold Fau.f
 repeat' (first|with_reducible (first|exact ih0 _ _|exact ih1 _ _|exact LeO.refl _|exact LeO.none _|refine LeO.ite ?_ ?_|refine LeO.bind ?_ (fun _ => ?_))|exact LeO.none _|refine LeO.ite ?_ ?_|refine LeO.bind ?_ (fun _ => ?_))
theorem Fau.calls (k : Nat) (a0 : ByteArray) (r : Bool) (w : World) (h : Fau.f k a0 = some r) :
  Calls Tryz.prog 210 #[.string a0] w fun e w' => e = .returned (.bool r) ∧ Drawn0 w w' := by
 have H : ((Fbl.f (a0.size : Int) 1 12).bind fun aj => (if aj = true then (if 0 < (a0.size : Int) then ((Fbq.f (bt a0 0)).bind fun ak => (if ak = true then (if 0 ≤ (wrap64 ((a0.size : Int) - 1)) then (if (wrap64 ((a0.size : Int) - 1)) < (a0.size : Int) then ((Fbq.f (bt a0 (wrap64 ((a0.size : Int) - 1)))).bind fun ag => (Fau.j0 k a0 (!ag))) else (none)) else (none)) else (Fau.j0 k a0 true))) else (none)) else (Fau.j0 k a0 true))) = some r := h;clear h;have HC2 := aM H;clear H;go_enter Tryz.func210,Tryz.ntmps210;go_upto_region 1 with (fail);go_cut [22] (fun aW wc => ∃ (kq : Nat) (af : Bool),aW = .bool af ∧ Aside0 (Fau.j0 kq a0 af = some r) ∧ Aside0 (kq ≤ k) ∧ Drawn0 w wc)
 case first =>
  have H := HC2.out;clear HC2;obtain ⟨aj,A3,H⟩ := bE_ H
  by_cases c4 : aj = true
  focus
   subst c4;rw [if_pos rfl] at H
   by_cases c5 : 0 < (a0.size : Int)
   rotate_left;rw [if_neg c5] at H;exact nH_ H;rw [if_pos c5] at H;have ap := dT c5;have c5b1 : decide (0 < a0.size) = true := dT (by omega);clear c5;(first|rw [ap]|(simp only [i64_w,i32_w];rw [ap])|skip);obtain ⟨ak,A7,H⟩ := bE_ H
   by_cases c8 : ak = true
   focus
    subst c8;rw [if_pos rfl] at H;obtain ⟨ai,ah⟩ : ∃ j_ : Int,(wrap64 ((a0.size : Int) - 1)) = j_ := ⟨_,rfl⟩;replace H : (if 0 ≤ (ai) then (if (ai) < (a0.size : Int) then ((Fbq.f (bt a0 (ai))).bind fun ag => (Fau.j0 k a0 (!ag))) else (none)) else (none)) = some r := (by first|(rw [ah] at H;exact H)|(simp only [ah] at H ⊢;exact H));(try rw [ah] at A3);(try rw [ah] at A7);have hji9w : (IntKind.i64.wrap ((a0.size : Int) - 1)) = ai := (i64_w _).trans ah
    by_cases c10 : 0 ≤ (ai)
    rotate_left;rw [if_neg c10] at H;exact nH_ H;rw [if_pos c10] at H;have c10b0 := dT c10;clear c10
    by_cases aA : (ai) < (a0.size : Int)
    rotate_left;rw [if_neg aA] at H;exact nH_ H;rw [if_pos aA] at H;have c11b0 := dT aA;clear aA;obtain ⟨ag,aX,H⟩ := bE_ H;have H' := aM H;clear H
   rotate_left
   focus
    replace c8 := qO.mpr c8;subst c8;rw [if_neg qT] at H;have H' := aM H;clear H
  rotate_left 2
  focus
   replace c4 := qO.mpr c4;subst c4;rw [if_neg qT] at H;have H' := aM H;clear H
  all_goals
   go_wp2_with (first|((with_reducible refine gate_callee (f := 121) rfl ?_);refine gl_ (some 6) Tryz.func121 #[.int .i64 (a0.size : Int),.int .i64 1,.int .i64 12] ?_;(with_reducible refine (Fbl.calls _ _ _ _ _ A3.out).mono ?_);rintro e w' ⟨rfl,⟨nd,rfl⟩⟩;refine ⟨_,rfl,?_⟩;have p01 : 0 ≤ (0 : Int) := (by omega);have q01 : 0 < a0.size := (by have : (0 : Int) < (a0.size : Int) := oD (by assumption);omega);have hx01 : ∀ h : 0 < a0.size,((a0[0]'h).toNat : Int) = bt a0 0 := bt_at a0 0;clear p01;have qi6 : (0 < (a0.size : Int)) = True := eq_true (oD (by assumption));replace q01 := eq_true q01)|((with_reducible refine gate_callee (f := 121) rfl ?_);refine gl_ (some 6) Tryz.func121 #[.int .i64 (a0.size : Int),.int .i64 1,.int .i64 12] ?_;(with_reducible refine (Fbl.calls _ _ _ _ _ A3.out).mono ?_);rintro e w' ⟨rfl,⟨nd,rfl⟩⟩;refine ⟨_,rfl,?_⟩)|(go_at_call 243;(with_reducible refine (Fbq.calls _ _ _ A7.out).mono ?_);rintro e w' ⟨rfl,⟨nd,rfl⟩⟩;(try (have p02 : 0 ≤ ((ai) : Int) := oD (by assumption);have q02 : (ai) < (a0.size : Int) := oD (by assumption);have hx02 := bt_at a0 (ai);replace p02 := eq_true p02;replace q02 := eq_true q02)))|(go_at_call 243;(with_reducible refine (Fbq.calls _ _ _ aX.out).mono ?_);rintro e w' ⟨rfl,⟨nd,rfl⟩⟩));go_meet
   case rel => first|(exact ⟨_,(!ag),vR_,H',⟨by first|omega|exact Nat.le_refl _⟩,dw_⟩)|(exact ⟨_,(true),vR_,H',⟨by first|omega|exact Nat.le_refl _⟩,dw_⟩)
 case rest =>
  clear HC2;obtain ⟨kq,af,rfl,HA,HJ1,⟨mc1,rfl⟩⟩ := hcut
  cases kq with
  | zero => exact absurd HA.out (by simp [Fau.j0])
  | succ kj1 =>
   have H := HA.out;clear HA;simp only [Fau.j0] at H
   by_cases aC : af = true
   ·subst aC;rw [if_pos rfl] at H;obtain rfl := oI H;go_wp2;go_ret;exact ⟨vR_,dw_⟩
   ·replace aC := qO.mpr aC;subst aC;rw [if_neg qT] at H;have H' := aM H;clear H;go_wp2;go_loopg [3] kj1 (fun kq v3 w' => ∃ (aa : Int),v3 = .int .i64 aa ∧ Aside0 (Fau.l0 kq a0 aa = some r) ∧ Aside0 (kq ≤ kj1) ∧ Drawn0 w w')
    case atStart => exact ⟨(1),vR_,H',⟨Nat.le_refl _⟩,dw_⟩
    case round =>
     clear H';obtain ⟨aa,rfl,HA,aQ,⟨m2,rfl⟩⟩ := hrel
     cases gk with
     | zero => exact absurd HA.out (by simp [Fau.l0])
     | succ k2 =>
      have H := HA.out;clear HA;simp only [Fau.l0] at H
      by_cases c15 : aa < (a0.size : Int)
      focus
       rw [if_pos c15] at H;have ar := dT c15;clear c15
       by_cases aD : 0 ≤ aa
       rotate_left;rw [if_neg aD] at H;exact nH_ H;rw [if_pos aD] at H;have c16b0 := dT aD;clear aD;obtain ⟨aN,aO,H⟩ := bE_ H
       by_cases aE : aN = true
       focus
        subst aE;rw [if_pos rfl] at H;have H' := aM H;clear H
       rotate_left
       focus
        replace aE := qO.mpr aE;subst aE;rw [if_neg qT] at H
        by_cases al : (bt a0 aa) = 45
        focus
         rw [if_pos al] at H;have au := qE.mpr al;have av := qN.mpr al;clear al;obtain ⟨ab,ad⟩ : ∃ j_ : Int,(wrap64 (aa - 1)) = j_ := ⟨_,rfl⟩;replace H : (if 0 ≤ (ab) then (if (ab) < (a0.size : Int) then ((Fbq.f (bt a0 (ab))).bind fun am => (if am = true then (Fau.l0 k2 a0 (wrap64 (aa + 1))) else (some false))) else (none)) else (none)) = some r := (by first|(rw [ad] at H;exact H)|(simp only [ad] at H ⊢;exact H));(try rw [ad] at aO);have hji22w : (IntKind.i64.wrap (aa - 1)) = ab := (i64_w _).trans ad
         by_cases aF : 0 ≤ (ab)
         rotate_left;rw [if_neg aF] at H;exact nH_ H;rw [if_pos aF] at H;have c23b0 := dT aF;clear aF
         by_cases aG : (ab) < (a0.size : Int)
         rotate_left;rw [if_neg aG] at H;exact nH_ H;rw [if_pos aG] at H;have c24b0 := dT aG;clear aG;obtain ⟨am,aY,H⟩ := bE_ H
         by_cases aH : am = true
         focus
          subst aH;rw [if_pos rfl] at H;have H' := aM H;clear H
         rotate_left
         focus
          replace aH := qO.mpr aH;subst aH;rw [if_neg qT] at H;obtain rfl := oI H
        rotate_left 2
        focus
         rw [if_neg al] at H;have au := qF.mpr al;have av := qB.mpr al
         by_cases an : (bt a0 aa) = 39
         focus
          rw [if_pos an] at H;have aw := qE.mpr an;have ax := qN.mpr an;clear an;obtain ⟨ac,ae⟩ : ∃ j_ : Int,(wrap64 (aa - 1)) = j_ := ⟨_,rfl⟩;replace H : (if 0 ≤ (ac) then (if (ac) < (a0.size : Int) then ((Fbq.f (bt a0 (ac))).bind fun ao => (if ao = true then (Fau.l0 k2 a0 (wrap64 (aa + 1))) else (some false))) else (none)) else (none)) = some r := (by first|(rw [ae] at H;exact H)|(simp only [ae] at H ⊢;exact H));(try rw [ae] at aO);have hji30w : (IntKind.i64.wrap (aa - 1)) = ac := (i64_w _).trans ae
          by_cases aJ : 0 ≤ (ac)
          rotate_left;rw [if_neg aJ] at H;exact nH_ H;rw [if_pos aJ] at H;have c31b0 := dT aJ;clear aJ
          by_cases aK : (ac) < (a0.size : Int)
          rotate_left;rw [if_neg aK] at H;exact nH_ H;rw [if_pos aK] at H;have c32b0 := dT aK;clear aK;obtain ⟨ao,aZ,H⟩ := bE_ H
          by_cases aL : ao = true
          focus
           subst aL;rw [if_pos rfl] at H;have H' := aM H;clear H
          rotate_left
          focus
           replace aL := qO.mpr aL;subst aL;rw [if_neg qT] at H;obtain rfl := oI H
         rotate_left 2
         focus
          rw [if_neg an] at H;have aw := qF.mpr an;have ax := qB.mpr an;obtain rfl := oI H
      rotate_left 6
      focus
       rw [if_neg c15] at H;have ar := dF c15;clear c15;obtain rfl := oI H
      all_goals
       (try (have ay : 0 ≤ (aa : Int) := oD (by assumption);have az : aa < (a0.size : Int) := oD (by assumption);have aP := bt_at a0 aa;replace ay := eq_true ay;replace az := eq_true az));go_wp2_with (first|((with_reducible refine gate_callee (f := 243) rfl ?_);refine gl_ (some 32) Tryz.func243 #[.int .u8 (bt a0 aa)] ?_;(with_reducible refine (Fbq.calls _ _ _ aO.out).mono ?_);rintro e w' ⟨rfl,⟨nd,rfl⟩⟩;refine ⟨_,rfl,?_⟩;(try (have ay : 0 ≤ (aa : Int) := oD (by assumption);have az : aa < (a0.size : Int) := oD (by assumption);have aP := bt_at a0 aa;replace ay := eq_true ay;replace az := eq_true az));(try (have aR : 0 ≤ ((ab) : Int) := oD (by assumption);have aT : (ab) < (a0.size : Int) := oD (by assumption);have hx04 := bt_at a0 (ab);replace aR := eq_true aR;replace aT := eq_true aT));(try (have aU : 0 ≤ ((ac) : Int) := oD (by assumption);have aV : (ac) < (a0.size : Int) := oD (by assumption);have hx05 := bt_at a0 (ac);replace aU := eq_true aU;replace aV := eq_true aV)))|(go_at_call 243;(with_reducible refine (Fbq.calls _ _ _ aZ.out).mono ?_);rintro e w' ⟨rfl,⟨nd,rfl⟩⟩)|(go_at_call 243;(with_reducible refine (Fbq.calls _ _ _ aY.out).mono ?_);rintro e w' ⟨rfl,⟨nd,rfl⟩⟩))
       first
        |
         go_roundg k2
         case measure => have := HJ1.out;have := aQ.out;omega
         case rel => exact ⟨(wrap64 (aa + 1)),vR_,H',⟨by have := HJ1.out;have := aQ.out;omega⟩,dw_⟩
        |
         go_ret;(first|exact ⟨by first|rfl|(simp;done)|(simp [my_isEmpty];done)|(simp only [← ad] <;> (first|rfl|simp))|(simp [*];done),dw_⟩|exact ⟨by first|rfl|(simp;done)|(simp [my_isEmpty];done)|(simp only [← ae] <;> (first|rfl|simp))|(simp [*];done),dw_⟩|exact ⟨vR_,dw_⟩)
end Go.Proofs.YtmafmhgmdegplaaGreatDoor.P
