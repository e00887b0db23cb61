/- Walks: each Go function computes the Lean function beside it; conditions: those of each theorem. -/
import Derived.Test.YtmafmhgmdegplaaGreatDoorZPx0
import Derived.Test.YtmafmhgmdegplaaGreatDoorZPx3
namespace Go.Proofs.YtmafmhgmdegplaaGreatDoor.P
open Go.RowKit Go.Proofs.YtmafmhgmdegplaaGreatDoorW.PrintWords Go.Proofs.YtmafmhgmdegplaaGreatDoorW.PrintLast Go.Proofs.YtmafmhgmdegplaaGreatDoorW.PrintMore
attribute [local go_sem] max2_int min2_int max_two min_two max_three min_three max_four min_four   -- for this text's walks alone
set_option linter.unusedVariables false
set_option linter.unusedSimpArgs false
set_option maxHeartbeats 8000000
set_option maxRecDepth 100000
def FaC.l0 : Nat → List (S157) → List (S157) → Int → Option (Bool)
 | 0,_,_,_ => none
 | k + 1,x0,x1,x5 => if x5 < (x0.length : Int) then (if 0 ≤ x5 then (if x5 < (x1.length : Int) then ((FbN.f k ((Fas x0 x5).f0) ((Fas x0 x5).f1) ((Fas x0 x5).f2) ((Fas x0 x5).f3) ((Fas x1 x5).f0) ((Fas x1 x5).f1) ((Fas x1 x5).f2) ((Fas x1 x5).f3)).bind fun aa => (if aa = true then (FaC.l0 k x0 x1 (wrap64 (x5 + 1))) else (some false))) else (none)) else (none)) else (some true)
def FaC.f (k : Nat) (l0 : List (S157)) (l1 : List (S157)) : Option (Bool) := if (l0.length : Int) = (l1.length : Int) then (FaC.l0 k l0 l1 0) else (some false)
theorem FaC.mono_l : ∀ k,(∀ y0 y1 y2,LeO (FaC.l0 k y0 y1 y2) (FaC.l0 (k + 1) y0 y1 y2))
 | 0 => fun _ _ _ r h => by simp [FaC.l0] at h
 | k + 1 => by
  have ih0 := FaC.mono_l k
  ·intro y0 y1 y2
   unfold FaC.l0
   repeat' (first|with_reducible (first|exact ih0 _ _ _|exact FbN.mono _ _ _ _ _ _ _ _ _|exact LeO.refl _|exact LeO.none _|refine LeO.ite ?_ ?_|refine LeO.bind ?_ (fun _ => ?_))|exact LeO.none _|refine LeO.ite ?_ ?_|refine LeO.bind ?_ (fun _ => ?_))
theorem FaC.mono : ∀ a0 a1 k,LeO (FaC.f k a0 a1) (FaC.f (k + 1) a0 a1) := by
 intro a0 a1 k
 have ih0 := FaC.mono_l k
 unfold FaC.f
 repeat' (first|with_reducible (first|exact ih0 _ _ _|exact FbN.mono _ _ _ _ _ _ _ _ _|exact LeO.refl _|exact LeO.none _|refine LeO.ite ?_ ?_|refine LeO.bind ?_ (fun _ => ?_))|exact LeO.none _|refine LeO.ite ?_ ?_|refine LeO.bind ?_ (fun _ => ?_))
def FaC.T6 : Bool × List (List Nat × List Nat) := (true,[([],[]),([],[]),([0,1],[0,1]),([2],[2]),([],[]),([],[]),([4,5],[4,5]),([6],[6]),([3,7],[3,7]),([8],[8])])
def FaC.B6 : List Nat := [0,0,3,7,0,0,48,112,255,511]
theorem FaC.tab6 : rtab .any (opsOf Tryz.f68 6) = FaC.T6 := by kernel_rfl
theorem FaC.bits6 : waitsOk FaC.T6.2 FaC.B6 = true := by kernel_rfl
theorem FaC.calls (k : Nat) (A0 : Option Addr) (c0 : Nat) (l0 : List (S157)) (A1 : Option Addr) (c1 : Nat) (l1 : List (S157)) (r : Bool) (w : World) (aV : Kd.C k157 w A0 l0.length l0) (aW : l0.length ≤ c0) (aX : Kd.C k157 w A1 l1.length l1) (aY : l1.length ≤ c1) (h : FaC.f k l0 l1 = some r) :
  Calls Tryz.prog 68 #[.slice A0 l0.length c0,.slice A1 l1.length c1] w fun e w' => e = .returned (.bool r) ∧ Below w.heap.size w w' := by
 have hu157 := Tryz.underlying157;have a0 := aM aV;have HC0 := aM aW;clear aV aW;have a1 := aM aX;have HC1 := aM aY;clear aX aY;have HB := aM (Below.refl w.heap.size w);have H : (if (l0.length : Int) = (l1.length : Int) then (FaC.l0 k l0 l1 0) else (some false)) = some r := h;clear h
 by_cases c3 : (l0.length : Int) = (l1.length : Int)
 ·rw [if_pos c3] at H;have aK := qE.mpr c3;have aL := qN.mpr c3;have aN : (l0.length == l1.length) = true := (by first|simpa using c3|(simp at c3 ⊢;omega));clear c3;have H' := aM H;clear H;go_enter Tryz.func68,Tryz.ntmps68;go_wp2;go_loopg [5] k (fun kq v5 w' => ∃ (aa : Int),v5 = .int .i64 aa ∧ Aside0 (FaC.l0 kq l0 l1 aa = some r) ∧ Aside0 (kq ≤ k) ∧ Aside0 (Below w.heap.size w w'))
  case atStart => exact ⟨(0),vR_,H',⟨Nat.le_refl _⟩,⟨wB_⟩⟩
  case round =>
   clear H';obtain ⟨aa,rfl,HA,aZ,HB⟩ := hrel
   cases gk with
   | zero => exact absurd HA.out (by simp [FaC.l0])
   | succ k1 =>
    have H := HA.out;clear HA;simp only [FaC.l0] at H
    by_cases c4 : aa < (l0.length : Int)
    focus
     rw [if_pos c4] at H;have aO := dT c4;clear c4
     by_cases c5 : 0 ≤ aa
     rotate_left;rw [if_neg c5] at H;exact nH_ H;rw [if_pos c5] at H;have c5b0 := dT c5;clear c5
     by_cases c6 : aa < (l1.length : Int)
     rotate_left;rw [if_neg c6] at H;exact nH_ H;rw [if_pos c6] at H;have c6b0 := dT c6;clear c6;obtain ⟨aP,A7,H⟩ := bE_ H
     by_cases c8 : aP = true
     focus
      subst c8;rw [if_pos rfl] at H;have H' := aM H;clear H
     rotate_left
     focus
      replace c8 := qO.mpr c8;subst c8;rw [if_neg qT] at H;obtain rfl := oI H
    rotate_left 2
    focus
     rw [if_neg c4] at H;have aO := dF c4;clear c4;obtain rfl := oI H
    all_goals
     (try go_wp2)
     first
      |
       go_ret;exact ⟨vR_,wB_⟩
      |
       replace HB := aM (lD HB.out);have aQ : 0 ≤ (aa : Int) := oD (by assumption);have aR : aa < (l0.length : Int) := oD (by assumption);obtain ⟨aj,aD,aE,a2,ab,ac,ad,ae,al,am⟩ := Fcf a0.out aa aQ aR;have an := ae;have ao := ad;have ap := ac;have ar := ab;cases a2;replace ab := mv_ HB.out ab;replace ac := mv_ HB.out ac;replace ad := mv_ HB.out ad;replace ae := mv_ HB.out ae;have au := aM am;have aH := aM al;clear am al;replace aQ := eq_true aQ;replace aR := eq_true aR;have aT : 0 ≤ (aa : Int) := oD (by assumption);have aU : aa < (l1.length : Int) := oD (by assumption);obtain ⟨ak,aF,aG,a3,af,ag,ah,ai,av,aw⟩ := Fcf a1.out aa aT aU;have ax := ai;have ay := ah;have az := ag;have aA := af;cases a3;replace af := mv_ HB.out af;replace ag := mv_ HB.out ag;replace ah := mv_ HB.out ah;replace ai := mv_ HB.out ai;have aC := aM aw;have aJ := aM av;clear aw av;replace aT := eq_true aT;replace aU := eq_true aU;refine start_ (n := 10) (S := fun w' => w'.cell? (aj.add ((aa).toNat * 4)) = some (.slice aD ((Fas l0 aa).f0).length aE) ∧ w'.cell? ⟨(aj.add ((aa).toNat * 4)).block,(aj.add ((aa).toNat * 4)).off + 1,none⟩ = some (.string ((Fas l0 aa).f1)) ∧ w'.cell? ⟨(aj.add ((aa).toNat * 4)).block,(aj.add ((aa).toNat * 4)).off + 2,none⟩ = some (.string ((Fas l0 aa).f2)) ∧ w'.cell? ⟨(aj.add ((aa).toNat * 4)).block,(aj.add ((aa).toNat * 4)).off + 3,none⟩ = some (.string ((Fas l0 aa).f3)) ∧ w'.cell? (ak.add ((aa).toNat * 4)) = some (.slice aF ((Fas l1 aa).f0).length aG) ∧ w'.cell? ⟨(ak.add ((aa).toNat * 4)).block,(ak.add ((aa).toNat * 4)).off + 1,none⟩ = some (.string ((Fas l1 aa).f1)) ∧ w'.cell? ⟨(ak.add ((aa).toNat * 4)).block,(ak.add ((aa).toNat * 4)).off + 2,none⟩ = some (.string ((Fas l1 aa).f2)) ∧ w'.cell? ⟨(ak.add ((aa).toNat * 4)).block,(ak.add ((aa).toNat * 4)).off + 3,none⟩ = some (.string ((Fas l1 aa).f3))) (ds := []) (mk_ 10 0) (by kernel_rfl) rfl (by kernel_rfl) ⟨mv_ HB.out ar,mv_ HB.out ap,mv_ HB.out ao,mv_ HB.out an,mv_ HB.out aA,mv_ HB.out az,mv_ HB.out ay,mv_ HB.out ax⟩ (fun hHeld => ?_);refine with_tabW FaC.tab6 FaC.bits6 (fun HT_ HW_ => ?_);generalize wr.drew = wk0 at HB au aC ab ac ad ae af ag ah ai hHeld ⊢;refine pV_ (i := 0) (N := some 17) (mk_ 10 1) rfl rfl HT_.out ?_;refine pV_ (i := 1) (N := some 18) (mk_ 10 3) rfl rfl HT_.out ?_;refine pV_ (i := 2) (N := some 19) (mk_ 10 7) rfl rfl HT_.out ?_;refine pV_ (i := 4) (N := some 21) (mk_ 10 23) rfl rfl HT_.out ?_;refine pV_ (i := 5) (N := some 22) (mk_ 10 55) rfl rfl HT_.out ?_;refine pV_ (i := 6) (N := some 23) (mk_ 10 119) rfl rfl HT_.out ?_;refine tV_ (i := 3) (N := some 20) (mk_ 10 127) rfl rfl HT_.out HW_.out hHeld ?_;refine tV_ (i := 7) (N := some 24) (mk_ 10 255) rfl rfl HT_.out HW_.out hHeld ?_;refine one_ (i := 8) (N := some 25) (mk_ 10 511) rfl rfl (one_of HT_.out (by kernel_rfl)) (by decide) (fun K hK => ?_);refine gs_ Tryz.func132 #[.agg #[.slice aD ((Fas l0 aa).f0).length aE,.string ((Fas l0 aa).f1),.string ((Fas l0 aa).f2),.string ((Fas l0 aa).f3)],.agg #[.slice aF ((Fas l1 aa).f0).length aG,.string ((Fas l1 aa).f1),.string ((Fas l1 aa).f2),.string ((Fas l1 aa).f3)]] ?_;(with_reducible refine (FbN.calls _ _ _ _ _ _ _ _ _ _ _ _ _ _ _ ?side1 ?side2 ?side3 ?side4 A7.out).mono ?_);(case side1 => exact wX_ au.out);(case side2 => exact aH.out);(case side3 => exact wX_ aC.out);(case side4 => exact aJ.out);rintro e wk1 ⟨rfl,hb⟩;refine ⟨_,rfl,?_⟩;replace HB := aM (lT wB_ hb);refine hK.out _ _ ⟨mv_ HB.out ar,mv_ HB.out ap,mv_ HB.out ao,mv_ HB.out an,mv_ HB.out aA,mv_ HB.out az,mv_ HB.out ay,mv_ HB.out ax⟩ (fun hHeld => ?_);clear hK K;refine norm_ (a' := ?_) ?_ ?_;rotate_left;show Act.put _ (some 25) _ = _;simp only [Act.put,lI,sZ,sS,i64_w,i32_w];rfl;refine pV_ (i := 9) (N := some 26) (mk_ 10 1023) rfl rfl HT_.out ?_;refine done_ (done_of HT_.out (by kernel_rfl)) ?_;(try go_wp2)
       first
        |
         go_ret;exact ⟨vR_,wB_⟩
        |
         go_roundg k1
         case measure => have := aZ.out;omega
         case rel => exact ⟨(wrap64 (aa + 1)),vR_,H',⟨by have := aZ.out;omega⟩,⟨wB_⟩⟩
 ·rw [if_neg c3] at H;have aK := qF.mpr c3;have aL := qB.mpr c3;have aN : (l0.length == l1.length) = false := (by first|simpa using c3|(simp at c3 ⊢;omega));obtain rfl := oI H;go_enter Tryz.func68,Tryz.ntmps68;go_wp2;go_ret;exact ⟨vR_,wB_⟩
def Fcc.f (aa : Int) (ab : Int) (ac : Int) (ad : Bool) (ae : Int) (af : Int) (ag : Int) (ah : Bool) : Option (Bool) := if aa = ae then (if ab = af then (if ac = ag then (if (ad != ah) = true then (some false) else (some true)) else (some false)) else (some false)) else (some false)
theorem Fcc.calls (af : Int) (ag : Int) (ah : Int) (aa : Bool) (ai : Int) (aj : Int) (ak : Int) (ab : Bool) (r : Bool) (w : World) (h : Fcc.f af ag ah aa ai aj ak ab = some r) :
  Calls Tryz.prog 69 #[.agg #[.int .i64 af,.int .i64 ag,.int .i64 ah,.bool aa],.agg #[.int .i64 ai,.int .i64 aj,.int .i64 ak,.bool ab]] w fun e w' => e = .returned (.bool r) ∧ Below w.heap.size w w' := by
 have hu39 := Tryz.underlying39;have HB := aM (Below.refl w.heap.size w);have H : (if af = ai then (if ag = aj then (if ah = ak then (if (aa != ab) = true then (some false) else (some true)) else (some false)) else (some false)) else (some false)) = some r := h;clear h
 by_cases c3 : af = ai
 focus
  rw [if_pos c3] at H;have ar := qE.mpr c3;have au := qN.mpr c3;clear c3
  by_cases c4 : ag = aj
  focus
   rw [if_pos c4] at H;have av := qE.mpr c4;have aw := qN.mpr c4;clear c4
   by_cases c5 : ah = ak
   focus
    rw [if_pos c5] at H;have ax := qE.mpr c5;have ay := qN.mpr c5;clear c5
    by_cases c6 : (aa != ab) = true
    focus
     rw [if_pos c6] at H;have az : (aa != ab) = true := c6;(try (have aA : decide (aa = ab) = false := by simpa using c6));(try (have aC : (aa == ab) = false := by simpa using c6));(try (have c6b3 : ¬ (aa = ab) := by simpa using c6));clear c6;obtain rfl := oI H
    rotate_left
    focus
     rw [if_neg c6] at H;have az : (aa != ab) = false := (by simpa using c6);(try (have aA : decide (aa = ab) = true := by simpa using c6));(try (have aC : (aa == ab) = true := by simpa using c6));clear c6;obtain rfl := oI H
   rotate_left 2
   focus
    rw [if_neg c5] at H;have ax := qF.mpr c5;have ay := qB.mpr c5;obtain rfl := oI H
  rotate_left 3
  focus
   rw [if_neg c4] at H;have av := qF.mpr c4;have aw := qB.mpr c4;obtain rfl := oI H
 rotate_left 4
 focus
  rw [if_neg c3] at H;have ar := qF.mpr c3;have au := qB.mpr c3;obtain rfl := oI H
 all_goals
  go_enter Tryz.func69,Tryz.ntmps69;go_wp2_with (first|((with_reducible refine gate_dst (N := 2) rfl ?_);refine bx_ (N := 2) (cs := #[.int .i64 af,.int .i64 ag,.int .i64 ah,.bool aa]) (t := 39) ?_;intro al hg Wgb188 hbox hb;have ac := aM (hbox);have am := aM ((by rw [hg];exact (lZ wB_) : w.heap.size ≤ al));have GE188 := am;replace HB := aM (lT wB_ hb);clear hb hbox hg)|((with_reducible refine gate_dst (N := 3) rfl ?_);refine bx_ (N := 3) (cs := #[.int .i64 ai,.int .i64 aj,.int .i64 ak,.bool ab]) (t := 39) ?_;intro an hg Wgb189 hbox hb;have ao := aM (hbox);have ap := aM ((by rw [hg];exact (lZ wB_) : w.heap.size ≤ an));have GE189 := ap;have ad := aM (nl_ hg ac.out);have ae := aM (ng_ hg ac.out);replace ac := aM (bw_ ac.out hb);replace HB := aM (lT wB_ hb);clear hb hbox hg;have hnby188_189 := ad.out;have hncy189_188 := ae.out;obtain ⟨_,_,_,_,_,_,_,_⟩ := z4_ ac.out;obtain ⟨_,_,_,_,_,_,_,_⟩ := z4_ ao.out));go_ret;exact ⟨vR_,wB_⟩
def FbC.f (k : Nat) (ai : ByteArray) (aj : Int) (ak : List (S157)) (al : List (S157)) (am : ByteArray) (an : ByteArray) (ao : ByteArray) (ap : Int) (ar : Int) (au : Int) (aa : Bool) (ab : Int) (ac : ByteArray) (ad : ByteArray) (av : ByteArray) (aw : Int) (ax : List (S157)) (ay : List (S157)) (az : ByteArray) (aA : ByteArray) (aC : ByteArray) (aD : Int) (aE : Int) (aF : Int) (ae : Bool) (af : Int) (ag : ByteArray) (ah : ByteArray) : Option (Bool) := if ai.toList = av.toList then (if aj = aw then ((FaC.f k ak ax).bind fun aG => (if aG = true then ((FaC.f k al ay).bind fun aH => (if aH = true then (if am.toList = az.toList then (if an.toList = aA.toList then (if ao.toList = aC.toList then ((Fcc.f ap ar au aa aD aE aF ae).bind fun aJ => (if aJ = true then (if ab = af then (if ac.toList = ag.toList then (if ad.toList = ah.toList then (some true) else (some false)) else (some false)) else (some false)) else (some false))) else (some false)) else (some false)) else (some false)) else (some false))) else (some false))) else (some false)) else (some false)
theorem FbC.mono : ∀ a0 a1 a2 a3 a4 a5 a6 a7 a8 a9 aa ab ac ad ae af ag ah ai aj ak al am an ao ap ar au k,LeO (FbC.f k a0 a1 a2 a3 a4 a5 a6 a7 a8 a9 aa ab ac ad ae af ag ah ai aj ak al am an ao ap ar au) (FbC.f (k + 1) a0 a1 a2 a3 a4 a5 a6 a7 a8 a9 aa ab ac ad ae af ag ah ai aj ak al am an ao ap ar au) := by
 intro a0 a1 a2 a3 a4 a5 a6 a7 a8 a9 aa ab ac ad ae af ag ah ai aj ak al am an ao ap ar au k
 unfold FbC.f
 repeat' (first|with_reducible (first|exact FaC.mono _ _ _|exact LeO.refl _|exact LeO.none _|refine LeO.ite ?_ ?_|refine LeO.bind ?_ (fun _ => ?_))|exact LeO.none _|refine LeO.ite ?_ ?_|refine LeO.bind ?_ (fun _ => ?_))
theorem FbC.calls (k : Nat) (ar : ByteArray) (au : Int) (aL : Option Addr) (aN : Nat) (ac : List (S157)) (aO : Option Addr) (aP : Nat) (ad : List (S157)) (av : ByteArray) (aw : ByteArray) (ax : ByteArray) (ay : Int) (az : Int) (aA : Int) (ae : Bool) (af : Int) (ag : ByteArray) (ah : ByteArray) (aC : ByteArray) (aD : Int) (aQ : Option Addr) (aR : Nat) (ai : List (S157)) (aT : Option Addr) (aU : Nat) (aj : List (S157)) (aE : ByteArray) (aF : ByteArray) (aG : ByteArray) (aH : Int) (aJ : Int) (aK : Int) (ak : Bool) (al : Int) (am : ByteArray) (an : ByteArray) (r : Bool) (w : World) (aV : Kd.C k157 w aL ac.length ac) (aW : ac.length ≤ aN) (aX : Kd.C k157 w aO ad.length ad) (aY : ad.length ≤ aP) (aZ : Kd.C k157 w aQ ai.length ai) (a0 : ai.length ≤ aR) (a1 : Kd.C k157 w aT aj.length aj) (a2 : aj.length ≤ aU) (h : FbC.f k ar au ac ad av aw ax ay az aA ae af ag ah aC aD ai aj aE aF aG aH aJ aK ak al am an = some r) :
  Calls Tryz.prog 16 #[.agg #[.string ar,.int .i64 au,.slice aL ac.length aN,.slice aO ad.length aP,.string av,.string aw,.string ax,.int .i64 ay,.int .i64 az,.int .i64 aA,.bool ae,.int .i64 af,.string ag,.string ah],.agg #[.string aC,.int .i64 aD,.slice aQ ai.length aR,.slice aT aj.length aU,.string aE,.string aF,.string aG,.int .i64 aH,.int .i64 aJ,.int .i64 aK,.bool ak,.int .i64 al,.string am,.string an]] w fun e w' => e = .returned (.bool r) ∧ Below w.heap.size w w' := by
 have hu41 := Tryz.underlying41;have hu39 := Tryz.underlying39;have ba := aM aV;have bb := aM aW;clear aV aW;have bc := aM aX;have bd := aM aY;clear aX aY;have be := aM aZ;have bf := aM a0;clear aZ a0;have bg := aM a1;have bh := aM a2;clear a1 a2;have HB := aM (Below.refl w.heap.size w);have H : (if ar.toList = aC.toList then (if au = aD then ((FaC.f k ac ai).bind fun a3 => (if a3 = true then ((FaC.f k ad aj).bind fun a4 => (if a4 = true then (if av.toList = aE.toList then (if aw.toList = aF.toList then (if ax.toList = aG.toList then ((Fcc.f ay az aA ae aH aJ aK ak).bind fun a5 => (if a5 = true then (if af = al then (if ag.toList = am.toList then (if ah.toList = an.toList then (some true) else (some false)) else (some false)) else (some false)) else (some false))) else (some false)) else (some false)) else (some false)) else (some false))) else (some false))) else (some false)) else (some false)) = some r := h;clear h
 by_cases c3 : ar.toList = aC.toList
 focus
  rw [if_pos c3] at H;have bB := qE.mpr c3;have bE := qN.mpr c3;clear c3
  by_cases c4 : au = aD
  focus
   rw [if_pos c4] at H;have bG := qE.mpr c4;have bH := qN.mpr c4;clear c4;obtain ⟨a3,A5,H⟩ := bE_ H
   by_cases c6 : a3 = true
   focus
    subst c6;rw [if_pos rfl] at H;obtain ⟨a4,A7,H⟩ := bE_ H
    by_cases c8 : a4 = true
    focus
     subst c8;rw [if_pos rfl] at H
     by_cases c9 : av.toList = aE.toList
     focus
      rw [if_pos c9] at H;have bI := qE.mpr c9;have bJ := qN.mpr c9;clear c9
      by_cases c10 : aw.toList = aF.toList
      focus
       rw [if_pos c10] at H;have bi := qE.mpr c10;have bj := qN.mpr c10;clear c10
       by_cases a6 : ax.toList = aG.toList
       focus
        rw [if_pos a6] at H;have bk := qE.mpr a6;have bl := qN.mpr a6;clear a6;obtain ⟨a5,bK,H⟩ := bE_ H
        by_cases bz : a5 = true
        focus
         subst bz;rw [if_pos rfl] at H
         by_cases a7 : af = al
         focus
          rw [if_pos a7] at H;have bm := qE.mpr a7;have bn := qN.mpr a7;clear a7
          by_cases a8 : ag.toList = am.toList
          focus
           rw [if_pos a8] at H;have bo := qE.mpr a8;have bp := qN.mpr a8;clear a8
           by_cases a9 : ah.toList = an.toList
           focus
            rw [if_pos a9] at H;have bq := qE.mpr a9;have br := qN.mpr a9;clear a9;obtain rfl := oI H
           rotate_left
           focus
            rw [if_neg a9] at H;have bq := qF.mpr a9;have br := qB.mpr a9;obtain rfl := oI H
          rotate_left 2
          focus
           rw [if_neg a8] at H;have bo := qF.mpr a8;have bp := qB.mpr a8;obtain rfl := oI H
         rotate_left 3
         focus
          rw [if_neg a7] at H;have bm := qF.mpr a7;have bn := qB.mpr a7;obtain rfl := oI H
        rotate_left 4
        focus
         replace bz := qO.mpr bz;subst bz;rw [if_neg qT] at H;obtain rfl := oI H
       rotate_left 5
       focus
        rw [if_neg a6] at H;have bk := qF.mpr a6;have bl := qB.mpr a6;obtain rfl := oI H
      rotate_left 6
      focus
       rw [if_neg c10] at H;have bi := qF.mpr c10;have bj := qB.mpr c10;obtain rfl := oI H
     rotate_left 7
     focus
      rw [if_neg c9] at H;have bI := qF.mpr c9;have bJ := qB.mpr c9;obtain rfl := oI H
    rotate_left 8
    focus
     replace c8 := qO.mpr c8;subst c8;rw [if_neg qT] at H;obtain rfl := oI H
   rotate_left 9
   focus
    replace c6 := qO.mpr c6;subst c6;rw [if_neg qT] at H;obtain rfl := oI H
  rotate_left 10
  focus
   rw [if_neg c4] at H;have bG := qF.mpr c4;have bH := qB.mpr c4;obtain rfl := oI H
 rotate_left 11
 focus
  rw [if_neg c3] at H;have bB := qF.mpr c3;have bE := qB.mpr c3;obtain rfl := oI H
 all_goals
  go_enter Tryz.func16,Tryz.ntmps16;go_wp2_with (first|((with_reducible refine gate_dst (N := 2) rfl ?_);refine bx_ (N := 2) (cs := #[.string ar,.int .i64 au,.slice aL ac.length aN,.slice aO ad.length aP,.string av,.string aw,.string ax,.int .i64 ay,.int .i64 az,.int .i64 aA,.bool ae,.int .i64 af,.string ag,.string ah]) (t := 41) ?_;intro bs hg Wgb190 hbox hb;have aa := aM (hbox);have bu := aM ((by rw [hg];exact (lZ wB_) : w.heap.size ≤ bs));have GE190 := bu;replace HB := aM (lT wB_ hb);clear hb hbox hg)|((with_reducible refine gate_dst (N := 3) rfl ?_);refine bx_ (N := 3) (cs := #[.string aC,.int .i64 aD,.slice aQ ai.length aR,.slice aT aj.length aU,.string aE,.string aF,.string aG,.int .i64 aH,.int .i64 aJ,.int .i64 aK,.bool ak,.int .i64 al,.string am,.string an]) (t := 41) ?_;intro bv hg Wgb191 hbox hb;have ab := aM (hbox);have bw := aM ((by rw [hg];exact (lZ wB_) : w.heap.size ≤ bv));have GE191 := bw;have ao := aM (nl_ hg aa.out);have ap := aM (ng_ hg aa.out);replace aa := aM (bw_ aa.out hb);replace HB := aM (lT wB_ hb);clear hb hbox hg;have hnby190_191 := ao.out;have hncy191_190 := ap.out;obtain ⟨_,_,_,_,_,_,_,_,_,_,_,_,_,_,_,_,_,_,_,_,_,_,_,_,_,_,_,_⟩ := z14_ aa.out;obtain ⟨_,_,_,_,_,_,_,_,_,_,_,_,_,_,_,_,_,_,_,_,_,_,_,_,_,_,_,_⟩ := z14_ ab.out)|((with_reducible refine gate_callee (f := 68) rfl ?_);refine gl_ (some 19) Tryz.func68 #[.slice aL ac.length aN,.slice aQ ai.length aR] ?_;(with_reducible refine (FaC.calls _ _ _ _ _ _ _ _ _ ?side1 ?side2 ?side3 ?side4 A5.out).mono ?_);(case side1 => exact wX_ ba.out);(case side2 => exact bb.out);(case side3 => exact wX_ be.out);(case side4 => exact bf.out);rintro e WA5 ⟨rfl,hb⟩;refine ⟨_,rfl,?_⟩;replace aa := aM (bw_ aa.out hb);replace ab := aM (bw_ ab.out hb);replace HB := aM (lT wB_ hb);obtain ⟨_,_,_,_,_,_,_,_,_,_,_,_,_,_,_,_,_,_,_,_,_,_,_,_,_,_,_,_⟩ := z14_ aa.out;obtain ⟨_,_,_,_,_,_,_,_,_,_,_,_,_,_,_,_,_,_,_,_,_,_,_,_,_,_,_,_⟩ := z14_ ab.out)|((with_reducible refine gate_callee (f := 68) rfl ?_);refine gl_ (some 25) Tryz.func68 #[.slice aO ad.length aP,.slice aT aj.length aU] ?_;(with_reducible refine (FaC.calls _ _ _ _ _ _ _ _ _ ?side1 ?side2 ?side3 ?side4 A7.out).mono ?_);(case side1 => exact wX_ bc.out);(case side2 => exact bd.out);(case side3 => exact wX_ bg.out);(case side4 => exact bh.out);rintro e WA7 ⟨rfl,hb⟩;refine ⟨_,rfl,?_⟩;replace aa := aM (bw_ aa.out hb);replace ab := aM (bw_ ab.out hb);replace HB := aM (lT wB_ hb);obtain ⟨_,_,_,_,_,_,_,_,_,_,_,_,_,_,_,_,_,_,_,_,_,_,_,_,_,_,_,_⟩ := z14_ aa.out;obtain ⟨_,_,_,_,_,_,_,_,_,_,_,_,_,_,_,_,_,_,_,_,_,_,_,_,_,_,_,_⟩ := z14_ ab.out)|((with_reducible refine gate_callee (f := 69) rfl ?_);refine gl_ (some 46) Tryz.func69 #[.agg #[.int .i64 ay,.int .i64 az,.int .i64 aA,.bool ae],.agg #[.int .i64 aH,.int .i64 aJ,.int .i64 aK,.bool ak]] ?_;(with_reducible refine (Fcc.calls _ _ _ _ _ _ _ _ _ _ bK.out).mono ?_);rintro e WA12 ⟨rfl,hb⟩;refine ⟨_,rfl,?_⟩;replace aa := aM (bw_ aa.out hb);replace ab := aM (bw_ ab.out hb);replace HB := aM (lT wB_ hb);obtain ⟨_,_,_,_,_,_,_,_,_,_,_,_,_,_,_,_,_,_,_,_,_,_,_,_,_,_,_,_⟩ := z14_ aa.out;obtain ⟨_,_,_,_,_,_,_,_,_,_,_,_,_,_,_,_,_,_,_,_,_,_,_,_,_,_,_,_⟩ := z14_ ab.out));go_ret;exact ⟨vR_,wB_⟩
def FaF.l0 : Nat → List (S41) → List (S41) → Int → Option (Bool)
 | 0,_,_,_ => none
 | k + 1,x0,x1,x5 => if x5 < (x0.length : Int) then (if 0 ≤ x5 then (if x5 < (x1.length : Int) then ((FbC.f k ((Faa x0 x5).f0) ((Faa x0 x5).f1) ((Faa x0 x5).f2) ((Faa x0 x5).f3) ((Faa x0 x5).f4) ((Faa x0 x5).f5) ((Faa x0 x5).f6) ((Faa x0 x5).f7.f0) ((Faa x0 x5).f7.f1) ((Faa x0 x5).f7.f2) ((Faa x0 x5).f7.f3) ((Faa x0 x5).f8) ((Faa x0 x5).f9) ((Faa x0 x5).f10) ((Faa x1 x5).f0) ((Faa x1 x5).f1) ((Faa x1 x5).f2) ((Faa x1 x5).f3) ((Faa x1 x5).f4) ((Faa x1 x5).f5) ((Faa x1 x5).f6) ((Faa x1 x5).f7.f0) ((Faa x1 x5).f7.f1) ((Faa x1 x5).f7.f2) ((Faa x1 x5).f7.f3) ((Faa x1 x5).f8) ((Faa x1 x5).f9) ((Faa x1 x5).f10)).bind fun aa => (if aa = true then (FaF.l0 k x0 x1 (wrap64 (x5 + 1))) else (some false))) else (none)) else (none)) else (some true)
def FaF.f (k : Nat) (l0 : List (S41)) (l1 : List (S41)) : Option (Bool) := if (l0.length : Int) = (l1.length : Int) then (FaF.l0 k l0 l1 0) else (some false)
theorem FaF.mono_l : ∀ k,(∀ y0 y1 y2,LeO (FaF.l0 k y0 y1 y2) (FaF.l0 (k + 1) y0 y1 y2))
 | 0 => fun _ _ _ r h => by simp [FaF.l0] at h
 | k + 1 => by
  have ih0 := FaF.mono_l k
  ·intro y0 y1 y2
   unfold FaF.l0
   repeat' (first|with_reducible (first|exact ih0 _ _ _|exact FbC.mono _ _ _ _ _ _ _ _ _ _ _ _ _ _ _ _ _ _ _ _ _ _ _ _ _ _ _ _ _|exact LeO.refl _|exact LeO.none _|refine LeO.ite ?_ ?_|refine LeO.bind ?_ (fun _ => ?_))|exact LeO.none _|refine LeO.ite ?_ ?_|refine LeO.bind ?_ (fun _ => ?_))
theorem FaF.mono : ∀ a0 a1 k,LeO (FaF.f k a0 a1) (FaF.f (k + 1) a0 a1) := by
 intro a0 a1 k
 have ih0 := FaF.mono_l k
 unfold FaF.f
 repeat' (first|with_reducible (first|exact ih0 _ _ _|exact FbC.mono _ _ _ _ _ _ _ _ _ _ _ _ _ _ _ _ _ _ _ _ _ _ _ _ _ _ _ _ _|exact LeO.refl _|exact LeO.none _|refine LeO.ite ?_ ?_|refine LeO.bind ?_ (fun _ => ?_))|exact LeO.none _|refine LeO.ite ?_ ?_|refine LeO.bind ?_ (fun _ => ?_))
def FaF.T6 : Bool × List (List Nat × List Nat) := (true,[([],[]),([],[]),([0,1],[0,1]),([2],[2]),([],[]),([],[]),([4,5],[4,5]),([6],[6]),([3,7],[3,7]),([8],[8])])
def FaF.B6 : List Nat := [0,0,3,7,0,0,48,112,255,511]
theorem FaF.tab6 : rtab .any (opsOf Tryz.f74 6) = FaF.T6 := by kernel_rfl
theorem FaF.bits6 : waitsOk FaF.T6.2 FaF.B6 = true := by kernel_rfl
theorem FaF.calls (k : Nat) (A0 : Option Addr) (c0 : Nat) (l0 : List (S41)) (A1 : Option Addr) (c1 : Nat) (l1 : List (S41)) (r : Bool) (w : World) (bT : Kd.C k41 w A0 l0.length l0) (bU : l0.length ≤ c0) (bV : Kd.C k41 w A1 l1.length l1) (bX : l1.length ≤ c1) (h : FaF.f k l0 l1 = some r) :
  Calls Tryz.prog 74 #[.slice A0 l0.length c0,.slice A1 l1.length c1] w fun e w' => e = .returned (.bool r) ∧ Below w.heap.size w w' := by
 have hu41 := Tryz.underlying41;have bZ := aM bT;have HC0 := aM bU;clear bT bU;have b2 := aM bV;have HC1 := aM bX;clear bV bX;have HB := aM (Below.refl w.heap.size w);have H : (if (l0.length : Int) = (l1.length : Int) then (FaF.l0 k l0 l1 0) else (some false)) = some r := h;clear h
 by_cases c3 : (l0.length : Int) = (l1.length : Int)
 ·rw [if_pos c3] at H;have bJ := qE.mpr c3;have bK := qN.mpr c3;have bL : (l0.length == l1.length) = true := (by first|simpa using c3|(simp at c3 ⊢;omega));clear c3;have H' := aM H;clear H;go_enter Tryz.func74,Tryz.ntmps74;go_wp2;go_loopg [5] k (fun kq v5 w' => ∃ (aa : Int),v5 = .int .i64 aa ∧ Aside0 (FaF.l0 kq l0 l1 aa = some r) ∧ Aside0 (kq ≤ k) ∧ Aside0 (Below w.heap.size w w'))
  case atStart => exact ⟨(0),vR_,H',⟨Nat.le_refl _⟩,⟨wB_⟩⟩
  case round =>
   clear H';obtain ⟨aa,rfl,HA,bY,HB⟩ := hrel
   cases gk with
   | zero => exact absurd HA.out (by simp [FaF.l0])
   | succ k1 =>
    have H := HA.out;clear HA;simp only [FaF.l0] at H
    by_cases c4 : aa < (l0.length : Int)
    focus
     rw [if_pos c4] at H;have bM := dT c4;clear c4
     by_cases c5 : 0 ≤ aa
     rotate_left;rw [if_neg c5] at H;exact nH_ H;rw [if_pos c5] at H;have c5b0 := dT c5;clear c5
     by_cases c6 : aa < (l1.length : Int)
     rotate_left;rw [if_neg c6] at H;exact nH_ H;rw [if_pos c6] at H;have c6b0 := dT c6;clear c6;obtain ⟨bO,A7,H⟩ := bE_ H
     by_cases c8 : bO = true
     focus
      subst c8;rw [if_pos rfl] at H;have H' := aM H;clear H
     rotate_left
     focus
      replace c8 := qO.mpr c8;subst c8;rw [if_neg qT] at H;obtain rfl := oI H
    rotate_left 2
    focus
     rw [if_neg c4] at H;have bM := dF c4;clear c4;obtain rfl := oI H
    all_goals
     (try go_wp2)
     first
      |
       go_ret;exact ⟨vR_,wB_⟩
      |
       replace HB := aM (lD HB.out);have bP : 0 ≤ (aa : Int) := oD (by assumption);have bQ : aa < (l0.length : Int) := oD (by assumption);obtain ⟨ab,bq,br,bs,bu,b3,al,am,an,ao,ap,ar,au,av,aw,ax,ad,ae,af,ag,aU,aV,aW,aX⟩ := Fb3 bZ.out aa bP bQ;have aK := ag;have aL := af;have aN := ae;have aO := ad;have aY := ax;have aZ := aw;have a0 := av;have a1 := au;have a2 := ar;have a3 := ap;have a4 := ao;have a5 := an;have a6 := am;have a7 := al;cases b3;replace al := mv_ HB.out al;replace am := mv_ HB.out am;replace an := mv_ HB.out an;replace ao := mv_ HB.out ao;replace ap := mv_ HB.out ap;replace ar := mv_ HB.out ar;replace au := mv_ HB.out au;replace av := mv_ HB.out av;replace aw := mv_ HB.out aw;replace ax := mv_ HB.out ax;replace ad := mv_ HB.out ad;replace ae := mv_ HB.out ae;replace af := mv_ HB.out af;replace ag := mv_ HB.out ag;have a8 := aM aV;have bE := aM aU;clear aV aU;have a9 := aM aX;have bG := aM aW;clear aX aW;replace bP := eq_true bP;replace bQ := eq_true bQ;have bR : 0 ≤ (aa : Int) := oD (by assumption);have bS : aa < (l1.length : Int) := oD (by assumption);obtain ⟨ac,bv,bw,bz,bB,b4,ay,az,aA,aC,aD,aE,aF,aG,aH,aJ,ah,ai,aj,ak,ba,bb,bc,bd⟩ := Fb3 b2.out aa bR bS;have aP := ak;have aQ := aj;have aR := ai;have aT := ah;have be := aJ;have bf := aH;have bg := aG;have bh := aF;have bi := aE;have bj := aD;have bk := aC;have bl := aA;have bm := az;have bn := ay;cases b4;replace ay := mv_ HB.out ay;replace az := mv_ HB.out az;replace aA := mv_ HB.out aA;replace aC := mv_ HB.out aC;replace aD := mv_ HB.out aD;replace aE := mv_ HB.out aE;replace aF := mv_ HB.out aF;replace aG := mv_ HB.out aG;replace aH := mv_ HB.out aH;replace aJ := mv_ HB.out aJ;replace ah := mv_ HB.out ah;replace ai := mv_ HB.out ai;replace aj := mv_ HB.out aj;replace ak := mv_ HB.out ak;have bo := aM bb;have bH := aM ba;clear bb ba;have bp := aM bd;have bI := aM bc;clear bd bc;replace bR := eq_true bR;replace bS := eq_true bS;refine start_ (n := 10) (S := fun w' => w'.cell? (ab.add ((aa).toNat * 14)) = some (.string ((Faa l0 aa).f0)) ∧ w'.cell? ⟨(ab.add ((aa).toNat * 14)).block,(ab.add ((aa).toNat * 14)).off + 1,none⟩ = some (.int .i64 ((Faa l0 aa).f1)) ∧ w'.cell? ⟨(ab.add ((aa).toNat * 14)).block,(ab.add ((aa).toNat * 14)).off + 2,none⟩ = some (.slice bq ((Faa l0 aa).f2).length br) ∧ w'.cell? ⟨(ab.add ((aa).toNat * 14)).block,(ab.add ((aa).toNat * 14)).off + 3,none⟩ = some (.slice bs ((Faa l0 aa).f3).length bu) ∧ w'.cell? ⟨(ab.add ((aa).toNat * 14)).block,(ab.add ((aa).toNat * 14)).off + 4,none⟩ = some (.string ((Faa l0 aa).f4)) ∧ w'.cell? ⟨(ab.add ((aa).toNat * 14)).block,(ab.add ((aa).toNat * 14)).off + 5,none⟩ = some (.string ((Faa l0 aa).f5)) ∧ w'.cell? ⟨(ab.add ((aa).toNat * 14)).block,(ab.add ((aa).toNat * 14)).off + 6,none⟩ = some (.string ((Faa l0 aa).f6)) ∧ w'.cell? ⟨(ab.add ((aa).toNat * 14)).block,(ab.add ((aa).toNat * 14)).off + 7,none⟩ = some (.int .i64 ((Faa l0 aa).f7.f0)) ∧ w'.cell? ⟨(ab.add ((aa).toNat * 14)).block,(ab.add ((aa).toNat * 14)).off + 8,none⟩ = some (.int .i64 ((Faa l0 aa).f7.f1)) ∧ w'.cell? ⟨(ab.add ((aa).toNat * 14)).block,(ab.add ((aa).toNat * 14)).off + 9,none⟩ = some (.int .i64 ((Faa l0 aa).f7.f2)) ∧ w'.cell? ⟨(ab.add ((aa).toNat * 14)).block,(ab.add ((aa).toNat * 14)).off + 10,none⟩ = some (.bool ((Faa l0 aa).f7.f3)) ∧ w'.cell? ⟨(ab.add ((aa).toNat * 14)).block,(ab.add ((aa).toNat * 14)).off + 11,none⟩ = some (.int .i64 ((Faa l0 aa).f8)) ∧ w'.cell? ⟨(ab.add ((aa).toNat * 14)).block,(ab.add ((aa).toNat * 14)).off + 12,none⟩ = some (.string ((Faa l0 aa).f9)) ∧ w'.cell? ⟨(ab.add ((aa).toNat * 14)).block,(ab.add ((aa).toNat * 14)).off + 13,none⟩ = some (.string ((Faa l0 aa).f10)) ∧ w'.cell? (ac.add ((aa).toNat * 14)) = some (.string ((Faa l1 aa).f0)) ∧ w'.cell? ⟨(ac.add ((aa).toNat * 14)).block,(ac.add ((aa).toNat * 14)).off + 1,none⟩ = some (.int .i64 ((Faa l1 aa).f1)) ∧ w'.cell? ⟨(ac.add ((aa).toNat * 14)).block,(ac.add ((aa).toNat * 14)).off + 2,none⟩ = some (.slice bv ((Faa l1 aa).f2).length bw) ∧ w'.cell? ⟨(ac.add ((aa).toNat * 14)).block,(ac.add ((aa).toNat * 14)).off + 3,none⟩ = some (.slice bz ((Faa l1 aa).f3).length bB) ∧ w'.cell? ⟨(ac.add ((aa).toNat * 14)).block,(ac.add ((aa).toNat * 14)).off + 4,none⟩ = some (.string ((Faa l1 aa).f4)) ∧ w'.cell? ⟨(ac.add ((aa).toNat * 14)).block,(ac.add ((aa).toNat * 14)).off + 5,none⟩ = some (.string ((Faa l1 aa).f5)) ∧ w'.cell? ⟨(ac.add ((aa).toNat * 14)).block,(ac.add ((aa).toNat * 14)).off + 6,none⟩ = some (.string ((Faa l1 aa).f6)) ∧ w'.cell? ⟨(ac.add ((aa).toNat * 14)).block,(ac.add ((aa).toNat * 14)).off + 7,none⟩ = some (.int .i64 ((Faa l1 aa).f7.f0)) ∧ w'.cell? ⟨(ac.add ((aa).toNat * 14)).block,(ac.add ((aa).toNat * 14)).off + 8,none⟩ = some (.int .i64 ((Faa l1 aa).f7.f1)) ∧ w'.cell? ⟨(ac.add ((aa).toNat * 14)).block,(ac.add ((aa).toNat * 14)).off + 9,none⟩ = some (.int .i64 ((Faa l1 aa).f7.f2)) ∧ w'.cell? ⟨(ac.add ((aa).toNat * 14)).block,(ac.add ((aa).toNat * 14)).off + 10,none⟩ = some (.bool ((Faa l1 aa).f7.f3)) ∧ w'.cell? ⟨(ac.add ((aa).toNat * 14)).block,(ac.add ((aa).toNat * 14)).off + 11,none⟩ = some (.int .i64 ((Faa l1 aa).f8)) ∧ w'.cell? ⟨(ac.add ((aa).toNat * 14)).block,(ac.add ((aa).toNat * 14)).off + 12,none⟩ = some (.string ((Faa l1 aa).f9)) ∧ w'.cell? ⟨(ac.add ((aa).toNat * 14)).block,(ac.add ((aa).toNat * 14)).off + 13,none⟩ = some (.string ((Faa l1 aa).f10))) (ds := []) (mk_ 10 0) (by kernel_rfl) rfl (by kernel_rfl) ⟨mv_ HB.out a7,mv_ HB.out a6,mv_ HB.out a5,mv_ HB.out a4,mv_ HB.out a3,mv_ HB.out a2,mv_ HB.out a1,mv_ HB.out a0,mv_ HB.out aZ,mv_ HB.out aY,mv_ HB.out aO,mv_ HB.out aN,mv_ HB.out aL,mv_ HB.out aK,mv_ HB.out bn,mv_ HB.out bm,mv_ HB.out bl,mv_ HB.out bk,mv_ HB.out bj,mv_ HB.out bi,mv_ HB.out bh,mv_ HB.out bg,mv_ HB.out bf,mv_ HB.out be,mv_ HB.out aT,mv_ HB.out aR,mv_ HB.out aQ,mv_ HB.out aP⟩ (fun hHeld => ?_);refine with_tabW FaF.tab6 FaF.bits6 (fun HT_ HW_ => ?_);generalize wr.drew = wk0 at HB a8 a9 bo bp al am ad ae af ag an ao ap ar au av aw ax ay az ah ai aj ak aA aC aD aE aF aG aH aJ hHeld ⊢;refine pV_ (i := 0) (N := some 17) (mk_ 10 1) rfl rfl HT_.out ?_;refine pV_ (i := 1) (N := some 18) (mk_ 10 3) rfl rfl HT_.out ?_;refine pV_ (i := 2) (N := some 19) (mk_ 10 7) rfl rfl HT_.out ?_;refine pV_ (i := 4) (N := some 21) (mk_ 10 23) rfl rfl HT_.out ?_;refine pV_ (i := 5) (N := some 22) (mk_ 10 55) rfl rfl HT_.out ?_;refine pV_ (i := 6) (N := some 23) (mk_ 10 119) rfl rfl HT_.out ?_;refine tV_ (i := 3) (N := some 20) (mk_ 10 127) rfl rfl HT_.out HW_.out hHeld ?_;refine tV_ (i := 7) (N := some 24) (mk_ 10 255) rfl rfl HT_.out HW_.out hHeld ?_;refine one_ (i := 8) (N := some 25) (mk_ 10 511) rfl rfl (one_of HT_.out (by kernel_rfl)) (by decide) (fun K hK => ?_);refine gs_ Tryz.func16 #[.agg #[.string ((Faa l0 aa).f0),.int .i64 ((Faa l0 aa).f1),.slice bq ((Faa l0 aa).f2).length br,.slice bs ((Faa l0 aa).f3).length bu,.string ((Faa l0 aa).f4),.string ((Faa l0 aa).f5),.string ((Faa l0 aa).f6),.int .i64 ((Faa l0 aa).f7.f0),.int .i64 ((Faa l0 aa).f7.f1),.int .i64 ((Faa l0 aa).f7.f2),.bool ((Faa l0 aa).f7.f3),.int .i64 ((Faa l0 aa).f8),.string ((Faa l0 aa).f9),.string ((Faa l0 aa).f10)],.agg #[.string ((Faa l1 aa).f0),.int .i64 ((Faa l1 aa).f1),.slice bv ((Faa l1 aa).f2).length bw,.slice bz ((Faa l1 aa).f3).length bB,.string ((Faa l1 aa).f4),.string ((Faa l1 aa).f5),.string ((Faa l1 aa).f6),.int .i64 ((Faa l1 aa).f7.f0),.int .i64 ((Faa l1 aa).f7.f1),.int .i64 ((Faa l1 aa).f7.f2),.bool ((Faa l1 aa).f7.f3),.int .i64 ((Faa l1 aa).f8),.string ((Faa l1 aa).f9),.string ((Faa l1 aa).f10)]] ?_;(with_reducible refine (FbC.calls _ _ _ _ _ _ _ _ _ _ _ _ _ _ _ _ _ _ _ _ _ _ _ _ _ _ _ _ _ _ _ _ _ _ _ _ _ _ _ ?side1 ?side2 ?side3 ?side4 ?side5 ?side6 ?side7 ?side8 A7.out).mono ?_);(case side1 => exact wX_ a8.out);(case side2 => exact bE.out);(case side3 => exact wX_ a9.out);(case side4 => exact bG.out);(case side5 => exact wX_ bo.out);(case side6 => exact bH.out);(case side7 => exact wX_ bp.out);(case side8 => exact bI.out);rintro e wk1 ⟨rfl,hb⟩;refine ⟨_,rfl,?_⟩;replace HB := aM (lT wB_ hb);refine hK.out _ _ ⟨mv_ HB.out a7,mv_ HB.out a6,mv_ HB.out a5,mv_ HB.out a4,mv_ HB.out a3,mv_ HB.out a2,mv_ HB.out a1,mv_ HB.out a0,mv_ HB.out aZ,mv_ HB.out aY,mv_ HB.out aO,mv_ HB.out aN,mv_ HB.out aL,mv_ HB.out aK,mv_ HB.out bn,mv_ HB.out bm,mv_ HB.out bl,mv_ HB.out bk,mv_ HB.out bj,mv_ HB.out bi,mv_ HB.out bh,mv_ HB.out bg,mv_ HB.out bf,mv_ HB.out be,mv_ HB.out aT,mv_ HB.out aR,mv_ HB.out aQ,mv_ HB.out aP⟩ (fun hHeld => ?_);clear hK K;refine norm_ (a' := ?_) ?_ ?_;rotate_left;show Act.put _ (some 25) _ = _;simp only [Act.put,lI,sZ,sS,i64_w,i32_w];rfl;refine pV_ (i := 9) (N := some 26) (mk_ 10 1023) rfl rfl HT_.out ?_;refine done_ (done_of HT_.out (by kernel_rfl)) ?_;(try go_wp2)
       first
        |
         go_ret;exact ⟨vR_,wB_⟩
        |
         go_roundg k1
         case measure => have := bY.out;omega
         case rel => exact ⟨(wrap64 (aa + 1)),vR_,H',⟨by have := bY.out;omega⟩,⟨wB_⟩⟩
 ·rw [if_neg c3] at H;have bJ := qF.mpr c3;have bK := qB.mpr c3;have bL : (l0.length == l1.length) = false := (by first|simpa using c3|(simp at c3 ⊢;omega));obtain rfl := oI H;go_enter Tryz.func74,Tryz.ntmps74;go_wp2;go_ret;exact ⟨vR_,wB_⟩
def Fbv.f (k : Nat) (aa : List (S41)) (ab : List (S41)) : Option (Bool) := (FaF.f k aa ab).bind fun ac => (if ac = true then (some true) else (some false))
theorem Fbv.mono : ∀ a0 a1 k,LeO (Fbv.f k a0 a1) (Fbv.f (k + 1) a0 a1) := by
 intro a0 a1 k
 unfold Fbv.f
 repeat' (first|with_reducible (first|exact FaF.mono _ _ _|exact LeO.refl _|exact LeO.none _|refine LeO.ite ?_ ?_|refine LeO.bind ?_ (fun _ => ?_))|exact LeO.none _|refine LeO.ite ?_ ?_|refine LeO.bind ?_ (fun _ => ?_))
theorem Fbv.calls (k : Nat) (ag : Option Addr) (ah : Nat) (ab : List (S41)) (ai : Option Addr) (aj : Nat) (ac : List (S41)) (r : Bool) (w : World) (ak : Kd.C k41 w ag ab.length ab) (al : ab.length ≤ ah) (am : Kd.C k41 w ai ac.length ac) (an : ac.length ≤ aj) (h : Fbv.f k ab ac = some r) :
  Calls Tryz.prog 22 #[.agg #[.slice ag ab.length ah],.agg #[.slice ai ac.length aj]] w fun e w' => e = .returned (.bool r) ∧ Below w.heap.size w w' := by
 have hu55 := Tryz.underlying55;have ap := aM ak;have ar := aM al;clear ak al;have au := aM am;have av := aM an;clear am an;have HB := aM (Below.refl w.heap.size w);have H : ((FaF.f k ab ac).bind fun ao => (if ao = true then (some true) else (some false))) = some r := h;clear h;obtain ⟨ao,A3,H⟩ := bE_ H
 by_cases c4 : ao = true
 focus
  subst c4;rw [if_pos rfl] at H;obtain rfl := oI H
 rotate_left
 focus
  replace c4 := qO.mpr c4;subst c4;rw [if_neg qT] at H;obtain rfl := oI H
 all_goals
  go_enter Tryz.func22,Tryz.ntmps22;go_wp2_with (first|((with_reducible refine gate_dst (N := 2) rfl ?_);refine bx_ (N := 2) (cs := #[.slice ag ab.length ah]) (t := 55) ?_;intro aw hg Wgb198 hbox hb;have aa := aM (hbox);have ax := aM ((by rw [hg];exact (lZ wB_) : w.heap.size ≤ aw));have GE198 := ax;replace HB := aM (lT wB_ hb);clear hb hbox hg)|((with_reducible refine gate_dst (N := 3) rfl ?_);refine bx_ (N := 3) (cs := #[.slice ai ac.length aj]) (t := 55) ?_;intro ay hg Wgb199 hbox hb;have af := aM (hbox);have az := aM ((by rw [hg];exact (lZ wB_) : w.heap.size ≤ ay));have GE199 := az;have ad := aM (nl_ hg aa.out);have ae := aM (ng_ hg aa.out);replace aa := aM (bw_ aa.out hb);replace HB := aM (lT wB_ hb);clear hb hbox hg;have hnby198_199 := ad.out;have hncy199_198 := ae.out;obtain ⟨_,_⟩ := z1_ aa.out;obtain ⟨_,_⟩ := z1_ af.out)|((with_reducible refine gate_callee (f := 74) rfl ?_);refine gl_ (some 9) Tryz.func74 #[.slice ag ab.length ah,.slice ai ac.length aj] ?_;(with_reducible refine (FaF.calls _ _ _ _ _ _ _ _ _ ?side1 ?side2 ?side3 ?side4 A3.out).mono ?_);(case side1 => exact wX_ ap.out);(case side2 => exact ar.out);(case side3 => exact wX_ au.out);(case side4 => exact av.out);rintro e WA3 ⟨rfl,hb⟩;refine ⟨_,rfl,?_⟩;replace aa := aM (bw_ aa.out hb);replace af := aM (bw_ af.out hb);replace HB := aM (lT wB_ hb)));go_ret;exact ⟨vR_,wB_⟩
def Fag.l0 : Nat → Int → ByteArray → Option (ByteArray)
 | 0,_,_ => none
 | k + 1,x0,x3 => if x0 > 0 then ((some (([(wrap64 (48 + (Int.tmod x0 10))) % 256] : List Int) : List Int)).bind fun y201 => (if (strOfNums y201).size + x3.size ≤ 9223372036854775807 then (Fag.l0 k (wrap64 (Int.tdiv x0 10)) ((strOfNums y201) ++ x3)) else (none))) else (if 1 + x3.size ≤ 9223372036854775807 then (some ((⟨#[109]⟩ : ByteArray) ++ x3)) else (none))
def Fag.f (k : Nat) (a0 : Int) : Option (ByteArray) := if a0 ≤ 0 then (some (⟨#[109,48]⟩ : ByteArray)) else (Fag.l0 k a0 (⟨#[]⟩ : ByteArray))
theorem Fag.mono_l : ∀ k,(∀ y0 y1,LeO (Fag.l0 k y0 y1) (Fag.l0 (k + 1) y0 y1))
 | 0 => fun _ _ r h => by simp [Fag.l0] at h
 | k + 1 => by
  have ih0 := Fag.mono_l k
  ·intro y0 y1
   unfold Fag.l0
   repeat' (first|with_reducible (first|exact ih0 _ _|exact LeO.refl _|exact LeO.none _|refine LeO.ite ?_ ?_|refine LeO.bind ?_ (fun _ => ?_))|exact LeO.none _|refine LeO.ite ?_ ?_|refine LeO.bind ?_ (fun _ => ?_))
theorem Fag.mono : ∀ a0 k,LeO (Fag.f k a0) (Fag.f (k + 1) a0) := by
 intro a0 k
 have ih0 := Fag.mono_l k
 unfold Fag.f
 repeat' (first|with_reducible (first|exact ih0 _ _|exact LeO.refl _|exact LeO.none _|refine LeO.ite ?_ ?_|refine LeO.bind ?_ (fun _ => ?_))|exact LeO.none _|refine LeO.ite ?_ ?_|refine LeO.bind ?_ (fun _ => ?_))
theorem Fag.calls (k : Nat) (a0 : Int) (r : ByteArray) (w : World) (h : Fag.f k a0 = some r) :
  Calls Tryz.prog 77 #[.int .i64 a0] w fun e w' => e = .returned (.string r) ∧ Below w.heap.size w w' := by
 have HB := aM (Below.refl w.heap.size w);have H : (if a0 ≤ 0 then (some (⟨#[109,48]⟩ : ByteArray)) else (Fag.l0 k a0 (⟨#[]⟩ : ByteArray))) = some r := h;clear h
 by_cases c2 : a0 ≤ 0
 ·rw [if_pos c2] at H;have ag := dT c2;clear c2;obtain rfl := oI H;go_enter Tryz.func77,Tryz.ntmps77;go_wp2;go_ret;exact ⟨vR_,wB_⟩
 ·rw [if_neg c2] at H;have ag := dF c2;clear c2;have H' := aM H;clear H;go_enter Tryz.func77,Tryz.ntmps77;go_wp2;go_loopg [0,3] k (fun kq v0 v3 w' => ∃ (aa : Int) (ab : ByteArray),v0 = .int .i64 aa ∧ v3 = .string ab ∧ Aside0 (Fag.l0 kq aa ab = some r) ∧ Aside0 (kq ≤ k) ∧ Aside0 (Below w.heap.size w w'))
  case atStart => exact ⟨(a0),((⟨#[]⟩ : ByteArray)),vR_,vR_,H',⟨Nat.le_refl _⟩,⟨wB_⟩⟩
  case round =>
   clear H';obtain ⟨aa,ab,rfl,rfl,HA,ai,HB⟩ := hrel
   cases gk with
   | zero => exact absurd HA.out (by simp [Fag.l0])
   | succ k1 =>
    have H := HA.out;clear HA;simp only [Fag.l0] at H
    by_cases c3 : aa > 0
    ·rw [if_pos c3] at H;have ah : decide (0 < aa) = true := dT c3;clear c3;obtain ⟨y201,ac⟩ : ∃ y_ : List Int,y_ = (([(wrap64 (48 + (Int.tmod aa 10))) % 256] : List Int)) := ⟨_,rfl⟩;replace H : (if (strOfNums y201).size + ab.size ≤ 9223372036854775807 then (Fag.l0 k1 (wrap64 (Int.tdiv aa 10)) ((strOfNums y201) ++ ab)) else (none)) = some r := (yH_ ac H);have ad := aM ac;clear ac
     by_cases c4 : (strOfNums y201).size + ab.size ≤ 9223372036854775807
     ·rw [if_pos c4] at H;have c4b0 := eq_true c4;have c4b1 := dT c4;(try have c4b2 : (9223372036854775807 < (strOfNums y201).size + ab.size) = False := eq_false (Nat.not_lt.2 c4));have H' := aM H;clear H;go_wp2_with (first|((with_reducible refine gate_dst (N := 12) rfl ?_);refine Kd.R_lit (Kd.int .u8) _ 5 ?hg (N := 12) ?hd (xs := ([(wrap64 (48 + (Int.tmod aa 10))) % 256] : List Int)) (inner := [.int .u8 ((wrap64 (48 + (Int.tmod aa 10))) % 256)]) (ok := fun _ => True) (okp := fun _ => True) ?hr ?hp (fun _ hk => hk) trivial (Below.refl _ _) (Nat.le_refl _) (by simp) ?_;(case hd => rfl);(case hg => rfl);(case hr => first|(go_simp;done)|(go_simp;rfl));(case hp => exact (Reps.one (show Kd.M (Kd.int .u8) _ _ _ ((wrap64 (48 + (Int.tmod aa 10))) % 256) [.int .u8 ((wrap64 (48 + (Int.tmod aa 10))) % 256)] from rfl) (Reps.none _ _)));intro v202 w5 ae hb hg_ hnew_;clear hg_ hnew_;(first|rw [← ad.out] at ae|(simp only [Int.reduceToNat] at ae;rw [← ad.out] at ae));have af := aM (Kd.R_lower ae (lZ wB_));replace HB := aM (lT wB_ hb);clear hb ae;have hcv7 := own_string (P := Tryz.prog) Tryz.underlying63 Tryz.underlying5 Tryz.underlying9 (Kd.own_of_R af.out)));go_roundg k1
      case measure => have := ai.out;omega
      case rel => exact ⟨(wrap64 (Int.tdiv aa 10)),((strOfNums y201) ++ ab),vR_,vR_,H',⟨by have := ai.out;omega⟩,⟨wB_⟩⟩
     ·rw [if_neg c4] at H;exact nH_ H
    ·rw [if_neg c3] at H;have ah : decide (0 < aa) = false := dF c3;clear c3
     by_cases c8 : 1 + ab.size ≤ 9223372036854775807
     ·rw [if_pos c8] at H;have c8b0 := eq_true c8;have c8b1 := dT c8;(try have c8b2 : (9223372036854775807 < 1 + ab.size) = False := eq_false (Nat.not_lt.2 c8));obtain rfl := oI H;go_wp2;go_ret;exact ⟨vR_,wB_⟩
     ·rw [if_neg c8] at H;exact nH_ H
end Go.Proofs.YtmafmhgmdegplaaGreatDoor.P
