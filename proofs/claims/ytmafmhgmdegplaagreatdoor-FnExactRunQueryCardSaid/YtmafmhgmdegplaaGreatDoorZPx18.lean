/- Walks: each Go function computes the Lean function beside it; conditions: those of each theorem. -/
import Derived.Test.YtmafmhgmdegplaaGreatDoorZPx0
import Derived.Test.YtmafmhgmdegplaaGreatDoorZPx17
import Derived.Lib.SplitLaws
import Derived.Shelf.SlicesE.DeleteFunc
import Derived.Sort.OwnSorted
import Derived.Test.YtmafmhgmdegplaaGreatDoorZShelf
namespace Go.Proofs.YtmafmhgmdegplaaGreatDoor.P
open Go.RowKit Go.Proofs.YtmafmhgmdegplaaGreatDoorW.PrintWords Go.Proofs.YtmafmhgmdegplaaGreatDoorW.PrintLast Go.Proofs.YtmafmhgmdegplaaGreatDoorW.PrintMore
attribute [local go_sem] max2_int min2_int max_two min_two max_three min_three max_four min_four   -- for this text's walks alone
set_option linter.unusedVariables false
set_option linter.unusedSimpArgs false
set_option maxHeartbeats 8000000
set_option maxRecDepth 100000
mutual
def Fad.j0 : Nat → Int → Bool → Int → ByteArray → ByteArray → List (S36) → Option (Int × Bool)
 | 0,_,_,_,_,_,_ => none
 | k + 1,x1,x6,x400000,x400001,x400002,aa => Fad.l0 k x1 x6 1 aa (aa.length : Int) 0
def Fad.l0 : Nat → Int → Bool → Int → List (S36) → Int → Int → Option (Int × Bool)
 | 0,_,_,_,_,_,_ => none
 | k + 1,x1,x6,x7,ac,ad,aa => if aa < ad then (if 0 ≤ aa then (if aa < (ac.length : Int) then (if x6 = true then ((Fad.f k ((Fab ac aa).f0) ((Fab ac aa).f1) ((Fab ac aa).f2) ((Fab ac aa).f3) (wrap64 (x1 - x7))).bind fun ab => (Fad.l0 k x1 ab.2 (wrap64 (x7 + ab.1)) ac ad (wrap64 (aa + 1)))) else (some (0,false))) else (none)) else (none)) else (some (x7,x6))
def Fad.f : Nat → Int → ByteArray → ByteArray → List (S36) → Int → Option (Int × Bool)
 | 0,_,_,_,_,_ => none
 | k + 1,ac,aa,ad,ab,a1 => if a1 < 1 then (some (0,false)) else (if ac = 1 then ((FaL.f k ad).bind fun ae => (if ae = true then (if aa.toList = ([] : List UInt8) then (Fad.j0 k a1 ((ab.length : Int) == 0) ac aa ad ab) else ((Fb1.f k aa).bind fun af => (if af = true then (Fad.j0 k a1 ((ab.length : Int) == 0) ac aa ad ab) else (Fad.j0 k a1 false ac aa ad ab)))) else (Fad.j0 k a1 false ac aa ad ab))) else (if ac = 2 then (if ad.toList = ([] : List UInt8) then (if aa.toList = ([] : List UInt8) then (Fad.j0 k a1 ((ab.length : Int) == 1) ac aa ad ab) else (Fad.j0 k a1 false ac aa ad ab)) else (Fad.j0 k a1 false ac aa ad ab)) else (if ac = 3 then (if ad.toList = ([] : List UInt8) then (if aa.toList = ([] : List UInt8) then (Fad.j0 k a1 ((ab.length : Int) == 2) ac aa ad ab) else (Fad.j0 k a1 false ac aa ad ab)) else (Fad.j0 k a1 false ac aa ad ab)) else (if ac = 4 then (if ad.toList = ([] : List UInt8) then (if aa.toList = ([] : List UInt8) then (Fad.j0 k a1 ((ab.length : Int) == 2) ac aa ad ab) else (Fad.j0 k a1 false ac aa ad ab)) else (Fad.j0 k a1 false ac aa ad ab)) else (Fad.j0 k a1 false ac aa ad ab)))))
end
theorem Fad.mono_l : ∀ k,(∀ y0 y1 y2 y3 y4,LeO (Fad.f k y0 y1 y2 y3 y4) (Fad.f (k + 1) y0 y1 y2 y3 y4)) ∧ (∀ y0 y1 y2 y3 y4 y5,LeO (Fad.j0 k y0 y1 y2 y3 y4 y5) (Fad.j0 (k + 1) y0 y1 y2 y3 y4 y5)) ∧ (∀ y0 y1 y2 y3 y4 y5,LeO (Fad.l0 k y0 y1 y2 y3 y4 y5) (Fad.l0 (k + 1) y0 y1 y2 y3 y4 y5))
 | 0 => ⟨fun _ _ _ _ _ r h => by simp [Fad.f] at h,fun _ _ _ _ _ _ r h => by simp [Fad.j0] at h,fun _ _ _ _ _ _ r h => by simp [Fad.l0] at h⟩
 | k + 1 => by
  obtain ⟨ih0,ih1,ih2⟩ := Fad.mono_l k
  refine ⟨?_,?_,?_⟩
  all_goals (intros;first|unfold Fad.f|unfold Fad.j0|unfold Fad.l0)
  all_goals repeat' (first|with_reducible (first|exact ih0 _ _ _ _ _|exact ih1 _ _ _ _ _ _|exact ih2 _ _ _ _ _ _|exact Fb1.mono _ _|exact FaL.mono _ _|exact LeO.refl _|exact LeO.none _|refine LeO.ite ?_ ?_|refine LeO.bind ?_ (fun _ => ?_))|exact LeO.none _|refine LeO.ite ?_ ?_|refine LeO.bind ?_ (fun _ => ?_))
theorem Fad.mono : ∀ a0 a1 a2 a3 a4 k,LeO (Fad.f k a0 a1 a2 a3 a4) (Fad.f (k + 1) a0 a1 a2 a3 a4) := by
 intro a0 a1 a2 a3 a4 k;obtain ⟨ih0,ih1,ih2⟩ := Fad.mono_l k;exact ih0 a0 a1 a2 a3 a4
theorem Fad.calls (k : Nat) : ∀ (ad : Int) (ac : ByteArray) (ae : ByteArray) (aj : Option Addr) (ai : Nat) (aa : List (S36)) (a1 : Int) (r1 : Int) (r2 : Bool) (w : World) (am : Kd.C k36 w aj aa.length aa) (an : aa.length ≤ ai) (hG : Gfw w) (h : Fad.f k ad ac ae aa a1 = some (r1,r2)),
  Calls Tryz.prog 81 #[.agg #[.int .i64 ad,.string ac,.string ae,.slice aj aa.length ai],.int .i64 a1] w fun e w' => e = .returned (.tuple #[.int .i64 r1,.bool r2]) ∧ Below w.heap.size w w' := by
 induction k using Nat.strongRecOn with
 | _ k ih =>
 intro ad ac ae aj ai aa a1 r1 r2 w am an hG h
 cases k with
 | zero => exact absurd h (by simp [Fad.f])
 | succ k =>
 simp only [Fad.f] at h;have hu36 := Tryz.underlying36;have a0 := aM am;have HC0_3 := aM an;clear am an;have HB := aM (Below.refl w.heap.size w);have HG := aM hG;clear hG;have H : (if a1 < 1 then (some (0,false)) else (if ad = 1 then ((FaL.f k ae).bind fun aG => (if aG = true then (if ac.toList = ([] : List UInt8) then (Fad.j0 k a1 ((aa.length : Int) == 0) ad ac ae aa) else ((Fb1.f k ac).bind fun aH => (if aH = true then (Fad.j0 k a1 ((aa.length : Int) == 0) ad ac ae aa) else (Fad.j0 k a1 false ad ac ae aa)))) else (Fad.j0 k a1 false ad ac ae aa))) else (if ad = 2 then (if ae.toList = ([] : List UInt8) then (if ac.toList = ([] : List UInt8) then (Fad.j0 k a1 ((aa.length : Int) == 1) ad ac ae aa) else (Fad.j0 k a1 false ad ac ae aa)) else (Fad.j0 k a1 false ad ac ae aa)) else (if ad = 3 then (if ae.toList = ([] : List UInt8) then (if ac.toList = ([] : List UInt8) then (Fad.j0 k a1 ((aa.length : Int) == 2) ad ac ae aa) else (Fad.j0 k a1 false ad ac ae aa)) else (Fad.j0 k a1 false ad ac ae aa)) else (if ad = 4 then (if ae.toList = ([] : List UInt8) then (if ac.toList = ([] : List UInt8) then (Fad.j0 k a1 ((aa.length : Int) == 2) ad ac ae aa) else (Fad.j0 k a1 false ad ac ae aa)) else (Fad.j0 k a1 false ad ac ae aa)) else (Fad.j0 k a1 false ad ac ae aa)))))) = some (r1,r2) := h;clear h
 by_cases c3 : a1 < 1
 ·rw [if_pos c3] at H;have bv := dT c3;clear c3;simp only [eS,eP] at H;obtain ⟨rfl,rfl⟩ := H;go_enter Tryz.func81,Tryz.ntmps81;go_wp2_with (first|((with_reducible refine gate_dst (N := 2) rfl ?_);(try (refine gate_guard (by rfl) ?_;dsimp only));refine bx_ (N := 2) (cs := #[.int .i64 ad,.string ac,.string ae,.slice aj aa.length ai]) (t := 36) ?_;intro ag hg w4 hbox hb;have af := aM (hbox);have ao := aM ((by rw [hg];exact (lZ wB_) : w.heap.size ≤ ag));have a2 := ao;replace HB := aM (lT wB_ hb);clear hb hbox hg));go_ret2;exact ⟨vR_,wB_⟩
 ·rw [if_neg c3] at H;have bv := dF c3;clear c3;have bw := aM H;clear H;go_enter Tryz.func81,Tryz.ntmps81;go_upto_block 0 with (first|((with_reducible refine gate_dst (N := 2) rfl ?_);(try (refine gate_guard (by rfl) ?_;dsimp only));refine bx_ (N := 2) (cs := #[.int .i64 ad,.string ac,.string ae,.slice aj aa.length ai]) (t := 36) ?_;intro ag hg w6 hbox hb;have af := aM (hbox);have ao := aM ((by rw [hg];exact (lZ wB_) : w.heap.size ≤ ag));have a2 := ao;replace HB := aM (lT wB_ hb);clear hb hbox hg;obtain ⟨_,_,_,_,_,_,_,_⟩ := z4_ af.out));(try simp only [Act.put,lI,sZ,sS]);go_cut [6] (fun v6 wc => ∃ (kq : Nat) (aA : Bool),v6 = .bool aA ∧ Aside0 (Fad.j0 kq a1 aA ad ac ae aa = some (r1,r2)) ∧ Aside0 (kq ≤ k) ∧ Aside0 (wc.heap[ag]? = some (.cells #[.int .i64 ad,.string ac,.string ae,(.slice aj aa.length ai)] 36 (0,0))) ∧ Aside0 (Below w.heap.size w wc))
  case first =>
   have H := bw.out;clear bw
   by_cases c8 : ad = 1
   focus
    rw [if_pos c8] at H;have ap := qE.mpr c8;have bz := qN.mpr c8;clear c8;(first|rw [ap]|(simp only [i64_w,i32_w];rw [ap])|skip);obtain ⟨aG,A9,H⟩ := bE_ H
    by_cases c10 : aG = true
    focus
     subst c10;rw [if_pos rfl] at H
     by_cases aJ : ac.toList = ([] : List UInt8)
     focus
      rw [if_pos aJ] at H;have a3 := qE.mpr aJ;have a4 := qN.mpr aJ;clear aJ;have H' := aM H;clear H
     rotate_left
     focus
      rw [if_neg aJ] at H;have a3 := qF.mpr aJ;have a4 := qB.mpr aJ;obtain ⟨aH,bK,H⟩ := bE_ H
      by_cases bq : aH = true
      focus
       subst bq;rw [if_pos rfl] at H;have H' := aM H;clear H
      rotate_left
      focus
       replace bq := qO.mpr bq;subst bq;rw [if_neg qT] at H;have H' := aM H;clear H
    rotate_left 3
    focus
     replace c10 := qO.mpr c10;subst c10;rw [if_neg qT] at H;have H' := aM H;clear H
   rotate_left 4
   focus
    rw [if_neg c8] at H;have ap := qF.mpr c8;have bz := qB.mpr c8;(first|rw [ap]|(simp only [i64_w,i32_w];rw [ap])|skip)
    by_cases aK : ad = 2
    focus
     rw [if_pos aK] at H;have a5 := qE.mpr aK;have a6 := qN.mpr aK;clear aK
     by_cases aL : ae.toList = ([] : List UInt8)
     focus
      rw [if_pos aL] at H;have a7 := qE.mpr aL;have a8 := qN.mpr aL;clear aL
      by_cases aN : ac.toList = ([] : List UInt8)
      focus
       rw [if_pos aN] at H;have a9 := qE.mpr aN;have ba := qN.mpr aN;clear aN;have H' := aM H;clear H
      rotate_left
      focus
       rw [if_neg aN] at H;have a9 := qF.mpr aN;have ba := qB.mpr aN;have H' := aM H;clear H
     rotate_left 2
     focus
      rw [if_neg aL] at H;have a7 := qF.mpr aL;have a8 := qB.mpr aL;have H' := aM H;clear H
    rotate_left 3
    focus
     rw [if_neg aK] at H;have a5 := qF.mpr aK;have a6 := qB.mpr aK
     by_cases aO : ad = 3
     focus
      rw [if_pos aO] at H;have bb := qE.mpr aO;have bc := qN.mpr aO;clear aO
      by_cases aP : ae.toList = ([] : List UInt8)
      focus
       rw [if_pos aP] at H;have bd := qE.mpr aP;have be := qN.mpr aP;clear aP
       by_cases aQ : ac.toList = ([] : List UInt8)
       focus
        rw [if_pos aQ] at H;have bf := qE.mpr aQ;have bg := qN.mpr aQ;clear aQ;have H' := aM H;clear H
       rotate_left
       focus
        rw [if_neg aQ] at H;have bf := qF.mpr aQ;have bg := qB.mpr aQ;have H' := aM H;clear H
      rotate_left 2
      focus
       rw [if_neg aP] at H;have bd := qF.mpr aP;have be := qB.mpr aP;have H' := aM H;clear H
     rotate_left 3
     focus
      rw [if_neg aO] at H;have bb := qF.mpr aO;have bc := qB.mpr aO
      by_cases aR : ad = 4
      focus
       rw [if_pos aR] at H;have bh := qE.mpr aR;have bi := qN.mpr aR;clear aR
       by_cases aT : ae.toList = ([] : List UInt8)
       focus
        rw [if_pos aT] at H;have bj := qE.mpr aT;have bk := qN.mpr aT;clear aT
        by_cases aU : ac.toList = ([] : List UInt8)
        focus
         rw [if_pos aU] at H;have bl := qE.mpr aU;have bm := qN.mpr aU;clear aU;have H' := aM H;clear H
        rotate_left
        focus
         rw [if_neg aU] at H;have bl := qF.mpr aU;have bm := qB.mpr aU;have H' := aM H;clear H
       rotate_left 2
       focus
        rw [if_neg aT] at H;have bj := qF.mpr aT;have bk := qB.mpr aT;have H' := aM H;clear H
      rotate_left 3
      focus
       rw [if_neg aR] at H;have bh := qF.mpr aR;have bi := qB.mpr aR;have H' := aM H;clear H
   all_goals
    (try obtain ⟨_,_,_,_,_,_,_,_⟩ := z4_ af.out);go_wp2_with (first|((with_reducible refine gate_callee (f := 101) rfl ?_);refine gl_ (some 20) Tryz.func101 #[.string ae] ?_;(with_reducible refine (FaL.calls _ _ _ _ A9.out).mono ?_);rintro e w' ⟨rfl,⟨nd,rfl⟩⟩;refine ⟨_,rfl,?_⟩)|(go_at_call 134;(with_reducible refine (Fb1.calls _ _ _ _ ?side1 bK.out).mono ?_);(case side1 => exact Gf.below HG.out.toGf wB_);rintro e w' ⟨rfl,⟨nd,rfl⟩⟩));go_meet
    case rel => first|(exact ⟨_,(((aa.length : Int) == 0)),vR_,H',⟨by first|omega|exact Nat.le_refl _⟩,⟨wC_ af.out⟩,⟨wB_⟩⟩)|(exact ⟨_,(false),vR_,H',⟨by first|omega|exact Nat.le_refl _⟩,⟨wC_ af.out⟩,⟨wB_⟩⟩)|(exact ⟨_,(((aa.length : Int) == 1)),vR_,H',⟨by first|omega|exact Nat.le_refl _⟩,⟨wC_ af.out⟩,⟨wB_⟩⟩)|(exact ⟨_,(((aa.length : Int) == 2)),vR_,H',⟨by first|omega|exact Nat.le_refl _⟩,⟨wC_ af.out⟩,⟨wB_⟩⟩)
  case rest =>
   clear bw;obtain ⟨kq,aA,rfl,HA,bB,af,HB⟩ := hcut
   cases kq with
   | zero => exact absurd HA.out (by simp [Fad.j0])
   | succ bJ =>
    have H := HA.out;clear HA;simp only [Fad.j0] at H;have H' := aM H;clear H;obtain ⟨_,_,_,_,_,_,_,_⟩ := z4_ af.out;go_wp2;go_loopg [6,7,73] bJ (fun kq v6 v7 bL w' => ∃ (aC : Bool) (ak : Int) (ab : Int),v6 = .bool aC ∧ v7 = .int .i64 ak ∧ bL = .int .i64 ab ∧ Aside0 (Fad.l0 kq a1 aC ak aa (aa.length : Int) ab = some (r1,r2)) ∧ Aside0 (kq ≤ bJ) ∧ Aside0 (w'.heap[ag]? = some (.cells #[.int .i64 ad,.string ac,.string ae,(.slice aj aa.length ai)] 36 (0,0))) ∧ Aside0 (Below w.heap.size w w'))
    case atStart => exact ⟨(aA),(1),(0),vR_,vR_,vR_,H',⟨Nat.le_refl _⟩,⟨wC_ af.out⟩,⟨wB_⟩⟩
    case round =>
     clear H';obtain ⟨aC,ak,ab,rfl,rfl,rfl,HA,bE,af,HB⟩ := hrel
     cases gk with
     | zero => exact absurd HA.out (by simp [Fad.l0])
     | succ k2 =>
      have H := HA.out;clear HA;simp only [Fad.l0] at H
      by_cases aZ : ab < (aa.length : Int)
      focus
       rw [if_pos aZ] at H;have bn := dT aZ;clear aZ
       by_cases br : 0 ≤ ab
       rotate_left;rw [if_neg br] at H;exact nH_ H;rw [if_pos br] at H;have c38b0 := dT br;clear br
       by_cases bs : ab < (aa.length : Int)
       rotate_left;rw [if_neg bs] at H;exact nH_ H;rw [if_pos bs] at H;have c39b0 := dT bs;clear bs
       by_cases bu : aC = true
       focus
        subst bu;rw [if_pos rfl] at H;replace H := oB.mp H;obtain ⟨⟨aV,aW⟩,bo,H⟩ := H;replace H : (Fad.l0 k2 a1 aW (wrap64 (ak + aV)) aa (aa.length : Int) (wrap64 (ab + 1))) = some (r1,r2) := H;have bM := aM bo;clear bo;have H' := aM H;clear H
       rotate_left
       focus
        replace bu := qO.mpr bu;subst bu;rw [if_neg qT] at H;simp only [eS,eP] at H;obtain ⟨rfl,rfl⟩ := H
      rotate_left 2
      focus
       rw [if_neg aZ] at H;have bn := dF aZ;clear aZ;simp only [eS,eP] at H;obtain ⟨rfl,rfl⟩ := H
      all_goals
       (try (have bG : 0 ≤ (ab : Int) := oD (by assumption);have bH : ab < (aa.length : Int) := oD (by assumption);obtain ⟨bI,aD,aE,bO,ar,au,av,aw,ax,ay⟩ := Fcr a0.out ab bG bH;cases bO;replace ar := mv_ HB.out ar;replace au := mv_ HB.out au;replace av := mv_ HB.out av;replace aw := mv_ HB.out aw;have aX := aM ay;have aY := aM ax;clear ay ax;replace bG := eq_true bG;replace bH := eq_true bH));go_wp2_with (first|((with_reducible refine gate_dst (N := 9) rfl ?_);(try (refine gate_guard (by rfl) ?_;dsimp only));refine bx_ (N := 9) (cs := #[.int .i64 0,.string (⟨#[]⟩ : ByteArray),.string (⟨#[]⟩ : ByteArray),.slice none 0 0]) (t := 36) ?_;intro aF hg Wgb403 hbox hb;have az := aM (hbox);have bp := aM ((by rw [hg];exact (lZ wB_) : w.heap.size ≤ aF));have GE403 := bp;have ah := aM (nl_ hg af.out);have al := aM (ng_ hg af.out);replace af := aM (bw_ af.out hb);replace HB := aM (lT wB_ hb);clear hb hbox hg;have hnby403_399 := al.out;have hncy399_403 := ah.out;obtain ⟨_,_,_,_,_,_,_,_⟩ := z4_ az.out)|((with_reducible refine gate_callee (f := 81) rfl ?_);refine gl_ (some 84) Tryz.func81 #[.agg #[.int .i64 ((Fab aa ab).f0),.string ((Fab aa ab).f1),.string ((Fab aa ab).f2),.slice aD ((Fab aa ab).f3).length aE],.int .i64 (wrap64 (a1 - ak))] ?_;(with_reducible refine (ih k2 (by have := bB.out;have := bE.out;omega) ((Fab aa ab).f0) ((Fab aa ab).f1) ((Fab aa ab).f2) _ _ ((Fab aa ab).f3) (wrap64 (a1 - ak)) aV aW _ ?side1 ?side2 ?side3 bM.out).mono ?_);(case side1 => exact cB aX.out wB_);(case side2 => exact aY.out);(case side3 => exact Gfw.below HG.out wB_);rintro e WA41 ⟨rfl,hb⟩;refine ⟨_,rfl,?_⟩;replace af := aM (bW (g := ag) (o := .cells #[.int .i64 ad,.string ac,.string ae,.slice (some bI) aa.length ai] 36 (0,0)) (bf_ ah.out af.out) hb);replace az := aM (bW (g := aF) (o := .cells #[.int .i64 ((Fab aa ab).f0),.string ((Fab aa ab).f1),.string ((Fab aa ab).f2),.slice aD ((Fab aa ab).f3).length aE] 36 (0,0)) (bq4_ az.out) hb);replace HB := aM (lT wB_ hb)))
       first
        |
         go_ret2;(first|exact ⟨vR_,wB_⟩|exact ⟨vR_,wB_⟩)
        |
         go_roundg k2
         case measure => have := bB.out;have := bE.out;omega
         case rel => exact ⟨(aW),(wrap64 (ak + aV)),(wrap64 (ab + 1)),vR_,vR_,vR_,H',⟨by have := bB.out;have := bE.out;omega⟩,⟨wC_ af.out⟩,⟨wB_⟩⟩
def Fbu.f (k : Nat) (ab : Int) (ac : ByteArray) (ad : ByteArray) (ae : List (S36)) : Option (Bool) := (Fad.f k ab ac ad ae 15).bind fun aa => (some aa.2)
theorem Fbu.mono : ∀ a0 a1 a2 a3 k,LeO (Fbu.f k a0 a1 a2 a3) (Fbu.f (k + 1) a0 a1 a2 a3) := by
 intro a0 a1 a2 a3 k
 unfold Fbu.f
 repeat' (first|with_reducible (first|exact Fad.mono _ _ _ _ _ _|exact LeO.refl _|exact LeO.none _|refine LeO.ite ?_ ?_|refine LeO.bind ?_ (fun _ => ?_))|exact LeO.none _|refine LeO.ite ?_ ?_|refine LeO.bind ?_ (fun _ => ?_))
theorem Fbu.calls (k : Nat) (ab : Int) (ac : ByteArray) (ad : ByteArray) (af : Option Addr) (ag : Nat) (aa : List (S36)) (r : Bool) (w : World) (ah : Kd.C k36 w af aa.length aa) (ai : aa.length ≤ ag) (hG : Gfw w) (h : Fbu.f k ab ac ad aa = some r) :
  Calls Tryz.prog 31 #[.agg #[.int .i64 ab,.string ac,.string ad,.slice af aa.length ag]] w fun e w' => e = .returned (.bool r) ∧ Below w.heap.size w w' := by
 have hu36 := Tryz.underlying36;have aj := aM ah;have ak := aM ai;clear ah ai;have HB := aM (Below.refl w.heap.size w);have HG := aM hG;clear hG;have H : ((Fad.f k ab ac ad aa 15).bind fun al => (some al.2)) = some r := h;clear h;replace H := oB.mp H;obtain ⟨⟨ap,am⟩,ar,H⟩ := H;replace H : (some am) = some r := H;have A2 := aM ar;clear ar;obtain rfl := oI H;go_enter Tryz.func31,Tryz.ntmps31;go_wp2_with (first|((with_reducible refine gate_dst (N := 1) rfl ?_);refine bx_ (N := 1) (cs := #[.int .i64 ab,.string ac,.string ad,.slice af aa.length ag]) (t := 36) ?_;intro an hg w3 hbox hb;have ae := aM (hbox);have ao := aM ((by rw [hg];exact (lZ wB_) : w.heap.size ≤ an));have GE406 := ao;replace HB := aM (lT wB_ hb);clear hb hbox hg;obtain ⟨_,_,_,_,_,_,_,_⟩ := z4_ ae.out)|((with_reducible refine gate_callee (f := 81) rfl ?_);refine gl_ (some 7) Tryz.func81 #[.agg #[.int .i64 ab,.string ac,.string ad,.slice af aa.length ag],.int .i64 15] ?_;(with_reducible refine (Fad.calls k ab ac ad _ _ aa 15 ap am _ ?side1 ?side2 ?side3 A2.out).mono ?_);(case side1 => exact wX_ aj.out);(case side2 => exact ak.out);(case side3 => exact Gfw.below HG.out wB_);rintro e w5 ⟨rfl,hb⟩;refine ⟨_,rfl,?_⟩;replace ae := aM (bw_ ae.out hb);replace HB := aM (lT wB_ hb)));go_ret;exact ⟨vR_,wB_⟩
theorem R_strs (w : World) (e : TypeId) (L : List ByteArray) (hL : L.length ≤ 9223372036854775807) : Kd.R Kd.string e (w.alloc (.cells (L.map Value.string).toArray e)) w.heap.size (fun _ => True) (.slice (some ⟨w.heap.size,0,none⟩) L.length L.length) L := by
 refine ⟨fun _ _ => trivial,L.map Value.string,?_,?_⟩
 ·have h2 := World.ownsRow_lit (base := w.heap.size) (e := e) (size := 1) w (L.map Value.string).toArray L.length (Nat.le_refl _) (by simpa [maxLen] using hL) (by simp);have h3 : (w.alloc (Obj.cells (L.map Value.string).toArray e)).ownsRow w.heap.size e 1 (.slice (some ⟨w.heap.size,0,none⟩) L.length L.length) L.length (L.map Value.string) := (by simpa using h2);exact h3
 ·refine ⟨by show (L.map Value.string).length = L.length * 1;simp,fun j p hj => ?_⟩;show ((L.map Value.string).drop (j * 1)).take 1 = [Value.string p];obtain ⟨hjl,hp⟩ := List.getElem?_eq_some_iff.1 hj;rw [Nat.mul_one,← List.map_drop,List.drop_eq_getElem_cons hjl,hp];rfl
def FbP.f (a0 a1 : ByteArray) : Option (List ByteArray) := if a0.size < 4294967281 ∧ 1 ≤ a1.size ∧ Lib.countB a0 a1 ≤ 4294967281 then some (Lib.splitB a1 0 (Lib.countB a0 a1) a0) else none
theorem FbP.calls (a0 a1 : ByteArray) (r : List ByteArray) (w : World) (hG : Gm w) (h : FbP.f a0 a1 = some r) :
  Calls Tryz.prog 185 #[.string a0,.string a1] w fun e w' => ∃ v0_ : Value,e = .returned (v0_) ∧ Kd.R Kd.string 9 w' w.heap.size (fun _ => True) v0_ r ∧ Below w.heap.size w w' := by
 unfold FbP.f at h
 by_cases hs : a0.size < 4294967281 ∧ 1 ≤ a1.size ∧ Lib.countB a0 a1 ≤ 4294967281
 ·rw [if_pos hs] at h;obtain rfl := oI h;obtain ⟨m,hm⟩ := hG.max;refine (Tryz.strings_Split a0 a1 m w hs.1 hm hs.2.1).mono ?_;rintro e w' ⟨rfl,rfl⟩;have hl : (Lib.splitB a1 0 (Lib.countB a0 a1) a0).length = Lib.countB a0 a1 + 1 := Lib.splitB_all a1 hs.2.1 0 _ a0 rfl;refine ⟨_,rfl,?_,lA (Below.refl _ _) _⟩;have hle : Lib.countB a0 a1 + 1 ≤ 9223372036854775807 := (by omega);rw [← hl] at hle ⊢;generalize Lib.splitB a1 0 (Lib.countB a0 a1) a0 = L at *;exact R_strs w _ L hle
 ·rw [if_neg hs] at h;cases h
def Fb4.f (a0 : ByteArray) : Option (Bool) := some (a0.toList == ([] : List UInt8))
theorem Fb4.calls (a0 : ByteArray) (r : Bool) (w : World) (h : Fb4.f a0 = some r) :
  Calls Tryz.prog 186 #[.string a0] w fun e w' => e = .returned (.bool r) ∧ Drawn0 w w' := by
 have H : (some (a0.toList == ([] : List UInt8))) = some r := h;clear h;obtain rfl := oI H;go_enter Tryz.func186,Tryz.ntmps186;go_wp2;go_ret;exact ⟨vR_,dw_⟩
def Fao.l0 : Nat → List ByteArray → Int → Int → Option (Int)
 | 0,_,_,_ => none
 | k + 1,x0,x7,x8 => if x8 < x7 then (if 0 ≤ x8 then (if x8 < (x0.length : Int) then ((Fb4.f (rdOf ByteArray.empty x0 x8)).bind fun aa => (if aa = true then (some x8) else (Fao.l0 k x0 x7 (wrap64 (x8 + 1))))) else (none)) else (none)) else (some (-1))
def Fao.f (k : Nat) (l0 : List ByteArray) (a1 : Int) : Option (Int) := Fao.l0 k l0 (l0.length : Int) 0
theorem Fao.mono_l : ∀ k,(∀ y0 y1 y2,LeO (Fao.l0 k y0 y1 y2) (Fao.l0 (k + 1) y0 y1 y2))
 | 0 => fun _ _ _ r h => by simp [Fao.l0] at h
 | k + 1 => by
  have ih0 := Fao.mono_l k
  ·intro y0 y1 y2
   unfold Fao.l0
   repeat' (first|with_reducible (first|exact ih0 _ _ _|exact LeO.refl _|exact LeO.none _|refine LeO.ite ?_ ?_|refine LeO.bind ?_ (fun _ => ?_))|exact LeO.none _|refine LeO.ite ?_ ?_|refine LeO.bind ?_ (fun _ => ?_))
theorem Fao.mono : ∀ a0 a1 k,LeO (Fao.f k a0 a1) (Fao.f (k + 1) a0 a1) := by
 intro a0 a1 k
 have ih0 := Fao.mono_l k
 unfold Fao.f
 repeat' (first|with_reducible (first|exact ih0 _ _ _|exact LeO.refl _|exact LeO.none _|refine LeO.ite ?_ ?_|refine LeO.bind ?_ (fun _ => ?_))|exact LeO.none _|refine LeO.ite ?_ ?_|refine LeO.bind ?_ (fun _ => ?_))
theorem Fao.calls (k : Nat) (A0 : Option Addr) (c0 : Nat) (l0 : List ByteArray) (a1 : Int) (r : Int) (w : World) (hr0 : Kd.C Kd.string w A0 l0.length l0) (hc0 : l0.length ≤ c0) (h : Fao.f k l0 a1 = some r) :
  Calls Tryz.prog 152 #[.slice A0 l0.length c0,.func (.func 186) #[] #[]] w fun e w' => e = .returned (.int .i64 r) ∧ Drawn0 w w' := by
 have HR0 := aM hr0;have HC0 := aM hc0;clear hr0 hc0;have H : (Fao.l0 k l0 (l0.length : Int) 0) = some r := h;clear h;have H' := aM H;clear H;go_enter Tryz.func152,Tryz.ntmps152;go_wp2;go_loopg [8] k (fun kq v8 w' => ∃ (aa : Int),v8 = .int .i64 aa ∧ Aside0 (Fao.l0 kq l0 (l0.length : Int) aa = some r) ∧ Aside0 (kq ≤ k) ∧ Drawn0 w w')
 case atStart => exact ⟨(0),vR_,H',⟨Nat.le_refl _⟩,dw_⟩
 case round =>
  clear H';obtain ⟨aa,rfl,HA,ad,⟨m1,rfl⟩⟩ := hrel
  cases gk with
  | zero => exact absurd HA.out (by simp [Fao.l0])
  | succ k1 =>
   have H := HA.out;clear HA;simp only [Fao.l0] at H
   by_cases c3 : aa < (l0.length : Int)
   focus
    rw [if_pos c3] at H;have ab := dT c3;clear c3
    by_cases c4 : 0 ≤ aa
    rotate_left;rw [if_neg c4] at H;exact nH_ H;rw [if_pos c4] at H;have c4b0 := dT c4;clear c4
    by_cases c5 : aa < (l0.length : Int)
    rotate_left;rw [if_neg c5] at H;exact nH_ H;rw [if_pos c5] at H;have c5b0 := dT c5;clear c5;obtain ⟨ac,A6,H⟩ := bE_ H
    by_cases c7 : ac = true
    focus
     subst c7;rw [if_pos rfl] at H;obtain rfl := oI H
    rotate_left
    focus
     replace c7 := qO.mpr c7;subst c7;rw [if_neg qT] at H;have H' := aM H;clear H
   rotate_left 2
   focus
    rw [if_neg c3] at H;have ab := dF c3;clear c3;obtain rfl := oI H
   all_goals
    (try (have p01 : 0 ≤ (aa : Int) := oD (by assumption);have q01 : aa < (l0.length : Int) := oD (by assumption);obtain ⟨ad01,e01,hx01_0⟩ := Kd.at_string HR0.out aa p01 q01;cases e01;replace p01 := eq_true p01;replace q01 := eq_true q01));go_wp2_with (first|(go_at_call 186;(with_reducible refine (Fb4.calls _ _ _ A6.out).mono ?_);rintro e w' ⟨rfl,⟨nd,rfl⟩⟩))
    first
     |
      go_ret;exact ⟨vR_,dw_⟩
     |
      go_roundg k1
      case measure => have := ad.out;omega
      case rel => exact ⟨(wrap64 (aa + 1)),vR_,H',⟨by have := ad.out;omega⟩,dw_⟩
def Fb9 : Go.Shelf.Ren := ⟨fun|6 => 152|10 => 106|n => n,fun|22 => 50|23 => 9|25 => 136|3 => 3|4 => 4|n => n,fun n => n⟩
theorem Fca : SlLaysH.n10 Tryz.prog Fb9 := {
 mixed := by kernel_rfl
 f6 := ⟨Tryz.f152.name,by decide,Tryz.func152.trans (congrArg some (by kernel_rfl))⟩
 f10 := ⟨Tryz.f106.name,by decide,Tryz.func106.trans (congrArg some (by kernel_rfl))⟩
 t0 := Tryz.underlying0
 a0 := Tryz.isAgg0
 z0 := Tryz.sizeOf0
 v0 := Tryz.zeroValue0
 t3 := Tryz.underlying3
 a3 := Tryz.isAgg3
 z3 := Tryz.sizeOf3
 v3 := Tryz.zeroValue3
 t4 := Tryz.underlying4
 a4 := Tryz.isAgg4
 z4 := Tryz.sizeOf4
 v4 := Tryz.zeroValue4
 t22 := Tryz.underlying50
 a22 := Tryz.isAgg50
 z22 := Tryz.sizeOf50
 v22 := Tryz.zeroValue50
 a23 := Tryz.isAgg9
 z23 := Tryz.sizeOf9
 t25 := Tryz.underlying136
 a25 := Tryz.isAgg136
 z25 := Tryz.sizeOf136
 v25 := Tryz.zeroValue136 }
theorem Fci {w : World} {base : Nat} {ok : Nat → Prop} {l : List ByteArray} {inner : List Value} (hr : Reps (Kd.string.M w base ok) Kd.string.sz l inner) : inner = l.map Value.string := by
 obtain ⟨hl,h⟩ := hr;have hl' : inner.length = l.length := hl.trans (Nat.mul_one _);apply List.ext_getElem?;intro j
 by_cases hj : j < l.length
 ·have h2 : (inner.drop (j * 1)).take 1 = [Value.string l[j]] := h j l[j] (List.getElem?_eq_getElem hj);rw [Nat.mul_one] at h2;have h3 : ((inner.drop j).take 1)[0]? = some (Value.string l[j]) := (by rw [h2];rfl);rw [List.getElem?_take_of_lt (by omega),List.getElem?_drop,Nat.add_zero] at h3;rw [h3];simp [hj]
 ·rw [List.getElem?_eq_none (by omega),List.getElem?_eq_none (by simp;omega)]
theorem Fb6 {w : World} {base : Nat} {ok : Nat → Prop} (l : List ByteArray) : Reps (Kd.string.M w base ok) Kd.string.sz l (l.map Value.string) := by
 refine ⟨by show (l.map Value.string).length = l.length * 1;simp,fun j p hj => ?_⟩;show ((l.map Value.string).drop (j * 1)).take 1 = [Value.string p];obtain ⟨hjl,hp⟩ := List.getElem?_eq_some_iff.1 hj;rw [Nat.mul_one,← List.map_drop,List.drop_eq_getElem_cons hjl,hp];rfl
theorem Fck (p : ByteArray → Bool) (hp : ∀ (W : World) (x : ByteArray),Calls Tryz.prog 186 #[.string x] W fun e w' => e = .returned (.bool (p x)) ∧ ∃ q,w' = W.drewN q)
  (g cap : Nat) (cur : Array Value) (l : List ByteArray) (w : World) (base : Nat) (hbase : base ≤ g) (hb : w.heap[g]? = some (.cells cur 9 (0,0))) (h1 : l.length ≤ cap) (h2 : cap ≤ maxLen) (h3 : cur.size = cap * 1) (h4 : cur.toList.take (l.length * 1) = l.map Value.string) :
  Calls Tryz.prog 106 #[.slice (some ⟨g,0,none⟩) l.length cap,.func (.func 186) #[] #[]] w fun e w' => e = .returned (.slice (some ⟨g,0,none⟩) (l.filter fun x => !p x).length cap) ∧ w'.ownsRow base 9 1 (.slice (some ⟨g,0,none⟩) (l.filter fun x => !p x).length cap) (l.filter fun x => !p x).length ((l.filter fun x => !p x).map Value.string) ∧ w.grownBy w' (some g) := by
 have enc_eq : ∀ x : ByteArray,encStr x.data.toList = .string x := fun x => (by cases x;rfl);have eg : ∀ args w,(callFunc 186 args).run Tryz.prog w = .ok (.enter 186 args) w := enters_of Tryz.func186 (by kernel_rfl) rfl
 have hmap : (l.map fun x => x.data.toList).map encStr = l.map Value.string := by
  rw [List.map_map];exact List.map_congr_left fun x _ => enc_eq x
 have hlen : (l.map fun x => x.data.toList).length = l.length := (by simp)
 have hfil : ((l.map fun x => x.data.toList).filter fun x => !p ⟨x.toArray⟩) = (l.filter fun x => !p x).map fun x => x.data.toList := by
  rw [List.filter_map];rfl
 have hcon := AnyE.slices_DeleteFunc Fca encStr (fun _ => rfl) (fun u => p ⟨u.toArray⟩) 186 #[] eg [] Tryz.zeroValue9 g 0 cap (l.map fun x => x.data.toList).toArray w
  (fun W x _ => hp W ⟨x.toArray⟩) (fun n os dk x _ => hp _ ⟨x.toArray⟩) (holds_of_block hb (by rw [hlen,hmap];simpa using h4)) (by simp [maxLen] at h2;simp;omega) (by simpa using h1)
 have hsz : (l.map fun x => x.data.toList).toArray.size = l.length := (by simp);rw [hsz] at hcon;rw [show ((l.map fun x => x.data.toList).toArray.toList.filter fun x => !p ⟨x.toArray⟩) = (l.filter fun x => !p x).map fun x => x.data.toList from hfil] at hcon;have hfl : (l.filter fun x => !p x).length ≤ l.length := List.length_filter_le _ _;generalize l.filter (fun x => !p x) = fl at *;rw [List.length_map] at hcon;refine hcon.mono ?_;rintro e w' ⟨he,q,rfl⟩;have hgr : ∀ W : World,Go.Sort.grow W #[] = W := fun W => (by unfold Go.Sort.grow;simp);generalize hts : (fl.map fun x => x.data.toList) ++ List.replicate (l.length - fl.length) [] = ts;have htl : ts.length = (l.map fun x => x.data.toList).length := (by rw [← hts];simp;omega);have full := ownsRow_sorted (n := q) (os := #[]) (e := 9) htl hbase hb (by rw [hlen];exact h1) h2 h3;have gr := grownBy_sorted (w := w) (g := g) (n := q) (os := #[]) ts.toArray;rw [hgr] at full gr;refine ⟨he,?_,gr⟩;rcases full.2 with ⟨h0,_⟩|⟨g',cap',cur',hv,hb',hh',hn',hm',hs',ht'⟩
 ·cases h0
 ·cases hv;refine ⟨by simp,.inr ⟨g,cap,cur',rfl,hb',hh',by omega,hm',hs',?_⟩⟩;rw [hlen] at ht';have h5 := congrArg (List.take fl.length) ht'
  have h6 : List.take fl.length ((fl.map fun x => x.data.toList).map encStr) = fl.map Value.string := by
   rw [List.map_map,List.take_of_length_le (by simp)];exact List.map_congr_left fun x _ => enc_eq x
  rw [List.take_take,Nat.min_eq_left (by omega),← hts,List.map_append,List.take_append_of_le_length (by simp),h6] at h5;rw [Nat.mul_one];exact h5
def Fbs.f (l0 : List ByteArray) (a1 : Int) : Option (List ByteArray) := some (l0.filter fun x => !((Fb4.f x).getD false))
theorem Fbs.calls (ab : Nat → Prop) (aa : Value) (l0 : List ByteArray) (a1 : Int) (r0 : List ByteArray) (w0 w : World) (hB : Below w0.heap.size w0 w) (ho0 : Kd.R Kd.string 9 w w0.heap.size ab aa l0) (h : Fbs.f l0 a1 = some r0) :
  Calls Tryz.prog 106 #[aa,.func (.func 186) #[] #[]] w fun e w' => ∃ v0_ : Value,e = .returned (v0_) ∧ Kd.R Kd.string 9 w' w0.heap.size (fun k_ => (ab k_ ∨ w.heap.size ≤ k_)) v0_ r0 ∧ Below w0.heap.size w0 w' ∧ Kept w w' (fun k_ => ab k_) := by
 obtain rfl := oI h
 have hp : ∀ (W : World) (x : ByteArray),Calls Tryz.prog 186 #[.string x] W fun e w' => e = .returned (.bool ((Fb4.f x).getD false)) ∧ ∃ q,w' = W.drewN q := fun W x =>
  (Fb4.calls x _ W rfl).mono fun e w' ⟨he,hd⟩ => ⟨he,hd.out⟩
 obtain ⟨h0,inner,hown,hr⟩ := ho0;obtain rfl := Fci hr;have hl := hown;rcases hown.2 with ⟨rfl,hn0⟩|⟨g,cap,cur,rfl,hbb,hb,hn,hm,hsz,hcur⟩
 ·obtain rfl : l0 = [] := List.length_eq_zero_iff.1 hn0;have hI := AnyE.slices_IndexFunc_empty (P := Tryz.prog) (ρ := Fb9) { Fca with } none 0 (.func (.func 186) #[] #[]) w;change Calls Tryz.prog 152 _ _ _ at hI;have H := aM hI;clear hI;go_enter Tryz.func106,Tryz.ntmps106;go_wp2_with (first|(go_at_call 152;(refine (H.out).mono ?_);rintro e w' ⟨rfl,rfl⟩));go_ret;exact ⟨_,rfl,⟨fun k hk => .inl (h0 k hk),_,hl,Fb6 _⟩,hB,Kept.refl _ _⟩
 ·refine (Fck (fun x => (Fb4.f x).getD false) hp g cap cur l0 w w0.heap.size hbb hb hn hm hsz hcur).mono ?_;rintro e w' ⟨rfl,ho,hg⟩;refine ⟨_,rfl,⟨fun k hk => ?_,_,ho,Fb6 _⟩,?_,?_⟩
  ·exact .inl (h0 k hk)
  ·exact hB.grown hg hB.size (fun k hk => own_base hl k hk)
  ·exact Kept.of_grown hg (Kept.refl w _) (fun k hk => .inl (h0 k hk))
def Fb7.f (a0 : ByteArray) : Option (List ByteArray) := (FbP.f a0 (⟨#[32]⟩ : ByteArray)).bind fun aa => ((Fbs.f aa 0).bind fun ab => (some ab))
theorem Fb7.calls (a0 : ByteArray) (r : List ByteArray) (w : World) (hG : Gm w) (h : Fb7.f a0 = some r) :
  Calls Tryz.prog 147 #[.string a0] w fun e w' => ∃ v0_ : Value,e = .returned (v0_) ∧ Kd.R Kd.string 9 w' w.heap.size (fun _ => True) v0_ r ∧ Below w.heap.size w w' := by
 have HB := aM (Below.refl w.heap.size w);have HG := aM hG;clear hG;have H : ((FbP.f a0 (⟨#[32]⟩ : ByteArray)).bind fun aa => ((Fbs.f aa 0).bind fun ac => (some ac))) = some r := h;clear h;obtain ⟨aa,A2,H⟩ := bE_ H;obtain ⟨ac,A3,H⟩ := bE_ H;obtain rfl := oI H;go_enter Tryz.func147,Tryz.ntmps147;go_wp2_with (first|((with_reducible refine gate_callee (f := 185) rfl ?_);refine gl_ (some 4) Tryz.func185 #[.string a0,.string (⟨#[32]⟩ : ByteArray)] ?_;(with_reducible refine (FbP.calls a0 (⟨#[32]⟩ : ByteArray) aa _ ?side1 A2.out).mono ?_);(case side1 => exact Gm.below HG.out wB_);rintro e w4 ⟨v412,rfl,ho0,hb⟩;refine ⟨_,rfl,?_⟩;have ab := aM (Kd.R_lower ho0 (lZ wB_));replace HB := aM (lT wB_ hb);obtain ⟨ae,af,ag⟩ := Kd.R_slice ab.out;subst ag)|((with_reducible refine gate_callee (f := 106) rfl ?_);refine gl_ (some 5) Tryz.func106 #[.slice ae aa.length af,.func (.func 186) #[] #[]] ?_;(with_reducible refine (Fbs.calls (fun k_ => some k_ = (.slice ae aa.length af : Value).ownBlock) (.slice ae aa.length af) aa 0 ac w _ ?side1 ?side2 A3.out).mono ?_);(case side1 => repeat (first|(with_reducible first|exact HB.out|apply lA|apply lN|apply lD)|exact HB.out));(case side2 => exact Kd.R_tight rfl ab.out);rintro e w6 ⟨v415,rfl,ho0,hb,hkp⟩;refine ⟨_,rfl,?_⟩;have n0_ := aM (Kd.R_mono (ok' := fun k_ => True) ho0 (fun k_ hk_ => trivial));have n1_ := aM (hb);clear HB;clear ab;have ad := n0_;have HB := n1_;clear n0_ n1_));go_ret;exact ⟨_,vR_,wO_ ad.out,wB_⟩
def FbC.f (a0 : Int) : Option (Bool) := if a0 ≥ 65 then (some (decide (a0 ≤ 90))) else (some false)
theorem FbC.calls (a0 : Int) (r : Bool) (w : World) (h : FbC.f a0 = some r) :
  Calls Tryz.prog 229 #[.int .u8 a0] w fun e w' => e = .returned (.bool r) ∧ Drawn0 w w' := by
 have H : (if a0 ≥ 65 then (some (decide (a0 ≤ 90))) else (some false)) = some r := h;clear h
 by_cases c2 : a0 ≥ 65
 focus
  rw [if_pos c2] at H;have aa : decide (65 ≤ a0) = true := dT c2;clear c2;obtain rfl := oI H
 rotate_left
 focus
  rw [if_neg c2] at H;have aa : decide (65 ≤ a0) = false := dF c2;clear c2;obtain rfl := oI H
 all_goals
  go_enter Tryz.func229,Tryz.ntmps229;go_wp2;go_ret;exact ⟨vR_,dw_⟩
def lowI (c : Int) : Int := if 65 ≤ c ∧ c ≤ 90 then c + 32 else c
def Fcl.f (a0 : ByteArray) : Option (ByteArray) := if a0.size ≤ 9223372036854775807 then some (strOfNums ((bytesOf a0).map lowI)) else none
def lowTo (xs : List Int) (k : Nat) : List Int := (xs.take k).map lowI ++ xs.drop k
theorem lowTo_length (xs : List Int) (k : Nat) (h : k ≤ xs.length) : (lowTo xs k).length = xs.length := by
 unfold lowTo;simp;omega
theorem lowTo_at (xs : List Int) (k : Nat) (h : k < xs.length) : (lowTo xs k).getD k 0 = xs.getD k 0 := by
 unfold lowTo;rw [List.getD_eq_getElem?_getD,List.getElem?_append_right (by simp;omega)];simp [List.getD_eq_getElem?_getD];rw [Nat.min_eq_left (by omega)];simp
theorem my_set_same (xs : List Int) (k : Nat) (h : k < xs.length) (c : Int) (hc : xs.getD k 0 = c) : xs.set k c = xs := by
 subst hc;simp [List.getD_eq_getElem?_getD,List.getElem?_eq_getElem h]
theorem lowTo_succ (xs : List Int) (k : Nat) (h : k < xs.length) : lowTo xs (k + 1) = (lowTo xs k).set k (lowI (xs.getD k 0)) := by
 unfold lowTo;have hl : ((xs.take k).map lowI).length = k := (by simp;omega);rw [List.set_append_right _ _ (by omega),hl,Nat.sub_self,List.drop_eq_getElem_cons h,sZ,List.take_succ_eq_append_getElem h,List.map_append];simp [List.getD_eq_getElem?_getD,List.getElem?_eq_getElem h]
theorem Fcl.calls (a0 : ByteArray) (r : ByteArray) (w : World) (h : Fcl.f a0 = some r) :
  Calls Tryz.prog 187 #[.string a0] w fun e w' => e = .returned (.string r) ∧ Below w.heap.size w w' := by
 unfold Fcl.f at h
 by_cases hs : a0.size ≤ 9223372036854775807
 ·rw [if_pos hs] at h;obtain rfl := oI h;have hcv := Lib.run_convert_string_bytes (P := Tryz.prog) w 9 63 5 a0 Tryz.underlying9 Tryz.underlying63 Tryz.underlying5
  have ab : BRow w (Lib.bytesWorld w 5 a0) w.heap.size (lowTo (bytesOf a0) 0) := by
   have := BRow.made w 5 a0;simpa [lowTo] using this
  generalize Lib.bytesWorld w 5 a0 = W1 at *;generalize grownCap w a0.size 0 5 = cap at *;have ad := aM ab;clear ab h;go_enter Tryz.func187,Tryz.ntmps187;go_wp2;go_loopw [4,5,10] (fun _ _ i wr => ∃ k : Nat,k ≤ a0.size ∧ i = .int .i64 k ∧ BRow w wr w.heap.size (lowTo (bytesOf a0) k)) (fun _ _ i _ => a0.size - (intOf i).toNat)
  case atStart => exact ⟨0,Nat.zero_le _,rfl,ad.out⟩
  case round =>
   obtain ⟨k,hk,rfl,HB⟩ := hrel;have hl := lowTo_length (bytesOf a0) k (by rw [bytesOf_length];exact hk);rw [bytesOf_length] at hl
   by_cases hlt : k < a0.size
   ·have hc := HB.cell k (by omega);have hf := HB.free k (by omega);have hg := lowTo_at (bytesOf a0) k (by rw [bytesOf_length];exact hlt);rw [hg] at hc;have hS := lowTo_succ (bytesOf a0) k (by rw [bytesOf_length];exact hlt)
    have hr : 0 ≤ (bytesOf a0).getD k 0 ∧ (bytesOf a0).getD k 0 ≤ 255 := by
     have := rd_bytesOf a0 k;simp only [rd,Int.toNat_natCast] at this;rw [this];exact bt_range _ _
    generalize (bytesOf a0).getD k 0 = c at *;obtain ⟨r0,r1⟩ := hr
    by_cases hu : 65 ≤ c ∧ c ≤ 90
    ·obtain ⟨u0,u1⟩ := hu;have hi : FbC.f c = some true := (by unfold FbC.f;simp [u0,u1]);have HS := aM hS;have aa := aM HB;have HG := aM hg;clear hS HB hg;go_wp2_with (go_at_call 229;(with_reducible refine (FbC.calls c true _ hi).mono ?_);rintro e w' ⟨rfl,⟨nd,rfl⟩⟩);go_roundw
     case measure => simp [intOf];omega
     case rel =>
      refine ⟨k + 1,by omega,by go_num,?_⟩;rw [HS.out];have hv : lowI c = c + 97 - 65 := (by unfold lowI;rw [if_pos ⟨u0,u1⟩];omega);rw [hv];exact (aa.out.drewN nd).set k _
    ·have hi : FbC.f c = some false := by
      unfold FbC.f
      by_cases ac : c ≥ 65
      ·rw [if_pos ac];simp;omega
      ·rw [if_neg ac]
     have HS := aM hS;have aa := aM HB;have HG := aM hg;clear hS HB hg;go_wp2_with (go_at_call 229;(with_reducible refine (FbC.calls c false _ hi).mono ?_);rintro e w' ⟨rfl,⟨nd,rfl⟩⟩);go_roundw
     case measure => simp [intOf];omega
     case rel =>
      refine ⟨k + 1,by omega,by go_num,?_⟩;rw [HS.out];have hv : lowI c = c := (by unfold lowI;rw [if_neg hu]);rw [hv];rw [my_set_same _ _ (by omega) _ HG.out];exact (aa.out.drewN nd)
   ·have hk' : k = a0.size := (by omega);subst hk';have ht := HB.text 63 5 9 Tryz.underlying63 Tryz.underlying5 Tryz.underlying9 a0.size cap hl;have hb := HB.below;clear HB
    have hx : lowTo (bytesOf a0) a0.size = (bytesOf a0).map lowI := by
     unfold lowTo;rw [List.take_of_length_le (by rw [bytesOf_length];omega),List.drop_of_length_le (by rw [bytesOf_length];omega),List.append_nil]
    rw [hx] at ht;clear hx;go_wp2;go_ret;exact ⟨rfl,hb⟩
 ·rw [if_neg hs] at h;cases h
def FbD.f (a0 : List ByteArray) (a1 : ByteArray) : Option ByteArray := if a0.length ≤ 140737488355328 ∧ (Lib.join (a0.map (·.data.toList)) a1.data.toList).length ≤ 140737488355328 then some ⟨(Lib.join (a0.map (·.data.toList)) a1.data.toList).toArray⟩ else none
theorem FbD.calls (A0 : Option Addr) (c0 : Nat) (l0 : List ByteArray) (a1 : ByteArray) (r : ByteArray) (w : World) (hr0 : Kd.C Kd.string w A0 l0.length l0) (hc0 : l0.length ≤ c0) (h : FbD.f l0 a1 = some r) :
  Calls Tryz.prog 188 #[.slice A0 l0.length c0,.string a1] w fun e w' => e = .returned (.string r) ∧ Below w.heap.size w w' := by
 unfold FbD.f at h
 by_cases hs : l0.length ≤ 140737488355328 ∧ (Lib.join (l0.map (·.data.toList)) a1.data.toList).length ≤ 140737488355328
 ·rw [if_pos hs] at h;obtain rfl := oI h
  cases l0 with
  | nil =>
   refine (Tryz.strings_Join_none A0 c0 a1 w).mono ?_;rintro e w' ⟨rfl,rfl⟩;exact ⟨rfl,Below.refl _ _⟩
  | cons x xs =>
   obtain ⟨_,_,aa⟩ := hr0;obtain ⟨⟨b,o,s⟩,rfl,hc⟩ := aa (by rw [List.length_cons];omega);clear aa
   have hcell : ∀ (j : Nat) y,(x :: xs)[j]? = some y → w.cell? (Addr.add ⟨b,o,s⟩ j) = some (.string y) := by
    intro j y hj;obtain ⟨c,_,hk,hcc⟩ := hc j y hj;have := hcc 0 (.string y) (by rw [show c = [.string y] from hk];rfl);simpa [show Kd.string.sz = 1 from rfl] using this
   have h0 := hcell 0 x rfl
   have hsp : s = none := by
    cases s with
    | none => rfl
    | some v =>
     simp only [Addr.add] at h0;unfold World.cell? at h0;split at h0
     ·simp at h0
     ·cases h0
   subst hsp;have hb : b < w.heap.size := wB w ⟨b,o,none⟩ (by simpa [Addr.add] using h0);refine Tryz.strings_Join b o c0 (x :: xs) a1 w (fun j y hj => ?_) hb hs.1 hc0 hs.2;have := hcell j y hj;unfold Addr.add at this
   by_cases e : j = 0
   ·subst e;simpa using this
   ·rw [if_neg e] at this;exact this
 ·rw [if_neg hs] at h;cases h
def keepB (c : Int) : Bool := decide ((97 ≤ c ∧ c ≤ 122) ∨ (48 ≤ c ∧ c ≤ 57) ∨ c = 32)
theorem Fcq : (Tryz.prog.info? 5).map (fun i => (i.zero,i.size,i.bytes)) = some (some (.int .u8 0),1,1) := by kernel_rfl
def Fb5.f (a0 : ByteArray) : Option (ByteArray) := (Fcl.f a0).bind fun t => if t.size < 140737488355328 then (Fb7.f (strOfNums ((bytesOf t).filter keepB))).bind fun ws => FbD.f ws ⟨#[32]⟩ else none
theorem Fcm {w W W' : World} {g : Nat} {xs : List Int} {row : Option Nat} (h : BRow w W g xs) (hg : W.grownBy W' row) (hne : some g ≠ row) (hb : Below w.heap.size w W') (hl : 0 < xs.length) : BRow w W' g xs := by
 have hlt : g < W.heap.size := wB W ⟨g,0,none⟩ (h.cell 0 hl);have he := hg.block g hlt hne;refine ⟨hb,h.new,fun j hj => ?_,fun j hj => ?_⟩
 ·rw [← h.cell j hj];unfold World.cell?;rw [he]
 ·rw [← h.free j hj];unfold World.frozen?;rw [he]
theorem Fcu (xs : List Int) (i : Nat) (h : i < xs.length) : (xs.take (i + 1)).filter keepB = (xs.take i).filter keepB ++ (if keepB (xs.getD i 0) = true then [xs.getD i 0] else []) := by
 rw [List.take_succ_eq_append_getElem h,List.filter_append];congr 1;have e : xs.getD i 0 = xs[i] := (by simp [List.getD_eq_getElem?_getD,List.getElem?_eq_getElem h]);rw [e];cases hk : keepB xs[i] <;> simp [hk]
theorem Fb5.calls (a0 : ByteArray) (r : ByteArray) (w : World) (hG : Gm w) (h : Fb5.f a0 = some r) :
  Calls Tryz.prog 148 #[.string a0] w fun e w' => e = .returned (.string r) ∧ Below w.heap.size w w' := by
 unfold Fb5.f at h;obtain ⟨t,hA,h⟩ := oB.1 h
 by_cases hs : t.size < 140737488355328
 case neg => rw [if_neg hs] at h;cases h
 rw [if_pos hs] at h;obtain ⟨ws,hW,hJ⟩ := oB.1 h;clear h;have A1 := aM hA;have A2 := aM hW;have A3 := aM hJ;have HS := aM hs;have HG := aM hG;have HB := aM (Below.refl w.heap.size w);clear hA hW hJ hs hG;have hcv : ∀ W : World,(convert 9 63 (.string t)).run Tryz.prog W = .ok (.slice (some ⟨W.heap.size,0,none⟩) t.size (grownCap W t.size 0 5)) (Lib.bytesWorld W 5 t) := fun W => Lib.run_convert_string_bytes (P := Tryz.prog) W 9 63 5 t Tryz.underlying9 Tryz.underlying63 Tryz.underlying5;go_enter Tryz.func148,Tryz.ntmps148
 go_wp2_with (first
  | ((with_reducible refine gate_dst (N := 6) rfl ?_);refine Kd.R_lit (Kd.int .u8) _ 5 ?hg (N := 6) ?hd (xs := ([] : List Int)) (inner := []) (ok := fun _ => True) (okp := fun _ => True) ?hr ?hp (fun _ hk => hk) trivial (Below.refl _ _) (Nat.le_refl _) (by simp) ?_;(case hd => rfl);(case hg => rfl);(case hr => first|(go_simp;done)|(go_simp;rfl));(case hp => exact (Reps.none _ _));intro v2 w2 af hb hg_ hnew_;clear hg_ hnew_;have HO := aM (Kd.R_lower af (lZ wB_));have n1_ := aM (lT wB_ hb);clear HB;have HB := n1_;clear n1_;clear hb af)
  | (go_at_call 187;(with_reducible refine (Fcl.calls a0 t _ A1.out).mono ?_);rintro e w5 ⟨rfl,hb⟩;have n0_ := aM (rB (wO_ HO.out) hb);have n1_ := aM (lT wB_ hb);clear HO HB;have HO := n0_;have HB := n1_;clear n0_ n1_;clear hb))
 have HR := aM (show BRow w (Lib.bytesWorld w5 5 t) w5.heap.size (bytesOf t) from ⟨lT HB.out (BRow.made w5 5 t).below,lZ HB.out,(BRow.made w5 5 t).cell,(BRow.made w5 5 t).free⟩);have ag := aM (rB (Kd.R_elderB HO.out w5.heap.size (Nat.le_refl _)) (BRow.made w5 5 t).below);clear HO HB hcv;generalize Lib.bytesWorld w5 5 t = W1 at *;generalize grownCap w5 t.size 0 5 = cap at *;generalize w5.heap.size = g at *;go_loopg [3,5,11] t.size (fun gg v3 v5 ak wr => ∃ i : Nat,ak = .int .i64 (i : Int) ∧ Aside0 (i + gg = t.size) ∧ Aside0 (Kd.R (Kd.int .u8) 5 wr w.heap.size (fun k_ => True ∧ k_ ≠ g) v3 (((bytesOf t).take i).filter keepB)) ∧ Aside0 (BRow w wr g (bytesOf t)))
 case atStart => exact ⟨0,rfl,⟨by omega⟩,⟨by rw [List.take_zero,List.filter_nil];exact ag.out⟩,HR⟩
 case round =>
  clear HR ag;obtain ⟨i,rfl,HI,ab,aa⟩ := hrel;have HB := aM aa.out.below
  cases gk with
  | zero =>
   obtain rfl : i = t.size := (by have := HI.out;omega);have c1 : decide ((t.size : Int) < (t.size : Int)) = false := dF (by omega);have ac := aM (show Kd.R (Kd.int .u8) 5 wr w.heap.size (fun k_ => True ∧ k_ ≠ g) u3 ((bytesOf t).filter keepB) from by have h_ := ab.out;rwa [List.take_of_length_le (by rw [bytesOf_length];exact Nat.le_refl _)] at h_);clear ab aa;obtain ⟨Ao,co,eo⟩ := Kd.R_slice ac.out;subst eo;have hcv16 := own_string (P := Tryz.prog) Tryz.underlying63 Tryz.underlying5 Tryz.underlying9 (Kd.own_of_R ac.out)
   go_wp2_with (first
    | (go_at_call 147;(with_reducible refine (Fb7.calls _ ws _ ?side1 A2.out).mono ?_);(case side1 => exact Gm.below HG.out wB_);rintro e w8 ⟨v9,rfl,ho,hb⟩;obtain ⟨Ao9,co9,al⟩ := Kd.R_slice ho;subst al;have HW := aM ho;have n1_ := aM (lT wB_ hb);clear HB;have HB := n1_;clear n1_;clear hb ho)
    | (go_at_call 188;(refine (FbD.calls _ _ ws ⟨#[32]⟩ r _ ?side1 ?side2 A3.out).mono ?_);(case side1 => (with_reducible repeat (first|refine cA ?_ _|refine cN ?_ _|refine cD ?_));exact (rR HW.out).2.2);(case side2 => exact (rR HW.out).2.1);rintro e w10 ⟨rfl,hb⟩;have n1_ := aM (lT wB_ hb);clear HB;have HB := n1_;clear n1_;clear hb))
   go_ret;exact ⟨rfl,wB_⟩
  | succ gk =>
   have HLT := aM (show i < t.size by have := HI.out;omega);have c1 : decide ((i : Int) < (t.size : Int)) = true := dT (by have := HLT.out;omega);have c1b : decide (i < t.size) = true := dT HLT.out;have p1 : (0 ≤ (i : Int)) = True := eq_true (by omega);have q1 : ((i : Int) < (t.size : Int)) = True := eq_true (by have := HLT.out;omega);have q2 : (i < t.size) = True := eq_true HLT.out;have HPOS := aM (show 0 < (bytesOf t).length by rw [bytesOf_length];have := HLT.out;omega);have hcell := aa.out.cell i (by rw [bytesOf_length];exact HLT.out);have HGL := aM (wB wr ⟨g,i,none⟩ hcell);have HT := aM (Fcu (bytesOf t) i (by rw [bytesOf_length];exact HLT.out))
   have HLL := aM (show (((bytesOf t).take i).filter keepB).length + 1 ≤ 140737488355328 by
    have h1 := List.length_filter_le keepB ((bytesOf t).take i);rw [xT] at h1;have := HS.out;have := HLT.out;omega)
   have hc0 : 0 ≤ (bytesOf t).getD i 0 ∧ (bytesOf t).getD i 0 ≤ 255 := by
    have := rd_bytesOf t i;simp only [rd,Int.toNat_natCast] at this;rw [this];exact bt_range _ _
   generalize (bytesOf t).getD i 0 = c at *
   by_cases hl : 97 ≤ c ∧ c ≤ 122
   ·have HL := aM (show Fbn.f c = some true by unfold Fbn.f;simp [hl.1,hl.2]);rw [if_pos (by unfold keepB;simp [hl.1,hl.2])] at HT
    go_wp2_with (first
     | (go_at_call 153;(with_reducible refine (Fbn.calls c true _ HL.out).mono ?_);rintro e w' ⟨rfl,⟨nd,rfl⟩⟩)
     | ((with_reducible refine gate_builtin (b := .append) (xs := #[.tmp 25,.tmp 27]) rfl ?_);at_builtin;refine Kd.R_append (Kd.int .u8) (w0 := w) w.heap.size rfl (.tmp 25) (.tmp 27) 63 5 (.int .u8 0) 1 rfl Tryz.underlying63 Fcq rfl (by decide) (by omega) u3 (((bytesOf t).take i).filter keepB) c [.int .u8 c] (fun k_ => True ∧ k_ ≠ g) (fun _ => False) rfl rfl ?aP (fun _ hk => hk.elim) ?aF ?aO ?aB ?aS ?aL ?_;(case aP => exact rfl);(case aB => exact wB_);(case aF => exact (fun k_ hk => ⟨trivial,fun e_ => by have := HGL.out;simp at hk;omega⟩));(case aO => exact (wO_ ab.out));(case aS => exact (lZ wB_));(case aL => have := HLL.out;omega);intro ah ai ho hb hg hat;have ac := aM ho;have ad := aM (Fcm (by first|exact aa.out|exact aa.out.drewN _|exact (aa.out.drewN _).drewN _) hg (fun e_ => (ab.out.1 g e_.symm).2 rfl) hb HPOS.out);clear ho hb hg hat))
    go_roundg gk
    case measure => omega
    case rel =>
     have hw : wrap64 ((i : Int) + 1) = ((i + 1 : Nat) : Int) := (by have := HS.out;have := HLT.out;unfold wrap64;omega);exact ⟨i + 1,by rw [hw],⟨by have := HI.out;omega⟩,⟨by rw [HT.out];exact ac.out⟩,ad⟩
   ·have HL := aM (show Fbn.f c = some false by
     unfold Fbn.f
     by_cases h : c ≥ 97
     ·rw [if_pos h];simp;omega
     ·rw [if_neg h])
    by_cases hd : 48 ≤ c ∧ c ≤ 57
    ·have HD := aM (show FbH.f c = some true by unfold FbH.f;simp [hd.1,hd.2]);rw [if_pos (by unfold keepB;simp [hd.1,hd.2])] at HT
     go_wp2_with (first
      | (go_at_call 153;(with_reducible refine (Fbn.calls c false _ HL.out).mono ?_);rintro e w' ⟨rfl,⟨nd,rfl⟩⟩)
      | (go_at_call 154;(with_reducible refine (FbH.calls c true _ HD.out).mono ?_);rintro e w' ⟨rfl,⟨aj,rfl⟩⟩)
      | ((with_reducible refine gate_builtin (b := .append) (xs := #[.tmp 25,.tmp 27]) rfl ?_);at_builtin;refine Kd.R_append (Kd.int .u8) (w0 := w) w.heap.size rfl (.tmp 25) (.tmp 27) 63 5 (.int .u8 0) 1 rfl Tryz.underlying63 Fcq rfl (by decide) (by omega) u3 (((bytesOf t).take i).filter keepB) c [.int .u8 c] (fun k_ => True ∧ k_ ≠ g) (fun _ => False) rfl rfl ?aP (fun _ hk => hk.elim) ?aF ?aO ?aB ?aS ?aL ?_;(case aP => exact rfl);(case aB => exact wB_);(case aF => exact (fun k_ hk => ⟨trivial,fun e_ => by have := HGL.out;simp at hk;omega⟩));(case aO => exact (wO_ ab.out));(case aS => exact (lZ wB_));(case aL => have := HLL.out;omega);intro ah ai ho hb hg hat;have ac := aM ho;have ad := aM (Fcm (by first|exact aa.out|exact aa.out.drewN _|exact (aa.out.drewN _).drewN _) hg (fun e_ => (ab.out.1 g e_.symm).2 rfl) hb HPOS.out);clear ho hb hg hat))
     go_roundg gk
     case measure => omega
     case rel =>
      have hw : wrap64 ((i : Int) + 1) = ((i + 1 : Nat) : Int) := (by have := HS.out;have := HLT.out;unfold wrap64;omega);exact ⟨i + 1,by rw [hw],⟨by have := HI.out;omega⟩,⟨by rw [HT.out];exact ac.out⟩,ad⟩
    ·have HD := aM (show FbH.f c = some false by
      unfold FbH.f
      by_cases h : c ≥ 48
      ·rw [if_pos h];simp;omega
      ·rw [if_neg h])
     by_cases ae : c = 32
     ·have am : (c == 32) = true := (by simp [ae]);rw [if_pos (by unfold keepB;simp [ae])] at HT;clear ae
      go_wp2_with (first
       | (go_at_call 153;(with_reducible refine (Fbn.calls c false _ HL.out).mono ?_);rintro e w' ⟨rfl,⟨nd,rfl⟩⟩)
       | (go_at_call 154;(with_reducible refine (FbH.calls c false _ HD.out).mono ?_);rintro e w' ⟨rfl,⟨aj,rfl⟩⟩)
       | ((with_reducible refine gate_builtin (b := .append) (xs := #[.tmp 25,.tmp 27]) rfl ?_);at_builtin;refine Kd.R_append (Kd.int .u8) (w0 := w) w.heap.size rfl (.tmp 25) (.tmp 27) 63 5 (.int .u8 0) 1 rfl Tryz.underlying63 Fcq rfl (by decide) (by omega) u3 (((bytesOf t).take i).filter keepB) c [.int .u8 c] (fun k_ => True ∧ k_ ≠ g) (fun _ => False) rfl rfl ?aP (fun _ hk => hk.elim) ?aF ?aO ?aB ?aS ?aL ?_;(case aP => exact rfl);(case aB => exact wB_);(case aF => exact (fun k_ hk => ⟨trivial,fun e_ => by have := HGL.out;simp at hk;omega⟩));(case aO => exact (wO_ ab.out));(case aS => exact (lZ wB_));(case aL => have := HLL.out;omega);intro ah ai ho hb hg hat;have ac := aM ho;have ad := aM (Fcm (by first|exact aa.out|exact aa.out.drewN _|exact (aa.out.drewN _).drewN _) hg (fun e_ => (ab.out.1 g e_.symm).2 rfl) hb HPOS.out);clear ho hb hg hat))
      go_roundg gk
      case measure => omega
      case rel =>
       have hw : wrap64 ((i : Int) + 1) = ((i + 1 : Nat) : Int) := (by have := HS.out;have := HLT.out;unfold wrap64;omega);exact ⟨i + 1,by rw [hw],⟨by have := HI.out;omega⟩,⟨by rw [HT.out];exact ac.out⟩,ad⟩
     ·have am : (c == 32) = false := (by simp [ae]);rw [if_neg (by unfold keepB;simp;omega)] at HT;clear ae
      go_wp2_with (first
       | (go_at_call 153;(with_reducible refine (Fbn.calls c false _ HL.out).mono ?_);rintro e w' ⟨rfl,⟨nd,rfl⟩⟩)
       | (go_at_call 154;(with_reducible refine (FbH.calls c false _ HD.out).mono ?_);rintro e w' ⟨rfl,⟨aj,rfl⟩⟩))
      go_roundg gk
      case measure => omega
      case rel =>
       have hw : wrap64 ((i : Int) + 1) = ((i + 1 : Nat) : Int) := (by have := HS.out;have := HLT.out;unfold wrap64;omega);exact ⟨i + 1,by rw [hw],⟨by have := HI.out;omega⟩,⟨by rw [HT.out,List.append_nil];(with_reducible repeat (first|apply rA|apply rN|apply rD));exact ab.out⟩,⟨by first|exact aa.out|exact aa.out.drewN _|exact (aa.out.drewN _).drewN _⟩⟩
def Fb3.f (a0 : ByteArray) : Option (Bool) := some (a0.toList == ([] : List UInt8))
theorem Fb3.calls (a0 : ByteArray) (r : Bool) (w : World) (h : Fb3.f a0 = some r) :
  Calls Tryz.prog 275 #[.string a0] w fun e w' => e = .returned (.bool r) ∧ Drawn0 w w' := by
 have H : (some (a0.toList == ([] : List UInt8))) = some r := h;clear h;obtain rfl := oI H;go_enter Tryz.func275,Tryz.ntmps275;go_wp2;go_ret;exact ⟨vR_,dw_⟩
def Fap.l0 : Nat → List ByteArray → Int → Int → Option (Int)
 | 0,_,_,_ => none
 | k + 1,x0,x7,x8 => if x8 < x7 then (if 0 ≤ x8 then (if x8 < (x0.length : Int) then ((Fb3.f (rdOf ByteArray.empty x0 x8)).bind fun aa => (if aa = true then (some x8) else (Fap.l0 k x0 x7 (wrap64 (x8 + 1))))) else (none)) else (none)) else (some (-1))
def Fap.f (k : Nat) (l0 : List ByteArray) (a1 : Int) : Option (Int) := Fap.l0 k l0 (l0.length : Int) 0
theorem Fap.mono_l : ∀ k,(∀ y0 y1 y2,LeO (Fap.l0 k y0 y1 y2) (Fap.l0 (k + 1) y0 y1 y2))
 | 0 => fun _ _ _ r h => by simp [Fap.l0] at h
 | k + 1 => by
  have ih0 := Fap.mono_l k
  ·intro y0 y1 y2
   unfold Fap.l0
   repeat' (first|with_reducible (first|exact ih0 _ _ _|exact LeO.refl _|exact LeO.none _|refine LeO.ite ?_ ?_|refine LeO.bind ?_ (fun _ => ?_))|exact LeO.none _|refine LeO.ite ?_ ?_|refine LeO.bind ?_ (fun _ => ?_))
theorem Fap.mono : ∀ a0 a1 k,LeO (Fap.f k a0 a1) (Fap.f (k + 1) a0 a1) := by
 intro a0 a1 k
 have ih0 := Fap.mono_l k
 unfold Fap.f
 repeat' (first|with_reducible (first|exact ih0 _ _ _|exact LeO.refl _|exact LeO.none _|refine LeO.ite ?_ ?_|refine LeO.bind ?_ (fun _ => ?_))|exact LeO.none _|refine LeO.ite ?_ ?_|refine LeO.bind ?_ (fun _ => ?_))
theorem Fap.calls (k : Nat) (A0 : Option Addr) (c0 : Nat) (l0 : List ByteArray) (a1 : Int) (r : Int) (w : World) (hr0 : Kd.C Kd.string w A0 l0.length l0) (hc0 : l0.length ≤ c0) (h : Fap.f k l0 a1 = some r) :
  Calls Tryz.prog 152 #[.slice A0 l0.length c0,.func (.func 275) #[] #[]] w fun e w' => e = .returned (.int .i64 r) ∧ Drawn0 w w' := by
 have HR0 := aM hr0;have HC0 := aM hc0;clear hr0 hc0;have H : (Fap.l0 k l0 (l0.length : Int) 0) = some r := h;clear h;have H' := aM H;clear H;go_enter Tryz.func152,Tryz.ntmps152;go_wp2;go_loopg [8] k (fun kq v8 w' => ∃ (aa : Int),v8 = .int .i64 aa ∧ Aside0 (Fap.l0 kq l0 (l0.length : Int) aa = some r) ∧ Aside0 (kq ≤ k) ∧ Drawn0 w w')
 case atStart => exact ⟨(0),vR_,H',⟨Nat.le_refl _⟩,dw_⟩
 case round =>
  clear H';obtain ⟨aa,rfl,HA,ad,⟨m1,rfl⟩⟩ := hrel
  cases gk with
  | zero => exact absurd HA.out (by simp [Fap.l0])
  | succ k1 =>
   have H := HA.out;clear HA;simp only [Fap.l0] at H
   by_cases c3 : aa < (l0.length : Int)
   focus
    rw [if_pos c3] at H;have ab := dT c3;clear c3
    by_cases c4 : 0 ≤ aa
    rotate_left;rw [if_neg c4] at H;exact nH_ H;rw [if_pos c4] at H;have c4b0 := dT c4;clear c4
    by_cases c5 : aa < (l0.length : Int)
    rotate_left;rw [if_neg c5] at H;exact nH_ H;rw [if_pos c5] at H;have c5b0 := dT c5;clear c5;obtain ⟨ac,A6,H⟩ := bE_ H
    by_cases c7 : ac = true
    focus
     subst c7;rw [if_pos rfl] at H;obtain rfl := oI H
    rotate_left
    focus
     replace c7 := qO.mpr c7;subst c7;rw [if_neg qT] at H;have H' := aM H;clear H
   rotate_left 2
   focus
    rw [if_neg c3] at H;have ab := dF c3;clear c3;obtain rfl := oI H
   all_goals
    (try (have p01 : 0 ≤ (aa : Int) := oD (by assumption);have q01 : aa < (l0.length : Int) := oD (by assumption);obtain ⟨ad01,e01,hx01_0⟩ := Kd.at_string HR0.out aa p01 q01;cases e01;replace p01 := eq_true p01;replace q01 := eq_true q01));go_wp2_with (first|(go_at_call 275;(with_reducible refine (Fb3.calls _ _ _ A6.out).mono ?_);rintro e w' ⟨rfl,⟨nd,rfl⟩⟩))
    first
     |
      go_ret;exact ⟨vR_,dw_⟩
     |
      go_roundg k1
      case measure => have := ad.out;omega
      case rel => exact ⟨(wrap64 (aa + 1)),vR_,H',⟨by have := ad.out;omega⟩,dw_⟩
def Fcb : Go.Shelf.Ren := ⟨fun|6 => 152|10 => 106|n => n,fun|22 => 50|23 => 9|25 => 136|3 => 3|4 => 4|n => n,fun n => n⟩
theorem Fcc : SlLaysH.n10 Tryz.prog Fcb := {
 mixed := by kernel_rfl
 f6 := ⟨Tryz.f152.name,by decide,Tryz.func152.trans (congrArg some (by kernel_rfl))⟩
 f10 := ⟨Tryz.f106.name,by decide,Tryz.func106.trans (congrArg some (by kernel_rfl))⟩
 t0 := Tryz.underlying0
 a0 := Tryz.isAgg0
 z0 := Tryz.sizeOf0
 v0 := Tryz.zeroValue0
 t3 := Tryz.underlying3
 a3 := Tryz.isAgg3
 z3 := Tryz.sizeOf3
 v3 := Tryz.zeroValue3
 t4 := Tryz.underlying4
 a4 := Tryz.isAgg4
 z4 := Tryz.sizeOf4
 v4 := Tryz.zeroValue4
 t22 := Tryz.underlying50
 a22 := Tryz.isAgg50
 z22 := Tryz.sizeOf50
 v22 := Tryz.zeroValue50
 a23 := Tryz.isAgg9
 z23 := Tryz.sizeOf9
 t25 := Tryz.underlying136
 a25 := Tryz.isAgg136
 z25 := Tryz.sizeOf136
 v25 := Tryz.zeroValue136 }
theorem Fcj {w : World} {base : Nat} {ok : Nat → Prop} {l : List ByteArray} {inner : List Value} (hr : Reps (Kd.string.M w base ok) Kd.string.sz l inner) : inner = l.map Value.string := by
 obtain ⟨hl,h⟩ := hr;have hl' : inner.length = l.length := hl.trans (Nat.mul_one _);apply List.ext_getElem?;intro j
 by_cases hj : j < l.length
 ·have h2 : (inner.drop (j * 1)).take 1 = [Value.string l[j]] := h j l[j] (List.getElem?_eq_getElem hj);rw [Nat.mul_one] at h2;have h3 : ((inner.drop j).take 1)[0]? = some (Value.string l[j]) := (by rw [h2];rfl);rw [List.getElem?_take_of_lt (by omega),List.getElem?_drop,Nat.add_zero] at h3;rw [h3];simp [hj]
 ·rw [List.getElem?_eq_none (by omega),List.getElem?_eq_none (by simp;omega)]
theorem Fb8 {w : World} {base : Nat} {ok : Nat → Prop} (l : List ByteArray) : Reps (Kd.string.M w base ok) Kd.string.sz l (l.map Value.string) := by
 refine ⟨by show (l.map Value.string).length = l.length * 1;simp,fun j p hj => ?_⟩;show ((l.map Value.string).drop (j * 1)).take 1 = [Value.string p];obtain ⟨hjl,hp⟩ := List.getElem?_eq_some_iff.1 hj;rw [Nat.mul_one,← List.map_drop,List.drop_eq_getElem_cons hjl,hp];rfl
theorem Fcn (p : ByteArray → Bool) (hp : ∀ (W : World) (x : ByteArray),Calls Tryz.prog 275 #[.string x] W fun e w' => e = .returned (.bool (p x)) ∧ ∃ q,w' = W.drewN q)
  (g cap : Nat) (cur : Array Value) (l : List ByteArray) (w : World) (base : Nat) (hbase : base ≤ g) (hb : w.heap[g]? = some (.cells cur 9 (0,0))) (h1 : l.length ≤ cap) (h2 : cap ≤ maxLen) (h3 : cur.size = cap * 1) (h4 : cur.toList.take (l.length * 1) = l.map Value.string) :
  Calls Tryz.prog 106 #[.slice (some ⟨g,0,none⟩) l.length cap,.func (.func 275) #[] #[]] w fun e w' => e = .returned (.slice (some ⟨g,0,none⟩) (l.filter fun x => !p x).length cap) ∧ w'.ownsRow base 9 1 (.slice (some ⟨g,0,none⟩) (l.filter fun x => !p x).length cap) (l.filter fun x => !p x).length ((l.filter fun x => !p x).map Value.string) ∧ w.grownBy w' (some g) := by
 have enc_eq : ∀ x : ByteArray,encStr x.data.toList = .string x := fun x => (by cases x;rfl);have eg : ∀ args w,(callFunc 275 args).run Tryz.prog w = .ok (.enter 275 args) w := enters_of Tryz.func275 (by kernel_rfl) rfl
 have hmap : (l.map fun x => x.data.toList).map encStr = l.map Value.string := by
  rw [List.map_map];exact List.map_congr_left fun x _ => enc_eq x
 have hlen : (l.map fun x => x.data.toList).length = l.length := (by simp)
 have hfil : ((l.map fun x => x.data.toList).filter fun x => !p ⟨x.toArray⟩) = (l.filter fun x => !p x).map fun x => x.data.toList := by
  rw [List.filter_map];rfl
 have hcon := AnyE.slices_DeleteFunc Fcc encStr (fun _ => rfl) (fun u => p ⟨u.toArray⟩) 275 #[] eg [] Tryz.zeroValue9 g 0 cap (l.map fun x => x.data.toList).toArray w
  (fun W x _ => hp W ⟨x.toArray⟩) (fun n os dk x _ => hp _ ⟨x.toArray⟩) (holds_of_block hb (by rw [hlen,hmap];simpa using h4)) (by simp [maxLen] at h2;simp;omega) (by simpa using h1)
 have hsz : (l.map fun x => x.data.toList).toArray.size = l.length := (by simp);rw [hsz] at hcon;rw [show ((l.map fun x => x.data.toList).toArray.toList.filter fun x => !p ⟨x.toArray⟩) = (l.filter fun x => !p x).map fun x => x.data.toList from hfil] at hcon;have hfl : (l.filter fun x => !p x).length ≤ l.length := List.length_filter_le _ _;generalize l.filter (fun x => !p x) = fl at *;rw [List.length_map] at hcon;refine hcon.mono ?_;rintro e w' ⟨he,q,rfl⟩;have hgr : ∀ W : World,Go.Sort.grow W #[] = W := fun W => (by unfold Go.Sort.grow;simp);generalize hts : (fl.map fun x => x.data.toList) ++ List.replicate (l.length - fl.length) [] = ts;have htl : ts.length = (l.map fun x => x.data.toList).length := (by rw [← hts];simp;omega);have full := ownsRow_sorted (n := q) (os := #[]) (e := 9) htl hbase hb (by rw [hlen];exact h1) h2 h3;have gr := grownBy_sorted (w := w) (g := g) (n := q) (os := #[]) ts.toArray;rw [hgr] at full gr;refine ⟨he,?_,gr⟩;rcases full.2 with ⟨h0,_⟩|⟨g',cap',cur',hv,hb',hh',hn',hm',hs',ht'⟩
 ·cases h0
 ·cases hv;refine ⟨by simp,.inr ⟨g,cap,cur',rfl,hb',hh',by omega,hm',hs',?_⟩⟩;rw [hlen] at ht';have h5 := congrArg (List.take fl.length) ht'
  have h6 : List.take fl.length ((fl.map fun x => x.data.toList).map encStr) = fl.map Value.string := by
   rw [List.map_map,List.take_of_length_le (by simp)];exact List.map_congr_left fun x _ => enc_eq x
  rw [List.take_take,Nat.min_eq_left (by omega),← hts,List.map_append,List.take_append_of_le_length (by simp),h6] at h5;rw [Nat.mul_one];exact h5
def Fbt.f (l0 : List ByteArray) (a1 : Int) : Option (List ByteArray) := some (l0.filter fun x => !((Fb3.f x).getD false))
theorem Fbt.calls (ab : Nat → Prop) (aa : Value) (l0 : List ByteArray) (a1 : Int) (r0 : List ByteArray) (w0 w : World) (hB : Below w0.heap.size w0 w) (ho0 : Kd.R Kd.string 9 w w0.heap.size ab aa l0) (h : Fbt.f l0 a1 = some r0) :
  Calls Tryz.prog 106 #[aa,.func (.func 275) #[] #[]] w fun e w' => ∃ v0_ : Value,e = .returned (v0_) ∧ Kd.R Kd.string 9 w' w0.heap.size (fun k_ => (ab k_ ∨ w.heap.size ≤ k_)) v0_ r0 ∧ Below w0.heap.size w0 w' ∧ Kept w w' (fun k_ => ab k_) := by
 obtain rfl := oI h
 have hp : ∀ (W : World) (x : ByteArray),Calls Tryz.prog 275 #[.string x] W fun e w' => e = .returned (.bool ((Fb3.f x).getD false)) ∧ ∃ q,w' = W.drewN q := fun W x =>
  (Fb3.calls x _ W rfl).mono fun e w' ⟨he,hd⟩ => ⟨he,hd.out⟩
 obtain ⟨h0,inner,hown,hr⟩ := ho0;obtain rfl := Fcj hr;have hl := hown;rcases hown.2 with ⟨rfl,hn0⟩|⟨g,cap,cur,rfl,hbb,hb,hn,hm,hsz,hcur⟩
 ·obtain rfl : l0 = [] := List.length_eq_zero_iff.1 hn0;have hI := AnyE.slices_IndexFunc_empty (P := Tryz.prog) (ρ := Fcb) { Fcc with } none 0 (.func (.func 275) #[] #[]) w;change Calls Tryz.prog 152 _ _ _ at hI;have H := aM hI;clear hI;go_enter Tryz.func106,Tryz.ntmps106;go_wp2_with (first|(go_at_call 152;(refine (H.out).mono ?_);rintro e w' ⟨rfl,rfl⟩));go_ret;exact ⟨_,rfl,⟨fun k hk => .inl (h0 k hk),_,hl,Fb8 _⟩,hB,Kept.refl _ _⟩
 ·refine (Fcn (fun x => (Fb3.f x).getD false) hp g cap cur l0 w w0.heap.size hbb hb hn hm hsz hcur).mono ?_;rintro e w' ⟨rfl,ho,hg⟩;refine ⟨_,rfl,⟨fun k hk => ?_,_,ho,Fb8 _⟩,?_,?_⟩
  ·exact .inl (h0 k hk)
  ·exact hB.grown hg hB.size (fun k hk => own_base hl k hk)
  ·exact Kept.of_grown hg (Kept.refl w _) (fun k hk => .inl (h0 k hk))
end Go.Proofs.YtmafmhgmdegplaaGreatDoor.P
