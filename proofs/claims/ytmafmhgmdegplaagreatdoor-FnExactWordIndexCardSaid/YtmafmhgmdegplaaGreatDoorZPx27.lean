/- Walks: each Go function computes the Lean function beside it; conditions: those of each theorem. -/
import Derived.Test.YtmafmhgmdegplaaGreatDoorZPx0
import Derived.Test.YtmafmhgmdegplaaGreatDoorZPx4
import Derived.Test.YtmafmhgmdegplaaGreatDoorZPx26
import Derived.Test.YtmafmhgmdegplaaGreatDoorZPx1
import Derived.Test.YtmafmhgmdegplaaGreatDoorZPx3
import Derived.Test.YtmafmhgmdegplaaGreatDoorZPx6
import Derived.Test.YtmafmhgmdegplaaGreatDoorZPx16
namespace Go.Proofs.YtmafmhgmdegplaaGreatDoor.P
open Go.RowKit Go.Proofs.YtmafmhgmdegplaaGreatDoorW.PrintWords Go.Proofs.YtmafmhgmdegplaaGreatDoorW.PrintLast Go.Proofs.YtmafmhgmdegplaaGreatDoorW.PrintMore
attribute [local go_sem] max2_int min2_int max_two min_two max_three min_three max_four min_four   -- for this text's walks alone
set_option linter.unusedVariables false
set_option linter.unusedSimpArgs false
set_option maxHeartbeats 8000000
set_option maxRecDepth 100000
def Fah.l0 : Nat → List (S90) → List (S90) → Int → Option (Bool)
 | 0,_,_,_ => none
 | k + 1,x0,x1,x5 => if x5 < (x0.length : Int) then (if 0 ≤ x5 then (if x5 < (x1.length : Int) then ((Fbt.f k ((Fbi x0 x5).f0) ((Fbi x0 x5).f1) ((Fbi x1 x5).f0) ((Fbi x1 x5).f1)).bind fun aa => (if aa = true then (Fah.l0 k x0 x1 (wrap64 (x5 + 1))) else (some false))) else (none)) else (none)) else (some true)
def Fah.f (k : Nat) (l0 : List (S90)) (l1 : List (S90)) : Option (Bool) := if (l0.length : Int) = (l1.length : Int) then (Fah.l0 k l0 l1 0) else (some false)
theorem Fah.mono_l : ∀ k,(∀ y0 y1 y2,LeO (Fah.l0 k y0 y1 y2) (Fah.l0 (k + 1) y0 y1 y2))
 | 0 => fun _ _ _ r h => by simp [Fah.l0] at h
 | k + 1 => by
  have ih0 := Fah.mono_l k
  ·intro y0 y1 y2
   unfold Fah.l0
   repeat' (first|with_reducible (first|exact ih0 _ _ _|exact Fbt.mono _ _ _ _ _|exact LeO.refl _|exact LeO.none _|refine LeO.ite ?_ ?_|refine LeO.bind ?_ (fun _ => ?_))|exact LeO.none _|refine LeO.ite ?_ ?_|refine LeO.bind ?_ (fun _ => ?_))
theorem Fah.mono : ∀ a0 a1 k,LeO (Fah.f k a0 a1) (Fah.f (k + 1) a0 a1) := by
 intro a0 a1 k
 have ih0 := Fah.mono_l k
 unfold Fah.f
 repeat' (first|with_reducible (first|exact ih0 _ _ _|exact Fbt.mono _ _ _ _ _|exact LeO.refl _|exact LeO.none _|refine LeO.ite ?_ ?_|refine LeO.bind ?_ (fun _ => ?_))|exact LeO.none _|refine LeO.ite ?_ ?_|refine LeO.bind ?_ (fun _ => ?_))
def Fah.T6 : Bool × List (List Nat × List Nat) := (true,[([],[]),([],[]),([0,1],[0,1]),([2],[2]),([],[]),([],[]),([4,5],[4,5]),([6],[6]),([3,7],[3,7]),([8],[8])])
def Fah.B6 : List Nat := [0,0,3,7,0,0,48,112,255,511]
theorem Fah.tab6 : rtab .any (opsOf Tryz.f40 6) = Fah.T6 := by kernel_rfl
theorem Fah.bits6 : waitsOk Fah.T6.2 Fah.B6 = true := by kernel_rfl
theorem Fah.calls (k : Nat) (A0 : Option Addr) (c0 : Nat) (l0 : List (S90)) (A1 : Option Addr) (c1 : Nat) (l1 : List (S90)) (r : Bool) (w : World) (hr0 : Kd.C k90 w A0 l0.length l0) (hc0 : l0.length ≤ c0) (aG : Kd.C k90 w A1 l1.length l1) (aH : l1.length ≤ c1) (h : Fah.f k l0 l1 = some r) :
  Calls Tryz.prog 40 #[.slice A0 l0.length c0,.slice A1 l1.length c1] w fun e w' => e = .returned (.bool r) ∧ Below w.heap.size w w' := by
 have hu90 := Tryz.underlying90;have HR0 := aM hr0;have HC0 := aM hc0;clear hr0 hc0;have aK := aM aG;have HC1 := aM aH;clear aG aH;have HB := aM (Below.refl w.heap.size w);have H : (if (l0.length : Int) = (l1.length : Int) then (Fah.l0 k l0 l1 0) else (some false)) = some r := h;clear h
 by_cases c3 : (l0.length : Int) = (l1.length : Int)
 ·rw [if_pos c3] at H;have ay := qE.mpr c3;have az := qN.mpr c3;have aA : (l0.length == l1.length) = true := (by first|simpa using c3|(simp at c3 ⊢;omega));clear c3;have H' := aM H;clear H;go_enter Tryz.func40,Tryz.ntmps40;go_wp2;go_loopg [5] k (fun kq v5 w' => ∃ (aa : Int),v5 = .int .i64 aa ∧ Aside0 (Fah.l0 kq l0 l1 aa = some r) ∧ Aside0 (kq ≤ k) ∧ Aside0 (Below w.heap.size w w'))
  case atStart => exact ⟨(0),vR_,H',⟨Nat.le_refl _⟩,⟨wB_⟩⟩
  case round =>
   clear H';obtain ⟨aa,rfl,HA,aJ,HB⟩ := hrel
   cases gk with
   | zero => exact absurd HA.out (by simp [Fah.l0])
   | succ k1 =>
    have H := HA.out;clear HA;simp only [Fah.l0] at H
    by_cases c4 : aa < (l0.length : Int)
    focus
     rw [if_pos c4] at H;have aC := dT c4;clear c4
     by_cases c5 : 0 ≤ aa
     rotate_left;rw [if_neg c5] at H;exact nH_ H;rw [if_pos c5] at H;have c5b0 := dT c5;clear c5
     by_cases c6 : aa < (l1.length : Int)
     rotate_left;rw [if_neg c6] at H;exact nH_ H;rw [if_pos c6] at H;have c6b0 := dT c6;clear c6;obtain ⟨aD,A7,H⟩ := bE_ H
     by_cases c8 : aD = true
     focus
      subst c8;rw [if_pos rfl] at H;have H' := aM H;clear H
     rotate_left
     focus
      replace c8 := qO.mpr c8;subst c8;rw [if_neg qT] at H;obtain rfl := oI H
    rotate_left 2
    focus
     rw [if_neg c4] at H;have aC := dF c4;clear c4;obtain rfl := oI H
    all_goals
     (try go_wp2)
     first
      |
       go_ret;exact ⟨vR_,wB_⟩
      |
       replace HB := aM (lD HB.out);have p01 : 0 ≤ (aa : Int) := oD (by assumption);have q01 : aa < (l0.length : Int) := oD (by assumption);obtain ⟨ad01,ao,ap,e01,ab,ac,af,ag⟩ := Fci HR0.out aa p01 q01;have ah := ac;have hw01_0 := ab;cases e01;replace ab := mv_ HB.out ab;replace ac := mv_ HB.out ac;have ai := aM ag;have av := aM af;clear ag af;replace p01 := eq_true p01;replace q01 := eq_true q01;have aE : 0 ≤ (aa : Int) := oD (by assumption);have aF : aa < (l1.length : Int) := oD (by assumption);obtain ⟨aw,ar,au,aL,ad,ae,aj,ak⟩ := Fci aK.out aa aE aF;have al := ae;have am := ad;cases aL;replace ad := mv_ HB.out ad;replace ae := mv_ HB.out ae;have an := aM ak;have ax := aM aj;clear ak aj;replace aE := eq_true aE;replace aF := eq_true aF;refine start_ (n := 10) (S := fun w' => w'.cell? (ad01.add ((aa).toNat * 2)) = some (.string ((Fbi l0 aa).f0)) ∧ w'.cell? ⟨(ad01.add ((aa).toNat * 2)).block,(ad01.add ((aa).toNat * 2)).off + 1,none⟩ = some (.slice ao ((Fbi l0 aa).f1).length ap) ∧ w'.cell? (aw.add ((aa).toNat * 2)) = some (.string ((Fbi l1 aa).f0)) ∧ w'.cell? ⟨(aw.add ((aa).toNat * 2)).block,(aw.add ((aa).toNat * 2)).off + 1,none⟩ = some (.slice ar ((Fbi l1 aa).f1).length au)) (ds := []) (mk_ 10 0) (by kernel_rfl) rfl (by kernel_rfl) ⟨mv_ HB.out hw01_0,mv_ HB.out ah,mv_ HB.out am,mv_ HB.out al⟩ (fun hHeld => ?_);refine with_tabW Fah.tab6 Fah.bits6 (fun HT_ HW_ => ?_);generalize wr.drew = wk0 at HB ai an ab ac ad ae hHeld ⊢;refine pV_ (i := 0) (N := some 17) (mk_ 10 1) rfl rfl HT_.out ?_;refine pV_ (i := 1) (N := some 18) (mk_ 10 3) rfl rfl HT_.out ?_;refine pV_ (i := 2) (N := some 19) (mk_ 10 7) rfl rfl HT_.out ?_;refine pV_ (i := 4) (N := some 21) (mk_ 10 23) rfl rfl HT_.out ?_;refine pV_ (i := 5) (N := some 22) (mk_ 10 55) rfl rfl HT_.out ?_;refine pV_ (i := 6) (N := some 23) (mk_ 10 119) rfl rfl HT_.out ?_;refine tV_ (i := 3) (N := some 20) (mk_ 10 127) rfl rfl HT_.out HW_.out hHeld ?_;refine tV_ (i := 7) (N := some 24) (mk_ 10 255) rfl rfl HT_.out HW_.out hHeld ?_;refine one_ (i := 8) (N := some 25) (mk_ 10 511) rfl rfl (one_of HT_.out (by kernel_rfl)) (by decide) (fun K hK => ?_);refine gs_ Tryz.func97 #[.agg #[.string ((Fbi l0 aa).f0),.slice ao ((Fbi l0 aa).f1).length ap],.agg #[.string ((Fbi l1 aa).f0),.slice ar ((Fbi l1 aa).f1).length au]] ?_;(with_reducible refine (Fbt.calls _ _ _ _ _ _ _ _ _ _ _ ?side1 ?side2 ?side3 ?side4 A7.out).mono ?_);(case side1 => exact wX_ ai.out);(case side2 => exact av.out);(case side3 => exact wX_ an.out);(case side4 => exact ax.out);rintro e wk1 ⟨rfl,hb⟩;refine ⟨_,rfl,?_⟩;replace HB := aM (lT wB_ hb);refine hK.out _ _ ⟨mv_ HB.out hw01_0,mv_ HB.out ah,mv_ HB.out am,mv_ HB.out al⟩ (fun hHeld => ?_);clear hK K;refine norm_ (a' := ?_) ?_ ?_;rotate_left;show Act.put _ (some 25) _ = _;simp only [Act.put,lI,sZ,sS,i64_w,i32_w];rfl;refine pV_ (i := 9) (N := some 26) (mk_ 10 1023) rfl rfl HT_.out ?_;refine done_ (done_of HT_.out (by kernel_rfl)) ?_;(try go_wp2)
       first
        |
         go_ret;exact ⟨vR_,wB_⟩
        |
         go_roundg k1
         case measure => have := aJ.out;omega
         case rel => exact ⟨(wrap64 (aa + 1)),vR_,H',⟨by have := aJ.out;omega⟩,⟨wB_⟩⟩
 ·rw [if_neg c3] at H;have ay := qF.mpr c3;have az := qB.mpr c3;have aA : (l0.length == l1.length) = false := (by first|simpa using c3|(simp at c3 ⊢;omega));obtain rfl := oI H;go_enter Tryz.func40,Tryz.ntmps40;go_wp2;go_ret;exact ⟨vR_,wB_⟩
def FaN.l0 : Nat → List ByteArray → Int → Int → Option (Int × List ByteArray)
 | 0,_,_,_ => none
 | k + 1,x0,x1,x5 => if x5 < (x0.length : Int) then ((Fag.f k x1).bind fun aa => (if 0 ≤ x5 then (FaN.l0 k (x0.set (x5 : Int).toNat aa) (wrap64 (x1 + 1)) (wrap64 (x5 + 1))) else (none))) else (some (x1,x0))
def FaN.f (k : Nat) (l0 : List ByteArray) (a1 : Int) : Option (Int × List ByteArray) := FaN.l0 k l0 a1 0
theorem FaN.mono_l : ∀ k,(∀ y0 y1 y2,LeO (FaN.l0 k y0 y1 y2) (FaN.l0 (k + 1) y0 y1 y2))
 | 0 => fun _ _ _ r h => by simp [FaN.l0] at h
 | k + 1 => by
  have ih0 := FaN.mono_l k
  ·intro y0 y1 y2
   unfold FaN.l0
   repeat' (first|with_reducible (first|exact ih0 _ _ _|exact Fag.mono _ _|exact LeO.refl _|exact LeO.none _|refine LeO.ite ?_ ?_|refine LeO.bind ?_ (fun _ => ?_))|exact LeO.none _|refine LeO.ite ?_ ?_|refine LeO.bind ?_ (fun _ => ?_))
theorem FaN.mono : ∀ a0 a1 k,LeO (FaN.f k a0 a1) (FaN.f (k + 1) a0 a1) := by
 intro a0 a1 k
 have ih0 := FaN.mono_l k
 unfold FaN.f
 repeat' (first|with_reducible (first|exact ih0 _ _ _|exact Fag.mono _ _|exact LeO.refl _|exact LeO.none _|refine LeO.ite ?_ ?_|refine LeO.bind ?_ (fun _ => ?_))|exact LeO.none _|refine LeO.ite ?_ ?_|refine LeO.bind ?_ (fun _ => ?_))
theorem FaN.calls (k : Nat) (af : Nat → Prop) (ac : Value) (l0 : List ByteArray) (a1 : Int) (r1 : Int) (r2 : List ByteArray) (w0 w : World) (hB : Below w0.heap.size w0 w) (ho0 : Kd.R Kd.string 9 w w0.heap.size af ac l0) (h : FaN.f k l0 a1 = some (r1,r2)) :
  Calls Tryz.prog 25 #[ac,.int .i64 a1] w fun e w' => e = .returned (.int .i64 r1) ∧ Kd.R Kd.string 9 w' w0.heap.size (fun k_ => (af k_ ∨ w.heap.size ≤ k_)) ac r2 ∧ Below w0.heap.size w0 w' ∧ Kept w w' (fun k_ => af k_) := by
 have HO0 := aM (show Kd.R Kd.string 9 w w0.heap.size (fun k_ => (af k_ ∨ w.heap.size ≤ k_)) ac l0 from Kd.R_mono ho0 (fun k_ hk => (.inl hk)));have HK := aM (Kept.refl w (fun k_ => af k_));have HW0 := aM hB.size;have HB := aM hB;clear hB;have H : (FaN.l0 k l0 a1 0) = some (r1,r2) := h;clear h;have H' := aM H;clear H;go_enter Tryz.func25,Tryz.ntmps25;go_wp2;go_loopg [1,5] k (fun kq v1 v5 w' => ∃ (ad : List ByteArray) (ae : Int) (aa : Int),v1 = .int .i64 ae ∧ v5 = .int .i64 aa ∧ Aside0 (FaN.l0 kq ad ae aa = some (r1,r2)) ∧ Aside0 (kq ≤ k) ∧ Aside0 (Kd.R Kd.string 9 w' w0.heap.size (fun k_ => (af k_ ∨ w.heap.size ≤ k_)) ac ad) ∧ Aside0 (Kept w w' (fun k_ => af k_)) ∧ Aside0 (Below w0.heap.size w0 w'))
 case atStart => exact ⟨(l0),(a1),(0),vR_,vR_,H',⟨Nat.le_refl _⟩,⟨wO_ HO0.out⟩,⟨by repeat (first|(with_reducible first|exact HK.out|apply Kept.alloc|apply Kept.drewN|apply Kept.drew)|exact HK.out)⟩,⟨wB_⟩⟩
 case round =>
  clear H';obtain ⟨ad,ae,aa,rfl,rfl,HA,ar,ab,HK,HB⟩ := hrel
  cases gk with
  | zero => exact absurd HA.out (by simp [FaN.l0])
  | succ k1 =>
   have H := HA.out;clear HA;simp only [FaN.l0] at H
   by_cases c3 : aa < (ad.length : Int)
   ·rw [if_pos c3] at H;have an := dT c3;clear c3;obtain ⟨ah,A4,H⟩ := bE_ H
    by_cases c5 : 0 ≤ aa
    ·rw [if_pos c5] at H;have c5b0 := dT c5;clear c5;obtain ⟨ai,ag⟩ : ∃ y_ : List ByteArray,y_ = (ad.set (aa : Int).toNat ah) := ⟨_,rfl⟩;replace H : (FaN.l0 k1 ai (wrap64 (ae + 1)) (wrap64 (aa + 1))) = some (r1,r2) := (yH_ ag H);have ak := aM ag;clear ag;have H' := aM H;clear H;obtain ⟨ao,al,aj⟩ := Kd.R_slice ab.out;subst aj;go_wp2_with (first|((with_reducible refine gate_callee (f := 77) rfl ?_);refine gl_ (some 15) Tryz.func77 #[.int .i64 ae] ?_;(with_reducible refine (Fag.calls k1 ae ah _ A4.out).mono ?_);rintro e w8 ⟨rfl,hb⟩;refine ⟨_,rfl,?_⟩;replace ab := aM (rB (wO_ ab.out) hb);replace HK := aM (Kept.below (S := (fun k_ => af k_)) (by repeat (first|(with_reducible first|exact HK.out|apply Kept.alloc|apply Kept.drewN|apply Kept.drew)|exact HK.out)) hb);replace HB := aM (lT wB_ hb);have p6 : 0 ≤ (aa : Int) := oD (by assumption);have q6 : (aa : Int) < ((ad.length : Int) : Int) := oD (by assumption);obtain ⟨am,co6,au,av,ax,cl6,aw⟩ := Kd.R_form ab.out (by omega);(first|cases au|(injection au with ea_ en_ ec_;(first|subst ea_|(injection ea_ with ea_;subst ea_));subst ec_;clear en_));have ay := aM av;have GG6 := aM aw;clear av ax aw;have HMgo6 := aM (show (af am ∨ w.heap.size ≤ am) from (ab.out.1 _ rfl));obtain ⟨hx6_0,hf6_0⟩ := Kd.R_celln (⟨#[]⟩ : ByteArray) ab.out (aa : Int) p6 q6;replace p6 := eq_true p6;replace q6 := eq_true q6;obtain ⟨hy9_,hz9_⟩ := Kd.R_celln (⟨#[]⟩ : ByteArray) ab.out (aa : Int) (oD (by assumption)) (oD (by assumption));have ap := Kd.R_putg ab.out (aa : Int) ah)|((with_reducible refine gate_store (t := 9) (p := 16) rfl ?_);refine store_event (t := 9) (p := 16) (v := ?vo_w10) (w1 := (w8.setCell ⟨am,(aa : Int).toNat,none⟩ (.string ah))) ?hg ?ho ?hn ?hr ?_;(case ho => rfl);(case hg => rfl);(case hn => rfl);(case hr => first|(go_simp;done)|(go_simp;rfl));intro w10 hw;have hg : w8.grownBy w10 (some am) := (by rw [hw];exact ap.2);have hp_ : Kd.R Kd.string 9 w10 w0.heap.size (fun k_ => (af k_ ∨ w.heap.size ≤ k_)) (.slice (some ⟨am,0,none⟩) ad.length al) ai := (by rw [hw,ak.out];exact ap.1);clear ap;replace HB := aM ((by rw [hw];exact lS (HB.out) ay.out : Below w0.heap.size w0 w10));replace HK := aM (Kept.of_grown (S := (fun k_ => af k_)) hg (by repeat (first|(with_reducible first|exact HK.out|apply Kept.alloc|apply Kept.drewN|apply Kept.drew)|exact HK.out)) (fun k_ e_ => (ab.out.1 k_ e_)));replace ab := aM (hp_);clear hg hw hp_));go_roundg k1
     case measure => have := ar.out;omega
     case rel => exact ⟨(ai),(wrap64 (ae + 1)),(wrap64 (aa + 1)),vR_,vR_,H',⟨by have := ar.out;omega⟩,⟨wO_ ab.out⟩,⟨by repeat (first|(with_reducible first|exact HK.out|apply Kept.alloc|apply Kept.drewN|apply Kept.drew)|exact HK.out)⟩,⟨wB_⟩⟩
    ·rw [if_neg c5] at H;exact nH_ H
   ·rw [if_neg c3] at H;have an := dF c3;clear c3;simp only [eS,eP] at H;obtain ⟨rfl,rfl⟩ := H;obtain ⟨ao,al,aj⟩ := Kd.R_slice ab.out;subst aj;go_wp2;go_ret;exact ⟨vR_,wO_ ab.out,wB_,by repeat (first|(with_reducible first|exact HK.out|apply Kept.alloc|apply Kept.drewN|apply Kept.drew)|exact HK.out)⟩
theorem line_at {W : World} {base g n c : Nat} {ok : Nat → Prop} {xs : List S90} (h : Kd.S k90 90 W base ok (.slice (some ⟨g,0,none⟩) n c) xs) (i : Int) (h0 : 0 ≤ i) (h1 : i < n) (hnew : ∀ k,W.heap.size ≤ k → ok k) (hbase : base ≤ W.heap.size) :
  ∃ (oki : Nat → Prop) (A : Option Addr) (cc : Nat),W.cell? ⟨g,i.toNat * 2,none⟩ = some (.string (Fbi xs i).f0) ∧ W.frozen? ⟨g,i.toNat * 2,none⟩ = false ∧ W.cell? ⟨g,i.toNat * 2 + 1,none⟩ = some (.slice A (Fbi xs i).f1.length cc) ∧ W.frozen? ⟨g,i.toNat * 2 + 1,none⟩ = false ∧ Kd.string.R 9 W base oki (.slice A (Fbi xs i).f1.length cc) (Fbi xs i).f1 ∧ (∀ k,oki k → ok k ∧ k ≠ g) ∧
   (∀ t : ByteArray,Kd.S k90 90 (W.setCell ⟨g,i.toNat * 2,none⟩ (.string t)) base ok (.slice (some ⟨g,0,none⟩) n c) (xs.set i.toNat ⟨t,(Fbi xs i).f1⟩) ∧ W.grownBy (W.setCell ⟨g,i.toNat * 2,none⟩ (.string t)) (some g)) ∧
   (∀ (W2 : World) (r2 : List ByteArray),Kept W W2 oki → Kd.string.R 9 W2 base (fun k_ => oki k_ ∨ W.heap.size ≤ k_) (.slice A (Fbi xs i).f1.length cc) r2 → Kd.S k90 90 W2 base ok (.slice (some ⟨g,0,none⟩) n c) (xs.set i.toNat ⟨(Fbi xs i).f0,r2⟩)) := by
 obtain ⟨oki,cs,hcl,hM,hc,hf,hoki,hH⟩ := Kd.S_elem h z90 i h0 h1;obtain ⟨v1,rfl,g1⟩ := k90_openM hM;obtain ⟨A,cc,rfl⟩ := Kd.R_slice g1;refine ⟨oki,A,cc,hc 0 _ rfl,hf 0,hc 1 _ rfl,hf 1,g1,hoki,fun t => ?_,fun W2 r2 hk hR => ?_⟩
 ·have := Kd.S_seg0 (seg := [Value.string t]) (j := 0) (x' := (⟨t,(Fbi xs i).f1⟩ : S90)) hH h0 h1 (show 1 ≤ 2 from by decide) (k90_mkM W base oki (⟨t,(Fbi xs i).f1⟩ : S90) g1) (fun _ h => h);exact this
 ·have aa : Kd.H k90 90 W2 base ok (.slice (some ⟨g,0,none⟩) n c) xs i (fun k => oki k ∨ ok k ∧ W.heap.size ≤ k) _ := Kd.H_step (Kd.H_widen hH) (fun k hok hno hlt => hk.2 k hlt (fun h => hno (.inl h)));exact Kd.H_back aa (k90_mkM W2 base _ (⟨(Fbi xs i).f0,r2⟩ : S90) (Kd.R_mono hR (fun k hk => hk))) (fun k hk => hk.imp id (fun h => ⟨hnew k h,h⟩))
theorem rdI_set (xs : List S90) (i : Int) (y : S90) (h0 : 0 ≤ i) (h1 : i < (xs.length : Int)) : Fbi (xs.set i.toNat y) i = y := by
 unfold Fbi;rw [List.getD_eq_getElem?_getD,List.getElem?_set_self (by omega)];rfl
def Faz.l0 : Nat → List S90 → Int → Int → Option (Int × List S90)
 | 0,_,_,_ => none
 | k + 1,x0,x1,x5 => if x5 < (x0.length : Int) then ((Fag.f k x1).bind fun t => if 0 ≤ x5 then ((FaN.f k (Fbi x0 x5).f1 (wrap64 (x1 + 1))).bind fun b => Faz.l0 k (x0.set x5.toNat ⟨t,b.2⟩) b.1 (wrap64 (x5 + 1))) else none) else some (x1,x0)
def Faz.f (k : Nat) (l0 : List S90) (a1 : Int) : Option (Int × List S90) := Faz.l0 k l0 a1 0
theorem Faz.mono_l : ∀ (k : Nat) (x0 : List S90) (x1 x5 : Int),LeO (Faz.l0 k x0 x1 x5) (Faz.l0 (k + 1) x0 x1 x5)
 | 0,_,_,_ => LeO.none _
 | k + 1,x0,x1,x5 => by
  have ih := Faz.mono_l k
  unfold Faz.l0
  repeat' first
   | exact Fag.mono _ _
   | exact FaN.mono _ _ _
   | exact ih _ _ _
   | apply LeO.ite
   | apply LeO.bind
   | exact LeO.refl _
   | intro _
theorem Faz.mono : ∀ a0 a1 k,LeO (Faz.f k a0 a1) (Faz.f (k + 1) a0 a1) := fun _ _ k => Faz.mono_l k _ _ _
theorem Fcg (k : Nat) (ab : Nat → Prop) (aa : Value) (l0 : List S90) (a1 : Int) (r1 : Int) (r2 : List S90) (w0 w : World) (hB : Below w0.heap.size w0 w) (ho0 : Kd.S k90 90 w w0.heap.size ab aa l0) (h : Faz.f k l0 a1 = some (r1,r2)) :
  Calls Tryz.prog 41 #[aa,.int .i64 a1] w fun e w' => e = .returned (.int .i64 r1) ∧ Kd.S k90 90 w' w0.heap.size (fun k_ => (ab k_ ∨ w.heap.size ≤ k_)) aa r2 ∧ Below w0.heap.size w0 w' ∧ Kept w w' (fun k_ => ab k_) := by
 obtain ⟨A,c,hv⟩ := Kd.R_slice (Kd.S_R ho0);subst hv;have HO := aM (Kd.S_mono ho0 (ok' := fun k_ => (ab k_ ∨ w.heap.size ≤ k_)) (fun _ hk => .inl hk));have HP := aM (fun g (hg : (Value.slice A l0.length c).ownBlock = some g) => (Kd.S_R ho0).1 g hg);have HK := aM (Kept.refl w (fun k_ => ab k_));have HW := aM hB.size;have HB := aM hB;have H' := aM (show Faz.l0 k l0 a1 0 = some (r1,r2) from h);clear h ho0 hB;obtain ⟨n,hn⟩ : ∃ n,n = l0.length := ⟨_,rfl⟩;rw [← hn] at HO HP ⊢;have HL : Aside0 (l0.length = n) := ⟨hn.symm⟩;clear hn;go_enter Tryz.func41,Tryz.ntmps41;go_wp2;go_loopg [1,5] k (fun kq v1 v5 w' => ∃ (x0 : List S90) (x1 : Int) (x5 : Int),v1 = .int .i64 x1 ∧ v5 = .int .i64 x5 ∧ Aside0 (x0.length = n) ∧ Aside0 (Faz.l0 kq x0 x1 x5 = some (r1,r2)) ∧ Aside0 (kq ≤ k) ∧ Aside0 (Kd.S k90 90 w' w0.heap.size (fun k_ => (ab k_ ∨ w.heap.size ≤ k_)) (.slice A n c) x0) ∧ Aside0 (Kept w w' (fun k_ => ab k_)) ∧ Aside0 (Below w0.heap.size w0 w'))
 case atStart => exact ⟨l0,a1,0,rfl,rfl,HL,H',⟨Nat.le_refl _⟩,HO,HK,HB⟩
 case round =>
  clear H' HO HK HB HL;obtain ⟨x0,x1,x5,rfl,rfl,HL,HA,ag,HO,HK,HB⟩ := hrel
  cases gk with
  | zero => exact absurd HA.out (by simp [Faz.l0])
  | succ k1 =>
   have H := HA.out;clear HA;simp only [Faz.l0] at H;rw [HL.out] at H
   by_cases c3 : x5 < (n : Int)
   ·rw [if_pos c3] at H;have ae := dT c3;obtain ⟨t,A4,H⟩ := oB.mp H;have A4 := aM A4
    by_cases c5 : 0 ≤ x5
    ·rw [if_pos c5] at H;have c5b0 := dT c5;obtain ⟨b,A5,H⟩ := oB.mp H;obtain ⟨m1,ys⟩ := b;have A5 := aM A5;have H' := aM H;clear H;obtain ⟨g,cg,eg,gb,gl,cl,hg⟩ := Kd.R_form (Kd.S_R HO.out) (by have := HL.out;omega);injection eg with ea en ec;clear en;subst ea ec;have PG := aM (HP.out g rfl);have GB := aM gb;clear gl cl hg gb;have P6 := aM c5;have Q6 := aM c3;replace c5 := eq_true c5;replace c3 := eq_true c3;go_wp2_with (first|((with_reducible refine gate_callee (f := 77) rfl ?_);refine gl_ (some 15) Tryz.func77 #[.int .i64 x1] ?_;(with_reducible refine (Fag.calls k1 x1 t _ A4.out).mono ?_);rintro e w8 ⟨rfl,hb⟩;refine ⟨_,rfl,?_⟩;replace HO := aM (Kd.S_below HO.out hb);replace HK := aM (Kept.below (S := (fun k_ => ab k_)) HK.out hb);replace HB := aM (lT HB.out hb);clear hb;obtain ⟨-,-,-,hx6,hf6,-,-,-,-,hst,-⟩ := line_at HO.out x5 P6.out Q6.out (fun k_ h_ => Or.inr (Nat.le_trans HK.out.1 h_)) HB.out.size;have HS := aM (hst t);clear hst)|((with_reducible refine gate_store (t := 9) (p := 17) rfl ?_);refine store_event (t := 9) (p := 17) (v := ?vo_w10) (w1 := (w8.setCell ⟨g,(x5 : Int).toNat * 2,none⟩ (.string t))) ?hg ?ho ?hn ?hr ?_;(case ho => rfl);(case hg => rfl);(case hn => rfl);(case hr => first|(go_simp;done)|(go_simp;rfl));intro w10 hw;subst hw;replace HO := aM HS.out.1;replace HK := aM (Kept.of_grown (S := (fun k_ => ab k_)) HS.out.2 HK.out (fun k_ e_ => by injection e_ with e_;subst e_;exact .inl PG.out));replace HB := aM (lS HB.out GB.out (v := .string t) (j := (x5 : Int).toNat * 2));clear HS;obtain ⟨oki,A2,c2,-,-,aj,hf7,af,ad,-,ac⟩ := line_at HO.out x5 P6.out Q6.out (fun k_ h_ => Or.inr (Nat.le_trans HK.out.1 h_)) HB.out.size;rw [rdI_set x0 x5 _ P6.out (by rw [HL.out];exact Q6.out)] at aj af ac;simp only [List.set_set] at ac;have ah := aM af;have ai := aM ad;have HBK := aM ac;clear af ad ac)|(go_at_call 25;(with_reducible refine (FaN.calls k1 oki _ (Fbi x0 x5).f1 (wrap64 (x1 + 1)) m1 ys w0 _ HB.out ah.out A5.out).mono ?_);rintro e w12 ⟨rfl,hr,hb,hk⟩;replace HO := aM (HBK.out _ ys hk hr);replace HK := aM (HK.out.then_ hk (fun k_ h_ => (ai.out k_ h_).1));replace HB := aM hb;clear HBK ai ah hb hk hr));go_roundg k1
     case measure => have := ag.out;omega
     case rel => exact ⟨_,m1,(wrap64 (x5 + 1)),vR_,vR_,⟨(List.length_set).trans HL.out⟩,H',⟨by have := ag.out;omega⟩,HO,HK,HB⟩
    ·rw [if_neg c5] at H;exact nH_ H
   ·rw [if_neg c3] at H;have ae := dF c3;clear c3;obtain ⟨rfl,rfl⟩ := Prod.mk.inj (oI H);go_wp2;go_ret;exact ⟨rfl,HO.out,HB.out,HK.out⟩
theorem Faz.calls (k : Nat) (ab : Nat → Prop) (aa : Value) (l0 : List S90) (a1 : Int) (r1 : Int) (r2 : List S90) (w0 w : World) (hB : Below w0.heap.size w0 w) (ho0 : Kd.S k90 90 w w0.heap.size ab aa l0) (h : Faz.f k l0 a1 = some (r1,r2)) :
  Calls Tryz.prog 41 #[aa,.int .i64 a1] w fun e w' => e = .returned (.int .i64 r1) ∧ Kd.S k90 90 w' w0.heap.size (fun k_ => (ab k_ ∨ w.heap.size ≤ k_)) aa r2 ∧ Below w0.heap.size w0 w' ∧ Kept w w' (fun k_ => ab k_ ∧ TyB w (90 :: (k90).E) k_) := by
 refine (Fcg k (fun k_ => ab k_ ∧ TyB w (90 :: (k90).E) k_) aa l0 a1 r1 r2 w0 w hB (S_tyB ho0) h).mono ?_;rintro e w' ⟨rfl,h1,h2,h3⟩;exact ⟨rfl,Kd.S_mono h1 (fun _ hk => hk.imp (fun h => h.1) id),h2,h3⟩
def FaO.l0 : Nat → List ByteArray → Int → Int → Option (Int)
 | 0,_,_,_ => none
 | k + 1,x0,x1,x5 => if x5 < (x0.length : Int) then (if 0 ≤ x5 then ((Fag.f k x1).bind fun aa => (if (rdOf ByteArray.empty x0 x5).toList = aa.toList then (FaO.l0 k x0 (wrap64 (x1 + 1)) (wrap64 (x5 + 1))) else (some (-1)))) else (none)) else (some x1)
def FaO.f (k : Nat) (l0 : List ByteArray) (a1 : Int) : Option (Int) := FaO.l0 k l0 a1 0
theorem FaO.mono_l : ∀ k,(∀ y0 y1 y2,LeO (FaO.l0 k y0 y1 y2) (FaO.l0 (k + 1) y0 y1 y2))
 | 0 => fun _ _ _ r h => by simp [FaO.l0] at h
 | k + 1 => by
  have ih0 := FaO.mono_l k
  ·intro y0 y1 y2
   unfold FaO.l0
   repeat' (first|with_reducible (first|exact ih0 _ _ _|exact Fag.mono _ _|exact LeO.refl _|exact LeO.none _|refine LeO.ite ?_ ?_|refine LeO.bind ?_ (fun _ => ?_))|exact LeO.none _|refine LeO.ite ?_ ?_|refine LeO.bind ?_ (fun _ => ?_))
theorem FaO.mono : ∀ a0 a1 k,LeO (FaO.f k a0 a1) (FaO.f (k + 1) a0 a1) := by
 intro a0 a1 k
 have ih0 := FaO.mono_l k
 unfold FaO.f
 repeat' (first|with_reducible (first|exact ih0 _ _ _|exact Fag.mono _ _|exact LeO.refl _|exact LeO.none _|refine LeO.ite ?_ ?_|refine LeO.bind ?_ (fun _ => ?_))|exact LeO.none _|refine LeO.ite ?_ ?_|refine LeO.bind ?_ (fun _ => ?_))
theorem FaO.calls (k : Nat) (A0 : Option Addr) (c0 : Nat) (l0 : List ByteArray) (a1 : Int) (r : Int) (w : World) (hr0 : Kd.C Kd.string w A0 l0.length l0) (hc0 : l0.length ≤ c0) (h : FaO.f k l0 a1 = some r) :
  Calls Tryz.prog 26 #[.slice A0 l0.length c0,.int .i64 a1] w fun e w' => e = .returned (.int .i64 r) ∧ Below w.heap.size w w' := by
 have HR0 := aM hr0;have HC0 := aM hc0;clear hr0 hc0;have HB := aM (Below.refl w.heap.size w);have H : (FaO.l0 k l0 a1 0) = some r := h;clear h;have H' := aM H;clear H;go_enter Tryz.func26,Tryz.ntmps26;go_wp2;go_loopg [1,5] k (fun kq v1 v5 w' => ∃ (ac : Int) (aa : Int),v1 = .int .i64 ac ∧ v5 = .int .i64 aa ∧ Aside0 (FaO.l0 kq l0 ac aa = some r) ∧ Aside0 (kq ≤ k) ∧ Aside0 (Below w.heap.size w w'))
 case atStart => exact ⟨(a1),(0),vR_,vR_,H',⟨Nat.le_refl _⟩,⟨wB_⟩⟩
 case round =>
  clear H';obtain ⟨ac,aa,rfl,rfl,HA,ah,HB⟩ := hrel
  cases gk with
  | zero => exact absurd HA.out (by simp [FaO.l0])
  | succ k1 =>
   have H := HA.out;clear HA;simp only [FaO.l0] at H
   by_cases c3 : aa < (l0.length : Int)
   focus
    rw [if_pos c3] at H;have ad := dT c3;clear c3
    by_cases c4 : 0 ≤ aa
    rotate_left;rw [if_neg c4] at H;exact nH_ H;rw [if_pos c4] at H;have c4b0 := dT c4;clear c4;obtain ⟨ae,A5,H⟩ := bE_ H
    by_cases c6 : (rdOf ByteArray.empty l0 aa).toList = ae.toList
    focus
     rw [if_pos c6] at H;have af := qE.mpr c6;have ag := qN.mpr c6;clear c6;have H' := aM H;clear H
    rotate_left
    focus
     rw [if_neg c6] at H;have af := qF.mpr c6;have ag := qB.mpr c6;obtain rfl := oI H
   rotate_left 2
   focus
    rw [if_neg c3] at H;have ad := dF c3;clear c3;obtain rfl := oI H
   all_goals
    (try go_wp2)
    first
     |
      go_ret;exact ⟨vR_,wB_⟩
     |
      replace HB := aM (lD HB.out);have p01 : 0 ≤ (aa : Int) := oD (by assumption);have q01 : aa < (l0.length : Int) := oD (by assumption);obtain ⟨ad01,e01,ab⟩ := Kd.at_string HR0.out aa p01 q01;have hw01_0 := ab;cases e01;replace ab := mv_ HB.out ab;replace p01 := eq_true p01;replace q01 := eq_true q01;refine start_ (n := 7) (S := fun w' => w'.cell? (ad01.add (aa).toNat) = some (.string (rdOf ByteArray.empty l0 aa))) (ds := []) (mk_ 7 0) (by kernel_rfl) rfl (by kernel_rfl) (mv_ HB.out hw01_0) (fun hHeld => ?_);generalize wr.drew = wk0 at HB ab hHeld ⊢;refine pure_ (i := 0) (N := some 12) (v := ?_) (a' := ?_) (mk_ 7 1) rfl rfl (by kernel_rfl) (fun _ _ _ h => h) (Or.inl ⟨by rfl,?_⟩) ?_ ?_;rotate_left;intro w';go_simp;(with_reducible rfl);rotate_left;simp only [Act.put,lI,sZ,sS,i64_w,i32_w];rfl;refine pure_ (i := 1) (N := some 13) (v := ?_) (a' := ?_) (mk_ 7 3) rfl rfl (by kernel_rfl) (fun _ _ _ h => h) (Or.inl ⟨by rfl,?_⟩) ?_ ?_;rotate_left;intro w';go_simp;(with_reducible rfl);rotate_left;simp only [Act.put,lI,sZ,sS,i64_w,i32_w];rfl;refine pure_ (i := 2) (N := some 14) (v := ?_) (a' := ?_) (mk_ 7 7) rfl rfl (by kernel_rfl) (fun _ _ _ h => h) (Or.inl ⟨by rfl,?_⟩) ?_ ?_;rotate_left;intro w';go_simp;(with_reducible rfl);rotate_left;simp only [Act.put,lI,sZ,sS,i64_w,i32_w];rfl;refine pure_ (i := 4) (N := some 16) (v := ?_) (a' := ?_) (mk_ 7 23) rfl rfl (by kernel_rfl) (fun _ _ _ h => h) (Or.inl ⟨by rfl,?_⟩) ?_ ?_;rotate_left;intro w';go_simp;(with_reducible rfl);rotate_left;simp only [Act.put,lI,sZ,sS,i64_w,i32_w];rfl;refine take_ (i := 3) (N := some 15) (v := ?_) (a' := ?_) (mk_ 7 31) rfl rfl (by kernel_rfl) (fun _ _ _ h => h) (Or.inl ⟨by rfl,?_⟩) hHeld ?_ ?_;rotate_left;intro w' s0;go_simp;(with_reducible rfl);rotate_left;simp only [Act.put,lI,sZ,sS,i64_w,i32_w];rfl;refine one_ (i := 5) (N := some 17) (mk_ 7 63) rfl rfl (by kernel_rfl) (by decide) (fun K hK => ?_);refine gs_ Tryz.func77 #[.int .i64 ac] ?_;(with_reducible refine (Fag.calls _ _ _ _ A5.out).mono ?_);rintro e wk1 ⟨rfl,hb⟩;refine ⟨_,rfl,?_⟩;replace HB := aM (lT wB_ hb);refine hK.out _ _ (mv_ HB.out hw01_0) (fun hHeld => ?_);clear hK K;refine norm_ (a' := ?_) ?_ ?_;rotate_left;show Act.put _ (some 17) _ = _;simp only [Act.put,lI,sZ,sS,i64_w,i32_w];rfl;refine pure_ (i := 6) (N := some 18) (v := ?_) (a' := ?_) (mk_ 7 127) rfl rfl (by kernel_rfl) (fun _ _ _ h => h) (Or.inl ⟨by rfl,?_⟩) ?_ ?_;rotate_left;intro w';go_simp;(with_reducible rfl);rotate_left;simp only [Act.put,lI,sZ,sS,i64_w,i32_w];rfl;refine done_ (by kernel_rfl) ?_;(try go_wp2)
      first
       |
        go_ret;exact ⟨vR_,wB_⟩
       |
        go_roundg k1
        case measure => have := ah.out;omega
        case rel => exact ⟨(wrap64 (ac + 1)),(wrap64 (aa + 1)),vR_,vR_,H',⟨by have := ah.out;omega⟩,⟨wB_⟩⟩
def Faj.l0 : Nat → List (S90) → Int → Int → Option (Int)
 | 0,_,_,_ => none
 | k + 1,x0,x1,x5 => if x5 < (x0.length : Int) then (if 0 ≤ x5 then ((Fag.f k x1).bind fun ab => (if ((Fbi x0 x5).f0).toList = ab.toList then ((FaO.f k ((Fbi x0 x5).f1) (wrap64 (x1 + 1))).bind fun aa => (if aa < 0 then (some (-1)) else (Faj.l0 k x0 aa (wrap64 (x5 + 1))))) else (some (-1)))) else (none)) else (some x1)
def Faj.f (k : Nat) (l0 : List (S90)) (a1 : Int) : Option (Int) := Faj.l0 k l0 a1 0
theorem Faj.mono_l : ∀ k,(∀ y0 y1 y2,LeO (Faj.l0 k y0 y1 y2) (Faj.l0 (k + 1) y0 y1 y2))
 | 0 => fun _ _ _ r h => by simp [Faj.l0] at h
 | k + 1 => by
  have ih0 := Faj.mono_l k
  ·intro y0 y1 y2
   unfold Faj.l0
   repeat' (first|with_reducible (first|exact ih0 _ _ _|exact FaO.mono _ _ _|exact Fag.mono _ _|exact LeO.refl _|exact LeO.none _|refine LeO.ite ?_ ?_|refine LeO.bind ?_ (fun _ => ?_))|exact LeO.none _|refine LeO.ite ?_ ?_|refine LeO.bind ?_ (fun _ => ?_))
theorem Faj.mono : ∀ a0 a1 k,LeO (Faj.f k a0 a1) (Faj.f (k + 1) a0 a1) := by
 intro a0 a1 k
 have ih0 := Faj.mono_l k
 unfold Faj.f
 repeat' (first|with_reducible (first|exact ih0 _ _ _|exact FaO.mono _ _ _|exact Fag.mono _ _|exact LeO.refl _|exact LeO.none _|refine LeO.ite ?_ ?_|refine LeO.bind ?_ (fun _ => ?_))|exact LeO.none _|refine LeO.ite ?_ ?_|refine LeO.bind ?_ (fun _ => ?_))
def Faj.T4 : Bool × List (List Nat × List Nat) := (true,[([],[]),([],[]),([0,1],[0,1]),([2],[2]),([3],[3]),([],[]),([5],[5]),([4,6],[4,6])])
def Faj.B4 : List Nat := [0,0,3,7,15,0,32,127]
theorem Faj.tab4 : rtab .any (opsOf Tryz.f42 4) = Faj.T4 := by kernel_rfl
theorem Faj.bits4 : waitsOk Faj.T4.2 Faj.B4 = true := by kernel_rfl
theorem Faj.calls (k : Nat) (A0 : Option Addr) (c0 : Nat) (l0 : List (S90)) (a1 : Int) (r : Int) (w : World) (aK : Kd.C k90 w A0 l0.length l0) (aL : l0.length ≤ c0) (h : Faj.f k l0 a1 = some r) :
  Calls Tryz.prog 42 #[.slice A0 l0.length c0,.int .i64 a1] w fun e w' => e = .returned (.int .i64 r) ∧ Below w.heap.size w w' := by
 have aN := aM aK;have HC0 := aM aL;clear aK aL;have HB := aM (Below.refl w.heap.size w);have H : (Faj.l0 k l0 a1 0) = some r := h;clear h;have H' := aM H;clear H;go_enter Tryz.func42,Tryz.ntmps42;go_wp2;go_loopg [1,5] k (fun kq v1 v5 w' => ∃ (af : Int) (aa : Int),v1 = .int .i64 af ∧ v5 = .int .i64 aa ∧ Aside0 (Faj.l0 kq l0 af aa = some r) ∧ Aside0 (kq ≤ k) ∧ Aside0 (Below w.heap.size w w'))
 case atStart => exact ⟨(a1),(0),vR_,vR_,H',⟨Nat.le_refl _⟩,⟨wB_⟩⟩
 case round =>
  clear H';obtain ⟨af,aa,rfl,rfl,HA,aO,HB⟩ := hrel
  cases gk with
  | zero => exact absurd HA.out (by simp [Faj.l0])
  | succ k1 =>
   have H := HA.out;clear HA;simp only [Faj.l0] at H
   by_cases c3 : aa < (l0.length : Int)
   focus
    rw [if_pos c3] at H;have ay := dT c3;clear c3
    by_cases c4 : 0 ≤ aa
    rotate_left;rw [if_neg c4] at H;exact nH_ H;rw [if_pos c4] at H;have c4b0 := dT c4;clear c4;obtain ⟨az,A5,H⟩ := bE_ H
    by_cases c6 : ((Fbi l0 aa).f0).toList = az.toList
    focus
     rw [if_pos c6] at H;have aA := qE.mpr c6;have aC := qN.mpr c6;clear c6;obtain ⟨ax,A7,H⟩ := bE_ H
     by_cases c8 : ax < 0
     focus
      rw [if_pos c8] at H;have aD := dT c8;clear c8;obtain rfl := oI H
     rotate_left
     focus
      rw [if_neg c8] at H;have aD := dF c8;clear c8;have H' := aM H;clear H
    rotate_left 2
    focus
     rw [if_neg c6] at H;have aA := qF.mpr c6;have aC := qB.mpr c6;obtain rfl := oI H
   rotate_left 3
   focus
    rw [if_neg c3] at H;have ay := dF c3;clear c3;obtain rfl := oI H
   all_goals
    (try go_wp2)
    first
     |
      go_ret;exact ⟨vR_,wB_⟩
     |
      replace HB := aM (lD HB.out);have aE : 0 ≤ (aa : Int) := oD (by assumption);have aF : aa < (l0.length : Int) := oD (by assumption);obtain ⟨am,an,ao,aP,ab,ac,ag,ah⟩ := Fci aN.out aa aE aF;have ad := ac;have ai := ab;cases aP;replace ab := mv_ HB.out ab;replace ac := mv_ HB.out ac;have au := aM ah;have HC01_1 := aM ag;clear ah ag;replace aE := eq_true aE;replace aF := eq_true aF;refine start_ (n := 8) (S := fun w' => w'.cell? (am.add ((aa).toNat * 2)) = some (.string ((Fbi l0 aa).f0)) ∧ w'.cell? ⟨(am.add ((aa).toNat * 2)).block,(am.add ((aa).toNat * 2)).off + 1,none⟩ = some (.slice an ((Fbi l0 aa).f1).length ao)) (ds := []) (mk_ 8 0) (by kernel_rfl) rfl (by kernel_rfl) ⟨mv_ HB.out ai,mv_ HB.out ad⟩ (fun hHeld => ?_);refine with_tabW Faj.tab4 Faj.bits4 (fun HT_ HW_ => ?_);generalize wr.drew = wk0 at HB au ab ac hHeld ⊢;refine pV_ (i := 0) (N := some 12) (mk_ 8 1) rfl rfl HT_.out ?_;refine pV_ (i := 1) (N := some 13) (mk_ 8 3) rfl rfl HT_.out ?_;refine pV_ (i := 2) (N := some 14) (mk_ 8 7) rfl rfl HT_.out ?_;refine pV_ (i := 3) (N := some 15) (mk_ 8 15) rfl rfl HT_.out ?_;refine pV_ (i := 5) (N := some 17) (mk_ 8 47) rfl rfl HT_.out ?_;refine tV_ (i := 4) (N := some 16) (mk_ 8 63) rfl rfl HT_.out HW_.out hHeld ?_;refine one_ (i := 6) (N := some 18) (mk_ 8 127) rfl rfl (one_of HT_.out (by kernel_rfl)) (by decide) (fun K hK => ?_);refine gs_ Tryz.func77 #[.int .i64 af] ?_;(with_reducible refine (Fag.calls _ _ _ _ A5.out).mono ?_);rintro e wk1 ⟨rfl,hb⟩;refine ⟨_,rfl,?_⟩;replace HB := aM (lT wB_ hb);refine hK.out _ _ ⟨mv_ HB.out ai,mv_ HB.out ad⟩ (fun hHeld => ?_);clear hK K;refine norm_ (a' := ?_) ?_ ?_;rotate_left;show Act.put _ (some 18) _ = _;simp only [Act.put,lI,sZ,sS,i64_w,i32_w];rfl;refine pV_ (i := 7) (N := some 19) (mk_ 8 255) rfl rfl HT_.out ?_;refine done_ (done_of HT_.out (by kernel_rfl)) ?_
      first
       |
        (try go_wp2);go_ret;exact ⟨vR_,wB_⟩
       |
        have aG : 0 ≤ (aa : Int) := oD (by assumption);have aH : aa < (l0.length : Int) := oD (by assumption);obtain ⟨aJ,ap,ar,aQ,aj,ae,ak,al⟩ := Fci aN.out aa aG aH;obtain rfl : am = aJ := (by injection aQ);obtain ⟨rfl,rfl⟩ : ap = an ∧ ar = ao := (by (have e_ := ae.symm.trans ad;injection e_ with e_;injection e_ with ea_ el_ ec_;exact ⟨ea_,ec_⟩));replace aj := mv_ HB.out aj;replace ae := mv_ HB.out ae;have av := aM al;have aw := aM ak;clear al ak;replace aG := eq_true aG;replace aH := eq_true aH;(try go_wp2_with (first|((with_reducible refine gate_callee (f := 26) rfl ?_);refine gl_ (some 28) Tryz.func26 #[.slice ap ((Fbi l0 aa).f1).length ar,.int .i64 (wrap64 (af + 1))] ?_;(with_reducible refine (FaO.calls _ _ _ _ _ _ _ ?side1 ?side2 A7.out).mono ?_);(case side1 => exact wX_ av.out);(case side2 => exact aw.out);rintro e WA7 ⟨rfl,hb⟩;refine ⟨_,rfl,?_⟩;replace HB := aM (lT wB_ hb))))
        first
         |
          go_ret;exact ⟨vR_,wB_⟩
         |
          go_roundg k1
          case measure => have := aO.out;omega
          case rel => exact ⟨(ax),(wrap64 (aa + 1)),vR_,vR_,H',⟨by have := aO.out;omega⟩,⟨wB_⟩⟩
mutual
def Fac.j0 : Nat → List (S90) → Bool → List (S90) → Bool → Bool → List (S29) → List (S41) → Option (Bool)
 | 0,_,_,_,_,_,_,_ => none
 | k + 1,x4,x5,x7,x8,ag,aa,ab => if ag = true then (some false) else ((Fbc.f k aa).bind fun ac => ((Fbv.f k ab ac).bind fun ad => (if ad = true then ((Fbq.f k ab 1).bind fun ae => (if ae < 0 then (Fac.j1 k x4 x5 x7 true aa) else ((Fah.f k x7 x4).bind fun af => (if af = true then (Fac.j1 k x4 x5 x7 (x8 != x5) aa) else (Fac.j1 k x4 x5 x7 true aa))))) else (some false))))
def Fac.j1 : Nat → List (S90) → Bool → List (S90) → Bool → List (S29) → Option (Bool)
 | 0,_,_,_,_,_ => none
 | k + 1,x4,x5,x7,ag,ab => if ag = true then (some false) else ((Faz.f k x7 1).bind fun aa => ((Faj.f k aa.2 1).bind fun ad => (if ad < 0 then (some false) else (if ad = aa.1 then ((Fbc.f k ab).bind fun ae => ((Fam.f k ae).bind fun ac => ((Fah.f k ac.1 x4).bind fun af => (if af = true then (Fac.j2 k aa.2 aa.1 (ac.2 != x5)) else (Fac.j2 k aa.2 aa.1 true))))) else (some false)))))
def Fac.j2 : Nat → List (S90) → Int → Bool → Option (Bool)
 | 0,_,_,_ => none
 | k + 1,x7,ab,ac => if ac = true then (some false) else ((Faj.f k x7 1).bind fun aa => (if aa < 0 then (some false) else (if aa = ab then (some true) else (some false))))
end
def Fac.f (k : Nat) (ac : List (S29)) : Option (Bool) := (Fbn.f k ac 1048576).bind fun ae => (if ae < 0 then (some true) else ((Fbc.f k ac).bind fun af => ((Fab.f k af).bind fun aa => ((Fbc.f k ac).bind fun ad => ((Fam.f k ad).bind fun ab => ((Fah.f k ab.1 aa.1).bind fun ag => (if ag = true then (Fac.j0 k aa.1 aa.2 ab.1 ab.2 (ab.2 != aa.2) ac ad) else (Fac.j0 k aa.1 aa.2 ab.1 ab.2 true ac ad))))))))
theorem Fac.mono_l : ∀ k,(∀ y0 y1 y2 y3 y4 y5 y6,LeO (Fac.j0 k y0 y1 y2 y3 y4 y5 y6) (Fac.j0 (k + 1) y0 y1 y2 y3 y4 y5 y6)) ∧ (∀ y0 y1 y2 y3 y4,LeO (Fac.j1 k y0 y1 y2 y3 y4) (Fac.j1 (k + 1) y0 y1 y2 y3 y4)) ∧ (∀ y0 y1 y2,LeO (Fac.j2 k y0 y1 y2) (Fac.j2 (k + 1) y0 y1 y2))
 | 0 => ⟨fun _ _ _ _ _ _ _ r h => by simp [Fac.j0] at h,fun _ _ _ _ _ r h => by simp [Fac.j1] at h,fun _ _ _ r h => by simp [Fac.j2] at h⟩
 | k + 1 => by
  obtain ⟨ih0,ih1,ih2⟩ := Fac.mono_l k
  refine ⟨?_,?_,?_⟩
  all_goals (intros;first|unfold Fac.j0|unfold Fac.j1|unfold Fac.j2)
  all_goals repeat' (first|with_reducible (first|exact ih0 _ _ _ _ _ _ _|exact ih1 _ _ _ _ _|exact ih2 _ _ _|exact Fam.mono _ _|exact Fah.mono _ _ _|exact Fbv.mono _ _ _|exact Faj.mono _ _ _|exact Faz.mono _ _ _|exact Fbq.mono _ _ _|exact Fbn.mono _ _ _|exact Fbc.mono _ _|exact Fab.mono _ _|exact LeO.refl _|exact LeO.none _|refine LeO.ite ?_ ?_|refine LeO.bind ?_ (fun _ => ?_))|exact LeO.none _|refine LeO.ite ?_ ?_|refine LeO.bind ?_ (fun _ => ?_))
theorem Fac.mono : ∀ a0 k,LeO (Fac.f k a0) (Fac.f (k + 1) a0) := by
 intro a0 k
 obtain ⟨ih0,ih1,ih2⟩ := Fac.mono_l k
 unfold Fac.f
 repeat' (first|with_reducible (first|exact ih0 _ _ _ _ _ _ _|exact ih1 _ _ _ _ _|exact ih2 _ _ _|exact Fam.mono _ _|exact Fah.mono _ _ _|exact Fbv.mono _ _ _|exact Faj.mono _ _ _|exact Faz.mono _ _ _|exact Fbq.mono _ _ _|exact Fbn.mono _ _ _|exact Fbc.mono _ _|exact Fab.mono _ _|exact LeO.refl _|exact LeO.none _|refine LeO.ite ?_ ?_|refine LeO.bind ?_ (fun _ => ?_))|exact LeO.none _|refine LeO.ite ?_ ?_|refine LeO.bind ?_ (fun _ => ?_))
theorem Fac.calls (k : Nat) (al : Option Addr) (am : Nat) (ae : List (S29)) (r : Bool) (w : World) (bf : Kd.C k29 w al ae.length ae) (bg : ae.length ≤ am) (hG : Gfb w) (hr_ : r = true) (h : Fac.f k ae = some r) :
  Calls Tryz.prog 6 #[.agg #[.slice al ae.length am]] w fun e w' => e = .returned (.bool r) ∧ Below w.heap.size w w' := by
 have hu48 := Tryz.underlying48;have hu55 := Tryz.underlying55;have aD := aM bf;have aE := aM bg;clear bf bg;have HB := aM (Below.refl w.heap.size w);have HG := aM hG;clear hG;have H : ((Fbn.f k ae 1048576).bind fun aX => (if aX < 0 then (some true) else ((Fbc.f k ae).bind fun aY => ((Fab.f k aY).bind fun aF => ((Fbc.f k ae).bind fun ag => ((Fam.f k ag).bind fun aj => ((Fah.f k aj.1 aF.1).bind fun aR => (if aR = true then (Fac.j0 k aF.1 aF.2 aj.1 aj.2 (aj.2 != aF.2) ae ag) else (Fac.j0 k aF.1 aF.2 aj.1 aj.2 true ae ag))))))))) = some r := h;clear h;obtain ⟨aX,A2,H⟩ := bE_ H
 by_cases c3 : aX < 0
 ·rw [if_pos c3] at H;have co := dT c3;clear c3;obtain rfl := oI H;go_enter Tryz.func6,Tryz.ntmps6;go_wp2_with (first|((with_reducible refine gate_dst (N := 1) rfl ?_);refine bx_ (N := 1) (cs := #[.slice al ae.length am]) (t := 48) ?_;intro ax hg w4 hbox hb;have aa := aM (hbox);have aZ := aM ((by rw [hg];exact (lZ wB_) : w.heap.size ≤ ax));have a0 := aZ;replace HB := aM (lT wB_ hb);clear hb hbox hg;obtain ⟨_,_⟩ := z1_ aa.out)|((with_reducible refine gate_callee (f := 17) rfl ?_);refine gl_ (some 16) Tryz.func17 #[.agg #[.slice al ae.length am],.int .i64 1048576] ?_;(with_reducible refine (Fbn.calls k _ _ ae 1048576 aX _ ?side1 ?side2 A2.out).mono ?_);(case side1 => exact wX_ aD.out);(case side2 => exact aE.out);rintro e w6 ⟨rfl,hb⟩;refine ⟨_,rfl,?_⟩;replace aa := aM (bw_ aa.out hb);replace HB := aM (lT wB_ hb)));go_ret;exact ⟨vR_,wB_⟩
 ·rw [if_neg c3] at H;have co := dF c3;clear c3;obtain ⟨aY,A7,H⟩ := bE_ H;replace H := oB.mp H;obtain ⟨⟨an,ap⟩,cf,H⟩ := H;replace H : ((Fbc.f k ae).bind fun ag => ((Fam.f k ag).bind fun aj => ((Fah.f k aj.1 an).bind fun aR => (if aR = true then (Fac.j0 k an ap aj.1 aj.2 (aj.2 != ap) ae ag) else (Fac.j0 k an ap aj.1 aj.2 true ae ag))))) = some r := H;have A8 := aM cf;clear cf;obtain ⟨ag,A9,H⟩ := bE_ H;replace H := oB.mp H;obtain ⟨⟨ao,aT⟩,bJ,H⟩ := H;replace H : ((Fah.f k ao an).bind fun aR => (if aR = true then (Fac.j0 k an ap ao aT (aT != ap) ae ag) else (Fac.j0 k an ap ao aT true ae ag))) = some r := H;have cK := aM bJ;clear bJ;have bl := aM H;clear H;go_enter Tryz.func6,Tryz.ntmps6;go_upto_region 8 with (first|((with_reducible refine gate_dst (N := 1) rfl ?_);refine bx_ (N := 1) (cs := #[.slice al ae.length am]) (t := 48) ?_;intro ax hg w12 hbox hb;have aa := aM (hbox);have aZ := aM ((by rw [hg];exact (lZ wB_) : w.heap.size ≤ ax));have a0 := aZ;replace HB := aM (lT wB_ hb);clear hb hbox hg;obtain ⟨_,_⟩ := z1_ aa.out)|((with_reducible refine gate_callee (f := 17) rfl ?_);refine gl_ (some 16) Tryz.func17 #[.agg #[.slice al ae.length am],.int .i64 1048576] ?_;(with_reducible refine (Fbn.calls k _ _ ae 1048576 aX _ ?side1 ?side2 A2.out).mono ?_);(case side1 => exact wX_ aD.out);(case side2 => exact aE.out);rintro e w14 ⟨rfl,hb⟩;refine ⟨_,rfl,?_⟩;replace aa := aM (bw_ aa.out hb);replace HB := aM (lT wB_ hb);obtain ⟨_,_⟩ := z1_ aa.out)|((with_reducible refine gate_callee (f := 19) rfl ?_);refine gl_ (some 21) Tryz.func19 #[.agg #[.slice al ae.length am]] ?_;(with_reducible refine (Fbc.calls k _ _ ae aY _ ?side1 ?side2 A7.out).mono ?_);(case side1 => exact wX_ aD.out);(case side2 => exact aE.out);rintro e w16 ⟨v599,rfl,aP,hb⟩;refine ⟨_,rfl,?_⟩;have ai := aM (Kd.R_lower aP (lZ wB_));replace aa := aM (bw_ aa.out hb);replace HB := aM (lT wB_ hb);obtain ⟨cp,cq,cr⟩ := Kd.R_slice ai.out;subst cr)|((with_reducible refine gate_callee (f := 38) rfl ?_);refine gl_ (some 22) Tryz.func38 #[.agg #[.slice cp aY.length cq]] ?_;(with_reducible refine (Fab.calls k _ _ aY an ap _ ?side1 ?side2 A8.out).mono ?_);(case side1 => exact wY_ (rR ai.out).2.2);(case side2 => exact (rR ai.out).2.1);rintro e w18 ⟨bK,rfl,aP,hb⟩;refine ⟨_,rfl,?_⟩;have ah := aM (Kd.S_lower aP (lZ wB_));replace ai := aM (rB (wO_ ai.out) hb);replace aa := aM (bw_ aa.out hb);replace HB := aM (lT wB_ hb);obtain ⟨_,_⟩ := z1_ aa.out)|((with_reducible refine gate_callee (f := 19) rfl ?_);refine gl_ (some 26) Tryz.func19 #[.agg #[.slice al ae.length am]] ?_;(with_reducible refine (Fbc.calls k _ _ ae ag _ ?side1 ?side2 A9.out).mono ?_);(case side1 => exact wX_ aD.out);(case side2 => exact aE.out);rintro e w20 ⟨v606,rfl,aP,hb⟩;refine ⟨_,rfl,?_⟩;obtain ⟨bE,bL,a1,a2⟩ := up2 (wS_ ah.out) aP hb (lZ wB_);have ct := aM bL;have a3 := aM (Kd.R_elder' (wO_ ai.out) (Kd.R_base aP) hb);have a4 := aM a1;have bh := aM a2;have a5 := aM (bw_ aa.out hb);have bi := aM (lT wB_ hb);clear ai;clear ah;clear aa;clear HB;have ai := a3;have ah := a4;have ak := bh;have aa := a5;have HB := bi;clear a3 a4 bh a5 bi bL a1 a2)|((with_reducible refine gate_dst (N := 6) rfl ?_);refine bx_ (N := 6) (cs := #[.slice none 0 0]) (t := 55) ?_;intro ay hg w21 hbox hb;have ab := aM (hbox);have bM := aM ((by rw [hg];exact (lZ wB_) : w.heap.size ≤ ay));have bO := bM;have av := aM (nl_ hg aa.out);have aG := aM (ng_ hg aa.out);replace ai := aM (rB (wO_ ai.out) hb);replace ah := aM (Kd.S_below (wS_ ah.out) hb);replace ak := aM (rB (wO_ ak.out) hb);replace aa := aM (bw_ aa.out hb);replace HB := aM (lT wB_ hb);clear hb hbox hg;obtain ⟨aA,aw,cu⟩ := Kd.R_slice ak.out;subst cu;have hnb23 := aG.out;have hnc23 := av.out;obtain ⟨_,_⟩ := z1_ ab.out)|((with_reducible refine gate_callee (f := 39) rfl ?_);refine gl_ (some 29) Tryz.func39 #[.agg #[.slice aA ag.length aw]] ?_;(with_reducible refine (Fam.calls k _ _ ag ao aT _ ?side1 ?side2 ?side3 cK.out).mono ?_);(case side1 => refine (rR (e := 41) (base := bE) (ok := fun _ => True) (n := ag.length) (c := aw) ?_).2.2;exact (by (with_reducible repeat (first|apply rA|apply rN|apply rD));exact (Kd.R_mono (rF (p := ⟨ay,0,none⟩) (Kd.R_types ak.out ab.out (by decide)) (fun _ hk => hk.2) (.slice aA ag.length aw)) (fun _ h_ => h_.1))));(case side2 => exact (rR ak.out).2.1);(case side3 => exact Gfb.below HG.out wB_);rintro e w25 ⟨bP,rfl,aP,hb⟩;refine ⟨_,rfl,?_⟩;obtain ⟨ba,bQ,a1,a2,bR⟩ := up3 (by (with_reducible repeat first|apply Kd.S_alloc|apply Kd.S_drewN|apply Kd.S_drew);exact (Kd.S_mono (Kd.S_far (p := ⟨ay,0,none⟩) (Kd.S_types ah.out ab.out (by decide)) (fun _ hk => hk.2) (.slice aA ag.length aw)) (fun _ h_ => h_.1))) (by (with_reducible repeat (first|apply rA|apply rN|apply rD));exact (Kd.R_mono (rF (p := ⟨ay,0,none⟩) (Kd.R_types ak.out ab.out (by decide)) (fun _ hk => hk.2) (.slice aA ag.length aw)) (fun _ h_ => h_.1))) aP hb (lZ wB_);have cv := aM bQ;have a3 := aM (rB (by (with_reducible repeat (first|apply rA|apply rN|apply rD));exact (Kd.R_mono (rF (p := ⟨ay,0,none⟩) (Kd.R_types ai.out ab.out (by decide)) (fun _ hk => hk.2) (.slice aA ag.length aw)) (fun _ h_ => h_.1))) hb);have a4 := aM a1;have bh := aM a2;have a5 := aM bR;have bi := aM (bW (g := ax) (o := .cells #[.slice al ae.length am] 48 (0,0)) (bf_ av.out aa.out) hb);have bj := aM (bW (g := ay) (o := .cells #[.slice aA ag.length aw] 55 (0,0)) (by (with_reducible repeat (first|refine bN ?_ _|refine bD ?_|refine bA ?_ _));refine blk_put (cs := #[.slice none 0 0]) ?_ 0 _ rfl;(with_reducible repeat (first|refine bN ?_ _|refine bD ?_|refine bA ?_ _));exact ab.out) hb);have cH := aM (lT wB_ hb);clear ai;clear ah;clear ak;clear aa;clear ab;clear HB;have ai := a3;have ah := a4;have ak := bh;have az := a5;have aa := bi;have ab := bj;have HB := cH;clear a3 a4 bh a5 bi bj cH bQ a1 a2 bR));(try simp only [Act.put,lI,sZ,sS]);go_cut [40] (fun cL wc => ∃ (kq : Nat) (aK : Bool),cL = .bool aK ∧ Aside0 (Fac.j0 kq an ap ao aT aK ae ag = some r) ∧ Aside0 (kq ≤ k) ∧ Aside0 (Kd.S k90 90 wc w.heap.size (fun k_ => k_ < bE ∧ k_ < ba) bK an) ∧ Aside0 (Kd.S k90 90 wc ba (fun _ => True) bP ao) ∧ Aside0 (Kd.R k41 41 wc bE (fun k_ => True ∧ k_ < ba) (.slice aA ag.length aw) ag) ∧ Aside0 (wc.heap[ax]? = some (.cells #[(.slice al ae.length am)] 48 (0,0))) ∧ Aside0 (wc.heap[ay]? = some (.cells #[(.slice aA ag.length aw)] 55 (0,0))) ∧ Aside0 (Below w.heap.size w wc))
  case first =>
   have H := bl.out;clear bl;obtain ⟨aR,cM,H⟩ := bE_ H
   by_cases cg : aR = true
   focus
    subst cg;rw [if_pos rfl] at H;have H' := aM H;clear H;obtain ⟨bS,bT,bm⟩ := Kd.S_slice az.out;subst bm;obtain ⟨bU,bV,bn⟩ := Kd.S_slice ah.out;subst bn
   rotate_left
   focus
    replace cg := qO.mpr cg;subst cg;rw [if_neg qT] at H;have H' := aM H;clear H;obtain ⟨bS,bT,bm⟩ := Kd.S_slice az.out;subst bm;obtain ⟨bU,bV,bn⟩ := Kd.S_slice ah.out;subst bn
   all_goals
    go_wp2_with (first|((with_reducible refine gate_callee (f := 40) rfl ?_);refine gl_ (some 34) Tryz.func40 #[.slice bS ao.length bT,.slice bU an.length bV] ?_;(with_reducible refine (Fah.calls _ _ _ _ _ _ _ _ _ ?side1 ?side2 ?side3 ?side4 cM.out).mono ?_);(case side1 => repeat (first|exact (Kd.S_reads' az.out).2.2|(with_reducible first|refine cA ?_ _|refine cN ?_ _|refine cD ?_)));(case side2 => exact (Kd.S_reads' az.out).2.1);(case side3 => repeat (first|exact (Kd.S_reads' ah.out).2.2|(with_reducible first|refine cA ?_ _|refine cN ?_ _|refine cD ?_)));(case side4 => exact (Kd.S_reads' ah.out).2.1);rintro e WA26 ⟨rfl,hb⟩;refine ⟨_,rfl,?_⟩;replace ai := aM (rB (wO_ ai.out) hb);replace ah := aM (Kd.S_below (wS_ ah.out) hb);replace ak := aM (rB (wO_ ak.out) hb);replace az := aM (Kd.S_below (wS_ az.out) hb);replace aa := aM (bw_ aa.out hb);replace ab := aM (bw_ ab.out hb);replace HB := aM (lT wB_ hb)));go_meet
    case rel => first|(exact ⟨_,((aT != ap)),vR_,H',⟨by first|omega|exact Nat.le_refl _⟩,⟨by (with_reducible repeat (first|apply Kd.S_alloc|apply Kd.S_drewN|apply Kd.S_drew));exact ah.out⟩,⟨by (with_reducible repeat (first|apply Kd.S_alloc|apply Kd.S_drewN|apply Kd.S_drew));exact az.out⟩,⟨wO_ ak.out⟩,⟨wC_ aa.out⟩,⟨wC_ ab.out⟩,⟨wB_⟩⟩)|(exact ⟨_,(true),vR_,H',⟨by first|omega|exact Nat.le_refl _⟩,⟨by (with_reducible repeat (first|apply Kd.S_alloc|apply Kd.S_drewN|apply Kd.S_drew));exact ah.out⟩,⟨by (with_reducible repeat (first|apply Kd.S_alloc|apply Kd.S_drewN|apply Kd.S_drew));exact az.out⟩,⟨wO_ ak.out⟩,⟨wC_ aa.out⟩,⟨wC_ ab.out⟩,⟨wB_⟩⟩)
  case rest =>
   clear bl;obtain ⟨kq,aK,rfl,HA,bb,af,ac,ad,aa,ab,HB⟩ := hcut
   cases kq with
   | zero => exact absurd HA.out (by simp [Fac.j0])
   | succ bc =>
    have H := HA.out;clear HA;simp only [Fac.j0] at H
    by_cases ch : aK = true
    ·subst ch;rw [if_pos rfl] at H;exact absurd ((oI H).trans hr_) (by decide)
    ·replace ch := qO.mpr ch;subst ch;rw [if_neg qT] at H;obtain ⟨bo,cO,H⟩ := bE_ H;obtain ⟨cw,cP,H⟩ := bE_ H
     by_cases ci : cw = true
     ·subst ci;rw [if_pos rfl] at H;obtain ⟨bX,cQ,H⟩ := bE_ H;have bp := aM H;clear H;(try go_wp2);replace af := aM (Kd.S_drew af.out);replace ac := aM (Kd.S_drew ac.out);replace ad := aM (rD ad.out);replace aa := aM (bD aa.out);replace ab := aM (bD ab.out);replace HB := aM (lD HB.out);refine start_ (n := 5) (S := fun w' => w'.cell? ⟨ay,0,none⟩ = some (.slice aA ag.length aw) ∧ w'.cell? ⟨ax,0,none⟩ = some (.slice al ae.length am)) (ds := []) (mk_ 5 0) (by kernel_rfl) rfl (by kernel_rfl) ⟨(bC ab.out 0).trans rfl,(bC aa.out 0).trans rfl⟩ (fun hHeld => ?_);generalize wc.drew = w40 at af ac ad aa ab HB hHeld ⊢;refine take_ (i := 0) (N := some 41) (v := ?_) (a' := ?_) (mk_ 5 1) rfl rfl (by kernel_rfl) (fun _ _ _ h => h) (Or.inl ⟨by rfl,?_⟩) hHeld ?_ ?_;rotate_left;rintro w' ⟨s0,s1⟩;go_simp;(with_reducible rfl);rotate_left;simp only [Act.put,lI,sZ,sS,i64_w,i32_w];rfl;refine take_ (i := 1) (N := some 42) (v := ?_) (a' := ?_) (mk_ 5 3) rfl rfl (by kernel_rfl) (fun _ _ _ h => h) (Or.inl ⟨by rfl,?_⟩) hHeld ?_ ?_;rotate_left;rintro w' ⟨s0,s1⟩;go_simp;(with_reducible rfl);rotate_left;simp only [Act.put,lI,sZ,sS,i64_w,i32_w];rfl;refine one_ (i := 2) (N := some 43) (mk_ 5 7) rfl rfl (by kernel_rfl) (by decide) (fun K hK => ?_);refine gs_ Tryz.func19 #[.agg #[.slice al ae.length am]] ?_;(with_reducible refine (Fbc.calls bc _ _ ae bo _ ?side1 ?side2 cO.out).mono ?_);(case side1 => exact wX_ aD.out);(case side2 => exact aE.out);rintro e w41 ⟨v615,rfl,aP,hb⟩;refine ⟨_,rfl,?_⟩;have aH := aM (Kd.R_lower (Kd.R_new' aP (Kd.R_lt (wO_ ad.out))) (lZ wB_));replace af := aM (Kd.S_below (wS_ af.out) hb);replace ac := aM (Kd.S_below (wS_ ac.out) hb);replace ad := aM (Kd.R_elder' (wO_ ad.out) (Kd.R_base aP) hb);replace aa := aM (bw_ aa.out hb);replace ab := aM (bw_ ab.out hb);replace HB := aM (lT wB_ hb);obtain ⟨cx,cy,bY⟩ := Kd.R_slice aH.out;(first|subst bY|(injection bY with cI cR cJ;have cS := cI.symm;have cT := cJ.symm;clear cI cR cJ;subst cS;subst cT));refine hK.out _ _ ⟨(bC ab.out 0).trans rfl,(bC aa.out 0).trans rfl⟩ (fun hHeld => ?_);clear hK K;refine norm_ (a' := ?_) ?_ ?_;rotate_left;show Act.put _ (some 43) _ = _;simp only [Act.put,lI,sZ,sS,i64_w,i32_w];rfl;refine one_ (i := 3) (N := some 44) (mk_ 5 15) rfl rfl (by kernel_rfl) (by decide) (fun K hK => ?_);refine gs_ Tryz.func22 #[.agg #[.slice aA ag.length aw],.agg #[.slice cx bo.length cy]] ?_;(with_reducible refine (Fbv.calls bc _ _ ag _ _ bo true _ ?side1 ?side2 ?side3 ?side4 cP.out).mono ?_);(case side1 => exact wY_ (rR ad.out).2.2);(case side2 => exact (rR ad.out).2.1);(case side3 => exact wY_ (rR aH.out).2.2);(case side4 => exact (rR aH.out).2.1);rintro e w43 ⟨rfl,hb⟩;refine ⟨_,rfl,?_⟩;replace af := aM (Kd.S_below (wS_ af.out) hb);replace ac := aM (Kd.S_below (wS_ ac.out) hb);replace ad := aM (rB (wO_ ad.out) hb);replace aH := aM (rB (wO_ aH.out) hb);replace aa := aM (bw_ aa.out hb);replace ab := aM (bw_ ab.out hb);replace HB := aM (lT wB_ hb);refine hK.out _ _ ⟨(bC ab.out 0).trans rfl,(bC aa.out 0).trans rfl⟩ (fun hHeld => ?_);clear hK K;refine norm_ (a' := ?_) ?_ ?_;rotate_left;show Act.put _ (some 44) _ = _;simp only [Act.put,lI,sZ,sS,i64_w,i32_w];rfl;refine pure_ (i := 4) (N := some 45) (v := ?_) (a' := ?_) (mk_ 5 31) rfl rfl (by kernel_rfl) (fun _ _ _ h => h) (Or.inl ⟨by rfl,?_⟩) ?_ ?_;rotate_left;intro w';go_simp;(with_reducible rfl);rotate_left;simp only [Act.put,lI,sZ,sS,i64_w,i32_w];rfl;refine done_ (by kernel_rfl) ?_;have hnb44 := aG.out;have hnc44 := av.out;obtain ⟨_,_⟩ := z1_ ab.out;go_upto_region 14 with (first|((with_reducible refine gate_callee (f := 24) rfl ?_);refine gl_ (some 48) Tryz.func24 #[.agg #[.slice aA ag.length aw],.int .i64 1] ?_;(with_reducible refine (Fbq.calls bc (fun k_ => bE ≤ k_ ∧ k_ < ba) (.slice aA ag.length aw) ag 1 bX w _ ?side1 ?side2 cQ.out).mono ?_);(case side1 => repeat (first|(with_reducible first|exact HB.out|apply lA|apply lN|apply lD|refine lS ?_ a0.out|refine lS ?_ bO.out)|exact HB.out));(case side2 => exact Kd.R_lower (Kd.R_mono (ok' := fun k_ => bE ≤ k_ ∧ k_ < ba) (Kd.R_bound ad.out) (fun k_ h_ => ⟨h_.2.1,by first|exact h_.1.2|exact h_.1.1.2⟩)) ct.out);rintro e w46 ⟨rfl,hb,hkp⟩;refine ⟨_,rfl,?_⟩;have a3 := aM (Kd.S_mono (Kd.S_keptB af.out hkp (fun k_ hk_ hs_ => absurd hk_.1 (Nat.not_lt.2 hs_.1.1))) (fun k_ hk_ => hk_.1));have a4 := aM (Kd.S_mono (ok' := fun _ => True) (Kd.S_keptB (Kd.S_mono (ok' := fun k_ => ba ≤ k_) (Kd.S_bound ac.out) (fun k_ h_ => h_.2.1)) hkp (fun k_ hk_ hs_ => absurd hs_.1.2 (Nat.not_lt.2 hk_))) (fun _ _ => trivial));have bh := aM (blk_keptT (wC_ aa.out) hkp rfl);have a5 := aM (blk_keptT (wC_ ab.out) hkp rfl);have bj := aM (hb);clear af;clear ac;clear aa;clear ab;clear aH;clear HB;clear ad;have af := a3;have ac := a4;have aa := bh;have ab := a5;have HB := bj;clear a3 a4 bh a5 bj));(try simp only [Act.put,lI,sZ,sS]);go_cut [61] (fun cU wc => ∃ (kq : Nat) (aL : Bool),cU = .bool aL ∧ Aside0 (Fac.j1 kq an ap ao aL ae = some r) ∧ Aside0 (kq ≤ bc) ∧ Aside0 (Kd.S k90 90 wc w.heap.size (fun k_ => k_ < bE ∧ k_ < ba) bK an) ∧ Aside0 (Kd.S k90 90 wc ba (fun _ => True) bP ao) ∧ Aside0 (wc.heap[ax]? = some (.cells #[(.slice al ae.length am)] 48 (0,0))) ∧ Aside0 (Below w.heap.size w wc))
      case first =>
       have H := bp.out;clear bp
       by_cases bG : bX < 0
       focus
        rw [if_pos bG] at H;have aQ := dT bG;clear bG;(first|rw [aQ]|(simp only [i64_w,i32_w];rw [aQ])|skip);have H' := aM H;clear H
       rotate_left
       focus
        rw [if_neg bG] at H;have aQ := dF bG;clear bG;(first|rw [aQ]|(simp only [i64_w,i32_w];rw [aQ])|skip);obtain ⟨cz,cV,H⟩ := bE_ H
        by_cases cj : cz = true
        focus
         subst cj;rw [if_pos rfl] at H;have H' := aM H;clear H;obtain ⟨cC,cE,bq⟩ := Kd.S_slice ac.out;subst bq;obtain ⟨bd,be,aU⟩ := Kd.S_slice af.out;subst aU
        rotate_left
        focus
         replace cj := qO.mpr cj;subst cj;rw [if_neg qT] at H;have H' := aM H;clear H;obtain ⟨cC,cE,bq⟩ := Kd.S_slice ac.out;subst bq;obtain ⟨bd,be,aU⟩ := Kd.S_slice af.out;subst aU
       all_goals
        go_wp2_with (first|(go_at_call 40;(with_reducible refine (Fah.calls _ _ _ _ _ _ _ _ _ ?side1 ?side2 ?side3 ?side4 cV.out).mono ?_);(case side1 => repeat (first|exact (Kd.S_reads' ac.out).2.2|(with_reducible first|refine cA ?_ _|refine cN ?_ _|refine cD ?_)));(case side2 => exact (Kd.S_reads' ac.out).2.1);(case side3 => repeat (first|exact (Kd.S_reads' af.out).2.2|(with_reducible first|refine cA ?_ _|refine cN ?_ _|refine cD ?_)));(case side4 => exact (Kd.S_reads' af.out).2.1);rintro e WA48 ⟨rfl,hb⟩;have a3 := aM (Kd.S_below (wS_ af.out) hb);have a4 := aM (Kd.S_below (wS_ ac.out) hb);have a5 := aM (bw_ aa.out hb);have bi := aM (bw_ ab.out hb);have bj := aM (lT wB_ hb);clear af;clear ac;clear aa;clear ab;clear HB;have af := a3;have ac := a4;have aa := a5;have ab := bi;have HB := bj;clear a3 a4 a5 bi bj));go_meet
        case rel => first|(exact ⟨_,(true),vR_,H',⟨by have := bb.out;first|omega|exact Nat.le_refl _⟩,⟨by (with_reducible repeat (first|apply Kd.S_alloc|apply Kd.S_drewN|apply Kd.S_drew));exact af.out⟩,⟨by (with_reducible repeat (first|apply Kd.S_alloc|apply Kd.S_drewN|apply Kd.S_drew));exact ac.out⟩,⟨wC_ aa.out⟩,⟨wB_⟩⟩)|(exact ⟨_,((aT != ap)),vR_,H',⟨by have := bb.out;first|omega|exact Nat.le_refl _⟩,⟨by (with_reducible repeat (first|apply Kd.S_alloc|apply Kd.S_drewN|apply Kd.S_drew));exact af.out⟩,⟨by (with_reducible repeat (first|apply Kd.S_alloc|apply Kd.S_drewN|apply Kd.S_drew));exact ac.out⟩,⟨wC_ aa.out⟩,⟨wB_⟩⟩)
      case rest =>
       clear bp;obtain ⟨kq,aL,rfl,HA,bZ,af,ac,aa,HB⟩ := hcut
       cases kq with
       | zero => exact absurd HA.out (by simp [Fac.j1])
       | succ ar =>
        have H := HA.out;clear HA;simp only [Fac.j1] at H
        by_cases ck : aL = true
        ·subst ck;rw [if_pos rfl] at H;exact absurd ((oI H).trans hr_) (by decide)
        ·replace ck := qO.mpr ck;subst ck;rw [if_neg qT] at H;replace H := oB.mp H;obtain ⟨⟨aN,au⟩,b2,H⟩ := H;replace H : ((Faj.f ar au 1).bind fun aW => (if aW < 0 then (some false) else (if aW = aN then ((Fbc.f ar ae).bind fun a6 => ((Fam.f ar a6).bind fun bk => ((Fah.f ar bk.1 an).bind fun a7 => (if a7 = true then (Fac.j2 ar au aN (bk.2 != ap)) else (Fac.j2 ar au aN true))))) else (some false)))) = some r := H;have cW := aM b2;clear b2;obtain ⟨aW,cX,H⟩ := bE_ H
         by_cases bH : aW < 0
         ·rw [if_pos bH] at H;have b3 := dT bH;clear bH;exact absurd ((oI H).trans hr_) (by decide)
         ·rw [if_neg bH] at H;have b3 := dF bH;clear bH
          by_cases br : aW = aN
          ·rw [if_pos br] at H;have b4 := qE.mpr br;have b5 := qN.mpr br;clear br;obtain ⟨a6,cY,H⟩ := bE_ H;replace H := oB.mp H;obtain ⟨⟨bs,bu⟩,b6,H⟩ := H;replace H : ((Fah.f ar bs an).bind fun a7 => (if a7 = true then (Fac.j2 ar au aN (bu != ap)) else (Fac.j2 ar au aN true))) = some r := H;have cZ := aM b6;clear b6;have bv := aM H;clear H;obtain ⟨a8,a9,cF⟩ := Kd.S_slice ac.out;subst cF;go_upto_region 25 with (first|((with_reducible refine gate_callee (f := 41) rfl ?_);refine gl_ (some 64) Tryz.func41 #[.slice a8 ao.length a9,.int .i64 1] ?_;(with_reducible refine (Faz.calls ar (fun k_ => ba ≤ k_) (.slice a8 ao.length a9) ao 1 aN au w _ ?side1 ?side2 cW.out).mono ?_);(case side1 => repeat (first|(with_reducible first|exact HB.out|apply lA|apply lN|apply lD|refine lS ?_ a0.out)|exact HB.out));(case side2 => exact Kd.S_lower (Kd.S_mono (ok' := fun k_ => ba ≤ k_) (Kd.S_bound ac.out) (fun k_ h_ => h_.2.1)) cv.out);rintro e w65 ⟨rfl,da,hb,hkp⟩;refine ⟨_,rfl,?_⟩;replace af := aM (Kd.S_mono (Kd.S_keptB af.out hkp (fun k_ hk_ hs_ => absurd hk_.2 (Nat.not_lt.2 hs_.1))) (fun k_ hk_ => hk_.1));replace ac := aM (Kd.S_mono (ok' := fun _ => True) da (fun _ _ => trivial));replace aa := aM (blk_keptT (wC_ aa.out) hkp rfl);replace HB := aM (hb))|((with_reducible refine gate_callee (f := 42) rfl ?_);refine goesL_ (some 67) rfl rfl Tryz.func42 (by kernel_rfl) rfl #[.slice a8 au.length a9,.int .i64 1] rfl (by (try simp only [mT,mC,mN]);first|done|(rw [show au.length = ao.length from (Kd.S_reads' ac.out).1.symm] <;> rfl)|rfl|(simp only [xD,xT];rfl)) ?_;(with_reducible refine (Faj.calls ar _ _ au 1 aW _ ?side1 ?side2 cX.out).mono ?_);(case side1 => repeat (first|exact (Kd.S_reads' ac.out).2.2|(with_reducible first|refine cA ?_ _|refine cN ?_ _|refine cD ?_)));(case side2 => rw [show au.length = ao.length from (Kd.S_reads' ac.out).1.symm];exact (Kd.S_reads' ac.out).2.1);rintro e w66 ⟨rfl,hb⟩;refine ⟨_,rfl,?_⟩;replace af := aM (Kd.S_below (wS_ af.out) hb);replace ac := aM (Kd.S_below (wS_ ac.out) hb);replace aa := aM (bw_ aa.out hb);replace HB := aM (lT wB_ hb);obtain ⟨_,_⟩ := z1_ aa.out)|((with_reducible refine gate_callee (f := 19) rfl ?_);refine gl_ (some 75) Tryz.func19 #[.agg #[.slice al ae.length am]] ?_;(with_reducible refine (Fbc.calls ar _ _ ae a6 _ ?side1 ?side2 cY.out).mono ?_);(case side1 => exact wX_ aD.out);(case side2 => exact aE.out);rintro e w68 ⟨v624,rfl,aP,hb⟩;refine ⟨_,rfl,?_⟩;have aC := aM (Kd.R_lower aP (lZ wB_));replace af := aM (Kd.S_below (wS_ af.out) hb);replace ac := aM (Kd.S_below (wS_ ac.out) hb);replace aa := aM (bw_ aa.out hb);replace HB := aM (lT wB_ hb);obtain ⟨b7,b8,b9⟩ := Kd.R_slice aC.out;subst b9)|((with_reducible refine gate_callee (f := 39) rfl ?_);refine gl_ (some 76) Tryz.func39 #[.agg #[.slice b7 a6.length b8]] ?_;(with_reducible refine (Fam.calls ar _ _ a6 bs bu _ ?side1 ?side2 ?side3 cZ.out).mono ?_);(case side1 => exact wY_ (rR aC.out).2.2);(case side2 => exact (rR aC.out).2.1);(case side3 => exact Gfb.below HG.out wB_);rintro e w70 ⟨v627,rfl,aP,hb⟩;refine ⟨_,rfl,?_⟩;have aJ := aM (Kd.S_lower (Kd.S_new' (Kd.S_new' aP (Kd.S_lt (wS_ af.out))) (Kd.S_lt (wS_ ac.out))) (lZ wB_));replace af := aM (Kd.S_elder' (wS_ af.out) (Kd.S_base aP) hb);replace ac := aM (Kd.S_elder' (wS_ ac.out) (Kd.S_base aP) hb);replace aC := aM (rB (wO_ aC.out) hb);replace aa := aM (bw_ aa.out hb);replace HB := aM (lT wB_ hb)));(try simp only [Act.put,lI,sZ,sS]);go_cut [87] (fun db wc => ∃ (kq : Nat) (aO : Bool),db = .bool aO ∧ Aside0 (Fac.j2 kq au aN aO = some r) ∧ Aside0 (kq ≤ ar) ∧ Aside0 (Kd.S k90 90 wc w.heap.size (fun _ => True) (.slice a8 ao.length a9) au) ∧ Aside0 (wc.heap[ax]? = some (.cells #[(.slice al ae.length am)] 48 (0,0))) ∧ Aside0 (Below w.heap.size w wc))
           case first =>
            have H := bv.out;clear bv;obtain ⟨a7,dc,H⟩ := bE_ H
            by_cases cm : a7 = true
            focus
             subst cm;rw [if_pos rfl] at H;have H' := aM H;clear H;obtain ⟨ca,cb,bw⟩ := Kd.S_slice aJ.out;subst bw;obtain ⟨bd,be,aU⟩ := Kd.S_slice af.out;subst aU
            rotate_left
            focus
             replace cm := qO.mpr cm;subst cm;rw [if_neg qT] at H;have H' := aM H;clear H;obtain ⟨ca,cb,bw⟩ := Kd.S_slice aJ.out;subst bw;obtain ⟨bd,be,aU⟩ := Kd.S_slice af.out;subst aU
            all_goals
             go_wp2_with (first|((with_reducible refine gate_callee (f := 40) rfl ?_);refine gl_ (some 81) Tryz.func40 #[.slice ca bs.length cb,.slice bd an.length be] ?_;(with_reducible refine (Fah.calls _ _ _ _ _ _ _ _ _ ?side1 ?side2 ?side3 ?side4 dc.out).mono ?_);(case side1 => repeat (first|exact (Kd.S_reads' aJ.out).2.2|(with_reducible first|refine cA ?_ _|refine cN ?_ _|refine cD ?_)));(case side2 => exact (Kd.S_reads' aJ.out).2.1);(case side3 => repeat (first|exact (Kd.S_reads' af.out).2.2|(with_reducible first|refine cA ?_ _|refine cN ?_ _|refine cD ?_)));(case side4 => exact (Kd.S_reads' af.out).2.1);rintro e WA71 ⟨rfl,hb⟩;refine ⟨_,rfl,?_⟩;replace af := aM (Kd.S_below (wS_ af.out) hb);replace ac := aM (Kd.S_below (wS_ ac.out) hb);replace aC := aM (rB (wO_ aC.out) hb);replace aJ := aM (Kd.S_below (wS_ aJ.out) hb);replace aa := aM (bw_ aa.out hb);replace HB := aM (lT wB_ hb)));go_meet
             case rel => first|(exact ⟨_,((bu != ap)),vR_,H',⟨by have := bb.out;have := bZ.out;first|omega|exact Nat.le_refl _⟩,⟨by (with_reducible repeat (first|apply Kd.S_alloc|apply Kd.S_drewN|apply Kd.S_drew));exact Kd.S_mono ac.out (fun _ hk => trivial)⟩,⟨wC_ aa.out⟩,⟨wB_⟩⟩)|(exact ⟨_,(true),vR_,H',⟨by have := bb.out;have := bZ.out;first|omega|exact Nat.le_refl _⟩,⟨by (with_reducible repeat (first|apply Kd.S_alloc|apply Kd.S_drewN|apply Kd.S_drew));exact Kd.S_mono ac.out (fun _ hk => trivial)⟩,⟨wC_ aa.out⟩,⟨wB_⟩⟩)
           case rest =>
            clear bv;obtain ⟨kq,aO,rfl,HA,HJ62,ac,aa,HB⟩ := hcut;have aV := (Kd.S_reads' ac.out).1;rw [aV] at ac;(try simp only [aV]);(try simp only [aV] at aa)
            cases kq with
            | zero => exact absurd HA.out (by simp [Fac.j2])
            | succ cG =>
             have H := HA.out;clear HA;simp only [Fac.j2] at H
             by_cases cn : aO = true
             ·subst cn;rw [if_pos rfl] at H;exact absurd ((oI H).trans hr_) (by decide)
             ·replace cn := qO.mpr cn;subst cn;rw [if_neg qT] at H;obtain ⟨bz,cf,H⟩ := bE_ H
              by_cases bI : bz < 0
              ·rw [if_pos bI] at H;have cc := dT bI;clear bI;exact absurd ((oI H).trans hr_) (by decide)
              ·rw [if_neg bI] at H;have cc := dF bI;clear bI
               by_cases bB : bz = aN
               ·rw [if_pos bB] at H;have cd := qE.mpr bB;have ce := qN.mpr bB;clear bB;obtain rfl := oI H;go_wp2_with (first|((with_reducible refine gate_callee (f := 42) rfl ?_);refine gl_ (some 90) Tryz.func42 #[.slice a8 au.length a9,.int .i64 1] ?_;(with_reducible refine (Faj.calls cG _ _ au 1 bz _ ?side1 ?side2 cf.out).mono ?_);(case side1 => repeat (first|exact (Kd.S_reads' ac.out).2.2|(with_reducible first|refine cA ?_ _|refine cN ?_ _|refine cD ?_)));(case side2 => exact (Kd.S_reads' ac.out).2.1);rintro e w83 ⟨rfl,hb⟩;refine ⟨_,rfl,?_⟩;replace ac := aM (Kd.S_below (wS_ ac.out) hb);replace aa := aM (bw_ aa.out hb);replace HB := aM (lT wB_ hb)));go_ret;exact ⟨vR_,wB_⟩
               ·rw [if_neg bB] at H;have cd := qF.mpr bB;have ce := qB.mpr bB;exact absurd ((oI H).trans hr_) (by decide)
          ·rw [if_neg br] at H;have b4 := qF.mpr br;have b5 := qB.mpr br;exact absurd ((oI H).trans hr_) (by decide)
     ·replace ci := qO.mpr ci;subst ci;rw [if_neg qT] at H;exact absurd ((oI H).trans hr_) (by decide)
def Fac.Pure : Prop := ∀ (a0 : S48),(B48 a0) → ∃ k,Fac.f k a0.f0 = some true
end Go.Proofs.YtmafmhgmdegplaaGreatDoor.P
