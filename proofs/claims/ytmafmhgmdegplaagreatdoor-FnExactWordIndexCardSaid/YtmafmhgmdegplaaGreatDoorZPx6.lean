/- Walks: each Go function computes the Lean function beside it; conditions: those of each theorem. -/
import Derived.Test.YtmafmhgmdegplaaGreatDoorZPx0
import Derived.Test.YtmafmhgmdegplaaGreatDoorZPx4
namespace Go.Proofs.YtmafmhgmdegplaaGreatDoor.P
open Go.RowKit Go.Proofs.YtmafmhgmdegplaaGreatDoorW.PrintWords Go.Proofs.YtmafmhgmdegplaaGreatDoorW.PrintLast Go.Proofs.YtmafmhgmdegplaaGreatDoorW.PrintMore
attribute [local go_sem] max2_int min2_int max_two min_two max_three min_three max_four min_four   -- for this text's walks alone
set_option linter.unusedVariables false
set_option linter.unusedSimpArgs false
set_option maxHeartbeats 8000000
set_option maxRecDepth 100000
def mkS.l0 : Nat → Nat → Int → Int → Option Int
 | 0,_,_,_ => none
 | k + 1,n,m,i => if i < (n : Int) then ((Fag.f k m).bind fun _ => if 0 ≤ i then mkS.l0 k n (wrap64 (m + 1)) (wrap64 (i + 1)) else none) else some m
theorem mkS_at {w : World} {base g n c : Nat} {P0 : Nat → Prop} {xs : List Unit} (h : aS.R 9 w base P0 (.slice (some ⟨g,0,none⟩) n c) xs) (i : Int) (h0 : 0 ≤ i) (h1 : i < n) : ∃ s : ByteArray,w.cell? ⟨g,i.toNat,none⟩ = some (.string s) ∧ w.frozen? ⟨g,i.toNat,none⟩ = false := by
 obtain ⟨cs,_,hM,hc,hf⟩ := Kd.R_elem h () i h0 h1;obtain ⟨v,rfl,s,rfl⟩ := hM;have h2 := hc 0 _ rfl;have h3 := hf 0;have e : i.toNat * aS.sz + 0 = i.toNat := Nat.mul_one _;rw [e] at h2 h3;exact ⟨s,h2,h3⟩
theorem mkS_calls (k : Nat) (aa : Nat → Prop) (A : Option Addr) (c : Nat) (l0 : List Unit) (a1 r1 : Int) (base : Nat) (w : World) (hb0 : base ≤ w.heap.size) (ho : aS.R 9 w base aa (.slice A l0.length c) l0) (h : mkS.l0 k l0.length a1 0 = some r1) :
  Calls Tryz.prog 25 #[.slice A l0.length c,.int .i64 a1] w fun e w' => e = .returned (.int .i64 r1) ∧ Marked base aa w w' := by
 have HO := aM ho;have HW0 := aM hb0;have HM := aM (Marked.refl base aa w);clear ho;have H' := aM h;clear h;go_enter Tryz.func25,Tryz.ntmps25;go_wp2;go_loopg [1,5] k (fun kq v1 v5 w' => ∃ (x1 : Int) (x5 : Int),v1 = .int .i64 x1 ∧ v5 = .int .i64 x5 ∧ Aside0 (mkS.l0 kq l0.length x1 x5 = some r1) ∧ Aside0 (kq ≤ k) ∧ Aside0 (Marked base aa w w'))
 case atStart => exact ⟨a1,0,rfl,rfl,H',⟨Nat.le_refl _⟩,HM⟩
 case round =>
  clear H' HM;obtain ⟨x1,x5,rfl,rfl,HA,ac,HM⟩ := hrel
  cases gk with
  | zero => exact absurd HA.out (by simp [mkS.l0])
  | succ k1 =>
   have H := HA.out;clear HA;simp only [mkS.l0] at H
   by_cases c3 : x5 < (l0.length : Int)
   ·rw [if_pos c3] at H;have ab := dT c3;obtain ⟨t,A4,H⟩ := oB.mp H;have A4 := aM A4
    by_cases c5 : 0 ≤ x5
    ·rw [if_pos c5] at H;have c5b0 := dT c5;have H' := aM H;clear H;obtain ⟨g,cg,eg,gb,gl,cl,hg⟩ := Kd.R_form HO.out (by omega);injection eg with ea _ ec;subst ea ec;have PG := aM (HO.out.1 g rfl);have GB := aM gb;clear gl cl hg gb;have p6 := c5;have q6 := c3;clear c3 c5;go_wp2_with (first|((with_reducible refine gate_callee (f := 77) rfl ?_);refine gl_ (some 15) Tryz.func77 #[.int .i64 x1] ?_;(with_reducible refine (Fag.calls k1 x1 t _ A4.out).mono ?_);rintro e w8 ⟨rfl,hb⟩;refine ⟨_,rfl,?_⟩;replace HM := aM (HM.out.step hb (Nat.le_trans HW0.out HM.out.le));obtain ⟨s6,ad,hf6⟩ := mkS_at (rigid_R rigid_S HM.out.al HO.out) x5 p6 q6;replace p6 := eq_true p6;replace q6 := eq_true q6)|((with_reducible refine gate_store (t := 9) (p := 16) rfl ?_);refine store_event (t := 9) (p := 16) (v := ?vo_w10) (w1 := (w8.setCell ⟨g,(x5 : Int).toNat,none⟩ (.string t))) ?hg ?ho ?hn ?hr ?_;(case ho => rfl);(case hg => rfl);(case hn => rfl);(case hr => first|(go_simp;done)|(go_simp;rfl));intro ae hw;replace HM : Aside0 (Marked base aa w ae) := ⟨by rw [hw];exact HM.out.set ad (VA.str _ _) PG.out GB.out⟩;clear hw));go_roundg k1
     case measure => have := ac.out;omega
     case rel => exact ⟨(wrap64 (x1 + 1)),(wrap64 (x5 + 1)),vR_,vR_,H',⟨by have := ac.out;omega⟩,HM⟩
    ·rw [if_neg c5] at H;exact nH_ H
   ·rw [if_neg c3] at H;have ab := dF c3;clear c3;obtain rfl := oI H;go_wp2;go_ret;exact ⟨rfl,HM.out⟩
def zN : (List Unit × Unit × Unit × Unit) := ([],(),(),())
def nN : Kd (List Unit × Unit × Unit × Unit) := Kd.pair (Kd.slice 9 aS) (Kd.pair aS (Kd.pair aS aS))
theorem rigid_N : Rigid nN := rigid_pair (rigid_slice 9 rigid_S) (rigid_pair rigid_S (rigid_pair rigid_S rigid_S))
theorem mkN_at {w : World} {base g n c : Nat} {P0 : Nat → Prop} {xs : List (List Unit × Unit × Unit × Unit)} (h : nN.R 157 w base P0 (.slice (some ⟨g,0,none⟩) n c) xs) (i : Int) (h0 : 0 ≤ i) (h1 : i < n) : ∃ (A0 : Option Addr) (c0 : Nat) (v1 : ByteArray) (v2 : ByteArray) (v3 : ByteArray),w.cell? ⟨g,i.toNat * 4,none⟩ = some (.slice A0 (mAt zN xs i).1.length c0) ∧ w.frozen? ⟨g,i.toNat * 4,none⟩ = false ∧ w.cell? ⟨g,i.toNat * 4 + 1,none⟩ = some (.string v1) ∧ w.frozen? ⟨g,i.toNat * 4 + 1,none⟩ = false ∧ w.cell? ⟨g,i.toNat * 4 + 2,none⟩ = some (.string v2) ∧ w.frozen? ⟨g,i.toNat * 4 + 2,none⟩ = false ∧ w.cell? ⟨g,i.toNat * 4 + 3,none⟩ = some (.string v3) ∧ w.frozen? ⟨g,i.toNat * 4 + 3,none⟩ = false ∧ aS.R 9 w base (fun k => P0 k ∧ k ≠ g) (.slice A0 (mAt zN xs i).1.length c0) (mAt zN xs i).1 := by
 obtain ⟨cs,_,hM,hc,hf⟩ := Kd.R_elem h zN i h0 h1;obtain ⟨_,_,rfl,⟨u0,rfl,g0⟩,⟨_,_,rfl,⟨_,rfl,v1,rfl⟩,⟨_,_,rfl,⟨_,rfl,v2,rfl⟩,⟨_,rfl,v3,rfl⟩⟩⟩⟩ := hM;obtain ⟨A0,c0,rfl⟩ := Kd.R_slice g0;exact ⟨_,_,_,_,_,hc 0 _ rfl,hf 0,hc 1 _ rfl,hf 1,hc 2 _ rfl,hf 2,hc 3 _ rfl,hf 3,g0⟩
def mkN.l0 : Nat → List (List Unit × Unit × Unit × Unit) → Int → Int → Option Int
 | 0,_,_,_ => none
 | k + 1,xs,x1,i => if i < (xs.length : Int) then (if 0 ≤ i then ((mkS.l0 k (mAt zN xs i).1.length x1 0).bind fun m0 => (Fag.f k m0).bind fun _ => (Fag.f k (wrap64 (m0 + 1))).bind fun _ => (Fag.f k (wrap64 ((wrap64 (m0 + 1)) + 1))).bind fun _ => mkN.l0 k xs (wrap64 ((wrap64 ((wrap64 (m0 + 1)) + 1)) + 1)) (wrap64 (i + 1))) else none) else some x1
theorem mkN_calls (k : Nat) (aa : Nat → Prop) (A : Option Addr) (c : Nat) (l0 : List (List Unit × Unit × Unit × Unit)) (a1 r1 : Int) (base : Nat) (w : World) (hb0 : base ≤ w.heap.size) (ho : nN.R 157 w base aa (.slice A l0.length c) l0) (h : mkN.l0 k l0 a1 0 = some r1):
  Calls Tryz.prog 133 #[.slice A l0.length c,.int .i64 a1] w fun e w' => e = .returned (.int .i64 r1) ∧ Marked base aa w w' := by
 have HO := aM ho;have HW0 := aM hb0;have HM := aM (Marked.refl base aa w);clear ho;have H' := aM h;clear h;go_enter Tryz.func133,Tryz.ntmps133;go_wp2;go_loopg [1,5] k (fun kq v1 v5 w' => ∃ (x1 : Int) (x5 : Int),v1 = .int .i64 x1 ∧ v5 = .int .i64 x5 ∧ Aside0 (mkN.l0 kq l0 x1 x5 = some r1) ∧ Aside0 (kq ≤ k) ∧ Aside0 (Marked base aa w w'))
 case atStart => exact ⟨a1,0,rfl,rfl,H',⟨Nat.le_refl _⟩,HM⟩
 case round =>
  clear H' HM;obtain ⟨x1,x5,rfl,rfl,HA,ad,HM⟩ := hrel
  cases gk with
  | zero => exact absurd HA.out (by simp [mkN.l0])
  | succ k1 =>
   have H := HA.out;clear HA;simp only [mkN.l0] at H
   by_cases c3 : x5 < (l0.length : Int)
   ·rw [if_pos c3] at H;have ab := dT c3
    by_cases c5 : 0 ≤ x5
    ·rw [if_pos c5] at H;have c5b0 := dT c5;obtain ⟨m0,B0,H⟩ := oB.mp H;have B0 := aM B0;obtain ⟨t1,B1,H⟩ := oB.mp H;have B1 := aM B1;obtain ⟨t2,B2,H⟩ := oB.mp H;have B2 := aM B2;obtain ⟨t3,B3,H⟩ := oB.mp H;have B3 := aM B3;have H' := aM H;clear H;obtain ⟨g,cg,eg,gb,gl,cl,hg⟩ := Kd.R_form HO.out (by omega);injection eg with ea _ ec;subst ea ec;have PG := aM (HO.out.1 g rfl);have GB := aM gb;clear gl cl hg gb;have P6 := aM c5;have Q6 := aM c3;replace c5 := eq_true c5;replace c3 := eq_true c3;obtain ⟨ae,af,_,_,_,hx0_,hf0_,-,-,-,-,-,-,ac⟩ := mkN_at (rigid_R rigid_N HM.out.al HO.out) x5 P6.out Q6.out;go_wp2_with (first|(go_at_call 25;(with_reducible refine (mkS_calls k1 (fun k => aa k ∧ k ≠ g) ae af (mAt zN l0 x5).1 x1 m0 base _ (Nat.le_trans HW0.out HM.out.le) ac B0.out).mono ?_);rintro e wz1 ⟨rfl,hm⟩;replace HM := aM (HM.out.trans (hm.mono (fun _ h_ => h_.1)));clear hm)|((with_reducible refine gate_callee (f := 77) rfl ?_);refine gl_ (some 22) Tryz.func77 #[.int .i64 m0] ?_;(with_reducible refine (Fag.calls k1 m0 t1 _ B1.out).mono ?_);rintro e wz2 ⟨rfl,hb⟩;refine ⟨_,rfl,?_⟩;replace HM := aM (HM.out.step hb (Nat.le_trans HW0.out HM.out.le));clear hb;obtain ⟨_,_,v1_,_,_,-,-,hx1_,hf1_,-,-,-,-,-⟩ := mkN_at (rigid_R rigid_N HM.out.al HO.out) x5 P6.out Q6.out)|((with_reducible refine gate_store (t := 9) (p := 24) rfl ?_);refine store_event (t := 9) (p := 24) (v := ?vo_wz3) (w1 := (wz2.setCell ⟨g,(x5 : Int).toNat * 4 + 1,none⟩ (.string t1))) ?hg ?ho ?hn ?hr ?_;(case ho => rfl);(case hg => rfl);(case hn => rfl);(case hr => first|(go_simp;done)|(go_simp;rfl));intro wz3 hw;replace HM : Aside0 (Marked base aa w wz3) := ⟨by rw [hw];exact HM.out.set hx1_ (VA.str _ _) PG.out GB.out⟩;clear hw)|((with_reducible refine gate_callee (f := 77) rfl ?_);refine gl_ (some 30) Tryz.func77 #[.int .i64 (wrap64 (m0 + 1))] ?_;(with_reducible refine (Fag.calls k1 (wrap64 (m0 + 1)) t2 _ B2.out).mono ?_);rintro e wz4 ⟨rfl,hb⟩;refine ⟨_,rfl,?_⟩;replace HM := aM (HM.out.step hb (Nat.le_trans HW0.out HM.out.le));clear hb;obtain ⟨_,_,_,v2_,_,-,-,-,-,hx2_,hf2_,-,-,-⟩ := mkN_at (rigid_R rigid_N HM.out.al HO.out) x5 P6.out Q6.out)|((with_reducible refine gate_store (t := 9) (p := 32) rfl ?_);refine store_event (t := 9) (p := 32) (v := ?vo_wz5) (w1 := (wz4.setCell ⟨g,(x5 : Int).toNat * 4 + 2,none⟩ (.string t2))) ?hg ?ho ?hn ?hr ?_;(case ho => rfl);(case hg => rfl);(case hn => rfl);(case hr => first|(go_simp;done)|(go_simp;rfl));intro wz5 hw;replace HM : Aside0 (Marked base aa w wz5) := ⟨by rw [hw];exact HM.out.set hx2_ (VA.str _ _) PG.out GB.out⟩;clear hw)|((with_reducible refine gate_callee (f := 77) rfl ?_);refine gl_ (some 38) Tryz.func77 #[.int .i64 (wrap64 ((wrap64 (m0 + 1)) + 1))] ?_;(with_reducible refine (Fag.calls k1 (wrap64 ((wrap64 (m0 + 1)) + 1)) t3 _ B3.out).mono ?_);rintro e wz6 ⟨rfl,hb⟩;refine ⟨_,rfl,?_⟩;replace HM := aM (HM.out.step hb (Nat.le_trans HW0.out HM.out.le));clear hb;obtain ⟨_,_,_,_,v3_,-,-,-,-,-,-,hx3_,hf3_,-⟩ := mkN_at (rigid_R rigid_N HM.out.al HO.out) x5 P6.out Q6.out)|((with_reducible refine gate_store (t := 9) (p := 40) rfl ?_);refine store_event (t := 9) (p := 40) (v := ?vo_wz7) (w1 := (wz6.setCell ⟨g,(x5 : Int).toNat * 4 + 3,none⟩ (.string t3))) ?hg ?ho ?hn ?hr ?_;(case ho => rfl);(case hg => rfl);(case hn => rfl);(case hr => first|(go_simp;done)|(go_simp;rfl));intro wz7 hw;replace HM : Aside0 (Marked base aa w wz7) := ⟨by rw [hw];exact HM.out.set hx3_ (VA.str _ _) PG.out GB.out⟩;clear hw));go_roundg k1
     case measure => have := ad.out;omega
     case rel => exact ⟨(wrap64 ((wrap64 ((wrap64 (m0 + 1)) + 1)) + 1)),(wrap64 (x5 + 1)),vR_,vR_,H',⟨by have := ad.out;omega⟩,HM⟩
    ·rw [if_neg c5] at H;exact nH_ H
   ·rw [if_neg c3] at H;have ab := dF c3;clear c3;obtain rfl := oI H;go_wp2;go_ret;exact ⟨rfl,HM.out⟩
def zE : (Unit × Unit × List (List Unit × Unit × Unit × Unit) × List (List Unit × Unit × Unit × Unit) × Unit × Unit × Unit × (Unit × Unit × Unit × Unit) × Unit × Unit × Unit) := ((),(),[],[],(),(),(),((),(),(),()),(),(),())
def nE : Kd (Unit × Unit × List (List Unit × Unit × Unit × Unit) × List (List Unit × Unit × Unit × Unit) × Unit × Unit × Unit × (Unit × Unit × Unit × Unit) × Unit × Unit × Unit) := Kd.pair aS (Kd.pair aI (Kd.pair (Kd.slice 157 nN) (Kd.pair (Kd.slice 157 nN) (Kd.pair aS (Kd.pair aS (Kd.pair aS (Kd.pair (Kd.pair aI (Kd.pair aI (Kd.pair aI aB))) (Kd.pair aI (Kd.pair aS aS)))))))))
theorem rigid_E : Rigid nE := rigid_pair rigid_S (rigid_pair rigid_I (rigid_pair (rigid_slice 157 rigid_N) (rigid_pair (rigid_slice 157 rigid_N) (rigid_pair rigid_S (rigid_pair rigid_S (rigid_pair rigid_S (rigid_pair (rigid_pair rigid_I (rigid_pair rigid_I (rigid_pair rigid_I rigid_B))) (rigid_pair rigid_I (rigid_pair rigid_S rigid_S)))))))))
theorem mkE_at {w : World} {base g n c : Nat} {P0 : Nat → Prop} {xs : List (Unit × Unit × List (List Unit × Unit × Unit × Unit) × List (List Unit × Unit × Unit × Unit) × Unit × Unit × Unit × (Unit × Unit × Unit × Unit) × Unit × Unit × Unit)} (h : nE.R 41 w base P0 (.slice (some ⟨g,0,none⟩) n c) xs) (i : Int) (h0 : 0 ≤ i) (h1 : i < n) : ∃ (v0 : ByteArray) (v1 : Int) (A2 : Option Addr) (c2 : Nat) (A3 : Option Addr) (c3 : Nat) (v4 : ByteArray) (v5 : ByteArray) (v6 : ByteArray) (v7 : Int) (v8 : Int) (v9 : Int) (aa : Bool) (ab : Int) (ac : ByteArray) (v13 : ByteArray),w.cell? ⟨g,i.toNat * 14,none⟩ = some (.string v0) ∧ w.frozen? ⟨g,i.toNat * 14,none⟩ = false ∧ w.cell? ⟨g,i.toNat * 14 + 1,none⟩ = some (.int .i64 v1) ∧ w.frozen? ⟨g,i.toNat * 14 + 1,none⟩ = false ∧ w.cell? ⟨g,i.toNat * 14 + 2,none⟩ = some (.slice A2 (mAt zE xs i).2.2.1.length c2) ∧ w.frozen? ⟨g,i.toNat * 14 + 2,none⟩ = false ∧ w.cell? ⟨g,i.toNat * 14 + 3,none⟩ = some (.slice A3 (mAt zE xs i).2.2.2.1.length c3) ∧ w.frozen? ⟨g,i.toNat * 14 + 3,none⟩ = false ∧ w.cell? ⟨g,i.toNat * 14 + 4,none⟩ = some (.string v4) ∧ w.frozen? ⟨g,i.toNat * 14 + 4,none⟩ = false ∧ w.cell? ⟨g,i.toNat * 14 + 5,none⟩ = some (.string v5) ∧ w.frozen? ⟨g,i.toNat * 14 + 5,none⟩ = false ∧ w.cell? ⟨g,i.toNat * 14 + 6,none⟩ = some (.string v6) ∧ w.frozen? ⟨g,i.toNat * 14 + 6,none⟩ = false ∧ w.cell? ⟨g,i.toNat * 14 + 7,none⟩ = some (.int .i64 v7) ∧ w.frozen? ⟨g,i.toNat * 14 + 7,none⟩ = false ∧ w.cell? ⟨g,i.toNat * 14 + 8,none⟩ = some (.int .i64 v8) ∧ w.frozen? ⟨g,i.toNat * 14 + 8,none⟩ = false ∧ w.cell? ⟨g,i.toNat * 14 + 9,none⟩ = some (.int .i64 v9) ∧ w.frozen? ⟨g,i.toNat * 14 + 9,none⟩ = false ∧ w.cell? ⟨g,i.toNat * 14 + 10,none⟩ = some (.bool aa) ∧ w.frozen? ⟨g,i.toNat * 14 + 10,none⟩ = false ∧ w.cell? ⟨g,i.toNat * 14 + 11,none⟩ = some (.int .i64 ab) ∧ w.frozen? ⟨g,i.toNat * 14 + 11,none⟩ = false ∧ w.cell? ⟨g,i.toNat * 14 + 12,none⟩ = some (.string ac) ∧ w.frozen? ⟨g,i.toNat * 14 + 12,none⟩ = false ∧ w.cell? ⟨g,i.toNat * 14 + 13,none⟩ = some (.string v13) ∧ w.frozen? ⟨g,i.toNat * 14 + 13,none⟩ = false ∧ nN.R 157 w base (fun k => P0 k ∧ k ≠ g) (.slice A2 (mAt zE xs i).2.2.1.length c2) (mAt zE xs i).2.2.1 ∧ nN.R 157 w base (fun k => P0 k ∧ k ≠ g) (.slice A3 (mAt zE xs i).2.2.2.1.length c3) (mAt zE xs i).2.2.2.1 := by
 obtain ⟨cs,_,hM,hc,hf⟩ := Kd.R_elem h zE i h0 h1;obtain ⟨_,_,rfl,⟨_,rfl,v0,rfl⟩,⟨_,_,rfl,⟨_,rfl,v1,rfl⟩,⟨_,_,rfl,⟨u2,rfl,g2⟩,⟨_,_,rfl,⟨u3,rfl,g3⟩,⟨_,_,rfl,⟨_,rfl,v4,rfl⟩,⟨_,_,rfl,⟨_,rfl,v5,rfl⟩,⟨_,_,rfl,⟨_,rfl,v6,rfl⟩,⟨_,_,rfl,⟨_,_,rfl,⟨_,rfl,v7,rfl⟩,⟨_,_,rfl,⟨_,rfl,v8,rfl⟩,⟨_,_,rfl,⟨_,rfl,v9,rfl⟩,⟨_,rfl,aa,rfl⟩⟩⟩⟩,⟨_,_,rfl,⟨_,rfl,ab,rfl⟩,⟨_,_,rfl,⟨_,rfl,ac,rfl⟩,⟨_,rfl,v13,rfl⟩⟩⟩⟩⟩⟩⟩⟩⟩⟩⟩ := hM;obtain ⟨A2,c2,rfl⟩ := Kd.R_slice g2;obtain ⟨A3,c3,rfl⟩ := Kd.R_slice g3;exact ⟨_,_,_,_,_,_,_,_,_,_,_,_,_,_,_,_,hc 0 _ rfl,hf 0,hc 1 _ rfl,hf 1,hc 2 _ rfl,hf 2,hc 3 _ rfl,hf 3,hc 4 _ rfl,hf 4,hc 5 _ rfl,hf 5,hc 6 _ rfl,hf 6,hc 7 _ rfl,hf 7,hc 8 _ rfl,hf 8,hc 9 _ rfl,hf 9,hc 10 _ rfl,hf 10,hc 11 _ rfl,hf 11,hc 12 _ rfl,hf 12,hc 13 _ rfl,hf 13,g2,g3⟩
def mkE.l0 : Nat → List (Unit × Unit × List (List Unit × Unit × Unit × Unit) × List (List Unit × Unit × Unit × Unit) × Unit × Unit × Unit × (Unit × Unit × Unit × Unit) × Unit × Unit × Unit) → Int → Int → Option Int
 | 0,_,_,_ => none
 | k + 1,xs,x1,i => if i < (xs.length : Int) then (if 0 ≤ i then ((Fag.f k x1).bind fun _ => (mkN.l0 k (mAt zE xs i).2.2.1 (wrap64 ((wrap64 (x1 + 1)) + 1)) 0).bind fun m2 => (mkN.l0 k (mAt zE xs i).2.2.2.1 m2 0).bind fun m3 => (Fag.f k m3).bind fun _ => (Fag.f k (wrap64 (m3 + 1))).bind fun _ => (Fag.f k (wrap64 ((wrap64 (m3 + 1)) + 1))).bind fun _ => (Fag.f k (wrap64 ((wrap64 ((wrap64 ((wrap64 ((wrap64 ((wrap64 ((wrap64 ((wrap64 (m3 + 1)) + 1)) + 1)) + 1)) + 1)) + 1)) + 1)) + 1))).bind fun _ => (Fag.f k (wrap64 ((wrap64 ((wrap64 ((wrap64 ((wrap64 ((wrap64 ((wrap64 ((wrap64 ((wrap64 (m3 + 1)) + 1)) + 1)) + 1)) + 1)) + 1)) + 1)) + 1)) + 1))).bind fun _ => mkE.l0 k xs (wrap64 ((wrap64 ((wrap64 ((wrap64 ((wrap64 ((wrap64 ((wrap64 ((wrap64 ((wrap64 ((wrap64 (m3 + 1)) + 1)) + 1)) + 1)) + 1)) + 1)) + 1)) + 1)) + 1)) + 1)) (wrap64 (i + 1))) else none) else some x1
theorem mkE_calls (k : Nat) (aa : Nat → Prop) (A : Option Addr) (c : Nat) (l0 : List (Unit × Unit × List (List Unit × Unit × Unit × Unit) × List (List Unit × Unit × Unit × Unit) × Unit × Unit × Unit × (Unit × Unit × Unit × Unit) × Unit × Unit × Unit)) (a1 r1 : Int) (base : Nat) (w : World) (hb0 : base ≤ w.heap.size) (ho : nE.R 41 w base aa (.slice A l0.length c) l0) (h : mkE.l0 k l0 a1 0 = some r1):
  Calls Tryz.prog 76 #[.slice A l0.length c,.int .i64 a1] w fun e w' => e = .returned (.int .i64 r1) ∧ Marked base aa w w' := by
 have HO := aM ho;have HW0 := aM hb0;have HM := aM (Marked.refl base aa w);clear ho;have H' := aM h;clear h;go_enter Tryz.func76,Tryz.ntmps76;go_wp2;go_loopg [1,5] k (fun kq v1 v5 w' => ∃ (x1 : Int) (x5 : Int),v1 = .int .i64 x1 ∧ v5 = .int .i64 x5 ∧ Aside0 (mkE.l0 kq l0 x1 x5 = some r1) ∧ Aside0 (kq ≤ k) ∧ Aside0 (Marked base aa w w'))
 case atStart => exact ⟨a1,0,rfl,rfl,H',⟨Nat.le_refl _⟩,HM⟩
 case round =>
  clear H' HM;obtain ⟨x1,x5,rfl,rfl,HA,aG,HM⟩ := hrel
  cases gk with
  | zero => exact absurd HA.out (by simp [mkE.l0])
  | succ k1 =>
   have H := HA.out;clear HA;simp only [mkE.l0] at H
   by_cases c3 : x5 < (l0.length : Int)
   ·rw [if_pos c3] at H;have ak := dT c3
    by_cases c5 : 0 ≤ x5
    ·rw [if_pos c5] at H;have c5b0 := dT c5;obtain ⟨t0,B0,H⟩ := oB.mp H;have B0 := aM B0;obtain ⟨m2,B2,H⟩ := oB.mp H;have B2 := aM B2;obtain ⟨m3,B3,H⟩ := oB.mp H;have B3 := aM B3;obtain ⟨t4,B4,H⟩ := oB.mp H;have B4 := aM B4;obtain ⟨t5,B5,H⟩ := oB.mp H;have B5 := aM B5;obtain ⟨t6,B6,H⟩ := oB.mp H;have B6 := aM B6;obtain ⟨aH,am,H⟩ := oB.mp H;have am := aM am;obtain ⟨aJ,an,H⟩ := oB.mp H;have an := aM an;have H' := aM H;clear H;obtain ⟨g,cg,eg,gb,gl,cl,hg⟩ := Kd.R_form HO.out (by omega);injection eg with ea _ ec;subst ea ec;have PG := aM (HO.out.1 g rfl);have GB := aM gb;clear gl cl hg gb;have P6 := aM c5;have Q6 := aM c3;replace c5 := eq_true c5;replace c3 := eq_true c3;go_wp2_with (first|((with_reducible refine gate_callee (f := 77) rfl ?_);refine gl_ (some 15) Tryz.func77 #[.int .i64 x1] ?_;(with_reducible refine (Fag.calls k1 x1 t0 _ B0.out).mono ?_);rintro e wz1 ⟨rfl,hb⟩;refine ⟨_,rfl,?_⟩;replace HM := aM (HM.out.step hb (Nat.le_trans HW0.out HM.out.le));clear hb;obtain ⟨v0_,_,_,_,_,_,_,_,_,_,_,_,_,_,_,_,hx0_,hf0_,-,-,-,-,-,-,-,-,-,-,-,-,-,-,-,-,-,-,-,-,-,-,-,-,-,-,-,-⟩ := mkE_at (rigid_R rigid_E HM.out.al HO.out) x5 P6.out Q6.out)|((with_reducible refine gate_store (t := 9) (p := 17) rfl ?_);refine store_event (t := 9) (p := 17) (v := ?vo_wz2) (w1 := (wz1.setCell ⟨g,(x5 : Int).toNat * 14,none⟩ (.string t0))) ?hg ?ho ?hn ?hr ?_;(case ho => rfl);(case hg => rfl);(case hn => rfl);(case hr => first|(go_simp;done)|(go_simp;rfl));intro wz2 hw;replace HM : Aside0 (Marked base aa w wz2) := ⟨by rw [hw];exact HM.out.set hx0_ (VA.str _ _) PG.out GB.out⟩;clear hw;obtain ⟨_,v1_,_,_,_,_,_,_,_,_,_,_,_,_,_,_,-,-,hx1_,hf1_,-,-,-,-,-,-,-,-,-,-,-,-,-,-,-,-,-,-,-,-,-,-,-,-,-,-⟩ := mkE_at (rigid_R rigid_E HM.out.al HO.out) x5 P6.out Q6.out)|((with_reducible refine gate_store (t := 3) (p := 24) rfl ?_);refine store_event (t := 3) (p := 24) (v := ?vo_wz3) (w1 := (wz2.setCell ⟨g,(x5 : Int).toNat * 14 + 1,none⟩ (.int .i64 (wrap64 (x1 + 1))))) ?hg ?ho ?hn ?hr ?_;(case ho => rfl);(case hg => rfl);(case hn => rfl);(case hr => first|(go_simp;done)|(go_simp;rfl));intro wz3 hw;replace HM : Aside0 (Marked base aa w wz3) := ⟨by rw [hw];exact HM.out.set hx1_ (VA.int _ _) PG.out GB.out⟩;clear hw;obtain ⟨_,_,aK,aL,_,_,_,_,_,_,_,_,_,_,_,_,-,-,-,-,hx2_,hf2_,-,-,-,-,-,-,-,-,-,-,-,-,-,-,-,-,-,-,-,-,-,-,ao,-⟩ := mkE_at (rigid_R rigid_E HM.out.al HO.out) x5 P6.out Q6.out)|(go_at_call 133;(with_reducible refine (mkN_calls k1 (fun k => aa k ∧ k ≠ g) aK aL (mAt zE l0 x5).2.2.1 (wrap64 ((wrap64 (x1 + 1)) + 1)) m2 base _ (Nat.le_trans HW0.out HM.out.le) ao B2.out).mono ?_);rintro e wz4 ⟨rfl,hm⟩;replace HM := aM (HM.out.trans (hm.mono (fun _ h_ => h_.1)));clear hm;obtain ⟨_,_,_,_,aN,aO,_,_,_,_,_,_,_,_,_,_,-,-,-,-,-,-,hx3_,hf3_,-,-,-,-,-,-,-,-,-,-,-,-,-,-,-,-,-,-,-,-,-,ap⟩ := mkE_at (rigid_R rigid_E HM.out.al HO.out) x5 P6.out Q6.out)|(go_at_call 133;(with_reducible refine (mkN_calls k1 (fun k => aa k ∧ k ≠ g) aN aO (mAt zE l0 x5).2.2.2.1 m2 m3 base _ (Nat.le_trans HW0.out HM.out.le) ap B3.out).mono ?_);rintro e wz5 ⟨rfl,hm⟩;replace HM := aM (HM.out.trans (hm.mono (fun _ h_ => h_.1)));clear hm)|((with_reducible refine gate_callee (f := 77) rfl ?_);refine gl_ (some 44) Tryz.func77 #[.int .i64 m3] ?_;(with_reducible refine (Fag.calls k1 m3 t4 _ B4.out).mono ?_);rintro e wz6 ⟨rfl,hb⟩;refine ⟨_,rfl,?_⟩;replace HM := aM (HM.out.step hb (Nat.le_trans HW0.out HM.out.le));clear hb;obtain ⟨_,_,_,_,_,_,v4_,_,_,_,_,_,_,_,_,_,-,-,-,-,-,-,-,-,ar,hf4_,-,-,-,-,-,-,-,-,-,-,-,-,-,-,-,-,-,-,-,-⟩ := mkE_at (rigid_R rigid_E HM.out.al HO.out) x5 P6.out Q6.out)|((with_reducible refine gate_store (t := 9) (p := 46) rfl ?_);refine store_event (t := 9) (p := 46) (v := ?vo_wz7) (w1 := (wz6.setCell ⟨g,(x5 : Int).toNat * 14 + 4,none⟩ (.string t4))) ?hg ?ho ?hn ?hr ?_;(case ho => rfl);(case hg => rfl);(case hn => rfl);(case hr => first|(go_simp;done)|(go_simp;rfl));intro wz7 hw;replace HM : Aside0 (Marked base aa w wz7) := ⟨by rw [hw];exact HM.out.set ar (VA.str _ _) PG.out GB.out⟩;clear hw)|((with_reducible refine gate_callee (f := 77) rfl ?_);refine gl_ (some 52) Tryz.func77 #[.int .i64 (wrap64 (m3 + 1))] ?_;(with_reducible refine (Fag.calls k1 (wrap64 (m3 + 1)) t5 _ B5.out).mono ?_);rintro e aP ⟨rfl,hb⟩;refine ⟨_,rfl,?_⟩;replace HM := aM (HM.out.step hb (Nat.le_trans HW0.out HM.out.le));clear hb;obtain ⟨_,_,_,_,_,_,_,v5_,_,_,_,_,_,_,_,_,-,-,-,-,-,-,-,-,-,-,au,hf5_,-,-,-,-,-,-,-,-,-,-,-,-,-,-,-,-,-,-⟩ := mkE_at (rigid_R rigid_E HM.out.al HO.out) x5 P6.out Q6.out)|((with_reducible refine gate_store (t := 9) (p := 54) rfl ?_);refine store_event (t := 9) (p := 54) (v := ?vo_wz9) (w1 := (aP.setCell ⟨g,(x5 : Int).toNat * 14 + 5,none⟩ (.string t5))) ?hg ?ho ?hn ?hr ?_;(case ho => rfl);(case hg => rfl);(case hn => rfl);(case hr => first|(go_simp;done)|(go_simp;rfl));intro aQ hw;replace HM : Aside0 (Marked base aa w aQ) := ⟨by rw [hw];exact HM.out.set au (VA.str _ _) PG.out GB.out⟩;clear hw)|((with_reducible refine gate_callee (f := 77) rfl ?_);refine gl_ (some 60) Tryz.func77 #[.int .i64 (wrap64 ((wrap64 (m3 + 1)) + 1))] ?_;(with_reducible refine (Fag.calls k1 (wrap64 ((wrap64 (m3 + 1)) + 1)) t6 _ B6.out).mono ?_);rintro e av ⟨rfl,hb⟩;refine ⟨_,rfl,?_⟩;replace HM := aM (HM.out.step hb (Nat.le_trans HW0.out HM.out.le));clear hb;obtain ⟨_,_,_,_,_,_,_,_,v6_,_,_,_,_,_,_,_,-,-,-,-,-,-,-,-,-,-,-,-,aw,hf6_,-,-,-,-,-,-,-,-,-,-,-,-,-,-,-,-⟩ := mkE_at (rigid_R rigid_E HM.out.al HO.out) x5 P6.out Q6.out)|((with_reducible refine gate_store (t := 9) (p := 62) rfl ?_);refine store_event (t := 9) (p := 62) (v := ?vo_wz11) (w1 := (av.setCell ⟨g,(x5 : Int).toNat * 14 + 6,none⟩ (.string t6))) ?hg ?ho ?hn ?hr ?_;(case ho => rfl);(case hg => rfl);(case hn => rfl);(case hr => first|(go_simp;done)|(go_simp;rfl));intro ab hw;replace HM : Aside0 (Marked base aa w ab) := ⟨by rw [hw];exact HM.out.set aw (VA.str _ _) PG.out GB.out⟩;clear hw;obtain ⟨_,_,_,_,_,_,_,_,_,v7_,_,_,_,_,_,_,-,-,-,-,-,-,-,-,-,-,-,-,-,-,ax,hf7_,-,-,-,-,-,-,-,-,-,-,-,-,-,-⟩ := mkE_at (rigid_R rigid_E HM.out.al HO.out) x5 P6.out Q6.out)|((with_reducible refine gate_store (t := 3) (p := 70) rfl ?_);refine store_event (t := 3) (p := 70) (v := ?vo_wz12) (w1 := (ab.setCell ⟨g,(x5 : Int).toNat * 14 + 7,none⟩ (.int .i64 (wrap64 ((wrap64 ((wrap64 (m3 + 1)) + 1)) + 1))))) ?hg ?ho ?hn ?hr ?_;(case ho => rfl);(case hg => rfl);(case hn => rfl);(case hr => first|(go_simp;done)|(go_simp;rfl));intro ac hw;replace HM : Aside0 (Marked base aa w ac) := ⟨by rw [hw];exact HM.out.set ax (VA.int _ _) PG.out GB.out⟩;clear hw;obtain ⟨_,_,_,_,_,_,_,_,_,_,v8_,_,_,_,_,_,-,-,-,-,-,-,-,-,-,-,-,-,-,-,-,-,ay,hf8_,-,-,-,-,-,-,-,-,-,-,-,-⟩ := mkE_at (rigid_R rigid_E HM.out.al HO.out) x5 P6.out Q6.out)|((with_reducible refine gate_store (t := 3) (p := 78) rfl ?_);refine store_event (t := 3) (p := 78) (v := ?vo_wz13) (w1 := (ac.setCell ⟨g,(x5 : Int).toNat * 14 + 8,none⟩ (.int .i64 (wrap64 ((wrap64 ((wrap64 ((wrap64 (m3 + 1)) + 1)) + 1)) + 1))))) ?hg ?ho ?hn ?hr ?_;(case ho => rfl);(case hg => rfl);(case hn => rfl);(case hr => first|(go_simp;done)|(go_simp;rfl));intro ad hw;replace HM : Aside0 (Marked base aa w ad) := ⟨by rw [hw];exact HM.out.set ay (VA.int _ _) PG.out GB.out⟩;clear hw;obtain ⟨_,_,_,_,_,_,_,_,_,_,_,v9_,_,_,_,_,-,-,-,-,-,-,-,-,-,-,-,-,-,-,-,-,-,-,az,hf9_,-,-,-,-,-,-,-,-,-,-⟩ := mkE_at (rigid_R rigid_E HM.out.al HO.out) x5 P6.out Q6.out)|((with_reducible refine gate_store (t := 3) (p := 86) rfl ?_);refine store_event (t := 3) (p := 86) (v := ?vo_wz14) (w1 := (ad.setCell ⟨g,(x5 : Int).toNat * 14 + 9,none⟩ (.int .i64 (wrap64 ((wrap64 ((wrap64 ((wrap64 ((wrap64 (m3 + 1)) + 1)) + 1)) + 1)) + 1))))) ?hg ?ho ?hn ?hr ?_;(case ho => rfl);(case hg => rfl);(case hn => rfl);(case hr => first|(go_simp;done)|(go_simp;rfl));intro ae hw;replace HM : Aside0 (Marked base aa w ae) := ⟨by rw [hw];exact HM.out.set az (VA.int _ _) PG.out GB.out⟩;clear hw;obtain ⟨_,_,_,_,_,_,_,_,_,_,_,_,v10_,_,_,_,-,-,-,-,-,-,-,-,-,-,-,-,-,-,-,-,-,-,-,-,af,hf10_,-,-,-,-,-,-,-,-⟩ := mkE_at (rigid_R rigid_E HM.out.al HO.out) x5 P6.out Q6.out)|((with_reducible refine gate_store (t := 4) (p := 96) rfl ?_);refine store_event (t := 4) (p := 96) (v := ?vo_wz15) (w1 := (ae.setCell ⟨g,(x5 : Int).toNat * 14 + 10,none⟩ (.bool ((Int.tmod (wrap64 ((wrap64 ((wrap64 ((wrap64 ((wrap64 ((wrap64 (m3 + 1)) + 1)) + 1)) + 1)) + 1)) + 1)) 3) == 0)))) ?hg ?ho ?hn ?hr ?_;(case ho => rfl);(case hg => rfl);(case hn => rfl);(case hr => first|(go_simp;done)|(go_simp;rfl));intro ag hw;replace HM : Aside0 (Marked base aa w ag) := ⟨by rw [hw];exact HM.out.set af (VA.bool _ _) PG.out GB.out⟩;clear hw;obtain ⟨_,_,_,_,_,_,_,_,_,_,_,_,_,v11_,_,_,-,-,-,-,-,-,-,-,-,-,-,-,-,-,-,-,-,-,-,-,-,-,ah,hf11_,-,-,-,-,-,-⟩ := mkE_at (rigid_R rigid_E HM.out.al HO.out) x5 P6.out Q6.out)|((with_reducible refine gate_store (t := 3) (p := 103) rfl ?_);refine store_event (t := 3) (p := 103) (v := ?vo_wz16) (w1 := (ag.setCell ⟨g,(x5 : Int).toNat * 14 + 11,none⟩ (.int .i64 (wrap64 ((wrap64 ((wrap64 ((wrap64 ((wrap64 ((wrap64 ((wrap64 (m3 + 1)) + 1)) + 1)) + 1)) + 1)) + 1)) + 1))))) ?hg ?ho ?hn ?hr ?_;(case ho => rfl);(case hg => rfl);(case hn => rfl);(case hr => first|(go_simp;done)|(go_simp;rfl));intro aA hw;replace HM : Aside0 (Marked base aa w aA) := ⟨by rw [hw];exact HM.out.set ah (VA.int _ _) PG.out GB.out⟩;clear hw)|((with_reducible refine gate_callee (f := 77) rfl ?_);refine gl_ (some 109) Tryz.func77 #[.int .i64 (wrap64 ((wrap64 ((wrap64 ((wrap64 ((wrap64 ((wrap64 ((wrap64 ((wrap64 (m3 + 1)) + 1)) + 1)) + 1)) + 1)) + 1)) + 1)) + 1))] ?_;(with_reducible refine (Fag.calls k1 (wrap64 ((wrap64 ((wrap64 ((wrap64 ((wrap64 ((wrap64 ((wrap64 ((wrap64 (m3 + 1)) + 1)) + 1)) + 1)) + 1)) + 1)) + 1)) + 1)) aH _ am.out).mono ?_);rintro e aC ⟨rfl,hb⟩;refine ⟨_,rfl,?_⟩;replace HM := aM (HM.out.step hb (Nat.le_trans HW0.out HM.out.le));clear hb;obtain ⟨_,_,_,_,_,_,_,_,_,_,_,_,_,_,v12_,_,-,-,-,-,-,-,-,-,-,-,-,-,-,-,-,-,-,-,-,-,-,-,-,-,ai,hf12_,-,-,-,-⟩ := mkE_at (rigid_R rigid_E HM.out.al HO.out) x5 P6.out Q6.out)|((with_reducible refine gate_store (t := 9) (p := 111) rfl ?_);refine store_event (t := 9) (p := 111) (v := ?vo_wz18) (w1 := (aC.setCell ⟨g,(x5 : Int).toNat * 14 + 12,none⟩ (.string aH))) ?hg ?ho ?hn ?hr ?_;(case ho => rfl);(case hg => rfl);(case hn => rfl);(case hr => first|(go_simp;done)|(go_simp;rfl));intro aD hw;replace HM : Aside0 (Marked base aa w aD) := ⟨by rw [hw];exact HM.out.set ai (VA.str _ _) PG.out GB.out⟩;clear hw)|((with_reducible refine gate_callee (f := 77) rfl ?_);refine gl_ (some 117) Tryz.func77 #[.int .i64 (wrap64 ((wrap64 ((wrap64 ((wrap64 ((wrap64 ((wrap64 ((wrap64 ((wrap64 ((wrap64 (m3 + 1)) + 1)) + 1)) + 1)) + 1)) + 1)) + 1)) + 1)) + 1))] ?_;(with_reducible refine (Fag.calls k1 (wrap64 ((wrap64 ((wrap64 ((wrap64 ((wrap64 ((wrap64 ((wrap64 ((wrap64 ((wrap64 (m3 + 1)) + 1)) + 1)) + 1)) + 1)) + 1)) + 1)) + 1)) + 1)) aJ _ an.out).mono ?_);rintro e aE ⟨rfl,hb⟩;refine ⟨_,rfl,?_⟩;replace HM := aM (HM.out.step hb (Nat.le_trans HW0.out HM.out.le));clear hb;obtain ⟨_,_,_,_,_,_,_,_,_,_,_,_,_,_,_,v13_,-,-,-,-,-,-,-,-,-,-,-,-,-,-,-,-,-,-,-,-,-,-,-,-,-,-,aj,hf13_,-,-⟩ := mkE_at (rigid_R rigid_E HM.out.al HO.out) x5 P6.out Q6.out)|((with_reducible refine gate_store (t := 9) (p := 119) rfl ?_);refine store_event (t := 9) (p := 119) (v := ?vo_wz20) (w1 := (aE.setCell ⟨g,(x5 : Int).toNat * 14 + 13,none⟩ (.string aJ))) ?hg ?ho ?hn ?hr ?_;(case ho => rfl);(case hg => rfl);(case hn => rfl);(case hr => first|(go_simp;done)|(go_simp;rfl));intro aF hw;replace HM : Aside0 (Marked base aa w aF) := ⟨by rw [hw];exact HM.out.set aj (VA.str _ _) PG.out GB.out⟩;clear hw));go_roundg k1
     case measure => have := aG.out;omega
     case rel => exact ⟨(wrap64 ((wrap64 ((wrap64 ((wrap64 ((wrap64 ((wrap64 ((wrap64 ((wrap64 ((wrap64 ((wrap64 (m3 + 1)) + 1)) + 1)) + 1)) + 1)) + 1)) + 1)) + 1)) + 1)) + 1)),(wrap64 (x5 + 1)),vR_,vR_,H',⟨by have := aG.out;omega⟩,HM⟩
    ·rw [if_neg c5] at H;exact nH_ H
   ·rw [if_neg c3] at H;have ak := dF c3;clear c3;obtain rfl := oI H;go_wp2;go_ret;exact ⟨rfl,HM.out⟩
def skN (x : S157) : List Unit × Unit × Unit × Unit := (x.f0.map (fun _ => ()),(),(),())
theorem skN_M {w : World} {base : Nat} {ok : Nat → Prop} {x : S157} {cs : List Value} (h : k157.M w base ok x cs) : nN.M w base ok (skN x) cs := by
 obtain ⟨v0,rfl,g0⟩ := k157_openM h;exact ⟨[v0],[.string x.f1,.string x.f2,.string x.f3],rfl,⟨v0,rfl,R_as (d := Kd.string) (d' := aS) (fun _ => ()) rfl (fun h => ⟨_,h,_,rfl⟩) g0⟩,[.string x.f1],[.string x.f2,.string x.f3],rfl,⟨_,rfl,_,rfl⟩,[.string x.f2],[.string x.f3],rfl,⟨_,rfl,_,rfl⟩,⟨_,rfl,_,rfl⟩⟩
def skE (x : S41) : Unit × Unit × List (List Unit × Unit × Unit × Unit) × List (List Unit × Unit × Unit × Unit) × Unit × Unit × Unit × (Unit × Unit × Unit × Unit) × Unit × Unit × Unit := ((),(),x.f2.map skN,x.f3.map skN,(),(),(),((),(),(),()),(),(),())
theorem skE_M {w : World} {base : Nat} {ok : Nat → Prop} {x : S41} {cs : List Value} (h : k41.M w base ok x cs) : nE.M w base ok (skE x) cs := by
 obtain ⟨v2,v3,rfl,g2,g3⟩ := k41_openM h;have r2 := R_as (d' := nN) skN rfl skN_M g2;have r3 := R_as (d' := nN) skN rfl skN_M g3;have s : ∀ {w : World} {base : Nat} {ok : Nat → Prop} (b : ByteArray),aS.M w base ok () [.string b] := fun b => ⟨_,rfl,b,rfl⟩;have i : ∀ {w : World} {base : Nat} {ok : Nat → Prop} (b : Int),aI.M w base ok () [.int .i64 b] := fun b => ⟨_,rfl,b,rfl⟩;have o : ∀ {w : World} {base : Nat} {ok : Nat → Prop} (b : Bool),aB.M w base ok () [.bool b] := fun b => ⟨_,rfl,b,rfl⟩;exact ⟨[_],_,rfl,s _,[_],_,rfl,i _,[v2],_,rfl,⟨v2,rfl,r2⟩,[v3],_,rfl,⟨v3,rfl,r3⟩,[_],_,rfl,s _,[_],_,rfl,s _,[_],_,rfl,s _,[_,_,_,_],_,rfl,⟨[_],_,rfl,i _,[_],_,rfl,i _,[_],_,rfl,i _,o _⟩,[_],_,rfl,i _,[_],_,rfl,s _,s _⟩
theorem mkS.mono : ∀ (k : Nat) (xs : Nat) (m i : Int),LeO (mkS.l0 k xs m i) (mkS.l0 (k + 1) xs m i)
 | 0,_,_,_ => LeO.none _
 | k + 1,xs,m,i => by
  have ih := mkS.mono k
  unfold mkS.l0
  repeat' first
   | exact Fag.mono _ _
   | exact ih _ _ _
   | apply LeO.ite
   | apply LeO.bind
   | exact LeO.refl _
   | intro _
theorem mkN.mono : ∀ (k : Nat) (xs : List (List Unit × Unit × Unit × Unit)) (m i : Int),LeO (mkN.l0 k xs m i) (mkN.l0 (k + 1) xs m i)
 | 0,_,_,_ => LeO.none _
 | k + 1,xs,m,i => by
  have ih := mkN.mono k
  unfold mkN.l0
  repeat' first
   | exact Fag.mono _ _
   | exact ih _ _ _
   | exact mkS.mono _ _ _ _
   | apply LeO.ite
   | apply LeO.bind
   | exact LeO.refl _
   | intro _
theorem mkE.mono : ∀ (k : Nat) (xs : List (Unit × Unit × List (List Unit × Unit × Unit × Unit) × List (List Unit × Unit × Unit × Unit) × Unit × Unit × Unit × (Unit × Unit × Unit × Unit) × Unit × Unit × Unit)) (m i : Int),LeO (mkE.l0 k xs m i) (mkE.l0 (k + 1) xs m i)
 | 0,_,_,_ => LeO.none _
 | k + 1,xs,m,i => by
  have ih := mkE.mono k
  unfold mkE.l0
  repeat' first
   | exact Fag.mono _ _
   | exact ih _ _ _
   | exact mkN.mono _ _ _ _
   | apply LeO.ite
   | apply LeO.bind
   | exact LeO.refl _
   | intro _
def mkES.f (k : Nat) (l0 : List S41) (a1 : Int) : Option Int := mkE.l0 k (l0.map skE) a1 0
theorem mkES.mono : ∀ a0 a1 k,LeO (mkES.f k a0 a1) (mkES.f (k + 1) a0 a1) := fun _ _ k => mkE.mono k _ _ _
theorem mkES.calls (k : Nat) (ab : Nat → Prop) (aa : Value) (l0 : List S41) (a1 : Int) (r1 : Int) (w0 w : World) (hB : Below w0.heap.size w0 w) (ac : Kd.R k41 41 w w0.heap.size ab aa l0) (h : mkES.f k l0 a1 = some r1) :
  Calls Tryz.prog 76 #[aa,.int .i64 a1] w fun e w' => e = .returned (.int .i64 r1) ∧ Below w0.heap.size w0 w' ∧ Kept w w' (fun k_ => ab k_) := by
 have hR := R_as (d' := nE) skE rfl skE_M ac;obtain ⟨A,c,hv⟩ := Kd.R_slice hR;subst hv;refine (mkE_calls k ab A c (l0.map skE) a1 r1 w0.heap.size w hB.size hR h).mono ?_;rintro e w' ⟨rfl,hm⟩;exact ⟨rfl,hm.below w0 rfl hB,hm.kept⟩
def Fbq.f (k : Nat) (aa : List S41) (a1 : Int) : Option Int := mkES.f k aa a1
theorem Fbq.mono : ∀ a0 a1 k,LeO (Fbq.f k a0 a1) (Fbq.f (k + 1) a0 a1) := fun _ _ k => mkES.mono _ _ k
theorem Fbq.calls (k : Nat) (aa : Nat → Prop) (ab : Value) (ac : List S41) (a1 : Int) (r1 : Int) (w0 w : World) (hB : Below w0.heap.size w0 w) (ad : Kd.R k41 41 w w0.heap.size aa ab ac) (h : Fbq.f k ac a1 = some r1) :
  Calls Tryz.prog 24 #[.agg #[ab],.int .i64 a1] w fun e w' => e = .returned (.int .i64 r1) ∧ Below w0.heap.size w0 w' ∧ Kept w w' (fun k_ => aa k_ ∧ TyB w (41 :: (k41).E) k_) := by
 have hu := Tryz.underlying55;obtain ⟨A,c,hv⟩ := Kd.R_slice (id ad);subst hv;have HO := aM (R_tyB ad);have HB := aM hB;have H := aM (show mkES.f k ac a1 = some r1 from h);clear ad hB h;go_enter Tryz.func24,Tryz.ntmps24;go_wp2_with (first|((with_reducible refine gate_dst (N := 2) rfl ?_);refine bx_ (N := 2) (cs := #[.slice A ac.length c]) (t := 55) ?_;intro gb hg w4 hbox hb;have HX := aM hb;have hc9 := (bC hbox 0).trans rfl;have hf9 := bF hbox 0;clear hb hbox hg)|(go_at_call 76;(with_reducible refine (mkES.calls k (fun k_ => aa k_ ∧ TyB w (41 :: (k41).E) k_) _ ac a1 r1 w0 w4 (lT HB.out HX.out) (rB HO.out HX.out) H.out).mono ?_);rintro e w5 ⟨rfl,hb,hk⟩;have HY := aM hb;have HK := aM hk;clear hb hk));go_ret;exact ⟨rfl,HY.out,(Kept.of_below HX.out (fun k_ => aa k_ ∧ TyB w (41 :: (k41).E) k_)).then_ HK.out (fun _ h_ => .inl h_)⟩
def Fbd.f (a0 : Int) (a1 : Int) (a2 : Int) : Option (Bool) := if a0 ≥ a1 then (some (decide (a0 ≤ a2))) else (some false)
theorem Fbd.calls (a0 : Int) (a1 : Int) (a2 : Int) (r : Bool) (w : World) (h : Fbd.f a0 a1 a2 = some r) :
  Calls Tryz.prog 121 #[.int .i64 a0,.int .i64 a1,.int .i64 a2] w fun e w' => e = .returned (.bool r) ∧ Drawn0 w w' := by
 have H : (if a0 ≥ a1 then (some (decide (a0 ≤ a2))) else (some false)) = some r := h;clear h
 by_cases c4 : a0 ≥ a1
 focus
  rw [if_pos c4] at H;have aa : decide (a1 ≤ a0) = true := dT c4;clear c4;obtain rfl := oI H
 rotate_left
 focus
  rw [if_neg c4] at H;have aa : decide (a1 ≤ a0) = false := dF c4;clear c4;obtain rfl := oI H
 all_goals
  go_enter Tryz.func121,Tryz.ntmps121;go_wp2;go_ret;exact ⟨vR_,dw_⟩
def Fbz.f (a0 : Int) : Option (Bool) := if a0 ≥ 97 then (some (decide (a0 ≤ 122))) else (some false)
theorem Fbz.calls (a0 : Int) (r : Bool) (w : World) (h : Fbz.f a0 = some r) :
  Calls Tryz.prog 162 #[.int .u8 a0] w fun e w' => e = .returned (.bool r) ∧ Drawn0 w w' := by
 have H : (if a0 ≥ 97 then (some (decide (a0 ≤ 122))) else (some false)) = some r := h;clear h
 by_cases c2 : a0 ≥ 97
 focus
  rw [if_pos c2] at H;have aa : decide (97 ≤ a0) = true := dT c2;clear c2;obtain rfl := oI H
 rotate_left
 focus
  rw [if_neg c2] at H;have aa : decide (97 ≤ a0) = false := dF c2;clear c2;obtain rfl := oI H
 all_goals
  go_enter Tryz.func162,Tryz.ntmps162;go_wp2;go_ret;exact ⟨vR_,dw_⟩
mutual
def FaD.j0 : Nat → ByteArray → Bool → Option (Bool)
 | 0,_,_ => none
 | k + 1,x0,aa => if aa = true then (some false) else (FaD.l0 k x0 0)
def FaD.l0 : Nat → ByteArray → Int → Option (Bool)
 | 0,_,_ => none
 | k + 1,x0,x3 => if x3 < (x0.size : Int) then (if 0 ≤ x3 then ((Fbz.f (bt x0 x3)).bind fun aa => (if aa = true then (FaD.l0 k x0 (wrap64 (x3 + 1))) else (if (bt x0 x3) < 48 then (some false) else (if (bt x0 x3) > 57 then (some false) else (FaD.l0 k x0 (wrap64 (x3 + 1))))))) else (none)) else (some true)
end
def FaD.f (k : Nat) (a0 : ByteArray) : Option (Bool) := (Fbd.f (a0.size : Int) 1 10).bind fun aa => (if aa = true then (if 0 < (a0.size : Int) then ((Fbz.f (bt a0 0)).bind fun ab => (FaD.j0 k a0 (!ab))) else (none)) else (FaD.j0 k a0 true))
theorem FaD.mono_l : ∀ k,(∀ y0 y1,LeO (FaD.j0 k y0 y1) (FaD.j0 (k + 1) y0 y1)) ∧ (∀ y0 y1,LeO (FaD.l0 k y0 y1) (FaD.l0 (k + 1) y0 y1))
 | 0 => ⟨fun _ _ r h => by simp [FaD.j0] at h,fun _ _ r h => by simp [FaD.l0] at h⟩
 | k + 1 => by
  obtain ⟨ih0,ih1⟩ := FaD.mono_l k
  refine ⟨?_,?_⟩
  all_goals (intros;first|unfold FaD.j0|unfold FaD.l0)
  all_goals repeat' (first|with_reducible (first|exact ih0 _ _|exact ih1 _ _|exact LeO.refl _|exact LeO.none _|refine LeO.ite ?_ ?_|refine LeO.bind ?_ (fun _ => ?_))|exact LeO.none _|refine LeO.ite ?_ ?_|refine LeO.bind ?_ (fun _ => ?_))
theorem FaD.mono : ∀ a0 k,LeO (FaD.f k a0) (FaD.f (k + 1) a0) := by
 intro a0 k
 obtain ⟨ih0,ih1⟩ := FaD.mono_l k
 unfold FaD.f
 repeat' (first|with_reducible (first|exact ih0 _ _|exact ih1 _ _|exact LeO.refl _|exact LeO.none _|refine LeO.ite ?_ ?_|refine LeO.bind ?_ (fun _ => ?_))|exact LeO.none _|refine LeO.ite ?_ ?_|refine LeO.bind ?_ (fun _ => ?_))
theorem FaD.calls (k : Nat) (a0 : ByteArray) (r : Bool) (w : World) (h : FaD.f k a0 = some r) :
  Calls Tryz.prog 120 #[.string a0] w fun e w' => e = .returned (.bool r) ∧ Drawn0 w w' := by
 have H : ((Fbd.f (a0.size : Int) 1 10).bind fun ac => (if ac = true then (if 0 < (a0.size : Int) then ((Fbz.f (bt a0 0)).bind fun ad => (FaD.j0 k a0 (!ad))) else (none)) else (FaD.j0 k a0 true))) = some r := h;clear h;have am := aM H;clear H;go_enter Tryz.func120,Tryz.ntmps120;go_upto_region 1 with (fail);go_cut [13] (fun v13 wc => ∃ (kq : Nat) (ab : Bool),v13 = .bool ab ∧ Aside0 (FaD.j0 kq a0 ab = some r) ∧ Aside0 (kq ≤ k) ∧ Drawn0 w wc)
 case first =>
  have H := am.out;clear am;obtain ⟨ac,A3,H⟩ := bE_ H
  by_cases c4 : ac = true
  focus
   subst c4;rw [if_pos rfl] at H
   by_cases c5 : 0 < (a0.size : Int)
   rotate_left;rw [if_neg c5] at H;exact nH_ H;rw [if_pos c5] at H;have ag := dT c5;have c5b1 : decide (0 < a0.size) = true := dT (by omega);clear c5;(first|rw [ag]|(simp only [i64_w,i32_w];rw [ag])|skip);obtain ⟨ad,A7,H⟩ := bE_ H;have H' := aM H;clear H
  rotate_left
  focus
   replace c4 := qO.mpr c4;subst c4;rw [if_neg qT] at H;have H' := aM H;clear H
  all_goals
   go_wp2_with (first|((with_reducible refine gate_callee (f := 121) rfl ?_);refine gl_ (some 6) Tryz.func121 #[.int .i64 (a0.size : Int),.int .i64 1,.int .i64 10] ?_;(with_reducible refine (Fbd.calls _ _ _ _ _ A3.out).mono ?_);rintro e w' ⟨rfl,⟨nd,rfl⟩⟩;refine ⟨_,rfl,?_⟩;have ax : 0 ≤ (0 : Int) := (by omega);have ar : 0 < a0.size := (by have : (0 : Int) < (a0.size : Int) := oD (by assumption);omega);have hx01 : ∀ h : 0 < a0.size,((a0[0]'h).toNat : Int) = bt a0 0 := bt_at a0 0;clear ax;have qi6 : (0 < (a0.size : Int)) = True := eq_true (oD (by assumption));replace ar := eq_true ar)|((with_reducible refine gate_callee (f := 121) rfl ?_);refine gl_ (some 6) Tryz.func121 #[.int .i64 (a0.size : Int),.int .i64 1,.int .i64 10] ?_;(with_reducible refine (Fbd.calls _ _ _ _ _ A3.out).mono ?_);rintro e w' ⟨rfl,⟨nd,rfl⟩⟩;refine ⟨_,rfl,?_⟩)|(go_at_call 162;(with_reducible refine (Fbz.calls _ _ _ A7.out).mono ?_);rintro e w' ⟨rfl,⟨nd,rfl⟩⟩));go_meet
   case rel => first|(exact ⟨_,(!ad),vR_,H',⟨by first|omega|exact Nat.le_refl _⟩,dw_⟩)|(exact ⟨_,(true),vR_,H',⟨by first|omega|exact Nat.le_refl _⟩,dw_⟩)
 case rest =>
  clear am;obtain ⟨kq,ab,rfl,HA,au,⟨mc1,rfl⟩⟩ := hcut
  cases kq with
  | zero => exact absurd HA.out (by simp [FaD.j0])
  | succ av =>
   have H := HA.out;clear HA;simp only [FaD.j0] at H
   by_cases c8 : ab = true
   ·subst c8;rw [if_pos rfl] at H;obtain rfl := oI H;go_wp2;go_ret;exact ⟨vR_,dw_⟩
   ·replace c8 := qO.mpr c8;subst c8;rw [if_neg qT] at H;have H' := aM H;clear H;go_wp2;go_loopg [3] av (fun kq v3 w' => ∃ (aa : Int),v3 = .int .i64 aa ∧ Aside0 (FaD.l0 kq a0 aa = some r) ∧ Aside0 (kq ≤ av) ∧ Drawn0 w w')
    case atStart => exact ⟨(0),vR_,H',⟨Nat.le_refl _⟩,dw_⟩
    case round =>
     clear H';obtain ⟨aa,rfl,HA,aw,⟨m2,rfl⟩⟩ := hrel
     cases gk with
     | zero => exact absurd HA.out (by simp [FaD.l0])
     | succ k2 =>
      have H := HA.out;clear HA;simp only [FaD.l0] at H
      by_cases c9 : aa < (a0.size : Int)
      focus
       rw [if_pos c9] at H;have an := dT c9;clear c9
       by_cases c10 : 0 ≤ aa
       rotate_left;rw [if_neg c10] at H;exact nH_ H;rw [if_pos c10] at H;have c10b0 := dT c10;clear c10;obtain ⟨ao,ay,H⟩ := bE_ H
       by_cases al : ao = true
       focus
        subst al;rw [if_pos rfl] at H;have H' := aM H;clear H
       rotate_left
       focus
        replace al := qO.mpr al;subst al;rw [if_neg qT] at H
        by_cases ae : (bt a0 aa) < 48
        focus
         rw [if_pos ae] at H;have ah := dT ae;clear ae;obtain rfl := oI H
        rotate_left
        focus
         rw [if_neg ae] at H;have ah := dF ae;clear ae
         by_cases af : (bt a0 aa) > 57
         focus
          rw [if_pos af] at H;have ai : decide (57 < (bt a0 aa)) = true := dT af;clear af;obtain rfl := oI H
         rotate_left
         focus
          rw [if_neg af] at H;have ai : decide (57 < (bt a0 aa)) = false := dF af;clear af;have H' := aM H;clear H
      rotate_left 4
      focus
       rw [if_neg c9] at H;have an := dF c9;clear c9;obtain rfl := oI H
      all_goals
       (try (have aj : 0 ≤ (aa : Int) := oD (by assumption);have ak : aa < (a0.size : Int) := oD (by assumption);have ap := bt_at a0 aa;replace aj := eq_true aj;replace ak := eq_true ak));go_wp2_with (first|((with_reducible refine gate_callee (f := 162) rfl ?_);refine gl_ (some 23) Tryz.func162 #[.int .u8 (bt a0 aa)] ?_;(with_reducible refine (Fbz.calls _ _ _ ay.out).mono ?_);rintro e w' ⟨rfl,⟨nd,rfl⟩⟩;refine ⟨_,rfl,?_⟩;(try (have aj : 0 ≤ (aa : Int) := oD (by assumption);have ak : aa < (a0.size : Int) := oD (by assumption);have ap := bt_at a0 aa;replace aj := eq_true aj;replace ak := eq_true ak))))
       first
        |
         go_ret;exact ⟨vR_,dw_⟩
        |
         go_roundg k2
         case measure => have := au.out;have := aw.out;omega
         case rel => exact ⟨(wrap64 (aa + 1)),vR_,H',⟨by have := au.out;have := aw.out;omega⟩,dw_⟩
def FbO.f (a0 : Int) : Option (Bool) := if a0 ≥ 65 then (some (decide (a0 ≤ 90))) else (some false)
theorem FbO.calls (a0 : Int) (r : Bool) (w : World) (h : FbO.f a0 = some r) :
  Calls Tryz.prog 211 #[.int .u8 a0] w fun e w' => e = .returned (.bool r) ∧ Drawn0 w w' := by
 have H : (if a0 ≥ 65 then (some (decide (a0 ≤ 90))) else (some false)) = some r := h;clear h
 by_cases c2 : a0 ≥ 65
 focus
  rw [if_pos c2] at H;have aa : decide (65 ≤ a0) = true := dT c2;clear c2;obtain rfl := oI H
 rotate_left
 focus
  rw [if_neg c2] at H;have aa : decide (65 ≤ a0) = false := dF c2;clear c2;obtain rfl := oI H
 all_goals
  go_enter Tryz.func211,Tryz.ntmps211;go_wp2;go_ret;exact ⟨vR_,dw_⟩
def Fbh.f (a0 : Int) : Option (Bool) := (FbO.f a0).bind fun aa => (if aa = true then (some true) else ((Fbz.f a0).bind fun ab => (some ab)))
theorem Fbh.calls (a0 : Int) (r : Bool) (w : World) (h : Fbh.f a0 = some r) :
  Calls Tryz.prog 243 #[.int .u8 a0] w fun e w' => e = .returned (.bool r) ∧ Drawn0 w w' := by
 have H : ((FbO.f a0).bind fun aa => (if aa = true then (some true) else ((Fbz.f a0).bind fun ab => (some ab)))) = some r := h;clear h;obtain ⟨aa,A2,H⟩ := bE_ H
 by_cases c3 : aa = true
 focus
  subst c3;rw [if_pos rfl] at H;obtain rfl := oI H
 rotate_left
 focus
  replace c3 := qO.mpr c3;subst c3;rw [if_neg qT] at H;obtain ⟨ab,A4,H⟩ := bE_ H;obtain rfl := oI H
 all_goals
  go_enter Tryz.func243,Tryz.ntmps243;go_wp2_with (first|((with_reducible refine gate_callee (f := 211) rfl ?_);refine gl_ (some 4) Tryz.func211 #[.int .u8 a0] ?_;(with_reducible refine (FbO.calls _ _ _ A2.out).mono ?_);rintro e w' ⟨rfl,⟨nd,rfl⟩⟩;refine ⟨_,rfl,?_⟩)|(go_at_call 162;(with_reducible refine (Fbz.calls _ _ _ A4.out).mono ?_);rintro e w' ⟨rfl,⟨nd,rfl⟩⟩));go_ret;exact ⟨vR_,dw_⟩
mutual
def Fat.j0 : Nat → ByteArray → Bool → Option (Bool)
 | 0,_,_ => none
 | k + 1,x0,aa => if aa = true then (some false) else (Fat.l0 k x0 1)
def Fat.l0 : Nat → ByteArray → Int → Option (Bool)
 | 0,_,_ => none
 | k + 1,x0,x3 => if x3 < (x0.size : Int) then (if 0 ≤ x3 then ((Fbh.f (bt x0 x3)).bind fun aa => (if aa = true then (Fat.l0 k x0 (wrap64 (x3 + 1))) else (if (bt x0 x3) = 45 then (if 0 ≤ (wrap64 (x3 - 1)) then (if (wrap64 (x3 - 1)) < (x0.size : Int) then ((Fbh.f (bt x0 (wrap64 (x3 - 1)))).bind fun ab => (if ab = true then (Fat.l0 k x0 (wrap64 (x3 + 1))) else (some false))) else (none)) else (none)) else (if (bt x0 x3) = 39 then (if 0 ≤ (wrap64 (x3 - 1)) then (if (wrap64 (x3 - 1)) < (x0.size : Int) then ((Fbh.f (bt x0 (wrap64 (x3 - 1)))).bind fun ac => (if ac = true then (Fat.l0 k x0 (wrap64 (x3 + 1))) else (some false))) else (none)) else (none)) else (some false))))) else (none)) else (some true)
end
def Fat.f (k : Nat) (a0 : ByteArray) : Option (Bool) := (Fbd.f (a0.size : Int) 1 12).bind fun aa => (if aa = true then (if 0 < (a0.size : Int) then ((Fbh.f (bt a0 0)).bind fun ab => (if ab = true then (if 0 ≤ (wrap64 ((a0.size : Int) - 1)) then (if (wrap64 ((a0.size : Int) - 1)) < (a0.size : Int) then ((Fbh.f (bt a0 (wrap64 ((a0.size : Int) - 1)))).bind fun ac => (Fat.j0 k a0 (!ac))) else (none)) else (none)) else (Fat.j0 k a0 true))) else (none)) else (Fat.j0 k a0 true))
theorem Fat.mono_l : ∀ k,(∀ y0 y1,LeO (Fat.j0 k y0 y1) (Fat.j0 (k + 1) y0 y1)) ∧ (∀ y0 y1,LeO (Fat.l0 k y0 y1) (Fat.l0 (k + 1) y0 y1))
 | 0 => ⟨fun _ _ r h => by simp [Fat.j0] at h,fun _ _ r h => by simp [Fat.l0] at h⟩
 | k + 1 => by
  obtain ⟨ih0,ih1⟩ := Fat.mono_l k
  refine ⟨?_,?_⟩
  all_goals (intros;first|unfold Fat.j0|unfold Fat.l0)
  all_goals repeat' (first|with_reducible (first|exact ih0 _ _|exact ih1 _ _|exact LeO.refl _|exact LeO.none _|refine LeO.ite ?_ ?_|refine LeO.bind ?_ (fun _ => ?_))|exact LeO.none _|refine LeO.ite ?_ ?_|refine LeO.bind ?_ (fun _ => ?_))
theorem Fat.mono : ∀ a0 k,LeO (Fat.f k a0) (Fat.f (k + 1) a0) := by
 intro a0 k
 obtain ⟨ih0,ih1⟩ := Fat.mono_l k
 unfold Fat.f
 repeat' (first|with_reducible (first|exact ih0 _ _|exact ih1 _ _|exact LeO.refl _|exact LeO.none _|refine LeO.ite ?_ ?_|refine LeO.bind ?_ (fun _ => ?_))|exact LeO.none _|refine LeO.ite ?_ ?_|refine LeO.bind ?_ (fun _ => ?_))
theorem Fat.calls (k : Nat) (a0 : ByteArray) (r : Bool) (w : World) (h : Fat.f k a0 = some r) :
  Calls Tryz.prog 210 #[.string a0] w fun e w' => e = .returned (.bool r) ∧ Drawn0 w w' := by
 have H : ((Fbd.f (a0.size : Int) 1 12).bind fun aj => (if aj = true then (if 0 < (a0.size : Int) then ((Fbh.f (bt a0 0)).bind fun ak => (if ak = true then (if 0 ≤ (wrap64 ((a0.size : Int) - 1)) then (if (wrap64 ((a0.size : Int) - 1)) < (a0.size : Int) then ((Fbh.f (bt a0 (wrap64 ((a0.size : Int) - 1)))).bind fun ag => (Fat.j0 k a0 (!ag))) else (none)) else (none)) else (Fat.j0 k a0 true))) else (none)) else (Fat.j0 k a0 true))) = some r := h;clear h;have aJ := aM H;clear H;go_enter Tryz.func210,Tryz.ntmps210;go_upto_region 1 with (fail);go_cut [22] (fun aY wc => ∃ (kq : Nat) (af : Bool),aY = .bool af ∧ Aside0 (Fat.j0 kq a0 af = some r) ∧ Aside0 (kq ≤ k) ∧ Drawn0 w wc)
 case first =>
  have H := aJ.out;clear aJ;obtain ⟨aj,A3,H⟩ := bE_ H
  by_cases c4 : aj = true
  focus
   subst c4;rw [if_pos rfl] at H
   by_cases c5 : 0 < (a0.size : Int)
   rotate_left;rw [if_neg c5] at H;exact nH_ H;rw [if_pos c5] at H;have ap := dT c5;have c5b1 : decide (0 < a0.size) = true := dT (by omega);clear c5;(first|rw [ap]|(simp only [i64_w,i32_w];rw [ap])|skip);obtain ⟨ak,A7,H⟩ := bE_ H
   by_cases c8 : ak = true
   focus
    subst c8;rw [if_pos rfl] at H;obtain ⟨ai,ah⟩ : ∃ j_ : Int,(wrap64 ((a0.size : Int) - 1)) = j_ := ⟨_,rfl⟩;replace H : (if 0 ≤ (ai) then (if (ai) < (a0.size : Int) then ((Fbh.f (bt a0 (ai))).bind fun ag => (Fat.j0 k a0 (!ag))) else (none)) else (none)) = some r := (by first|(rw [ah] at H;exact H)|(simp only [ah] at H ⊢;exact H));(try rw [ah] at A3);(try rw [ah] at A7);have hji9w : (IntKind.i64.wrap ((a0.size : Int) - 1)) = ai := (i64_w _).trans ah
    by_cases c10 : 0 ≤ (ai)
    rotate_left;rw [if_neg c10] at H;exact nH_ H;rw [if_pos c10] at H;have c10b0 := dT c10;clear c10
    by_cases c11 : (ai) < (a0.size : Int)
    rotate_left;rw [if_neg c11] at H;exact nH_ H;rw [if_pos c11] at H;have c11b0 := dT c11;clear c11;obtain ⟨ag,aZ,H⟩ := bE_ H;have H' := aM H;clear H
   rotate_left
   focus
    replace c8 := qO.mpr c8;subst c8;rw [if_neg qT] at H;have H' := aM H;clear H
  rotate_left 2
  focus
   replace c4 := qO.mpr c4;subst c4;rw [if_neg qT] at H;have H' := aM H;clear H
  all_goals
   go_wp2_with (first|((with_reducible refine gate_callee (f := 121) rfl ?_);refine gl_ (some 6) Tryz.func121 #[.int .i64 (a0.size : Int),.int .i64 1,.int .i64 12] ?_;(with_reducible refine (Fbd.calls _ _ _ _ _ A3.out).mono ?_);rintro e w' ⟨rfl,⟨nd,rfl⟩⟩;refine ⟨_,rfl,?_⟩;have p01 : 0 ≤ (0 : Int) := (by omega);have q01 : 0 < a0.size := (by have : (0 : Int) < (a0.size : Int) := oD (by assumption);omega);have hx01 : ∀ h : 0 < a0.size,((a0[0]'h).toNat : Int) = bt a0 0 := bt_at a0 0;clear p01;have qi6 : (0 < (a0.size : Int)) = True := eq_true (oD (by assumption));replace q01 := eq_true q01)|((with_reducible refine gate_callee (f := 121) rfl ?_);refine gl_ (some 6) Tryz.func121 #[.int .i64 (a0.size : Int),.int .i64 1,.int .i64 12] ?_;(with_reducible refine (Fbd.calls _ _ _ _ _ A3.out).mono ?_);rintro e w' ⟨rfl,⟨nd,rfl⟩⟩;refine ⟨_,rfl,?_⟩)|(go_at_call 243;(with_reducible refine (Fbh.calls _ _ _ A7.out).mono ?_);rintro e w' ⟨rfl,⟨nd,rfl⟩⟩;(try (have aO : 0 ≤ ((ai) : Int) := oD (by assumption);have aP : (ai) < (a0.size : Int) := oD (by assumption);have hx02 := bt_at a0 (ai);replace aO := eq_true aO;replace aP := eq_true aP)))|(go_at_call 243;(with_reducible refine (Fbh.calls _ _ _ aZ.out).mono ?_);rintro e w' ⟨rfl,⟨nd,rfl⟩⟩));go_meet
   case rel => first|(exact ⟨_,(!ag),vR_,H',⟨by first|omega|exact Nat.le_refl _⟩,dw_⟩)|(exact ⟨_,(true),vR_,H',⟨by first|omega|exact Nat.le_refl _⟩,dw_⟩)
 case rest =>
  clear aJ;obtain ⟨kq,af,rfl,HA,aQ,⟨mc1,rfl⟩⟩ := hcut
  cases kq with
  | zero => exact absurd HA.out (by simp [Fat.j0])
  | succ aR =>
   have H := HA.out;clear HA;simp only [Fat.j0] at H
   by_cases c14 : af = true
   ·subst c14;rw [if_pos rfl] at H;obtain rfl := oI H;go_wp2;go_ret;exact ⟨vR_,dw_⟩
   ·replace c14 := qO.mpr c14;subst c14;rw [if_neg qT] at H;have H' := aM H;clear H;go_wp2;go_loopg [3] aR (fun kq v3 w' => ∃ (aa : Int),v3 = .int .i64 aa ∧ Aside0 (Fat.l0 kq a0 aa = some r) ∧ Aside0 (kq ≤ aR) ∧ Drawn0 w w')
    case atStart => exact ⟨(1),vR_,H',⟨Nat.le_refl _⟩,dw_⟩
    case round =>
     clear H';obtain ⟨aa,rfl,HA,aT,⟨m2,rfl⟩⟩ := hrel
     cases gk with
     | zero => exact absurd HA.out (by simp [Fat.l0])
     | succ k2 =>
      have H := HA.out;clear HA;simp only [Fat.l0] at H
      by_cases c15 : aa < (a0.size : Int)
      focus
       rw [if_pos c15] at H;have ar := dT c15;clear c15
       by_cases c16 : 0 ≤ aa
       rotate_left;rw [if_neg c16] at H;exact nH_ H;rw [if_pos c16] at H;have c16b0 := dT c16;clear c16;obtain ⟨aK,aL,H⟩ := bE_ H
       by_cases aA : aK = true
       focus
        subst aA;rw [if_pos rfl] at H;have H' := aM H;clear H
       rotate_left
       focus
        replace aA := qO.mpr aA;subst aA;rw [if_neg qT] at H
        by_cases al : (bt a0 aa) = 45
        focus
         rw [if_pos al] at H;have au := qE.mpr al;have av := qN.mpr al;clear al;obtain ⟨ab,ad⟩ : ∃ j_ : Int,(wrap64 (aa - 1)) = j_ := ⟨_,rfl⟩;replace H : (if 0 ≤ (ab) then (if (ab) < (a0.size : Int) then ((Fbh.f (bt a0 (ab))).bind fun am => (if am = true then (Fat.l0 k2 a0 (wrap64 (aa + 1))) else (some false))) else (none)) else (none)) = some r := (by first|(rw [ad] at H;exact H)|(simp only [ad] at H ⊢;exact H));(try rw [ad] at aL);have hji22w : (IntKind.i64.wrap (aa - 1)) = ab := (i64_w _).trans ad
         by_cases aC : 0 ≤ (ab)
         rotate_left;rw [if_neg aC] at H;exact nH_ H;rw [if_pos aC] at H;have c23b0 := dT aC;clear aC
         by_cases aD : (ab) < (a0.size : Int)
         rotate_left;rw [if_neg aD] at H;exact nH_ H;rw [if_pos aD] at H;have c24b0 := dT aD;clear aD;obtain ⟨am,a1,H⟩ := bE_ H
         by_cases aE : am = true
         focus
          subst aE;rw [if_pos rfl] at H;have H' := aM H;clear H
         rotate_left
         focus
          replace aE := qO.mpr aE;subst aE;rw [if_neg qT] at H;obtain rfl := oI H
        rotate_left 2
        focus
         rw [if_neg al] at H;have au := qF.mpr al;have av := qB.mpr al
         by_cases an : (bt a0 aa) = 39
         focus
          rw [if_pos an] at H;have aw := qE.mpr an;have ax := qN.mpr an;clear an;obtain ⟨ac,ae⟩ : ∃ j_ : Int,(wrap64 (aa - 1)) = j_ := ⟨_,rfl⟩;replace H : (if 0 ≤ (ac) then (if (ac) < (a0.size : Int) then ((Fbh.f (bt a0 (ac))).bind fun ao => (if ao = true then (Fat.l0 k2 a0 (wrap64 (aa + 1))) else (some false))) else (none)) else (none)) = some r := (by first|(rw [ae] at H;exact H)|(simp only [ae] at H ⊢;exact H));(try rw [ae] at aL);have hji30w : (IntKind.i64.wrap (aa - 1)) = ac := (i64_w _).trans ae
          by_cases aF : 0 ≤ (ac)
          rotate_left;rw [if_neg aF] at H;exact nH_ H;rw [if_pos aF] at H;have c31b0 := dT aF;clear aF
          by_cases aG : (ac) < (a0.size : Int)
          rotate_left;rw [if_neg aG] at H;exact nH_ H;rw [if_pos aG] at H;have c32b0 := dT aG;clear aG;obtain ⟨ao,a2,H⟩ := bE_ H
          by_cases aH : ao = true
          focus
           subst aH;rw [if_pos rfl] at H;have H' := aM H;clear H
          rotate_left
          focus
           replace aH := qO.mpr aH;subst aH;rw [if_neg qT] at H;obtain rfl := oI H
         rotate_left 2
         focus
          rw [if_neg an] at H;have aw := qF.mpr an;have ax := qB.mpr an;obtain rfl := oI H
      rotate_left 6
      focus
       rw [if_neg c15] at H;have ar := dF c15;clear c15;obtain rfl := oI H
      all_goals
       (try (have ay : 0 ≤ (aa : Int) := oD (by assumption);have az : aa < (a0.size : Int) := oD (by assumption);have aN := bt_at a0 aa;replace ay := eq_true ay;replace az := eq_true az));go_wp2_with (first|((with_reducible refine gate_callee (f := 243) rfl ?_);refine gl_ (some 32) Tryz.func243 #[.int .u8 (bt a0 aa)] ?_;(with_reducible refine (Fbh.calls _ _ _ aL.out).mono ?_);rintro e w' ⟨rfl,⟨nd,rfl⟩⟩;refine ⟨_,rfl,?_⟩;(try (have ay : 0 ≤ (aa : Int) := oD (by assumption);have az : aa < (a0.size : Int) := oD (by assumption);have aN := bt_at a0 aa;replace ay := eq_true ay;replace az := eq_true az));(try (have aU : 0 ≤ ((ab) : Int) := oD (by assumption);have aV : (ab) < (a0.size : Int) := oD (by assumption);have hx04 := bt_at a0 (ab);replace aU := eq_true aU;replace aV := eq_true aV));(try (have aW : 0 ≤ ((ac) : Int) := oD (by assumption);have aX : (ac) < (a0.size : Int) := oD (by assumption);have hx05 := bt_at a0 (ac);replace aW := eq_true aW;replace aX := eq_true aX)))|(go_at_call 243;(with_reducible refine (Fbh.calls _ _ _ a2.out).mono ?_);rintro e w' ⟨rfl,⟨nd,rfl⟩⟩)|(go_at_call 243;(with_reducible refine (Fbh.calls _ _ _ a1.out).mono ?_);rintro e w' ⟨rfl,⟨nd,rfl⟩⟩))
       first
        |
         go_roundg k2
         case measure => have := aQ.out;have := aT.out;omega
         case rel => exact ⟨(wrap64 (aa + 1)),vR_,H',⟨by have := aQ.out;have := aT.out;omega⟩,dw_⟩
        |
         go_ret;(first|exact ⟨by first|rfl|(simp;done)|(simp [my_isEmpty];done)|(simp only [← ad] <;> (first|rfl|simp))|(simp [*];done),dw_⟩|exact ⟨by first|rfl|(simp;done)|(simp [my_isEmpty];done)|(simp only [← ae] <;> (first|rfl|simp))|(simp [*];done),dw_⟩|exact ⟨vR_,dw_⟩)
def Fa0.l0 : Nat → ByteArray → Int → List ByteArray → Int → Int → Option (List ByteArray)
 | 0,_,_,_,_,_ => none
 | k + 1,x0,x1,x5,x6,x7 => if x7 < (x0.size : Int) then (if 0 ≤ x7 then (if (bt x0 x7) = x1 then (if 0 ≤ x6 then (if x6 ≤ x7 then (if x7 ≤ (x0.size : Int) then (if x5.length < 8796093022208 then (Fa0.l0 k x0 x1 (x5 ++ [x0.extract (x6 : Int).toNat (x7 : Int).toNat]) (wrap64 (x7 + 1)) (wrap64 (x7 + 1))) else (none)) else (none)) else (none)) else (none)) else (Fa0.l0 k x0 x1 x5 x6 (wrap64 (x7 + 1)))) else (none)) else (if 0 ≤ x6 then (if x6 ≤ (x0.size : Int) then (if x5.length < 8796093022208 then (some (x5 ++ [x0.extract (x6 : Int).toNat x0.size])) else (none)) else (none)) else (none))
def Fa0.f (k : Nat) (a0 : ByteArray) (a1 : Int) : Option (List ByteArray) := Fa0.l0 k a0 a1 (([] : List ByteArray)) 0 0
theorem Fa0.mono_l : ∀ k,(∀ y0 y1 y2 y3 y4,LeO (Fa0.l0 k y0 y1 y2 y3 y4) (Fa0.l0 (k + 1) y0 y1 y2 y3 y4))
 | 0 => fun _ _ _ _ _ r h => by simp [Fa0.l0] at h
 | k + 1 => by
  have ih0 := Fa0.mono_l k
  ·intro y0 y1 y2 y3 y4
   unfold Fa0.l0
   repeat' (first|with_reducible (first|exact ih0 _ _ _ _ _|exact LeO.refl _|exact LeO.none _|refine LeO.ite ?_ ?_|refine LeO.bind ?_ (fun _ => ?_))|exact LeO.none _|refine LeO.ite ?_ ?_|refine LeO.bind ?_ (fun _ => ?_))
theorem Fa0.mono : ∀ a0 a1 k,LeO (Fa0.f k a0 a1) (Fa0.f (k + 1) a0 a1) := by
 intro a0 a1 k
 have ih0 := Fa0.mono_l k
 unfold Fa0.f
 repeat' (first|with_reducible (first|exact ih0 _ _ _ _ _|exact LeO.refl _|exact LeO.none _|refine LeO.ite ?_ ?_|refine LeO.bind ?_ (fun _ => ?_))|exact LeO.none _|refine LeO.ite ?_ ?_|refine LeO.bind ?_ (fun _ => ?_))
theorem Fa0.calls (k : Nat) (a0 : ByteArray) (a1 : Int) (r : List ByteArray) (w : World) (h : Fa0.f k a0 a1 = some r) :
  Calls Tryz.prog 244 #[.string a0,.int .u8 a1] w fun e w' => ∃ aE : Value,e = .returned (aE) ∧ Kd.R Kd.string 9 w' w.heap.size (fun _ => True) aE r ∧ Below w.heap.size w w' := by
 have HB := aM (Below.refl w.heap.size w);have H : (Fa0.l0 k a0 a1 (([] : List ByteArray)) 0 0) = some r := h;clear h;obtain ⟨ai,ad⟩ : ∃ y_ : List ByteArray,y_ = (([] : List ByteArray)) := ⟨_,rfl⟩;replace H : (Fa0.l0 k a0 a1 ai 0 0) = some r := (yH_ ad H);have ah := aM ad;clear ad;have H' := aM H;clear H;go_enter Tryz.func244,Tryz.ntmps244;go_wp2_with (first|((with_reducible refine gate_dst (N := 8) rfl ?_);refine Kd.R_lit Kd.string _ 9 ?hg (N := 8) ?hd (xs := ([] : List ByteArray)) (inner := []) (ok := fun _ => True) (okp := fun _ => True) ?hr ?hp (fun _ hk => hk) trivial (Below.refl _ _) (Nat.le_refl _) (by simp) ?_;(case hd => rfl);(case hg => rfl);(case hr => first|(go_simp;done)|(go_simp;rfl));(case hp => exact (Reps.none _ _));intro v216 w3 aj hb hg_ hnew_;clear hg_ hnew_;(first|rw [← ah.out] at aj|(simp only [Int.reduceToNat] at aj;rw [← ah.out] at aj));have ak := aM (Kd.R_lower aj (lZ wB_));replace HB := aM (lT wB_ hb);clear hb aj));go_loopg [5,6,7] k (fun kq v5 v6 v7 w' => ∃ (ac : List ByteArray) (ab : Int) (aa : Int),v6 = .int .i64 ab ∧ v7 = .int .i64 aa ∧ Aside0 (Fa0.l0 kq a0 a1 ac ab aa = some r) ∧ Aside0 (kq ≤ k) ∧ Aside0 (Kd.R Kd.string 9 w' w.heap.size (fun _ => True) v5 ac) ∧ Aside0 (Below w.heap.size w w'))
 case atStart => exact ⟨(ai),(0),(0),vR_,vR_,H',⟨Nat.le_refl _⟩,⟨wO_ ak.out⟩,⟨wB_⟩⟩
 case round =>
  clear H';obtain ⟨ac,ab,aa,rfl,rfl,HA,ay,ae,HB⟩ := hrel
  cases gk with
  | zero => exact absurd HA.out (by simp [Fa0.l0])
  | succ k1 =>
   have H := HA.out;clear HA;simp only [Fa0.l0] at H
   by_cases c5 : aa < (a0.size : Int)
   focus
    rw [if_pos c5] at H;have az := dT c5;clear c5
    by_cases c6 : 0 ≤ aa
    rotate_left;rw [if_neg c6] at H;exact nH_ H;rw [if_pos c6] at H;have c6b0 := dT c6;clear c6
    by_cases c8 : (bt a0 aa) = a1
    focus
     rw [if_pos c8] at H;have aA := qE.mpr c8;have aC := qN.mpr c8;clear c8
     by_cases c9 : 0 ≤ ab
     rotate_left;rw [if_neg c9] at H;exact nH_ H;rw [if_pos c9] at H;have c9b0 := eq_true c9;have c9b1 := dT c9;clear c9
     by_cases c10 : ab ≤ aa
     rotate_left;rw [if_neg c10] at H;exact nH_ H;rw [if_pos c10] at H;have c10b0 := eq_true c10;have c10b1 := dT c10;clear c10
     by_cases c11 : aa ≤ (a0.size : Int)
     rotate_left;rw [if_neg c11] at H;exact nH_ H;rw [if_pos c11] at H;have c11b0 := eq_true c11;have c11b1 := dT c11;clear c11
     by_cases ax : ac.length < 8796093022208
     rotate_left;rw [if_neg ax] at H;exact nH_ H;rw [if_pos ax] at H;have al := aM ax;clear ax;obtain ⟨am,af⟩ : ∃ y_ : List ByteArray,y_ = (ac ++ [a0.extract (ab : Int).toNat (aa : Int).toNat]) := ⟨_,rfl⟩;replace H : (Fa0.l0 k1 a0 a1 am (wrap64 (aa + 1)) (wrap64 (aa + 1))) = some r := (yH_ af H);have an := aM af;clear af;have H' := aM H;clear H
    rotate_left
    focus
     rw [if_neg c8] at H;have aA := qF.mpr c8;have aC := qB.mpr c8;have H' := aM H;clear H
   rotate_left 2
   focus
    rw [if_neg c5] at H;have az := dF c5;clear c5
    by_cases c14 : 0 ≤ ab
    rotate_left;rw [if_neg c14] at H;exact nH_ H;rw [if_pos c14] at H;have c14b0 := eq_true c14;have c14b1 := dT c14;clear c14
    by_cases c15 : ab ≤ (a0.size : Int)
    rotate_left;rw [if_neg c15] at H;exact nH_ H;rw [if_pos c15] at H;have c15b0 := eq_true c15;have c15b1 := dT c15;clear c15
    by_cases c16 : ac.length < 8796093022208
    rotate_left;rw [if_neg c16] at H;exact nH_ H;rw [if_pos c16] at H;have ao := aM c16;clear c16;obtain ⟨aD,ag⟩ : ∃ y_ : List ByteArray,y_ = (ac ++ [a0.extract (ab : Int).toNat a0.size]) := ⟨_,rfl⟩;replace H : (some aD) = some r := (yH_ ag H);have ap := aM ag;clear ag;obtain rfl := oI H
   all_goals
    (try (have p01 : 0 ≤ (aa : Int) := oD (by assumption);have q01 : aa < (a0.size : Int) := oD (by assumption);have hx01 := bt_at a0 aa;replace p01 := eq_true p01;replace q01 := eq_true q01));go_wp2_with (first|((with_reducible refine gate_builtin (b := .append) (xs := #[.tmp 29,.tmp 33]) rfl ?_);at_builtin;refine Kd.R_append Kd.string (w0 := w) w.heap.size rfl (.tmp 29) (.tmp 33) 50 9 (.string ⟨#[]⟩) 16 rfl Tryz.underlying50 info9 rfl (by decide) (by omega) u5 ac (a0.extract (ab : Int).toNat a0.size) [.string (a0.extract (ab : Int).toNat a0.size)] (fun _ => True) (fun _ => False) rfl rfl ?aP (fun _ hk => hk.elim) ?aF ?aO ?aB ?aS ?aL ?_;(case aP => exact rfl);(case aB => exact wB_);(case aF => exact (fun _ _ => trivial));(case aO => exact (wO_ ae.out));(case aS => exact (lZ wB_));(case aL => have := ao.out;omega);intro v222 w17 ho hb hg hat;rw [← ap.out] at ho;have ar := aM (hb);have au := aM (ho);clear HB;clear ae;have HB := ar;have av := au;clear ar au;clear ho hb hg hat)|((with_reducible refine gate_builtin (b := .append) (xs := #[.tmp 20,.tmp 25]) rfl ?_);at_builtin;refine Kd.R_append Kd.string (w0 := w) w.heap.size rfl (.tmp 20) (.tmp 25) 50 9 (.string ⟨#[]⟩) 16 rfl Tryz.underlying50 info9 rfl (by decide) (by omega) u5 ac (a0.extract (ab : Int).toNat (aa : Int).toNat) [.string (a0.extract (ab : Int).toNat (aa : Int).toNat)] (fun _ => True) (fun _ => False) rfl rfl ?aP (fun _ hk => hk.elim) ?aF ?aO ?aB ?aS ?aL ?_;(case aP => exact rfl);(case aB => exact wB_);(case aF => exact (fun _ _ => trivial));(case aO => exact (wO_ ae.out));(case aS => exact (lZ wB_));(case aL => have := al.out;omega);intro v219 w13 ho hb hg hat;rw [← an.out] at ho;have ar := aM (hb);have au := aM (ho);clear HB;clear ae;have HB := ar;have aw := au;clear ar au;clear ho hb hg hat))
    first
     |
      go_ret;exact ⟨_,vR_,wO_ av.out,wB_⟩
     |
      go_roundg k1
      case measure => have := ay.out;omega
      case rel => first|(exact ⟨(am),(wrap64 (aa + 1)),(wrap64 (aa + 1)),vR_,vR_,H',⟨by have := ay.out;omega⟩,⟨wO_ aw.out⟩,⟨wB_⟩⟩)|(exact ⟨(ac),(ab),(wrap64 (aa + 1)),vR_,vR_,H',⟨by have := ay.out;omega⟩,⟨wO_ ae.out⟩,⟨wB_⟩⟩)
end Go.Proofs.YtmafmhgmdegplaaGreatDoor.P
