/- Written by a program in this session: each theorem here says that a Go function computes the Lean function beside it, or that a law's row holds, under the conditions that the theorem itself states. -/
import Derived.Test.YtmkkcpdpfelalaaZPx0
import Derived.Test.YtmkkcpdpfelalaaZPx3
namespace Go.Proofs.Ytmkkcpdpfelalaa.P
open Go.RowKit Go.Proofs.YtmkkcpdpfelalaaW.PrintWords Go.Proofs.YtmkkcpdpfelalaaW.PrintLast Go.Proofs.YtmkkcpdpfelalaaW.PrintMore
attribute [local go_sem] max2_int min2_int max_two min_two max_three min_three max_four min_four   -- for this text's walks alone
set_option linter.unusedVariables false
set_option linter.unusedSimpArgs false
def laws_markOrdinalRuleS.l0 : Nat → List (S72) → Int → Int → Option (Int × (List (S72)))
 | 0,_,_,_ => none
 | k + 1,x0,x1,x5 => if x5 < (x0.length : Int) then (if 0 ≤ x5 then ((some (x0.set (x5 : Int).toNat (⟨x1,(rd_T72 x0 x5).f1,(rd_T72 x0 x5).f2⟩ : S72) : List (S72))).bind fun y164 => ((some (y164.set (x5 : Int).toNat (⟨(rd_T72 y164 x5).f0,wrap64 (x1 + 1),(rd_T72 y164 x5).f2⟩ : S72) : List (S72))).bind fun y165 => ((laws_markText.f k (wrap64 ((wrap64 (x1 + 1)) + 1))).bind fun t166 => (laws_markOrdinalRuleS.l0 k (y165.set (x5 : Int).toNat (⟨(rd_T72 y165 x5).f0,(rd_T72 y165 x5).f1,t166⟩ : S72)) (wrap64 ((wrap64 ((wrap64 (x1 + 1)) + 1)) + 1)) (wrap64 (x5 + 1)))))) else (none)) else (some (x1,x0))
def laws_markOrdinalRuleS.f (k : Nat) (l0 : List (S72)) (a1 : Int) : Option (Int × (List (S72))) := laws_markOrdinalRuleS.l0 k l0 a1 0
theorem laws_markOrdinalRuleS.mono_l : ∀ k,(∀ y0 y1 y2,LeO (laws_markOrdinalRuleS.l0 k y0 y1 y2) (laws_markOrdinalRuleS.l0 (k + 1) y0 y1 y2))
 | 0 => fun _ _ _ r h => by simp [laws_markOrdinalRuleS.l0] at h
 | k + 1 => by
  have ih0 := laws_markOrdinalRuleS.mono_l k
  ·intro y0 y1 y2
   unfold laws_markOrdinalRuleS.l0
   repeat' first
   | (with_reducible exact ih0 _ _ _)
   | (with_reducible exact laws_markText.mono _ _)
   | (with_reducible exact LeO.refl _)
   | (with_reducible exact LeO.none _)
   | (with_reducible refine LeO.ite ?_ ?_)
   | (with_reducible refine LeO.bind ?_ (fun _ => ?_))
   | exact ih0 _ _ _
   | exact laws_markText.mono _ _
   | exact LeO.none _
   | refine LeO.ite ?_ ?_
   | refine LeO.bind ?_ (fun _ => ?_)
theorem laws_markOrdinalRuleS.mono : ∀ a0 a1 k,LeO (laws_markOrdinalRuleS.f k a0 a1) (laws_markOrdinalRuleS.f (k + 1) a0 a1) := by
 intro a0 a1 k
 have ih0 := laws_markOrdinalRuleS.mono_l k
 unfold laws_markOrdinalRuleS.f
 repeat' first
   | (with_reducible exact ih0 _ _ _)
   | (with_reducible exact laws_markText.mono _ _)
   | (with_reducible exact LeO.refl _)
   | (with_reducible exact LeO.none _)
   | (with_reducible refine LeO.ite ?_ ?_)
   | (with_reducible refine LeO.bind ?_ (fun _ => ?_))
   | exact ih0 _ _ _
   | exact laws_markText.mono _ _
   | exact LeO.none _
   | refine LeO.ite ?_ ?_
   | refine LeO.bind ?_ (fun _ => ?_)
set_option maxHeartbeats 8000000 in
set_option maxRecDepth 100000 in
theorem laws_markOrdinalRuleS.calls (k : Nat) (P0_ : Nat → Prop) (u9000_ : Value) (l0 : List (S72)) (a1 : Int) (r1 : Int) (r2 : List (S72)) (w0 w : World) (hB : Below w0.heap.size w0 w) (ho0 : Kd.R k72 72 w w0.heap.size P0_ u9000_ l0) (h : laws_markOrdinalRuleS.f k l0 a1 = some (r1,r2)) :
  Calls Try.prog 57 #[u9000_,.int .i64 a1] w fun e w' => e = .returned (.int .i64 r1) ∧ Kd.R k72 72 w' w0.heap.size (fun k_ => (P0_ k_ ∨ w.heap.size ≤ k_)) u9000_ r2 ∧ Below w0.heap.size w0 w' ∧ Kept w w' (fun k_ => P0_ k_) := by
 have HO0 := aM (show Kd.R k72 72 w w0.heap.size (fun k_ => (P0_ k_ ∨ w.heap.size ≤ k_)) u9000_ l0 from Kd.R_mono ho0 (fun k_ hk => (.inl hk)));have HK := aM (Kept.refl w (fun k_ => P0_ k_));have HW0 := aM hB.size;have HB := aM hB;clear hB;have H : (laws_markOrdinalRuleS.l0 k l0 a1 0) = some (r1,r2) := h;clear h;have H' := aM H;clear H;go_enter Try.func57,Try.ntmps57;go_wp2;go_loopg [1,5] k (fun kq v1 v5 w' => ∃ (ab : List (S72)) (ae : Int) (aa : Int),v1 = .int .i64 ae ∧ v5 = .int .i64 aa ∧ Aside0 (laws_markOrdinalRuleS.l0 kq ab ae aa = some (r1,r2)) ∧ Aside0 (kq ≤ k) ∧ Aside0 (Kd.R k72 72 w' w0.heap.size (fun k_ => (P0_ k_ ∨ w.heap.size ≤ k_)) u9000_ ab) ∧ Aside0 (Kept w w' (fun k_ => P0_ k_)) ∧ Aside0 (Below w0.heap.size w0 w'))
 case atStart => exact ⟨(l0),(a1),(0),(by first|rfl|(simp [*];done)),(by first|rfl|(simp [*];done)),H',⟨Nat.le_refl _⟩,⟨by (with_reducible repeat (first|apply rA|apply rN|apply rD));exact HO0.out⟩,⟨by repeat (first|(with_reducible first|exact HK.out|apply Kept.alloc|apply Kept.drewN|apply Kept.drew)|exact HK.out)⟩,⟨hb_⟩⟩
 case round =>
  clear H';(try clear p2);obtain ⟨ab,ae,aa,rfl,rfl,HA,HK1,ac,HK,HB⟩ := hrel
  cases gk with
  | zero => exact absurd HA.out (by simp [laws_markOrdinalRuleS.l0])
  | succ k1 =>
   have H := HA.out;clear HA;simp only [laws_markOrdinalRuleS.l0] at H
   by_cases c3 : aa < (ab.length : Int)
   ·rw [if_pos c3] at H;have c3b0 : decide (aa < (ab.length : Int)) = true := dT c3;clear c3
    by_cases c4 : 0 ≤ aa
    ·rw [if_pos c4] at H;have c4b0 : decide (0 ≤ aa) = true := dT c4;clear c4;obtain ⟨y164,af⟩ : ∃ y_ : List (S72),y_ = (ab.set (aa : Int).toNat (⟨ae,(rd_T72 ab aa).f1,(rd_T72 ab aa).f2⟩ : S72)) := ⟨_,rfl⟩;replace H : ((some (y164.set (aa : Int).toNat (⟨(rd_T72 y164 aa).f0,wrap64 (ae + 1),(rd_T72 y164 aa).f2⟩ : S72) : List (S72))).bind fun y165 => ((laws_markText.f k1 (wrap64 ((wrap64 (ae + 1)) + 1))).bind fun t166 => (laws_markOrdinalRuleS.l0 k1 (y165.set (aa : Int).toNat (⟨(rd_T72 y165 aa).f0,(rd_T72 y165 aa).f1,t166⟩ : S72)) (wrap64 ((wrap64 ((wrap64 (ae + 1)) + 1)) + 1)) (wrap64 (aa + 1))))) = some (r1,r2) := (by first|(rw [af];with_reducible exact H)|(have H2_ := (Option.bind_some _ _).symm.trans H;rw [af];with_reducible exact H2_)|(have H2_ := (Option.bind_some _ _).symm.trans H;with_reducible exact H2_)|with_reducible exact H|(rw [af];exact H)|exact H);have aN := aM af;clear af;obtain ⟨y165,ag⟩ : ∃ y_ : List (S72),y_ = (y164.set (aa : Int).toNat (⟨(rd_T72 y164 aa).f0,wrap64 (ae + 1),(rd_T72 y164 aa).f2⟩ : S72)) := ⟨_,rfl⟩;replace H : ((laws_markText.f k1 (wrap64 ((wrap64 (ae + 1)) + 1))).bind fun t166 => (laws_markOrdinalRuleS.l0 k1 (y165.set (aa : Int).toNat (⟨(rd_T72 y165 aa).f0,(rd_T72 y165 aa).f1,t166⟩ : S72)) (wrap64 ((wrap64 ((wrap64 (ae + 1)) + 1)) + 1)) (wrap64 (aa + 1)))) = some (r1,r2) := (by first|(rw [ag];with_reducible exact H)|(have H2_ := (Option.bind_some _ _).symm.trans H;rw [ag];with_reducible exact H2_)|(have H2_ := (Option.bind_some _ _).symm.trans H;with_reducible exact H2_)|with_reducible exact H|(rw [ag];exact H)|exact H);have aO := aM ag;clear ag;obtain ⟨t166,A7,H⟩ := bE_ H;obtain ⟨aB,ah⟩ : ∃ y_ : List (S72),y_ = (y165.set (aa : Int).toNat (⟨(rd_T72 y165 aa).f0,(rd_T72 y165 aa).f1,t166⟩ : S72)) := ⟨_,rfl⟩;replace H : (laws_markOrdinalRuleS.l0 k1 aB (wrap64 ((wrap64 ((wrap64 (ae + 1)) + 1)) + 1)) (wrap64 (aa + 1))) = some (r1,r2) := (by first|(rw [ah];with_reducible exact H)|(have H2_ := (Option.bind_some _ _).symm.trans H;rw [ah];with_reducible exact H2_)|(have H2_ := (Option.bind_some _ _).symm.trans H;with_reducible exact H2_)|with_reducible exact H|(rw [ah];exact H)|exact H);have aP := aM ah;clear ah;have H' := aM H;clear H;obtain ⟨aW,ai,aC⟩ := Kd.R_slice ac.out;subst aC;have p5 : 0 ≤ (aa : Int) := oD (by assumption);have q5 : (aa : Int) < ((ab.length : Int) : Int) := oD (by assumption);obtain ⟨go5,co5,eo5,gb5,gl5,cl5,HG5⟩ := Kd.R_form ac.out (by omega);(first|cases eo5|(injection eo5 with ea_ en_ ec_;(first|subst ea_|(injection ea_ with ea_;subst ea_));subst ec_;clear en_));have GB5 := aM gb5;have GG5 := aM HG5;clear gb5 gl5 HG5;have HMgo5 := aM (show (P0_ go5 ∨ w.heap.size ≤ go5) from (ac.out.1 _ rfl));obtain ⟨ce5,aX,hM5,am,an⟩ := Kd.R_elem ac.out z72 (aa : Int) p5 q5;obtain rfl := k72_openM hM5;have hx5_0 : wr.cell? ⟨go5,(aa : Int).toNat * 3,none⟩ = some (.int .i64 ((rd_T72 ab aa).f0)) := am 0 _ rfl;have hx5_1 : wr.cell? ⟨go5,(aa : Int).toNat * 3 + 1,none⟩ = some (.int .i64 ((rd_T72 ab aa).f1)) := am 1 _ rfl;have hx5_2 : wr.cell? ⟨go5,(aa : Int).toNat * 3 + 2,none⟩ = some (.string ((rd_T72 ab aa).f2)) := am 2 _ rfl;have hf5_0 : wr.frozen? ⟨go5,(aa : Int).toNat * 3,none⟩ = false := an 0;have hf5_1 : wr.frozen? ⟨go5,(aa : Int).toNat * 3 + 1,none⟩ = false := an 1;have hf5_2 : wr.frozen? ⟨go5,(aa : Int).toNat * 3 + 2,none⟩ = false := an 2;clear aX am an hM5;replace p5 := eq_true p5;replace q5 := eq_true q5;have aQ := aM (show Kd.R k72 72 wr w0.heap.size (fun k_ => (P0_ k_ ∨ w.heap.size ≤ k_)) (.slice (some ⟨go5,0,none⟩) ab.length ai) ab from (ho_ ac.out));obtain ⟨ce10,av,aR,aj,aw⟩ := Kd.R_elem aQ.out z72 (aa : Int) (oD (by assumption)) (by have h_ : (aa : Int) < ((ab.length : Int) : Int) := oD (by assumption);first|exact h_|(have e_ := (rR ac.out).1;omega)|simpa using h_);obtain rfl := k72_openM aR;have aD := Kd.R_seg aQ.out (aa : Int) (oD (by assumption)) (by have h_ : (aa : Int) < ((ab.length : Int) : Int) := oD (by assumption);first|exact h_|(have e_ := (rR ac.out).1;omega)|simpa using h_) (seg := [.int .i64 ae]) (j := 0) av aj (show 1 ≤ 3 from by decide) (x' := (⟨ae,(rd_T72 ab aa).f1,(rd_T72 ab aa).f2⟩ : S72)) (k72_mkM _ _ _ (⟨ae,(rd_T72 ab aa).f1,(rd_T72 ab aa).f2⟩ : S72) ) (fun _ hk => hk);have aE := aj 0 _ rfl;(try simp only [show (k72).sz = 3 from rfl,Nat.mul_one,Nat.add_zero] at aE);have aF := aw 0;(try simp only [show (k72).sz = 3 from rfl,Nat.mul_one,Nat.add_zero] at aF);clear av aj aw aR;go_wp2_with (first|((with_reducible refine gate_store (t := 3) (p := 16) rfl ?_);refine store_event (t := 3) (p := 16) (v := ?vo_w11) (w1 := (wr.setCell ⟨go5,(aa : Int).toNat * 3,none⟩ (.int .i64 ae))) ?hg ?ho ?hn ?hr ?_;(case ho => rfl);(case hg => rfl);(case hn => rfl);(case hr => first|(go_simp;done)|(go_simp;rfl));intro w11 hw;have hg : wr.grownBy w11 (some go5) := (by rw [hw];exact aD.2);have hp_ : Kd.R k72 72 w11 w0.heap.size (fun k_ => (P0_ k_ ∨ w.heap.size ≤ k_)) (.slice (some ⟨go5,0,none⟩) ab.length ai) y164 := (by rw [hw,aN.out];exact aD.1);clear aD;replace HB := aM ((by rw [hw];exact lS (HB.out) GB5.out : Below w0.heap.size w0 w11));replace HK := aM (Kept.of_grown (S := (fun k_ => P0_ k_)) hg (by repeat (first|(with_reducible first|exact HK.out|apply Kept.alloc|apply Kept.drewN|apply Kept.drew)|exact HK.out)) (fun k_ e_ => (ac.out.1 k_ e_)));replace ac := aM (hp_);clear hg hw hp_;have p6 : 0 ≤ (aa : Int) := oD (by assumption);have q6 : (aa : Int) < ((ab.length : Int) : Int) := oD (by assumption);obtain ⟨ce6,aY,hM6,ao,ap⟩ := Kd.R_elem ac.out z72 (aa : Int) p6 q6;obtain rfl := k72_openM hM6;have hx6_0 : w11.cell? ⟨go5,(aa : Int).toNat * 3,none⟩ = some (.int .i64 ((rd_T72 y164 aa).f0)) := ao 0 _ rfl;have hx6_1 : w11.cell? ⟨go5,(aa : Int).toNat * 3 + 1,none⟩ = some (.int .i64 ((rd_T72 y164 aa).f1)) := ao 1 _ rfl;have hx6_2 : w11.cell? ⟨go5,(aa : Int).toNat * 3 + 2,none⟩ = some (.string ((rd_T72 y164 aa).f2)) := ao 2 _ rfl;have hf6_0 : w11.frozen? ⟨go5,(aa : Int).toNat * 3,none⟩ = false := ap 0;have hf6_1 : w11.frozen? ⟨go5,(aa : Int).toNat * 3 + 1,none⟩ = false := ap 1;have hf6_2 : w11.frozen? ⟨go5,(aa : Int).toNat * 3 + 2,none⟩ = false := ap 2;clear aY ao ap hM6;replace p6 := eq_true p6;replace q6 := eq_true q6;have aS := aM (show Kd.R k72 72 w11 w0.heap.size (fun k_ => (P0_ k_ ∨ w.heap.size ≤ k_)) (.slice (some ⟨go5,0,none⟩) ab.length ai) y164 from (ho_ ac.out));obtain ⟨ce12,ax,aT,ak,ay⟩ := Kd.R_elem aS.out z72 (aa : Int) (oD (by assumption)) (by have h_ : (aa : Int) < ((ab.length : Int) : Int) := oD (by assumption);first|exact h_|(have e_ := (rR ac.out).1;omega)|simpa using h_);obtain rfl := k72_openM aT;have aG := Kd.R_seg aS.out (aa : Int) (oD (by assumption)) (by have h_ : (aa : Int) < ((ab.length : Int) : Int) := oD (by assumption);first|exact h_|(have e_ := (rR ac.out).1;omega)|simpa using h_) (seg := [.int .i64 (wrap64 (ae + 1))]) (j := 1) ax ak (show 2 ≤ 3 from by decide) (x' := (⟨(rd_T72 y164 aa).f0,wrap64 (ae + 1),(rd_T72 y164 aa).f2⟩ : S72)) (k72_mkM _ _ _ (⟨(rd_T72 y164 aa).f0,wrap64 (ae + 1),(rd_T72 y164 aa).f2⟩ : S72) ) (fun _ hk => hk);have aH := ak 1 _ rfl;(try simp only [show (k72).sz = 3 from rfl,Nat.mul_one,Nat.add_zero] at aH);have aI := ay 1;(try simp only [show (k72).sz = 3 from rfl,Nat.mul_one,Nat.add_zero] at aI);clear ax ak ay aT)|((with_reducible refine gate_store (t := 3) (p := 23) rfl ?_);refine store_event (t := 3) (p := 23) (v := ?vo_w13) (w1 := (w11.setCell ⟨go5,(aa : Int).toNat * 3 + 1,none⟩ (.int .i64 (wrap64 (ae + 1))))) ?hg ?ho ?hn ?hr ?_;(case ho => rfl);(case hg => rfl);(case hn => rfl);(case hr => first|(go_simp;done)|(go_simp;rfl));intro w13 hw;have hg : w11.grownBy w13 (some go5) := (by rw [hw];exact aG.2);have hp_ : Kd.R k72 72 w13 w0.heap.size (fun k_ => (P0_ k_ ∨ w.heap.size ≤ k_)) (.slice (some ⟨go5,0,none⟩) ab.length ai) y165 := (by rw [hw,aO.out];exact aG.1);clear aG;replace HB := aM ((by rw [hw];exact lS (HB.out) GB5.out : Below w0.heap.size w0 w13));replace HK := aM (Kept.of_grown (S := (fun k_ => P0_ k_)) hg (by repeat (first|(with_reducible first|exact HK.out|apply Kept.alloc|apply Kept.drewN|apply Kept.drew)|exact HK.out)) (fun k_ e_ => (ac.out.1 k_ e_)));replace ac := aM (hp_);clear hg hw hp_)|((with_reducible refine gate_callee (f := 58) rfl ?_);refine goesL_ (some 29) rfl rfl Try.func58 (by kernel_rfl) rfl #[.int .i64 (wrap64 ((wrap64 (ae + 1)) + 1))] rfl (by (try simp only [mT,mC,mN]);first|done|rfl|(simp only [xD,xT];rfl)) ?_;(with_reducible refine (laws_markText.calls k1 (wrap64 ((wrap64 (ae + 1)) + 1)) t166 _ A7.out).mono ?_);rintro e w14 ⟨rfl,hb⟩;refine ⟨_,rfl,?_⟩;replace ac := aM (rB (ho_ ac.out) hb);replace HK := aM (Kept.below (S := (fun k_ => P0_ k_)) (by repeat (first|(with_reducible first|exact HK.out|apply Kept.alloc|apply Kept.drewN|apply Kept.drew)|exact HK.out)) hb);replace HB := aM (lT hb_ hb);(try clear hb);have p8 : 0 ≤ (aa : Int) := oD (by assumption);have q8 : (aa : Int) < ((ab.length : Int) : Int) := oD (by assumption);obtain ⟨ce8,aZ,hM8,ar,au⟩ := Kd.R_elem ac.out z72 (aa : Int) p8 q8;obtain rfl := k72_openM hM8;have hx8_0 : w14.cell? ⟨go5,(aa : Int).toNat * 3,none⟩ = some (.int .i64 ((rd_T72 y165 aa).f0)) := ar 0 _ rfl;have hx8_1 : w14.cell? ⟨go5,(aa : Int).toNat * 3 + 1,none⟩ = some (.int .i64 ((rd_T72 y165 aa).f1)) := ar 1 _ rfl;have hx8_2 : w14.cell? ⟨go5,(aa : Int).toNat * 3 + 2,none⟩ = some (.string ((rd_T72 y165 aa).f2)) := ar 2 _ rfl;have hf8_0 : w14.frozen? ⟨go5,(aa : Int).toNat * 3,none⟩ = false := au 0;have hf8_1 : w14.frozen? ⟨go5,(aa : Int).toNat * 3 + 1,none⟩ = false := au 1;have hf8_2 : w14.frozen? ⟨go5,(aa : Int).toNat * 3 + 2,none⟩ = false := au 2;clear aZ ar au hM8;replace p8 := eq_true p8;replace q8 := eq_true q8;have aU := aM (show Kd.R k72 72 w14 w0.heap.size (fun k_ => (P0_ k_ ∨ w.heap.size ≤ k_)) (.slice (some ⟨go5,0,none⟩) ab.length ai) y165 from (ho_ ac.out));obtain ⟨ce15,az,aV,al,aA⟩ := Kd.R_elem aU.out z72 (aa : Int) (oD (by assumption)) (by have h_ : (aa : Int) < ((ab.length : Int) : Int) := oD (by assumption);first|exact h_|(have e_ := (rR ac.out).1;omega)|simpa using h_);obtain rfl := k72_openM aV;have aJ := Kd.R_seg aU.out (aa : Int) (oD (by assumption)) (by have h_ : (aa : Int) < ((ab.length : Int) : Int) := oD (by assumption);first|exact h_|(have e_ := (rR ac.out).1;omega)|simpa using h_) (seg := [.string t166]) (j := 2) az al (show 3 ≤ 3 from by decide) (x' := (⟨(rd_T72 y165 aa).f0,(rd_T72 y165 aa).f1,t166⟩ : S72)) (k72_mkM _ _ _ (⟨(rd_T72 y165 aa).f0,(rd_T72 y165 aa).f1,t166⟩ : S72) ) (fun _ hk => hk);have aK := al 2 _ rfl;(try simp only [show (k72).sz = 3 from rfl,Nat.mul_one,Nat.add_zero] at aK);have aL := aA 2;(try simp only [show (k72).sz = 3 from rfl,Nat.mul_one,Nat.add_zero] at aL);clear az al aA aV)|((with_reducible refine gate_store (t := 9) (p := 31) rfl ?_);refine store_event (t := 9) (p := 31) (v := ?vo_w16) (w1 := (w14.setCell ⟨go5,(aa : Int).toNat * 3 + 2,none⟩ (.string t166))) ?hg ?ho ?hn ?hr ?_;(case ho => rfl);(case hg => rfl);(case hn => rfl);(case hr => first|(go_simp;done)|(go_simp;rfl));intro w16 hw;have hg : w14.grownBy w16 (some go5) := (by rw [hw];exact aJ.2);have hp_ : Kd.R k72 72 w16 w0.heap.size (fun k_ => (P0_ k_ ∨ w.heap.size ≤ k_)) (.slice (some ⟨go5,0,none⟩) ab.length ai) aB := (by rw [hw,aP.out];exact aJ.1);clear aJ;replace HB := aM ((by rw [hw];exact lS (HB.out) GB5.out : Below w0.heap.size w0 w16));replace HK := aM (Kept.of_grown (S := (fun k_ => P0_ k_)) hg (by repeat (first|(with_reducible first|exact HK.out|apply Kept.alloc|apply Kept.drewN|apply Kept.drew)|exact HK.out)) (fun k_ e_ => (ac.out.1 k_ e_)));replace ac := aM (hp_);clear hg hw hp_));go_roundg k1
     case measure => have := HK1.out;omega
     case rel => exact ⟨(aB),(wrap64 ((wrap64 ((wrap64 (ae + 1)) + 1)) + 1)),(wrap64 (aa + 1)),(by first|rfl|(simp [*];done)),(by first|rfl|(simp [*];done)),H',⟨by have := HK1.out;omega⟩,⟨by (with_reducible repeat (first|apply rA|apply rN|apply rD));exact ac.out⟩,⟨by repeat (first|(with_reducible first|exact HK.out|apply Kept.alloc|apply Kept.drewN|apply Kept.drew)|exact HK.out)⟩,⟨hb_⟩⟩
    ·rw [if_neg c4] at H;exact absurd H (by simp)
   ·rw [if_neg c3] at H;have c3b0 : decide (aa < (ab.length : Int)) = false := dF c3;clear c3;simp only [eS,eP] at H;obtain ⟨rfl,rfl⟩ := H;obtain ⟨aW,ai,aC⟩ := Kd.R_slice ac.out;subst aC;go_wp2;go_ret;exact ⟨by first|rfl|(simp [*];done),by (with_reducible repeat (first|apply rA|apply rN|apply rD));exact ac.out,hb_,by repeat (first|(with_reducible first|exact HK.out|apply Kept.alloc|apply Kept.drewN|apply Kept.drew)|exact HK.out)⟩
def laws_markLocale.f (k : Nat) (a0_0 : ByteArray) (l0_1 : List (S61)) (l0_2 : List (S72)) (a0_3 : ByteArray) (a0_4 : ByteArray) (a1 : Int) : Option (Int × (List (S61)) × (List (S72))) := (laws_markTermS.f k l0_1 a1).bind fun bt169 => ((laws_markOrdinalRuleS.f k l0_2 bt169.1).bind fun bt171 => (some (bt171.1,bt169.2,bt171.2)))
theorem laws_markLocale.mono : ∀ a0 a1 a2 a3 a4 a5 k,LeO (laws_markLocale.f k a0 a1 a2 a3 a4 a5) (laws_markLocale.f (k + 1) a0 a1 a2 a3 a4 a5) := by
 intro a0 a1 a2 a3 a4 a5 k
 unfold laws_markLocale.f
 repeat' first
   | (with_reducible exact laws_markOrdinalRuleS.mono _ _ _)
   | (with_reducible exact laws_markTermS.mono _ _ _)
   | (with_reducible exact LeO.refl _)
   | (with_reducible exact LeO.none _)
   | (with_reducible refine LeO.ite ?_ ?_)
   | (with_reducible refine LeO.bind ?_ (fun _ => ?_))
   | exact laws_markOrdinalRuleS.mono _ _ _
   | exact laws_markTermS.mono _ _ _
   | exact LeO.none _
   | refine LeO.ite ?_ ?_
   | refine LeO.bind ?_ (fun _ => ?_)
set_option maxHeartbeats 8000000 in
set_option maxRecDepth 100000 in
theorem laws_markLocale.calls (k : Nat) (a0_0 : ByteArray) (P0_1_ : Nat → Prop) (u9000_ : Value) (l0_1 : List (S61)) (P0_2_ : Nat → Prop) (u9001_ : Value) (l0_2 : List (S72)) (a0_3 : ByteArray) (a0_4 : ByteArray) (a1 : Int) (r1 : Int) (r2 : List (S61)) (r3 : List (S72)) (w0 w : World) (hB : Below w0.heap.size w0 w) (ho0_1 : Kd.R k61 61 w w0.heap.size P0_1_ u9000_ l0_1) (ho0_2 : Kd.R k72 72 w w0.heap.size P0_2_ u9001_ l0_2) (h : laws_markLocale.f k a0_0 l0_1 l0_2 a0_3 a0_4 a1 = some (r1,r2,r3)) :
  Calls Try.prog 24 #[.agg #[.string a0_0,u9000_,u9001_,.string a0_3,.string a0_4],.int .i64 a1] w fun e w' => e = .returned (.int .i64 r1) ∧ Kd.R k61 61 w' w0.heap.size (fun k_ => ((P0_1_ k_ ∨ P0_2_ k_) ∨ w.heap.size ≤ k_)) u9000_ r2 ∧ Kd.R k72 72 w' w0.heap.size (fun k_ => ((P0_1_ k_ ∨ P0_2_ k_) ∨ w.heap.size ≤ k_)) u9001_ r3 ∧ Below w0.heap.size w0 w' ∧ Kept w w' (fun k_ => P0_1_ k_ ∨ P0_2_ k_) := by
 have hu31 := Try.underlying31;have HO0_1 := aM (show Kd.R k61 61 w w0.heap.size (fun k_ => ((P0_1_ k_ ∨ P0_2_ k_) ∨ w.heap.size ≤ k_)) u9000_ l0_1 from Kd.R_mono ho0_1 (fun k_ hk => (.inl (.inl hk))));have HO0_2 := aM (show Kd.R k72 72 w w0.heap.size (fun k_ => ((P0_1_ k_ ∨ P0_2_ k_) ∨ w.heap.size ≤ k_)) u9001_ l0_2 from Kd.R_mono ho0_2 (fun k_ hk => (.inl (.inr hk))));have HK := aM (Kept.refl w (fun k_ => P0_1_ k_ ∨ P0_2_ k_));have HW0 := aM hB.size;have HB := aM hB;clear hB;have H : ((laws_markTermS.f k l0_1 a1).bind fun bt169 => ((laws_markOrdinalRuleS.f k l0_2 bt169.1).bind fun bt171 => (some (bt171.1,bt169.2,bt171.2)))) = some (r1,r2,r3) := h;clear h;replace H := Option.bind_eq_some_iff.mp H;obtain ⟨⟨t169,t170⟩,A30,H⟩ := H;replace H : ((laws_markOrdinalRuleS.f k l0_2 t169).bind fun bt171 => (some (bt171.1,t170,bt171.2))) = some (r1,r2,r3) := H;have A3 := aM A30;clear A30;replace H := Option.bind_eq_some_iff.mp H;obtain ⟨⟨t171,t172⟩,A40,H⟩ := H;replace H : (some (t171,t170,t172)) = some (r1,r2,r3) := H;have A4 := aM A40;clear A40;simp only [eS,eP] at H;obtain ⟨rfl,rfl,rfl⟩ := H;obtain ⟨Ao5,co5,eo5⟩ := Kd.R_slice HO0_1.out;subst eo5;obtain ⟨Ao6,co6,eo6⟩ := Kd.R_slice HO0_2.out;subst eo6;go_enter Try.func24,Try.ntmps24;go_wp2_with (first|((with_reducible refine gate_dst (N := 2) rfl ?_);refine box_event ?hg (N := 2) ?hd (cs := #[.string a0_0,.slice Ao5 l0_1.length co5,.slice Ao6 l0_2.length co6,.string a0_3,.string a0_4]) (t := 31) ?hr ?_;(case hd => rfl);(case hg => rfl);(case hr => first|(go_simp;done)|(go_simp;rfl));intro gb168 hg w7 hbox hb;have BK168 := aM (hbox);have GW168 := aM ((by rw [hg];exact (by first|exact HK.out.1|exact (show Kept w _ (fun k_ => P0_1_ k_ ∨ P0_2_ k_) from by repeat (first|(with_reducible first|exact HK.out|apply Kept.alloc|apply Kept.drewN|apply Kept.drew)|exact HK.out)).1) : w.heap.size ≤ gb168));have GE168 := aM ((by rw [hg];exact (lZ hb_) : w0.heap.size ≤ gb168));replace HO0_1 := aM (rB (ho_ HO0_1.out) hb);replace HO0_2 := aM (rB (ho_ HO0_2.out) hb);replace HK := aM (Kept.below (S := (fun k_ => P0_1_ k_ ∨ P0_2_ k_)) (by repeat (first|(with_reducible first|exact HK.out|apply Kept.alloc|apply Kept.drewN|apply Kept.drew)|exact HK.out)) hb);replace HB := aM (lT hb_ hb);clear hb hbox hg;obtain ⟨hcz8_0,hcz8_1,hcz8_2,hcz8_3,hcz8_4,hfz8_0,hfz8_1,hfz8_2,hfz8_3,hfz8_4⟩ := z5_ BK168.out)|((with_reducible refine gate_callee (f := 56) rfl ?_);refine goesL_ (some 8) rfl rfl Try.func56 (by kernel_rfl) rfl #[.slice Ao5 l0_1.length co5,.int .i64 a1] rfl (by (try simp only [mT,mC,mN]);first|done|rfl|(simp only [xD,xT];rfl)) ?_;(with_reducible refine (laws_markTermS.calls k (fun k_ => some k_ = (.slice Ao5 l0_1.length co5 : Value).ownBlock) (.slice Ao5 l0_1.length co5) l0_1 a1 t169 t170 w0 _ ?side1 ?side2 A3.out).mono ?_);(case side1 => repeat (first|(with_reducible first|exact HB.out|apply lA|apply lN|apply lD|refine lS ?_ GE168.out)|exact HB.out));(case side2 => exact Kd.R_tight rfl HO0_1.out);rintro e w9 ⟨rfl,hy0,hb,hkp⟩;refine ⟨_,rfl,?_⟩;replace HO0_2 := aM (Kd.R_mono (ok' := fun k_ => ((P0_1_ k_ ∨ P0_2_ k_) ∨ w.heap.size ≤ k_)) (Kd.R_keptB ((Kd.R_apart' HO0_2.out (Kd.R_typed HO0_1.out) (by decide))) hkp (fun k_ hk_ hs_ => (hk_.2) hs_)) (fun k_ hk_ => hk_.1.1));replace BK168 := aM (blk_kept (bk_ BK168.out) hkp (fun hs_ => (fun e_ => (Kd.R_ne HO0_1.out BK168.out (by decide)) e_) hs_));replace HK := aM (Kept.then_ (S := (fun k_ => P0_1_ k_ ∨ P0_2_ k_)) (by repeat (first|(with_reducible first|exact HK.out|apply Kept.alloc|apply Kept.drewN|apply Kept.drew|refine Kept.setCell ?_ (.inr GW168.out) _)|exact HK.out)) hkp (fun k_ hs_ => (fun e_ => (HO0_1.out.1 k_ e_.symm)) hs_));replace HO0_1 := aM (Kd.R_reok rfl hy0 (fun k_ e_ => HO0_1.out.1 k_ e_));replace HB := aM (hb);(try clear hb);(try clear hkp);(try clear hy0);obtain ⟨hcz10_0,hcz10_1,hcz10_2,hcz10_3,hcz10_4,hfz10_0,hfz10_1,hfz10_2,hfz10_3,hfz10_4⟩ := z5_ BK168.out)|((with_reducible refine gate_callee (f := 57) rfl ?_);refine goesL_ (some 12) rfl rfl Try.func57 (by kernel_rfl) rfl #[.slice Ao6 l0_2.length co6,.int .i64 t169] rfl (by (try simp only [mT,mC,mN]);first|done|rfl|(simp only [xD,xT];rfl)) ?_;(with_reducible refine (laws_markOrdinalRuleS.calls k (fun k_ => some k_ = (.slice Ao6 l0_2.length co6 : Value).ownBlock) (.slice Ao6 l0_2.length co6) l0_2 t169 t171 t172 w0 _ ?side1 ?side2 A4.out).mono ?_);(case side1 => repeat (first|(with_reducible first|exact HB.out|apply lA|apply lN|apply lD|refine lS ?_ GE168.out)|exact HB.out));(case side2 => exact Kd.R_tight rfl HO0_2.out);rintro e w11 ⟨rfl,hy0,hb,hkp⟩;refine ⟨_,rfl,?_⟩;replace HO0_1 := aM (Kd.R_mono (ok' := fun k_ => ((P0_1_ k_ ∨ P0_2_ k_) ∨ w.heap.size ≤ k_)) (Kd.R_keptB ((Kd.R_apart' HO0_1.out (Kd.R_typed HO0_2.out) (by decide))) hkp (fun k_ hk_ hs_ => (hk_.2) hs_)) (fun k_ hk_ => hk_.1.1));replace BK168 := aM (blk_kept (bk_ BK168.out) hkp (fun hs_ => (fun e_ => (Kd.R_ne HO0_2.out BK168.out (by decide)) e_) hs_));replace HK := aM (Kept.then_ (S := (fun k_ => P0_1_ k_ ∨ P0_2_ k_)) (by repeat (first|(with_reducible first|exact HK.out|apply Kept.alloc|apply Kept.drewN|apply Kept.drew|refine Kept.setCell ?_ (.inr GW168.out) _)|exact HK.out)) hkp (fun k_ hs_ => (fun e_ => (HO0_2.out.1 k_ e_.symm)) hs_));replace HO0_2 := aM (Kd.R_reok rfl hy0 (fun k_ e_ => HO0_2.out.1 k_ e_));replace HB := aM (hb);(try clear hb);(try clear hkp);(try clear hy0)));go_ret;exact ⟨by first|rfl|(simp [*];done),by (with_reducible repeat (first|apply rA|apply rN|apply rD));exact HO0_1.out,by (with_reducible repeat (first|apply rA|apply rN|apply rD));exact HO0_2.out,hb_,by repeat (first|(with_reducible first|exact HK.out|apply Kept.alloc|apply Kept.drewN|apply Kept.drew|refine Kept.setCell ?_ (.inr GW168.out) _)|exact HK.out)⟩
def spec_l1In.f (a0 : Int) (a1 : Int) (a2 : Int) : Option (Bool) := if a0 ≥ a1 then (some (decide (a0 ≤ a2))) else (some false)
set_option maxHeartbeats 8000000 in
set_option maxRecDepth 100000 in
theorem spec_l1In.calls (a0 : Int) (a1 : Int) (a2 : Int) (r : Bool) (w : World) (h : spec_l1In.f a0 a1 a2 = some r) :
  Calls Try.prog 49 #[.int .i64 a0,.int .i64 a1,.int .i64 a2] w fun e w' => e = .returned (.bool r) ∧ Drawn0 w w' := by
 have H : (if a0 ≥ a1 then (some (decide (a0 ≤ a2))) else (some false)) = some r := h;clear h
 by_cases c4 : a0 ≥ a1
 focus
  rw [if_pos c4] at H;have c4b0 : decide (a1 ≤ a0) = true := dT c4;clear c4;obtain rfl := Option.some.inj H;simp only [eS,eP] at H;obtain ⟨rfl⟩ := H
 rotate_left
 focus
  rw [if_neg c4] at H;have c4b0 : decide (a1 ≤ a0) = false := dF c4;clear c4;obtain rfl := Option.some.inj H;simp only [eS,eP] at H;obtain ⟨rfl⟩ := H
 all_goals
  go_enter Try.func49,Try.ntmps49;go_wp2;go_ret;exact ⟨by first|rfl|(simp [*];done),by repeat (first|exact Drawn0.refl _|apply Drawn0.step)⟩
def spec_l23Bytes.l0 : Nat → ByteArray → Int → Int → Int → Int → Option (Bool)
 | 0,_,_,_,_,_ => none
 | k + 1,x0,x1,x2,x3,x9 => if x9 < (x0.size : Int) then (if 0 ≤ x9 then (if (bt x0 x9) < x3 then (some false) else (if (bt x0 x9) > 126 then (some false) else (spec_l23Bytes.l0 k x0 x1 x2 x3 (wrap64 (x9 + 1))))) else (none)) else ((spec_l1In.f (x0.size : Int) x1 x2).bind fun t173 => (some t173))
def spec_l23Bytes.f (k : Nat) (a0 : ByteArray) (a1 : Int) (a2 : Int) (a3 : Int) : Option (Bool) := spec_l23Bytes.l0 k a0 a1 a2 a3 0
theorem spec_l23Bytes.mono_l : ∀ k,(∀ y0 y1 y2 y3 y4,LeO (spec_l23Bytes.l0 k y0 y1 y2 y3 y4) (spec_l23Bytes.l0 (k + 1) y0 y1 y2 y3 y4))
 | 0 => fun _ _ _ _ _ r h => by simp [spec_l23Bytes.l0] at h
 | k + 1 => by
  have ih0 := spec_l23Bytes.mono_l k
  ·intro y0 y1 y2 y3 y4
   unfold spec_l23Bytes.l0
   repeat' first
   | (with_reducible exact ih0 _ _ _ _ _)
   | (with_reducible exact LeO.refl _)
   | (with_reducible exact LeO.none _)
   | (with_reducible refine LeO.ite ?_ ?_)
   | (with_reducible refine LeO.bind ?_ (fun _ => ?_))
   | exact ih0 _ _ _ _ _
   | exact LeO.none _
   | refine LeO.ite ?_ ?_
   | refine LeO.bind ?_ (fun _ => ?_)
theorem spec_l23Bytes.mono : ∀ a0 a1 a2 a3 k,LeO (spec_l23Bytes.f k a0 a1 a2 a3) (spec_l23Bytes.f (k + 1) a0 a1 a2 a3) := by
 intro a0 a1 a2 a3 k
 have ih0 := spec_l23Bytes.mono_l k
 unfold spec_l23Bytes.f
 repeat' first
   | (with_reducible exact ih0 _ _ _ _ _)
   | (with_reducible exact LeO.refl _)
   | (with_reducible exact LeO.none _)
   | (with_reducible refine LeO.ite ?_ ?_)
   | (with_reducible refine LeO.bind ?_ (fun _ => ?_))
   | exact ih0 _ _ _ _ _
   | exact LeO.none _
   | refine LeO.ite ?_ ?_
   | refine LeO.bind ?_ (fun _ => ?_)
set_option maxHeartbeats 8000000 in
set_option maxRecDepth 100000 in
theorem spec_l23Bytes.calls (k : Nat) (a0 : ByteArray) (a1 : Int) (a2 : Int) (a3 : Int) (r : Bool) (w : World) (h : spec_l23Bytes.f k a0 a1 a2 a3 = some r) :
  Calls Try.prog 59 #[.string a0,.int .i64 a1,.int .i64 a2,.int .u8 a3] w fun e w' => e = .returned (.bool r) ∧ Drawn0 w w' := by
 have H : (spec_l23Bytes.l0 k a0 a1 a2 a3 0) = some r := h;clear h;have H' := aM H;clear H;go_enter Try.func59,Try.ntmps59;go_wp2;go_loopg [9] k (fun kq v9 w' => ∃ (x9_1 : Int),v9 = .int .i64 x9_1 ∧ Aside0 (spec_l23Bytes.l0 kq a0 a1 a2 a3 x9_1 = some r) ∧ Aside0 (kq ≤ k) ∧ Drawn0 w w')
 case atStart => exact ⟨(0),(by first|rfl|(simp [*];done)),H',⟨Nat.le_refl _⟩,by repeat (first|exact Drawn0.refl _|apply Drawn0.step)⟩
 case round =>
  clear H';(try clear p2);obtain ⟨x9_1,rfl,HA,HK1,⟨m1,rfl⟩⟩ := hrel
  cases gk with
  | zero => exact absurd HA.out (by simp [spec_l23Bytes.l0])
  | succ k1 =>
   have H := HA.out;clear HA;simp only [spec_l23Bytes.l0] at H
   by_cases c5 : x9_1 < (a0.size : Int)
   focus
    rw [if_pos c5] at H;have c5b0 : decide (x9_1 < (a0.size : Int)) = true := dT c5;clear c5
    by_cases c6 : 0 ≤ x9_1
    rotate_left;rw [if_neg c6] at H;exact absurd H (by simp);rw [if_pos c6] at H;have c6b0 : decide (0 ≤ x9_1) = true := dT c6;clear c6
    by_cases c8 : (bt a0 x9_1) < a3
    focus
     rw [if_pos c8] at H;have c8b0 : decide ((bt a0 x9_1) < a3) = true := dT c8;clear c8;obtain rfl := Option.some.inj H;simp only [eS,eP] at H;obtain ⟨rfl⟩ := H
    rotate_left
    focus
     rw [if_neg c8] at H;have c8b0 : decide ((bt a0 x9_1) < a3) = false := dF c8;clear c8
     by_cases c10 : (bt a0 x9_1) > 126
     focus
      rw [if_pos c10] at H;have c10b0 : decide (126 < (bt a0 x9_1)) = true := dT c10;clear c10;obtain rfl := Option.some.inj H;simp only [eS,eP] at H;obtain ⟨rfl⟩ := H
     rotate_left
     focus
      rw [if_neg c10] at H;have c10b0 : decide (126 < (bt a0 x9_1)) = false := dF c10;clear c10;have H' := aM H;clear H
   rotate_left 3
   focus
    rw [if_neg c5] at H;have c5b0 : decide (x9_1 < (a0.size : Int)) = false := dF c5;clear c5;obtain ⟨t173,A11,H⟩ := bE_ H;obtain rfl := Option.some.inj H;simp only [eS,eP] at H;obtain ⟨rfl⟩ := H
   all_goals
    (try (have p01 : 0 ≤ (x9_1 : Int) := oD (by assumption);have q01 : x9_1 < (a0.size : Int) := oD (by assumption);have hx01 := bt_at a0 x9_1;replace p01 := eq_true p01;replace q01 := eq_true q01));go_wp2_with (first|((with_reducible refine gate_callee (f := 49) rfl ?_);refine goesL_ (some 31) rfl rfl Try.func49 (by kernel_rfl) rfl #[.int .i64 (a0.size : Int),.int .i64 a1,.int .i64 a2] rfl (by (try simp only [mT,mC,mN]);first|done|rfl|(simp only [xD,xT];rfl)) ?_;(with_reducible refine (spec_l1In.calls _ _ _ _ _ A11.out).mono ?_);rintro e w' ⟨rfl,⟨nd,rfl⟩⟩;refine ⟨_,rfl,?_⟩))
    first
     |
      go_ret;exact ⟨by first|rfl|(simp [*];done),by repeat (first|exact Drawn0.refl _|apply Drawn0.step)⟩
     |
      go_roundg k1
      case measure => have := HK1.out;omega
      case rel => exact ⟨(wrap64 (x9_1 + 1)),(by first|rfl|(simp [*];done)),H',⟨by have := HK1.out;omega⟩,by repeat (first|exact Drawn0.refl _|apply Drawn0.step)⟩
def spec_l23Key.l0 : Nat → ByteArray → Int → Option (Bool)
 | 0,_,_ => none
 | k + 1,x0,x3 => if x3 < (x0.size : Int) then (if 0 ≤ x3 then (if (bt x0 x3) < 97 then (some false) else (if (bt x0 x3) > 122 then (some false) else (spec_l23Key.l0 k x0 (wrap64 (x3 + 1))))) else (none)) else ((spec_l1In.f (x0.size : Int) 1 10).bind fun t174 => (some t174))
def spec_l23Key.f (k : Nat) (a0 : ByteArray) : Option (Bool) := spec_l23Key.l0 k a0 0
theorem spec_l23Key.mono_l : ∀ k,(∀ y0 y1,LeO (spec_l23Key.l0 k y0 y1) (spec_l23Key.l0 (k + 1) y0 y1))
 | 0 => fun _ _ r h => by simp [spec_l23Key.l0] at h
 | k + 1 => by
  have ih0 := spec_l23Key.mono_l k
  ·intro y0 y1
   unfold spec_l23Key.l0
   repeat' first
   | (with_reducible exact ih0 _ _)
   | (with_reducible exact LeO.refl _)
   | (with_reducible exact LeO.none _)
   | (with_reducible refine LeO.ite ?_ ?_)
   | (with_reducible refine LeO.bind ?_ (fun _ => ?_))
   | exact ih0 _ _
   | exact LeO.none _
   | refine LeO.ite ?_ ?_
   | refine LeO.bind ?_ (fun _ => ?_)
theorem spec_l23Key.mono : ∀ a0 k,LeO (spec_l23Key.f k a0) (spec_l23Key.f (k + 1) a0) := by
 intro a0 k
 have ih0 := spec_l23Key.mono_l k
 unfold spec_l23Key.f
 repeat' first
   | (with_reducible exact ih0 _ _)
   | (with_reducible exact LeO.refl _)
   | (with_reducible exact LeO.none _)
   | (with_reducible refine LeO.ite ?_ ?_)
   | (with_reducible refine LeO.bind ?_ (fun _ => ?_))
   | exact ih0 _ _
   | exact LeO.none _
   | refine LeO.ite ?_ ?_
   | refine LeO.bind ?_ (fun _ => ?_)
set_option maxHeartbeats 8000000 in
set_option maxRecDepth 100000 in
theorem spec_l23Key.calls (k : Nat) (a0 : ByteArray) (r : Bool) (w : World) (h : spec_l23Key.f k a0 = some r) :
  Calls Try.prog 70 #[.string a0] w fun e w' => e = .returned (.bool r) ∧ Drawn0 w w' := by
 have H : (spec_l23Key.l0 k a0 0) = some r := h;clear h;have H' := aM H;clear H;go_enter Try.func70,Try.ntmps70;go_wp2;go_loopg [3] k (fun kq v3 w' => ∃ (x3_1 : Int),v3 = .int .i64 x3_1 ∧ Aside0 (spec_l23Key.l0 kq a0 x3_1 = some r) ∧ Aside0 (kq ≤ k) ∧ Drawn0 w w')
 case atStart => exact ⟨(0),(by first|rfl|(simp [*];done)),H',⟨Nat.le_refl _⟩,by repeat (first|exact Drawn0.refl _|apply Drawn0.step)⟩
 case round =>
  clear H';obtain ⟨x3_1,rfl,HA,HK1,⟨m1,rfl⟩⟩ := hrel
  cases gk with
  | zero => exact absurd HA.out (by simp [spec_l23Key.l0])
  | succ k1 =>
   have H := HA.out;clear HA;simp only [spec_l23Key.l0] at H
   by_cases c2 : x3_1 < (a0.size : Int)
   focus
    rw [if_pos c2] at H;have c2b0 : decide (x3_1 < (a0.size : Int)) = true := dT c2;clear c2
    by_cases c3 : 0 ≤ x3_1
    rotate_left;rw [if_neg c3] at H;exact absurd H (by simp);rw [if_pos c3] at H;have c3b0 : decide (0 ≤ x3_1) = true := dT c3;clear c3
    by_cases c5 : (bt a0 x3_1) < 97
    focus
     rw [if_pos c5] at H;have c5b0 : decide ((bt a0 x3_1) < 97) = true := dT c5;clear c5;obtain rfl := Option.some.inj H;simp only [eS,eP] at H;obtain ⟨rfl⟩ := H
    rotate_left
    focus
     rw [if_neg c5] at H;have c5b0 : decide ((bt a0 x3_1) < 97) = false := dF c5;clear c5
     by_cases c7 : (bt a0 x3_1) > 122
     focus
      rw [if_pos c7] at H;have c7b0 : decide (122 < (bt a0 x3_1)) = true := dT c7;clear c7;obtain rfl := Option.some.inj H;simp only [eS,eP] at H;obtain ⟨rfl⟩ := H
     rotate_left
     focus
      rw [if_neg c7] at H;have c7b0 : decide (122 < (bt a0 x3_1)) = false := dF c7;clear c7;have H' := aM H;clear H
   rotate_left 3
   focus
    rw [if_neg c2] at H;have c2b0 : decide (x3_1 < (a0.size : Int)) = false := dF c2;clear c2;obtain ⟨t174,A8,H⟩ := bE_ H;obtain rfl := Option.some.inj H;simp only [eS,eP] at H;obtain ⟨rfl⟩ := H
   all_goals
    (try (have p01 : 0 ≤ (x3_1 : Int) := oD (by assumption);have q01 : x3_1 < (a0.size : Int) := oD (by assumption);have hx01 := bt_at a0 x3_1;replace p01 := eq_true p01;replace q01 := eq_true q01));go_wp2_with (first|((with_reducible refine gate_callee (f := 49) rfl ?_);refine goesL_ (some 22) rfl rfl Try.func49 (by kernel_rfl) rfl #[.int .i64 (a0.size : Int),.int .i64 1,.int .i64 10] rfl (by (try simp only [mT,mC,mN]);first|done|rfl|(simp only [xD,xT];rfl)) ?_;(with_reducible refine (spec_l1In.calls _ _ _ _ _ A8.out).mono ?_);rintro e w' ⟨rfl,⟨nd,rfl⟩⟩;refine ⟨_,rfl,?_⟩))
    first
     |
      go_ret;exact ⟨by first|rfl|(simp [*];done),by repeat (first|exact Drawn0.refl _|apply Drawn0.step)⟩
     |
      go_roundg k1
      case measure => have := HK1.out;omega
      case rel => exact ⟨(wrap64 (x3_1 + 1)),(by first|rfl|(simp [*];done)),H',⟨by have := HK1.out;omega⟩,by repeat (first|exact Drawn0.refl _|apply Drawn0.step)⟩
def spec_l23Term.f (k : Nat) (a0_0 : ByteArray) (a0_1 : ByteArray) (a0_2 : ByteArray) : Option (Bool) := (spec_l23Key.f k a0_0).bind fun t176 => (if t176 = true then ((spec_l23Bytes.f k a0_1 1 20 32).bind fun t177 => (if t177 = true then ((spec_l23Bytes.f k a0_2 1 20 32).bind fun t178 => (some t178)) else (some false))) else (some false))
theorem spec_l23Term.mono : ∀ a0 a1 a2 k,LeO (spec_l23Term.f k a0 a1 a2) (spec_l23Term.f (k + 1) a0 a1 a2) := by
 intro a0 a1 a2 k
 unfold spec_l23Term.f
 repeat' first
   | (with_reducible exact spec_l23Bytes.mono _ _ _ _ _)
   | (with_reducible exact spec_l23Key.mono _ _)
   | (with_reducible exact LeO.refl _)
   | (with_reducible exact LeO.none _)
   | (with_reducible refine LeO.ite ?_ ?_)
   | (with_reducible refine LeO.bind ?_ (fun _ => ?_))
   | exact spec_l23Bytes.mono _ _ _ _ _
   | exact spec_l23Key.mono _ _
   | exact LeO.none _
   | refine LeO.ite ?_ ?_
   | refine LeO.bind ?_ (fun _ => ?_)
set_option maxHeartbeats 8000000 in
set_option maxRecDepth 100000 in
theorem spec_l23Term.calls (k : Nat) (a0_0 : ByteArray) (a0_1 : ByteArray) (a0_2 : ByteArray) (r : Bool) (w : World) (h : spec_l23Term.f k a0_0 a0_1 a0_2 = some r) :
  Calls Try.prog 71 #[.agg #[.string a0_0,.string a0_1,.string a0_2]] w fun e w' => e = .returned (.bool r) ∧ Below w.heap.size w w' := by
 have hu61 := Try.underlying61;have HB := aM (Below.refl w.heap.size w);have H : ((spec_l23Key.f k a0_0).bind fun t176 => (if t176 = true then ((spec_l23Bytes.f k a0_1 1 20 32).bind fun t177 => (if t177 = true then ((spec_l23Bytes.f k a0_2 1 20 32).bind fun t178 => (some t178)) else (some false))) else (some false))) = some r := h;clear h;obtain ⟨t176,A2,H⟩ := bE_ H
 by_cases c3 : t176 = true
 focus
  subst c3;rw [if_pos rfl] at H;obtain ⟨t177,A4,H⟩ := bE_ H
  by_cases c5 : t177 = true
  focus
   subst c5;rw [if_pos rfl] at H;obtain ⟨t178,A6,H⟩ := bE_ H;obtain rfl := Option.some.inj H;simp only [eS,eP] at H;obtain ⟨rfl⟩ := H
  rotate_left
  focus
   replace c5 := Bool.eq_false_iff.mpr c5;subst c5;rw [if_neg Bool.false_ne_true] at H;obtain rfl := Option.some.inj H;simp only [eS,eP] at H;obtain ⟨rfl⟩ := H
 rotate_left 2
 focus
  replace c3 := Bool.eq_false_iff.mpr c3;subst c3;rw [if_neg Bool.false_ne_true] at H;obtain rfl := Option.some.inj H;simp only [eS,eP] at H;obtain ⟨rfl⟩ := H
 all_goals
  go_enter Try.func71,Try.ntmps71;go_wp2_with (first|((with_reducible refine gate_dst (N := 1) rfl ?_);refine box_event ?hg (N := 1) ?hd (cs := #[.string a0_0,.string a0_1,.string a0_2]) (t := 61) ?hr ?_;(case hd => rfl);(case hg => rfl);(case hr => first|(go_simp;done)|(go_simp;rfl));intro gb175 hg Wgb175 hbox hb;have BK175 := aM (hbox);have GW175 := aM ((by rw [hg];exact (lZ hb_) : w.heap.size ≤ gb175));have GE175 := GW175;replace HB := aM (lT hb_ hb);clear hb hbox hg;obtain ⟨hcz175x175_0,hcz175x175_1,hcz175x175_2,hfz175x175_0,hfz175x175_1,hfz175x175_2⟩ := z3_ BK175.out)|((with_reducible refine gate_callee (f := 70) rfl ?_);refine goesL_ (some 5) rfl rfl Try.func70 (by kernel_rfl) rfl #[.string a0_0] rfl (by (try simp only [mT,mC,mN]);first|done|rfl|(simp only [xD,xT];rfl)) ?_;(with_reducible refine (spec_l23Key.calls _ _ _ _ A2.out).mono ?_);rintro e w' ⟨rfl,⟨nd,rfl⟩⟩;refine ⟨_,rfl,?_⟩)|(go_at_call 59;(with_reducible refine (spec_l23Bytes.calls _ _ _ _ _ _ _ A4.out).mono ?_);rintro e w' ⟨rfl,⟨nd,rfl⟩⟩)|(go_at_call 59;(with_reducible refine (spec_l23Bytes.calls _ _ _ _ _ _ _ A6.out).mono ?_);rintro e w' ⟨rfl,⟨nd,rfl⟩⟩));go_ret;exact ⟨by first|rfl|(simp [*];done),hb_⟩
end Go.Proofs.Ytmkkcpdpfelalaa.P
