/- Written by a program in this session: each theorem here says that a Go function computes the Lean function beside it, or that a law's row holds, under the conditions that the theorem itself states. -/
import Derived.Test.YtmkkcpdpfelalaaGreatDoorZPx0
import Derived.Test.YtmkkcpdpfelalaaGreatDoorZPx7
import Derived.Test.YtmkkcpdpfelalaaGreatDoorZPx15
namespace Go.Proofs.YtmkkcpdpfelalaaGreatDoor.P
open Go.RowKit Go.Proofs.YtmkkcpdpfelalaaGreatDoorW.PrintWords Go.Proofs.YtmkkcpdpfelalaaGreatDoorW.PrintLast Go.Proofs.YtmkkcpdpfelalaaGreatDoorW.PrintMore
attribute [local go_sem] max2_int min2_int max_two min_two max_three min_three max_four min_four   -- for this text's walks alone
set_option linter.unusedVariables false
set_option linter.unusedSimpArgs false
mutual
def spec_RomanText.l0 : Nat → Int → Bool → List Int → List ByteArray → ByteArray → Int → Option (ByteArray × Bool)
 | 0,_,_,_,_,_,_ => none
 | k + 1,x0,x1,x6,x7,x8,x9 => if x9 < (x6.length : Int) then (spec_RomanText.l1 k x0 x1 x6 x7 x8 x9) else (if x1 = true then (spec_RomanText.l2 k x8 (([] : List Int)) 0) else (some (x8,true)))
def spec_RomanText.l1 : Nat → Int → Bool → List Int → List ByteArray → ByteArray → Int → Option (ByteArray × Bool)
 | 0,_,_,_,_,_,_ => none
 | k + 1,x0,x1,x6,x7,x8,x9 => if 0 ≤ x9 then (if x9 < (x6.length : Int) then (if x0 ≥ (rd x6 x9) then (if x9 < (x7.length : Int) then (if x8.size + (rdOf ByteArray.empty x7 x9).size ≤ 9223372036854775807 then (spec_RomanText.l1 k (wrap64 (x0 - (rd x6 x9))) x1 x6 x7 (x8 ++ (rdOf ByteArray.empty x7 x9)) x9) else (none)) else (none)) else (spec_RomanText.l0 k x0 x1 x6 x7 x8 (wrap64 (x9 + 1)))) else (none)) else (none)
def spec_RomanText.l2 : Nat → ByteArray → List Int → Int → Option (ByteArray × Bool)
 | 0,_,_,_ => none
 | k + 1,x8,x10,x11 => if x11 < (x8.size : Int) then (if 0 ≤ x11 then ((spec_l6UpperByte.f (bt x8 x11)).bind fun t514 => (if x10.length < 140737488355328 then (spec_RomanText.l2 k x8 (x10 ++ [t514]) (wrap64 (x11 + 1))) else (none))) else (none)) else (some (strOfNums x10,true))
end
def spec_RomanText.f (k : Nat) (a0 : Int) (a1 : Bool) : Option (ByteArray × Bool) := (spec_l1In.f a0 1 3999).bind fun t501 => (if t501 = true then (spec_RomanText.l0 k a0 a1 (([1000,900,500,400,100,90,50,40,10,9,5,4,1] : List Int)) (([(⟨#[109]⟩ : ByteArray),(⟨#[99,109]⟩ : ByteArray),(⟨#[100]⟩ : ByteArray),(⟨#[99,100]⟩ : ByteArray),(⟨#[99]⟩ : ByteArray),(⟨#[120,99]⟩ : ByteArray),(⟨#[108]⟩ : ByteArray),(⟨#[120,108]⟩ : ByteArray),(⟨#[120]⟩ : ByteArray),(⟨#[105,120]⟩ : ByteArray),(⟨#[118]⟩ : ByteArray),(⟨#[105,118]⟩ : ByteArray),(⟨#[105]⟩ : ByteArray)] : List ByteArray)) (⟨#[]⟩ : ByteArray) 0) else (some ((⟨#[]⟩ : ByteArray),false)))
theorem spec_RomanText.mono_l : ∀ k,(∀ y0 y1 y2 y3 y4 y5,LeO (spec_RomanText.l0 k y0 y1 y2 y3 y4 y5) (spec_RomanText.l0 (k + 1) y0 y1 y2 y3 y4 y5)) ∧ (∀ y0 y1 y2 y3 y4 y5,LeO (spec_RomanText.l1 k y0 y1 y2 y3 y4 y5) (spec_RomanText.l1 (k + 1) y0 y1 y2 y3 y4 y5)) ∧ (∀ y0 y1 y2,LeO (spec_RomanText.l2 k y0 y1 y2) (spec_RomanText.l2 (k + 1) y0 y1 y2))
 | 0 => ⟨fun _ _ _ _ _ _ r h => by simp [spec_RomanText.l0] at h,fun _ _ _ _ _ _ r h => by simp [spec_RomanText.l1] at h,fun _ _ _ r h => by simp [spec_RomanText.l2] at h⟩
 | k + 1 => by
  obtain ⟨ih0,ih1,ih2⟩ := spec_RomanText.mono_l k
  refine ⟨?_,?_,?_⟩
  ·intro y0 y1 y2 y3 y4 y5
   unfold spec_RomanText.l0
   repeat' first
   | (with_reducible exact ih0 _ _ _ _ _ _)
   | (with_reducible exact ih1 _ _ _ _ _ _)
   | (with_reducible exact ih2 _ _ _)
   | (with_reducible exact LeO.refl _)
   | (with_reducible exact LeO.none _)
   | (with_reducible refine LeO.ite ?_ ?_)
   | (with_reducible refine LeO.bind ?_ (fun _ => ?_))
   | exact ih0 _ _ _ _ _ _
   | exact ih1 _ _ _ _ _ _
   | exact ih2 _ _ _
   | exact LeO.none _
   | refine LeO.ite ?_ ?_
   | refine LeO.bind ?_ (fun _ => ?_)
  ·intro y0 y1 y2 y3 y4 y5
   unfold spec_RomanText.l1
   repeat' first
   | (with_reducible exact ih0 _ _ _ _ _ _)
   | (with_reducible exact ih1 _ _ _ _ _ _)
   | (with_reducible exact ih2 _ _ _)
   | (with_reducible exact LeO.refl _)
   | (with_reducible exact LeO.none _)
   | (with_reducible refine LeO.ite ?_ ?_)
   | (with_reducible refine LeO.bind ?_ (fun _ => ?_))
   | exact ih0 _ _ _ _ _ _
   | exact ih1 _ _ _ _ _ _
   | exact ih2 _ _ _
   | exact LeO.none _
   | refine LeO.ite ?_ ?_
   | refine LeO.bind ?_ (fun _ => ?_)
  ·intro y0 y1 y2
   unfold spec_RomanText.l2
   repeat' first
   | (with_reducible exact ih0 _ _ _ _ _ _)
   | (with_reducible exact ih1 _ _ _ _ _ _)
   | (with_reducible exact ih2 _ _ _)
   | (with_reducible exact LeO.refl _)
   | (with_reducible exact LeO.none _)
   | (with_reducible refine LeO.ite ?_ ?_)
   | (with_reducible refine LeO.bind ?_ (fun _ => ?_))
   | exact ih0 _ _ _ _ _ _
   | exact ih1 _ _ _ _ _ _
   | exact ih2 _ _ _
   | exact LeO.none _
   | refine LeO.ite ?_ ?_
   | refine LeO.bind ?_ (fun _ => ?_)
theorem spec_RomanText.mono : ∀ a0 a1 k,LeO (spec_RomanText.f k a0 a1) (spec_RomanText.f (k + 1) a0 a1) := by
 intro a0 a1 k
 obtain ⟨ih0,ih1,ih2⟩ := spec_RomanText.mono_l k
 unfold spec_RomanText.f
 repeat' first
   | (with_reducible exact ih0 _ _ _ _ _ _)
   | (with_reducible exact ih1 _ _ _ _ _ _)
   | (with_reducible exact ih2 _ _ _)
   | (with_reducible exact LeO.refl _)
   | (with_reducible exact LeO.none _)
   | (with_reducible refine LeO.ite ?_ ?_)
   | (with_reducible refine LeO.bind ?_ (fun _ => ?_))
   | exact ih0 _ _ _ _ _ _
   | exact ih1 _ _ _ _ _ _
   | exact ih2 _ _ _
   | exact LeO.none _
   | refine LeO.ite ?_ ?_
   | refine LeO.bind ?_ (fun _ => ?_)
set_option maxHeartbeats 8000000 in
set_option maxRecDepth 100000 in
theorem spec_RomanText.calls (k : Nat) (a0 : Int) (a1 : Bool) (r1 : ByteArray) (r2 : Bool) (w : World) (h : spec_RomanText.f k a0 a1 = some (r1,r2)) :
  Calls Tryz.prog 16 #[.int .i64 a0,.bool a1] w fun e w' => e = .returned (.tuple #[.string r1,.bool r2]) ∧ Below w.heap.size w w' := by
 have HB := aM (Below.refl w.heap.size w);have H : ((spec_l1In.f a0 1 3999).bind fun t501 => (if t501 = true then (spec_RomanText.l0 k a0 a1 (([1000,900,500,400,100,90,50,40,10,9,5,4,1] : List Int)) (([(⟨#[109]⟩ : ByteArray),(⟨#[99,109]⟩ : ByteArray),(⟨#[100]⟩ : ByteArray),(⟨#[99,100]⟩ : ByteArray),(⟨#[99]⟩ : ByteArray),(⟨#[120,99]⟩ : ByteArray),(⟨#[108]⟩ : ByteArray),(⟨#[120,108]⟩ : ByteArray),(⟨#[120]⟩ : ByteArray),(⟨#[105,120]⟩ : ByteArray),(⟨#[118]⟩ : ByteArray),(⟨#[105,118]⟩ : ByteArray),(⟨#[105]⟩ : ByteArray)] : List ByteArray)) (⟨#[]⟩ : ByteArray) 0) else (some ((⟨#[]⟩ : ByteArray),false)))) = some (r1,r2) := h;clear h;obtain ⟨t501,A3,H⟩ := bE_ H
 by_cases c4 : t501 = true
 ·subst c4;rw [if_pos rfl] at H;obtain ⟨y502,hy502⟩ : ∃ y_ : List Int,y_ = (([1000,900,500,400,100,90,50,40,10,9,5,4,1] : List Int)) := ⟨_,rfl⟩;replace H : (spec_RomanText.l0 k a0 a1 y502 (([(⟨#[109]⟩ : ByteArray),(⟨#[99,109]⟩ : ByteArray),(⟨#[100]⟩ : ByteArray),(⟨#[99,100]⟩ : ByteArray),(⟨#[99]⟩ : ByteArray),(⟨#[120,99]⟩ : ByteArray),(⟨#[108]⟩ : ByteArray),(⟨#[120,108]⟩ : ByteArray),(⟨#[120]⟩ : ByteArray),(⟨#[105,120]⟩ : ByteArray),(⟨#[118]⟩ : ByteArray),(⟨#[105,118]⟩ : ByteArray),(⟨#[105]⟩ : ByteArray)] : List ByteArray)) (⟨#[]⟩ : ByteArray) 0) = some (r1,r2) := (by first|(rw [hy502];with_reducible exact H)|(have H2_ := (Option.bind_some _ _).symm.trans H;rw [hy502];with_reducible exact H2_)|(have H2_ := (Option.bind_some _ _).symm.trans H;with_reducible exact H2_)|with_reducible exact H|(rw [hy502];exact H)|exact H);have Ny502 := aM hy502;clear hy502;obtain ⟨y505,hy505⟩ : ∃ y_ : List ByteArray,y_ = (([(⟨#[109]⟩ : ByteArray),(⟨#[99,109]⟩ : ByteArray),(⟨#[100]⟩ : ByteArray),(⟨#[99,100]⟩ : ByteArray),(⟨#[99]⟩ : ByteArray),(⟨#[120,99]⟩ : ByteArray),(⟨#[108]⟩ : ByteArray),(⟨#[120,108]⟩ : ByteArray),(⟨#[120]⟩ : ByteArray),(⟨#[105,120]⟩ : ByteArray),(⟨#[118]⟩ : ByteArray),(⟨#[105,118]⟩ : ByteArray),(⟨#[105]⟩ : ByteArray)] : List ByteArray)) := ⟨_,rfl⟩;replace H : (spec_RomanText.l0 k a0 a1 y502 y505 (⟨#[]⟩ : ByteArray) 0) = some (r1,r2) := (by first|(rw [hy505];with_reducible exact H)|(have H2_ := (Option.bind_some _ _).symm.trans H;rw [hy505];with_reducible exact H2_)|(have H2_ := (Option.bind_some _ _).symm.trans H;with_reducible exact H2_)|with_reducible exact H|(rw [hy505];exact H)|exact H);have Ny505 := aM hy505;clear hy505;have H' := aM H;clear H;go_enter Tryz.func16,Tryz.ntmps16;go_wp2_with (first|((with_reducible refine gate_callee (f := 23) rfl ?_);refine goesL_ (some 13) rfl rfl Tryz.func23 (by kernel_rfl) rfl #[.int .i64 a0,.int .i64 1,.int .i64 3999] rfl (by (try simp only [mT,mC,mN]);first|done|rfl|(simp only [xD,xT];rfl)) ?_;(with_reducible refine (spec_l1In.calls a0 1 3999 true _ A3.out).mono ?_);rintro e w' ⟨rfl,⟨nd,rfl⟩⟩;refine ⟨_,rfl,?_⟩)|((with_reducible refine gate_dst (N := 15) rfl ?_);refine Kd.R_lit (Kd.int .i64) _ 3 ?hg (N := 15) ?hd (xs := ([1000,900,500,400,100,90,50,40,10,9,5,4,1] : List Int)) (inner := [.int .i64 1000,.int .i64 900,.int .i64 500,.int .i64 400,.int .i64 100,.int .i64 90,.int .i64 50,.int .i64 40,.int .i64 10,.int .i64 9,.int .i64 5,.int .i64 4,.int .i64 1]) (ok := fun _ => True) (okp := fun _ => True) ?hr ?hp (fun _ hk => hk) trivial (Below.refl _ _) (Nat.le_refl _) (by simp) ?_;(case hd => rfl);(case hg => rfl);(case hr => first|(go_simp;done)|(go_simp;rfl));(case hp => exact (Reps.one (show Kd.M (Kd.int .i64) _ _ _ 1000 [.int .i64 1000] from rfl) (Reps.one (show Kd.M (Kd.int .i64) _ _ _ 900 [.int .i64 900] from rfl) (Reps.one (show Kd.M (Kd.int .i64) _ _ _ 500 [.int .i64 500] from rfl) (Reps.one (show Kd.M (Kd.int .i64) _ _ _ 400 [.int .i64 400] from rfl) (Reps.one (show Kd.M (Kd.int .i64) _ _ _ 100 [.int .i64 100] from rfl) (Reps.one (show Kd.M (Kd.int .i64) _ _ _ 90 [.int .i64 90] from rfl) (Reps.one (show Kd.M (Kd.int .i64) _ _ _ 50 [.int .i64 50] from rfl) (Reps.one (show Kd.M (Kd.int .i64) _ _ _ 40 [.int .i64 40] from rfl) (Reps.one (show Kd.M (Kd.int .i64) _ _ _ 10 [.int .i64 10] from rfl) (Reps.one (show Kd.M (Kd.int .i64) _ _ _ 9 [.int .i64 9] from rfl) (Reps.one (show Kd.M (Kd.int .i64) _ _ _ 5 [.int .i64 5] from rfl) (Reps.one (show Kd.M (Kd.int .i64) _ _ _ 4 [.int .i64 4] from rfl) (Reps.one (show Kd.M (Kd.int .i64) _ _ _ 1 [.int .i64 1] from rfl) (Reps.none _ _)))))))))))))));intro v503 w5 ho6 hb hg_ hnew_;clear hg_ hnew_;(first|rw [← Ny502.out] at ho6|(simp only [Int.reduceToNat] at ho6;rw [← Ny502.out] at ho6));have HO504 := aM (Kd.R_lower ho6 (lZ hb_));replace HB := aM (lT hb_ hb);clear hb ho6)|((with_reducible refine gate_dst (N := 16) rfl ?_);refine Kd.R_lit Kd.string _ 9 ?hg (N := 16) ?hd (xs := ([(⟨#[109]⟩ : ByteArray),(⟨#[99,109]⟩ : ByteArray),(⟨#[100]⟩ : ByteArray),(⟨#[99,100]⟩ : ByteArray),(⟨#[99]⟩ : ByteArray),(⟨#[120,99]⟩ : ByteArray),(⟨#[108]⟩ : ByteArray),(⟨#[120,108]⟩ : ByteArray),(⟨#[120]⟩ : ByteArray),(⟨#[105,120]⟩ : ByteArray),(⟨#[118]⟩ : ByteArray),(⟨#[105,118]⟩ : ByteArray),(⟨#[105]⟩ : ByteArray)] : List ByteArray)) (inner := [.string (⟨#[109]⟩ : ByteArray),.string (⟨#[99,109]⟩ : ByteArray),.string (⟨#[100]⟩ : ByteArray),.string (⟨#[99,100]⟩ : ByteArray),.string (⟨#[99]⟩ : ByteArray),.string (⟨#[120,99]⟩ : ByteArray),.string (⟨#[108]⟩ : ByteArray),.string (⟨#[120,108]⟩ : ByteArray),.string (⟨#[120]⟩ : ByteArray),.string (⟨#[105,120]⟩ : ByteArray),.string (⟨#[118]⟩ : ByteArray),.string (⟨#[105,118]⟩ : ByteArray),.string (⟨#[105]⟩ : ByteArray)]) (ok := fun _ => True) (okp := fun _ => True) ?hr ?hp (fun _ hk => hk) trivial (Below.refl _ _) (Nat.le_refl _) (by simp) ?_;(case hd => rfl);(case hg => rfl);(case hr => first|(go_simp;done)|(go_simp;rfl));(case hp => exact (Reps.one (show Kd.M Kd.string _ _ _ (⟨#[109]⟩ : ByteArray) [.string (⟨#[109]⟩ : ByteArray)] from rfl) (Reps.one (show Kd.M Kd.string _ _ _ (⟨#[99,109]⟩ : ByteArray) [.string (⟨#[99,109]⟩ : ByteArray)] from rfl) (Reps.one (show Kd.M Kd.string _ _ _ (⟨#[100]⟩ : ByteArray) [.string (⟨#[100]⟩ : ByteArray)] from rfl) (Reps.one (show Kd.M Kd.string _ _ _ (⟨#[99,100]⟩ : ByteArray) [.string (⟨#[99,100]⟩ : ByteArray)] from rfl) (Reps.one (show Kd.M Kd.string _ _ _ (⟨#[99]⟩ : ByteArray) [.string (⟨#[99]⟩ : ByteArray)] from rfl) (Reps.one (show Kd.M Kd.string _ _ _ (⟨#[120,99]⟩ : ByteArray) [.string (⟨#[120,99]⟩ : ByteArray)] from rfl) (Reps.one (show Kd.M Kd.string _ _ _ (⟨#[108]⟩ : ByteArray) [.string (⟨#[108]⟩ : ByteArray)] from rfl) (Reps.one (show Kd.M Kd.string _ _ _ (⟨#[120,108]⟩ : ByteArray) [.string (⟨#[120,108]⟩ : ByteArray)] from rfl) (Reps.one (show Kd.M Kd.string _ _ _ (⟨#[120]⟩ : ByteArray) [.string (⟨#[120]⟩ : ByteArray)] from rfl) (Reps.one (show Kd.M Kd.string _ _ _ (⟨#[105,120]⟩ : ByteArray) [.string (⟨#[105,120]⟩ : ByteArray)] from rfl) (Reps.one (show Kd.M Kd.string _ _ _ (⟨#[118]⟩ : ByteArray) [.string (⟨#[118]⟩ : ByteArray)] from rfl) (Reps.one (show Kd.M Kd.string _ _ _ (⟨#[105,118]⟩ : ByteArray) [.string (⟨#[105,118]⟩ : ByteArray)] from rfl) (Reps.one (show Kd.M Kd.string _ _ _ (⟨#[105]⟩ : ByteArray) [.string (⟨#[105]⟩ : ByteArray)] from rfl) (Reps.none _ _)))))))))))))));intro v506 w7 ho8 hb hg_ hnew_;clear hg_ hnew_;(first|rw [← Ny505.out] at ho8|(simp only [Int.reduceToNat] at ho8;rw [← Ny505.out] at ho8));have HO507 := aM (Kd.R_lower ho8 (lZ hb_));replace HO504 := aM (rB (ho_ HO504.out) hb);replace HB := aM (lT hb_ hb);clear hb ho8));go_loopg [0,8,9] k (fun kq v0 v8 v9 w' => ∃ (x0_1 : Int) (x8_1 : ByteArray) (x9_1 : Int),v0 = .int .i64 x0_1 ∧ v8 = .string x8_1 ∧ v9 = .int .i64 x9_1 ∧ Aside0 (spec_RomanText.l0 kq x0_1 a1 y502 y505 x8_1 x9_1 = some (r1,r2)) ∧ Aside0 (kq ≤ k) ∧ Aside0 (Kd.R (Kd.int .i64) 3 w' w.heap.size (fun _ => True) v503 y502) ∧ Aside0 (Kd.R Kd.string 9 w' w.heap.size (fun _ => True) v506 y505) ∧ Aside0 (Below w.heap.size w w'))
  case atStart => exact ⟨(a0),((⟨#[]⟩ : ByteArray)),(0),(by first|rfl|(simp [*];done)),(by first|rfl|(simp [*];done)),(by first|rfl|(simp [*];done)),H',⟨Nat.le_refl _⟩,⟨by (with_reducible repeat (first|apply rA|apply rN|apply rD));exact HO504.out⟩,⟨by (with_reducible repeat (first|apply rA|apply rN|apply rD));exact HO507.out⟩,⟨hb_⟩⟩
  case round =>
   clear H';(try clear c1);(try clear c2);(try clear p2);(try clear c4);obtain ⟨x0_1,x8_1,x9_1,rfl,rfl,rfl,HA,HK1,HO_6,HO_7,HB⟩ := hrel
   cases gk with
   | zero => exact absurd HA.out (by simp [spec_RomanText.l0])
   | succ k1 =>
    have H := HA.out;clear HA;simp only [spec_RomanText.l0] at H
    by_cases c9 : x9_1 < (y502.length : Int)
    ·rw [if_pos c9] at H;have c9b0 : decide (x9_1 < (y502.length : Int)) = true := dT c9;clear c9;have H' := aM H;clear H;obtain ⟨Ao02,co02,eo02⟩ := Kd.R_slice HO_6.out;subst eo02;go_wp2;go_loopg [0,8] k1 (fun kq v0 v8 w' => ∃ (x0_2 : Int) (x8_2 : ByteArray),v0 = .int .i64 x0_2 ∧ v8 = .string x8_2 ∧ Aside0 (spec_RomanText.l1 kq x0_2 a1 y502 y505 x8_2 x9_1 = some (r1,r2)) ∧ Aside0 (kq ≤ k1) ∧ Aside0 (Kd.R (Kd.int .i64) 3 w' w.heap.size (fun _ => True) (.slice Ao02 y502.length co02) y502) ∧ Aside0 (Kd.R Kd.string 9 w' w.heap.size (fun _ => True) v506 y505) ∧ Aside0 (Below w.heap.size w w'))
     case atStart => exact ⟨(x0_1),(x8_1),(by first|rfl|(simp [*];done)),(by first|rfl|(simp [*];done)),H',⟨Nat.le_refl _⟩,⟨by (with_reducible repeat (first|apply rA|apply rN|apply rD));exact HO_6.out⟩,⟨by (with_reducible repeat (first|apply rA|apply rN|apply rD));exact HO_7.out⟩,⟨hb_⟩⟩
     case round =>
      clear H';(try clear c1);(try clear c2);(try clear p2);(try clear c4);(try clear c9);(try clear c9b0);(try clear p2);obtain ⟨x0_2,x8_2,rfl,rfl,HA,HK2,HO_6,HO_7,HB⟩ := hrel
      cases gk with
      | zero => exact absurd HA.out (by simp [spec_RomanText.l1])
      | succ k2 =>
       have H := HA.out;clear HA;simp only [spec_RomanText.l1] at H
       by_cases c11 : 0 ≤ x9_1
       ·rw [if_pos c11] at H;have c11b0 : decide (0 ≤ x9_1) = true := dT c11;clear c11
        by_cases c12 : x9_1 < (y502.length : Int)
        ·rw [if_pos c12] at H;have c12b0 : decide (x9_1 < (y502.length : Int)) = true := dT c12;clear c12
         by_cases c13 : x0_2 ≥ (rd y502 x9_1)
         ·rw [if_pos c13] at H;have c13b0 : decide ((rd y502 x9_1) ≤ x0_2) = true := dT c13;clear c13
          by_cases c14 : x9_1 < (y505.length : Int)
          ·rw [if_pos c14] at H;have c14b0 : decide (x9_1 < (y505.length : Int)) = true := dT c14;clear c14
           by_cases c15 : x8_2.size + (rdOf ByteArray.empty y505 x9_1).size ≤ 9223372036854775807
           ·rw [if_pos c15] at H;have c15b0 := eq_true c15;have c15b1 : decide (x8_2.size + (rdOf ByteArray.empty y505 x9_1).size ≤ 9223372036854775807) = true := dT c15;(try have c15b2 : (9223372036854775807 < x8_2.size + (rdOf ByteArray.empty y505 x9_1).size) = False := eq_false (Nat.not_lt.2 c15));have H' := aM H;clear H;have p508 : 0 ≤ (x9_1 : Int) := oD (by assumption);have q508 : x9_1 < (y502.length : Int) := oD (by assumption);obtain ⟨ad508,e508,hx508_0⟩ := Kd.at_int (rR HO_6.out).2.2 x9_1 p508 q508;cases e508;replace p508 := eq_true p508;replace q508 := eq_true q508;obtain ⟨Ao01,co01,eo01⟩ := Kd.R_slice HO_7.out;subst eo01;have p509 : 0 ≤ (x9_1 : Int) := oD (by assumption);have q509 : x9_1 < (y505.length : Int) := oD (by assumption);obtain ⟨ad509,e509,hx509_0⟩ := Kd.at_string (rR HO_7.out).2.2 x9_1 p509 q509;cases e509;replace p509 := eq_true p509;replace q509 := eq_true q509;have p510 : 0 ≤ (x9_1 : Int) := oD (by assumption);have q510 : x9_1 < (y502.length : Int) := oD (by assumption);obtain ⟨ad510,e510,hx510_0⟩ := Kd.at_int (rR HO_6.out).2.2 x9_1 p510 q510;obtain rfl : ad508 = ad510 := (by injection e510);replace p510 := eq_true p510;replace q510 := eq_true q510;go_wp2;go_roundg k2
            case measure => have := HK1.out;have := HK2.out;omega
            case rel => exact ⟨(wrap64 (x0_2 - (rd y502 x9_1))),(x8_2 ++ (rdOf ByteArray.empty y505 x9_1)),(by first|rfl|(simp [*];done)),(by first|rfl|(simp [*];done)),H',⟨by have := HK1.out;have := HK2.out;omega⟩,⟨by (with_reducible repeat (first|apply rA|apply rN|apply rD));exact HO_6.out⟩,⟨by (with_reducible repeat (first|apply rA|apply rN|apply rD));exact HO_7.out⟩,⟨hb_⟩⟩
           ·rw [if_neg c15] at H;exact absurd H (by simp)
          ·rw [if_neg c14] at H;exact absurd H (by simp)
         ·rw [if_neg c13] at H;have c13b0 : decide ((rd y502 x9_1) ≤ x0_2) = false := dF c13;clear c13;have H' := aM H;clear H;have p508 : 0 ≤ (x9_1 : Int) := oD (by assumption);have q508 : x9_1 < (y502.length : Int) := oD (by assumption);obtain ⟨ad508,e508,hx508_0⟩ := Kd.at_int (rR HO_6.out).2.2 x9_1 p508 q508;cases e508;replace p508 := eq_true p508;replace q508 := eq_true q508;go_wp2;go_roundg k2
          case measure => have := HK1.out;have := HK2.out;omega
          case rel => exact ⟨(x0_2),(x8_2),(wrap64 (x9_1 + 1)),(by first|rfl|(simp [*];done)),(by first|rfl|(simp [*];done)),(by first|rfl|(simp [*];done)),H',⟨by have := HK1.out;have := HK2.out;omega⟩,⟨by (with_reducible repeat (first|apply rA|apply rN|apply rD));exact HO_6.out⟩,⟨by (with_reducible repeat (first|apply rA|apply rN|apply rD));exact HO_7.out⟩,⟨hb_⟩⟩
        ·rw [if_neg c12] at H;exact absurd H (by simp)
       ·rw [if_neg c11] at H;exact absurd H (by simp)
    ·rw [if_neg c9] at H;have c9b0 : decide (x9_1 < (y502.length : Int)) = false := dF c9;clear c9
     by_cases c17 : a1 = true
     ·subst c17;rw [if_pos rfl] at H;obtain ⟨y511,hy511⟩ : ∃ y_ : List Int,y_ = (([] : List Int)) := ⟨_,rfl⟩;replace H : (spec_RomanText.l2 k1 x8_1 y511 0) = some (r1,r2) := (by first|(rw [hy511];with_reducible exact H)|(have H2_ := (Option.bind_some _ _).symm.trans H;rw [hy511];with_reducible exact H2_)|(have H2_ := (Option.bind_some _ _).symm.trans H;with_reducible exact H2_)|with_reducible exact H|(rw [hy511];exact H)|exact H);have Ny511 := aM hy511;clear hy511;have H' := aM H;clear H;obtain ⟨Ao02,co02,eo02⟩ := Kd.R_slice HO_6.out;subst eo02;go_wp2_with (first|((with_reducible refine gate_dst (N := 44) rfl ?_);refine Kd.R_lit (Kd.int .u8) _ 5 ?hg (N := 44) ?hd (xs := ([] : List Int)) (inner := []) (ok := fun _ => True) (okp := fun _ => True) ?hr ?hp (fun _ hk => hk) trivial (Below.refl _ _) (Nat.le_refl _) (by simp) ?_;(case hd => rfl);(case hg => rfl);(case hr => first|(go_simp;done)|(go_simp;rfl));(case hp => exact (Reps.none _ _));intro v512 w19 ho20 hb hg_ hnew_;clear hg_ hnew_;(first|rw [← Ny511.out] at ho20|(simp only [Int.reduceToNat] at ho20;rw [← Ny511.out] at ho20));have HO513 := aM (Kd.R_lower ho20 (lZ hb_));replace HO_6 := aM (rB (ho_ HO_6.out) hb);replace HO_7 := aM (rB (ho_ HO_7.out) hb);replace HB := aM (lT hb_ hb);clear hb ho20));go_loopg [10,11] k1 (fun kq v10 v11 w' => ∃ (x10_2 : List Int) (x11_2 : Int),v11 = .int .i64 x11_2 ∧ Aside0 (spec_RomanText.l2 kq x8_1 x10_2 x11_2 = some (r1,r2)) ∧ Aside0 (kq ≤ k1) ∧ Aside0 (Kd.R (Kd.int .u8) 5 w' w.heap.size (fun _ => True) v10 x10_2) ∧ Aside0 (Below w.heap.size w w'))
      case atStart => exact ⟨(y511),(0),(by first|rfl|(simp [*];done)),H',⟨Nat.le_refl _⟩,⟨by (with_reducible repeat (first|apply rA|apply rN|apply rD));exact HO513.out⟩,⟨hb_⟩⟩
      case round =>
       clear H';(try clear c1);(try clear c2);(try clear p2);(try clear c4);(try clear p5);(try clear q5);(try clear hx5);(try clear p6);(try clear c9);(try clear c9b0);(try clear c11);(try clear c11b0);(try clear c12);(try clear c12b0);(try clear c13);(try clear c13b0);(try clear c14);(try clear c14b0);(try clear c15);(try clear c15b0);(try clear c15b1);(try clear c15b2);(try clear c16);(try clear c17);(try clear hx508_0);(try clear hx509_0);(try clear hx510_0);(try clear p2);(try clear p508);(try clear p509);(try clear p510);(try clear q508);(try clear q509);(try clear q510);obtain ⟨x10_2,x11_2,rfl,HA,HK2,HO_10,HB⟩ := hrel
       cases gk with
       | zero => exact absurd HA.out (by simp [spec_RomanText.l2])
       | succ k2 =>
        have H := HA.out;clear HA;simp only [spec_RomanText.l2] at H
        by_cases c21 : x11_2 < (x8_1.size : Int)
        ·rw [if_pos c21] at H;have c21b0 : decide (x11_2 < (x8_1.size : Int)) = true := dT c21;clear c21
         by_cases c22 : 0 ≤ x11_2
         ·rw [if_pos c22] at H;have c22b0 : decide (0 ≤ x11_2) = true := dT c22;clear c22;obtain ⟨t514,A24,H⟩ := bE_ H
          by_cases c25 : x10_2.length < 140737488355328
          ·rw [if_pos c25] at H;have LMc25 := aM c25;clear c25;obtain ⟨y515,hy515⟩ : ∃ y_ : List Int,y_ = (x10_2 ++ [t514]) := ⟨_,rfl⟩;replace H : (spec_RomanText.l2 k2 x8_1 y515 (wrap64 (x11_2 + 1))) = some (r1,r2) := (by first|(rw [hy515];with_reducible exact H)|(have H2_ := (Option.bind_some _ _).symm.trans H;rw [hy515];with_reducible exact H2_)|(have H2_ := (Option.bind_some _ _).symm.trans H;with_reducible exact H2_)|with_reducible exact H|(rw [hy515];exact H)|exact H);have Ny515 := aM hy515;clear hy515;have H' := aM H;clear H;have p23 : 0 ≤ (x11_2 : Int) := oD (by assumption);have q23 : x11_2 < (x8_1.size : Int) := oD (by assumption);have hx23 := bt_at x8_1 x11_2;replace p23 := eq_true p23;replace q23 := eq_true q23;go_wp2_with (first|((with_reducible refine gate_callee (f := 39) rfl ?_);refine goesL_ (some 55) rfl rfl Tryz.func39 (by kernel_rfl) rfl #[.int .u8 (bt x8_1 x11_2)] rfl (by (try simp only [mT,mC,mN]);first|done|rfl|(simp only [xD,xT];rfl)) ?_;(with_reducible refine (spec_l6UpperByte.calls (bt x8_1 x11_2) t514 _ A24.out).mono ?_);rintro e w' ⟨rfl,⟨nd,rfl⟩⟩;refine ⟨_,rfl,?_⟩)|((with_reducible refine gate_builtin (b := .append) (xs := #[.tmp 51,.tmp 56]) rfl ?_);at_builtin;refine Kd.R_append (Kd.int .u8) (w0 := w) w.heap.size rfl (.tmp 51) (.tmp 56) 22 5 (.int .u8 0) 1 rfl Tryz.underlying22 info5 rfl (by decide) (by omega) u10 x10_2 t514 [.int .u8 t514] (fun _ => True) (fun _ => False) rfl rfl ?aP (fun _ hk => hk.elim) ?aF ?aO ?aB ?aS ?aL ?_;(case aP => exact rfl);(case aB => exact hb_);(case aF => exact (fun _ _ => trivial));(case aO => exact (ho_ HO_10.out));(case aS => exact (lZ hb_));(case aL => have := LMc25.out;omega);intro v516 w26 ho hb hg hat;rw [← Ny515.out] at ho;have n0_ := aM (hb);have n1_ := aM (ho);clear HB;clear HO_10;have HB := n0_;have HO517 := n1_;clear n0_ n1_;clear ho hb hg hat));go_roundg k2
           case measure => have := HK1.out;have := HK2.out;omega
           case rel => exact ⟨(y515),(wrap64 (x11_2 + 1)),(by first|rfl|(simp [*];done)),H',⟨by have := HK1.out;have := HK2.out;omega⟩,⟨by (with_reducible repeat (first|apply rA|apply rN|apply rD));exact HO517.out⟩,⟨hb_⟩⟩
          ·rw [if_neg c25] at H;exact absurd H (by simp)
         ·rw [if_neg c22] at H;exact absurd H (by simp)
        ·rw [if_neg c21] at H;have c21b0 : decide (x11_2 < (x8_1.size : Int)) = false := dF c21;clear c21;simp only [eS,eP] at H;obtain ⟨rfl,rfl⟩ := H;have hcv27 := own_string (P := Tryz.prog) Tryz.underlying22 Tryz.underlying5 Tryz.underlying9 (Kd.own_of_R HO_10.out);go_wp2;go_ret2;exact ⟨by first|rfl|(simp [*];done),hb_⟩
     ·replace c17 := Bool.eq_false_iff.mpr c17;subst c17;rw [if_neg Bool.false_ne_true] at H;simp only [eS,eP] at H;obtain ⟨rfl,rfl⟩ := H;obtain ⟨Ao02,co02,eo02⟩ := Kd.R_slice HO_6.out;subst eo02;go_wp2;go_ret2;exact ⟨by first|rfl|(simp [*];done),hb_⟩
 ·replace c4 := Bool.eq_false_iff.mpr c4;subst c4;rw [if_neg Bool.false_ne_true] at H;simp only [eS,eP] at H;obtain ⟨rfl,rfl⟩ := H;go_enter Tryz.func16,Tryz.ntmps16;go_wp2_with (first|((with_reducible refine gate_callee (f := 23) rfl ?_);refine goesL_ (some 13) rfl rfl Tryz.func23 (by kernel_rfl) rfl #[.int .i64 a0,.int .i64 1,.int .i64 3999] rfl (by (try simp only [mT,mC,mN]);first|done|rfl|(simp only [xD,xT];rfl)) ?_;(with_reducible refine (spec_l1In.calls a0 1 3999 false _ A3.out).mono ?_);rintro e w' ⟨rfl,⟨nd,rfl⟩⟩;refine ⟨_,rfl,?_⟩));go_ret2;exact ⟨by first|rfl|(simp [*];done),hb_⟩
end Go.Proofs.YtmkkcpdpfelalaaGreatDoor.P
