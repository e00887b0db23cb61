/- The draws of a log and of a record come to something, and what they draw is short. Conditions: those of each lemma. -/
import Derived.Test.YtinbbjfnebhlkaaDoorZPx8
import Derived.Test.YtinbbjfnebhlkaaDoorZPx9
import Derived.Test.YtinbbjfnebhlkaaDoorZLBase
import Derived.Test.YtinbbjfnebhlkaaDoorZLDraw
import Derived.Test.YtinbbjfnebhlkaaDoorZLDraw3
import Derived.Test.YtinbbjfnebhlkaaDoorZLLogA
import Derived.Test.YtinbbjfnebhlkaaDoorZLLogC
namespace Go.Proofs.YtinbbjfnebhlkaaDoor.P
open Go.RowKit Go.Proofs.YtinbbjfnebhlkaaDoorW.PrintWords Go.Proofs.YtinbbjfnebhlkaaDoorW.PrintLast Go.Proofs.YtinbbjfnebhlkaaDoorW.PrintMore
set_option linter.unusedVariables false
set_option linter.unusedSimpArgs false
theorem logRecord_t {l : List Int} (hb : Byt l) (a sd : Int) (h0 : 0 ≤ a) (h1 : a ≤ 2000000000000000000) :
  Tot (spec_l1Cur_logRecord.f l a sd) (fun r => r.1.size ≤ 20 ∧ r.2.1.size ≤ 20 ∧ a ≤ r.2.2.1 ∧ r.2.2.1 ≤ a + 8) := by
 unfold spec_l1Cur_logRecord.f
 refine Tot.bind (of_t hb _ _ _ (by decide) h0 (by omega)) (fun x hx => ?_)
 obtain ⟨m1, p1, q1⟩ := hx
 have z1 : x.1.size ≤ 20 := sz_of m1 (by decide)
 clear m1
 refine Tot.bind (of_t hb _ _ _ (by decide) (by omega) (by omega)) (fun y hy => ?_)
 obtain ⟨m2, p2, q2⟩ := hy
 have z2 : y.1.size ≤ 20 := sz_of m2 (by decide)
 clear m2
 refine Tot.bind (pick_t hb _ _ _ (by omega) (by omega)) (fun z hz => ?_)
 obtain ⟨_, _, p3, q3⟩ := hz
 refine Tot.ite (fun _ => ?_) (fun _ => ?_)
 ·refine Tot.pos (by decide) ?_
  refine Tot.bind (of_t hb _ _ _ (by simp) (by omega) (by omega)) (fun v hv => ?_)
  obtain ⟨m4, p4, q4⟩ := hv
  have hr : (strOfNums (List.replicate 3 0)).size = 3 := by decide
  have z4 : v.1.size ≤ 20 := sz_of m4 (by
   intro t ht
   simp only [List.mem_cons, List.not_mem_nil, or_false] at ht
   rcases ht with rfl | rfl | rfl | rfl | rfl
   ·decide
   ·decide
   ·decide
   ·decide
   ·rw [hr]; decide)
  exact Tot.some ⟨z4, z2, by dsimp only; omega, by dsimp only; omega⟩
 ·refine Tot.ite (fun _ => ?_) (fun _ => ?_)
  ·refine Tot.bind (of_t hb _ _ _ (by decide) (by omega) (by omega)) (fun v hv => ?_)
   obtain ⟨m4, p4, q4⟩ := hv
   have z4 : v.1.size ≤ 20 := sz_of m4 (by decide)
   exact Tot.some ⟨z1, z4, by dsimp only; omega, by dsimp only; omega⟩
  ·exact Tot.some ⟨z1, z2, by dsimp only; omega, by dsimp only; omega⟩
theorem log_l0 {l : List Int} (hb : Byt l) (d : Nat) : ∀ (k : Nat) (n a sd : Int) (D P : ByteArray) (c : Int), n = (d : Int) → d ≤ 60 → 0 ≤ a → a ≤ 1000000000000000000 - 10 * d → D.size + P.size + 402 * d ≤ 30000 → 70000 + d < k →
  Tot (spec_l1Cur_log.l0 k n l a sd D P c) (fun r => r.1.size + r.2.1.size ≤ D.size + P.size + 402 * d ∧ a ≤ r.2.2.2.1 ∧ r.2.2.2.1 ≤ a + 10 * d) := by
 induction d with
 | zero =>
  intro k n a sd D P c hn _ h0 h1 hs hk
  obtain ⟨k, rfl⟩ := succ_of hk
  rw [spec_l1Cur_log.l0]
  refine Tot.neg (by omega) (Tot.some ?_)
  dsimp only
  omega
 | succ d ih =>
  intro k n a sd D P c hn hd h0 h1 hs hk
  obtain ⟨k, rfl⟩ := succ_of hk
  obtain ⟨k, rfl⟩ : ∃ m, k = m + 1 := ⟨k - 1, by omega⟩
  rw [spec_l1Cur_log.l0]
  have hw : wrap64 (n - 1) = (d : Int) := by rw [w64 (by omega) (by omega)]; omega
  rw [hw]
  refine Tot.pos (by omega) ?_
  refine Tot.bind (logRecord_t hb a sd h0 (by omega)) (fun x hx => ?_)
  obtain ⟨z1, z2, p1, q1⟩ := hx
  have hA := specApp D P x.1 x.2.1 c (by omega) (by omega) (by omega) k (by omega) (by omega) (by omega)
  obtain ⟨a1, a2⟩ := appR_size D P x.1 x.2.1 c
  rw [hA, Option.bind_some]
  generalize appR D P c x.1 x.2.1 = R at *
  refine Tot.bind (one_t hb _ _ _ (by omega) (by omega)) (fun y hy => ?_)
  obtain ⟨p2, q2⟩ := hy
  have a1' : R.1.size = D.size := by rw [a1]
  refine Tot.ite (fun _ => ?_) (fun _ => ?_)
  ·rw [specSync R.1 R.2.1 R.2.2.1 (by omega) (k + 1) (by omega), Option.bind_some]
   have hS : (syncR R.1 R.2.1 R.2.2.1).1.size + (syncR R.1 R.2.1 R.2.2.1).2.1.size ≤ R.1.size + R.2.1.size := by
    unfold syncR
    split
    ·show (R.1 ++ R.2.1).size + (⟨#[]⟩ : ByteArray).size ≤ _
     rw [ByteArray.size_append]
     exact Nat.le_refl _
    ·show (⟨#[]⟩ : ByteArray).size + (⟨#[]⟩ : ByteArray).size ≤ _
     exact Nat.zero_le _
   generalize syncR R.1 R.2.1 R.2.2.1 = S at *
   refine (ih (k + 1) _ _ _ S.1 S.2.1 _ rfl (by omega) (by omega) (by omega) (by omega) (by omega)).mono (fun r hr => ?_)
   omega
  ·refine (ih (k + 1) _ _ _ R.1 R.2.1 _ rfl (by omega) (by omega) (by omega) (by omega) (by omega)).mono (fun r hr => ?_)
   omega
theorem log_t {l : List Int} (hb : Byt l) (a sd : Int) (h0 : 0 ≤ a) (h1 : a ≤ 900000000000000000) (k : Nat) (hk : 70100 < k) :
  Tot (spec_l1Cur_log.f k l a sd) (fun r => r.1.size + r.2.1.size ≤ 3000 ∧ a ≤ r.2.2.2.1 ∧ r.2.2.2.1 ≤ a + 100) := by
 unfold spec_l1Cur_log.f
 refine Tot.bind (pick_t hb _ _ _ h0 (by omega)) (fun x hx => ?_)
 obtain ⟨x0, x1, p1, q1⟩ := hx
 have e0 : (⟨#[]⟩ : ByteArray).size = 0 := rfl
 refine (log_l0 hb x.1.toNat k x.1 _ _ _ _ _ (by omega) (by omega) (by omega) (by omega) (by rw [e0]; omega) (by omega)).mono (fun r hr => ?_)
 rw [e0] at hr
 omega
theorem anyLog_t {l : List Int} (hb : Byt l) (a sd : Int) (h0 : 0 ≤ a) (h1 : a ≤ 900000000000000000) (k : Nat) (hk : 70100 < k) :
  Tot (spec_l1Cur_anyLog.f k l a sd) (fun r => r.1.size + r.2.1.size ≤ 7000 ∧ a ≤ r.2.2.2.1 ∧ r.2.2.2.1 ≤ a + 200) := by
 unfold spec_l1Cur_anyLog.f
 refine Tot.bind (log_t hb a sd h0 h1 k hk) (fun x hx => ?_)
 obtain ⟨z1, p1, q1⟩ := hx
 refine Tot.bind (pick_t hb _ _ _ (by omega) (by omega)) (fun y hy => ?_)
 obtain ⟨_, _, p2, q2⟩ := hy
 refine Tot.ite (fun _ => Tot.some ?_) (fun _ => Tot.ite (fun _ => ?_) (fun _ => Tot.ite (fun _ => ?_) (fun _ => Tot.some ?_)))
 ·dsimp only; omega
 ·refine Tot.bind (spoilt_t hb _ _ _ _ (by decide) (by omega) (by omega) (by omega)) (fun z hz => Tot.some ?_)
  obtain ⟨z3, p3, q3⟩ := hz
  dsimp only
  omega
 ·refine Tot.pos (by omega) (Tot.some ?_)
  dsimp only
  rw [ByteArray.size_append]
  omega
 ·dsimp only; omega
end Go.Proofs.YtinbbjfnebhlkaaDoor.P
