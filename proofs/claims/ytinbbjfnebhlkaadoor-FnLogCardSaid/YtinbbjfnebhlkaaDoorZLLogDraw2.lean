/- The draw of a log and a record to append comes to something. Conditions: those of each lemma. -/
import Derived.Test.YtinbbjfnebhlkaaDoorZPx11
import Derived.Test.YtinbbjfnebhlkaaDoorZLBase
import Derived.Test.YtinbbjfnebhlkaaDoorZLDraw
import Derived.Test.YtinbbjfnebhlkaaDoorZLLogA
import Derived.Test.YtinbbjfnebhlkaaDoorZLLogDraw
namespace Go.Proofs.YtinbbjfnebhlkaaDoor.P
open Go.RowKit Go.Proofs.YtinbbjfnebhlkaaDoorW.PrintWords Go.Proofs.YtinbbjfnebhlkaaDoorW.PrintLast Go.Proofs.YtinbbjfnebhlkaaDoorW.PrintMore
set_option linter.unusedVariables false
set_option linter.unusedSimpArgs false
theorem drawApp_l0 {l : List Int} (hb : Byt l) (d : Nat) : ∀ (k : Nat) (n a sd : Int) (D P : ByteArray) (c : Int), n = (d : Int) → d ≤ 60 → 0 ≤ a → a ≤ 1000000000000000000 → D.size + P.size + 402 * d ≤ 30000 → 70000 + d < k →
  Tot (spec_DrawAppendRecord.l0 k n l a sd D P c) (fun r => r.1.size + r.2.1.size ≤ D.size + P.size + 402 * d ∧ r.2.2.2.1.size ≤ 20 ∧ r.2.2.2.2.size ≤ 20) := by
 induction d with
 | zero =>
  intro k n a sd D P c hn _ h0 h1 hs hk
  obtain ⟨k, rfl⟩ := succ_of hk
  rw [spec_DrawAppendRecord.l0]
  refine Tot.neg (by omega) (Tot.bind (logRecord_t hb a sd h0 (by omega)) (fun x hx => Tot.some ?_))
  obtain ⟨z1, z2, _⟩ := hx
  dsimp only
  omega
 | succ d ih =>
  intro k n a sd D P c hn hd h0 h1 hs hk
  obtain ⟨k, rfl⟩ := succ_of hk
  obtain ⟨k, rfl⟩ : ∃ m, k = m + 1 := ⟨k - 1, by omega⟩
  rw [spec_DrawAppendRecord.l0]
  have hw : wrap64 (n - 1) = (d : Int) := by rw [w64 (by omega) (by omega)]; omega
  have e1 : (⟨#[120]⟩ : ByteArray).size = 1 := rfl
  have e0 : (⟨#[]⟩ : ByteArray).size = 0 := rfl
  rw [hw]
  refine Tot.pos (by omega) ?_
  have hA := (appBoth D P ⟨#[120]⟩ ⟨#[]⟩ c (by omega) (by omega) (by omega) k (by omega) (by omega) (by omega)).1
  obtain ⟨a1, a2⟩ := appR_size D P ⟨#[120]⟩ ⟨#[]⟩ c
  rw [hA, Option.bind_some]
  generalize appR D P c ⟨#[120]⟩ ⟨#[]⟩ = R at *
  have a1' : R.1.size = D.size := by rw [a1]
  refine (ih (k + 1) _ _ _ R.1 R.2.1 _ rfl (by omega) (by omega) (by omega) (by omega) (by omega)).mono (fun r hr => ?_)
  omega
theorem drawApp_t {l : List Int} (hb : Byt l) (k : Nat) (hk : 70200 < k) :
  Tot (spec_DrawAppendRecord.f k l) (fun r => r.1.size + r.2.1.size ≤ 30000 ∧ r.2.2.2.1.size ≤ 20 ∧ r.2.2.2.2.size ≤ 20) := by
 unfold spec_DrawAppendRecord.f
 refine Tot.bind (anyLog_t hb 0 0 (by omega) (by omega) k (by omega)) (fun x hx => ?_)
 obtain ⟨z1, p1, q1⟩ := hx
 refine Tot.bind (one_t hb _ _ _ (by omega) (by omega)) (fun y hy => ?_)
 obtain ⟨p2, q2⟩ := hy
 refine Tot.ite (fun _ => ?_) (fun _ => ?_)
 ·refine Tot.bind (pick_t hb _ _ _ (by omega) (by omega)) (fun z hz => ?_)
  obtain ⟨z0, z1, p3, q3⟩ := hz
  have e0 : (⟨#[]⟩ : ByteArray).size = 0 := rfl
  have hw : wrap64 (59 + z.1) = 59 + z.1 := w64 (by omega) (by omega)
  rw [hw]
  refine (drawApp_l0 hb (59 + z.1).toNat k (59 + z.1) _ _ _ _ _ (by omega) (by omega) (by omega) (by omega) (by rw [e0]; omega) (by omega)).mono (fun r hr => ?_)
  rw [e0] at hr
  omega
 ·refine Tot.bind (logRecord_t hb _ _ (by omega) (by omega)) (fun z hz => Tot.some ?_)
  obtain ⟨z3, z4, _⟩ := hz
  dsimp only
  omega
end Go.Proofs.YtinbbjfnebhlkaaDoor.P
