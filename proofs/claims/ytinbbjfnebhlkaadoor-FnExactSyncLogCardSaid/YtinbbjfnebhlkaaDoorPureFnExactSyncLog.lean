/- For every log, the law FnExactSyncLog answers true: the program's SyncLog returns what the reference's returns. No conditions beyond the given statement's. -/
import Derived.Test.YtinbbjfnebhlkaaDoorPx5
import Derived.Test.YtinbbjfnebhlkaaDoorPx6
import Derived.Test.YtinbbjfnebhlkaaDoorLWalks
namespace Go.Proofs.YtinbbjfnebhlkaaDoor.Pure
open Go.RowKit Go.Proofs.YtinbbjfnebhlkaaDoorW.PrintWords Go.Proofs.YtinbbjfnebhlkaaDoorW.PrintLast Go.Proofs.YtinbbjfnebhlkaaDoorW.PrintMore Go.Proofs.YtinbbjfnebhlkaaDoor.P
set_option linter.unusedVariables false
set_option linter.unusedSimpArgs false

theorem FnExactSyncLog : laws_FnExactSyncLog.Pure := by
  intro a hB
  obtain ⟨hD, hP, _⟩ := hB
  obtain ⟨K, hK⟩ : ∃ K, 2 * (a.f0.size + a.f1.size) + 800 < K := ⟨_, Nat.lt_succ_self _⟩
  refine ⟨K, ?_⟩
  obtain ⟨t, ht, hsz⟩ := szLog a.f0 a.f1 a.f2 hD hP
  unfold laws_FnExactSyncLog.f
  rw [ht]
  simp only [Option.bind_some]
  by_cases hneg : t < 0
  · rw [if_pos hneg]
  · have hs := hsz hneg
    rw [if_neg hneg]
    have hle : a.f0.size + a.f1.size ≤ 9223372036854775807 := Nat.le_trans hs (by decide)
    obtain ⟨R, hR⟩ : ∃ R : ByteArray × ByteArray × Int × Bool, (if isLogB a.f0 a.f1 a.f2 = true then (a.f0 ++ a.f1, (⟨#[]⟩ : ByteArray), a.f2, true) else ((⟨#[]⟩ : ByteArray), (⟨#[]⟩ : ByteArray), 0, false)) = R := ⟨_, rfl⟩
    have eS : spec_SyncLog.f K a.f0 a.f1 a.f2 = some R := by
      unfold spec_SyncLog.f
      rw [specLog a.f0 a.f1 a.f2 hs K hK, Option.bind_some, if_pos hle, ← hR]
      split <;> rfl
    have eI : impl_SyncLog.f K a.f0 a.f1 a.f2 = some R := by
      unfold impl_SyncLog.f
      rw [implLog a.f0 a.f1 a.f2 hs K hK, Option.bind_some, if_pos hle, ← hR]
      split <;> rfl
    have eE : laws_eqLog.f R.1 R.2.1 R.2.2.1 R.1 R.2.1 R.2.2.1 = some true := by
      unfold laws_eqLog.f
      rw [if_pos rfl, if_pos rfl, if_pos rfl]
    have hb : (R.2.2.2 != R.2.2.2) = false := bne_eq_false_iff_eq.2 rfl
    rw [show laws_toLog.f a.f0 a.f1 a.f2 = some (a.f0, a.f1, a.f2) from rfl, Option.bind_some, eS, Option.bind_some, Option.bind_some, eI, Option.bind_some, eE, Option.bind_some, if_pos rfl, hb, if_neg (by simp)]

end Go.Proofs.YtinbbjfnebhlkaaDoor.Pure
