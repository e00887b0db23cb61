/- For every number and record, the law FnExactEncodeRecord answers true: the program's EncodeRecord returns what the reference's returns. No conditions beyond the given statement's. -/
import Derived.Test.YtinbbjfnebhlkaaDoorPx1
import Derived.Test.YtinbbjfnebhlkaaDoorPx2
import Derived.Test.YtinbbjfnebhlkaaDoorPx3
import Derived.Test.YtinbbjfnebhlkaaDoorLBase
import Derived.Test.YtinbbjfnebhlkaaDoorLRec
import Derived.Test.YtinbbjfnebhlkaaDoorLSeal
namespace Go.Proofs.YtinbbjfnebhlkaaDoor.Pure
open Go.RowKit Go.Proofs.YtinbbjfnebhlkaaDoorW.PrintWords Go.Proofs.YtinbbjfnebhlkaaDoorW.PrintLast Go.Proofs.YtinbbjfnebhlkaaDoorW.PrintMore Go.Proofs.YtinbbjfnebhlkaaDoor.P
set_option linter.unusedVariables false
set_option linter.unusedSimpArgs false

theorem FnExactEncodeRecord : laws_FnExactEncodeRecord.Pure := by
  intro n a _ hB
  refine ⟨a.f0.size + a.f1.size + 200, ?_⟩
  obtain ⟨h0, h1⟩ := hB
  have hsz : ∃ t, laws_szLogRecord.f a.f0 a.f1 1048576 = some t := by
    unfold laws_szLogRecord.f
    split
    · exact ⟨_, rfl⟩
    · split <;> exact ⟨_, rfl⟩
  unfold laws_FnExactEncodeRecord.f
  refine bind_true hsz fun t => ?_
  split
  · rfl
  unfold laws_toLogRecord.f spec_EncodeRecord.f impl_EncodeRecord.f spec_l1In.f impl_inside.f
  simp only [Option.bind_some]
  rw [specGood a.f0 a.f1 h0 h1 _ (by omega) (by omega), implGood a.f0 a.f1 h0 h1 _ (by omega) (by omega)]
  by_cases hn : n ≥ 0
  · rw [if_pos hn]
    by_cases h59 : n ≤ 59
    · have e59 : decide (n ≤ 59) = true := decide_eq_true h59
      rw [e59]
      cases hg : goodRec a.f0 a.f1 with
      | false => simp
      | true =>
        obtain ⟨g1, g2, g3, _⟩ := goodRec_parts hg
        rw [specLine n a.f0 a.f1 (by omega) (by omega) (by omega) (by omega) (by omega) _ (by omega), implLine n a.f0 a.f1 hn (by omega) hg _ (by omega)]
        simp
    · have e59 : decide (n ≤ 59) = false := decide_eq_false h59
      rw [e59]
      simp
  · rw [if_neg hn]
    simp

end Go.Proofs.YtinbbjfnebhlkaaDoor.Pure
