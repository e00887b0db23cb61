/- For every kind, string and place, the law FnExactRepairDigit answers true: the program's RepairDigit returns what the reference's returns. No conditions beyond the given statement's. -/
import Derived.Test.YtpnjnlcjofaglaaPx5
import Derived.Test.YtpnjnlcjofaglaaLRepair
namespace Go.Proofs.Ytpnjnlcjofaglaa.Pure
open Go.RowKit Go.Proofs.YtpnjnlcjofaglaaW.PrintWords Go.Proofs.YtpnjnlcjofaglaaW.PrintLast Go.Proofs.YtpnjnlcjofaglaaW.PrintMore Go.Proofs.Ytpnjnlcjofaglaa.P
set_option linter.unusedVariables false
set_option linter.unusedSimpArgs false

theorem FnExactRepairDigit : laws_FnExactRepairDigit.Pure := by
  intro kind s place _ _ _
  obtain ⟨K, hK⟩ : ∃ K, 2 * s.size + 300 < K := ⟨_, Nat.lt_succ_self _⟩
  refine ⟨K, ?_⟩
  unfold laws_FnExactRepairDigit.f
  by_cases hbig : (s.size : Int) > 1048576
  · rw [if_pos hbig]
  · rw [if_neg hbig]
    obtain ⟨eS, eI⟩ := repairBoth kind s place (by omega) K (by omega)
    have hb : ¬ (((repairR kind s place).2 != (repairR kind s place).2) = true) := by simp
    rw [eS, Option.bind_some, eI, Option.bind_some, if_pos rfl, if_neg hb]

end Go.Proofs.Ytpnjnlcjofaglaa.Pure
