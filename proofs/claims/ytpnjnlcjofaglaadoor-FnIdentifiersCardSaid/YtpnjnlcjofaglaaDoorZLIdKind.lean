/- Which numbers are kinds of identifiers: the program's test. No conditions. -/
import Derived.Test.YtpnjnlcjofaglaaDoorZPx4
import Derived.Test.YtpnjnlcjofaglaaDoorZLIdent
namespace Go.Proofs.YtpnjnlcjofaglaaDoor.P
open Go.RowKit Go.Proofs.YtpnjnlcjofaglaaDoorW.PrintWords Go.Proofs.YtpnjnlcjofaglaaDoorW.PrintLast Go.Proofs.YtpnjnlcjofaglaaDoorW.PrintMore
set_option linter.unusedVariables false
set_option linter.unusedSimpArgs false
theorem kindOk (kind : Int) : impl_isIdKind.f kind = some (decide (1 ≤ kind) && decide (kind ≤ 4)) := by
 unfold impl_isIdKind.f impl_inside.f
 by_cases h : kind ≥ 1
 ·have : decide (1 ≤ kind) = true := decide_eq_true h
  rw [if_pos h, this]
  rfl
 ·have : decide (1 ≤ kind) = false := decide_eq_false h
  rw [if_neg h, this]
  rfl
theorem idForm_no {kind : Int} {s : ByteArray} (h : ¬ (1 ≤ kind ∧ kind ≤ 4)) : idForm kind s = false := by
 cases hf : idForm kind s with
 | false => rfl
 | true => exact absurd (idForm_size hf).2 h
end Go.Proofs.YtpnjnlcjofaglaaDoor.P
