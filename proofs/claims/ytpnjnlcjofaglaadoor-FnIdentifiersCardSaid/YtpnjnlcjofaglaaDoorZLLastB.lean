/- The characters that may stand last: ten digits and X. No conditions beyond each lemma's own. -/
import Derived.Test.YtpnjnlcjofaglaaDoorZPx0
namespace Go.Proofs.YtpnjnlcjofaglaaDoor.P
open Go.RowKit Go.Proofs.YtpnjnlcjofaglaaDoorW.PrintWords Go.Proofs.YtpnjnlcjofaglaaDoorW.PrintLast Go.Proofs.YtpnjnlcjofaglaaDoorW.PrintMore
set_option linter.unusedVariables false
set_option linter.unusedSimpArgs false
def lastB (v : Nat) : ByteArray := if v < 10 then ⟨#[UInt8.ofNat (48 + v)]⟩ else ⟨#[88]⟩
theorem extract_last (v : Nat) (h : v < 11) : (⟨#[48, 49, 50, 51, 52, 53, 54, 55, 56, 57, 88]⟩ : ByteArray).extract v (v + 1) = lastB v := by
 have : v = 0 ∨ v = 1 ∨ v = 2 ∨ v = 3 ∨ v = 4 ∨ v = 5 ∨ v = 6 ∨ v = 7 ∨ v = 8 ∨ v = 9 ∨ v = 10 := by omega
 rcases this with rfl | rfl | rfl | rfl | rfl | rfl | rfl | rfl | rfl | rfl | rfl <;> decide +kernel
theorem lastB_size (v : Nat) : (lastB v).size = 1 := by unfold lastB; split <;> rfl
end Go.Proofs.YtpnjnlcjofaglaaDoor.P
