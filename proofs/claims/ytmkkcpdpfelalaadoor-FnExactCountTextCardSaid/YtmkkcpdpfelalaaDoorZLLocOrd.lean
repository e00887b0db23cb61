/- The text of an ordinal number: the program's and the reference's answers are one plain function, for valid locales and numbers from 0 to 999999. -/
import Derived.Test.YtmkkcpdpfelalaaDoorZPx0
import Derived.Test.YtmkkcpdpfelalaaDoorZPx3
import Derived.Test.YtmkkcpdpfelalaaDoorZPx4
import Derived.Test.YtmkkcpdpfelalaaDoorZPx7
import Derived.Test.YtmkkcpdpfelalaaDoorZLBase
import Derived.Test.YtmkkcpdpfelalaaDoorZLLocFind
import Derived.Test.YtmkkcpdpfelalaaDoorZLLocGood
import Derived.Test.YtmkkcpdpfelalaaDoorZLLocText
import Derived.Test.YtmkkcpdpfelalaaDoorZLNum
namespace Go.Proofs.YtmkkcpdpfelalaaDoor.P
open Go.RowKit Go.Proofs.YtmkkcpdpfelalaaDoorW.PrintWords Go.Proofs.YtmkkcpdpfelalaaDoorW.PrintLast Go.Proofs.YtmkkcpdpfelalaaDoorW.PrintMore
set_option linter.unusedVariables false
set_option linter.unusedSimpArgs false
theorem inB_of {a lo hi : Int} (h : inB a lo hi = true) : lo ≤ a ∧ a ≤ hi := by
 unfold inB at h
 simpa using h
end Go.Proofs.YtmkkcpdpfelalaaDoor.P
