/- The term with a key, and its form for a number: the program's and the reference's answers are one plain function, for locales whose texts have at most 1048576 bytes each. -/
import Derived.Test.YtmkkcpdpfelalaaDoorZPx0
import Derived.Test.YtmkkcpdpfelalaaDoorZPx10
import Derived.Test.YtmkkcpdpfelalaaDoorZPx7
import Derived.Test.YtmkkcpdpfelalaaDoorZPx9
import Derived.Test.YtmkkcpdpfelalaaDoorZLBase
import Derived.Test.YtmkkcpdpfelalaaDoorZLLocGood
import Derived.Test.YtmkkcpdpfelalaaDoorZLLocText
namespace Go.Proofs.YtmkkcpdpfelalaaDoor.P
open Go.RowKit Go.Proofs.YtmkkcpdpfelalaaDoorW.PrintWords Go.Proofs.YtmkkcpdpfelalaaDoorW.PrintLast Go.Proofs.YtmkkcpdpfelalaaDoorW.PrintMore
set_option linter.unusedVariables false
set_option linter.unusedSimpArgs false
theorem implNumber (n : Int) : impl_isNumber.f n = some (inB n 0 999999) := by
 unfold impl_isNumber.f
 rw [in_impl, Option.bind_some]
end Go.Proofs.YtmkkcpdpfelalaaDoor.P
