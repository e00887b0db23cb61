/- Which numbers locales speak of. No conditions. -/
import Derived.Test.YtleckcbiifhanaaDoorZPx14
import Derived.Test.YtleckcbiifhanaaDoorZLLocBytes
namespace Go.Proofs.YtleckcbiifhanaaDoor.P
open Go.RowKit Go.Proofs.YtleckcbiifhanaaDoorW.PrintWords Go.Proofs.YtleckcbiifhanaaDoorW.PrintLast Go.Proofs.YtleckcbiifhanaaDoorW.PrintMore
set_option linter.unusedVariables false
set_option linter.unusedSimpArgs false
theorem implNumber (n : Int) : impl_isNumber.f n = some (inB n 0 999999) := by
 unfold impl_isNumber.f
 rw [in_impl, Option.bind_some]
end Go.Proofs.YtleckcbiifhanaaDoor.P
