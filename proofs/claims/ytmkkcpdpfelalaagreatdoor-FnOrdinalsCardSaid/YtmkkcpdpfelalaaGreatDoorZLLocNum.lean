/- Which numbers locales speak of. No conditions. -/
import Derived.Test.YtmkkcpdpfelalaaGreatDoorZPx7
import Derived.Test.YtmkkcpdpfelalaaGreatDoorZLLocBytes
namespace Go.Proofs.YtmkkcpdpfelalaaGreatDoor.P
open Go.RowKit Go.Proofs.YtmkkcpdpfelalaaGreatDoorW.PrintWords Go.Proofs.YtmkkcpdpfelalaaGreatDoorW.PrintLast Go.Proofs.YtmkkcpdpfelalaaGreatDoorW.PrintMore
set_option linter.unusedVariables false
set_option linter.unusedSimpArgs false
theorem implNumber (n : Int) : impl_isNumber.f n = some (inB n 0 999999) := by
 unfold impl_isNumber.f
 rw [in_impl, Option.bind_some]
end Go.Proofs.YtmkkcpdpfelalaaGreatDoor.P
