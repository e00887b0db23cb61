-- by a program of this session (wip/tools) over the kit's print
import Derived.Test.YtpnjnlcjofaglaaProg
import Derived.Below
import Derived.Deep.Draws
import Derived.Deep.AppendLies
import Derived.Maps.AppendAt
import Derived.OwnWalk
import Derived.Laws.BytesArg
import Derived.Laws.MakeOwn
import Derived.Laws.OwnMore
import Derived.Deep.OwnRows
import Derived.Tactics
import Derived.Lib.ConvBytes
import Derived.Laws.Slices
import Derived.WalkKit
import Derived.KernelRfl
import Derived.RowKit3
import Derived.Deep.LoopGhost
import Derived.Deep.QuietTactic
import Derived.BigQuiet
import Derived.WideLaws
import Derived.Deep.DeepCutAuto
import Derived.Deep.CutBlock
import Derived.Deep.RegionHeld3
import Derived.Laws.Rows
import Derived.Lib.AppendStr
import Derived.ArgAppend
import Derived.Laws.IdiomCopy
import Derived.OrdersHeld
import Derived.Laws.BitsLemmas
import Derived.RowKit
import Derived.Test.YtpnjnlcjofaglaaWWords
import Derived.Test.YtpnjnlcjofaglaaWLast
import Derived.Test.YtpnjnlcjofaglaaWTab
import Derived.Test.YtpnjnlcjofaglaaWFour
import Derived.Test.YtpnjnlcjofaglaaWQPut
import Derived.Test.YtpnjnlcjofaglaaWApart
import Derived.Test.YtpnjnlcjofaglaaWArr
import Derived.Test.YtpnjnlcjofaglaaWZeros
import Derived.Test.YtpnjnlcjofaglaaWFoot
import Derived.Test.YtpnjnlcjofaglaaWKept
import Derived.Test.YtpnjnlcjofaglaaWShare
import Derived.Test.YtpnjnlcjofaglaaWN
import Derived.Test.YtpnjnlcjofaglaaWFootNe
import Derived.Test.YtpnjnlcjofaglaaWAt
import Derived.Test.YtpnjnlcjofaglaaWEqStruct
import Derived.Test.YtpnjnlcjofaglaaWRepsOne
import Derived.Test.YtpnjnlcjofaglaaWInv
import Derived.Test.YtpnjnlcjofaglaaWInvWords
import Derived.Test.YtpnjnlcjofaglaaWGuard
import Derived.Test.YtpnjnlcjofaglaaWNEv
import Derived.Test.YtpnjnlcjofaglaaWMore
namespace Go.Proofs.Ytpnjnlcjofaglaa.P
open Go.RowKit Go.Proofs.YtpnjnlcjofaglaaW.PrintWords Go.Proofs.YtpnjnlcjofaglaaW.PrintLast Go.Proofs.YtpnjnlcjofaglaaW.PrintMore
attribute [local go_sem] max2_int min2_int max_two min_two max_three min_three max_four min_four   -- for this text's walks alone
set_option linter.unusedVariables false
set_option linter.unusedSimpArgs false



def errW : Option Int → Value
  | none => .nilIface
  | some c => .iface 0 (.int .i64 c)
theorem errW_none : errW none = .nilIface := rfl
theorem errW_some (c : Int) : errW (some c) = .iface 0 (.int .i64 c) := rfl

-- small lemmas of this session
theorem my_isEmpty (l : List UInt8) : (l != []) = !l.isEmpty := by cases l <;> rfl

theorem info3 : (Try.prog.info? 3).map (fun i => (i.zero, i.size, i.bytes)) = some (some (.int .i64 0), 1, 8) := by kernel_rfl
theorem info5 : (Try.prog.info? 5).map (fun i => (i.zero, i.size, i.bytes)) = some (some (.int .u8 0), 1, 1) := by kernel_rfl
theorem info9 : (Try.prog.info? 9).map (fun i => (i.zero, i.size, i.bytes)) = some (some (.string ⟨#[]⟩), 1, 16) := by kernel_rfl
-- the values' own types

end Go.Proofs.Ytpnjnlcjofaglaa.P
