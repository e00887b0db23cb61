/- The library's contracts that this seat's proofs use, each at this program's own numbers (written by the kit's lay-shelf and lay-plain). Conditions: those of each theorem. -/
import Derived.Shelf.Strings.Search2
import Derived.Test.YtmkkcpdpfelalaaProg
namespace Go.Proofs
open Go.Shelf
def Try.lays219_ren : Go.Shelf.Ren := ⟨fun | 219 => 95 | 217 => 100 | 225 => 101 | 224 => 102 | 267 => 103 | 266 => 104 | 314 => 105 | n => n, fun | 9 => 9 | 3 => 3 | 4 => 4 | 5 => 5 | 46 => 123 | 146 => 125 | 51 => 124 | n => n, fun | 1 => 0 | n => n⟩
theorem Try.lays219 : Go.Proofs.Lays.n219 Try.prog Try.lays219_ren := {
 mixed := by kernel_rfl
 f217 := Try.func100.trans (congrArg some (by kernel_rfl))
 f219 := Try.func95.trans (congrArg some (by kernel_rfl))
 f224 := Try.func102.trans (congrArg some (by kernel_rfl))
 f225 := Try.func101.trans (congrArg some (by kernel_rfl))
 f266 := Try.func104.trans (congrArg some (by kernel_rfl))
 f267 := Try.func103.trans (congrArg some (by kernel_rfl))
 f314 := Try.func105.trans (congrArg some (by kernel_rfl))
 t3 := Try.underlying3
 a3 := Try.isAgg3
 z3 := Try.sizeOf3
 v3 := Try.zeroValue3
 t4 := Try.underlying4
 a4 := Try.isAgg4
 z4 := Try.sizeOf4
 v4 := Try.zeroValue4
 t5 := Try.underlying5
 a5 := Try.isAgg5
 z5 := Try.sizeOf5
 v5 := Try.zeroValue5
 t9 := Try.underlying9
 a9 := Try.isAgg9
 z9 := Try.sizeOf9
 v9 := Try.zeroValue9
 t46 := Try.underlying123
 a46 := Try.isAgg123
 z46 := Try.sizeOf123
 v46 := Try.zeroValue123
 t51 := Try.underlying124
 a51 := Try.isAgg124
 z51 := Try.sizeOf124
 v51 := Try.zeroValue124
 t146 := Try.underlying125
 a146 := Try.isAgg125
 z146 := Try.sizeOf125
 v146 := Try.zeroValue125
 g1 := by kernel_rfl }
open Go.RowKit Go.Lib in
theorem Try.stringslite_Index_one (s : ByteArray) (c : UInt8) (w : World) :
  Calls Try.prog 95 #[.string s, .string ⟨#[c]⟩] w fun e w' => e = .returned (.int .i64 (Lib.indexByte s.data.toList c)) ∧ w' = w := Any.stringslite_Index_one Try.lays219 s c w
end Go.Proofs
