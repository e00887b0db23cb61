/- The library's contracts that this seat's proofs use, each at this program's own numbers (written by the kit's lay-shelf and lay-plain). Conditions: those of each theorem. -/
import Derived.Shelf.LaysM
import Derived.Shelf.Strconv.Itoa3
import Derived.Shelf.Strings.Search1
import Derived.Shelf.Strings.Search2
import Derived.Test.YtinbbjfnebhlkaaDoorProg
namespace Go.Proofs
open Go.Shelf
def Tryd.laysM171_ren : Go.Shelf.Ren := ⟨fun | 171 => 66 | 243 => 75 | 246 => 78 | 283 => 84 | 284 => 85 | 285 => 86 | 286 => 87 | 129 => 91 | 317 => 90 | 318 => 92 | 319 => 93 | 320 => 94 | 337 => 95 | 338 => 96 | n => n, fun | 3 => 3 | 9 => 9 | 2 => 2 | 4 => 4 | 171 => 101 | 0 => 0 | 53 => 72 | 37 => 53 | 5 => 5 | 173 => 104 | 212 => 110 | 51 => 106 | 20 => 20 | 213 => 111 | 46 => 98 | 232 => 114 | 233 => 115 | n => n, fun | 17 => 1 | 18 => 2 | 19 => 3 | n => n⟩
theorem Tryd.laysM171 : Go.Proofs.LaysM.n171 Tryd.prog Tryd.laysM171_ren := {
 mixed := by kernel_rfl
 f129 := Tryd.func91.trans (congrArg some (by kernel_rfl))
 f171 := Tryd.func66.trans (congrArg some (by kernel_rfl))
 f243 := Tryd.func75.trans (congrArg some (by kernel_rfl))
 f246 := Tryd.func78.trans (congrArg some (by kernel_rfl))
 f283 := Tryd.func84.trans (congrArg some (by kernel_rfl))
 f284 := Tryd.func85.trans (congrArg some (by kernel_rfl))
 f285 := Tryd.func86.trans (congrArg some (by kernel_rfl))
 f286 := Tryd.func87.trans (congrArg some (by kernel_rfl))
 f317 := Tryd.func90.trans (congrArg some (by kernel_rfl))
 f318 := Tryd.func92.trans (congrArg some (by kernel_rfl))
 f319 := Tryd.func93.trans (congrArg some (by kernel_rfl))
 f320 := Tryd.func94.trans (congrArg some (by kernel_rfl))
 f337 := Tryd.func95.trans (congrArg some (by kernel_rfl))
 f338 := Tryd.func96.trans (congrArg some (by kernel_rfl))
 t0 := Tryd.underlying0
 a0 := Tryd.isAgg0
 z0 := Tryd.sizeOf0
 v0 := Tryd.zeroValue0
 t2 := Tryd.underlying2
 a2 := Tryd.isAgg2
 z2 := Tryd.sizeOf2
 v2 := Tryd.zeroValue2
 t3 := Tryd.underlying3
 a3 := Tryd.isAgg3
 z3 := Tryd.sizeOf3
 v3 := Tryd.zeroValue3
 t4 := Tryd.underlying4
 a4 := Tryd.isAgg4
 z4 := Tryd.sizeOf4
 v4 := Tryd.zeroValue4
 t5 := Tryd.underlying5
 a5 := Tryd.isAgg5
 z5 := Tryd.sizeOf5
 v5 := Tryd.zeroValue5
 t9 := Tryd.underlying9
 a9 := Tryd.isAgg9
 z9 := Tryd.sizeOf9
 v9 := Tryd.zeroValue9
 t20 := Tryd.underlying20
 a20 := Tryd.isAgg20
 z20 := Tryd.sizeOf20
 v20 := Tryd.zeroValue20
 t37 := Tryd.underlying53
 a37 := Tryd.isAgg53
 z37 := Tryd.sizeOf53
 v37 := Tryd.zeroValue53
 t46 := Tryd.underlying98
 a46 := Tryd.isAgg98
 z46 := Tryd.sizeOf98
 v46 := Tryd.zeroValue98
 t51 := Tryd.underlying106
 a51 := Tryd.isAgg106
 z51 := Tryd.sizeOf106
 v51 := Tryd.zeroValue106
 t53 := Tryd.underlying72
 a53 := Tryd.isAgg72
 z53 := Tryd.sizeOf72
 v53 := Tryd.zeroValue72
 t171 := Tryd.underlying101
 a171 := Tryd.isAgg101
 z171 := Tryd.sizeOf101
 v171 := Tryd.zeroValue101
 t173 := Tryd.underlying104
 a173 := Tryd.isAgg104
 z173 := Tryd.sizeOf104
 v173 := Tryd.zeroValue104
 t212 := Tryd.underlying110
 a212 := Tryd.isAgg110
 z212 := Tryd.sizeOf110
 v212 := Tryd.zeroValue110
 t213 := Tryd.underlying111
 a213 := Tryd.isAgg111
 z213 := Tryd.sizeOf111
 t232 := Tryd.underlying114
 a232 := Tryd.isAgg114
 z232 := Tryd.sizeOf114
 v232 := Tryd.zeroValue114
 t233 := Tryd.underlying115
 a233 := Tryd.isAgg115
 z233 := Tryd.sizeOf115
 v233 := Tryd.zeroValue115
 g17 := by kernel_rfl
 g18 := by kernel_rfl
 g19 := by kernel_rfl
 i0 := by kernel_rfl
 i2 := by kernel_rfl
 i3 := by kernel_rfl
 i4 := by kernel_rfl
 i5 := by kernel_rfl
 i9 := by kernel_rfl
 i20 := by kernel_rfl
 i37 := by kernel_rfl
 i46 := by kernel_rfl
 i51 := by kernel_rfl
 i53 := by kernel_rfl
 i171 := by kernel_rfl
 i173 := by kernel_rfl
 i212 := by kernel_rfl
 i232 := by kernel_rfl
 i233 := by kernel_rfl
 m17 := by kernel_rfl
 m18 := by kernel_rfl
 m19 := by kernel_rfl }
open Go.RowKit Go.Sort Go.Lib in
theorem Tryd.strconv_Itoa (n : Int) (h0 : -9223372036854775808 ≤ n) (h1 : n ≤ 9223372036854775807) (w : World) (htab : Lib.TabIs Tryd.prog w "internal/strconv.uint64pow10" .u64 Lib.pow10Tab) :
  Calls Tryd.prog 66 #[.int .i64 n] w fun e w' => e = .returned (.string ⟨(Lib.itoa n).toArray⟩) ∧ ∃ k os, w' = grow (w.drewN k) os := Any.strconv_Itoa Tryd.laysM171 n h0 h1 w htab
def Tryd.lays219_ren : Go.Shelf.Ren := ⟨fun | 219 => 77 | 217 => 80 | 225 => 81 | 224 => 82 | 267 => 83 | 266 => 88 | 314 => 89 | n => n, fun | 9 => 9 | 3 => 3 | 4 => 4 | 5 => 5 | 46 => 98 | 146 => 107 | 51 => 106 | n => n, fun | 1 => 0 | n => n⟩
theorem Tryd.lays219 : Go.Proofs.Lays.n219 Tryd.prog Tryd.lays219_ren := {
 mixed := by kernel_rfl
 f217 := Tryd.func80.trans (congrArg some (by kernel_rfl))
 f219 := Tryd.func77.trans (congrArg some (by kernel_rfl))
 f224 := Tryd.func82.trans (congrArg some (by kernel_rfl))
 f225 := Tryd.func81.trans (congrArg some (by kernel_rfl))
 f266 := Tryd.func88.trans (congrArg some (by kernel_rfl))
 f267 := Tryd.func83.trans (congrArg some (by kernel_rfl))
 f314 := Tryd.func89.trans (congrArg some (by kernel_rfl))
 t3 := Tryd.underlying3
 a3 := Tryd.isAgg3
 z3 := Tryd.sizeOf3
 v3 := Tryd.zeroValue3
 t4 := Tryd.underlying4
 a4 := Tryd.isAgg4
 z4 := Tryd.sizeOf4
 v4 := Tryd.zeroValue4
 t5 := Tryd.underlying5
 a5 := Tryd.isAgg5
 z5 := Tryd.sizeOf5
 v5 := Tryd.zeroValue5
 t9 := Tryd.underlying9
 a9 := Tryd.isAgg9
 z9 := Tryd.sizeOf9
 v9 := Tryd.zeroValue9
 t46 := Tryd.underlying98
 a46 := Tryd.isAgg98
 z46 := Tryd.sizeOf98
 v46 := Tryd.zeroValue98
 t51 := Tryd.underlying106
 a51 := Tryd.isAgg106
 z51 := Tryd.sizeOf106
 v51 := Tryd.zeroValue106
 t146 := Tryd.underlying107
 a146 := Tryd.isAgg107
 z146 := Tryd.sizeOf107
 v146 := Tryd.zeroValue107
 g1 := by kernel_rfl }
open Go.RowKit Go.Lib in
theorem Tryd.stringslite_Index_one (s : ByteArray) (c : UInt8) (w : World) :
  Calls Tryd.prog 77 #[.string s, .string ⟨#[c]⟩] w fun e w' => e = .returned (.int .i64 (Lib.indexByte s.data.toList c)) ∧ w' = w := Any.stringslite_Index_one Tryd.lays219 s c w
end Go.Proofs
