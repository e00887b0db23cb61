/- The library's contracts that this seat's proofs use, each at this program's own numbers (written by the kit's lay-shelf and lay-plain). Conditions: those of each theorem. -/
import Derived.Shelf.Strconv.Atoi
import Derived.Shelf.LaysM
import Derived.Shelf.Strconv.Itoa3
import Derived.Shelf.LaysC
import Derived.Shelf.Strings.Search1
import Derived.Shelf.Strings.Search2
import Derived.Test.YtmkkcpdpfelalaaDoorProg
namespace Go.Proofs
open Go.Shelf
def Tryd.laysM171_ren : Go.Shelf.Ren := ⟨fun | 171 => 43 | 243 => 77 | 246 => 90 | 283 => 97 | 284 => 98 | 285 => 99 | 286 => 100 | 129 => 110 | 317 => 109 | 318 => 111 | 319 => 112 | 320 => 113 | 337 => 122 | 338 => 123 | n => n, fun | 3 => 3 | 9 => 9 | 2 => 2 | 4 => 4 | 171 => 122 | 0 => 0 | 53 => 74 | 37 => 38 | 5 => 5 | 173 => 125 | 212 => 135 | 51 => 136 | 20 => 20 | 213 => 137 | 46 => 120 | 232 => 154 | 233 => 155 | n => n, fun | 17 => 0 | 18 => 4 | 19 => 5 | n => n⟩
theorem Tryd.laysM171 : Go.Proofs.LaysM.n171 Tryd.prog Tryd.laysM171_ren := {
 mixed := by kernel_rfl
 f129 := Tryd.func110.trans (congrArg some (by kernel_rfl))
 f171 := Tryd.func43.trans (congrArg some (by kernel_rfl))
 f243 := Tryd.func77.trans (congrArg some (by kernel_rfl))
 f246 := Tryd.func90.trans (congrArg some (by kernel_rfl))
 f283 := Tryd.func97.trans (congrArg some (by kernel_rfl))
 f284 := Tryd.func98.trans (congrArg some (by kernel_rfl))
 f285 := Tryd.func99.trans (congrArg some (by kernel_rfl))
 f286 := Tryd.func100.trans (congrArg some (by kernel_rfl))
 f317 := Tryd.func109.trans (congrArg some (by kernel_rfl))
 f318 := Tryd.func111.trans (congrArg some (by kernel_rfl))
 f319 := Tryd.func112.trans (congrArg some (by kernel_rfl))
 f320 := Tryd.func113.trans (congrArg some (by kernel_rfl))
 f337 := Tryd.func122.trans (congrArg some (by kernel_rfl))
 f338 := Tryd.func123.trans (congrArg some (by kernel_rfl))
 t0 := Tryd.underlying0
 a0 := Tryd.isAgg0
 z0 := Tryd.sizeOf0
 v0 := Tryd.zeroValue0
 t2 := Tryd.underlying2
 a2 := Tryd.isAgg2
 z2 := Tryd.sizeOf2
 v2 := Tryd.zeroValue2
 t3 := Tryd.underlying3
 a3 := Tryd.isAgg3
 z3 := Tryd.sizeOf3
 v3 := Tryd.zeroValue3
 t4 := Tryd.underlying4
 a4 := Tryd.isAgg4
 z4 := Tryd.sizeOf4
 v4 := Tryd.zeroValue4
 t5 := Tryd.underlying5
 a5 := Tryd.isAgg5
 z5 := Tryd.sizeOf5
 v5 := Tryd.zeroValue5
 t9 := Tryd.underlying9
 a9 := Tryd.isAgg9
 z9 := Tryd.sizeOf9
 v9 := Tryd.zeroValue9
 t20 := Tryd.underlying20
 a20 := Tryd.isAgg20
 z20 := Tryd.sizeOf20
 v20 := Tryd.zeroValue20
 t37 := Tryd.underlying38
 a37 := Tryd.isAgg38
 z37 := Tryd.sizeOf38
 v37 := Tryd.zeroValue38
 t46 := Tryd.underlying120
 a46 := Tryd.isAgg120
 z46 := Tryd.sizeOf120
 v46 := Tryd.zeroValue120
 t51 := Tryd.underlying136
 a51 := Tryd.isAgg136
 z51 := Tryd.sizeOf136
 v51 := Tryd.zeroValue136
 t53 := Tryd.underlying74
 a53 := Tryd.isAgg74
 z53 := Tryd.sizeOf74
 v53 := Tryd.zeroValue74
 t171 := Tryd.underlying122
 a171 := Tryd.isAgg122
 z171 := Tryd.sizeOf122
 v171 := Tryd.zeroValue122
 t173 := Tryd.underlying125
 a173 := Tryd.isAgg125
 z173 := Tryd.sizeOf125
 v173 := Tryd.zeroValue125
 t212 := Tryd.underlying135
 a212 := Tryd.isAgg135
 z212 := Tryd.sizeOf135
 v212 := Tryd.zeroValue135
 t213 := Tryd.underlying137
 a213 := Tryd.isAgg137
 z213 := Tryd.sizeOf137
 t232 := Tryd.underlying154
 a232 := Tryd.isAgg154
 z232 := Tryd.sizeOf154
 v232 := Tryd.zeroValue154
 t233 := Tryd.underlying155
 a233 := Tryd.isAgg155
 z233 := Tryd.sizeOf155
 v233 := Tryd.zeroValue155
 g17 := by kernel_rfl
 g18 := by kernel_rfl
 g19 := by kernel_rfl
 i0 := by kernel_rfl
 i2 := by kernel_rfl
 i3 := by kernel_rfl
 i4 := by kernel_rfl
 i5 := by kernel_rfl
 i9 := by kernel_rfl
 i20 := by kernel_rfl
 i37 := by kernel_rfl
 i46 := by kernel_rfl
 i51 := by kernel_rfl
 i53 := by kernel_rfl
 i171 := by kernel_rfl
 i173 := by kernel_rfl
 i212 := by kernel_rfl
 i232 := by kernel_rfl
 i233 := by kernel_rfl
 m17 := by kernel_rfl
 m18 := by kernel_rfl
 m19 := by kernel_rfl }
open Go.RowKit Go.Sort Go.Lib in
theorem Tryd.strconv_Itoa (n : Int) (h0 : -9223372036854775808 ≤ n) (h1 : n ≤ 9223372036854775807) (w : World) (htab : Lib.TabIs Tryd.prog w "internal/strconv.uint64pow10" .u64 Lib.pow10Tab) :
  Calls Tryd.prog 43 #[.int .i64 n] w fun e w' => e = .returned (.string ⟨(Lib.itoa n).toArray⟩) ∧ ∃ k os, w' = grow (w.drewN k) os := Any.strconv_Itoa Tryd.laysM171 n h0 h1 w htab
def Tryd.lays219_ren : Go.Shelf.Ren := ⟨fun | 219 => 103 | 217 => 115 | 225 => 116 | 224 => 117 | 267 => 118 | 266 => 124 | 314 => 125 | n => n, fun | 9 => 9 | 3 => 3 | 4 => 4 | 5 => 5 | 46 => 120 | 146 => 147 | 51 => 136 | n => n, fun | 1 => 1 | n => n⟩
theorem Tryd.lays219 : Go.Proofs.Lays.n219 Tryd.prog Tryd.lays219_ren := {
 mixed := by kernel_rfl
 f217 := Tryd.func115.trans (congrArg some (by kernel_rfl))
 f219 := Tryd.func103.trans (congrArg some (by kernel_rfl))
 f224 := Tryd.func117.trans (congrArg some (by kernel_rfl))
 f225 := Tryd.func116.trans (congrArg some (by kernel_rfl))
 f266 := Tryd.func124.trans (congrArg some (by kernel_rfl))
 f267 := Tryd.func118.trans (congrArg some (by kernel_rfl))
 f314 := Tryd.func125.trans (congrArg some (by kernel_rfl))
 t3 := Tryd.underlying3
 a3 := Tryd.isAgg3
 z3 := Tryd.sizeOf3
 v3 := Tryd.zeroValue3
 t4 := Tryd.underlying4
 a4 := Tryd.isAgg4
 z4 := Tryd.sizeOf4
 v4 := Tryd.zeroValue4
 t5 := Tryd.underlying5
 a5 := Tryd.isAgg5
 z5 := Tryd.sizeOf5
 v5 := Tryd.zeroValue5
 t9 := Tryd.underlying9
 a9 := Tryd.isAgg9
 z9 := Tryd.sizeOf9
 v9 := Tryd.zeroValue9
 t46 := Tryd.underlying120
 a46 := Tryd.isAgg120
 z46 := Tryd.sizeOf120
 v46 := Tryd.zeroValue120
 t51 := Tryd.underlying136
 a51 := Tryd.isAgg136
 z51 := Tryd.sizeOf136
 v51 := Tryd.zeroValue136
 t146 := Tryd.underlying147
 a146 := Tryd.isAgg147
 z146 := Tryd.sizeOf147
 v146 := Tryd.zeroValue147
 g1 := by kernel_rfl }
open Go.RowKit Go.Lib in
theorem Tryd.stringslite_Index_one (s : ByteArray) (c : UInt8) (w : World) :
  Calls Tryd.prog 103 #[.string s, .string ⟨#[c]⟩] w fun e w' => e = .returned (.int .i64 (Lib.indexByte s.data.toList c)) ∧ w' = w := Any.stringslite_Index_one Tryd.lays219 s c w
end Go.Proofs
