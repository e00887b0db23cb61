/- The library's contracts that this seat's proofs use, each at this program's own numbers (written by the kit's lay-shelf and lay-plain). Conditions: those of each theorem. -/
import Derived.Shelf.LaysM
import Derived.Shelf.Strconv.Itoa3
import Derived.Shelf.Strings.Search1
import Derived.Shelf.Strings.Search2
import Derived.Test.YtpnjnlcjofaglaaDoorProg
namespace Go.Proofs
open Go.Shelf
def Tryd.laysM171_ren : Go.Shelf.Ren := ⟨fun | 171 => 65 | 243 => 74 | 246 => 82 | 283 => 89 | 284 => 90 | 285 => 91 | 286 => 92 | 129 => 100 | 317 => 99 | 318 => 101 | 319 => 102 | 320 => 103 | 337 => 106 | 338 => 107 | n => n, fun | 3 => 3 | 9 => 9 | 2 => 2 | 4 => 4 | 171 => 86 | 0 => 0 | 53 => 54 | 37 => 29 | 5 => 5 | 173 => 89 | 212 => 99 | 51 => 100 | 20 => 20 | 213 => 101 | 46 => 82 | 232 => 106 | 233 => 107 | n => n, fun | 17 => 3 | 18 => 4 | 19 => 5 | n => n⟩
theorem Tryd.laysM171 : Go.Proofs.LaysM.n171 Tryd.prog Tryd.laysM171_ren := {
 mixed := by kernel_rfl
 f129 := Tryd.func100.trans (congrArg some (by kernel_rfl))
 f171 := Tryd.func65.trans (congrArg some (by kernel_rfl))
 f243 := Tryd.func74.trans (congrArg some (by kernel_rfl))
 f246 := Tryd.func82.trans (congrArg some (by kernel_rfl))
 f283 := Tryd.func89.trans (congrArg some (by kernel_rfl))
 f284 := Tryd.func90.trans (congrArg some (by kernel_rfl))
 f285 := Tryd.func91.trans (congrArg some (by kernel_rfl))
 f286 := Tryd.func92.trans (congrArg some (by kernel_rfl))
 f317 := Tryd.func99.trans (congrArg some (by kernel_rfl))
 f318 := Tryd.func101.trans (congrArg some (by kernel_rfl))
 f319 := Tryd.func102.trans (congrArg some (by kernel_rfl))
 f320 := Tryd.func103.trans (congrArg some (by kernel_rfl))
 f337 := Tryd.func106.trans (congrArg some (by kernel_rfl))
 f338 := Tryd.func107.trans (congrArg some (by kernel_rfl))
 t0 := Tryd.underlying0
 a0 := Tryd.isAgg0
 z0 := Tryd.sizeOf0
 v0 := Tryd.zeroValue0
 t2 := Tryd.underlying2
 a2 := Tryd.isAgg2
 z2 := Tryd.sizeOf2
 v2 := Tryd.zeroValue2
 t3 := Tryd.underlying3
 a3 := Tryd.isAgg3
 z3 := Tryd.sizeOf3
 v3 := Tryd.zeroValue3
 t4 := Tryd.underlying4
 a4 := Tryd.isAgg4
 z4 := Tryd.sizeOf4
 v4 := Tryd.zeroValue4
 t5 := Tryd.underlying5
 a5 := Tryd.isAgg5
 z5 := Tryd.sizeOf5
 v5 := Tryd.zeroValue5
 t9 := Tryd.underlying9
 a9 := Tryd.isAgg9
 z9 := Tryd.sizeOf9
 v9 := Tryd.zeroValue9
 t20 := Tryd.underlying20
 a20 := Tryd.isAgg20
 z20 := Tryd.sizeOf20
 v20 := Tryd.zeroValue20
 t37 := Tryd.underlying29
 a37 := Tryd.isAgg29
 z37 := Tryd.sizeOf29
 v37 := Tryd.zeroValue29
 t46 := Tryd.underlying82
 a46 := Tryd.isAgg82
 z46 := Tryd.sizeOf82
 v46 := Tryd.zeroValue82
 t51 := Tryd.underlying100
 a51 := Tryd.isAgg100
 z51 := Tryd.sizeOf100
 v51 := Tryd.zeroValue100
 t53 := Tryd.underlying54
 a53 := Tryd.isAgg54
 z53 := Tryd.sizeOf54
 v53 := Tryd.zeroValue54
 t171 := Tryd.underlying86
 a171 := Tryd.isAgg86
 z171 := Tryd.sizeOf86
 v171 := Tryd.zeroValue86
 t173 := Tryd.underlying89
 a173 := Tryd.isAgg89
 z173 := Tryd.sizeOf89
 v173 := Tryd.zeroValue89
 t212 := Tryd.underlying99
 a212 := Tryd.isAgg99
 z212 := Tryd.sizeOf99
 v212 := Tryd.zeroValue99
 t213 := Tryd.underlying101
 a213 := Tryd.isAgg101
 z213 := Tryd.sizeOf101
 t232 := Tryd.underlying106
 a232 := Tryd.isAgg106
 z232 := Tryd.sizeOf106
 v232 := Tryd.zeroValue106
 t233 := Tryd.underlying107
 a233 := Tryd.isAgg107
 z233 := Tryd.sizeOf107
 v233 := Tryd.zeroValue107
 g17 := by kernel_rfl
 g18 := by kernel_rfl
 g19 := by kernel_rfl
 i0 := by kernel_rfl
 i2 := by kernel_rfl
 i3 := by kernel_rfl
 i4 := by kernel_rfl
 i5 := by kernel_rfl
 i9 := by kernel_rfl
 i20 := by kernel_rfl
 i37 := by kernel_rfl
 i46 := by kernel_rfl
 i51 := by kernel_rfl
 i53 := by kernel_rfl
 i171 := by kernel_rfl
 i173 := by kernel_rfl
 i212 := by kernel_rfl
 i232 := by kernel_rfl
 i233 := by kernel_rfl
 m17 := by kernel_rfl
 m18 := by kernel_rfl
 m19 := by kernel_rfl }
open Go.RowKit Go.Sort Go.Lib in
theorem Tryd.strconv_Itoa (n : Int) (h0 : -9223372036854775808 ≤ n) (h1 : n ≤ 9223372036854775807) (w : World) (htab : Lib.TabIs Tryd.prog w "internal/strconv.uint64pow10" .u64 Lib.pow10Tab) :
  Calls Tryd.prog 65 #[.int .i64 n] w fun e w' => e = .returned (.string ⟨(Lib.itoa n).toArray⟩) ∧ ∃ k os, w' = grow (w.drewN k) os := Any.strconv_Itoa Tryd.laysM171 n h0 h1 w htab
end Go.Proofs
