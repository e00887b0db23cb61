/- The term with a key, and its form for a number: the program's and the reference's answers are one plain function, for locales whose texts have at most 1048576 bytes each. -/
import Derived.Test.YtmkkcpdpfelalaaZPx0
import Derived.Test.YtmkkcpdpfelalaaZPx8
import Derived.Test.YtmkkcpdpfelalaaZLBase
import Derived.Test.YtmkkcpdpfelalaaZLLocGood
import Derived.Test.YtmkkcpdpfelalaaZLLocText
namespace Go.Proofs.Ytmkkcpdpfelalaa.P
open Go.RowKit Go.Proofs.YtmkkcpdpfelalaaW.PrintWords Go.Proofs.YtmkkcpdpfelalaaW.PrintLast Go.Proofs.YtmkkcpdpfelalaaW.PrintMore
set_option linter.unusedVariables false
set_option linter.unusedSimpArgs false
theorem specFind_l0 (key n : ByteArray) (ts : List S61) (rs : List S72) (la tw : ByteArray) (hl : ts.length ≤ 2000000) (d : Nat) : ∀ (k : Nat) (i : Int), 0 ≤ i → (ts.length : Int) - i = d → d < k →
  spec_l23Find.l0 k key i n ts rs la tw = some (impl_termIndex_at key ts i d) := by
 induction d with
 | zero =>
  intro k i h0 hd hk
  obtain ⟨k, rfl⟩ := succ_of hk
  rw [spec_l23Find.l0, if_neg (by omega), impl_termIndex_at]
 | succ d ih =>
  intro k i h0 hd hk
  obtain ⟨k, rfl⟩ := succ_of hk
  rw [spec_l23Find.l0, if_pos (by omega), if_pos h0, impl_termIndex_at, w64 (x := i + 1) (by omega) (by omega), ih k (i + 1) (by omega) (by omega) (by omega)]
  by_cases e : (rd_T61 ts i).f0.toList = key.toList
  ·rw [if_pos e, if_pos (beq_iff_eq.2 e)]
  ·rw [if_neg e, if_neg (fun h => e (beq_iff_eq.1 h))]
def findT (ts : List S61) (key : ByteArray) : Int := impl_termIndex_at key ts 0 ts.length
theorem specFind (key n : ByteArray) (ts : List S61) (rs : List S72) (la tw : ByteArray) (hl : ts.length ≤ 2000000) (k : Nat) (hk : ts.length < k) : spec_l23Find.f k n ts rs la tw key = some (findT ts key) :=
 specFind_l0 key n ts rs la tw hl ts.length k 0 (by omega) (by omega) hk
theorem implFind (key n : ByteArray) (ts : List S61) (rs : List S72) (la tw : ByteArray) (hl : ts.length ≤ 2000000) : impl_termIndex.f n ts rs la tw key = some (findT ts key) := by
 unfold impl_termIndex.f findT
 rw [if_pos (by omega)]
end Go.Proofs.Ytmkkcpdpfelalaa.P
