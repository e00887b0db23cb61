/- The term with a key, and its form for a number: the program's and the reference's answers are one plain function, for locales whose texts have at most 1048576 bytes each. -/
import Derived.Test.YtleckcbiifhanaaDoorZPx0
import Derived.Test.YtleckcbiifhanaaDoorZPx14
import Derived.Test.YtleckcbiifhanaaDoorZPx15
import Derived.Test.YtleckcbiifhanaaDoorZPx18
import Derived.Test.YtleckcbiifhanaaDoorZLBase
import Derived.Test.YtleckcbiifhanaaDoorZLLocBytes
import Derived.Test.YtleckcbiifhanaaDoorZLLocGood
import Derived.Test.YtleckcbiifhanaaDoorZLLocNum
namespace Go.Proofs.YtleckcbiifhanaaDoor.P
open Go.RowKit Go.Proofs.YtleckcbiifhanaaDoorW.PrintWords Go.Proofs.YtleckcbiifhanaaDoorW.PrintLast Go.Proofs.YtleckcbiifhanaaDoorW.PrintMore
set_option linter.unusedVariables false
set_option linter.unusedSimpArgs false
theorem tI_range (key : ByteArray) (ts : List S29) : ∀ (d : Nat) (i : Int), 0 ≤ i → impl_termIndex_at key ts i d = -1 ∨ (i ≤ impl_termIndex_at key ts i d ∧ impl_termIndex_at key ts i d < i + d)
 | 0, i, h0 => Or.inl (by rw [impl_termIndex_at])
 | d + 1, i, h0 => by
  rw [impl_termIndex_at]
  split
  ·exact Or.inr ⟨Int.le_refl _, by omega⟩
  ·rcases tI_range key ts d (i + 1) (by omega) with h | ⟨h1, h2⟩
   ·exact Or.inl h
   ·exact Or.inr ⟨by omega, by omega⟩
theorem specFind_l0 (key n : ByteArray) (ts : List S29) (rs : List S66) (la tw : ByteArray) (hl : ts.length ≤ 2000000) (d : Nat) : ∀ (k : Nat) (i : Int), 0 ≤ i → (ts.length : Int) - i = d → d < k →
  spec_l23Find.l0 k key i n ts rs la tw = some (impl_termIndex_at key ts i d) := by
 induction d with
 | zero =>
  intro k i h0 hd hk
  obtain ⟨k, rfl⟩ := succ_of hk
  rw [spec_l23Find.l0, if_neg (by omega), impl_termIndex_at]
 | succ d ih =>
  intro k i h0 hd hk
  obtain ⟨k, rfl⟩ := succ_of hk
  rw [spec_l23Find.l0, if_pos (by omega), if_pos h0, impl_termIndex_at, w64 (x := i + 1) (by omega) (by omega), ih k (i + 1) (by omega) (by omega) (by omega)]
  by_cases e : (rd_T29 ts i).f0.toList = key.toList
  ·rw [if_pos e, if_pos (beq_iff_eq.2 e)]
  ·rw [if_neg e, if_neg (fun h => e (beq_iff_eq.1 h))]
def findT (ts : List S29) (key : ByteArray) : Int := impl_termIndex_at key ts 0 ts.length
theorem specFind (key n : ByteArray) (ts : List S29) (rs : List S66) (la tw : ByteArray) (hl : ts.length ≤ 2000000) (k : Nat) (hk : ts.length < k) : spec_l23Find.f k n ts rs la tw key = some (findT ts key) :=
 specFind_l0 key n ts rs la tw hl ts.length k 0 (by omega) (by omega) hk
theorem implFind (key n : ByteArray) (ts : List S29) (rs : List S66) (la tw : ByteArray) (hl : ts.length ≤ 2000000) : impl_termIndex.f n ts rs la tw key = some (findT ts key) := by
 unfold impl_termIndex.f findT
 rw [if_pos (by omega)]
theorem findT_range (ts : List S29) (key : ByteArray) : findT ts key = -1 ∨ (0 ≤ findT ts key ∧ findT ts key < (ts.length : Int)) := by
 rcases tI_range key ts ts.length 0 (by omega) with h | ⟨h1, h2⟩
 ·exact Or.inl h
 ·exact Or.inr ⟨h1, by unfold findT; omega⟩
def formT (x : S29) (n : Int) : ByteArray := if n = 1 then x.f1 else x.f2
theorem specFor (x : S29) (n : Int) : spec_l23For.f x.f0 x.f1 x.f2 n = some (formT x n) := by
 unfold spec_l23For.f formT
 split <;> rfl
theorem implFor (nm : ByteArray) (ts : List S29) (rs : List S66) (la tw : ByteArray) (i n : Int) (h0 : 0 ≤ i) (h1 : i < (ts.length : Int)) : impl_termFor.f nm ts rs la tw i n = some (formT (rd_T29 ts i) n) := by
 unfold impl_termFor.f formT
 rw [if_pos h0, if_pos h1, if_pos h0, if_pos h1]
 split <;> rfl
def termForR (n : ByteArray) (ts : List S29) (rs : List S66) (la tw key : ByteArray) (m : Int) : ByteArray × Bool :=
 if goodL n ts rs la tw = true then (if inB m 0 999999 = true then (if findT ts key < 0 then ((⟨#[]⟩ : ByteArray), false) else (formT (rd_T29 ts (findT ts key)) m, true)) else ((⟨#[]⟩ : ByteArray), false)) else ((⟨#[]⟩ : ByteArray), false)
theorem termForBoth (n : ByteArray) (ts : List S29) (rs : List S66) (la tw key : ByteArray) (m : Int) (hn : n.size ≤ 1048576) (htl : ts.length ≤ 2000000) (ht : ∀ x ∈ ts, szT x) (hr : ∀ x ∈ rs, szR x) (hla : la.size ≤ 1048576) (htw : tw.size ≤ 1048576) (k : Nat) (hk : 2000000 < k) :
  spec_TermFor.f k n ts rs la tw key m = some (termForR n ts rs la tw key m) ∧ impl_TermFor.f k n ts rs la tw key m = some (termForR n ts rs la tw key m) := by
 unfold spec_TermFor.f impl_TermFor.f termForR
 rw [specFind key n ts rs la tw htl k (by omega), implFind key n ts rs la tw htl, Option.bind_some, Option.bind_some, specGood n ts rs la tw hn ht hr hla htw k (by omega), implGood n ts rs la tw hn ht hr hla htw k (by omega), Option.bind_some, Option.bind_some]
 cases goodL n ts rs la tw with
 | false => exact ⟨by rw [if_neg Bool.false_ne_true, if_neg Bool.false_ne_true], by rw [if_neg Bool.false_ne_true, if_neg Bool.false_ne_true]⟩
 | true =>
  rw [if_pos rfl, if_pos rfl, if_pos rfl, in_spec, implNumber, Option.bind_some, Option.bind_some]
  cases inB m 0 999999 with
  | false => exact ⟨by rw [if_neg Bool.false_ne_true, if_neg Bool.false_ne_true], by rw [if_neg Bool.false_ne_true, if_neg Bool.false_ne_true]⟩
  | true =>
   rw [if_pos rfl, if_pos rfl, if_pos rfl]
   by_cases g : findT ts key < 0
   ·rw [if_pos g, if_pos g, if_pos g]
    exact ⟨rfl, rfl⟩
   ·obtain ⟨g0, g1⟩ : 0 ≤ findT ts key ∧ findT ts key < (ts.length : Int) := by
     rcases findT_range ts key with h | h
     ·omega
     ·exact h
    rw [if_neg g, if_neg g, if_neg g, if_pos g0, if_pos g1, specFor, implFor n ts rs la tw _ m g0 g1, Option.bind_some]
    exact ⟨rfl, rfl⟩
end Go.Proofs.YtleckcbiifhanaaDoor.P
