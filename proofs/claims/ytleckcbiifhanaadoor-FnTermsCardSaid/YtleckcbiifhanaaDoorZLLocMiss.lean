/- Which terms are missing: the program's and the reference's answers are one plain function, for locales whose texts have at most 1048576 bytes each. -/
import Derived.Test.YtleckcbiifhanaaDoorZPx0
import Derived.Test.YtleckcbiifhanaaDoorZPx16
import Derived.Test.YtleckcbiifhanaaDoorZPx17
import Derived.Test.YtleckcbiifhanaaDoorZLBase
import Derived.Test.YtleckcbiifhanaaDoorZLLocFind
import Derived.Test.YtleckcbiifhanaaDoorZLLocGood
namespace Go.Proofs.YtleckcbiifhanaaDoor.P
open Go.RowKit Go.Proofs.YtleckcbiifhanaaDoorW.PrintWords Go.Proofs.YtleckcbiifhanaaDoorW.PrintLast Go.Proofs.YtleckcbiifhanaaDoorW.PrintMore
set_option linter.unusedVariables false
set_option linter.unusedSimpArgs false
def missL (ts bs : List S29) : Int → Nat → List ByteArray → List ByteArray
 | _, 0, acc => acc
 | i, d + 1, acc => if findT ts (rd_T29 bs i).f0 < 0 then missL ts bs (i + 1) d (acc ++ [(rd_T29 bs i).f0]) else missL ts bs (i + 1) d acc
theorem missL_length (ts bs : List S29) : ∀ (d : Nat) (i : Int) (acc : List ByteArray), (missL ts bs i d acc).length ≤ acc.length + d
 | 0, i, acc => Nat.le_refl _
 | d + 1, i, acc => by
  rw [missL]
  split
  ·have := missL_length ts bs d (i + 1) (acc ++ [(rd_T29 bs i).f0])
   rw [List.length_append] at this
   have e : [(rd_T29 bs i).f0].length = 1 := rfl
   omega
  ·have := missL_length ts bs d (i + 1) acc
   omega
theorem specMiss_l0 (n : ByteArray) (ts : List S29) (rs : List S66) (la tw n2 : ByteArray) (bs : List S29) (rs2 : List S66) (la2 tw2 : ByteArray) (hl : ts.length ≤ 2000000) (hb : bs.length ≤ 2000000) (d : Nat) : ∀ (k : Nat) (i : Int) (acc : List ByteArray), 0 ≤ i → (bs.length : Int) - i = d → d + 2000000 < k → acc.length + d ≤ 4000000 →
  spec_MissingTerms.l0 k acc i n ts rs la tw n2 bs rs2 la2 tw2 = some (missL ts bs i d acc, true) := by
 induction d with
 | zero =>
  intro k i acc h0 hd hk ha
  obtain ⟨k, rfl⟩ := succ_of hk
  rw [spec_MissingTerms.l0, if_neg (by omega), missL]
 | succ d ih =>
  intro k i acc h0 hd hk ha
  obtain ⟨k, rfl⟩ := succ_of hk
  rw [spec_MissingTerms.l0, if_pos (by omega), if_pos h0, specFind _ n ts rs la tw hl k (by omega), Option.bind_some, missL, w64 (x := i + 1) (by omega) (by omega), ih k (i + 1) acc (by omega) (by omega) (by omega) (by omega), ih k (i + 1) (acc ++ [(rd_T29 bs i).f0]) (by omega) (by omega) (by omega) (by rw [List.length_append]; have e : [(rd_T29 bs i).f0].length = 1 := rfl; omega)]
  by_cases e : findT ts (rd_T29 bs i).f0 < 0
  ·rw [if_pos e, if_pos e, if_pos (by omega)]
  ·rw [if_neg e, if_neg e]
theorem implMiss_l0 (n : ByteArray) (ts : List S29) (rs : List S66) (la tw : ByteArray) (bs : List S29) (hl : ts.length ≤ 2000000) (hb : bs.length ≤ 2000000) (d : Nat) : ∀ (k : Nat) (i : Int) (acc : List ByteArray), 0 ≤ i → (bs.length : Int) - i = d → d < k → acc.length + d ≤ 4000000 →
  impl_MissingTerms.l0 k acc bs (bs.length : Int) i n ts rs la tw = some (missL ts bs i d acc, true) := by
 induction d with
 | zero =>
  intro k i acc h0 hd hk ha
  obtain ⟨k, rfl⟩ := succ_of hk
  rw [impl_MissingTerms.l0, if_neg (by omega), missL]
 | succ d ih =>
  intro k i acc h0 hd hk ha
  obtain ⟨k, rfl⟩ := succ_of hk
  rw [impl_MissingTerms.l0, if_pos (by omega), if_pos h0, if_pos (by omega), implFind _ n ts rs la tw hl, Option.bind_some, missL, w64 (x := i + 1) (by omega) (by omega), ih k (i + 1) acc (by omega) (by omega) (by omega) (by omega), ih k (i + 1) (acc ++ [(rd_T29 bs i).f0]) (by omega) (by omega) (by omega) (by rw [List.length_append]; have e : [(rd_T29 bs i).f0].length = 1 := rfl; omega)]
  by_cases e : findT ts (rd_T29 bs i).f0 < 0
  ·rw [if_pos e, if_pos e, if_pos (by omega)]
  ·rw [if_neg e, if_neg e]
def missR (n : ByteArray) (ts : List S29) (rs : List S66) (la tw n2 : ByteArray) (bs : List S29) (rs2 : List S66) (la2 tw2 : ByteArray) : List ByteArray × Bool :=
 if goodL n ts rs la tw = true then (if goodL n2 bs rs2 la2 tw2 = true then (missL ts bs 0 bs.length [], true) else ([], false)) else ([], false)
theorem missBoth (n : ByteArray) (ts : List S29) (rs : List S66) (la tw n2 : ByteArray) (bs : List S29) (rs2 : List S66) (la2 tw2 : ByteArray) (hn : n.size ≤ 1048576) (htl : ts.length ≤ 2000000) (ht : ∀ x ∈ ts, szT x) (hr : ∀ x ∈ rs, szR x) (hla : la.size ≤ 1048576) (htw : tw.size ≤ 1048576)
  (hn2 : n2.size ≤ 1048576) (htl2 : bs.length ≤ 2000000) (ht2 : ∀ x ∈ bs, szT x) (hr2 : ∀ x ∈ rs2, szR x) (hla2 : la2.size ≤ 1048576) (htw2 : tw2.size ≤ 1048576) (k : Nat) (hk : 5000000 < k) :
  spec_MissingTerms.f k n ts rs la tw n2 bs rs2 la2 tw2 = some (missR n ts rs la tw n2 bs rs2 la2 tw2) ∧ impl_MissingTerms.f k n ts rs la tw n2 bs rs2 la2 tw2 = some (missR n ts rs la tw n2 bs rs2 la2 tw2) := by
 obtain ⟨k, rfl⟩ := succ_of hk
 have js : ∀ x, spec_MissingTerms.j0 (k + 1) x true n ts rs la tw n2 bs rs2 la2 tw2 = some (x, false) := fun x => by rw [spec_MissingTerms.j0, if_pos rfl]
 have ji : impl_MissingTerms.j0 (k + 1) true n ts rs la tw n2 bs rs2 la2 tw2 = some (([] : List ByteArray), false) := by rw [impl_MissingTerms.j0, if_pos rfl]
 unfold spec_MissingTerms.f impl_MissingTerms.f missR
 rw [Option.bind_some, specGood n ts rs la tw hn ht hr hla htw _ (by omega), implGood n ts rs la tw hn ht hr hla htw _ (by omega), Option.bind_some, Option.bind_some]
 cases goodL n ts rs la tw with
 | false => exact ⟨by rw [if_neg Bool.false_ne_true, if_neg Bool.false_ne_true, js], by rw [if_neg Bool.false_ne_true, if_neg Bool.false_ne_true, ji]⟩
 | true =>
  rw [if_pos rfl, if_pos rfl, if_pos rfl, specGood n2 bs rs2 la2 tw2 hn2 ht2 hr2 hla2 htw2 _ (by omega), implGood n2 bs rs2 la2 tw2 hn2 ht2 hr2 hla2 htw2 _ (by omega), Option.bind_some, Option.bind_some]
  cases goodL n2 bs rs2 la2 tw2 with
  | false => exact ⟨by rw [if_neg Bool.false_ne_true]; exact js [], by rw [if_neg Bool.false_ne_true]; exact ji⟩
  | true =>
   rw [if_pos rfl]
   refine ⟨?_, ?_⟩
   ·show spec_MissingTerms.j0 (k + 1) [] false n ts rs la tw n2 bs rs2 la2 tw2 = _
    rw [spec_MissingTerms.j0, if_neg Bool.false_ne_true]
    exact specMiss_l0 n ts rs la tw n2 bs rs2 la2 tw2 htl htl2 bs.length k 0 [] (by omega) (by omega) (by omega) (by show 0 + _ ≤ _; omega)
   ·show impl_MissingTerms.j0 (k + 1) false n ts rs la tw n2 bs rs2 la2 tw2 = _
    rw [impl_MissingTerms.j0, if_neg Bool.false_ne_true]
    exact implMiss_l0 n ts rs la tw bs htl htl2 bs.length k 0 [] (by omega) (by omega) (by omega) (by show 0 + _ ≤ _; omega)
theorem missR_length (n : ByteArray) (ts : List S29) (rs : List S66) (la tw n2 : ByteArray) (bs : List S29) (rs2 : List S66) (la2 tw2 : ByteArray) : (missR n ts rs la tw n2 bs rs2 la2 tw2).1.length ≤ bs.length := by
 unfold missR
 split
 ·split
  ·have := missL_length ts bs bs.length 0 []
   show (missL ts bs 0 bs.length []).length ≤ _
   have e : ([] : List ByteArray).length = 0 := rfl
   omega
  ·exact Nat.zero_le _
 ·exact Nat.zero_le _
end Go.Proofs.YtleckcbiifhanaaDoor.P
