/- A number beside its term: the program's and the reference's answers are one plain function, for locales whose texts have at most 1048576 bytes each. -/
import Derived.Test.YtleckcbiifhanaaDoorZPx0
import Derived.Test.YtleckcbiifhanaaDoorZPx18
import Derived.Test.YtleckcbiifhanaaDoorZLLocBytes
import Derived.Test.YtleckcbiifhanaaDoorZLLocFind
import Derived.Test.YtleckcbiifhanaaDoorZLLocGood
import Derived.Test.YtleckcbiifhanaaDoorZLNum
namespace Go.Proofs.YtleckcbiifhanaaDoor.P
open Go.RowKit Go.Proofs.YtleckcbiifhanaaDoorW.PrintWords Go.Proofs.YtleckcbiifhanaaDoorW.PrintLast Go.Proofs.YtleckcbiifhanaaDoorW.PrintMore
set_option linter.unusedVariables false
set_option linter.unusedSimpArgs false
def countR (n : ByteArray) (ts : List S29) (rs : List S66) (la tw key : ByteArray) (m : Int) : ByteArray × Bool :=
 if (termForR n ts rs la tw key m).2 = true then ((numB m ++ (⟨#[32]⟩ : ByteArray)) ++ (termForR n ts rs la tw key m).1, true) else ((⟨#[]⟩ : ByteArray), false)
theorem termForR_ok {n : ByteArray} {ts : List S29} {rs : List S66} {la tw key : ByteArray} {m : Int} (ht : ∀ x ∈ ts, szT x) (h : (termForR n ts rs la tw key m).2 = true) : (0 ≤ m ∧ m ≤ 999999) ∧ (termForR n ts rs la tw key m).1.size ≤ 1048576 := by
 unfold termForR at h ⊢
 by_cases hg : goodL n ts rs la tw = true
 ·rw [if_pos hg] at h ⊢
  by_cases hm : inB m 0 999999 = true
  ·rw [if_pos hm] at h ⊢
   by_cases hf : findT ts key < 0
   ·rw [if_pos hf] at h
    cases h
   ·rw [if_neg hf]
    refine ⟨inB_of hm, ?_⟩
    have hr := findT_range ts key
    have hz := ht _ (rdT_mem (ts := ts) (i := findT ts key) (by omega) (by omega))
    show (formT _ m).size ≤ _
    unfold formT
    split
    ·exact hz.2.1
    ·exact hz.2.2
  ·rw [if_neg hm] at h
   cases h
 ·rw [if_neg hg] at h
  cases h
theorem countBoth (n : ByteArray) (ts : List S29) (rs : List S66) (la tw key : ByteArray) (m : Int) (hn : n.size ≤ 1048576) (htl : ts.length ≤ 2000000) (ht : ∀ x ∈ ts, szT x) (hr : ∀ x ∈ rs, szR x) (hla : la.size ≤ 1048576) (htw : tw.size ≤ 1048576) (k : Nat) (hk : 2000000 < k) :
  spec_CountText.f k n ts rs la tw key m = some (countR n ts rs la tw key m) ∧ impl_CountText.f k n ts rs la tw key m = some (countR n ts rs la tw key m) := by
 obtain ⟨hS, hI⟩ := termForBoth n ts rs la tw key m hn htl ht hr hla htw k hk
 have hok := termForR_ok (n := n) (ts := ts) (rs := rs) (la := la) (tw := tw) (key := key) (m := m) ht
 unfold spec_CountText.f impl_CountText.f countR
 rw [hS, hI, Option.bind_some, Option.bind_some]
 generalize termForR n ts rs la tw key m = R at *
 by_cases h : R.2 = true
 ·obtain ⟨⟨m0, m1⟩, hz⟩ := hok h
  have hs := numB_size m (by omega) (by omega)
  have h2 : (numB m ++ (⟨#[32]⟩ : ByteArray)).size = (numB m).size + 1 := by rw [ByteArray.size_append]; rfl
  rw [if_pos h, if_pos h, if_pos h, specNum m (by omega) (by omega) k (by omega), implItoa m (by omega) (by omega), Option.bind_some, if_pos (by omega), if_pos (by omega)]
  exact ⟨rfl, rfl⟩
 ·rw [if_neg h, if_neg h, if_neg h]
  exact ⟨rfl, rfl⟩
end Go.Proofs.YtleckcbiifhanaaDoor.P
