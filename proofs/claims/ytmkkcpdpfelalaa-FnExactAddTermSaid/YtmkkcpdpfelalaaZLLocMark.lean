/- Marking a locale comes to an end, and the next mark is known. For locales of at most 2000000 terms and rules each. -/
import Derived.Test.YtmkkcpdpfelalaaZPx0
import Derived.Test.YtmkkcpdpfelalaaZPx3
import Derived.Test.YtmkkcpdpfelalaaZPx4
import Derived.Test.YtmkkcpdpfelalaaZLBase
import Derived.Test.YtmkkcpdpfelalaaZLMtBig
namespace Go.Proofs.Ytmkkcpdpfelalaa.P
open Go.RowKit Go.Proofs.YtmkkcpdpfelalaaW.PrintWords Go.Proofs.YtmkkcpdpfelalaaW.PrintLast Go.Proofs.YtmkkcpdpfelalaaW.PrintMore
set_option linter.unusedVariables false
set_option linter.unusedSimpArgs false
theorem markTerms_l0 (d : Nat) : ∀ (k i c : Nat) (l : List S61), l.length - i = d → d + 20 < k → i ≤ l.length → l.length ≤ 2000000 → c + 3 * d < 100000000 →
  ∃ L, laws_markTermS.l0 k l (c : Int) (i : Int) = some (((c + 3 * d : Nat) : Int), L) := by
 induction d with
 | zero =>
  intro k i c l hd hk hi hl hc
  obtain ⟨k, rfl⟩ : ∃ m, k = m + 1 := ⟨k - 1, by omega⟩
  rw [laws_markTermS.l0, if_neg (by omega)]
  exact ⟨l, rfl⟩
 | succ d ih =>
  intro k i c l hd hk hi hl hc
  obtain ⟨k, rfl⟩ : ∃ m, k = m + 1 := ⟨k - 1, by omega⟩
  have hlt : i < l.length := by omega
  have hw1 : wrap64 ((c : Int) + 1) = ((c + 1 : Nat) : Int) := by rw [w64 (by omega) (by omega)]; omega
  have hw2 : wrap64 (((c + 1 : Nat) : Int) + 1) = ((c + 1 + 1 : Nat) : Int) := by rw [w64 (by omega) (by omega)]; omega
  have hw3 : wrap64 (((c + 1 + 1 : Nat) : Int) + 1) = ((c + 3 : Nat) : Int) := by rw [w64 (by omega) (by omega)]; omega
  rw [laws_markTermS.l0, if_pos (by omega), hw1, hw2, hw3, markText2_f _ (by omega) k (by omega), markText2_f _ (by omega) k (by omega), markText2_f _ (by omega) k (by omega), w64_succ hlt (by omega)]
  simp only [Option.bind_some, Int.toNat_natCast]
  rw [if_pos (by omega)]
  have he : c + 3 * (d + 1) = c + 3 + 3 * d := by omega
  rw [he]
  exact ih k (i + 1) (c + 3) _ (by simp only [List.length_set]; omega) (by omega) (by simp only [List.length_set]; omega) (by simp only [List.length_set]; omega) (by omega)
theorem markRules_l0 (d : Nat) : ∀ (k i c : Nat) (l : List S72), l.length - i = d → d + 20 < k → i ≤ l.length → l.length ≤ 2000000 → c + 3 * d < 100000000 →
  ∃ L, laws_markOrdinalRuleS.l0 k l (c : Int) (i : Int) = some (((c + 3 * d : Nat) : Int), L) := by
 induction d with
 | zero =>
  intro k i c l hd hk hi hl hc
  obtain ⟨k, rfl⟩ : ∃ m, k = m + 1 := ⟨k - 1, by omega⟩
  rw [laws_markOrdinalRuleS.l0, if_neg (by omega)]
  exact ⟨l, rfl⟩
 | succ d ih =>
  intro k i c l hd hk hi hl hc
  obtain ⟨k, rfl⟩ : ∃ m, k = m + 1 := ⟨k - 1, by omega⟩
  have hlt : i < l.length := by omega
  have hw1 : wrap64 ((c : Int) + 1) = ((c + 1 : Nat) : Int) := by rw [w64 (by omega) (by omega)]; omega
  have hw2 : wrap64 (((c + 1 : Nat) : Int) + 1) = ((c + 1 + 1 : Nat) : Int) := by rw [w64 (by omega) (by omega)]; omega
  have hw3 : wrap64 (((c + 1 + 1 : Nat) : Int) + 1) = ((c + 3 : Nat) : Int) := by rw [w64 (by omega) (by omega)]; omega
  rw [laws_markOrdinalRuleS.l0, if_pos (by omega), hw1, hw2, hw3, markText2_f _ (by omega) k (by omega), w64_succ hlt (by omega)]
  simp only [Option.bind_some, Int.toNat_natCast]
  rw [if_pos (by omega)]
  have he : c + 3 * (d + 1) = c + 3 + 3 * d := by omega
  rw [he]
  exact ih k (i + 1) (c + 3) _ (by simp only [List.length_set]; omega) (by omega) (by simp only [List.length_set]; omega) (by simp only [List.length_set]; omega) (by omega)
theorem markLoc (n : ByteArray) (ts : List S61) (rs : List S72) (la tw : ByteArray) (ht : ts.length ≤ 2000000) (hr : rs.length ≤ 2000000) (c : Nat) (hc : c ≤ 30000000) (k : Nat) (hk : 3000000 < k) :
  ∃ A B, laws_markLocale.f k n ts rs la tw (c : Int) = some (((c + 3 * ts.length + 3 * rs.length : Nat) : Int), A, B) := by
 unfold laws_markLocale.f laws_markTermS.f laws_markOrdinalRuleS.f
 obtain ⟨A, h1⟩ := markTerms_l0 ts.length k 0 c ts (by omega) (by omega) (by omega) ht (by omega)
 obtain ⟨B, h2⟩ := markRules_l0 rs.length k 0 (c + 3 * ts.length) rs (by omega) (by omega) (by omega) hr (by omega)
 rw [show ((0 : Nat) : Int) = 0 from rfl] at h1 h2
 rw [h1, Option.bind_some, h2, Option.bind_some]
 exact ⟨A, B, rfl⟩
end Go.Proofs.Ytmkkcpdpfelalaa.P
