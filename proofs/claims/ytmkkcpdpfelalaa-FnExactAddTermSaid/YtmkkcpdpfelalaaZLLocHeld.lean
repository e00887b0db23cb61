/- A locale that is marked holds its marks. For locales of at most 2000000 terms and rules each. -/
import Derived.Test.YtmkkcpdpfelalaaZPx0
import Derived.Test.YtmkkcpdpfelalaaZPx13
import Derived.Test.YtmkkcpdpfelalaaZPx14
import Derived.Test.YtmkkcpdpfelalaaZPx3
import Derived.Test.YtmkkcpdpfelalaaZPx4
import Derived.Test.YtmkkcpdpfelalaaZLBase
import Derived.Test.YtmkkcpdpfelalaaZLMtBig
namespace Go.Proofs.Ytmkkcpdpfelalaa.P
open Go.RowKit Go.Proofs.YtmkkcpdpfelalaaW.PrintWords Go.Proofs.YtmkkcpdpfelalaaW.PrintLast Go.Proofs.YtmkkcpdpfelalaaW.PrintMore
set_option linter.unusedVariables false
set_option linter.unusedSimpArgs false
theorem rdT_set (l : List S61) (i j : Nat) (v : S61) (hi : i < l.length) : rd_T61 (l.set i v) (j : Int) = if i = j then v else rd_T61 l (j : Int) := by
 unfold rd_T61
 rw [Int.toNat_natCast, List.getD_eq_getElem?_getD, List.getD_eq_getElem?_getD, List.getElem?_set]
 by_cases h : i = j
 ·subst h
  rw [if_pos rfl, if_pos hi, if_pos rfl]
  rfl
 ·rw [if_neg h, if_neg h]
theorem rdR_set (l : List S72) (i j : Nat) (v : S72) (hi : i < l.length) : rd_T72 (l.set i v) (j : Int) = if i = j then v else rd_T72 l (j : Int) := by
 unfold rd_T72
 rw [Int.toNat_natCast, List.getD_eq_getElem?_getD, List.getD_eq_getElem?_getD, List.getElem?_set]
 by_cases h : i = j
 ·subst h
  rw [if_pos rfl, if_pos hi, if_pos rfl]
  rfl
 ·rw [if_neg h, if_neg h]
def mkT (b j : Nat) : S61 := ⟨mt2 (b + 3 * j), mt2 (b + 3 * j + 1), mt2 (b + 3 * j + 2)⟩
def mkR (b j : Nat) : S72 := ⟨((b + 3 * j : Nat) : Int), ((b + 3 * j + 1 : Nat) : Int), mt2 (b + 3 * j + 2)⟩
theorem markT_l0 (b : Nat) (hb : b ≤ 50000000) (d : Nat) : ∀ (k i : Nat) (l : List S61), l.length - i = d → d + 20 < k → i ≤ l.length → l.length ≤ 2000000 →
  ∃ L, laws_markTermS.l0 k l ((b + 3 * i : Nat) : Int) (i : Int) = some (((b + 3 * l.length : Nat) : Int), L) ∧ L.length = l.length ∧ (∀ j : Nat, j < i → rd_T61 L (j : Int) = rd_T61 l (j : Int)) ∧ (∀ j : Nat, i ≤ j → j < l.length → rd_T61 L (j : Int) = mkT b j) := by
 induction d with
 | zero =>
  intro k i l hd hk hi hl
  obtain ⟨k, rfl⟩ : ∃ m, k = m + 1 := ⟨k - 1, by omega⟩
  have he : i = l.length := by omega
  rw [laws_markTermS.l0, if_neg (by omega)]
  exact ⟨l, by rw [he], rfl, fun _ _ => rfl, fun j h1 h2 => by omega⟩
 | succ d ih =>
  intro k i l hd hk hi hl
  obtain ⟨k, rfl⟩ : ∃ m, k = m + 1 := ⟨k - 1, by omega⟩
  have hlt : i < l.length := by omega
  have hw1 : wrap64 (((b + 3 * i : Nat) : Int) + 1) = ((b + 3 * i + 1 : Nat) : Int) := by rw [w64 (by omega) (by omega)]; omega
  have hw2 : wrap64 (((b + 3 * i + 1 : Nat) : Int) + 1) = ((b + 3 * i + 2 : Nat) : Int) := by rw [w64 (by omega) (by omega)]; omega
  have hw3 : wrap64 (((b + 3 * i + 2 : Nat) : Int) + 1) = ((b + 3 * (i + 1) : Nat) : Int) := by rw [w64 (by omega) (by omega)]; omega
  rw [laws_markTermS.l0, if_pos (by omega), hw1, hw2, hw3, markText2_f _ (by omega) k (by omega), markText2_f _ (by omega) k (by omega), markText2_f _ (by omega) k (by omega), w64_succ hlt (by omega)]
  simp only [Option.bind_some, Int.toNat_natCast]
  rw [if_pos (by omega), rdT_set l i i _ hlt, if_pos rfl, rdT_set _ i i _ (by rw [List.length_set]; exact hlt), if_pos rfl]
  generalize hl2 : (((l.set i ⟨mt2 (b + 3 * i), (rd_T61 l (i : Int)).f1, (rd_T61 l (i : Int)).f2⟩).set i ⟨mt2 (b + 3 * i), mt2 (b + 3 * i + 1), (rd_T61 l (i : Int)).f2⟩).set i ⟨mt2 (b + 3 * i), mt2 (b + 3 * i + 1), mt2 (b + 3 * i + 2)⟩) = l2
  have hlen : l2.length = l.length := by rw [← hl2, List.length_set, List.length_set, List.length_set]
  have hrd : ∀ j : Nat, rd_T61 l2 (j : Int) = if i = j then mkT b i else rd_T61 l (j : Int) := by
   intro j
   rw [← hl2, rdT_set _ i j _ (by rw [List.length_set, List.length_set]; exact hlt), rdT_set _ i j _ (by rw [List.length_set]; exact hlt), rdT_set l i j _ hlt]
   by_cases h : i = j
   ·rw [if_pos h, if_pos h]; rfl
   ·rw [if_neg h, if_neg h, if_neg h, if_neg h]
  obtain ⟨L, h1, h2, h3, h4⟩ := ih k (i + 1) l2 (by omega) (by omega) (by omega) (by omega)
  refine ⟨L, by rw [h1, hlen], by omega, ?_, ?_⟩
  ·intro j hj
   rw [h3 j (by omega), hrd, if_neg (by omega)]
  ·intro j hj hj2
   by_cases h : i = j
   ·subst h
    rw [h3 i (by omega), hrd, if_pos rfl]
   ·exact h4 j (by omega) (by omega)
theorem heldT_l0 (b : Nat) (hb : b ≤ 50000000) (L : List S61) (hL : L.length ≤ 2000000) (hm : ∀ j : Nat, j < L.length → rd_T61 L (j : Int) = mkT b j) (d : Nat) : ∀ (k i : Nat), L.length - i = d → d + 20 < k → i ≤ L.length →
  laws_heldTermS.l0 k L ((b + 3 * i : Nat) : Int) (i : Int) = some ((b + 3 * L.length : Nat) : Int) := by
 induction d with
 | zero =>
  intro k i hd hk hi
  obtain ⟨k, rfl⟩ : ∃ m, k = m + 1 := ⟨k - 1, by omega⟩
  have he : i = L.length := by omega
  rw [laws_heldTermS.l0, if_neg (by omega), he]
 | succ d ih =>
  intro k i hd hk hi
  obtain ⟨k, rfl⟩ : ∃ m, k = m + 1 := ⟨k - 1, by omega⟩
  have hlt : i < L.length := by omega
  have hw1 : wrap64 (((b + 3 * i : Nat) : Int) + 1) = ((b + 3 * i + 1 : Nat) : Int) := by rw [w64 (by omega) (by omega)]; omega
  have hw2 : wrap64 (((b + 3 * i + 1 : Nat) : Int) + 1) = ((b + 3 * i + 2 : Nat) : Int) := by rw [w64 (by omega) (by omega)]; omega
  have hw3 : wrap64 (((b + 3 * i + 2 : Nat) : Int) + 1) = ((b + 3 * (i + 1) : Nat) : Int) := by rw [w64 (by omega) (by omega)]; omega
  rw [laws_heldTermS.l0, if_pos (by omega), if_pos (by omega), hw1, hw2, hw3, markText2_f _ (by omega) k (by omega), markText2_f _ (by omega) k (by omega), markText2_f _ (by omega) k (by omega), w64_succ hlt (by omega), hm i hlt]
  simp only [Option.bind_some]
  unfold mkT
  rw [if_pos rfl, if_pos rfl, if_pos rfl, ih k (i + 1) (by omega) (by omega) (by omega)]
theorem markR_l0 (b : Nat) (hb : b ≤ 50000000) (d : Nat) : ∀ (k i : Nat) (l : List S72), l.length - i = d → d + 20 < k → i ≤ l.length → l.length ≤ 2000000 →
  ∃ L, laws_markOrdinalRuleS.l0 k l ((b + 3 * i : Nat) : Int) (i : Int) = some (((b + 3 * l.length : Nat) : Int), L) ∧ L.length = l.length ∧ (∀ j : Nat, j < i → rd_T72 L (j : Int) = rd_T72 l (j : Int)) ∧ (∀ j : Nat, i ≤ j → j < l.length → rd_T72 L (j : Int) = mkR b j) := by
 induction d with
 | zero =>
  intro k i l hd hk hi hl
  obtain ⟨k, rfl⟩ : ∃ m, k = m + 1 := ⟨k - 1, by omega⟩
  have he : i = l.length := by omega
  rw [laws_markOrdinalRuleS.l0, if_neg (by omega)]
  exact ⟨l, by rw [he], rfl, fun _ _ => rfl, fun j h1 h2 => by omega⟩
 | succ d ih =>
  intro k i l hd hk hi hl
  obtain ⟨k, rfl⟩ : ∃ m, k = m + 1 := ⟨k - 1, by omega⟩
  have hlt : i < l.length := by omega
  have hw1 : wrap64 (((b + 3 * i : Nat) : Int) + 1) = ((b + 3 * i + 1 : Nat) : Int) := by rw [w64 (by omega) (by omega)]; omega
  have hw2 : wrap64 (((b + 3 * i + 1 : Nat) : Int) + 1) = ((b + 3 * i + 2 : Nat) : Int) := by rw [w64 (by omega) (by omega)]; omega
  have hw3 : wrap64 (((b + 3 * i + 2 : Nat) : Int) + 1) = ((b + 3 * (i + 1) : Nat) : Int) := by rw [w64 (by omega) (by omega)]; omega
  rw [laws_markOrdinalRuleS.l0, if_pos (by omega), hw1, hw2, hw3, markText2_f _ (by omega) k (by omega), w64_succ hlt (by omega)]
  simp only [Option.bind_some, Int.toNat_natCast]
  rw [if_pos (by omega), rdR_set l i i _ hlt, if_pos rfl, rdR_set _ i i _ (by rw [List.length_set]; exact hlt), if_pos rfl]
  generalize hl2 : (((l.set i ⟨((b + 3 * i : Nat) : Int), (rd_T72 l (i : Int)).f1, (rd_T72 l (i : Int)).f2⟩).set i ⟨((b + 3 * i : Nat) : Int), ((b + 3 * i + 1 : Nat) : Int), (rd_T72 l (i : Int)).f2⟩).set i ⟨((b + 3 * i : Nat) : Int), ((b + 3 * i + 1 : Nat) : Int), mt2 (b + 3 * i + 2)⟩) = l2
  have hlen : l2.length = l.length := by rw [← hl2, List.length_set, List.length_set, List.length_set]
  have hrd : ∀ j : Nat, rd_T72 l2 (j : Int) = if i = j then mkR b i else rd_T72 l (j : Int) := by
   intro j
   rw [← hl2, rdR_set _ i j _ (by rw [List.length_set, List.length_set]; exact hlt), rdR_set _ i j _ (by rw [List.length_set]; exact hlt), rdR_set l i j _ hlt]
   by_cases h : i = j
   ·rw [if_pos h, if_pos h]; rfl
   ·rw [if_neg h, if_neg h, if_neg h, if_neg h]
  obtain ⟨L, h1, h2, h3, h4⟩ := ih k (i + 1) l2 (by omega) (by omega) (by omega) (by omega)
  refine ⟨L, by rw [h1, hlen], by omega, ?_, ?_⟩
  ·intro j hj
   rw [h3 j (by omega), hrd, if_neg (by omega)]
  ·intro j hj hj2
   by_cases h : i = j
   ·subst h
    rw [h3 i (by omega), hrd, if_pos rfl]
   ·exact h4 j (by omega) (by omega)
theorem heldR_l0 (b : Nat) (hb : b ≤ 50000000) (L : List S72) (hL : L.length ≤ 2000000) (hm : ∀ j : Nat, j < L.length → rd_T72 L (j : Int) = mkR b j) (d : Nat) : ∀ (k i : Nat), L.length - i = d → d + 20 < k → i ≤ L.length →
  laws_heldOrdinalRuleS.l0 k L ((b + 3 * i : Nat) : Int) (i : Int) = some ((b + 3 * L.length : Nat) : Int) := by
 induction d with
 | zero =>
  intro k i hd hk hi
  obtain ⟨k, rfl⟩ : ∃ m, k = m + 1 := ⟨k - 1, by omega⟩
  have he : i = L.length := by omega
  rw [laws_heldOrdinalRuleS.l0, if_neg (by omega), he]
 | succ d ih =>
  intro k i hd hk hi
  obtain ⟨k, rfl⟩ : ∃ m, k = m + 1 := ⟨k - 1, by omega⟩
  have hlt : i < L.length := by omega
  have hw1 : wrap64 (((b + 3 * i : Nat) : Int) + 1) = ((b + 3 * i + 1 : Nat) : Int) := by rw [w64 (by omega) (by omega)]; omega
  have hw2 : wrap64 (((b + 3 * i + 1 : Nat) : Int) + 1) = ((b + 3 * i + 2 : Nat) : Int) := by rw [w64 (by omega) (by omega)]; omega
  have hw3 : wrap64 (((b + 3 * i + 2 : Nat) : Int) + 1) = ((b + 3 * (i + 1) : Nat) : Int) := by rw [w64 (by omega) (by omega)]; omega
  rw [laws_heldOrdinalRuleS.l0, if_pos (by omega), if_pos (by omega), hw1, hw2, hw3, markText2_f _ (by omega) k (by omega), w64_succ hlt (by omega), hm i hlt]
  simp only [Option.bind_some]
  unfold mkR
  rw [if_pos rfl, if_pos rfl, if_pos rfl, ih k (i + 1) (by omega) (by omega) (by omega)]
theorem markHeldLoc (n : ByteArray) (ts : List S61) (rs : List S72) (la tw : ByteArray) (ht : ts.length ≤ 2000000) (hr : rs.length ≤ 2000000) (k : Nat) (hk : 3000000 < k) :
  ∃ A B, laws_markLocale.f k n ts rs la tw 1 = some (((1 + 3 * ts.length + 3 * rs.length : Nat) : Int), A, B) ∧ ∀ k2, 3000000 < k2 → laws_heldLocale.f k2 n A B la tw 1 = some ((1 + 3 * ts.length + 3 * rs.length : Nat) : Int) := by
 unfold laws_markLocale.f laws_markTermS.f laws_markOrdinalRuleS.f
 obtain ⟨A, h1, h2, _, h4⟩ := markT_l0 1 (by omega) ts.length k 0 ts (by omega) (by omega) (by omega) ht
 obtain ⟨B, g1, g2, _, g4⟩ := markR_l0 (1 + 3 * ts.length) (by omega) rs.length k 0 rs (by omega) (by omega) (by omega) hr
 rw [show ((1 + 3 * 0 : Nat) : Int) = 1 from rfl, show ((0 : Nat) : Int) = 0 from rfl] at h1
 rw [show ((1 + 3 * ts.length + 3 * 0 : Nat) : Int) = ((1 + 3 * ts.length : Nat) : Int) by omega, show ((0 : Nat) : Int) = 0 from rfl] at g1
 rw [h1, Option.bind_some, g1, Option.bind_some]
 refine ⟨A, B, rfl, fun k2 hk2 => ?_⟩
 unfold laws_heldLocale.f laws_heldTermS.f laws_heldOrdinalRuleS.f
 have e1 := heldT_l0 1 (by omega) A (by omega) (fun j hj => h4 j (by omega) (by omega)) A.length k2 0 (by omega) (by omega) (by omega)
 have e2 := heldR_l0 (1 + 3 * ts.length) (by omega) B (by omega) (fun j hj => g4 j (by omega) (by omega)) B.length k2 0 (by omega) (by omega) (by omega)
 rw [show ((1 + 3 * 0 : Nat) : Int) = 1 from rfl, show ((0 : Nat) : Int) = 0 from rfl, h2] at e1
 rw [show ((1 + 3 * ts.length + 3 * 0 : Nat) : Int) = ((1 + 3 * ts.length : Nat) : Int) by omega, show ((0 : Nat) : Int) = 0 from rfl, g2] at e2
 rw [e1, Option.bind_some, if_neg (by omega), e2, Option.bind_some, if_neg (by omega)]
end Go.Proofs.Ytmkkcpdpfelalaa.P
