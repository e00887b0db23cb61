/- Cutting a text at its hyphens and taking the hyphens away, as the library does it. No conditions beyond each lemma's own. -/
import Derived.Lib.Replace
import Derived.Lib.IndexBytes
import Derived.Test.YtpnjnlcjofaglaaDoorZPx0
import Derived.Test.YtpnjnlcjofaglaaDoorZLBase
namespace Go.Proofs.YtpnjnlcjofaglaaDoor.P
open Go.RowKit Go.Proofs.YtpnjnlcjofaglaaDoorW.PrintWords Go.Proofs.YtpnjnlcjofaglaaDoorW.PrintLast Go.Proofs.YtpnjnlcjofaglaaDoorW.PrintMore
set_option linter.unusedVariables false
set_option linter.unusedSimpArgs false
def pieces : List UInt8 → List (List UInt8)
 | [] => [[]]
 | b :: l => if b = 45 then [] :: pieces l else (b :: (pieces l).headD []) :: (pieces l).tail
theorem index_hit (l : List UInt8) : Lib.index (45 :: l) [45] = 0 := by
 rw [Lib.index_one]
 unfold Lib.indexByte
 rfl
theorem index_skip {b : UInt8} (l : List UInt8) (h : b ≠ 45) : Lib.index (b :: l) [45] = if Lib.index l [45] = -1 then -1 else Lib.index l [45] + 1 := by
 rw [Lib.index_one, Lib.index_one]
 conv => lhs; unfold Lib.indexByte
 have : (b == 45) = false := beq_eq_false_iff_ne.2 h
 rw [this]
 by_cases q : Lib.indexByte l 45 = -1
 ·simp [q]
 ·have : (Lib.indexByte l 45 == -1) = false := beq_eq_false_iff_ne.2 q
  rw [this, if_neg q]
  rfl
theorem index_some : ∀ (l : List UInt8), 0 < l.count 45 → ∃ i : Nat, Lib.index l [45] = (i : Int)
 | [], h => by simp at h
 | b :: l, h => by
  by_cases e : b = 45
  ·subst e
   exact ⟨0, index_hit l⟩
  ·rw [List.count_cons_of_ne e] at h
   obtain ⟨i, hi⟩ := index_some l h
   exact ⟨i + 1, by rw [index_skip l e, hi, if_neg (by omega)]; omega⟩
theorem split_pieces : ∀ l : List UInt8, Lib.splitK [45] 0 (l.count 45) l = pieces l
 | [] => rfl
 | b :: l => by
  have ih := split_pieces l
  by_cases e : b = 45
  ·subst e
   rw [List.count_cons_self, Lib.splitK, index_hit, pieces, if_pos rfl]
   rw [if_neg (by decide)]
   show [] :: Lib.splitK [45] 0 (l.count 45) (List.drop 1 (45 :: l)) = _
   rw [List.drop_succ_cons, List.drop_zero, ih]
  ·rw [List.count_cons_of_ne e, pieces, if_neg e]
   cases hc : l.count 45 with
   | zero =>
    rw [hc] at ih
    rw [← ih]
    rfl
   | succ k =>
    obtain ⟨i, hi⟩ := index_some l (by omega)
    rw [hc, Lib.splitK, hi, if_neg (by rw [beq_iff_eq]; omega)] at ih
    rw [Lib.splitK, index_skip l e, hi, if_neg (show ¬ ((i : Int) = -1) by omega), if_neg (by rw [beq_iff_eq]; omega), ← ih]
    have e1 : ((i : Int) + 1).toNat = i + 1 := by omega
    rw [e1, Int.toNat_natCast]
    rfl
theorem replace_filter : ∀ l : List UInt8, Lib.replaceK [45] [] (l.count 45) l = l.filter (fun b => b != 45)
 | [] => rfl
 | b :: l => by
  have ih := replace_filter l
  by_cases e : b = 45
  ·subst e
   rw [List.count_cons_self, Lib.replaceK, index_hit, if_neg (by decide)]
   show [] ++ [] ++ Lib.replaceK [45] [] (l.count 45) (List.drop 1 (45 :: l)) = _
   rw [List.drop_succ_cons, List.drop_zero, ih]
   rfl
  ·have hb : (b != 45) = true := bne_iff_ne.2 e
   rw [List.count_cons_of_ne e, List.filter_cons, hb, if_pos rfl]
   cases hc : l.count 45 with
   | zero =>
    rw [hc] at ih
    rw [← ih]
    rfl
   | succ k =>
    obtain ⟨i, hi⟩ := index_some l (by omega)
    rw [hc, Lib.replaceK, hi, if_neg (by rw [beq_iff_eq]; omega)] at ih
    rw [Lib.replaceK, index_skip l e, hi, if_neg (show ¬ ((i : Int) = -1) by omega), if_neg (by rw [beq_iff_eq]; omega), ← ih]
    have e1 : ((i : Int) + 1).toNat = i + 1 := by omega
    rw [e1, Int.toNat_natCast]
    rfl
def bad : Bool → List UInt8 → Bool
 | p, [] => p
 | p, b :: l => if b = 45 then (p || bad true l) else bad false l
theorem bad_pieces : ∀ l : List UInt8, ([] ∈ pieces l ↔ bad true l = true) ∧ ([] ∈ (pieces l).tail ↔ bad false l = true)
 | [] => by simp [pieces, bad]
 | b :: l => by
  obtain ⟨h1, h2⟩ := bad_pieces l
  rw [pieces, bad, bad]
  by_cases e : b = 45
  ·rw [if_pos e, if_pos e, if_pos e]
   simp [h1]
  ·rw [if_neg e, if_neg e, if_neg e]
   simp [h2]
theorem splitS (s : ByteArray) : (Lib.splitB ⟨#[45]⟩ 0 (Lib.countB s ⟨#[45]⟩) s).map (fun x => x.data.toList) = pieces s.data.toList := by
 rw [Lib.splitB_data]
 have hc : Lib.countB s ⟨#[45]⟩ = s.data.toList.count 45 := by
  unfold Lib.countB
  exact Lib.count_one 45 _
 rw [hc]
 exact split_pieces _
theorem replaceS (s : ByteArray) : Lib.replaceAll s.data.toList (⟨#[45]⟩ : ByteArray).data.toList (⟨#[]⟩ : ByteArray).data.toList = s.data.toList.filter (fun b => b != 45) := by
 show Lib.replaceAll s.data.toList [45] [] = _
 unfold Lib.replaceAll Lib.replace
 rw [if_neg (by decide)]
 unfold Lib.replaceNum
 rw [if_pos (Or.inl (by decide)), Lib.count_one]
 exact replace_filter _
theorem countS (s : ByteArray) : Lib.countB s ⟨#[45]⟩ ≤ s.size := by
 have hc : Lib.countB s ⟨#[45]⟩ = s.data.toList.count 45 := by
  unfold Lib.countB
  exact Lib.count_one 45 _
 rw [hc, size_data]
 exact List.count_le_length
end Go.Proofs.YtpnjnlcjofaglaaDoor.P
