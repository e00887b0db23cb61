/- A cell as it is written: the program's and the reference's answers are one plain function, for printable texts of at most 100000 bytes. -/
import Derived.Lib.Replace
import Derived.Lib.ReplaceLaws
import Derived.Lib.IndexBytes
import Derived.Lib.IndexAny
import Derived.Lib.SplitLaws
import Derived.Test.YtbinfdheapjpnaaDoorZPx1
import Derived.Test.YtbinfdheapjpnaaDoorZLBase
import Derived.Test.YtbinfdheapjpnaaDoorZLBytesU
import Derived.Test.YtbinfdheapjpnaaDoorZLOfL
namespace Go.Proofs.YtbinfdheapjpnaaDoor.P
open Go.RowKit Go.Proofs.YtbinfdheapjpnaaDoorW.PrintWords Go.Proofs.YtbinfdheapjpnaaDoorW.PrintLast Go.Proofs.YtbinfdheapjpnaaDoorW.PrintMore
set_option linter.unusedVariables false
set_option linter.unusedSimpArgs false
def dblL : List UInt8 → List UInt8
 | [] => []
 | b :: l => if b = 34 then 34 :: 34 :: dblL l else b :: dblL l
def qL (l : List UInt8) : Bool := l.any (fun b => b == 44 || b == 34)
def cellL (l : List UInt8) : List UInt8 := if qL l = true then 34 :: (dblL l ++ [34]) else l
def cellB (s : ByteArray) : ByteArray := ofL (cellL s.data.toList)
theorem dblL_len : ∀ l : List UInt8, (dblL l).length ≤ 2 * l.length
 | [] => by simp [dblL]
 | b :: l => by
  have := dblL_len l
  rw [dblL]
  split <;> simp <;> omega
theorem cellL_len (l : List UInt8) : (cellL l).length ≤ 2 * l.length + 2 := by
 have := dblL_len l
 unfold cellL
 split
 ·simp
  omega
 ·omega
theorem cellB_size (s : ByteArray) : (cellB s).size ≤ 2 * s.size + 2 := by
 have := cellL_len s.data.toList
 unfold cellB
 rw [ofL_size, size_data]
 exact this
theorem one_ext (s : ByteArray) (i : Nat) (b : UInt8) (h : s.data.toList.drop i = b :: s.data.toList.drop (i + 1)) : s.extract i (i + 1) = ofL [b] := by
 apply bytes_eq
 rw [toL_cut, toL_ofL, h, Nat.add_sub_cancel_left]
 rfl
theorem lit34 : (⟨#[34]⟩ : ByteArray) = ofL [34] := rfl
theorem wExt (i : Nat) (n : Nat) (h : i < n) (hn : n ≤ 100000) : ((wrap64 ((i : Int) + 1)) : Int).toNat = i + 1 ∧ (i : Int) ≤ wrap64 ((i : Int) + 1) ∧ wrap64 ((i : Int) + 1) ≤ (n : Int) ∧ wrap64 ((i : Int) + 1) = ((i + 1 : Nat) : Int) := by
 rw [w64 (by omega) (by omega)]
 omega
theorem specCell_l0 (s : ByteArray) (hs : s.size ≤ 100000) (d : Nat) : ∀ (k i : Nat) (acc : ByteArray) (q : Bool), s.size - i = d → i ≤ s.size → acc.size ≤ 2 * i → d < k →
  spec_l25Cell.l0 k s acc q (i : Int) = some (if (q || qL (s.data.toList.drop i)) = true then ofL (34 :: (acc.data.toList ++ dblL (s.data.toList.drop i) ++ [34])) else s) := by
 induction d with
 | zero =>
  intro k i acc q hd hi ha hk
  obtain ⟨k, rfl⟩ := succ_of hk
  rw [spec_l25Cell.l0, if_neg (by omega), drop_end s i (by omega), show qL [] = false from rfl, Bool.or_false, dblL, List.append_nil]
  cases q with
  | false => rw [if_neg Bool.false_ne_true, if_neg Bool.false_ne_true]
  | true =>
   have e1 : ((⟨#[34]⟩ : ByteArray) ++ acc).size = 1 + acc.size := by rw [ByteArray.size_append]; rfl
   rw [if_pos rfl, if_pos rfl, if_pos (by omega), if_pos (by omega)]
   congr 1
 | succ d ih =>
  intro k i acc q hd hi ha hk
  obtain ⟨k, rfl⟩ := succ_of hk
  obtain ⟨b, hb, hbt⟩ := drop_bt s i (by omega)
  obtain ⟨w1, w2, w3, w4⟩ := wExt i s.size (by omega) hs
  have ho := one_ext s i b hb
  have hz : (ofL [b]).size = 1 := rfl
  have h34 : (⟨#[34]⟩ : ByteArray).size = 1 := rfl
  have b34 : (b.toNat : Int) = 34 ↔ b = 34 := ⟨fun h => u8_int (by rw [h]; rfl), fun h => by rw [h]; rfl⟩
  have b44 : (b.toNat : Int) = 44 ↔ b = 44 := ⟨fun h => u8_int (by rw [h]; rfl), fun h => by rw [h]; rfl⟩
  have hq : qL (b :: s.data.toList.drop (i + 1)) = ((b == 44 || b == 34) || qL (s.data.toList.drop (i + 1))) := rfl
  rw [spec_l25Cell.l0, if_pos (by omega), hbt, if_pos (show (0 : Int) ≤ (i : Int) by omega), Int.toNat_natCast, w1, ho, w4, hb, hq]
  have s1 : (acc ++ (⟨#[34]⟩ : ByteArray)).size = acc.size + 1 := by rw [ByteArray.size_append]; rfl
  have r1 := fun q => ih k (i + 1) (acc ++ ofL [b]) q (by omega) (by omega) (by rw [ByteArray.size_append, hz]; omega) (by omega)
  have r2 := fun q => ih k (i + 1) ((acc ++ (⟨#[34]⟩ : ByteArray)) ++ ofL [b]) q (by omega) (by omega) (by rw [ByteArray.size_append, hz]; omega) (by omega)
  have t1 : (acc ++ ofL [b]).data.toList = acc.data.toList ++ [b] := by rw [toL_append, toL_ofL]
  have t2 : ((acc ++ (⟨#[34]⟩ : ByteArray)) ++ ofL [b]).data.toList = acc.data.toList ++ [34, b] := by rw [toL_append, toL_append, toL_ofL]; simp
  cases q with
  | true =>
   rw [if_pos rfl, Bool.true_or, if_pos rfl]
   by_cases e34 : b = 34
   ·have d1 : dblL (b :: s.data.toList.drop (i + 1)) = 34 :: b :: dblL (s.data.toList.drop (i + 1)) := by rw [dblL, if_pos e34, e34]
    rw [d1, if_pos (b34.2 e34), if_pos (by omega), if_pos (by omega), if_pos (by omega), if_pos (by rw [s1, hz]; omega), r2, t2, Bool.true_or, if_pos rfl]
    simp
   ·have d1 : dblL (b :: s.data.toList.drop (i + 1)) = b :: dblL (s.data.toList.drop (i + 1)) := by rw [dblL, if_neg e34]
    rw [d1, if_neg (fun h => e34 (b34.1 h)), if_pos (by omega), if_pos (by omega), if_pos (by rw [hz]; omega), r1, t1, Bool.true_or, if_pos rfl]
    simp
  | false =>
   rw [if_neg Bool.false_ne_true, if_pos (show (0 : Int) ≤ (i : Int) by omega), Bool.false_or]
   by_cases e34 : b = 34
   ·have d1 : dblL (b :: s.data.toList.drop (i + 1)) = 34 :: b :: dblL (s.data.toList.drop (i + 1)) := by rw [dblL, if_pos e34, e34]
    have n44 : ¬ (b.toNat : Int) = 44 := by rw [b44, e34]; decide
    rw [d1, show (b == 34) = true from beq_iff_eq.2 e34, Bool.or_true, Bool.true_or, if_pos rfl, if_neg n44, if_pos (b34.2 e34), if_pos (by omega), if_pos (by omega), if_pos (by omega), if_pos (by rw [s1, hz]; omega), show ((b.toNat : Int) == 34) = true from beq_iff_eq.2 (b34.2 e34), r2, t2, Bool.true_or, if_pos rfl]
    simp
   ·have d1 : dblL (b :: s.data.toList.drop (i + 1)) = b :: dblL (s.data.toList.drop (i + 1)) := by rw [dblL, if_neg e34]
    rw [d1, show (b == 34) = false from beq_eq_false_iff_ne.2 e34, Bool.or_false]
    by_cases e44 : b = 44
    ·rw [show (b == 44) = true from beq_iff_eq.2 e44, Bool.true_or, if_pos rfl, if_pos (b44.2 e44), if_neg (fun h => e34 (b34.1 h)), if_pos (by omega), if_pos (by omega), if_pos (by rw [hz]; omega), r1, t1, Bool.true_or, if_pos rfl]
     simp
    ·rw [show (b == 44) = false from beq_eq_false_iff_ne.2 e44, Bool.false_or, if_neg (fun h => e44 (b44.1 h)), if_neg (fun h => e34 (b34.1 h)), if_pos (by omega), if_pos (by omega), if_pos (by rw [hz]; omega), show ((b.toNat : Int) == 34) = false from beq_eq_false_iff_ne.2 (fun h => e34 (b34.1 h)), r1, t1]
     simp
theorem specCell (s : ByteArray) (hs : s.size ≤ 100000) (k : Nat) (hk : s.size < k) : spec_l25Cell.f k s = some (cellB s) := by
 unfold spec_l25Cell.f cellB cellL
 have h := specCell_l0 s hs s.size k 0 (⟨#[]⟩ : ByteArray) false (by omega) (by omega) (by show 0 ≤ _; omega) hk
 rw [List.drop_zero, Bool.false_or] at h
 rw [show ((0 : Nat) : Int) = 0 from rfl] at h
 rw [h]
 split
 ·rfl
 ·rw [ofL_toL]
theorem idx_hit (c : UInt8) (l : List UInt8) : Lib.index (c :: l) [c] = 0 := by
 rw [Lib.index_one]
 unfold Lib.indexByte
 simp
theorem idx_skip {b c : UInt8} (l : List UInt8) (h : b ≠ c) : Lib.index (b :: l) [c] = if Lib.index l [c] = -1 then -1 else Lib.index l [c] + 1 := by
 rw [Lib.index_one, Lib.index_one]
 conv => lhs; unfold Lib.indexByte
 have : (b == c) = false := beq_eq_false_iff_ne.2 h
 rw [this]
 by_cases q : Lib.indexByte l c = -1
 ·simp [q]
 ·have : (Lib.indexByte l c == -1) = false := beq_eq_false_iff_ne.2 q
  rw [this, if_neg q]
  rfl
theorem idx_some (c : UInt8) : ∀ (l : List UInt8), 0 < l.count c → ∃ i : Nat, Lib.index l [c] = (i : Int)
 | [], h => by simp at h
 | b :: l, h => by
  by_cases e : b = c
  ·subst e
   exact ⟨0, idx_hit b l⟩
  ·rw [List.count_cons_of_ne e] at h
   obtain ⟨i, hi⟩ := idx_some c l h
   exact ⟨i + 1, by rw [idx_skip l e, hi, if_neg (by omega)]; omega⟩
theorem replace_dbl : ∀ l : List UInt8, Lib.replaceK [34] [34, 34] (l.count 34) l = dblL l
 | [] => rfl
 | b :: l => by
  have ih := replace_dbl l
  by_cases e : b = 34
  ·subst e
   rw [List.count_cons_self, Lib.replaceK, idx_hit, if_neg (by decide), dblL, if_pos rfl]
   show [] ++ [34, 34] ++ Lib.replaceK [34] [34, 34] (l.count 34) (List.drop 1 (34 :: l)) = _
   rw [List.drop_succ_cons, List.drop_zero, ih]
   rfl
  ·rw [List.count_cons_of_ne e, dblL, if_neg e]
   cases hc : l.count 34 with
   | zero =>
    rw [hc] at ih
    rw [← ih]
    rfl
   | succ k =>
    obtain ⟨i, hi⟩ := idx_some 34 l (by omega)
    rw [hc, Lib.replaceK, hi, if_neg (by rw [beq_iff_eq]; omega)] at ih
    rw [Lib.replaceK, idx_skip l e, hi, if_neg (show ¬ ((i : Int) = -1) by omega), if_neg (by rw [beq_iff_eq]; omega), ← ih]
    have e1 : ((i : Int) + 1).toNat = i + 1 := by omega
    rw [e1, Int.toNat_natCast]
    rfl
theorem any_q : ∀ l : List UInt8, Lib.containsAny l [44, 34] = qL l
 | [] => rfl
 | b :: l => by
  have ih := any_q l
  have hg := Lib.indexAny_ge [44, 34] l
  unfold Lib.containsAny at ih ⊢
  rw [Lib.indexAny, qL, List.any_cons]
  rw [qL] at ih
  have hc : ([44, 34] : List UInt8).contains b = (b == 44 || b == 34) := by rw [List.contains_cons, List.contains_cons, List.contains_nil, Bool.or_false]
  rw [hc]
  cases hb : (b == 44 || b == 34) with
  | true => rw [if_pos rfl, Bool.true_or]; rfl
  | false =>
   rw [if_neg Bool.false_ne_true, Bool.false_or, ← ih]
   by_cases e : Lib.indexAny l [44, 34] = -1
   ·rw [e]; rfl
   ·rw [if_neg (by rw [beq_iff_eq]; exact e), decide_eq_true (show 0 ≤ Lib.indexAny l [44, 34] + 1 by omega), decide_eq_true (show 0 ≤ Lib.indexAny l [44, 34] by omega)]
theorem implCell (s : ByteArray) (hs : s.size ≤ 100000) (hp : ∀ b ∈ s.data.toList, b.toNat < 128) : impl_writeCell.f s = some (cellB s) := by
 have hc := Lib.countB_le (⟨#[34]⟩ : ByteArray) (by decide) s.size s (Nat.le_refl _)
 unfold impl_writeCell.f strings_ContainsAny.f strings_ReplaceAll.f
 rw [if_pos ⟨⟨by omega, by decide⟩, hp, by decide⟩, Option.bind_some]
 show (if Lib.containsAny s.data.toList [44, 34] = true then _ else _) = _
 rw [any_q]
 unfold cellB cellL
 by_cases q : qL s.data.toList = true
 ·have h2 : (⟨#[34, 34]⟩ : ByteArray).size = 2 := rfl
  rw [if_pos q, if_pos q, if_pos ⟨by omega, by decide, Or.inr (by rw [h2]; omega)⟩, Option.bind_some]
  have hr : Lib.replaceAll s.data.toList (⟨#[34]⟩ : ByteArray).data.toList (⟨#[34, 34]⟩ : ByteArray).data.toList = dblL s.data.toList := by
   show Lib.replaceAll s.data.toList [34] [34, 34] = _
   unfold Lib.replaceAll Lib.replace
   rw [if_neg (by decide)]
   unfold Lib.replaceNum
   rw [if_pos (Or.inl (by decide)), Lib.count_one]
   exact replace_dbl _
  have hd := dblL_len s.data.toList
  rw [data_length] at hd
  have hz : (ofL (dblL s.data.toList)).size ≤ 200000 := by rw [ofL_size]; omega
  rw [hr]
  show (if 1 + (ofL (dblL s.data.toList)).size ≤ _ then _ else _) = _
  have e1 : ((⟨#[34]⟩ : ByteArray) ++ (⟨(dblL s.data.toList).toArray⟩ : ByteArray)).size = 1 + (ofL (dblL s.data.toList)).size := by rw [ByteArray.size_append]; rfl
  rw [if_pos (by omega), if_pos (by omega)]
  congr 1
 ·rw [if_neg q, if_neg q, ofL_toL]
end Go.Proofs.YtbinfdheapjpnaaDoor.P
