/- The places where two neighbours of an identifier's text can be swapped: the program's and the reference's loops find the same ones. For strings of at most 1048576 bytes. -/
import Derived.Test.YtpnjnlcjofaglaaDoorZPx0
import Derived.Test.YtpnjnlcjofaglaaDoorZPx8
import Derived.Test.YtpnjnlcjofaglaaDoorZLBase
import Derived.Test.YtpnjnlcjofaglaaDoorZLBytesU
import Derived.Test.YtpnjnlcjofaglaaDoorZLIdKind
import Derived.Test.YtpnjnlcjofaglaaDoorZLIdent
namespace Go.Proofs.YtpnjnlcjofaglaaDoor.P
open Go.RowKit Go.Proofs.YtpnjnlcjofaglaaDoorW.PrintWords Go.Proofs.YtpnjnlcjofaglaaDoorW.PrintLast Go.Proofs.YtpnjnlcjofaglaaDoorW.PrintMore
set_option linter.unusedVariables false
set_option linter.unusedSimpArgs false
def swapsL (kind : Int) (s : ByteArray) : Nat → Nat → List Int
 | _, 0 => []
 | i, d + 1 => if isId kind (swapAt s i) = true then (i : Int) :: swapsL kind s (i + 1) d else swapsL kind s (i + 1) d
theorem swapAt_size (s : ByteArray) (i : Nat) : (swapAt s i).size = s.size := by
 unfold swapAt
 rw [strOfNums_size, List.length_set, List.length_set, bytesOf_length]
theorem swapAt_eq (s : ByteArray) (i : Nat) (h : i + 1 < s.size) : ((s.extract 0 i ++ s.extract (i + 1) (i + 2)) ++ s.extract i (i + 1)) ++ s.extract (i + 2) s.size = swapAt s i := by
 obtain ⟨b0, h0, e0⟩ := drop_bt s i (by omega)
 obtain ⟨b1, h1, e1⟩ := drop_bt s (i + 1) h
 have hl : i ≤ s.data.toList.length := by rw [data_length]; omega
 apply toL_same
 rw [toL_cat, toL_cat, toL_cat, toL_cut0, toL_cut, toL_cut, toL_cutE, h0, h1]
 unfold swapAt
 rw [nums_toL, List.map_set, List.map_set, bytes_map, e0, e1, u8_back, u8_back]
 have hsplit : s.data.toList = s.data.toList.take i ++ b0 :: b1 :: s.data.toList.drop (i + 2) := by
  conv => lhs; rw [← List.take_append_drop i s.data.toList, h0, h1]
 have hA : (s.data.toList.take i).length = i := by rw [List.length_take]; omega
 have e2 : i + 2 - (i + 1) = 1 := by omega
 have e3 : i + 1 - i = 1 := by omega
 rw [e2, e3]
 generalize s.data.toList.take i = A at *
 generalize s.data.toList.drop (i + 2) = B at *
 rw [hsplit]
 rw [List.set_append_right _ _ (by omega), hA, Nat.sub_self, List.set_cons_zero, List.set_append_right _ _ (by omega), hA, e3, List.set_cons_succ, List.set_cons_zero]
 simp
theorem specSwaps_l0 (kind : Int) (s : ByteArray) (hs : s.size ≤ 1048576) (d : Nat) : ∀ (k i : Nat) (acc : List Int), s.size - 1 - i = d → i ≤ s.size → acc.length ≤ i → s.size + d + 40 < k →
  spec_SwapsOf.l0 k kind s acc (i : Int) = some (acc ++ swapsL kind s i d, true) := by
 induction d with
 | zero =>
  intro k i acc hd hi ha hk
  obtain ⟨k, rfl⟩ := succ_of hk
  have hw : wrap64 ((i : Int) + 1) = ((i + 1 : Nat) : Int) := by rw [w64 (by omega) (by omega)]; omega
  rw [spec_SwapsOf.l0, hw, if_neg (by omega), swapsL, List.append_nil]
 | succ d ih =>
  intro k i acc hd hi ha hk
  obtain ⟨k, rfl⟩ := succ_of hk
  have hlt : i + 1 < s.size := by omega
  have hw : wrap64 ((i : Int) + 1) = ((i + 1 : Nat) : Int) := by rw [w64 (by omega) (by omega)]; omega
  have hw2 : wrap64 ((i : Int) + 2) = ((i + 2 : Nat) : Int) := by rw [w64 (by omega) (by omega)]; omega
  have z1 : (s.extract 0 i).size = i := by rw [ByteArray.size_extract]; omega
  have z2 : (s.extract (i + 1) (i + 2)).size = 1 := by rw [ByteArray.size_extract]; omega
  have z3 : (s.extract i (i + 1)).size = 1 := by rw [ByteArray.size_extract]; omega
  have z4 : (s.extract (i + 2) s.size).size ≤ s.size := by rw [ByteArray.size_extract]; omega
  have hE := swapAt_eq s i hlt
  have hsz := swapAt_size s i
  have hI := specIs kind (swapAt s i) (by omega) k (by omega)
  have c1 : ((i + 1 : Nat) : Int) < (s.size : Int) := by omega
  have c2 : (0 : Int) ≤ (i : Int) := by omega
  have c3 : (i : Int) ≤ (s.size : Int) := by omega
  have c4 : (0 : Int) ≤ ((i + 1 : Nat) : Int) := by omega
  have c5 : ((i + 1 : Nat) : Int) ≤ ((i + 2 : Nat) : Int) := by omega
  have c6 : ((i + 2 : Nat) : Int) ≤ (s.size : Int) := by omega
  have c7 : (s.extract 0 i).size + (s.extract (i + 1) (i + 2)).size ≤ 9223372036854775807 := by omega
  have c8 : (i : Int) ≤ ((i + 1 : Nat) : Int) := by omega
  have c9 : ((i + 1 : Nat) : Int) ≤ (s.size : Int) := by omega
  have c10 : (s.extract 0 i ++ s.extract (i + 1) (i + 2)).size + (s.extract i (i + 1)).size ≤ 9223372036854775807 := by rw [ByteArray.size_append]; omega
  have c11 : (0 : Int) ≤ ((i + 2 : Nat) : Int) := by omega
  have c12 : ((s.extract 0 i ++ s.extract (i + 1) (i + 2)) ++ s.extract i (i + 1)).size + (s.extract (i + 2) s.size).size ≤ 9223372036854775807 := by rw [ByteArray.size_append, ByteArray.size_append]; omega
  have c13 : acc.length < 17592186044416 := by omega
  rw [spec_SwapsOf.l0, hw, hw2]
  simp only [Int.toNat_natCast]
  rw [if_pos c1, if_pos c2, if_pos c3, if_pos c4, if_pos c5, if_pos c6, if_pos c7, if_pos c8, if_pos c9, if_pos c10, if_pos c11, if_pos c12, hE, hI, Option.bind_some, swapsL]
  by_cases hb : isId kind (swapAt s i) = true
  ·rw [if_pos hb, if_pos hb, if_pos c13, ih k (i + 1) _ (by omega) (by omega) (by rw [List.length_append]; simp; omega) (by omega), List.append_assoc]
   rfl
  ·rw [if_neg hb, if_neg hb]
   exact ih k (i + 1) _ (by omega) (by omega) (by omega) (by omega)
theorem implSwaps_l0 (kind : Int) (s : ByteArray) (hs : s.size ≤ 1048576) (h1 : 1 ≤ kind) (h4 : kind ≤ 4) (d : Nat) : ∀ (k i : Nat) (acc : List Int), s.size - 1 - i = d → i ≤ s.size → acc.length ≤ i → s.size + d + 40 < k →
  impl_SwapsOf.l0 k kind s acc i = some (acc ++ swapsL kind s i d, true) := by
 induction d with
 | zero =>
  intro k i acc hd hi ha hk
  obtain ⟨k, rfl⟩ := succ_of hk
  rw [impl_SwapsOf.l0, if_neg (by omega), swapsL, List.append_nil]
 | succ d ih =>
  intro k i acc hd hi ha hk
  obtain ⟨k, rfl⟩ := succ_of hk
  have hsz := swapAt_size s i
  have hI := implIs kind (swapAt s i) (by omega) h1 h4 k (by omega)
  rw [impl_SwapsOf.l0, if_pos (by omega), hI, Option.bind_some, swapsL]
  by_cases hb : isId kind (swapAt s i) = true
  ·rw [if_pos hb, if_pos hb, if_pos (by omega), ih k (i + 1) _ (by omega) (by omega) (by rw [List.length_append]; simp; omega) (by omega), List.append_assoc]
   rfl
  ·rw [if_neg hb, if_neg hb]
   exact ih k (i + 1) _ (by omega) (by omega) (by omega) (by omega)
def swapsR (kind : Int) (s : ByteArray) : List Int × Bool := if idForm kind s = true then (swapsL kind s 0 (s.size - 1), true) else ([], false)
theorem swapsBoth (kind : Int) (s : ByteArray) (hs : s.size ≤ 1048576) (k : Nat) (hk : 2 * s.size + 100 < k) : spec_SwapsOf.f k kind s = some (swapsR kind s) ∧ impl_SwapsOf.f k kind s = some (swapsR kind s) := by
 constructor
 ·unfold spec_SwapsOf.f swapsR
  rw [Option.bind_some, specForm_f kind s (by omega) k (by omega), Option.bind_some]
  cases idForm kind s with
  | false => rfl
  | true =>
   rw [if_pos rfl, if_pos rfl]
   exact specSwaps_l0 kind s hs (s.size - 1) k 0 [] (by omega) (by omega) (by simp) (by omega)
 ·unfold impl_SwapsOf.f swapsR
  rw [if_pos (by omega), kindOk, Option.bind_some]
  by_cases hk14 : 1 ≤ kind ∧ kind ≤ 4
  ·have e1 : decide (1 ≤ kind) = true := decide_eq_true hk14.1
   have e2 : decide (kind ≤ 4) = true := decide_eq_true hk14.2
   rw [e1, e2, Bool.and_self, if_pos rfl, implText_f kind s (by omega) hk14.1 hk14.2 k (by omega), Option.bind_some]
   cases idForm kind s with
   | false => rfl
   | true =>
    rw [if_pos rfl, if_pos rfl]
    exact implSwaps_l0 kind s hs hk14.1 hk14.2 (s.size - 1) k 0 [] (by omega) (by omega) (by simp) (by omega)
  ·have e1 : (decide (1 ≤ kind) && decide (kind ≤ 4)) = false := by
    by_cases q : 1 ≤ kind
    ·have : decide (kind ≤ 4) = false := decide_eq_false (fun h => hk14 ⟨q, h⟩)
     rw [this, Bool.and_false]
    ·have : decide (1 ≤ kind) = false := decide_eq_false q
     rw [this, Bool.false_and]
   rw [e1, idForm_no hk14]
   rfl
theorem swapsL_length (kind : Int) (s : ByteArray) : ∀ (d i : Nat), (swapsL kind s i d).length ≤ d
 | 0, _ => Nat.le_refl _
 | d + 1, i => by
  have := swapsL_length kind s d (i + 1)
  rw [swapsL]
  split
  ·rw [List.length_cons]; omega
  ·omega
end Go.Proofs.YtpnjnlcjofaglaaDoor.P
