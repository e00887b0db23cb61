/- Texts of locales: the program's and the reference's tests of keys, of printable texts and of ordinal rules are plain functions, for strings of at most 2097152 bytes. -/
import Derived.Lib.IndexAny
import Derived.Test.YtleckcbiifhanaaDoorZPx10
import Derived.Test.YtleckcbiifhanaaDoorZPx5
import Derived.Test.YtleckcbiifhanaaDoorZPx6
import Derived.Test.YtleckcbiifhanaaDoorZLBase
import Derived.Test.YtleckcbiifhanaaDoorZLLocBytes
namespace Go.Proofs.YtleckcbiifhanaaDoor.P
open Go.RowKit Go.Proofs.YtleckcbiifhanaaDoorW.PrintWords Go.Proofs.YtleckcbiifhanaaDoorW.PrintLast Go.Proofs.YtleckcbiifhanaaDoorW.PrintMore
set_option linter.unusedVariables false
set_option linter.unusedSimpArgs false
def keyOk (s : ByteArray) : Bool := allFrom 97 122 s 0 s.size && inB s.size 1 10
theorem specKey_l0 (s : ByteArray) (hs : s.size ≤ 2097152) (d : Nat) : ∀ (k : Nat) (i : Int), 0 ≤ i → (s.size : Int) - i = d → d < k →
  spec_l23Key.l0 k s i = some (allFrom 97 122 s i d && inB s.size 1 10) := by
 induction d with
 | zero =>
  intro k i h0 hd hk
  obtain ⟨k, rfl⟩ := succ_of hk
  rw [spec_l23Key.l0, if_neg (by omega), in_spec, Option.bind_some, allFrom, Bool.true_and]
 | succ d ih =>
  intro k i h0 hd hk
  obtain ⟨k, rfl⟩ := succ_of hk
  rw [spec_l23Key.l0, if_pos (by omega), if_pos h0]
  by_cases c1 : bt s i < 97
  ·rw [if_pos c1, all_no1 c1, Bool.false_and]
  ·rw [if_neg c1]
   by_cases c2 : bt s i > 122
   ·rw [if_pos c2, all_no2 c2, Bool.false_and]
   ·rw [if_neg c2, all_yes c1 c2, w64 (x := i + 1) (by omega) (by omega), ih k (i + 1) (by omega) (by omega) (by omega)]
theorem specKey (s : ByteArray) (hs : s.size ≤ 2097152) (k : Nat) (hk : s.size < k) : spec_l23Key.f k s = some (keyOk s) := specKey_l0 s hs s.size k 0 (by omega) (by omega) hk
theorem implSmall_l0 (s : ByteArray) (hs : s.size ≤ 2097152) (low high : Int) (d : Nat) : ∀ (k : Nat) (i : Int), 0 ≤ i → (s.size : Int) - i = d → d < k →
  impl_isSmall.l0 k s low high i = some (allFrom 97 122 s i d && inB s.size low high) := by
 induction d with
 | zero =>
  intro k i h0 hd hk
  obtain ⟨k, rfl⟩ := succ_of hk
  rw [impl_isSmall.l0, if_neg (by omega), in_impl, Option.bind_some, allFrom, Bool.true_and]
 | succ d ih =>
  intro k i h0 hd hk
  obtain ⟨k, rfl⟩ := succ_of hk
  rw [impl_isSmall.l0, if_pos (by omega), if_pos h0, impl_isLower.f]
  by_cases c1 : bt s i ≥ 97
  ·rw [if_pos c1, Option.bind_some]
   by_cases c2 : bt s i ≤ 122
   ·rw [if_pos (decide_eq_true c2), all_yes (by omega) (by omega), w64 (x := i + 1) (by omega) (by omega), ih k (i + 1) (by omega) (by omega) (by omega)]
   ·rw [if_neg (by simp [c2]), all_no2 (by omega), Bool.false_and]
  ·rw [if_neg c1, Option.bind_some, if_neg Bool.false_ne_true, all_no1 (by omega), Bool.false_and]
theorem ext_all (s : ByteArray) : s.extract 0 s.size = s := by
 apply toL_same
 rw [toL_cut0, List.take_of_length_le (by rw [data_length]; exact Nat.le_refl _)]
theorem trimNo (s : ByteArray) (hs : s.size ≤ 2097152) : strings_TrimSuffix.f s (⟨#[]⟩ : ByteArray) = some s := by
 unfold strings_TrimSuffix.f stringslite_TrimSuffix.f stringslite_HasSuffix.f
 have e0 : (((⟨#[]⟩ : ByteArray).size : Nat) : Int) = 0 := rfl
 have hn : (s.extract s.size s.size).toList = ([] : List UInt8) := by
  rw [Go.ByteArray.toList_eq, toL_cutE, List.drop_of_length_le (by rw [data_length]; exact Nat.le_refl _)]
 have en : (⟨#[]⟩ : ByteArray).toList = ([] : List UInt8) := by rw [Go.ByteArray.toList_eq]
 rw [e0, Int.sub_zero, w64 (x := (s.size : Int)) (by omega) (by omega), if_pos (by omega), if_pos (by omega), if_pos (by omega), Int.toNat_natCast, hn, en, Option.bind_some, if_pos (by rfl), if_pos (by omega), if_pos (by omega), ext_all, Option.bind_some]
theorem implKey (s : ByteArray) (hs : s.size ≤ 2097152) (k : Nat) (hk : s.size < k) : impl_isTermKey.f k s = some (keyOk s) := by
 unfold impl_isTermKey.f impl_isSmall.f
 rw [trimNo s hs, Option.bind_some, implSmall_l0 s hs 1 10 s.size k 0 (by omega) (by omega) hk, Option.bind_some]
 rfl
theorem implText (s : ByteArray) (hs : s.size ≤ 2097152) (most : Int) (k : Nat) (hk : s.size < k) : impl_isTermText.f k s most = some (bytesOk s 1 most 32) := by
 unfold impl_isTermText.f bytesOk
 rw [in_impl, Option.bind_some]
 cases inB (s.size : Int) 1 most with
 | false => rw [if_neg Bool.false_ne_true, Bool.and_false]
 | true => rw [if_pos rfl, implPrint s hs k hk, Option.bind_some, Bool.and_true]
theorem containsSp (s : ByteArray) : strings_Contains.f s (⟨#[32]⟩ : ByteArray) = some (s.data.toList.contains 32) := by
 unfold strings_Contains.f strings_Index.f stringslite_Index.f
 have e1 : (⟨#[32]⟩ : ByteArray).size = 1 := rfl
 have e2 : (bt (⟨#[32]⟩ : ByteArray) 0).toNat.toUInt8 = 32 := by decide +kernel
 rw [if_pos e1, e2, Option.bind_some, Option.bind_some, Lib.contains_iff_indexByte]
theorem all_sp (s : ByteArray) : ∀ (d i : Nat), s.size - i = d → i ≤ s.size → (allFrom 32 126 s i d && !((s.data.toList.drop i).contains 32)) = allFrom 33 126 s i d
 | 0, i, hd, hi => by
  rw [List.drop_of_length_le (by rw [data_length]; omega)]
  rfl
 | d + 1, i, hd, hi => by
  obtain ⟨b, hb, hbt⟩ := drop_bt s i (by omega)
  have ih := all_sp s d (i + 1) (by omega) (by omega)
  have hc : ((i + 1 : Nat) : Int) = (i : Int) + 1 := by omega
  rw [hc] at ih
  rw [hb, List.contains_cons]
  by_cases c0 : bt s (i : Int) < 32
  ·rw [all_no1 c0, all_no1 (by omega), Bool.false_and]
  ·by_cases c2 : bt s (i : Int) > 126
   ·rw [all_no2 c2, all_no2 c2, Bool.false_and]
   ·rw [all_yes c0 c2]
    by_cases e : bt s (i : Int) = 32
    ·have : b = 32 := by
      apply u8_int
      rw [← hbt, e]
      rfl
     rw [this, all_no1 (by omega)]
     simp
    ·have : (32 == b) = false := by
      rw [beq_eq_false_iff_ne]
      rintro rfl
      apply e
      rw [hbt]
      rfl
     rw [this, Bool.false_or, all_yes (by omega) c2, ih]
def goodR (a b : Int) (s : ByteArray) : Bool := inB a 1 1000 && (inB b 0 (a - 1) && bytesOk s 0 4 33)
theorem implRule (a b : Int) (s : ByteArray) (hs : s.size ≤ 2097152) (k : Nat) (hk : s.size < k) : impl_isOrdinalRule.f k a b s = some (goodR a b s) := by
 unfold impl_isOrdinalRule.f goodR
 rw [in_impl, Option.bind_some]
 cases ha : inB a 1 1000 with
 | false => rw [if_neg Bool.false_ne_true, Bool.false_and]
 | true =>
  have h1 : 1 ≤ a ∧ a ≤ 1000 := by
   unfold inB at ha
   simpa using ha
  rw [if_pos rfl, Bool.true_and, w64 (x := a - 1) (by omega) (by omega), in_impl, Option.bind_some]
  cases inB b 0 (a - 1) with
  | false => rw [if_neg Bool.false_ne_true, Bool.false_and]
  | true =>
   rw [if_pos rfl, Bool.true_and]
   unfold bytesOk
   have hsp := all_sp s s.size 0 (by omega) (by omega)
   rw [List.drop_zero] at hsp
   rw [show ((0 : Nat) : Int) = 0 from rfl] at hsp
   rw [← hsp]
   by_cases h4 : (s.size : Int) ≤ 4
   ·rw [if_pos h4, implPrint s hs k hk, Option.bind_some]
    have : inB (s.size : Int) 0 4 = true := by
     unfold inB
     rw [decide_eq_true (show (0 : Int) ≤ s.size by omega), decide_eq_true h4]
     rfl
    rw [this, Bool.and_true]
    cases allFrom 32 126 s 0 s.size with
    | false => rw [if_neg Bool.false_ne_true, Bool.false_and]
    | true => rw [if_pos rfl, containsSp, Option.bind_some, Bool.true_and]
   ·have : inB (s.size : Int) 0 4 = false := by
     unfold inB
     rw [decide_eq_false h4, Bool.and_false]
    rw [if_neg h4, this, Bool.and_false]
end Go.Proofs.YtleckcbiifhanaaDoor.P
