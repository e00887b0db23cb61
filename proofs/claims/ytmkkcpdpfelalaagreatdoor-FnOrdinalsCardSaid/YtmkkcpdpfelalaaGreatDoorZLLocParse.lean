/- The number that an ordinal's text stands for: the program's and the reference's answers are one plain function, for locales whose texts have at most 1048576 bytes each and texts of at most 2097152 bytes. -/
import Derived.Test.YtmkkcpdpfelalaaGreatDoorZPx0
import Derived.Test.YtmkkcpdpfelalaaGreatDoorZPx10
import Derived.Test.YtmkkcpdpfelalaaGreatDoorZPx11
import Derived.Test.YtmkkcpdpfelalaaGreatDoorZPx12
import Derived.Test.YtmkkcpdpfelalaaGreatDoorZPx7
import Derived.Test.YtmkkcpdpfelalaaGreatDoorZLBase
import Derived.Test.YtmkkcpdpfelalaaGreatDoorZLLocGood
import Derived.Test.YtmkkcpdpfelalaaGreatDoorZLLocOrd
import Derived.Test.YtmkkcpdpfelalaaGreatDoorZLReadInt
namespace Go.Proofs.YtmkkcpdpfelalaaGreatDoor.P
open Go.RowKit Go.Proofs.YtmkkcpdpfelalaaGreatDoorW.PrintWords Go.Proofs.YtmkkcpdpfelalaaGreatDoorW.PrintLast Go.Proofs.YtmkkcpdpfelalaaGreatDoorW.PrintMore
set_option linter.unusedVariables false
set_option linter.unusedSimpArgs false
def parseF (rs : List S67) (s : ByteArray) : Int → Nat → Int × Bool
 | _, 0 => (0, false)
 | i, d + 1 => if (readR (s.extract 0 i.toNat)).2 = true ∧ (readR (s.extract 0 i.toNat)).1 ≥ 0 ∧ (ordTxt rs (readR (s.extract 0 i.toNat)).1 0 rs.length).toList = s.toList then ((readR (s.extract 0 i.toNat)).1, true) else parseF rs s (i + 1) d
theorem ext_size_le (s : ByteArray) (i : Nat) : (s.extract 0 i).size ≤ s.size := by
 rw [ByteArray.size_extract]
 omega
theorem specParse_l0 (nm : ByteArray) (ts : List S65) (rs : List S67) (la tw : ByteArray) (s : ByteArray) (hs : s.size ≤ 2097152) (hl : rs.length ≤ 6) (hg : rulesFrom rs 0 rs.length = true) (d : Nat) : ∀ (k : Nat) (i : Int), 1 ≤ i → i ≤ 7 → min (s.size : Int) 6 + 1 - i ≤ d → (d = 0 ∨ min (s.size : Int) 6 + 1 - i = d) → 2 * d + 1000 < k →
  spec_ParseOrdinal.l0 k s i nm ts rs la tw = some (parseF rs s i d) := by
 induction d with
 | zero =>
  intro k i h0 h7 hd _ hk
  obtain ⟨k, rfl⟩ : ∃ m, k = m + 2 := ⟨k - 2, by omega⟩
  have j2 : ∀ x : Bool, x = false → spec_ParseOrdinal.j2 (k + 1) s i x nm ts rs la tw = some (0, false) := by
   rintro x rfl
   rw [spec_ParseOrdinal.j2, if_neg Bool.false_ne_true]
  rw [spec_ParseOrdinal.l0, parseF]
  by_cases h1 : i ≤ (s.size : Int)
  ·rw [if_pos h1]
   exact j2 _ (decide_eq_false (by omega))
  ·rw [if_neg h1]
   exact j2 _ rfl
 | succ d ih =>
  intro k i h0 h7 hd hd2 hk
  obtain ⟨k, rfl⟩ : ∃ m, k = m + 2 := ⟨k - 2, by omega⟩
  have hi := ih k (i + 1) (by omega) (by omega) (by omega) (by omega) (by omega)
  rw [spec_ParseOrdinal.l0, if_pos (by omega), show decide (i ≤ 6) = true from decide_eq_true (by omega), spec_ParseOrdinal.j2, if_pos rfl, if_pos (by omega), if_pos (by omega), w64 (x := i + 1) (by omega) (by omega), hi, parseF]
  have hz := ext_size_le s i.toNat
  have hr := readR_small (s := s.extract 0 i.toNat)
  rw [specRead _ (by omega) k (by omega), Option.bind_some]
  generalize readR (s.extract 0 i.toNat) = R at *
  by_cases h1 : R.2 = true
  ·rw [if_pos h1]
   by_cases h2 : R.1 ≥ 0
   ·have h3 := hr h1
    rw [if_pos h2, spec_l23Ordinal.f, specOrd_l0 nm ts rs la tw R.1 h2 h3.2 hl rs.length k 0 (by omega) (by omega) hg (by omega), Option.bind_some]
    by_cases h4 : (ordTxt rs R.1 0 rs.length).toList = s.toList
    ·rw [if_pos h4, if_pos ⟨h1, h2, h4⟩]
    ·rw [if_neg h4, if_neg (fun h => h4 h.2.2)]
   ·rw [if_neg h2, if_neg (fun h => h2 h.2.1)]
  ·rw [if_neg h1, if_neg (fun h => h1 h.1)]
theorem implParse_l0 (nm : ByteArray) (ts : List S65) (rs : List S67) (la tw : ByteArray) (s : ByteArray) (hs : s.size ≤ 2097152) (hl : rs.length ≤ 6) (hg : rulesFrom rs 0 rs.length = true) (d : Nat) : ∀ (k : Nat) (i : Int), 1 ≤ i → i ≤ 7 → min (s.size : Int) 6 + 1 - i ≤ d → (d = 0 ∨ min (s.size : Int) 6 + 1 - i = d) → d + 1000 < k →
  impl_ParseOrdinal.l0 k s i nm ts rs la tw = some (parseF rs s i d) := by
 induction d with
 | zero =>
  intro k i h0 h7 hd _ hk
  obtain ⟨k, rfl⟩ := succ_of hk
  rw [impl_ParseOrdinal.l0, parseF, if_neg (by unfold mn; omega)]
 | succ d ih =>
  intro k i h0 h7 hd hd2 hk
  obtain ⟨k, rfl⟩ := succ_of hk
  have hi := ih k (i + 1) (by omega) (by omega) (by omega) (by omega) (by omega)
  rw [impl_ParseOrdinal.l0, if_pos (by unfold mn; omega), if_pos (by omega), if_pos (by omega), w64 (x := i + 1) (by omega) (by omega), hi, parseF]
  have hr := readR_small (s := s.extract 0 i.toNat)
  rw [implRead, Option.bind_some]
  generalize readR (s.extract 0 i.toNat) = R at *
  by_cases h1 : R.2 = true
  ·rw [if_pos h1]
   by_cases h2 : R.1 ≥ 0
   ·have h3 := hr h1
    rw [if_pos h2, impl_ordinalText.f, implOrd_l0 rs R.1 h2 h3.2 hl rs.length k 0 (by omega) (by omega) hg (by omega), Option.bind_some]
    by_cases h4 : (ordTxt rs R.1 0 rs.length).toList = s.toList
    ·rw [if_pos h4, if_pos ⟨h1, h2, h4⟩]
    ·rw [if_neg h4, if_neg (fun h => h4 h.2.2)]
   ·rw [if_neg h2, if_neg (fun h => h2 h.2.1)]
  ·rw [if_neg h1, if_neg (fun h => h1 h.1)]
theorem ordTxt_size (rs : List S67) (n : Nat) (h1 : n ≤ 999999) (d : Nat) : ∀ (i : Int), rulesFrom rs i d = true → (ordTxt rs (n : Int) i d).size ≤ 10 := by
 have hz := numB_len6 n h1
 induction d with
 | zero =>
  intro i _
  rw [ordTxt]
  omega
 | succ d ih =>
  intro i hg
  rw [rulesFrom, Bool.and_eq_true] at hg
  rw [ordTxt]
  split
  ·have := goodR_of hg.1
   rw [ByteArray.size_append]
   omega
  ·exact ih (i + 1) hg.2
theorem parseF_long (rs : List S67) (s : ByteArray) (hs : 10 < s.size) (hg : rulesFrom rs 0 rs.length = true) (d : Nat) : ∀ (i : Int), parseF rs s i d = (0, false) := by
 induction d with
 | zero => intro i; rw [parseF]
 | succ d ih =>
  intro i
  rw [parseF, if_neg]
  ·exact ih (i + 1)
  ·rintro ⟨h1, h2, h3⟩
   have h4 := readR_small h1
   generalize (readR (s.extract 0 i.toNat)).1 = v at *
   obtain ⟨n, rfl⟩ : ∃ n : Nat, v = (n : Int) := ⟨v.toNat, by omega⟩
   have h5 := ordTxt_size rs n (by omega) rs.length 0 hg
   have h6 := congrArg List.length (toList_data h3)
   rw [data_length, data_length] at h6
   omega
def parseR (n : ByteArray) (ts : List S65) (rs : List S67) (la tw s : ByteArray) : Int × Bool :=
 if goodL n ts rs la tw = true then parseF rs s 1 (min s.size 6) else (0, false)
theorem parseBoth (n : ByteArray) (ts : List S65) (rs : List S67) (la tw s : ByteArray) (hs : s.size ≤ 2097152) (hn : n.size ≤ 1048576) (ht : ∀ x ∈ ts, szT x) (hr : ∀ x ∈ rs, szR x) (hla : la.size ≤ 1048576) (htw : tw.size ≤ 1048576) (k : Nat) (hk : 2000000 < k) :
  spec_ParseOrdinal.f k n ts rs la tw s = some (parseR n ts rs la tw s) ∧ impl_ParseOrdinal.f k n ts rs la tw s = some (parseR n ts rs la tw s) := by
 obtain ⟨k, rfl⟩ := succ_of hk
 have hj : ∀ x : Bool, x = true → spec_ParseOrdinal.j0 (k + 1) s x n ts rs la tw = some (0, false) := by
  rintro x rfl
  rw [spec_ParseOrdinal.j0, if_pos rfl]
 unfold spec_ParseOrdinal.f impl_ParseOrdinal.f parseR
 rw [specGood n ts rs la tw hn ht hr hla htw (k + 1) (by omega), implGood n ts rs la tw hn ht hr hla htw (k + 1) (by omega), Option.bind_some, Option.bind_some]
 cases hg : goodL n ts rs la tw with
 | false => exact ⟨by rw [if_neg Bool.false_ne_true, if_neg Bool.false_ne_true]; exact hj _ rfl, by rw [if_neg Bool.false_ne_true, if_neg Bool.false_ne_true]⟩
 | true =>
  obtain ⟨h6, hru⟩ := goodL_rules hg
  rw [if_pos rfl, if_pos rfl, if_pos rfl]
  refine ⟨?_, implParse_l0 n ts rs la tw s hs h6 hru (min s.size 6) (k + 1) 1 (by omega) (by omega) (by omega) (by omega) (by omega)⟩
  by_cases hz : (s.size : Int) > 10
  ·rw [parseF_long rs s (by omega) hru]
   exact hj _ (decide_eq_true hz)
  ·rw [show decide ((s.size : Int) > 10) = false from decide_eq_false hz, spec_ParseOrdinal.j0, if_neg Bool.false_ne_true]
   exact specParse_l0 n ts rs la tw s hs h6 hru (min s.size 6) k 1 (by omega) (by omega) (by omega) (by omega) (by omega)
end Go.Proofs.YtmkkcpdpfelalaaGreatDoor.P
