/- A number's numeral is read as that number; of two numerals the one that begins the other stands for a number that isn't greater. Conditions: those of each lemma. -/
import Derived.Test.YtmkkcpdpfelalaaGreatDoorZPx0
import Derived.Test.YtmkkcpdpfelalaaGreatDoorZLBytesU
import Derived.Test.YtmkkcpdpfelalaaGreatDoorZLNum
import Derived.Test.YtmkkcpdpfelalaaGreatDoorZLOfL
import Derived.Test.YtmkkcpdpfelalaaGreatDoorZLReadInt
namespace Go.Proofs.YtmkkcpdpfelalaaGreatDoor.P
open Go.RowKit Go.Proofs.YtmkkcpdpfelalaaGreatDoorW.PrintWords Go.Proofs.YtmkkcpdpfelalaaGreatDoorW.PrintLast Go.Proofs.YtmkkcpdpfelalaaGreatDoorW.PrintMore
set_option linter.unusedVariables false
set_option linter.unusedSimpArgs false
theorem decFrom_append : ∀ (l r : List UInt8) (acc : Nat), Lib.decFrom acc (l ++ r) = (Lib.decFrom acc l).bind fun m => Lib.decFrom m r
 | [], r, acc => rfl
 | b :: l, r, acc => by
  rw [List.cons_append, Lib.decFrom, Lib.decFrom]
  cases Lib.digitVal b with
  | none => rfl
  | some d => exact decFrom_append l r _
theorem decFrom_dec : ∀ (n : Nat), Lib.decFrom 0 (Lib.decDigits n) = some n := by
 intro n
 induction n using Nat.strongRecOn with
 | ind n ih =>
  by_cases h : n < 10
  ·have e : (UInt8.ofNat (48 + n)).toNat = 48 + n := UInt8.toNat_ofNat_of_lt' (by show 48 + n < 256; omega)
   rw [dec_small n h, digit_yes (by rw [e]; omega), e, Lib.decFrom]
   congr 1
   omega
  ·have e : (UInt8.ofNat (48 + n % 10)).toNat = 48 + n % 10 := UInt8.toNat_ofNat_of_lt' (by show 48 + n % 10 < 256; omega)
   rw [dec_step n h, decFrom_append, ih (n / 10) (by omega), Option.bind_some, digit_yes (by rw [e]; omega), e, Lib.decFrom]
   congr 1
   omega
theorem dec_pos (n : Nat) : 1 ≤ (Lib.decDigits n).length := by
 by_cases h : n < 10
 ·rw [dec_small n h]; simp
 ·rw [dec_step n h]; simp
theorem dec_lt : ∀ (n : Nat), n < 10 ^ (Lib.decDigits n).length := by
 intro n
 have h := Lib.decFrom_lt _ 0 n (decFrom_dec n)
 rw [Nat.zero_add, Nat.one_mul] at h
 exact h
theorem dec_ge (n i : Nat) (h1 : 1 ≤ i) (h : i < (Lib.decDigits n).length) : 10 ^ i ≤ n := by
 rcases Nat.lt_or_ge n (10 ^ i) with g | g
 ·obtain ⟨j, rfl⟩ : ∃ j, i = j + 1 := ⟨i - 1, by omega⟩
  have := dec_len j n g
  omega
 ·exact g
theorem readR_num (m : Nat) (h : m ≤ 999999) : readR (numB (m : Int)) = ((m : Int), true) := by
 have hz := numB_len6 m h
 have hl : (numB (m : Int)).data.toList = Lib.decDigits m := by
  unfold numB Lib.itoa
  rw [if_neg (by omega), Int.toNat_natCast, toL_ofL]
 have hp := dec_pos m
 have hat : Lib.atoi (numB (m : Int)).data.toList = some (m : Int) := by
  have hd := decFrom_dec m
  have hh := numB_head m h
  rw [hl] at hh
  rw [hl]
  cases hc : Lib.decDigits m with
  | nil => rw [hc] at hp; simp at hp
  | cons b r =>
   rw [hc] at hd hh
   have hb := hh b (List.mem_cons_self ..)
   have n45 : ¬ (b == 45) = true := by rw [beq_iff_eq]; rintro rfl; have e : (45 : UInt8).toNat = 45 := rfl; omega
   have n43 : ¬ (b == 43) = true := by rw [beq_iff_eq]; rintro rfl; have e : (43 : UInt8).toNat = 43 := rfl; omega
   rw [Lib.atoi, if_neg n45, if_neg n43, Lib.decNat, if_neg (by simp), hd]
   rfl
 unfold readR
 rw [if_pos (by omega), hat]
 simp only
 rw [if_pos ⟨⟨by omega, by omega⟩, trivial⟩]
theorem readR_is {s : ByteArray} (h : (readR s).2 = true) : numB (readR s).1 = s := by
 unfold readR at h ⊢
 by_cases h7 : s.size ≤ 7
 ·rw [if_pos h7] at h ⊢
  cases hm : Lib.atoi s.data.toList with
  | none => rw [hm] at h; cases h
  | some v =>
   rw [hm] at h
   simp only at h ⊢
   by_cases hc : (-999999 ≤ v ∧ v ≤ 999999) ∧ (numB v).toList = s.toList
   ·rw [if_pos hc]
    exact toList_inj.1 hc.2
   ·rw [if_neg hc] at h
    cases h
 ·rw [if_neg h7] at h
  cases h
theorem numB_dec (m : Nat) : numB (m : Int) = ofL (Lib.decDigits m) := by
 unfold numB Lib.itoa
 rw [if_neg (by omega), Int.toNat_natCast]
theorem pre_le (m v : Nat) (hm : m ≤ 999999) (i : Nat) (h1 : 1 ≤ i) (hi : i ≤ (numB (m : Int)).size) (h : numB (v : Int) = (numB (m : Int)).extract 0 i) (hv : v ≤ 999999) : v ≤ m := by
 have hs := congrArg ByteArray.size h
 rw [ByteArray.size_extract, numB_dec v, ofL_size] at hs
 rw [numB_dec m, ofL_size] at hi hs
 have l1 := dec_lt v
 rcases Nat.lt_or_ge i (Lib.decDigits m).length with g | g
 ·have l2 := dec_ge m i h1 g
  have e : (Lib.decDigits v).length = i := by omega
  rw [e] at l1
  omega
 ·have e : i = (numB (m : Int)).size := by rw [numB_dec m, ofL_size]; omega
  have hx : (numB (m : Int)).extract 0 i = numB (m : Int) := by
   rw [e]
   apply bytes_eq
   rw [toL_cut, List.drop_zero, Nat.sub_zero]
   exact List.take_of_length_le (by rw [data_length]; exact Nat.le_refl _)
  rw [hx] at h
  have r1 := readR_num v hv
  rw [h, readR_num m hm] at r1
  have := congrArg Prod.fst r1
  simp only at this
  omega
end Go.Proofs.YtmkkcpdpfelalaaGreatDoor.P
