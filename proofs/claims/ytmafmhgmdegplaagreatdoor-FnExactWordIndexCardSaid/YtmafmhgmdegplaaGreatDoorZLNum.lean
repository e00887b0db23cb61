/- The reference's text of a whole number is the library's decimal numeral, for numbers whose magnitude is below 10 to the 18th. -/
import Derived.Lib.ItoaNum
import Derived.Test.YtmafmhgmdegplaaGreatDoorZPx11
import Derived.Test.YtmafmhgmdegplaaGreatDoorZPx24
import Derived.Test.YtmafmhgmdegplaaGreatDoorZLBase
namespace Go.Proofs.YtmafmhgmdegplaaGreatDoor.P
open Go.RowKit Go.Proofs.YtmafmhgmdegplaaGreatDoorW.PrintWords Go.Proofs.YtmafmhgmdegplaaGreatDoorW.PrintLast Go.Proofs.YtmafmhgmdegplaaGreatDoorW.PrintMore
set_option linter.unusedVariables false
set_option linter.unusedSimpArgs false
theorem dec_small (n : Nat) (h : n < 10) : Lib.decDigits n = [UInt8.ofNat (48 + n)] := by rw [Lib.decDigits, dif_pos h]
theorem dec_step (n : Nat) (h : ¬ n < 10) : Lib.decDigits n = Lib.decDigits (n / 10) ++ [UInt8.ofNat (48 + n % 10)] := by rw [Lib.decDigits, dif_neg h]
theorem dec_len (m : Nat) : ∀ n, n < 10 ^ (m + 1) → (Lib.decDigits n).length ≤ m + 1 := by
 induction m with
 | zero => intro n h; rw [dec_small n (by omega)]; simp
 | succ m ih =>
  intro n h
  by_cases h10 : n < 10
  ·rw [dec_small n h10]; simp
  ·rw [dec_step n h10, List.length_append]
   have := ih (n / 10) (by rw [Nat.pow_succ] at h; omega)
   simp
   omega
theorem digit_at (r : Nat) (h : r < 10) : (⟨#[48, 49, 50, 51, 52, 53, 54, 55, 56, 57]⟩ : ByteArray).extract r (r + 1) = ofL [UInt8.ofNat (48 + r)] := by
 have : r = 0 ∨ r = 1 ∨ r = 2 ∨ r = 3 ∨ r = 4 ∨ r = 5 ∨ r = 6 ∨ r = 7 ∨ r = 8 ∨ r = 9 := by omega
 rcases this with rfl | rfl | rfl | rfl | rfl | rfl | rfl | rfl | rfl | rfl <;> decide +kernel
theorem specNum_nat (m : Nat) (hm : m ≤ 17) : ∀ (n k : Nat), n < 10 ^ (m + 1) → m < k → FaS.f k (n : Int) = some (ofL (Lib.decDigits n)) := by
 induction m with
 | zero =>
  intro n k hn hk
  obtain ⟨k, rfl⟩ := succ_of hk
  simp only [FaS.f]
  have hw : wrap64 ((n : Int) + 1) = ((n + 1 : Nat) : Int) := by rw [w64 (by omega) (by omega)]; omega
  rw [hw, if_neg (by omega), if_pos (by omega), if_pos (by omega), if_pos (by omega), if_pos (by omega), Int.toNat_natCast, Int.toNat_natCast, digit_at n (by omega), dec_small n (by omega)]
 | succ m ih =>
  intro n k hn hk
  obtain ⟨k, rfl⟩ := succ_of hk
  have hp : (10 : Nat) ^ (m + 1 + 1) ≤ 10 ^ 18 := Nat.pow_le_pow_right (by omega) (by omega)
  have hp18 : (10 : Nat) ^ 18 = 1000000000000000000 := by decide +kernel
  simp only [FaS.f]
  rw [if_neg (by omega)]
  by_cases h10 : n < 10
  ·have hw : wrap64 ((n : Int) + 1) = ((n + 1 : Nat) : Int) := by rw [w64 (by omega) (by omega)]; omega
   rw [hw, if_pos (by omega), if_pos (by omega), if_pos (by omega), if_pos (by omega), Int.toNat_natCast, Int.toNat_natCast, digit_at n h10, dec_small n h10]
  ·have hd : wrap64 (Int.tdiv (n : Int) 10) = ((n / 10 : Nat) : Int) := by
    rw [Int.tdiv_eq_ediv_of_nonneg (by omega), w64 (by omega) (by omega)]; omega
   have hr : Int.tmod (n : Int) 10 = ((n % 10 : Nat) : Int) := by
    rw [Int.tmod_eq_emod_of_nonneg (by omega)]; omega
   have hw : wrap64 (((n % 10 : Nat) : Int) + 1) = ((n % 10 + 1 : Nat) : Int) := by rw [w64 (by omega) (by omega)]; omega
   have hl := dec_len m (n / 10) (by rw [Nat.pow_succ] at hn; omega)
   rw [if_neg (by omega), hd, ih (by omega) (n / 10) k (by rw [Nat.pow_succ] at hn; omega) (by omega), hr, hw]
   simp only [Option.bind_some, Int.toNat_natCast]
   rw [if_pos (by omega), if_pos (by omega), if_pos (by omega), digit_at (n % 10) (by omega), ofL_size, ofL_size, if_pos (by simp; omega), ofL_append, ← dec_step n h10]
def numB (n : Int) : ByteArray := ofL (Lib.itoa n)
theorem specNum (n : Int) (h0 : -1000000000000000000 < n) (h1 : n < 1000000000000000000) (k : Nat) (hk : 20 < k) : FaS.f k n = some (numB n) := by
 have hp18 : (10 : Nat) ^ (17 + 1) = 1000000000000000000 := by decide +kernel
 unfold numB Lib.itoa
 by_cases hn : n < 0
 ·obtain ⟨k, rfl⟩ := succ_of hk
  have h2 : FaS.f k (wrap64 (-n)) = some (ofL (Lib.decDigits n.natAbs)) := by
   rw [w64 (by omega) (by omega), show -n = ((n.natAbs : Nat) : Int) by omega]
   exact specNum_nat 17 (by omega) _ _ (by omega) (by omega)
  have hl := dec_len 17 n.natAbs (by omega)
  simp only [FaS.f]
  rw [if_pos hn, h2, if_pos hn]
  simp only [Option.bind_some]
  rw [ofL_size, if_pos (by omega)]
  congr 1
 ·rw [if_neg hn, show n = ((n.toNat : Nat) : Int) by omega]
  rw [Int.toNat_natCast]
  exact specNum_nat 17 (by omega) _ _ (by omega) (by omega)
theorem numB_size (n : Int) (h0 : -1000000000000000000 < n) (h1 : n < 1000000000000000000) : 1 ≤ (numB n).size ∧ (numB n).size ≤ 19 := by
 have hp18 : (10 : Nat) ^ (17 + 1) = 1000000000000000000 := by decide +kernel
 unfold numB Lib.itoa
 rw [ofL_size]
 have hpos : ∀ m, 1 ≤ (Lib.decDigits m).length := by
  intro m
  by_cases h : m < 10
  ·rw [dec_small m h]; simp
  ·rw [dec_step m h]; simp
 split
 ·have := dec_len 17 n.natAbs (by omega)
  simp
  omega
 ·have := dec_len 17 n.toNat (by omega)
  have := hpos n.toNat
  omega
theorem implItoa (n : Int) (h0 : -9223372036854775808 ≤ n) (h1 : n ≤ 9223372036854775807) : FbK.f n = some (numB n) := by
 unfold FbK.f
 rw [if_pos ⟨h0, h1⟩]
 rfl
end Go.Proofs.YtmafmhgmdegplaaGreatDoor.P
