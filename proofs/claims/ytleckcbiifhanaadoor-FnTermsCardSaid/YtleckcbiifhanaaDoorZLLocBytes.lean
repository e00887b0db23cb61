/- Printable texts: the program's and the reference's tests are one plain function, for strings of at most 2097152 bytes. -/
import Derived.Test.YtleckcbiifhanaaDoorZPx10
import Derived.Test.YtleckcbiifhanaaDoorZPx5
import Derived.Test.YtleckcbiifhanaaDoorZPx6
import Derived.Test.YtleckcbiifhanaaDoorZLBase
namespace Go.Proofs.YtleckcbiifhanaaDoor.P
open Go.RowKit Go.Proofs.YtleckcbiifhanaaDoorW.PrintWords Go.Proofs.YtleckcbiifhanaaDoorW.PrintLast Go.Proofs.YtleckcbiifhanaaDoorW.PrintMore
set_option linter.unusedVariables false
set_option linter.unusedSimpArgs false
def allFrom (lo hi : Int) (s : ByteArray) : Int → Nat → Bool
 | _, 0 => true
 | i, d + 1 => decide (lo ≤ bt s i) && (decide (bt s i ≤ hi) && allFrom lo hi s (i + 1) d)
def inB (a lo hi : Int) : Bool := decide (lo ≤ a) && decide (a ≤ hi)
theorem in_spec (a lo hi : Int) : spec_l1In.f a lo hi = some (inB a lo hi) := by
 unfold spec_l1In.f inB
 by_cases h : a ≥ lo
 ·rw [if_pos h, decide_eq_true (show lo ≤ a from h), Bool.true_and]
 ·rw [if_neg h, decide_eq_false (show ¬ lo ≤ a from h), Bool.false_and]
theorem in_impl (a lo hi : Int) : impl_inside.f a lo hi = some (inB a lo hi) := by
 unfold impl_inside.f inB
 by_cases h : a ≥ lo
 ·rw [if_pos h, decide_eq_true (show lo ≤ a from h), Bool.true_and]
 ·rw [if_neg h, decide_eq_false (show ¬ lo ≤ a from h), Bool.false_and]
def bytesOk (s : ByteArray) (lo hi first : Int) : Bool := allFrom first 126 s 0 s.size && inB s.size lo hi
theorem all_no1 {lo hi : Int} {s : ByteArray} {i : Int} {d : Nat} (h : bt s i < lo) : allFrom lo hi s i (d + 1) = false := by
 rw [allFrom, decide_eq_false (show ¬ lo ≤ bt s i by omega), Bool.false_and]
theorem all_no2 {lo hi : Int} {s : ByteArray} {i : Int} {d : Nat} (h : bt s i > hi) : allFrom lo hi s i (d + 1) = false := by
 rw [allFrom, decide_eq_false (show ¬ bt s i ≤ hi by omega), Bool.false_and, Bool.and_false]
theorem all_yes {lo hi : Int} {s : ByteArray} {i : Int} {d : Nat} (h1 : ¬ bt s i < lo) (h2 : ¬ bt s i > hi) : allFrom lo hi s i (d + 1) = allFrom lo hi s (i + 1) d := by
 rw [allFrom, decide_eq_true (show lo ≤ bt s i by omega), decide_eq_true (show bt s i ≤ hi by omega), Bool.true_and, Bool.true_and]
theorem specBytes_l0 (s : ByteArray) (hs : s.size ≤ 2097152) (low high first : Int) (d : Nat) : ∀ (k : Nat) (i : Int), 0 ≤ i → (s.size : Int) - i = d → d < k →
  spec_l23Bytes.l0 k s low high first i = some (allFrom first 126 s i d && inB s.size low high) := by
 induction d with
 | zero =>
  intro k i h0 hd hk
  obtain ⟨k, rfl⟩ := succ_of hk
  rw [spec_l23Bytes.l0, if_neg (by omega), in_spec, Option.bind_some, allFrom, Bool.true_and]
 | succ d ih =>
  intro k i h0 hd hk
  obtain ⟨k, rfl⟩ := succ_of hk
  rw [spec_l23Bytes.l0, if_pos (by omega), if_pos h0]
  by_cases c1 : bt s i < first
  ·rw [if_pos c1, all_no1 c1, Bool.false_and]
  ·rw [if_neg c1]
   by_cases c2 : bt s i > 126
   ·rw [if_pos c2, all_no2 c2, Bool.false_and]
   ·rw [if_neg c2, all_yes c1 c2, w64 (x := i + 1) (by omega) (by omega), ih k (i + 1) (by omega) (by omega) (by omega)]
theorem specBytes (s : ByteArray) (hs : s.size ≤ 2097152) (low high first : Int) (k : Nat) (hk : s.size < k) : spec_l23Bytes.f k s low high first = some (bytesOk s low high first) :=
 specBytes_l0 s hs low high first s.size k 0 (by omega) (by omega) hk
theorem implPrint_l0 (s : ByteArray) (hs : s.size ≤ 2097152) (d : Nat) : ∀ (k : Nat) (i : Int), 0 ≤ i → (s.size : Int) - i = d → d < k →
  impl_arePrintable.l0 k s i = some (allFrom 32 126 s i d) := by
 induction d with
 | zero =>
  intro k i h0 hd hk
  obtain ⟨k, rfl⟩ := succ_of hk
  rw [impl_arePrintable.l0, if_neg (by omega), allFrom]
 | succ d ih =>
  intro k i h0 hd hk
  obtain ⟨k, rfl⟩ := succ_of hk
  rw [impl_arePrintable.l0, if_pos (by omega), if_pos h0]
  by_cases c1 : bt s i < 32
  ·rw [if_pos c1, all_no1 c1]
  ·rw [if_neg c1]
   by_cases c2 : bt s i > 126
   ·rw [if_pos c2, all_no2 c2]
   ·rw [if_neg c2, all_yes c1 c2, w64 (x := i + 1) (by omega) (by omega), ih k (i + 1) (by omega) (by omega) (by omega)]
theorem implPrint (s : ByteArray) (hs : s.size ≤ 2097152) (k : Nat) (hk : s.size < k) : impl_arePrintable.f k s = some (allFrom 32 126 s 0 s.size) := implPrint_l0 s hs s.size k 0 (by omega) (by omega) hk
theorem inB_of {a lo hi : Int} (h : inB a lo hi = true) : lo ≤ a ∧ a ≤ hi := by
 unfold inB at h
 simpa using h
end Go.Proofs.YtleckcbiifhanaaDoor.P
