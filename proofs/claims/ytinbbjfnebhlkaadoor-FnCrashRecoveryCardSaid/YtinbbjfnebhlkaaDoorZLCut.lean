/- Cutting a string at a byte, by the library's Cut and by the reference's split: what stands before the byte's first place, and behind it; for strings of at most 140737488351232 bytes. -/
import Derived.Lib.IndexAny
import Derived.Lib.IndexBytes
import Derived.Test.YtinbbjfnebhlkaaDoorZPx2
import Derived.Test.YtinbbjfnebhlkaaDoorZPx5
import Derived.Test.YtinbbjfnebhlkaaDoorZPx6
import Derived.Test.YtinbbjfnebhlkaaDoorZLBase
namespace Go.Proofs.YtinbbjfnebhlkaaDoor.P
open Go.RowKit Go.Proofs.YtinbbjfnebhlkaaDoorW.PrintWords Go.Proofs.YtinbbjfnebhlkaaDoorW.PrintLast Go.Proofs.YtinbbjfnebhlkaaDoorW.PrintMore
set_option linter.unusedVariables false
set_option linter.unusedSimpArgs false
def posL (l : List UInt8) (c : UInt8) : Nat := (l.takeWhile (fun b => !(b == c))).length
theorem posL_cons (b c : UInt8) (l : List UInt8) : posL (b :: l) c = if b = c then 0 else posL l c + 1 := by
 unfold posL
 by_cases h : b = c <;> simp [h, List.takeWhile_cons]
theorem posL_le (l : List UInt8) (c : UInt8) : posL l c ≤ l.length := by
 induction l with
 | nil => simp [posL]
 | cons b l ih => rw [posL_cons]; split <;> simp <;> omega
theorem posL_lt (l : List UInt8) (c : UInt8) : posL l c < l.length ↔ l.contains c = true := by
 induction l with
 | nil => simp [posL]
 | cons b l ih =>
  rw [posL_cons]
  by_cases h : b = c
  ·subst h; simp
  ·rw [if_neg h]
   simp only [List.length_cons, List.contains_cons]
   have : (c == b) = false := by simp; exact fun e => h e.symm
   rw [this, Bool.false_or, ← ih]
   omega
theorem indexByte_pos (l : List UInt8) (c : UInt8) : Lib.indexByte l c = if posL l c < l.length then (posL l c : Int) else -1 := by
 induction l with
 | nil => simp [Lib.indexByte, posL]
 | cons b l ih =>
  rw [posL_cons]
  unfold Lib.indexByte
  by_cases h : b = c
  ·subst h; simp
  ·have : (b == c) = false := by simpa using h
   rw [this, if_neg h, ih]
   simp only [List.length_cons, Bool.false_eq_true, if_false]
   by_cases hp : posL l c < l.length
   ·have hq : (((posL l c : Nat) : Int) == -1) = false := by rw [beqd]; exact decide_eq_false (by omega)
    rw [if_pos hp, hq, if_pos (show posL l c + 1 < l.length + 1 by omega)]
    simp
   ·rw [if_neg hp, if_neg (show ¬ posL l c + 1 < l.length + 1 by omega)]
    rfl
def cutB (s : ByteArray) (c : UInt8) : ByteArray × ByteArray × Bool :=
 if posL s.data.toList c < s.size then (s.extract 0 (posL s.data.toList c), s.extract (posL s.data.toList c + 1) s.size, true) else (s, ⟨#[]⟩, false)
theorem cut_f (s : ByteArray) (c : UInt8) (hs : s.size ≤ 140737488351232) : strings_Cut.f s ⟨#[c]⟩ = some (cutB s c) := by
 unfold strings_Cut.f stringslite_Cut.f stringslite_Index.f
 have h1 : (⟨#[c]⟩ : ByteArray).size = 1 := rfl
 have hc : (bt ⟨#[c]⟩ 0).toNat.toUInt8 = c := by
  have : bt ⟨#[c]⟩ 0 = (c.toNat : Int) := rfl
  rw [this, Int.toNat_natCast]
  simp
 have hle := posL_le s.data.toList c
 rw [← size_data] at hle
 rw [if_pos h1, hc, indexByte_pos, ← size_data]
 unfold cutB
 simp only [Option.bind_some]
 by_cases h : posL s.data.toList c < s.size
 ·rw [if_pos h, if_pos h, if_pos (by omega), if_pos (by omega), if_pos (by omega), h1]
  have hw : wrap64 (((posL s.data.toList c : Nat) : Int) + ((1 : Nat) : Int)) = ((posL s.data.toList c + 1 : Nat) : Int) := by
   rw [w64 (by omega) (by omega)]; omega
  rw [hw, if_pos (by omega), if_pos (by omega)]
  rfl
 ·rw [if_neg h, if_neg h]
  rfl
theorem split_more (s : ByteArray) (c : UInt8) (hs : s.size ≤ 2097152) (d : Nat) : ∀ (k i f : Nat) (acc : List ByteArray), s.size - i = d → d < k → f ≤ i → i ≤ s.size → acc.length ≤ i → 
  ∃ l, spec_l1Split.l0 k s (c.toNat : Int) acc (f : Int) (i : Int) = some (acc ++ l) ∧ 0 < l.length := by
 induction d with
 | zero =>
  intro k i f acc hd hk hf hi ha
  obtain ⟨k, rfl⟩ := succ_of hk
  simp only [spec_l1Split.l0]
  rw [if_neg (by omega), if_pos (by omega), if_pos (by omega), if_pos (by omega)]
  exact ⟨_, rfl, by simp⟩
 | succ d ih =>
  intro k i f acc hd hk hf hi ha
  obtain ⟨k, rfl⟩ := succ_of hk
  have hlt : i < s.size := by omega
  simp only [spec_l1Split.l0, w64_succ hlt (by omega)]
  rw [if_pos (by omega), if_pos (by omega)]
  by_cases e : bt s i = (c.toNat : Int)
  ·rw [if_pos e, if_pos (by omega), if_pos (by omega), if_pos (by omega), if_pos (by omega)]
   obtain ⟨l, h1, h2⟩ := ih k (i + 1) (i + 1) (acc ++ [s.extract (f : Int).toNat (i : Int).toNat]) (by omega) (by omega) (by omega) (by omega) (by simp; omega)
   refine ⟨s.extract (f : Int).toNat (i : Int).toNat :: l, ?_, by simp⟩
   rw [h1, List.append_assoc]
   rfl
  ·rw [if_neg e]
   exact ih k (i + 1) f acc (by omega) (by omega) (by omega) (by omega) (by omega)
theorem split_first (s : ByteArray) (c : UInt8) (hs : s.size ≤ 2097152) (d : Nat) : ∀ (k i : Nat), s.size - i = d → d < k → i ≤ s.size → i + posL (s.data.toList.drop i) c = posL s.data.toList c →
  ∃ l, spec_l1Split.l0 k s (c.toNat : Int) [] 0 (i : Int) = some (s.extract 0 (posL s.data.toList c) :: l) ∧ (l.length = 0 ↔ posL s.data.toList c = s.size) := by
 induction d with
 | zero =>
  intro k i hd hk hi hp
  obtain ⟨k, rfl⟩ := succ_of hk
  simp only [spec_l1Split.l0]
  rw [if_neg (by omega), if_pos (by omega), if_pos (by omega), if_pos (by simp)]
  have : posL (s.data.toList.drop i) c = 0 := by rw [drop_end s i (by omega)]; rfl
  have hp' : posL s.data.toList c = s.size := by omega
  refine ⟨[], ?_, by simp [hp']⟩
  rw [hp']
  rfl
 | succ d ih =>
  intro k i hd hk hi hp
  obtain ⟨k, rfl⟩ := succ_of hk
  have hlt : i < s.size := by omega
  obtain ⟨b, hb, hbt⟩ := drop_bt s i hlt
  rw [hb, posL_cons] at hp
  simp only [spec_l1Split.l0, w64_succ hlt (by omega), hbt]
  rw [if_pos (by omega), if_pos (by omega)]
  by_cases e : b = c
  ·subst e
   rw [if_pos rfl] at hp
   rw [if_pos rfl, if_pos (by omega), if_pos (by omega), if_pos (by omega), if_pos (by simp)]
   obtain ⟨l, h1, h2⟩ := split_more s b hs d k (i + 1) (i + 1) ([] ++ [s.extract (0 : Int).toNat (i : Int).toNat]) (by omega) (by omega) (by omega) (by omega) (by simp)
   refine ⟨l, ?_, ?_⟩
   ·rw [h1, ← hp]
    rfl
   ·constructor
    ·intro h; omega
    ·intro h; omega
  ·have e' : ¬ ((b.toNat : Int) = (c.toNat : Int)) := fun h => e (u8_int h)
   rw [if_neg e] at hp
   rw [if_neg e']
   exact ih k (i + 1) (by omega) (by omega) (by omega) (by omega)
theorem split_f (s : ByteArray) (c : UInt8) (hs : s.size ≤ 2097152) (k : Nat) (hk : s.size < k) :
  ∃ l, spec_l1Split.f k s (c.toNat : Int) = some (s.extract 0 (posL s.data.toList c) :: l) ∧ (l.length = 0 ↔ posL s.data.toList c = s.size) :=
 split_first s c hs s.size k 0 rfl hk (by omega) (by simp)
end Go.Proofs.YtinbbjfnebhlkaaDoor.P
