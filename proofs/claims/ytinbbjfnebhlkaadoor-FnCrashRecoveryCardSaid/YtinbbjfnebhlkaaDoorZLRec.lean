/- The program's and the reference's tests of a log's records compute one plain function of the two strings, for strings of at most 140737488351232 bytes. -/
import Derived.Lib.IndexAny
import Derived.Test.YtinbbjfnebhlkaaDoorZPx2
import Derived.Test.YtinbbjfnebhlkaaDoorZPx5
import Derived.Test.YtinbbjfnebhlkaaDoorZLBase
namespace Go.Proofs.YtinbbjfnebhlkaaDoor.P
open Go.RowKit Go.Proofs.YtinbbjfnebhlkaaDoorW.PrintWords Go.Proofs.YtinbbjfnebhlkaaDoorW.PrintLast Go.Proofs.YtinbbjfnebhlkaaDoorW.PrintMore
set_option linter.unusedVariables false
set_option linter.unusedSimpArgs false
def plainB (b : UInt8) : Bool := decide (32 ≤ (b.toNat : Int)) && decide ((b.toNat : Int) ≤ 126) && !decide ((b.toNat : Int) = 35)
theorem specPlain_l0 (s : ByteArray) (most : Int) (hs : s.size ≤ 140737488351232) (d : Nat) : ∀ (k i : Nat), s.size - i = d → d < k →
  spec_l26Plain.l0 k s most i = some ((s.data.toList.drop i).all plainB && decide ((s.size : Int) ≤ most)) := by
 induction d with
 | zero =>
  intro k i hd hk
  obtain ⟨k, rfl⟩ := succ_of hk
  simp only [spec_l26Plain.l0]
  rw [if_neg (by omega), drop_end s i (by omega)]
  simp
 | succ d ih =>
  intro k i hd hk
  obtain ⟨k, rfl⟩ := succ_of hk
  have hlt : i < s.size := by omega
  obtain ⟨b, hb, hbt⟩ := drop_bt s i hlt
  have h := ih k (i + 1) (by omega) (by omega)
  have hr := b.toNat_lt
  simp only [spec_l26Plain.l0, w64_succ hlt (by omega), h, hb, hbt, spec_l1In.f, List.all_cons]
  rw [if_pos (by omega), if_pos (by omega), w64 (x := (b.toNat : Int)) (by omega) (by omega)]
  generalize (s.data.toList.drop (i + 1)).all plainB = R
  generalize decide ((s.size : Int) ≤ most) = F
  unfold plainB
  generalize (b.toNat : Int) = c
  by_cases h1 : 32 ≤ c <;> by_cases h2 : c ≤ 126 <;> by_cases h3 : c = 35 <;> first | omega | simp [h1, h2, h3]
theorem implPlain_l0 (s : ByteArray) (hs : s.size ≤ 140737488351232) (d : Nat) : ∀ (k i : Nat), s.size - i = d → d < k →
  impl_isPlain.l0 k s i = some ((s.data.toList.drop i).all plainB) := by
 induction d with
 | zero =>
  intro k i hd hk
  obtain ⟨k, rfl⟩ := succ_of hk
  simp only [impl_isPlain.l0]
  rw [if_neg (by omega), drop_end s i (by omega)]
  simp
 | succ d ih =>
  intro k i hd hk
  obtain ⟨k, rfl⟩ := succ_of hk
  have hlt : i < s.size := by omega
  obtain ⟨b, hb, hbt⟩ := drop_bt s i hlt
  have h := ih k (i + 1) (by omega) (by omega)
  have hr := b.toNat_lt
  simp only [impl_isPlain.l0, w64_succ hlt (by omega), h, hb, hbt, List.all_cons]
  rw [if_pos (by omega), if_pos (by omega)]
  generalize (s.data.toList.drop (i + 1)).all plainB = R
  unfold plainB
  generalize (b.toNat : Int) = c
  by_cases h1 : c < 32 <;> by_cases h2 : c > 126 <;> by_cases h3 : c = 35 <;> first | omega | (simp [h1, h2, h3]; done) | (simp [h1, h2, h3]; omega)
theorem stands_l0 (s : ByteArray) (c : UInt8) (hs : s.size ≤ 140737488351232) (d : Nat) : ∀ (k i : Nat), s.size - i = d → d < k →
  spec_l1Stands.l0 k s (c.toNat : Int) i = some ((s.data.toList.drop i).contains c) := by
 induction d with
 | zero =>
  intro k i hd hk
  obtain ⟨k, rfl⟩ := succ_of hk
  simp only [spec_l1Stands.l0]
  rw [if_neg (by omega), drop_end s i (by omega)]
  simp
 | succ d ih =>
  intro k i hd hk
  obtain ⟨k, rfl⟩ := succ_of hk
  have hlt : i < s.size := by omega
  obtain ⟨b, hb, hbt⟩ := drop_bt s i hlt
  have h := ih k (i + 1) (by omega) (by omega)
  simp only [spec_l1Stands.l0, w64_succ hlt (by omega), h, hb, hbt, List.contains_cons]
  rw [if_pos (by omega), if_pos (by omega)]
  by_cases e : b = c
  ·subst e
   simp
  ·have e' : ¬ ((b.toNat : Int) = (c.toNat : Int)) := fun h => e (u8_int h)
   rw [if_neg e']
   have : (c == b) = false := by simp; exact fun h => e h.symm
   simp [this]
def plain (s : ByteArray) : Bool := s.data.toList.all plainB
theorem specPlain (s : ByteArray) (most : Int) (hs : s.size ≤ 140737488351232) (k : Nat) (hk : s.size < k) : spec_l26Plain.f k s most = some (plain s && decide ((s.size : Int) ≤ most)) :=
 specPlain_l0 s most hs s.size k 0 rfl hk
theorem implPlain (s : ByteArray) (hs : s.size ≤ 140737488351232) (k : Nat) (hk : s.size < k) : impl_isPlain.f k s = some (plain s) :=
 implPlain_l0 s hs s.size k 0 rfl hk
theorem specStands (s : ByteArray) (c : UInt8) (hs : s.size ≤ 140737488351232) (k : Nat) (hk : s.size < k) : spec_l1Stands.f k s (c.toNat : Int) = some (s.data.toList.contains c) :=
 stands_l0 s c hs s.size k 0 rfl hk
theorem contains_f (s : ByteArray) (c : UInt8) : strings_Contains.f s ⟨#[c]⟩ = some (s.data.toList.contains c) := by
 unfold strings_Contains.f strings_Index.f stringslite_Index.f
 have h1 : (⟨#[c]⟩ : ByteArray).size = 1 := rfl
 have hc : (bt ⟨#[c]⟩ 0).toNat.toUInt8 = c := by
  have : bt ⟨#[c]⟩ 0 = (c.toNat : Int) := rfl
  rw [this, Int.toNat_natCast]
  simp
 rw [if_pos h1, hc]
 simp only [Option.bind_some, Lib.contains_iff_indexByte]
def goodRec (c r : ByteArray) : Bool := decide (1 ≤ c.size) && decide (c.size ≤ 160) && decide (r.size ≤ 200) && plain c && plain r && !c.data.toList.contains 64
theorem toList_empty (s : ByteArray) : s.toList = [] ↔ s.size = 0 := by
 rw [Go.ByteArray.toList_eq]
 constructor
 ·intro h; rw [size_data, h]; rfl
 ·intro h; rw [size_data] at h; exact List.eq_nil_of_length_eq_zero h
theorem specGood (c r : ByteArray) (hc : c.size ≤ 140737488351232) (hr : r.size ≤ 140737488351232) (k : Nat) (h1 : c.size < k) (h2 : r.size < k) : spec_l26Good.f k c r = some (goodRec c r) := by
 unfold spec_l26Good.f
 have s64 := specStands c 64 hc k h1
 have e64 : (((64 : UInt8).toNat : Nat) : Int) = 64 := rfl
 rw [e64] at s64
 rw [specPlain c 160 hc k h1, specPlain r 200 hr k h2, s64]
 unfold goodRec
 by_cases e : c.size = 0
 ·rw [if_pos ((toList_empty c).2 e)]
  simp [e]
 ·rw [if_neg (fun h => e ((toList_empty c).1 h))]
  have g1 : decide (1 ≤ c.size) = true := by simp; omega
  have g2 : decide ((c.size : Int) ≤ 160) = decide (c.size ≤ 160) := by apply decide_eq_decide.2; omega
  have g3 : decide ((r.size : Int) ≤ 200) = decide (r.size ≤ 200) := by apply decide_eq_decide.2; omega
  rw [g1, g2, g3]
  simp only [Option.bind_some, Bool.true_and]
  generalize decide (c.size ≤ 160) = A
  generalize decide (r.size ≤ 200) = B
  generalize plain c = C
  generalize plain r = D
  generalize c.data.toList.contains 64 = E
  cases A <;> cases B <;> cases C <;> cases D <;> cases E <;> rfl
theorem implGood (c r : ByteArray) (hc : c.size ≤ 140737488351232) (hr : r.size ≤ 140737488351232) (k : Nat) (h1 : c.size < k) (h2 : r.size < k) : impl_IsValidRecord.f k c r = some (goodRec c r) := by
 unfold impl_IsValidRecord.f impl_inside.f
 rw [implPlain c hc k h1, implPlain r hr k h2, contains_f c 64]
 unfold goodRec
 by_cases g1 : 1 ≤ c.size
 ·rw [if_pos (by omega)]
  have g2 : decide ((c.size : Int) ≤ 160) = decide (c.size ≤ 160) := by apply decide_eq_decide.2; omega
  rw [g2]
  have g1' : decide (1 ≤ c.size) = true := by simpa using g1
  rw [g1']
  simp only [Option.bind_some, Bool.true_and]
  by_cases g3 : r.size ≤ 200
  ·rw [if_pos (show (r.size : Int) ≤ 200 by omega)]
   have g3' : decide (r.size ≤ 200) = true := by simpa using g3
   rw [g3']
   generalize decide (c.size ≤ 160) = A
   generalize plain c = C
   generalize plain r = D
   generalize c.data.toList.contains 64 = E
   cases A <;> cases C <;> cases D <;> cases E <;> rfl
  ·rw [if_neg (show ¬ (r.size : Int) ≤ 200 by omega)]
   have g3' : decide (r.size ≤ 200) = false := by simpa using g3
   rw [g3']
   simp
 ·rw [if_neg (by omega)]
  have g1' : decide (1 ≤ c.size) = false := by simpa using g1
  rw [g1']
  simp
end Go.Proofs.YtinbbjfnebhlkaaDoor.P
