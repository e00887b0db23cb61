/- The program's and the reference's tests for an identifier of a kind compute one plain function, for strings of at most 2097152 bytes and kinds 1 to 4. -/
import Derived.Test.YtpnjnlcjofaglaaDoorZPx1
import Derived.Test.YtpnjnlcjofaglaaDoorZPx2
import Derived.Test.YtpnjnlcjofaglaaDoorZPx3
import Derived.Test.YtpnjnlcjofaglaaDoorZLBase
namespace Go.Proofs.YtpnjnlcjofaglaaDoor.P
open Go.RowKit Go.Proofs.YtpnjnlcjofaglaaDoorW.PrintWords Go.Proofs.YtpnjnlcjofaglaaDoorW.PrintLast Go.Proofs.YtpnjnlcjofaglaaDoorW.PrintMore
set_option linter.unusedVariables false
set_option linter.unusedSimpArgs false
def idLen (kind : Int) : Int := if kind = 1 then 10 else if kind = 2 then 13 else if kind = 3 then 8 else if kind = 4 then 16 else 0
def isDg (c : Int) : Bool := decide (48 ≤ c) && decide (c ≤ 57)
def idAt (kind : Int) (s : ByteArray) (i : Int) : Bool := isDg (bt s i) || (decide (bt s i = 88) && decide (i = (s.size : Int) - 1) && !decide (kind = 2))
def idFrom (kind : Int) (s : ByteArray) : Int → Nat → Bool
 | _, 0 => true
 | i, d + 1 => idAt kind s i && idFrom kind s (i + 1) d
def idFin (kind : Int) (s : ByteArray) : Bool := decide (1 ≤ kind) && decide (kind ≤ 4) && decide ((s.size : Int) = idLen kind)
def idForm (kind : Int) (s : ByteArray) : Bool := idFrom kind s 0 s.size && idFin kind s
def idVal (c : Int) : Int := if c = 88 then 10 else c - 48
theorem specForm_fin (kind : Int) (s : ByteArray) :
  (if kind ≥ 1 then (if kind ≤ 4 then ((spec_l24Length.f kind).bind fun t => (some ((s.size : Int) == t))) else (some false)) else (some false)) = some (idFin kind s) := by
 unfold spec_l24Length.f idFin idLen
 by_cases h1 : 1 ≤ kind
 ·by_cases h2 : kind ≤ 4
  ·have : kind = 1 ∨ kind = 2 ∨ kind = 3 ∨ kind = 4 := by omega
   rcases this with rfl | rfl | rfl | rfl <;> simp [beqd]
  ·simp [h1, h2]
 ·simp [h1]
theorem specForm_l0 (kind : Int) (s : ByteArray) (hs : s.size ≤ 2097152) (d : Nat) : ∀ (k : Nat) (i : Int), 0 ≤ i → (s.size : Int) - i = d → d < k →
  spec_l24Form.l0 k kind s i = some (idFrom kind s i d && idFin kind s) := by
 induction d with
 | zero =>
  intro k i h0 hd hk
  obtain ⟨k, rfl⟩ := succ_of hk
  simp only [spec_l24Form.l0]
  rw [if_neg (by omega), specForm_fin]
  simp [idFrom]
 | succ d ih =>
  intro k i h0 hd hk
  obtain ⟨k, rfl⟩ := succ_of hk
  have hw : wrap64 ((s.size : Int) - 1) = (s.size : Int) - 1 := w64 (by omega) (by omega)
  have hw1 : wrap64 (i + 1) = i + 1 := w64 (by omega) (by omega)
  have h := ih k (i + 1) (by omega) (by omega) (by omega)
  simp only [spec_l24Form.l0, hw, hw1, h, idFrom, idAt, isDg]
  simp only [if_pos (show i < (s.size : Int) by omega), if_pos h0]
  clear h ih hk hd
  generalize (idFrom kind s (i + 1) d) = R
  generalize (idFin kind s) = F
  unfold spec_l6Digit.f
  generalize bt s i = c
  by_cases h1 : 48 ≤ c <;> by_cases h2 : c ≤ 57 <;> by_cases h3 : c = 88 <;> by_cases h4 : i = (s.size : Int) - 1 <;> by_cases h5 : kind = 2 <;>
   first | omega | simp [h1, h2, h3, h4, h5]
theorem specForm_f (kind : Int) (s : ByteArray) (hs : s.size ≤ 2097152) (k : Nat) (hk : s.size < k) : spec_l24Form.f k kind s = some (idForm kind s) :=
 specForm_l0 kind s hs s.size k 0 (by omega) (by omega) hk
theorem implText_l0 (kind : Int) (s : ByteArray) (hs : s.size ≤ 2097152) (d : Nat) : ∀ (k : Nat) (i : Int), 0 ≤ i → (s.size : Int) - i = d → d < k →
  impl_isIdText.l0 k kind s i = some (idFrom kind s i d) := by
 induction d with
 | zero =>
  intro k i h0 hd hk
  obtain ⟨k, rfl⟩ := succ_of hk
  simp only [impl_isIdText.l0]
  rw [if_neg (by omega)]
  simp [idFrom]
 | succ d ih =>
  intro k i h0 hd hk
  obtain ⟨k, rfl⟩ := succ_of hk
  have hw : wrap64 ((s.size : Int) - 1) = (s.size : Int) - 1 := w64 (by omega) (by omega)
  have hw1 : wrap64 (i + 1) = i + 1 := w64 (by omega) (by omega)
  have h := ih k (i + 1) (by omega) (by omega) (by omega)
  simp only [impl_isIdText.l0, hw, hw1, h, idFrom, idAt, isDg]
  simp only [if_pos (show i < (s.size : Int) by omega), if_pos h0]
  clear h ih hk hd
  generalize (idFrom kind s (i + 1) d) = R
  unfold impl_isDigit.f
  generalize bt s i = c
  by_cases h1 : 48 ≤ c <;> by_cases h2 : c ≤ 57 <;> by_cases h3 : c = 88 <;> by_cases h4 : i = (s.size : Int) - 1 <;> by_cases h5 : kind = 2 <;>
   first | omega | simp [h1, h2, h3, h4, h5]
theorem implText_f (kind : Int) (s : ByteArray) (hs : s.size ≤ 2097152) (h1 : 1 ≤ kind) (h4 : kind ≤ 4) (k : Nat) (hk : s.size < k) : impl_isIdText.f k kind s = some (idForm kind s) := by
 have hl := implText_l0 kind s hs s.size k 0 (by omega) (by omega) hk
 unfold impl_isIdText.f impl_idLength.f idForm idFin idLen
 have : kind = 1 ∨ kind = 2 ∨ kind = 3 ∨ kind = 4 := by omega
 rcases this with rfl | rfl | rfl | rfl <;> simp [hl] <;> split <;> simp_all
theorem specVal (s : ByteArray) (i : Int) : spec_l24Value.f (bt s i) = some (idVal (bt s i)) := by
 have := bt_ge s i
 have := bt_le s i
 unfold spec_l24Value.f idVal
 rw [w64 (x := bt s i) (by omega) (by omega), w64 (x := bt s i - 48) (by omega) (by omega)]
 split <;> rfl
theorem idVal_range {kind : Int} {s : ByteArray} {i : Int} (h : idAt kind s i = true) : 0 ≤ idVal (bt s i) ∧ idVal (bt s i) ≤ 10 := by
 unfold idAt isDg at h
 unfold idVal
 split
 ·omega
 ·simp at h
  omega
theorem implVal {kind : Int} {s : ByteArray} {i : Int} (h : idAt kind s i = true) : impl_valueOf.f (bt s i) = some (idVal (bt s i)) := by
 unfold idAt isDg at h
 unfold impl_valueOf.f idVal
 by_cases e : bt s i = 88
 ·simp [e]
 ·simp [e] at h ⊢
  omega
theorem idFrom_at {kind : Int} {s : ByteArray} {d : Nat} : ∀ {i : Int}, idFrom kind s i d = true → ∀ j : Int, i ≤ j → j < i + d → idAt kind s j = true := by
 induction d with
 | zero => intro i _ j h1 h2; omega
 | succ d ih =>
  intro i h j h1 h2
  simp only [idFrom, Bool.and_eq_true] at h
  by_cases e : j = i
  ·rw [e]; exact h.1
  ·exact ih h.2 j (by omega) (by omega)
theorem idForm_at {kind : Int} {s : ByteArray} (h : idForm kind s = true) (j : Int) (h1 : 0 ≤ j) (h2 : j < s.size) : idAt kind s j = true := by
 unfold idForm at h
 simp only [Bool.and_eq_true] at h
 exact idFrom_at h.1 j h1 (by omega)
theorem idForm_size {kind : Int} {s : ByteArray} (h : idForm kind s = true) : (s.size : Int) = idLen kind ∧ 1 ≤ kind ∧ kind ≤ 4 := by
 unfold idForm idFin at h
 simp only [Bool.and_eq_true, decide_eq_true_eq] at h
 exact ⟨h.2.2, h.2.1.1, h.2.1.2⟩
theorem idLen_le (kind : Int) : 0 ≤ idLen kind ∧ idLen kind ≤ 16 := by
 unfold idLen
 repeat' split
 all_goals omega
def altFrom (s : ByteArray) : Int → Nat → Int → Int
 | _, 0, a => a
 | i, d + 1, a => altFrom s (i + 1) d (a + idVal (bt s i) * (1 + i % 2 * 2))
def perFrom (s : ByteArray) : Int → Nat → Int → Int
 | _, 0, a => a
 | i, d + 1, a => perFrom s (i + 1) d (2 * (a + idVal (bt s i)) % 11)
def wtdFrom (s : ByteArray) : Int → Nat → Int → Int
 | _, 0, a => a
 | i, d + 1, a => wtdFrom s (i + 1) d (a + idVal (bt s i) * ((s.size : Int) - i))
def per15 (s : ByteArray) : Int := (12 - perFrom s 0 15 0) % 11
def pre978 (s : ByteArray) : Bool := (s.extract 0 3).toList == ([57, 55, 56] : List UInt8)
def pre979 (s : ByteArray) : Bool := (s.extract 0 3).toList == ([57, 55, 57] : List UInt8)
def isId (kind : Int) (s : ByteArray) : Bool :=
 idForm kind s && (if kind = 2 then (pre978 s || pre979 s) && (altFrom s 0 s.size 0 % 10 == 0)
  else if kind = 4 then (per15 s == idVal (bt s 15)) else (wtdFrom s 0 s.size 0 % 11 == 0))
theorem tmod_of {a b : Int} (h : 0 ≤ a) : Int.tmod a b = a % b := Int.tmod_eq_emod_of_nonneg h
theorem specAlt_l0 (kind : Int) (s : ByteArray) (hs : s.size ≤ 16) (hf : idForm kind s = true) (d : Nat) : ∀ (k : Nat) (i a : Int), 0 ≤ i → (s.size : Int) - i = d → d < k → 0 ≤ a → a ≤ 30 * i →
  spec_l24Alternate.l0 k s a i = some (altFrom s i d a) ∧ 0 ≤ altFrom s i d a := by
 induction d with
 | zero =>
  intro k i a h0 hd hk ha hb
  obtain ⟨k, rfl⟩ := succ_of hk
  simp only [spec_l24Alternate.l0]
  rw [if_neg (by omega)]
  exact ⟨rfl, ha⟩
 | succ d ih =>
  intro k i a h0 hd hk ha hb
  obtain ⟨k, rfl⟩ := succ_of hk
  have hv := idVal_range (idForm_at hf i h0 (by omega))
  simp only [spec_l24Alternate.l0, specVal]
  rw [if_pos (show i < (s.size : Int) by omega), if_pos h0]
  simp only [Option.bind_some]
  rw [tmod_of h0]
  have e1 : wrap64 (i % 2 * 2) = i % 2 * 2 := w64 (by omega) (by omega)
  have e2 : wrap64 (1 + i % 2 * 2) = 1 + i % 2 * 2 := w64 (by omega) (by omega)
  have e3 : wrap64 (i + 1) = i + 1 := w64 (by omega) (by omega)
  rw [e1, e2, e3]
  have hm : 0 ≤ idVal (bt s i) * (1 + i % 2 * 2) ∧ idVal (bt s i) * (1 + i % 2 * 2) ≤ 30 := by
   have : i % 2 = 0 ∨ i % 2 = 1 := by omega
   rcases this with e | e <;> rw [e] <;> omega
  rw [w64 (x := idVal (bt s i) * (1 + i % 2 * 2)) (by omega) (by omega), w64 (x := a + idVal (bt s i) * (1 + i % 2 * 2)) (by omega) (by omega)]
  exact ih k (i + 1) _ (by omega) (by omega) (by omega) (by omega) (by omega)
theorem specPer_l0 (kind : Int) (s : ByteArray) (hs : s.size ≤ 16) (n : Nat) (hn : n ≤ s.size) (hf : idForm kind s = true) (d : Nat) : ∀ (k : Nat) (i a : Int), 0 ≤ i → (n : Int) - i = d → d < k → 0 ≤ a → a ≤ 10 →
  spec_l24Person.l0 k (s.extract 0 n) a i = some ((12 - perFrom s i d a) % 11) ∧ 0 ≤ perFrom s i d a ∧ perFrom s i d a ≤ 10 := by
 have hz : (s.extract 0 n).size = n := by rw [ByteArray.size_extract]; omega
 have hb := bt_extract s n hn
 induction d with
 | zero =>
  intro k i a h0 hd hk ha hb
  obtain ⟨k, rfl⟩ := succ_of hk
  simp only [spec_l24Person.l0, hz]
  rw [if_neg (by omega), w64 (x := 12 - a) (by omega) (by omega), tmod_of (by omega)]
  exact ⟨rfl, ha, hb⟩
 | succ d ih =>
  intro k i a h0 hd hk ha hb'
  obtain ⟨k, rfl⟩ := succ_of hk
  have hv := idVal_range (idForm_at hf i h0 (by omega))
  simp only [spec_l24Person.l0, hz, specVal]
  rw [if_pos (show i < (n : Int) by omega), if_pos h0]
  simp only [Option.bind_some]
  rw [hb i h0 (by omega)]
  have e3 : wrap64 (i + 1) = i + 1 := w64 (by omega) (by omega)
  rw [e3, w64 (x := a + idVal (bt s i)) (by omega) (by omega), w64 (x := 2 * (a + idVal (bt s i))) (by omega) (by omega), tmod_of (by omega)]
  exact ih k (i + 1) _ (by omega) (by omega) (by omega) (by omega) (by omega)
theorem mul_le_of {a b A B : Int} (h0 : 0 ≤ a) (h1 : a ≤ A) (h2 : 0 ≤ b) (h3 : b ≤ B) : 0 ≤ a * b ∧ a * b ≤ A * B :=
 ⟨Int.mul_nonneg h0 h2, Int.mul_le_mul h1 h3 h2 (by omega)⟩
theorem specWtd_l0 (kind : Int) (s : ByteArray) (hs : s.size ≤ 16) (hf : idForm kind s = true) (d : Nat) : ∀ (k : Nat) (i a : Int), 0 ≤ i → (s.size : Int) - i = d → d < k → 0 ≤ a → a ≤ 160 * i →
  spec_l24Weighted.l0 k s a i = some (wtdFrom s i d a) ∧ 0 ≤ wtdFrom s i d a := by
 induction d with
 | zero =>
  intro k i a h0 hd hk ha hb
  obtain ⟨k, rfl⟩ := succ_of hk
  simp only [spec_l24Weighted.l0]
  rw [if_neg (by omega)]
  exact ⟨rfl, ha⟩
 | succ d ih =>
  intro k i a h0 hd hk ha hb
  obtain ⟨k, rfl⟩ := succ_of hk
  have hv := idVal_range (idForm_at hf i h0 (by omega))
  simp only [spec_l24Weighted.l0, specVal]
  rw [if_pos (show i < (s.size : Int) by omega), if_pos h0]
  simp only [Option.bind_some]
  have e1 : wrap64 ((s.size : Int) - i) = (s.size : Int) - i := w64 (by omega) (by omega)
  have e3 : wrap64 (i + 1) = i + 1 := w64 (by omega) (by omega)
  rw [e1, e3]
  have hm := mul_le_of hv.1 hv.2 (show 0 ≤ (s.size : Int) - i by omega) (show (s.size : Int) - i ≤ 16 by omega)
  rw [w64 (x := idVal (bt s i) * ((s.size : Int) - i)) (by omega) (by omega), w64 (x := a + idVal (bt s i) * ((s.size : Int) - i)) (by omega) (by omega)]
  exact ih k (i + 1) _ (by omega) (by omega) (by omega) (by omega) (by omega)
theorem specIs (kind : Int) (s : ByteArray) (hs : s.size ≤ 2097152) (k : Nat) (hk : s.size + 20 < k) : spec_l24Is.f k kind s = some (isId kind s) := by
 unfold spec_l24Is.f
 rw [specForm_f kind s hs k (by omega)]
 simp only [Option.bind_some]
 cases hf : idForm kind s with
 | false => simp [isId, hf]
 | true =>
  obtain ⟨hz, h1, h4⟩ := idForm_size hf
  have hl := idLen_le kind
  have hs16 : s.size ≤ 16 := by omega
  rw [if_pos rfl]
  unfold isId
  rw [hf, Bool.true_and]
  by_cases e2 : kind = 2
  ·subst e2
   have hz' : (s.size : Int) = 13 := hz
   have ha := specAlt_l0 2 s hs16 hf s.size k 0 0 (by omega) (by omega) (by omega) (by omega) (by omega)
   rw [if_pos rfl, if_pos rfl, if_pos (by omega), if_pos (by omega)]
   unfold spec_l24Alternate.f
   rw [ha.1]
   simp only [Option.bind_some, tmod_of ha.2]
   unfold pre978 pre979
   by_cases p1 : (s.extract 0 3).toList = ([57, 55, 56] : List UInt8)
   ·rw [if_pos p1, p1]; simp
   ·rw [if_neg p1]
    by_cases p2 : (s.extract 0 3).toList = ([57, 55, 57] : List UInt8)
    ·rw [if_pos p2, p2]; simp
    ·rw [if_neg p2]
     have q1 : ((s.extract 0 3).toList == ([57, 55, 56] : List UInt8)) = false := beq_eq_false_iff_ne.mpr p1
     have q2 : ((s.extract 0 3).toList == ([57, 55, 57] : List UInt8)) = false := beq_eq_false_iff_ne.mpr p2
     simp [q1, q2]
  ·rw [if_neg e2, if_neg e2]
   by_cases e4 : kind = 4
   ·subst e4
    have hz' : (s.size : Int) = 16 := hz
    rw [if_pos rfl, if_pos rfl, if_pos (by omega), if_pos (by omega)]
    have hp := specPer_l0 4 s hs16 15 (by omega) hf 15 k 0 0 (by omega) (by omega) (by omega) (by omega) (by omega)
    unfold spec_l24Person.f
    rw [hp.1]
    simp only [Option.bind_some, specVal]
    rw [if_pos (by omega)]
    rfl
   ·rw [if_neg e4, if_neg e4]
    have hw := specWtd_l0 kind s hs16 hf s.size k 0 0 (by omega) (by omega) (by omega) (by omega) (by omega)
    unfold spec_l24Weighted.f
    rw [hw.1]
    simp only [Option.bind_some, tmod_of hw.2]
theorem implAlt_l0 (kind : Int) (s : ByteArray) (hz : s.size = 13) (hf : idForm kind s = true) (d : Nat) : ∀ (k : Nat) (i a : Int), 0 ≤ i → (s.size : Int) - i = d → d < k → 0 ≤ a → a ≤ 30 * i →
  impl_isIdentifier.l0 k s a (s.size : Int) i = some ((pre978 s || pre979 s) && (altFrom s i d a % 10 == 0)) := by
 induction d with
 | zero =>
  intro k i a h0 hd hk ha hb
  obtain ⟨k, rfl⟩ := succ_of hk
  have c3 : (((⟨#[57, 55, 56]⟩ : ByteArray).size : Int)) = 3 := rfl
  have c4 : (((⟨#[57, 55, 57]⟩ : ByteArray).size : Int)) = 3 := rfl
  have b3 : (⟨#[57, 55, 56]⟩ : ByteArray).toList = [57, 55, 56] := by decide +kernel
  have b4 : (⟨#[57, 55, 57]⟩ : ByteArray).toList = [57, 55, 57] := by decide +kernel
  simp only [impl_isIdentifier.l0]
  rw [if_neg (by omega), tmod_of ha]
  unfold strings_HasPrefix.f stringslite_HasPrefix.f
  rw [c3, c4, b3, b4]
  have g3 : (s.size : Int) ≥ 3 := by omega
  have g4 : (3 : Int) ≤ (s.size : Int) := by omega
  simp only [altFrom, pre978, pre979, show Int.toNat 3 = 3 from rfl, if_pos g3, if_pos g4, if_pos (show (0 : Int) ≤ 3 by omega), Option.bind_some]
  generalize ((s.extract 0 3).toList == ([57, 55, 56] : List UInt8)) = A
  generalize ((s.extract 0 3).toList == ([57, 55, 57] : List UInt8)) = B
  by_cases e : a % 10 = 0 <;> cases A <;> simp [e]
 | succ d ih =>
  intro k i a h0 hd hk ha hb
  obtain ⟨k, rfl⟩ := succ_of hk
  have hg := idForm_at hf i h0 (by omega)
  have hv := idVal_range hg
  simp only [impl_isIdentifier.l0, implVal hg]
  rw [if_pos (show i < (s.size : Int) by omega), if_pos h0]
  simp only [Option.bind_some]
  rw [tmod_of h0, if_pos (show i < (s.size : Int) by omega)]
  have e1 : wrap64 (i % 2 * 2) = i % 2 * 2 := w64 (by omega) (by omega)
  have e2 : wrap64 (1 + i % 2 * 2) = 1 + i % 2 * 2 := w64 (by omega) (by omega)
  have e3 : wrap64 (i + 1) = i + 1 := w64 (by omega) (by omega)
  rw [e1, e2, e3]
  have hm : 0 ≤ idVal (bt s i) * (1 + i % 2 * 2) ∧ idVal (bt s i) * (1 + i % 2 * 2) ≤ 30 := by
   have : i % 2 = 0 ∨ i % 2 = 1 := by omega
   rcases this with e | e <;> rw [e] <;> omega
  rw [w64 (x := idVal (bt s i) * (1 + i % 2 * 2)) (by omega) (by omega), w64 (x := a + idVal (bt s i) * (1 + i % 2 * 2)) (by omega) (by omega)]
  exact ih k (i + 1) _ (by omega) (by omega) (by omega) (by omega) (by omega)
theorem implPer_l1 (kind : Int) (s : ByteArray) (hz : s.size = 16) (hf : idForm kind s = true) (d : Nat) : ∀ (k : Nat) (i a : Int), 0 ≤ i → 15 - i = d → d < k → 0 ≤ a → a ≤ 10 →
  impl_isIdentifier.l1 k s a 15 15 i = some (((12 - perFrom s i d a) % 11 == idVal (bt s 15))) := by
 induction d with
 | zero =>
  intro k i a h0 hd hk ha hb
  obtain ⟨k, rfl⟩ := succ_of hk
  have hg := idForm_at hf 15 (by omega) (by omega)
  simp only [impl_isIdentifier.l1, implVal hg]
  rw [if_neg (by omega), if_pos (by omega), if_pos (by omega), w64 (x := 12 - a) (by omega) (by omega), tmod_of (by omega)]
  simp only [Option.bind_some, perFrom, Option.some.injEq]
  exact Bool.beq_comm
 | succ d ih =>
  intro k i a h0 hd hk ha hb
  obtain ⟨k, rfl⟩ := succ_of hk
  have hg := idForm_at hf i h0 (by omega)
  have hv := idVal_range hg
  simp only [impl_isIdentifier.l1, implVal hg]
  rw [if_pos (show i < 15 by omega), if_pos h0, if_pos (show i < (s.size : Int) by omega)]
  simp only [Option.bind_some]
  have e3 : wrap64 (i + 1) = i + 1 := w64 (by omega) (by omega)
  rw [e3, w64 (x := a + idVal (bt s i)) (by omega) (by omega), w64 (x := 2 * (a + idVal (bt s i))) (by omega) (by omega), tmod_of (by omega)]
  exact ih k (i + 1) _ (by omega) (by omega) (by omega) (by omega) (by omega)
theorem implWtd_l2 (kind : Int) (s : ByteArray) (hs : s.size ≤ 16) (hf : idForm kind s = true) (d : Nat) : ∀ (k : Nat) (i a : Int), 0 ≤ i → (s.size : Int) - i = d → d < k → 0 ≤ a → a ≤ 160 * i →
  impl_isIdentifier.l2 k s a (s.size : Int) i = some ((wtdFrom s i d a % 11 == 0)) := by
 induction d with
 | zero =>
  intro k i a h0 hd hk ha hb
  obtain ⟨k, rfl⟩ := succ_of hk
  simp only [impl_isIdentifier.l2]
  rw [if_neg (by omega), tmod_of ha]
  rfl
 | succ d ih =>
  intro k i a h0 hd hk ha hb
  obtain ⟨k, rfl⟩ := succ_of hk
  have hg := idForm_at hf i h0 (by omega)
  have hv := idVal_range hg
  simp only [impl_isIdentifier.l2, implVal hg]
  rw [if_pos (show i < (s.size : Int) by omega), if_pos h0, if_pos (show i < (s.size : Int) by omega)]
  simp only [Option.bind_some]
  have e1 : wrap64 ((s.size : Int) - i) = (s.size : Int) - i := w64 (by omega) (by omega)
  have e3 : wrap64 (i + 1) = i + 1 := w64 (by omega) (by omega)
  rw [e1, e3]
  have hm := mul_le_of hv.1 hv.2 (show 0 ≤ (s.size : Int) - i by omega) (show (s.size : Int) - i ≤ 16 by omega)
  rw [w64 (x := idVal (bt s i) * ((s.size : Int) - i)) (by omega) (by omega), w64 (x := a + idVal (bt s i) * ((s.size : Int) - i)) (by omega) (by omega)]
  exact ih k (i + 1) _ (by omega) (by omega) (by omega) (by omega) (by omega)
theorem implIs (kind : Int) (s : ByteArray) (hs : s.size ≤ 2097152) (h1 : 1 ≤ kind) (h4 : kind ≤ 4) (k : Nat) (hk : s.size + 20 < k) : impl_isIdentifier.f k kind s = some (isId kind s) := by
 unfold impl_isIdentifier.f
 rw [implText_f kind s hs h1 h4 k (by omega)]
 simp only [Option.bind_some]
 cases hf : idForm kind s with
 | false => simp [isId, hf]
 | true =>
  obtain ⟨hz, _, _⟩ := idForm_size hf
  have hl := idLen_le kind
  have hs16 : s.size ≤ 16 := by omega
  rw [if_pos rfl]
  unfold isId
  rw [hf, Bool.true_and]
  by_cases e2 : kind = 2
  ·subst e2
   have hz' : (s.size : Int) = 13 := hz
   rw [if_pos rfl, if_pos rfl]
   exact implAlt_l0 2 s (by omega) hf s.size k 0 0 (by omega) (by omega) (by omega) (by omega) (by omega)
  ·rw [if_neg e2, if_neg e2]
   by_cases e4 : kind = 4
   ·subst e4
    have hz' : (s.size : Int) = 16 := hz
    rw [if_pos rfl, if_pos rfl, w64 (x := (s.size : Int) - 1) (by omega) (by omega), show (s.size : Int) - 1 = 15 by omega]
    exact implPer_l1 4 s (by omega) hf 15 k 0 0 (by omega) (by omega) (by omega) (by omega) (by omega)
   ·rw [if_neg e4, if_neg e4]
    exact implWtd_l2 kind s hs16 hf s.size k 0 0 (by omega) (by omega) (by omega) (by omega) (by omega)
theorem isId_form {kind : Int} {s : ByteArray} (h : isId kind s = true) : idForm kind s = true := by
 unfold isId at h
 simp only [Bool.and_eq_true] at h
 exact h.1
end Go.Proofs.YtpnjnlcjofaglaaDoor.P
