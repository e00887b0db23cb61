/- The program's and the reference's completion of an identifier try the same last characters, and of digits of the right length there is a completion for ten- and thirteen-digit identifiers; for strings of at most 2097152 bytes. -/
import Derived.Lib.ItoaNum
import Derived.Test.YtpnjnlcjofaglaaDoorZPx4
import Derived.Test.YtpnjnlcjofaglaaDoorZLBase
import Derived.Test.YtpnjnlcjofaglaaDoorZLIdent
import Derived.Test.YtpnjnlcjofaglaaDoorZLLastB
namespace Go.Proofs.YtpnjnlcjofaglaaDoor.P
open Go.RowKit Go.Proofs.YtpnjnlcjofaglaaDoorW.PrintWords Go.Proofs.YtpnjnlcjofaglaaDoorW.PrintLast Go.Proofs.YtpnjnlcjofaglaaDoorW.PrintMore
set_option linter.unusedVariables false
set_option linter.unusedSimpArgs false
theorem decDigits_small (n : Nat) (h : n < 10) : Lib.decDigits n = [UInt8.ofNat (48 + n)] := by
 rw [Lib.decDigits, dif_pos h]
theorem itoa_last (v : Nat) (h : v < 10) : (⟨(Lib.itoa (v : Int)).toArray⟩ : ByteArray) = lastB v := by
 unfold Lib.itoa lastB
 rw [if_neg (by omega), if_pos h, Int.toNat_natCast, decDigits_small v h]
theorem bt_append_left (s t : ByteArray) (i : Int) (h0 : 0 ≤ i) (h1 : i < s.size) : bt (s ++ t) i = bt s i := by
 unfold bt
 rw [dif_pos (by rw [ByteArray.size_append]; omega), dif_pos (by omega)]
 rw [ByteArray.getElem_append_left (by omega)]
theorem bt_append_right (s t : ByteArray) (j : Nat) (h1 : j < t.size) : bt (s ++ t) ((s.size : Int) + j) = bt t j := by
 unfold bt
 rw [dif_pos (by rw [ByteArray.size_append]; omega), dif_pos (by omega)]
 rw [ByteArray.getElem_append_right (by omega)]
 congr 3
 omega
theorem bt_last (s : ByteArray) (v : Nat) (h : v < 11) : bt (s ++ lastB v) (s.size : Int) = if v < 10 then 48 + (v : Int) else 88 := by
 have := bt_append_right s (lastB v) 0 (by rw [lastB_size]; omega)
 simp only [Int.natCast_zero, Int.add_zero] at this
 rw [this]
 unfold lastB
 split
 ·rename_i h10
  show ((UInt8.ofNat (48 + v)).toNat : Int) = _
  rw [UInt8.toNat_ofNat_of_lt' (by show 48 + v < 256; omega)]
  omega
 ·rfl
theorem idVal_last (s : ByteArray) (v : Nat) (h : v < 11) : idVal (bt (s ++ lastB v) (s.size : Int)) = v := by
 rw [bt_last s v h]
 unfold idVal
 split
 ·rw [if_neg (by omega)]; omega
 ·rw [if_pos rfl]; omega
def compl (kind : Int) (s : ByteArray) : Nat → Nat → Option ByteArray
 | _, 0 => none
 | v, d + 1 => if isId kind (s ++ lastB v) = true then some (s ++ lastB v) else compl kind s (v + 1) d
theorem specComplete_l0 (kind : Int) (s : ByteArray) (hs : s.size ≤ 2097151) (d : Nat) : ∀ (k v : Nat), 11 - v = d → s.size + d + 30 < k →
  spec_l24Complete.l0 k kind s v = some ((compl kind s v d).getD ⟨#[]⟩) := by
 induction d with
 | zero =>
  intro k v hd hk
  obtain ⟨k, rfl⟩ := succ_of hk
  simp only [spec_l24Complete.l0]
  rw [if_neg (by omega)]
  rfl
 | succ d ih =>
  intro k v hd hk
  obtain ⟨k, rfl⟩ := succ_of hk
  have h := ih k (v + 1) (by omega) (by omega)
  have hw : wrap64 ((v : Int) + 1) = ((v + 1 : Nat) : Int) := by rw [w64 (by omega) (by omega)]; omega
  have hl := lastB_size v
  have he := extract_last v (by omega)
  simp only [spec_l24Complete.l0, hw, h, Int.toNat_natCast, he]
  have hz : (s ++ lastB v).size = s.size + 1 := by rw [ByteArray.size_append, hl]
  rw [if_pos (by omega), if_pos (by omega), if_pos (by omega), if_pos (by omega), if_pos (by omega), specIs kind _ (by omega) k (by omega)]
  simp only [Option.bind_some, compl]
  cases isId kind (s ++ lastB v) <;> simp
theorem implComplete_l0 (kind : Int) (s : ByteArray) (hs : s.size ≤ 2097151) (h1 : 1 ≤ kind) (h4 : kind ≤ 4) (d : Nat) : ∀ (k v : Nat), 11 - v = d → s.size + d + 30 < k →
  impl_completeIdentifier.l0 k kind s v = some (match compl kind s v d with | some t => (t, true) | none => (⟨#[]⟩, false)) := by
 induction d with
 | zero =>
  intro k v hd hk
  obtain ⟨k, rfl⟩ := succ_of hk
  simp only [impl_completeIdentifier.l0]
  rw [if_neg (by omega)]
  rfl
 | succ d ih =>
  intro k v hd hk
  obtain ⟨k, rfl⟩ := succ_of hk
  have h := ih k (v + 1) (by omega) (by omega)
  have hw : wrap64 ((v : Int) + 1) = ((v + 1 : Nat) : Int) := by rw [w64 (by omega) (by omega)]; omega
  have hl := lastB_size v
  have hz : (s ++ lastB v).size = s.size + 1 := by rw [ByteArray.size_append, hl]
  simp only [impl_completeIdentifier.l0, hw, h, strconv_Itoa.f]
  rw [if_pos (by omega), if_pos (by omega)]
  simp only [Option.bind_some]
  by_cases e : v = 10
  ·subst e
   have hx : (⟨#[88]⟩ : ByteArray) = lastB 10 := rfl
   rw [if_pos (by omega), if_pos (by omega), hx, implIs kind _ (by omega) h1 h4 k (by omega)]
   simp only [Option.bind_some, compl]
   cases isId kind (s ++ lastB 10) <;> simp
  ·rw [if_neg (by omega), itoa_last v (by omega), if_pos (by omega), implIs kind _ (by omega) h1 h4 k (by omega)]
   simp only [Option.bind_some, compl]
   cases isId kind (s ++ lastB v) <;> simp
theorem specComplete (kind : Int) (s : ByteArray) (hs : s.size ≤ 2097151) (k : Nat) (hk : s.size + 50 < k) : spec_l24Complete.f k kind s = some ((compl kind s 0 11).getD ⟨#[]⟩) :=
 specComplete_l0 kind s hs 11 k 0 rfl (by omega)
theorem implComplete (kind : Int) (s : ByteArray) (hs : s.size ≤ 2097151) (h1 : 1 ≤ kind) (h4 : kind ≤ 4) (k : Nat) (hk : s.size + 50 < k) :
  impl_completeIdentifier.f k kind s = some (match compl kind s 0 11 with | some t => (t, true) | none => (⟨#[]⟩, false)) :=
 implComplete_l0 kind s hs h1 h4 11 k 0 rfl (by omega)
theorem compl_some {kind : Int} {s : ByteArray} {v : Nat} : ∀ {d u : Nat}, u ≤ v → v < u + d → isId kind (s ++ lastB v) = true → ∃ t, compl kind s u d = some t
 | 0, u, h1, h2, _ => by omega
 | d + 1, u, h1, h2, h => by
  unfold compl
  by_cases e : isId kind (s ++ lastB u) = true
  ·rw [if_pos e]; exact ⟨_, rfl⟩
  ·rw [if_neg e]
   have : u ≠ v := by rintro rfl; exact e h
   exact compl_some (by omega) (by omega) h
theorem compl_is {kind : Int} {s t : ByteArray} : ∀ {d u : Nat}, compl kind s u d = some t → isId kind t = true ∧ ∃ v, u ≤ v ∧ v < u + d ∧ t = s ++ lastB v
 | 0, u, h => by simp [compl] at h
 | d + 1, u, h => by
  unfold compl at h
  split at h
  ·rename_i e
   obtain rfl := Option.some.inj h
   exact ⟨e, u, by omega, by omega, rfl⟩
  ·obtain ⟨h1, v, h2, h3, h4⟩ := compl_is h
   exact ⟨h1, v, by omega, by omega, h4⟩
theorem compl_none {kind : Int} {s : ByteArray} (h : ∀ v, v < 11 → isId kind (s ++ lastB v) = false) : ∀ {d u : Nat}, u + d ≤ 11 → compl kind s u d = none
 | 0, u, _ => rfl
 | d + 1, u, hd => by
  unfold compl
  rw [if_neg (by rw [h u (by omega)]; simp)]
  exact compl_none h (by omega)
theorem idFrom_of {kind : Int} {s : ByteArray} : ∀ {d : Nat} {i : Int}, (∀ j : Int, i ≤ j → j < i + d → idAt kind s j = true) → idFrom kind s i d = true
 | 0, i, _ => rfl
 | d + 1, i, h => by
  simp only [idFrom, Bool.and_eq_true]
  exact ⟨h i (by omega) (by omega), idFrom_of (fun j h1 h2 => h j (by omega) (by omega))⟩
theorem idForm_last {kind : Int} {s : ByteArray} {v : Nat} (hv : v < 11) (hx : v = 10 → kind ≠ 2) (h1 : 1 ≤ kind) (h4 : kind ≤ 4) (hz : (s.size : Int) = idLen kind - 1) (hd : ∀ j : Int, 0 ≤ j → j < s.size → isDg (bt s j) = true) :
  idForm kind (s ++ lastB v) = true := by
 have hsz : (s ++ lastB v).size = s.size + 1 := by rw [ByteArray.size_append, lastB_size]
 unfold idForm idFin
 rw [hsz]
 have hf : idFrom kind (s ++ lastB v) 0 (s.size + 1) = true := by
  refine idFrom_of fun j h0 hj => ?_
  unfold idAt
  by_cases e : j < s.size
  ·rw [bt_append_left s _ j h0 e, hd j h0 e]; rfl
  ·have e' : j = (s.size : Int) := by omega
   subst e'
   rw [bt_last s v hv, hsz]
   by_cases h10 : v < 10
   ·rw [if_pos h10]
    unfold isDg
    have g1 : decide ((48 : Int) ≤ 48 + (v : Int)) = true := decide_eq_true (by omega)
    have g2 : decide (48 + (v : Int) ≤ 57) = true := by simp; omega
    rw [g1, g2]; rfl
   ·rw [if_neg h10]
    have hk := hx (by omega)
    simp [hk]
 rw [hf]
 simp [h1, h4]
 omega
theorem altFrom_succ (s : ByteArray) : ∀ (d : Nat) (i a : Int), altFrom s i (d + 1) a = altFrom s i d a + idVal (bt s (i + d)) * (1 + (i + d) % 2 * 2)
 | 0, i, a => by simp [altFrom]
 | d + 1, i, a => by
  rw [altFrom, altFrom_succ s d (i + 1), altFrom]
  have e : i + 1 + (d : Int) = i + ((d + 1 : Nat) : Int) := by omega
  rw [e]
theorem wtdFrom_succ (s : ByteArray) : ∀ (d : Nat) (i a : Int), wtdFrom s i (d + 1) a = wtdFrom s i d a + idVal (bt s (i + d)) * ((s.size : Int) - (i + d))
 | 0, i, a => by simp [wtdFrom]
 | d + 1, i, a => by
  rw [wtdFrom, wtdFrom_succ s d (i + 1), wtdFrom]
  have e : i + 1 + (d : Int) = i + ((d + 1 : Nat) : Int) := by omega
  rw [e]
theorem altFrom_congr (s t : ByteArray) : ∀ (d : Nat) (i a : Int), (∀ j : Int, i ≤ j → j < i + d → bt s j = bt t j) → altFrom s i d a = altFrom t i d a
 | 0, i, a, _ => rfl
 | d + 1, i, a, h => by
  rw [altFrom, altFrom, h i (by omega) (by omega)]
  exact altFrom_congr s t d (i + 1) _ (fun j h1 h2 => h j (by omega) (by omega))
theorem wtdFrom_congr (s t : ByteArray) (hz : s.size = t.size) : ∀ (d : Nat) (i a : Int), (∀ j : Int, i ≤ j → j < i + d → bt s j = bt t j) → wtdFrom s i d a = wtdFrom t i d a
 | 0, i, a, _ => rfl
 | d + 1, i, a, h => by
  rw [wtdFrom, wtdFrom, h i (by omega) (by omega), hz]
  exact wtdFrom_congr s t hz d (i + 1) _ (fun j h1 h2 => h j (by omega) (by omega))
theorem bt_extract2 (s : ByteArray) (a b : Nat) (hb : b ≤ s.size) (i : Int) (h0 : 0 ≤ i) (h1 : i < (b : Int) - a) : bt (s.extract a b) i = bt s (a + i) := by
 have hz : (s.extract a b).size = b - a := by rw [ByteArray.size_extract]; omega
 unfold bt
 rw [dif_pos (by rw [hz]; omega), dif_pos (by omega)]
 simp only [ByteArray.getElem_extract]
 congr 3
 omega
end Go.Proofs.YtpnjnlcjofaglaaDoor.P
