/- Repairing one character: the program's and the reference's search answer the same. For strings of at most 1048576 bytes. -/
import Derived.Test.YtpnjnlcjofaglaaDoorZPx0
import Derived.Test.YtpnjnlcjofaglaaDoorZPx6
import Derived.Test.YtpnjnlcjofaglaaDoorZPx7
import Derived.Test.YtpnjnlcjofaglaaDoorZPx8
import Derived.Test.YtpnjnlcjofaglaaDoorZLBase
import Derived.Test.YtpnjnlcjofaglaaDoorZLBytesU
import Derived.Test.YtpnjnlcjofaglaaDoorZLIdKind
import Derived.Test.YtpnjnlcjofaglaaDoorZLIdent
import Derived.Test.YtpnjnlcjofaglaaDoorZLLastB
namespace Go.Proofs.YtpnjnlcjofaglaaDoor.P
open Go.RowKit Go.Proofs.YtpnjnlcjofaglaaDoorW.PrintWords Go.Proofs.YtpnjnlcjofaglaaDoorW.PrintLast Go.Proofs.YtpnjnlcjofaglaaDoorW.PrintMore
set_option linter.unusedVariables false
set_option linter.unusedSimpArgs false
theorem putAt_size (s : ByteArray) (p j : Nat) : (putAt s p j).size = s.size := by
 unfold putAt
 rw [strOfNums_size, List.length_set, bytesOf_length]
theorem putAt_eq (s : ByteArray) (p j : Nat) (hp : p < s.size) : (s.extract 0 p ++ lastB j) ++ s.extract (p + 1) s.size = putAt s p j := by
 obtain ⟨b0, h0, e0⟩ := drop_bt s p hp
 have hl : p ≤ s.data.toList.length := by rw [data_length]; omega
 have hlast : (lastB j).data.toList = [UInt8.ofNat (dgtB j).toNat] := by
  unfold lastB dgtB
  split
  ·have : (48 + (j : Int)).toNat = 48 + j := by omega
   rw [this]
  ·rfl
 apply toL_same
 rw [toL_cat, toL_cat, toL_cut0, toL_cutE, hlast]
 unfold putAt
 rw [nums_toL, List.map_set, bytes_map, List.set_eq_take_append_cons_drop, if_pos (by rw [data_length]; exact hp)]
 simp
def repI (kind : Int) (s : ByteArray) (p : Nat) : Nat → Nat → ByteArray → Nat → ByteArray × Bool
 | 0, _, fd, c => if c = 1 then (fd, true) else ((⟨#[]⟩ : ByteArray), false)
 | d + 1, j, fd, c => if isId kind (putAt s p j) = true then repI kind s p d (j + 1) (putAt s p j) (c + 1) else repI kind s p d (j + 1) fd c
theorem repI_two (kind : Int) (s : ByteArray) (p : Nat) : ∀ (d j : Nat) (fd : ByteArray) (c : Nat), 2 ≤ c → repI kind s p d j fd c = ((⟨#[]⟩ : ByteArray), false)
 | 0, _, _, c, h => by rw [repI, if_neg (by omega)]
 | d + 1, j, fd, c, h => by
  rw [repI]
  split
  ·exact repI_two kind s p d (j + 1) _ (c + 1) (by omega)
  ·exact repI_two kind s p d (j + 1) _ c h
theorem implRepair_l0 (kind : Int) (s : ByteArray) (p : Nat) (hs : s.size ≤ 1048576) (h1 : 1 ≤ kind) (h4 : kind ≤ 4) (d : Nat) : ∀ (k j : Nat) (fd : ByteArray) (c : Nat), 11 - j = d → j ≤ 11 → s.size + d + 40 < k →
  impl_RepairDigit.l0 k kind s p j fd (c : Int) = some (repI kind s p d j fd c) := by
 induction d with
 | zero =>
  intro k j fd c hd hj hk
  obtain ⟨k, rfl⟩ := succ_of hk
  rw [impl_RepairDigit.l0, if_neg (by omega), repI]
  by_cases hc : c = 1
  ·rw [if_pos hc, if_pos (by omega)]
  ·rw [if_neg hc, if_neg (by omega)]
 | succ d ih =>
  intro k j fd c hd hj hk
  obtain ⟨k, rfl⟩ := succ_of hk
  have hsz := putAt_size s p j
  have hc : (c : Int) + 1 = ((c + 1 : Nat) : Int) := by omega
  rw [impl_RepairDigit.l0, if_pos (by omega), implIs kind _ (by omega) h1 h4 k (by omega), Option.bind_some, repI, hc, ih k (j + 1) _ _ (by omega) (by omega) (by omega), ih k (j + 1) _ _ (by omega) (by omega) (by omega)]
  split <;> rfl
theorem toList_nil (s : ByteArray) : s.toList = ([] : List UInt8) ↔ s.size = 0 := by
 rw [Go.ByteArray.toList_eq]
 constructor
 ·intro h
  rw [← data_length, h]
  rfl
 ·intro h
  exact List.eq_nil_of_length_eq_zero (by rw [data_length]; exact h)
theorem specRepair_l0 (kind : Int) (s : ByteArray) (p : Nat) (hs : s.size ≤ 1048576) (hp : p < s.size) (d : Nat) : ∀ (k j : Nat) (fd : ByteArray) (c : Nat), 11 - j = d → j ≤ 11 → s.size + d + 40 < k → (c = 0 ∧ fd = (⟨#[]⟩ : ByteArray) ∨ c = 1 ∧ 0 < fd.size) →
  spec_RepairDigit.l0 k kind s (p : Int) fd (j : Int) = some (repI kind s p d j fd c) := by
 induction d with
 | zero =>
  intro k j fd c hd hj hk hc
  obtain ⟨k, rfl⟩ := succ_of hk
  rw [spec_RepairDigit.l0, if_neg (by omega), repI]
  rcases hc with ⟨rfl, rfl⟩ | ⟨rfl, hf⟩
  ·have : (⟨#[]⟩ : ByteArray).toList = [] := (toList_nil _).2 rfl
   rw [this]
   rfl
  ·have : (fd.toList != ([] : List UInt8)) = true := bne_iff_ne.2 (fun h => by have := (toList_nil _).1 h; omega)
   rw [this]
   rfl
 | succ d ih =>
  intro k j fd c hd hj hk hc
  obtain ⟨k, rfl⟩ := succ_of hk
  have hjl : j < 11 := by omega
  have hw : wrap64 ((j : Int) + 1) = ((j + 1 : Nat) : Int) := by rw [w64 (by omega) (by omega)]; omega
  have hw2 : wrap64 ((p : Int) + 1) = ((p + 1 : Nat) : Int) := by rw [w64 (by omega) (by omega)]; omega
  have z1 : (s.extract 0 p).size = p := by rw [ByteArray.size_extract]; omega
  have z4 : (s.extract (p + 1) s.size).size ≤ s.size := by rw [ByteArray.size_extract]; omega
  have hE := putAt_eq s p j hp
  have hsz := putAt_size s p j
  have hI := specIs kind (putAt s p j) (by omega) k (by omega)
  have hl := lastB_size j
  have c1 : ((j : Nat) : Int) < 11 := by omega
  have c2 : (0 : Int) ≤ (p : Int) := by omega
  have c3 : (p : Int) ≤ (s.size : Int) := by omega
  have c4 : (0 : Int) ≤ (j : Int) := by omega
  have c5 : (j : Int) ≤ ((j + 1 : Nat) : Int) := by omega
  have c6 : ((j + 1 : Nat) : Int) ≤ 11 := by omega
  have c7 : (s.extract 0 p).size + (lastB j).size ≤ 9223372036854775807 := by omega
  have c8 : (0 : Int) ≤ ((p + 1 : Nat) : Int) := by omega
  have c9 : ((p + 1 : Nat) : Int) ≤ (s.size : Int) := by omega
  have c10 : (s.extract 0 p ++ lastB j).size + (s.extract (p + 1) s.size).size ≤ 9223372036854775807 := by rw [ByteArray.size_append]; omega
  rw [spec_RepairDigit.l0, hw, hw2]
  simp only [Int.toNat_natCast]
  rw [extract_last j hjl, if_pos c1, if_pos c2, if_pos c3, if_pos c4, if_pos c5, if_pos c6, if_pos c7, if_pos c8, if_pos c9, if_pos c10, hE, hI, Option.bind_some, repI]
  by_cases hb : isId kind (putAt s p j) = true
  ·rw [if_pos hb, if_pos hb]
   rcases hc with ⟨rfl, rfl⟩ | ⟨rfl, hf⟩
   ·rw [if_pos ((toList_nil _).2 rfl)]
    exact ih k (j + 1) _ 1 (by omega) (by omega) (by omega) (Or.inr ⟨rfl, by omega⟩)
   ·rw [if_neg (fun h => by have := (toList_nil _).1 h; omega), repI_two kind s p d (j + 1) _ 2 (by omega)]
  ·rw [if_neg hb, if_neg hb]
   exact ih k (j + 1) _ c (by omega) (by omega) (by omega) hc
def repairR (kind : Int) (s : ByteArray) (place : Int) : ByteArray × Bool := if idForm kind s = true ∧ 0 ≤ place ∧ place ≤ (s.size : Int) - 1 then repI kind s place.toNat 11 0 (⟨#[]⟩ : ByteArray) 0 else ((⟨#[]⟩ : ByteArray), false)
theorem repairBoth (kind : Int) (s : ByteArray) (place : Int) (hs : s.size ≤ 1048576) (k : Nat) (hk : 2 * s.size + 200 < k) : spec_RepairDigit.f k kind s place = some (repairR kind s place) ∧ impl_RepairDigit.f k kind s place = some (repairR kind s place) := by
 obtain ⟨k, rfl⟩ := succ_of hk
 have hw : wrap64 ((s.size : Int) - 1) = (s.size : Int) - 1 := w64 (by omega) (by omega)
 constructor
 ·unfold spec_RepairDigit.f repairR
  rw [specForm_f kind s (by omega) (k + 1) (by omega), Option.bind_some, hw]
  unfold spec_l1In.f
  cases hf : idForm kind s with
  | false =>
   rw [if_neg Bool.false_ne_true, spec_RepairDigit.j0, if_pos rfl, if_neg (fun h => Bool.false_ne_true h.1)]
  | true =>
   rw [if_pos rfl]
   by_cases hp0 : place ≥ 0
   ·rw [if_pos hp0, Option.bind_some]
    by_cases hp1 : place ≤ (s.size : Int) - 1
    ·have e1 : decide (place ≤ (s.size : Int) - 1) = true := decide_eq_true hp1
     obtain ⟨p, rfl⟩ : ∃ p : Nat, place = (p : Int) := ⟨place.toNat, by omega⟩
     rw [e1, spec_RepairDigit.j0, if_neg (by simp), if_pos ⟨rfl, hp0, hp1⟩, Int.toNat_natCast]
     have := specRepair_l0 kind s p hs (by omega) 11 k 0 (⟨#[]⟩ : ByteArray) 0 (by omega) (by omega) (by omega) (Or.inl ⟨rfl, rfl⟩)
     exact this
    ·have e1 : decide (place ≤ (s.size : Int) - 1) = false := decide_eq_false hp1
     rw [e1, spec_RepairDigit.j0, if_pos (by rfl), if_neg (fun h => hp1 h.2.2)]
   ·rw [if_neg hp0, Option.bind_some, spec_RepairDigit.j0, if_pos (by rfl), if_neg (fun h => hp0 h.2.1)]
 ·unfold impl_RepairDigit.f repairR
  rw [if_pos (by omega), kindOk, Option.bind_some]
  by_cases hk14 : 1 ≤ kind ∧ kind ≤ 4
  ·have e1 : decide (1 ≤ kind) = true := decide_eq_true hk14.1
   have e2 : decide (kind ≤ 4) = true := decide_eq_true hk14.2
   rw [e1, e2, Bool.and_self, if_pos rfl, implText_f kind s (by omega) hk14.1 hk14.2 (k + 1) (by omega), Option.bind_some]
   cases hf : idForm kind s with
   | false => rw [if_neg Bool.false_ne_true, if_neg (fun h => Bool.false_ne_true h.1)]
   | true =>
    rw [if_pos rfl]
    by_cases hp : 0 ≤ place ∧ place ≤ (s.size : Int) - 1
    ·rw [if_pos hp, if_pos ⟨rfl, hp⟩]
     have := implRepair_l0 kind s place.toNat hs hk14.1 hk14.2 11 (k + 1) 0 (⟨#[]⟩ : ByteArray) 0 (by omega) (by omega) (by omega)
     exact this
    ·rw [if_neg hp, if_neg (fun h => hp h.2)]
  ·have e1 : (decide (1 ≤ kind) && decide (kind ≤ 4)) = false := by
    by_cases q : 1 ≤ kind
    ·have : decide (kind ≤ 4) = false := decide_eq_false (fun h => hk14 ⟨q, h⟩)
     rw [this, Bool.and_false]
    ·have : decide (1 ≤ kind) = false := decide_eq_false q
     rw [this, Bool.false_and]
   rw [e1, if_neg Bool.false_ne_true, if_neg (fun h => by rw [idForm_no hk14] at h; exact Bool.false_ne_true h.1)]
end Go.Proofs.YtpnjnlcjofaglaaDoor.P
