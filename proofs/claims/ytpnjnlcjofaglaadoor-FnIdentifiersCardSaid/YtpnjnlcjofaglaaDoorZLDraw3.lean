/- A spoilt text: at most one byte longer than what is spoilt. Conditions: those of each lemma. -/
import Derived.Test.YtpnjnlcjofaglaaDoorZPx5
import Derived.Test.YtpnjnlcjofaglaaDoorZLBase
import Derived.Test.YtpnjnlcjofaglaaDoorZLDraw
namespace Go.Proofs.YtpnjnlcjofaglaaDoor.P
open Go.RowKit Go.Proofs.YtpnjnlcjofaglaaDoorW.PrintWords Go.Proofs.YtpnjnlcjofaglaaDoorW.PrintLast Go.Proofs.YtpnjnlcjofaglaaDoorW.PrintMore
set_option linter.unusedVariables false
set_option linter.unusedSimpArgs false
theorem spoilt_f {l : List Int} (hb : Byt l) (a sd : Int) (t w : ByteArray) (hw : 0 < w.size) (ht : t.size ≤ 140737488351232) (h0 : 0 ≤ a) (h1 : a ≤ 2000000000000000000) :
  ∃ u b s, spec_l1Cur_spoilt.f l a sd t w = some (u, b, s) ∧ u.size ≤ t.size + 1 ∧ a ≤ b ∧ b ≤ a + 6 := by
 unfold spec_l1Cur_spoilt.f
 by_cases c : t.toList = ([] : List UInt8)
 ·rw [if_pos c, if_pos (by omega), if_pos (by omega)]
  refine ⟨_, _, _, rfl, ?_, by omega, by omega⟩
  rw [ByteArray.size_extract]
  omega
 ·have ht0 : 0 < t.size := by
   rcases Nat.eq_zero_or_pos t.size with h | h
   ·exact absurd (by rw [Go.ByteArray.toList_eq]; exact List.eq_nil_of_length_eq_zero (by rw [data_length]; exact h)) c
   ·exact h
  obtain ⟨i, b, s, hi, i0, i1, i2, i3⟩ := pick_f hb a sd (t.size : Int) h0 (by omega)
  rw [if_neg c, hi, Option.bind_some]
  obtain ⟨j, b2, s2, hj, j0, j1, j2, j3⟩ := pick_f hb b s (w.size : Int) (by omega) (by omega)
  have hjl : j < (w.size : Int) := by omega
  have hil : i < (t.size : Int) := by omega
  have hwz : (w.extract j.toNat w.size).size = w.size - j.toNat := by rw [ByteArray.size_extract]; omega
  have hgz : 1 ≤ ((w.extract j.toNat w.size).size : Int) := by rw [hwz]; omega
  rw [hj, Option.bind_some, if_pos j0, if_pos (by omega), if_pos (by omega), if_pos hgz]
  obtain ⟨q, b3, s3, hq, _, _, q2, q3⟩ := pick_f hb b2 s2 3 (by omega) (by omega)
  rw [hq, Option.bind_some]
  have z1 : (t.extract 0 i.toNat).size = i.toNat := by rw [ByteArray.size_extract]; omega
  have z2 : ((w.extract j.toNat w.size).extract 0 1).size = 1 := by rw [ByteArray.size_extract, hwz]; omega
  have z3 : (t.extract i.toNat t.size).size = t.size - i.toNat := by rw [ByteArray.size_extract]; omega
  have hw1 : wrap64 (i + 1) = i + 1 := w64 (by omega) (by omega)
  have z4 : (t.extract (i + 1).toNat t.size).size = t.size - (i + 1).toNat := by rw [ByteArray.size_extract]; omega
  generalize (w.extract j.toNat w.size).extract 0 1 = W at *
  have z5 : (t.extract 0 i.toNat ++ W).size = i.toNat + 1 := by rw [ByteArray.size_append, z1, z2]
  dsimp only
  by_cases q0 : q = 0
  ·rw [if_pos q0, if_pos i0, if_pos (by omega), if_pos (by omega), if_pos (by omega)]
   refine ⟨_, _, _, rfl, ?_, by omega, by omega⟩
   rw [ByteArray.size_append, z5, z3]
   omega
  ·rw [if_neg q0, hw1]
   by_cases q4 : q = 1
   ·rw [if_pos q4, if_pos i0, if_pos (by omega), if_pos (by omega), if_pos (by omega), if_pos (by omega), if_pos (by omega)]
    refine ⟨_, _, _, rfl, ?_, by omega, by omega⟩
    rw [ByteArray.size_append, z5, z4]
    omega
   ·rw [if_neg q4, if_pos i0, if_pos (by omega), if_pos (by omega), if_pos (by omega), if_pos (by omega)]
    refine ⟨_, _, _, rfl, ?_, by omega, by omega⟩
    rw [ByteArray.size_append, z1, z4]
    omega
theorem spoilt_t {l : List Int} (hb : Byt l) (a sd : Int) (t w : ByteArray) (hw : 0 < w.size) (ht : t.size ≤ 140737488351232) (h0 : 0 ≤ a) (h1 : a ≤ 2000000000000000000) :
  Tot (spec_l1Cur_spoilt.f l a sd t w) (fun r => r.1.size ≤ t.size + 1 ∧ a ≤ r.2.1 ∧ r.2.1 ≤ a + 6) := by
 obtain ⟨x, b, s, h⟩ := spoilt_f hb a sd t w hw ht h0 h1
 exact ⟨_, h.1, h.2⟩
end Go.Proofs.YtpnjnlcjofaglaaDoor.P
