/- The text of an ordinal number is parsed to a number with the same text, which is not greater. Conditions: those of each lemma. -/
import Derived.Test.YtmkkcpdpfelalaaGreatDoorZPx0
import Derived.Test.YtmkkcpdpfelalaaGreatDoorZLBytesU
import Derived.Test.YtmkkcpdpfelalaaGreatDoorZLLocBytes
import Derived.Test.YtmkkcpdpfelalaaGreatDoorZLLocGood
import Derived.Test.YtmkkcpdpfelalaaGreatDoorZLLocOrd
import Derived.Test.YtmkkcpdpfelalaaGreatDoorZLLocParse
import Derived.Test.YtmkkcpdpfelalaaGreatDoorZLNum
import Derived.Test.YtmkkcpdpfelalaaGreatDoorZLOfL
import Derived.Test.YtmkkcpdpfelalaaGreatDoorZLReadBack
import Derived.Test.YtmkkcpdpfelalaaGreatDoorZLReadInt
namespace Go.Proofs.YtmkkcpdpfelalaaGreatDoor.P
open Go.RowKit Go.Proofs.YtmkkcpdpfelalaaGreatDoorW.PrintWords Go.Proofs.YtmkkcpdpfelalaaGreatDoorW.PrintLast Go.Proofs.YtmkkcpdpfelalaaGreatDoorW.PrintMore
set_option linter.unusedVariables false
set_option linter.unusedSimpArgs false
theorem ordTxt_pre (rs : List S67) (m : Int) (d : Nat) : ∀ i : Int, ∃ t : ByteArray, ordTxt rs m i d = numB m ++ t := by
 induction d with
 | zero =>
  intro i
  refine ⟨⟨#[]⟩, ?_⟩
  rw [ordTxt]
  apply bytes_eq
  rw [toL_append]
  exact (List.append_nil _).symm
 | succ d ih =>
  intro i
  rw [ordTxt]
  split
  ·exact ⟨_, rfl⟩
  ·exact ih (i + 1)
theorem pre_cut (a t : ByteArray) (i : Nat) (h : i ≤ a.size) : (a ++ t).extract 0 i = a.extract 0 i := by
 apply bytes_eq
 rw [toL_cut, toL_cut, toL_append, List.drop_zero, List.drop_zero, Nat.sub_zero, List.take_append_of_le_length (by rw [data_length]; exact h)]
theorem parse_find (rs : List S67) (m : Nat) (hm : m ≤ 999999) (d : Nat) : ∀ (i : Nat), 1 ≤ i → i ≤ (numB (m : Int)).size → (numB (m : Int)).size < i + d →
  ∃ v : Nat, parseF rs (ordTxt rs (m : Int) 0 rs.length) (i : Int) d = ((v : Int), true) ∧ v ≤ m ∧ ordTxt rs (v : Int) 0 rs.length = ordTxt rs (m : Int) 0 rs.length := by
 obtain ⟨t, ht⟩ := ordTxt_pre rs (m : Int) rs.length 0
 induction d with
 | zero => intro i h1 hi hd; omega
 | succ d ih =>
  intro i h1 hi hd
  have hx : (ordTxt rs (m : Int) 0 rs.length).extract 0 ((i : Int)).toNat = (numB (m : Int)).extract 0 i := by rw [Int.toNat_natCast, ht, pre_cut _ _ _ hi]
  rw [parseF, hx]
  by_cases hc : (readR ((numB (m : Int)).extract 0 i)).2 = true ∧ (readR ((numB (m : Int)).extract 0 i)).1 ≥ 0 ∧ (ordTxt rs (readR ((numB (m : Int)).extract 0 i)).1 0 rs.length).toList = (ordTxt rs (m : Int) 0 rs.length).toList
  ·rw [if_pos hc]
   obtain ⟨c1, c2, c3⟩ := hc
   have c4 := readR_small c1
   have c5 := readR_is c1
   generalize (readR ((numB (m : Int)).extract 0 i)).1 = z at *
   obtain ⟨v, rfl⟩ : ∃ v : Nat, z = (v : Int) := ⟨z.toNat, by omega⟩
   exact ⟨v, rfl, pre_le m v hm i h1 hi c5 (by omega), toList_inj.1 c3⟩
  ·rw [if_neg hc]
   rcases Nat.lt_or_ge i (numB (m : Int)).size with g | g
   ·have := ih (i + 1) (by omega) g (by omega)
    exact this
   ·exfalso
    apply hc
    have e : (numB (m : Int)).extract 0 i = numB (m : Int) := by
     apply bytes_eq
     rw [toL_cut, List.drop_zero, Nat.sub_zero]
     exact List.take_of_length_le (by rw [data_length]; exact g)
    rw [e, readR_num m hm]
    exact ⟨rfl, by show (m : Int) ≥ 0; omega, rfl⟩
theorem ordBack (n : ByteArray) (ts : List S65) (rs : List S67) (la tw : ByteArray) (m : Int) (h : (ordR n ts rs la tw m).2 = true) :
  ∃ v : Int, parseR n ts rs la tw (ordR n ts rs la tw m).1 = (v, true) ∧ v ≤ m ∧ ordR n ts rs la tw v = ordR n ts rs la tw m := by
 unfold ordR at h
 by_cases hg : goodL n ts rs la tw = true
 ·rw [if_pos hg] at h
  by_cases hb : inB m 0 999999 = true
  ·obtain ⟨m0, m1⟩ := inB_of hb
   obtain ⟨M, rfl⟩ : ∃ M : Nat, m = (M : Int) := ⟨m.toNat, by omega⟩
   have hR : ordR n ts rs la tw (M : Int) = (ordTxt rs (M : Int) 0 rs.length, true) := by unfold ordR; rw [if_pos hg, if_pos hb]
   obtain ⟨t, ht⟩ := ordTxt_pre rs (M : Int) rs.length 0
   have hp := numB_size (M : Int) (by omega) (by omega)
   have h6 := numB_len6 M (by omega)
   have hz : (numB (M : Int)).size ≤ (ordTxt rs (M : Int) 0 rs.length).size := by rw [ht, ByteArray.size_append]; omega
   obtain ⟨v, f1, f2, f3⟩ := parse_find rs M (by omega) (min (ordTxt rs (M : Int) 0 rs.length).size 6) 1 (Nat.le_refl _) hp.1 (by omega)
   refine ⟨(v : Int), ?_, by omega, ?_⟩
   ·rw [hR]
    unfold parseR
    rw [if_pos hg]
    exact f1
   ·rw [hR]
    unfold ordR
    rw [if_pos hg, if_pos (show inB (v : Int) 0 999999 = true by unfold inB; rw [decide_eq_true (by omega), decide_eq_true (by omega)]; rfl), f3]
  ·rw [if_neg hb] at h; cases h
 ·rw [if_neg hg] at h; cases h
end Go.Proofs.YtmkkcpdpfelalaaGreatDoor.P
