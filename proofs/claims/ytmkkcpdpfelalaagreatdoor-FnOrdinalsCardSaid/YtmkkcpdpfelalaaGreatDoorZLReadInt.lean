/- A text that is a whole number's decimal numeral: the program's ParseInt and the reference's l1Read are one plain function, for strings of at most 2097152 bytes. -/
import Derived.Lib.AtoiBound
import Derived.Test.YtmkkcpdpfelalaaGreatDoorZPx11
import Derived.Test.YtmkkcpdpfelalaaGreatDoorZPx12
import Derived.Test.YtmkkcpdpfelalaaGreatDoorZLBase
import Derived.Test.YtmkkcpdpfelalaaGreatDoorZLLocBytes
import Derived.Test.YtmkkcpdpfelalaaGreatDoorZLNum
import Derived.Test.YtmkkcpdpfelalaaGreatDoorZLOfL
namespace Go.Proofs.YtmkkcpdpfelalaaGreatDoor.P
open Go.RowKit Go.Proofs.YtmkkcpdpfelalaaGreatDoorW.PrintWords Go.Proofs.YtmkkcpdpfelalaaGreatDoorW.PrintLast Go.Proofs.YtmkkcpdpfelalaaGreatDoorW.PrintMore
set_option linter.unusedVariables false
set_option linter.unusedSimpArgs false
def readR (s : ByteArray) : Int × Bool :=
 if s.size ≤ 7 then (match Lib.atoi s.data.toList with
  | some v => if (-999999 ≤ v ∧ v ≤ 999999) ∧ (numB v).toList = s.toList then (v, true) else (0, false)
  | none => (0, false)) else (0, false)
def finR (s : ByteArray) (neg : Bool) (m : Nat) : Int × Bool :=
 if neg = true then (if (numB (-(m : Int))).toList = s.toList then (-(m : Int), true) else (0, false)) else (if (numB (m : Int)).toList = s.toList then ((m : Int), true) else (0, false))
def endR (s : ByteArray) (neg : Bool) : Option Nat → Int × Bool
 | none => (0, false)
 | some m => finR s neg m
theorem digit_no {b : UInt8} (h : ¬ (48 ≤ b.toNat ∧ b.toNat ≤ 57)) (acc : Nat) (r : List UInt8) : Lib.decFrom acc (b :: r) = none := by
 rw [Lib.decFrom, Lib.digitVal, if_neg h]
theorem digit_yes {b : UInt8} (h : 48 ≤ b.toNat ∧ b.toNat ≤ 57) (acc : Nat) (r : List UInt8) : Lib.decFrom acc (b :: r) = Lib.decFrom (acc * 10 + (b.toNat - 48)) r := by
 rw [Lib.decFrom, Lib.digitVal, if_pos h]
theorem pow_le6 {i : Nat} (h : i ≤ 6) : 10 ^ i ≤ 1000000 := by
 have := Nat.pow_le_pow_right (n := 10) (by omega) h
 exact this
theorem specRead_l0 (s t : ByteArray) (neg : Bool) (hneg : (t.size : Int) < (s.size : Int) ↔ neg = true) (ht : t.size ≤ 6) (d : Nat) : ∀ (k i n : Nat), t.size - i = d → i ≤ t.size → n < 10 ^ i → d + 100 < k →
  spec_l1Read.l0 k s t (n : Int) (i : Int) = some (endR s neg (Lib.decFrom n (t.data.toList.drop i))) := by
 induction d with
 | zero =>
  intro k i n hd hi hn hk
  obtain ⟨k, rfl⟩ := succ_of hk
  have hp := pow_le6 (i := i) (by omega)
  rw [spec_l1Read.l0, if_neg (by omega), drop_end t i (by omega), Lib.decFrom, endR, finR]
  cases neg with
  | true =>
   rw [if_pos (hneg.2 rfl), if_pos rfl, w64 (x := -(n : Int)) (by omega) (by omega), specNum (-(n : Int)) (by omega) (by omega) k (by omega), Option.bind_some]
   split <;> rfl
  | false =>
   rw [if_neg (fun h => Bool.false_ne_true (hneg.1 h)), if_neg Bool.false_ne_true, specNum (n : Int) (by omega) (by omega) k (by omega), Option.bind_some]
   split <;> rfl
 | succ d ih =>
  intro k i n hd hi hn hk
  obtain ⟨k, rfl⟩ := succ_of hk
  have a1 : t.size - (i + 1) = d ∧ i + 1 ≤ t.size ∧ d + 100 < k ∧ i ≤ 6 ∧ (i : Int) < (t.size : Int) ∧ (0 : Int) ≤ (i : Int) ∧ i < t.size := by clear hn; omega
  obtain ⟨a1, a2, a3, a4, a5, a6, a7⟩ := a1
  have e2 : wrap64 ((i : Int) + 1) = ((i + 1 : Nat) : Int) := by clear hn; rw [w64 (by omega) (by omega)]; omega
  have hp := pow_le6 (i := i) a4
  have hp2 : 10 ^ (i + 1) = 10 ^ i * 10 := Nat.pow_succ 10 i
  have hn6 : n < 1000000 := Nat.lt_of_lt_of_le hn hp
  have h3 : ∀ c, c < 10 → n * 10 + c < 10 ^ (i + 1) := by
   intro c hc
   rw [hp2]
   generalize 10 ^ i = p at *
   clear ih e2 a1 a2 a3 a4 a5 a6 a7 hp hp2
   omega
  clear hp hp2 hn
  obtain ⟨b, hb, hbt⟩ := drop_bt t i a7
  have h8 : b.toNat < 256 := b.toNat_lt
  rw [spec_l1Read.l0, if_pos a5, if_pos a6, hbt, hb]
  by_cases h1 : (b.toNat : Int) < 48
  ·rw [if_pos h1, digit_no (by omega), endR]
  ·rw [if_neg h1]
   by_cases h2 : (b.toNat : Int) > 57
   ·rw [if_pos h2, digit_no (by omega), endR]
   ·rw [if_neg h2, digit_yes (by omega)]
    have e1 : wrap64 ((wrap64 (10 * (n : Int))) + (((b.toNat : Int) - 48) % 256)) = ((n * 10 + (b.toNat - 48) : Nat) : Int) := by
     rw [w64 (x := 10 * (n : Int)) (by omega) (by omega), w64 (by omega) (by omega)]
     omega
    rw [e1, e2]
    exact ih k (i + 1) (n * 10 + (b.toNat - 48)) a1 a2 (h3 _ (by omega)) a3
theorem tail_list (s : ByteArray) : (s.extract 1 s.size).data.toList = s.data.toList.drop 1 := by
 rw [ByteArray.data_extract, Array.toList_extract]
 apply List.take_of_length_le
 rw [List.length_drop, data_length]
 exact Nat.le_refl _
theorem tail_size (s : ByteArray) (h : 1 ≤ s.size) : (s.extract 1 s.size).size = s.size - 1 := by
 rw [ByteArray.size_extract]
 omega
def specR (s : ByteArray) : Int × Bool :=
 if 1 < s.size ∧ bt s 0 = 45 then (if s.size ≤ 7 then endR s true (Lib.decFrom 0 (s.data.toList.drop 1)) else (0, false))
 else (if 1 ≤ s.size ∧ s.size ≤ 6 then endR s false (Lib.decFrom 0 s.data.toList) else (0, false))
theorem specRead0 (s : ByteArray) (hs : s.size ≤ 2097152) (k : Nat) (hk : 200 < k) : spec_l1Read.f k s = some (specR s) := by
 obtain ⟨k, rfl⟩ : ∃ m, k = m + 3 := ⟨k - 3, by omega⟩
 have e0 : (10 : Nat) ^ 0 = 1 := rfl
 unfold spec_l1Read.f specR
 have plny : spec_l1Read.j1 (k + 2) s s = some (if 1 ≤ s.size ∧ s.size ≤ 6 then endR s false (Lib.decFrom 0 s.data.toList) else (0, false)) := by
  rw [spec_l1Read.j1, in_spec, Option.bind_some]
  by_cases g : 1 ≤ s.size ∧ s.size ≤ 6
  ·rw [if_pos (show inB (s.size : Int) 1 6 = true by unfold inB; rw [decide_eq_true (by omega), decide_eq_true (by omega)]; rfl), if_pos g]
   have := specRead_l0 s s false ⟨fun h => absurd h (by omega), fun h => by cases h⟩ g.2 s.size (k + 1) 0 0 (by omega) (by omega) (by omega) (by omega)
   exact this
  ·rw [if_neg (show ¬ inB (s.size : Int) 1 6 = true by intro h; have := inB_of h; omega), if_neg g]
 have plnz : ∀ x : Bool, x = false → spec_l1Read.j0 (k + 3) s s x = some (if 1 ≤ s.size ∧ s.size ≤ 6 then endR s false (Lib.decFrom 0 s.data.toList) else (0, false)) := by
  rintro x rfl
  rw [spec_l1Read.j0, if_neg Bool.false_ne_true]
  exact plny
 by_cases h1 : 1 < s.size
 ·rw [if_pos (by omega), if_pos (by omega)]
  by_cases h2 : bt s 0 = 45
  ·rw [if_pos ⟨h1, h2⟩, show (bt s 0 == 45) = true from beq_iff_eq.2 h2, spec_l1Read.j0, if_pos rfl, if_pos (by omega), spec_l1Read.j1, in_spec, Option.bind_some, tail_size s (by omega)]
   by_cases g : s.size ≤ 7
   ·rw [if_pos (show inB ((s.size - 1 : Nat) : Int) 1 6 = true by unfold inB; rw [decide_eq_true (by omega), decide_eq_true (by omega)]; rfl), if_pos g]
    have hz := tail_size s (by omega)
    have := specRead_l0 s (s.extract 1 s.size) true ⟨fun _ => rfl, fun _ => by omega⟩ (by omega) (s.size - 1) (k + 1) 0 0 (by omega) (by omega) (by omega) (by omega)
    rw [List.drop_zero, tail_list] at this
    exact this
   ·rw [if_neg (show ¬ inB ((s.size - 1 : Nat) : Int) 1 6 = true by intro h; have := inB_of h; omega), if_neg g]
  ·rw [if_neg (fun h => h2 h.2)]
   exact plnz _ (beq_eq_false_iff_ne.2 h2)
 ·rw [if_neg (by omega), if_neg (fun h => h1 h.1)]
  exact plnz _ rfl
theorem numB_len6 (m : Nat) (h : m ≤ 999999) : (numB (m : Int)).size ≤ 6 := by
 have hp : (10 : Nat) ^ (5 + 1) = 1000000 := by decide +kernel
 unfold numB Lib.itoa
 rw [ofL_size, if_neg (by omega), Int.toNat_natCast]
 have := dec_len 5 m (by omega)
 omega
theorem numB_head (m : Nat) (h : m ≤ 999999) : ∀ b ∈ (numB (m : Int)).data.toList, 48 ≤ b.toNat ∧ b.toNat ≤ 57 := by
 have hp : (10 : Nat) ^ (5 + 1) = 1000000 := by decide +kernel
 unfold numB Lib.itoa
 rw [if_neg (by omega), Int.toNat_natCast, toL_ofL]
 exact dec_digits 5 m (by omega)
theorem toList_data {a b : ByteArray} (h : a.toList = b.toList) : a.data.toList = b.data.toList := by
 rw [Go.ByteArray.toList_eq, Go.ByteArray.toList_eq] at h
 exact h
theorem decFrom_small {l : List UInt8} {m : Nat} (h : Lib.decFrom 0 l = some m) (hl : l.length ≤ 6) : m ≤ 999999 := by
 have h1 := Lib.decFrom_lt l 0 m h
 have h2 := pow_le6 hl
 omega
theorem finR_pos (s : ByteArray) (m : Nat) : finR s false m = (if (numB (m : Int)).toList = s.toList then ((m : Int), true) else (0, false)) := by rw [finR, if_neg Bool.false_ne_true]
theorem finR_neg (s : ByteArray) (m : Nat) : finR s true m = (if (numB (-(m : Int))).toList = s.toList then (-(m : Int), true) else (0, false)) := by rw [finR, if_pos rfl]
theorem specR_readR (s : ByteArray) : specR s = readR s := by
 unfold specR readR
 have hlen : s.data.toList.length = s.size := data_length s
 by_cases h0 : s.size = 0
 ·have hl : s.data.toList = [] := List.eq_nil_of_length_eq_zero (by omega)
  rw [if_neg (by omega), if_neg (by omega), if_pos (by omega), hl]
  rfl
 obtain ⟨b, hb, hbt⟩ := drop_bt s 0 (by omega)
 rw [List.drop_zero] at hb
 have hbt0 : bt s 0 = (b.toNat : Int) := hbt
 rw [hbt0]
 have hr : s.data.toList.drop (0 + 1) = s.data.toList.drop 1 := rfl
 rw [hr] at hb
 have hrl : (s.data.toList.drop 1).length = s.size - 1 := by rw [List.length_drop, hlen]
 by_cases h45 : b.toNat = 45
 ·have e45 : (b == 45) = true := by rw [beq_iff_eq]; exact u8_int (by rw [h45]; rfl)
  have hat : Lib.atoi s.data.toList = (Lib.decNat (s.data.toList.drop 1)).map fun (m : Nat) => -(m : Int) := by
   rw [hb, Lib.atoi, if_pos e45]
   simp
  rw [hat]
  by_cases h1 : 1 < s.size
  ·rw [if_pos ⟨h1, by omega⟩]
   by_cases h7 : s.size ≤ 7
   ·rw [if_pos h7, if_pos h7]
    have hn : Lib.decNat (s.data.toList.drop 1) = Lib.decFrom 0 (s.data.toList.drop 1) := by
     rw [Lib.decNat, if_neg]
     intro h
     rw [List.isEmpty_iff] at h
     rw [h] at hrl
     simp at hrl
     omega
    rw [hn]
    cases hm : Lib.decFrom 0 (s.data.toList.drop 1) with
    | none => rfl
    | some m =>
     have := decFrom_small hm (by omega)
     rw [endR, finR_neg]
     simp only [Option.map_some]
     by_cases e : (numB (-(m : Int))).toList = s.toList
     ·rw [if_pos e, if_pos ⟨⟨by omega, by omega⟩, e⟩]
     ·rw [if_neg e, if_neg (fun h => e h.2)]
   ·rw [if_neg h7, if_neg h7]
  ·have hs1 : s.size = 1 := by omega
   have hd : s.data.toList.drop 1 = [] := List.eq_nil_of_length_eq_zero (by omega)
   rw [if_neg (by omega), if_pos (by omega), if_pos (by omega), hb, digit_no (by omega), hd]
   rfl
 ·rw [if_neg (by omega)]
  have n45 : ¬ (b == 45) = true := by rw [beq_iff_eq]; rintro rfl; exact h45 rfl
  by_cases h43 : b.toNat = 43
  ·have e43 : (b == 43) = true := by rw [beq_iff_eq]; exact u8_int (by rw [h43]; rfl)
   have hat : Lib.atoi s.data.toList = (Lib.decNat (s.data.toList.drop 1)).map fun (m : Nat) => (m : Int) := by
    rw [hb, Lib.atoi, if_neg n45, if_pos e43]
    simp
   have hl : (if 1 ≤ s.size ∧ s.size ≤ 6 then endR s false (Lib.decFrom 0 s.data.toList) else (0, false)) = ((0, false) : Int × Bool) := by
    rw [hb, digit_no (by omega)]
    split <;> rfl
   rw [hl, hat]
   by_cases h7 : s.size ≤ 7
   ·rw [if_pos h7]
    cases hm : Lib.decNat (s.data.toList.drop 1) with
    | none => rfl
    | some m =>
     simp only [Option.map_some]
     rw [if_neg]
     rintro ⟨⟨_, h2⟩, h3⟩
     have := numB_head m (by omega) b (by rw [toList_data h3, hb]; exact List.mem_cons_self)
     omega
   ·rw [if_neg h7]
  ·have n43 : ¬ (b == 43) = true := by rw [beq_iff_eq]; rintro rfl; exact h43 rfl
   have hat : Lib.atoi s.data.toList = (Lib.decFrom 0 s.data.toList).map fun (m : Nat) => (m : Int) := by
    rw [hb, Lib.atoi, if_neg n45, if_neg n43, Lib.decNat, if_neg (by simp)]
   rw [hat]
   by_cases h6 : s.size ≤ 6
   ·rw [if_pos (by omega), if_pos (by omega)]
    cases hm : Lib.decFrom 0 s.data.toList with
    | none => rfl
    | some m =>
     have := decFrom_small hm (by omega)
     rw [endR, finR_pos]
     simp only [Option.map_some]
     by_cases e : (numB (m : Int)).toList = s.toList
     ·rw [if_pos e, if_pos ⟨⟨by omega, by omega⟩, e⟩]
     ·rw [if_neg e, if_neg (fun h => e h.2)]
   ·rw [if_neg (by omega)]
    by_cases h7 : s.size ≤ 7
    ·rw [if_pos h7]
     cases hm : Lib.decFrom 0 s.data.toList with
     | none => rfl
     | some m =>
      simp only [Option.map_some]
      rw [if_neg]
      rintro ⟨⟨_, h2⟩, h3⟩
      have h4 := numB_len6 m (by omega)
      have h5 := congrArg List.length (toList_data h3)
      rw [data_length, data_length] at h5
      omega
    ·rw [if_neg h7]
theorem specRead (s : ByteArray) (hs : s.size ≤ 2097152) (k : Nat) (hk : 200 < k) : spec_l1Read.f k s = some (readR s) := by
 rw [specRead0 s hs k hk, specR_readR]
theorem implRead (s : ByteArray) : impl_ParseInt.f s = some (readR s) := by
 unfold impl_ParseInt.f readR
 by_cases h7 : (s.size : Int) > 7
 ·rw [if_pos h7, if_neg (by omega)]
 ·rw [if_neg h7, if_pos (by omega), strconv_Atoi.f, if_pos (by omega)]
  cases hm : Lib.atoi s.data.toList with
  | none => rfl
  | some v =>
   have hz : s.data.toList.length ≤ 18 := by rw [data_length]; omega
   have hv := Lib.atoi_bound hm hz
   simp only [Option.bind_some]
   rw [if_pos (show (none : Option Int).isNone = true from rfl), in_impl, Option.bind_some]
   by_cases hi : -999999 ≤ v ∧ v ≤ 999999
   ·rw [if_pos (show inB v (-999999) 999999 = true by unfold inB; rw [decide_eq_true hi.1, decide_eq_true hi.2]; rfl), implItoa v (by omega) (by omega), Option.bind_some]
    by_cases e : (numB v).toList = s.toList
    ·rw [if_pos e, if_pos ⟨hi, e⟩]
    ·rw [if_neg e, if_neg (fun h => e h.2)]
   ·rw [if_neg (show ¬ inB v (-999999) 999999 = true by intro h; exact hi (inB_of h)), if_neg (fun h => hi h.1)]
theorem readR_small {s : ByteArray} (h : (readR s).2 = true) : -999999 ≤ (readR s).1 ∧ (readR s).1 ≤ 999999 := by
 unfold readR at h ⊢
 by_cases h7 : s.size ≤ 7
 ·rw [if_pos h7] at h ⊢
  cases hm : Lib.atoi s.data.toList with
  | none => rw [hm] at h; cases h
  | some v =>
   rw [hm] at h
   simp only at h ⊢
   by_cases hc : (-999999 ≤ v ∧ v ≤ 999999) ∧ (numB v).toList = s.toList
   ·rw [if_pos hc]
    exact hc.1
   ·rw [if_neg hc] at h
    cases h
 ·rw [if_neg h7] at h
  cases h
end Go.Proofs.YtmkkcpdpfelalaaGreatDoor.P
