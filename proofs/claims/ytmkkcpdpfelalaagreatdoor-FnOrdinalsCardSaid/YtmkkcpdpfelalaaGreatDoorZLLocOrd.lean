/- The text of an ordinal number: the program's and the reference's answers are one plain function, for valid locales and numbers from 0 to 999999. -/
import Derived.Test.YtmkkcpdpfelalaaGreatDoorZPx0
import Derived.Test.YtmkkcpdpfelalaaGreatDoorZPx10
import Derived.Test.YtmkkcpdpfelalaaGreatDoorZPx11
import Derived.Test.YtmkkcpdpfelalaaGreatDoorZPx7
import Derived.Test.YtmkkcpdpfelalaaGreatDoorZLBase
import Derived.Test.YtmkkcpdpfelalaaGreatDoorZLLocBytes
import Derived.Test.YtmkkcpdpfelalaaGreatDoorZLLocGood
import Derived.Test.YtmkkcpdpfelalaaGreatDoorZLLocNum
import Derived.Test.YtmkkcpdpfelalaaGreatDoorZLLocText
import Derived.Test.YtmkkcpdpfelalaaGreatDoorZLNum
namespace Go.Proofs.YtmkkcpdpfelalaaGreatDoor.P
open Go.RowKit Go.Proofs.YtmkkcpdpfelalaaGreatDoorW.PrintWords Go.Proofs.YtmkkcpdpfelalaaGreatDoorW.PrintLast Go.Proofs.YtmkkcpdpfelalaaGreatDoorW.PrintMore
set_option linter.unusedVariables false
set_option linter.unusedSimpArgs false
def ordTxt (rs : List S67) (n : Int) : Int → Nat → ByteArray
 | _, 0 => numB n
 | i, d + 1 => if Int.tmod n (rd_T67 rs i).f0 = (rd_T67 rs i).f1 then numB n ++ (rd_T67 rs i).f2 else ordTxt rs n (i + 1) d
theorem goodR_of {a b : Int} {s : ByteArray} (h : goodR a b s = true) : 1 ≤ a ∧ a ≤ 1000 ∧ s.size ≤ 4 := by
 unfold goodR inB bytesOk inB at h
 simp at h
 omega
theorem specOrd_l0 (nm : ByteArray) (ts : List S65) (rs : List S67) (la tw : ByteArray) (n : Int) (n0 : 0 ≤ n) (n1 : n ≤ 999999) (hl : rs.length ≤ 6) (d : Nat) : ∀ (k : Nat) (i : Int), 0 ≤ i → (rs.length : Int) - i = d → rulesFrom rs i d = true → d + 100 < k →
  spec_l23Ordinal.l0 k n i nm ts rs la tw = some (ordTxt rs n i d) := by
 induction d with
 | zero =>
  intro k i h0 hd _ hk
  obtain ⟨k, rfl⟩ := succ_of hk
  rw [spec_l23Ordinal.l0, if_neg (by omega), ordTxt, specNum n (by omega) (by omega) k (by omega), Option.bind_some]
 | succ d ih =>
  intro k i h0 hd hg hk
  obtain ⟨k, rfl⟩ := succ_of hk
  rw [rulesFrom, Bool.and_eq_true] at hg
  have hz := numB_size n (by omega) (by omega)
  rw [spec_l23Ordinal.l0, if_pos (by omega), if_pos h0, ordTxt, w64 (x := i + 1) (by omega) (by omega), ih k (i + 1) (by omega) (by omega) hg.2 (by omega)]
  have hx := goodR_of hg.1
  generalize rd_T67 rs i = x at *
  rw [if_neg (by omega)]
  by_cases e : Int.tmod n x.f0 = x.f1
  ·rw [if_pos e, if_pos e, specNum n (by omega) (by omega) k (by omega), Option.bind_some, if_pos (by omega)]
  ·rw [if_neg e, if_neg e]
theorem implOrd_l0 (rs : List S67) (n : Int) (n0 : 0 ≤ n) (n1 : n ≤ 999999) (hl : rs.length ≤ 6) (d : Nat) : ∀ (k : Nat) (i : Int), 0 ≤ i → (rs.length : Int) - i = d → rulesFrom rs i d = true → d + 100 < k →
  impl_ordinalText.l0 k n rs (rs.length : Int) i = some (ordTxt rs n i d) := by
 induction d with
 | zero =>
  intro k i h0 hd _ hk
  obtain ⟨k, rfl⟩ := succ_of hk
  rw [impl_ordinalText.l0, if_neg (by omega), ordTxt, implItoa n (by omega) (by omega), Option.bind_some]
 | succ d ih =>
  intro k i h0 hd hg hk
  obtain ⟨k, rfl⟩ := succ_of hk
  rw [rulesFrom, Bool.and_eq_true] at hg
  have hz := numB_size n (by omega) (by omega)
  rw [impl_ordinalText.l0, if_pos (by omega), if_pos h0, if_pos (by omega), ordTxt, w64 (x := i + 1) (by omega) (by omega), ih k (i + 1) (by omega) (by omega) hg.2 (by omega)]
  have hx := goodR_of hg.1
  generalize rd_T67 rs i = x at *
  rw [if_neg (by omega)]
  by_cases e : Int.tmod n x.f0 = x.f1
  ·rw [if_pos e, if_pos e, implItoa n (by omega) (by omega), Option.bind_some, if_pos (by omega)]
  ·rw [if_neg e, if_neg e]
def ordR (n : ByteArray) (ts : List S65) (rs : List S67) (la tw : ByteArray) (m : Int) : ByteArray × Bool :=
 if goodL n ts rs la tw = true then (if inB m 0 999999 = true then (ordTxt rs m 0 rs.length, true) else ((⟨#[]⟩ : ByteArray), false)) else ((⟨#[]⟩ : ByteArray), false)
theorem goodL_rules {n : ByteArray} {ts : List S65} {rs : List S67} {la tw : ByteArray} (h : goodL n ts rs la tw = true) : rs.length ≤ 6 ∧ rulesFrom rs 0 rs.length = true := by
 unfold goodL at h
 simp only [Bool.and_eq_true, decide_eq_true_eq] at h
 exact ⟨by omega, h.2.2.2.2.2.2⟩
theorem ordBoth (n : ByteArray) (ts : List S65) (rs : List S67) (la tw : ByteArray) (m : Int) (hn : n.size ≤ 1048576) (ht : ∀ x ∈ ts, szT x) (hr : ∀ x ∈ rs, szR x) (hla : la.size ≤ 1048576) (htw : tw.size ≤ 1048576) (k : Nat) (hk : 2000000 < k) :
  spec_OrdinalText.f k n ts rs la tw m = some (ordR n ts rs la tw m) ∧ impl_OrdinalText.f k n ts rs la tw m = some (ordR n ts rs la tw m) := by
 unfold spec_OrdinalText.f impl_OrdinalText.f ordR
 rw [specGood n ts rs la tw hn ht hr hla htw k (by omega), implGood n ts rs la tw hn ht hr hla htw k (by omega), Option.bind_some, Option.bind_some]
 cases hg : goodL n ts rs la tw with
 | false => exact ⟨by rw [if_neg Bool.false_ne_true, if_neg Bool.false_ne_true], by rw [if_neg Bool.false_ne_true, if_neg Bool.false_ne_true]⟩
 | true =>
  obtain ⟨h6, hru⟩ := goodL_rules hg
  rw [if_pos rfl, if_pos rfl, if_pos rfl, in_spec, implNumber, Option.bind_some, Option.bind_some]
  cases hm : inB m 0 999999 with
  | false => exact ⟨by rw [if_neg Bool.false_ne_true, if_neg Bool.false_ne_true], by rw [if_neg Bool.false_ne_true, if_neg Bool.false_ne_true]⟩
  | true =>
   obtain ⟨m0, m1⟩ := inB_of hm
   unfold spec_l23Ordinal.f impl_ordinalText.f
   rw [if_pos rfl, if_pos rfl, if_pos rfl, specOrd_l0 n ts rs la tw m m0 m1 h6 rs.length k 0 (by omega) (by omega) hru (by omega), implOrd_l0 rs m m0 m1 h6 rs.length k 0 (by omega) (by omega) hru (by omega), Option.bind_some]
   exact ⟨rfl, rfl⟩
end Go.Proofs.YtmkkcpdpfelalaaGreatDoor.P
