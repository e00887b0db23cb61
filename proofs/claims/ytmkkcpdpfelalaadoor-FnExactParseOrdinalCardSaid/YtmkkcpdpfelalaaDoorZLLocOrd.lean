/- The text of an ordinal number: the program's and the reference's answers are one plain function, for valid locales and numbers from 0 to 999999. -/
import Derived.Test.YtmkkcpdpfelalaaDoorZPx0
import Derived.Test.YtmkkcpdpfelalaaDoorZPx3
import Derived.Test.YtmkkcpdpfelalaaDoorZPx4
import Derived.Test.YtmkkcpdpfelalaaDoorZPx7
import Derived.Test.YtmkkcpdpfelalaaDoorZLBase
import Derived.Test.YtmkkcpdpfelalaaDoorZLLocBytes
import Derived.Test.YtmkkcpdpfelalaaDoorZPx10
import Derived.Test.YtmkkcpdpfelalaaDoorZPx9
import Derived.Test.YtmkkcpdpfelalaaDoorZLLocGood
import Derived.Test.YtmkkcpdpfelalaaDoorZLLocText
import Derived.Test.YtmkkcpdpfelalaaDoorZLNum
namespace Go.Proofs.YtmkkcpdpfelalaaDoor.P
open Go.RowKit Go.Proofs.YtmkkcpdpfelalaaDoorW.PrintWords Go.Proofs.YtmkkcpdpfelalaaDoorW.PrintLast Go.Proofs.YtmkkcpdpfelalaaDoorW.PrintMore
set_option linter.unusedVariables false
set_option linter.unusedSimpArgs false
def ordTxt (rs : List S88) (n : Int) : Int → Nat → ByteArray
 | _, 0 => numB n
 | i, d + 1 => if Int.tmod n (rd_T88 rs i).f0 = (rd_T88 rs i).f1 then numB n ++ (rd_T88 rs i).f2 else ordTxt rs n (i + 1) d
theorem goodR_of {a b : Int} {s : ByteArray} (h : goodR a b s = true) : 1 ≤ a ∧ a ≤ 1000 ∧ s.size ≤ 4 := by
 unfold goodR inB bytesOk inB at h
 simp at h
 omega
theorem specOrd_l0 (nm : ByteArray) (ts : List S41) (rs : List S88) (la tw : ByteArray) (n : Int) (n0 : 0 ≤ n) (n1 : n ≤ 999999) (hl : rs.length ≤ 6) (d : Nat) : ∀ (k : Nat) (i : Int), 0 ≤ i → (rs.length : Int) - i = d → rulesFrom rs i d = true → d + 100 < k →
  spec_l23Ordinal.l0 k n i nm ts rs la tw = some (ordTxt rs n i d) := by
 induction d with
 | zero =>
  intro k i h0 hd _ hk
  obtain ⟨k, rfl⟩ := succ_of hk
  rw [spec_l23Ordinal.l0, if_neg (by omega), ordTxt, specNum n (by omega) (by omega) k (by omega), Option.bind_some]
 | succ d ih =>
  intro k i h0 hd hg hk
  obtain ⟨k, rfl⟩ := succ_of hk
  rw [rulesFrom, Bool.and_eq_true] at hg
  have hz := numB_size n (by omega) (by omega)
  rw [spec_l23Ordinal.l0, if_pos (by omega), if_pos h0, ordTxt, w64 (x := i + 1) (by omega) (by omega), ih k (i + 1) (by omega) (by omega) hg.2 (by omega)]
  have hx := goodR_of hg.1
  generalize rd_T88 rs i = x at *
  rw [if_neg (by omega)]
  by_cases e : Int.tmod n x.f0 = x.f1
  ·rw [if_pos e, if_pos e, specNum n (by omega) (by omega) k (by omega), Option.bind_some, if_pos (by omega)]
  ·rw [if_neg e, if_neg e]
theorem implOrd_l0 (rs : List S88) (n : Int) (n0 : 0 ≤ n) (n1 : n ≤ 999999) (hl : rs.length ≤ 6) (d : Nat) : ∀ (k : Nat) (i : Int), 0 ≤ i → (rs.length : Int) - i = d → rulesFrom rs i d = true → d + 100 < k →
  impl_ordinalText.l0 k n rs (rs.length : Int) i = some (ordTxt rs n i d) := by
 induction d with
 | zero =>
  intro k i h0 hd _ hk
  obtain ⟨k, rfl⟩ := succ_of hk
  rw [impl_ordinalText.l0, if_neg (by omega), ordTxt, implItoa n (by omega) (by omega), Option.bind_some]
 | succ d ih =>
  intro k i h0 hd hg hk
  obtain ⟨k, rfl⟩ := succ_of hk
  rw [rulesFrom, Bool.and_eq_true] at hg
  have hz := numB_size n (by omega) (by omega)
  rw [impl_ordinalText.l0, if_pos (by omega), if_pos h0, if_pos (by omega), ordTxt, w64 (x := i + 1) (by omega) (by omega), ih k (i + 1) (by omega) (by omega) hg.2 (by omega)]
  have hx := goodR_of hg.1
  generalize rd_T88 rs i = x at *
  rw [if_neg (by omega)]
  by_cases e : Int.tmod n x.f0 = x.f1
  ·rw [if_pos e, if_pos e, implItoa n (by omega) (by omega), Option.bind_some, if_pos (by omega)]
  ·rw [if_neg e, if_neg e]
theorem goodL_rules {n : ByteArray} {ts : List S41} {rs : List S88} {la tw : ByteArray} (h : goodL n ts rs la tw = true) : rs.length ≤ 6 ∧ rulesFrom rs 0 rs.length = true := by
 unfold goodL at h
 simp only [Bool.and_eq_true, decide_eq_true_eq] at h
 exact ⟨by omega, h.2.2.2.2.2.2⟩
theorem inB_of {a lo hi : Int} (h : inB a lo hi = true) : lo ≤ a ∧ a ≤ hi := by
 unfold inB at h
 simpa using h
end Go.Proofs.YtmkkcpdpfelalaaDoor.P
