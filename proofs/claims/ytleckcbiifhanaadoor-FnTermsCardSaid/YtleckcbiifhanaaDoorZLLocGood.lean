/- Which locales are valid: the program's and the reference's tests are one plain function, for locales whose texts have at most 1048576 bytes each. -/
import Derived.Test.YtleckcbiifhanaaDoorZPx0
import Derived.Test.YtleckcbiifhanaaDoorZPx10
import Derived.Test.YtleckcbiifhanaaDoorZPx11
import Derived.Test.YtleckcbiifhanaaDoorZPx6
import Derived.Test.YtleckcbiifhanaaDoorZPx7
import Derived.Test.YtleckcbiifhanaaDoorZLBase
import Derived.Test.YtleckcbiifhanaaDoorZLLocBytes
import Derived.Test.YtleckcbiifhanaaDoorZLLocText
namespace Go.Proofs.YtleckcbiifhanaaDoor.P
open Go.RowKit Go.Proofs.YtleckcbiifhanaaDoorW.PrintWords Go.Proofs.YtleckcbiifhanaaDoorW.PrintLast Go.Proofs.YtleckcbiifhanaaDoorW.PrintMore
set_option linter.unusedVariables false
set_option linter.unusedSimpArgs false
def szT (x : S29) : Prop := x.f0.size ≤ 1048576 ∧ x.f1.size ≤ 1048576 ∧ x.f2.size ≤ 1048576
def szR (x : S66) : Prop := x.f2.size ≤ 1048576
def goodT (x : S29) : Bool := keyOk x.f0 && (bytesOk x.f1 1 20 32 && bytesOk x.f2 1 20 32)
def goodR1 (x : S66) : Bool := goodR x.f0 x.f1 x.f2
def ordT (ts : List S29) (i : Int) : Bool := decide (i ≤ 0) || Op.bytesLess ((rd_T29 ts (i - 1)).f0).toList ((rd_T29 ts i).f0).toList
def termsFrom (ts : List S29) : Int → Nat → Bool
 | _, 0 => true
 | i, d + 1 => goodT (rd_T29 ts i) && (ordT ts i && termsFrom ts (i + 1) d)
def rulesFrom (rs : List S66) : Int → Nat → Bool
 | _, 0 => true
 | i, d + 1 => goodR1 (rd_T66 rs i) && rulesFrom rs (i + 1) d
def goodL (n : ByteArray) (ts : List S29) (rs : List S66) (la tw : ByteArray) : Bool :=
 keyOk n && (decide ((ts.length : Int) ≤ 12) && (decide ((rs.length : Int) ≤ 6) && (bytesOk la 1 10 32 && (bytesOk tw 1 10 32 && (termsFrom ts 0 ts.length && rulesFrom rs 0 rs.length)))))
theorem rdT_mem {ts : List S29} {i : Int} (h0 : 0 ≤ i) (h1 : i < (ts.length : Int)) : rd_T29 ts i ∈ ts := by
 unfold rd_T29
 have hi : i.toNat < ts.length := by omega
 rw [List.getD_eq_getElem?_getD, List.getElem?_eq_getElem hi, Option.getD_some]
 exact List.getElem_mem hi
theorem rdR_mem {rs : List S66} {i : Int} (h0 : 0 ≤ i) (h1 : i < (rs.length : Int)) : rd_T66 rs i ∈ rs := by
 unfold rd_T66
 have hi : i.toNat < rs.length := by omega
 rw [List.getD_eq_getElem?_getD, List.getElem?_eq_getElem hi, Option.getD_some]
 exact List.getElem_mem hi
theorem specRules (n : ByteArray) (ts : List S29) (rs : List S66) (la tw : ByteArray) (hr : ∀ x ∈ rs, szR x) (hl : rs.length ≤ 6) (d : Nat) : ∀ (k : Nat) (i : Int), 0 ≤ i → (rs.length : Int) - i = d → d + 1048600 < k →
  spec_l23Good.l1 k i n ts rs la tw = some (rulesFrom rs i d) := by
 induction d with
 | zero =>
  intro k i h0 hd hk
  obtain ⟨k, rfl⟩ := succ_of hk
  rw [spec_l23Good.l1, if_neg (by omega), rulesFrom]
 | succ d ih =>
  intro k i h0 hd hk
  obtain ⟨k, rfl⟩ := succ_of hk
  have hz : (rd_T66 rs i).f2.size ≤ 1048576 := hr _ (rdR_mem h0 (by omega))
  rw [spec_l23Good.l1, if_pos (by omega), if_pos h0, in_spec, Option.bind_some, rulesFrom, goodR1, goodR, w64 (x := i + 1) (by omega) (by omega), ih k (i + 1) (by omega) (by omega) (by omega)]
  generalize rd_T66 rs i = x at *
  cases ha : inB x.f0 1 1000 with
  | false => rw [if_neg Bool.false_ne_true, Bool.false_and, Bool.false_and]
  | true =>
   have h1 : 1 ≤ x.f0 ∧ x.f0 ≤ 1000 := by
    unfold inB at ha
    simpa using ha
   rw [if_pos rfl, Bool.true_and, w64 (x := x.f0 - 1) (by omega) (by omega), in_spec, Option.bind_some]
   cases inB x.f1 0 (x.f0 - 1) with
   | false => rw [if_neg Bool.false_ne_true, Bool.false_and, Bool.false_and]
   | true =>
    rw [if_pos rfl, Bool.true_and, specBytes _ (by omega) _ _ _ k (by omega), Option.bind_some]
    cases bytesOk x.f2 0 4 33 with
    | false => rw [if_neg Bool.false_ne_true, Bool.false_and]
    | true => rw [if_pos rfl, Bool.true_and]
theorem specTerms (n : ByteArray) (ts : List S29) (rs : List S66) (la tw : ByteArray) (ht : ∀ x ∈ ts, szT x) (hlt : ts.length ≤ 12) (hr : ∀ x ∈ rs, szR x) (hl : rs.length ≤ 6) (d : Nat) : ∀ (k : Nat) (i : Int), 0 ≤ i → (ts.length : Int) - i = d → d + 1048700 < k →
  spec_l23Good.l0 k i n ts rs la tw = some (termsFrom ts i d && rulesFrom rs 0 rs.length) := by
 induction d with
 | zero =>
  intro k i h0 hd hk
  obtain ⟨k, rfl⟩ := succ_of hk
  rw [spec_l23Good.l0, if_neg (by omega), specRules n ts rs la tw hr hl rs.length k 0 (by omega) (by omega) (by omega), termsFrom, Bool.true_and]
 | succ d ih =>
  intro k i h0 hd hk
  obtain ⟨k, rfl⟩ := succ_of hk
  obtain ⟨hz0, hz1, hz2⟩ : szT (rd_T29 ts i) := ht _ (rdT_mem h0 (by omega))
  have hterm : spec_l23Term.f k (rd_T29 ts i).f0 (rd_T29 ts i).f1 (rd_T29 ts i).f2 = some (goodT (rd_T29 ts i)) := by
   unfold spec_l23Term.f goodT
   rw [specKey _ (by omega) k (by omega), Option.bind_some]
   cases keyOk (rd_T29 ts i).f0 with
   | false => rw [if_neg Bool.false_ne_true, Bool.false_and]
   | true =>
    rw [if_pos rfl, Bool.true_and, specBytes _ (by omega) _ _ _ k (by omega), Option.bind_some]
    cases bytesOk (rd_T29 ts i).f1 1 20 32 with
    | false => rw [if_neg Bool.false_ne_true, Bool.false_and]
    | true => rw [if_pos rfl, Bool.true_and, specBytes _ (by omega) _ _ _ k (by omega), Option.bind_some]
  rw [spec_l23Good.l0, if_pos (by omega), if_pos h0, hterm, Option.bind_some, termsFrom, w64 (x := i + 1) (by omega) (by omega), w64 (x := i - 1) (by omega) (by omega), ih k (i + 1) (by omega) (by omega) (by omega)]
  cases goodT (rd_T29 ts i) with
  | false => rw [if_neg Bool.false_ne_true, Bool.false_and, Bool.false_and]
  | true =>
   rw [if_pos rfl, Bool.true_and]
   unfold ordT
   by_cases hi : i > 0
   ·rw [if_pos hi, if_pos (by omega), if_pos (by omega), decide_eq_false (show ¬ i ≤ 0 by omega), Bool.false_or]
    cases Op.bytesLess ((rd_T29 ts (i - 1)).f0).toList ((rd_T29 ts i).f0).toList with
    | false => rw [if_neg Bool.false_ne_true, Bool.false_and, Bool.false_and]
    | true => rw [if_pos rfl, Bool.true_and]
   ·rw [if_neg hi, decide_eq_true (show i ≤ 0 by omega), Bool.true_or, Bool.true_and]
theorem specGood (n : ByteArray) (ts : List S29) (rs : List S66) (la tw : ByteArray) (hn : n.size ≤ 1048576) (ht : ∀ x ∈ ts, szT x) (hr : ∀ x ∈ rs, szR x) (hla : la.size ≤ 1048576) (htw : tw.size ≤ 1048576) (k : Nat) (hk : 1048800 < k) : spec_l23Good.f k n ts rs la tw = some (goodL n ts rs la tw) := by
 obtain ⟨k, rfl⟩ := succ_of hk
 have j1 : spec_l23Good.j0 (k + 1) true n ts rs la tw = some false := by rw [spec_l23Good.j0, if_pos rfl]
 unfold spec_l23Good.f goodL
 rw [specKey n (by omega) _ (by omega), Option.bind_some]
 cases keyOk n with
 | false => rw [if_neg Bool.false_ne_true, Bool.false_and, j1]
 | true =>
  rw [if_pos rfl, Bool.true_and]
  by_cases h12 : (ts.length : Int) > 12
  ·rw [if_pos h12, decide_eq_false (show ¬ (ts.length : Int) ≤ 12 by omega), Bool.false_and, j1]
  ·rw [if_neg h12, decide_eq_true (show (ts.length : Int) ≤ 12 by omega), Bool.true_and]
   by_cases h6 : (rs.length : Int) > 6
   ·rw [if_pos h6, decide_eq_false (show ¬ (rs.length : Int) ≤ 6 by omega), Bool.false_and, j1]
   ·rw [if_neg h6, decide_eq_true (show (rs.length : Int) ≤ 6 by omega), Bool.true_and, specBytes la (by omega) _ _ _ _ (by omega), Option.bind_some]
    cases bytesOk la 1 10 32 with
    | false => rw [if_neg Bool.false_ne_true, Bool.false_and, j1]
    | true =>
     rw [if_pos rfl, Bool.true_and, specBytes tw (by omega) _ _ _ _ (by omega), Option.bind_some]
     cases bytesOk tw 1 10 32 with
     | false => rw [Bool.false_and]; exact j1
     | true =>
      rw [Bool.true_and]
      show spec_l23Good.j0 (k + 1) false n ts rs la tw = _
      rw [spec_l23Good.j0, if_neg Bool.false_ne_true]
      exact specTerms n ts rs la tw ht (by omega) hr (by omega) ts.length k 0 (by omega) (by omega) (by omega)
theorem implRules_l0 (rs : List S66) (hr : ∀ x ∈ rs, szR x) (hl : rs.length ≤ 6) (d : Nat) : ∀ (k : Nat) (i : Int), 0 ≤ i → (rs.length : Int) - i = d → d + 1048600 < k →
  ∃ t, impl_OrdinalRule_59.l0 k rs (rs.length : Int) i = some t ∧ decide (t ≥ 0) = !rulesFrom rs i d := by
 induction d with
 | zero =>
  intro k i h0 hd hk
  obtain ⟨k, rfl⟩ := succ_of hk
  rw [impl_OrdinalRule_59.l0, if_neg (by omega), rulesFrom]
  exact ⟨_, rfl, by decide⟩
 | succ d ih =>
  intro k i h0 hd hk
  obtain ⟨k, rfl⟩ := succ_of hk
  have hz : (rd_T66 rs i).f2.size ≤ 1048576 := hr _ (rdR_mem h0 (by omega))
  obtain ⟨t, ht, hd2⟩ := ih k (i + 1) (by omega) (by omega) (by omega)
  rw [impl_OrdinalRule_59.l0, if_pos (by omega), if_pos h0, if_pos (by omega), impl_IsValidLocale_1.f, implRule _ _ _ (by omega) k (by omega), Option.bind_some, Option.bind_some, rulesFrom, goodR1, w64 (x := i + 1) (by omega) (by omega)]
  cases goodR (rd_T66 rs i).f0 (rd_T66 rs i).f1 (rd_T66 rs i).f2 with
  | false =>
   refine ⟨i, by simp, ?_⟩
   rw [decide_eq_true (show i ≥ 0 from h0)]
   rfl
  | true => exact ⟨t, by simpa using ht, by rw [hd2, Bool.true_and]⟩
theorem implRules (rs : List S66) (hr : ∀ x ∈ rs, szR x) (hl : rs.length ≤ 6) (k : Nat) (hk : 1048700 < k) : impl_OrdinalRule_33.f k rs 0 = some (!rulesFrom rs 0 rs.length) := by
 obtain ⟨t, ht, hd⟩ := implRules_l0 rs hr hl rs.length k 0 (by omega) (by omega) (by omega)
 unfold impl_OrdinalRule_33.f impl_OrdinalRule_59.f
 rw [ht, Option.bind_some, hd]
theorem implTerms (n : ByteArray) (ts : List S29) (rs : List S66) (la tw : ByteArray) (ht : ∀ x ∈ ts, szT x) (hlt : ts.length ≤ 12) (hr : ∀ x ∈ rs, szR x) (hl : rs.length ≤ 6) (d : Nat) : ∀ (k : Nat) (i : Int), 0 ≤ i → (ts.length : Int) - i = d → d + 1048710 < k →
  impl_IsValidLocale.l0 k ts (ts.length : Int) i n ts rs la tw = some (termsFrom ts i d && rulesFrom rs 0 rs.length) := by
 induction d with
 | zero =>
  intro k i h0 hd hk
  obtain ⟨k, rfl⟩ := succ_of hk
  rw [impl_IsValidLocale.l0, if_neg (by omega), implRules rs hr hl k (by omega), termsFrom, Bool.true_and, Option.bind_some, Bool.not_not]
 | succ d ih =>
  intro k i h0 hd hk
  obtain ⟨k, rfl⟩ := succ_of hk
  obtain ⟨hz0, hz1, hz2⟩ : szT (rd_T29 ts i) := ht _ (rdT_mem h0 (by omega))
  rw [impl_IsValidLocale.l0, if_pos (by omega), if_pos h0, if_pos (by omega), implKey _ (by omega) k (by omega), Option.bind_some, termsFrom, goodT, w64 (x := i + 1) (by omega) (by omega), w64 (x := i - 1) (by omega) (by omega), ih k (i + 1) (by omega) (by omega) (by omega)]
  cases keyOk (rd_T29 ts i).f0 with
  | false => rw [if_neg Bool.false_ne_true, Bool.false_and, Bool.false_and, Bool.false_and]
  | true =>
   rw [if_pos rfl, Bool.true_and, implText _ (by omega) _ k (by omega), Option.bind_some]
   cases bytesOk (rd_T29 ts i).f1 1 20 32 with
   | false => rw [if_neg Bool.false_ne_true, Bool.false_and, Bool.false_and, Bool.false_and]
   | true =>
    rw [if_pos rfl, Bool.true_and, implText _ (by omega) _ k (by omega), Option.bind_some]
    cases bytesOk (rd_T29 ts i).f2 1 20 32 with
    | false => rw [if_neg Bool.false_ne_true, Bool.false_and, Bool.false_and]
    | true =>
     rw [if_pos rfl, Bool.true_and]
     unfold ordT
     by_cases hi : i > 0
     ·rw [if_pos hi, if_pos (by omega), if_pos (by omega), decide_eq_false (show ¬ i ≤ 0 by omega), Bool.false_or]
      cases Op.bytesLess ((rd_T29 ts (i - 1)).f0).toList ((rd_T29 ts i).f0).toList with
      | false => rw [if_neg Bool.false_ne_true, Bool.false_and, Bool.false_and]
      | true => rw [if_pos rfl, Bool.true_and]
     ·rw [if_neg hi, decide_eq_true (show i ≤ 0 by omega), Bool.true_or, Bool.true_and]
theorem implGood (n : ByteArray) (ts : List S29) (rs : List S66) (la tw : ByteArray) (hn : n.size ≤ 1048576) (ht : ∀ x ∈ ts, szT x) (hr : ∀ x ∈ rs, szR x) (hla : la.size ≤ 1048576) (htw : tw.size ≤ 1048576) (k : Nat) (hk : 1048800 < k) : impl_IsValidLocale.f k n ts rs la tw = some (goodL n ts rs la tw) := by
 obtain ⟨k, rfl⟩ := succ_of hk
 have j1 : impl_IsValidLocale.j0 (k + 1) true n ts rs la tw = some false := by rw [impl_IsValidLocale.j0, if_pos rfl]
 unfold impl_IsValidLocale.f goodL
 rw [implKey n (by omega) _ (by omega), Option.bind_some]
 cases keyOk n with
 | false => rw [if_neg Bool.false_ne_true, Bool.false_and, j1]
 | true =>
  rw [if_pos rfl, Bool.true_and]
  by_cases h12 : (ts.length : Int) > 12
  ·rw [if_pos h12, decide_eq_false (show ¬ (ts.length : Int) ≤ 12 by omega), Bool.false_and, j1]
  ·rw [if_neg h12, decide_eq_true (show (ts.length : Int) ≤ 12 by omega), Bool.true_and]
   by_cases h6 : (rs.length : Int) > 6
   ·rw [if_pos h6, decide_eq_false (show ¬ (rs.length : Int) ≤ 6 by omega), Bool.false_and, j1]
   ·rw [if_neg h6, decide_eq_true (show (rs.length : Int) ≤ 6 by omega), Bool.true_and, implText la (by omega) _ _ (by omega), Option.bind_some]
    cases bytesOk la 1 10 32 with
    | false => rw [if_neg Bool.false_ne_true, Bool.false_and, j1]
    | true =>
     rw [if_pos rfl, Bool.true_and, implText tw (by omega) _ _ (by omega), Option.bind_some]
     cases bytesOk tw 1 10 32 with
     | false => rw [Bool.false_and]; exact j1
     | true =>
      rw [Bool.true_and]
      show impl_IsValidLocale.j0 (k + 1) false n ts rs la tw = _
      rw [impl_IsValidLocale.j0, if_neg Bool.false_ne_true]
      exact implTerms n ts rs la tw ht (by omega) hr (by omega) ts.length k 0 (by omega) (by omega) (by omega)
end Go.Proofs.YtleckcbiifhanaaDoor.P
