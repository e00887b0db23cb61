/- Adding a term: the program's and the reference's answers are one plain function, for locales whose texts have at most 1048576 bytes each. -/
import Derived.Test.YtleckcbiifhanaaDoorZPx0
import Derived.Test.YtleckcbiifhanaaDoorZPx12
import Derived.Test.YtleckcbiifhanaaDoorZPx13
import Derived.Test.YtleckcbiifhanaaDoorZPx8
import Derived.Test.YtleckcbiifhanaaDoorZPx9
import Derived.Test.YtleckcbiifhanaaDoorZLBase
import Derived.Test.YtleckcbiifhanaaDoorZLLocGood
namespace Go.Proofs.YtleckcbiifhanaaDoor.P
open Go.RowKit Go.Proofs.YtleckcbiifhanaaDoorW.PrintWords Go.Proofs.YtleckcbiifhanaaDoorW.PrintLast Go.Proofs.YtleckcbiifhanaaDoorW.PrintMore
set_option linter.unusedVariables false
set_option linter.unusedSimpArgs false
def posT (ts : List S29) (key : ByteArray) : Int → Nat → Int
 | i, 0 => i
 | i, d + 1 => if Op.bytesLess ((rd_T29 ts i).f0).toList key.toList = true then posT ts key (i + 1) d else i
theorem posT_range (ts : List S29) (key : ByteArray) : ∀ (d : Nat) (i : Int), i ≤ posT ts key i d ∧ posT ts key i d ≤ i + d
 | 0, i => by rw [posT]; omega
 | d + 1, i => by
  rw [posT]
  split
  ·have := posT_range ts key d (i + 1)
   omega
  ·omega
def eqAt (ts : List S29) (key : ByteArray) (p : Int) : Bool := decide (p < (ts.length : Int)) && ((rd_T29 ts p).f0.toList == key.toList)
def addAt (ts : List S29) (t : S29) (p : Int) : List S29 :=
 if eqAt ts t.f0 p = true then ts.set p.toNat t else ts.take p.toNat ++ ([t] ++ ts.drop p.toNat)
def zeroL : ByteArray × List S29 × List S66 × ByteArray × ByteArray × Bool := ((⟨#[]⟩ : ByteArray), [], [], (⟨#[]⟩ : ByteArray), (⟨#[]⟩ : ByteArray), false)
def endL (n : ByteArray) (ts : List S29) (rs : List S66) (la tw : ByteArray) : ByteArray × List S29 × List S66 × ByteArray × ByteArray × Bool :=
 if goodL n ts rs la tw = true then (n, ts, rs, la, tw, true) else zeroL
theorem addAt_len (ts : List S29) (t : S29) (p : Int) : (addAt ts t p).length ≤ ts.length + 1 := by
 unfold addAt
 split
 ·rw [List.length_set]; omega
 ·rw [List.length_append, List.length_append, List.length_take, List.length_drop, List.length_singleton]; omega
theorem addAt_mem (ts : List S29) (t : S29) (p : Int) (ht : szT t) (hs : ∀ x ∈ ts, szT x) : ∀ x ∈ addAt ts t p, szT x := by
 intro x hx
 unfold addAt at hx
 split at hx
 ·rcases List.mem_or_eq_of_mem_set hx with h | h
  ·exact hs x h
  ·rw [h]; exact ht
 ·rw [List.mem_append, List.mem_append, List.mem_singleton] at hx
  rcases hx with h | h | h
  ·exact hs x (List.mem_of_mem_take h)
  ·rw [h]; exact ht
  ·exact hs x (List.mem_of_mem_drop h)
theorem specAdd_j3 (n : ByteArray) (ts : List S29) (rs : List S66) (la tw : ByteArray) (t : S29) (hn : n.size ≤ 1048576) (htl : ts.length ≤ 2000000) (ht : ∀ x ∈ ts, szT x) (hr : ∀ x ∈ rs, szR x) (hla : la.size ≤ 1048576) (htw : tw.size ≤ 1048576) (hz : szT t) (p : Int) (h0 : 0 ≤ p) (h1 : p ≤ (ts.length : Int)) (q : Int) (hq0 : 0 ≤ q) (hq1 : q ≤ (ts.length : Int)) (ha : addAt ts t p = ([] ++ ts.take p.toNat) ++ [(⟨t.f0, t.f1, t.f2⟩ : S29)] ++ ts.drop q.toNat) (k : Nat) (hk : 1048895 < k) :
  spec_AddTerm.j3 k p q n ts rs la tw t.f0 t.f1 t.f2 n ts rs la tw = some (endL n (addAt ts t p) rs la tw) := by
 obtain ⟨k, rfl⟩ := succ_of hk
 rw [spec_AddTerm.j3]
 have hmem := addAt_mem ts t p hz ht
 have hg := specGood n (addAt ts t p) rs la tw hn hmem hr hla htw k (by omega)
 have hl1 : ([] : List S29).length + (ts.take p.toNat).length < 2932031007402 := by rw [List.length_nil, List.length_take]; omega
 have hl2 : (([] : List S29) ++ ts.take p.toNat).length + ([(⟨t.f0, t.f1, t.f2⟩ : S29)]).length < 2932031007402 := by rw [List.nil_append, List.length_take, List.length_singleton]; omega
 rw [Option.bind_some, if_pos h0, if_pos h1, Option.bind_some, if_pos hl1, Option.bind_some, Option.bind_some, if_pos hl2, Option.bind_some, if_pos hq0, if_pos hq1, Option.bind_some,
  if_pos (by rw [List.length_append, List.nil_append, List.length_take, List.length_singleton, List.length_drop]; omega), Option.bind_some, ← ha, hg, Option.bind_some]
 unfold endL zeroL
 split <;> rfl
theorem specAdd_j2 (n : ByteArray) (ts : List S29) (rs : List S66) (la tw : ByteArray) (t : S29) (hn : n.size ≤ 1048576) (htl : ts.length ≤ 2000000) (ht : ∀ x ∈ ts, szT x) (hr : ∀ x ∈ rs, szR x) (hla : la.size ≤ 1048576) (htw : tw.size ≤ 1048576) (hz : szT t) (p : Int) (h0 : 0 ≤ p) (h1 : p ≤ (ts.length : Int)) (k : Nat) (hk : 1048900 < k) :
  spec_AddTerm.j2 k p p (eqAt ts t.f0 p) n ts rs la tw t.f0 t.f1 t.f2 n ts rs la tw = some (endL n (addAt ts t p) rs la tw) := by
 obtain ⟨k, rfl⟩ := succ_of hk
 rw [spec_AddTerm.j2]
 cases he : eqAt ts t.f0 p with
 | true =>
  have hlt : p < (ts.length : Int) := by
   unfold eqAt at he
   rw [Bool.and_eq_true] at he
   exact of_decide_eq_true he.1
  have ha : addAt ts t p = ([] ++ ts.take p.toNat) ++ [(⟨t.f0, t.f1, t.f2⟩ : S29)] ++ ts.drop (p + 1).toNat := by
   unfold addAt
   rw [if_pos he, List.set_eq_take_append_cons_drop, if_pos (by omega), List.nil_append, List.append_assoc, show (p + 1).toNat = p.toNat + 1 by omega]
   rfl
  rw [if_pos rfl, w64 (x := p + 1) (by omega) (by omega)]
  exact specAdd_j3 n ts rs la tw t hn htl ht hr hla htw hz p h0 h1 (p + 1) (by omega) (by omega) ha k (by omega)
 | false =>
  have ha : addAt ts t p = ([] ++ ts.take p.toNat) ++ [(⟨t.f0, t.f1, t.f2⟩ : S29)] ++ ts.drop p.toNat := by
   unfold addAt
   rw [if_neg (by rw [he]; exact Bool.false_ne_true), List.nil_append, List.append_assoc]
  rw [if_neg Bool.false_ne_true]
  exact specAdd_j3 n ts rs la tw t hn htl ht hr hla htw hz p h0 h1 p h0 h1 ha k (by omega)
theorem implAdd_j2 (n : ByteArray) (ts : List S29) (rs : List S66) (la tw : ByteArray) (t : S29) (hn : n.size ≤ 1048576) (htl : ts.length ≤ 2000000) (ht : ∀ x ∈ ts, szT x) (hr : ∀ x ∈ rs, szR x) (hla : la.size ≤ 1048576) (htw : tw.size ≤ 1048576) (hz : szT t) (p : Int) (h0 : 0 ≤ p) (h1 : p ≤ (ts.length : Int)) (k : Nat) (hk : 1048910 < k) :
  impl_AddTerm.j2 k p (eqAt ts t.f0 p) t.f0 t.f1 t.f2 n ts rs la tw = some (endL n (addAt ts t p) rs la tw) := by
 obtain ⟨k, rfl⟩ := succ_of hk
 rw [impl_AddTerm.j2]
 have hmem := addAt_mem ts t p hz ht
 have h3 : impl_AddTerm.j3 k n (addAt ts t p) rs la tw = some (endL n (addAt ts t p) rs la tw) := by
  obtain ⟨k, rfl⟩ := succ_of (show 0 < k by omega)
  rw [impl_AddTerm.j3, implGood n (addAt ts t p) rs la tw hn hmem hr hla htw k (by omega), Option.bind_some]
  unfold endL zeroL
  split <;> rfl
 cases he : eqAt ts t.f0 p with
 | true =>
  have hlt : p < (ts.length : Int) := by
   unfold eqAt at he
   rw [Bool.and_eq_true] at he
   exact of_decide_eq_true he.1
  have ha : addAt ts t p = ts.set p.toNat ⟨t.f0, t.f1, t.f2⟩ := by
   unfold addAt
   rw [if_pos he]
  rw [if_pos rfl, if_pos h0, if_pos hlt, ← ha, h3]
 | false =>
  have ha : addAt ts t p = ts.take p.toNat ++ ([(⟨t.f0, t.f1, t.f2⟩ : S29)] ++ ts.drop p.toNat) := by
   unfold addAt
   rw [if_neg (by rw [he]; exact Bool.false_ne_true)]
  rw [if_neg Bool.false_ne_true, impl_Term.f, if_pos ⟨h0, h1, rfl, by omega⟩, Option.bind_some, ← ha, h3]
theorem eqAt_ge (ts : List S29) (key : ByteArray) (p : Int) (h : ¬ p < (ts.length : Int)) : eqAt ts key p = false := by
 unfold eqAt
 rw [decide_eq_false h, Bool.false_and]
theorem eqAt_lt (ts : List S29) (key : ByteArray) (p : Int) (h : p < (ts.length : Int)) : eqAt ts key p = ((rd_T29 ts p).f0.toList == key.toList) := by
 unfold eqAt
 rw [decide_eq_true h, Bool.true_and]
theorem specAdd_j1 (n : ByteArray) (ts : List S29) (rs : List S66) (la tw : ByteArray) (t : S29) (hn : n.size ≤ 1048576) (htl : ts.length ≤ 2000000) (ht : ∀ x ∈ ts, szT x) (hr : ∀ x ∈ rs, szR x) (hla : la.size ≤ 1048576) (htw : tw.size ≤ 1048576) (hz : szT t) (p : Int) (h0 : 0 ≤ p) (h1 : p ≤ (ts.length : Int)) (k : Nat) (hk : 1048915 < k) :
  spec_AddTerm.j1 k p n ts rs la tw t.f0 t.f1 t.f2 n ts rs la tw = some (endL n (addAt ts t p) rs la tw) := by
 obtain ⟨k, rfl⟩ := succ_of hk
 have h := specAdd_j2 n ts rs la tw t hn htl ht hr hla htw hz p h0 h1 k (by omega)
 rw [spec_AddTerm.j1]
 by_cases hp : p < (ts.length : Int)
 ·rw [eqAt_lt ts t.f0 p hp] at h
  rw [if_pos hp, if_pos h0, h]
 ·rw [eqAt_ge ts t.f0 p hp] at h
  rw [if_neg hp, h]
theorem implAdd_j1 (n : ByteArray) (ts : List S29) (rs : List S66) (la tw : ByteArray) (t : S29) (hn : n.size ≤ 1048576) (htl : ts.length ≤ 2000000) (ht : ∀ x ∈ ts, szT x) (hr : ∀ x ∈ rs, szR x) (hla : la.size ≤ 1048576) (htw : tw.size ≤ 1048576) (hz : szT t) (p : Int) (h0 : 0 ≤ p) (h1 : p ≤ (ts.length : Int)) (k : Nat) (hk : 1048915 < k) :
  impl_AddTerm.j1 k p t.f0 t.f1 t.f2 n ts rs la tw = some (endL n (addAt ts t p) rs la tw) := by
 obtain ⟨k, rfl⟩ := succ_of hk
 have h := implAdd_j2 n ts rs la tw t hn htl ht hr hla htw hz p h0 h1 k (by omega)
 rw [impl_AddTerm.j1]
 by_cases hp : p < (ts.length : Int)
 ·rw [eqAt_lt ts t.f0 p hp] at h
  rw [if_pos hp, if_pos h0, h]
 ·rw [eqAt_ge ts t.f0 p hp] at h
  rw [if_neg hp, h]
theorem specAdd_l0 (n : ByteArray) (ts : List S29) (rs : List S66) (la tw : ByteArray) (t : S29) (hn : n.size ≤ 1048576) (htl : ts.length ≤ 2000000) (ht : ∀ x ∈ ts, szT x) (hr : ∀ x ∈ rs, szR x) (hla : la.size ≤ 1048576) (htw : tw.size ≤ 1048576) (hz : szT t) (d : Nat) : ∀ (k : Nat) (i : Int), 0 ≤ i → (ts.length : Int) - i = d → d + 1048920 < k →
  spec_AddTerm.l0 k i n ts rs la tw t.f0 t.f1 t.f2 n ts rs la tw = some (endL n (addAt ts t (posT ts t.f0 i d)) rs la tw) := by
 induction d with
 | zero =>
  intro k i h0 hd hk
  obtain ⟨k, rfl⟩ := succ_of hk
  rw [spec_AddTerm.l0, if_neg (by omega), specAdd_j1 n ts rs la tw t hn htl ht hr hla htw hz i h0 (by omega) k (by omega), posT]
 | succ d ih =>
  intro k i h0 hd hk
  obtain ⟨k, rfl⟩ := succ_of hk
  rw [spec_AddTerm.l0, if_pos (by omega), if_pos h0, w64 (x := i + 1) (by omega) (by omega), ih k (i + 1) (by omega) (by omega) (by omega), specAdd_j1 n ts rs la tw t hn htl ht hr hla htw hz i h0 (by omega) k (by omega), posT]
  split <;> rfl
theorem implAdd_l0 (n : ByteArray) (ts : List S29) (rs : List S66) (la tw : ByteArray) (t : S29) (hn : n.size ≤ 1048576) (htl : ts.length ≤ 2000000) (ht : ∀ x ∈ ts, szT x) (hr : ∀ x ∈ rs, szR x) (hla : la.size ≤ 1048576) (htw : tw.size ≤ 1048576) (hz : szT t) (d : Nat) : ∀ (k : Nat) (i : Int), 0 ≤ i → (ts.length : Int) - i = d → d + 1048920 < k →
  impl_AddTerm.l0 k i t.f0 t.f1 t.f2 n ts rs la tw = some (endL n (addAt ts t (posT ts t.f0 i d)) rs la tw) := by
 induction d with
 | zero =>
  intro k i h0 hd hk
  obtain ⟨k, rfl⟩ := succ_of hk
  rw [impl_AddTerm.l0, if_neg (by omega), implAdd_j1 n ts rs la tw t hn htl ht hr hla htw hz i h0 (by omega) k (by omega), posT]
 | succ d ih =>
  intro k i h0 hd hk
  obtain ⟨k, rfl⟩ := succ_of hk
  rw [impl_AddTerm.l0, if_pos (by omega), if_pos h0, w64 (x := i + 1) (by omega) (by omega), ih k (i + 1) (by omega) (by omega) (by omega), implAdd_j1 n ts rs la tw t hn htl ht hr hla htw hz i h0 (by omega) k (by omega), posT]
  split <;> rfl
def addTL (ts : List S29) (t : S29) : List S29 := addAt ts t (posT ts t.f0 0 ts.length)
def addR (n : ByteArray) (ts : List S29) (rs : List S66) (la tw : ByteArray) (t : S29) : ByteArray × List S29 × List S66 × ByteArray × ByteArray × Bool :=
 if goodL n ts rs la tw = true then endL n (addTL ts t) rs la tw else zeroL
theorem addBoth (n : ByteArray) (ts : List S29) (rs : List S66) (la tw : ByteArray) (t : S29) (hn : n.size ≤ 1048576) (htl : ts.length ≤ 2000000) (hrl : rs.length ≤ 2000000) (ht : ∀ x ∈ ts, szT x) (hr : ∀ x ∈ rs, szR x) (hla : la.size ≤ 1048576) (htw : tw.size ≤ 1048576) (hz : szT t) (k : Nat) (hk : 4000000 < k) :
  spec_AddTerm.f k n ts rs la tw t.f0 t.f1 t.f2 = some (addR n ts rs la tw t) ∧ impl_AddTerm.f k n ts rs la tw t.f0 t.f1 t.f2 = some (addR n ts rs la tw t) := by
 have e1 : ([] : List S29).length = 0 := rfl
 have e2 : ([] : List S66).length = 0 := rfl
 have hs : spec_l23Own.f n ts rs la tw = some (n, ts, rs, la, tw) := by
  unfold spec_l23Own.f
  simp only [Option.bind_some]
  rw [if_pos (by omega), if_pos (by omega), List.nil_append, List.nil_append]
 have hi : impl_newLocale.f n ts rs la tw = some (n, ts, rs, la, tw) := by
  unfold impl_newLocale.f
  simp only [Option.bind_some]
  rw [if_pos (by omega), if_pos (by omega), List.nil_append, List.nil_append]
 unfold spec_AddTerm.f impl_AddTerm.f addR
 rw [specGood n ts rs la tw hn ht hr hla htw k (by omega), implGood n ts rs la tw hn ht hr hla htw k (by omega), hs, hi]
 simp only [Option.bind_some]
 cases goodL n ts rs la tw with
 | false =>
  rw [if_neg Bool.false_ne_true, if_neg Bool.false_ne_true, if_neg Bool.false_ne_true]
  exact ⟨rfl, rfl⟩
 | true =>
  rw [if_pos rfl, if_pos rfl, if_pos rfl]
  exact ⟨specAdd_l0 n ts rs la tw t hn htl ht hr hla htw hz ts.length k 0 (by omega) (by omega) (by omega), implAdd_l0 n ts rs la tw t hn htl ht hr hla htw hz ts.length k 0 (by omega) (by omega) (by omega)⟩
theorem addR_len (n : ByteArray) (ts : List S29) (rs : List S66) (la tw : ByteArray) (t : S29) : (addR n ts rs la tw t).2.1.length ≤ ts.length + 1 ∧ (addR n ts rs la tw t).2.2.1.length ≤ rs.length := by
 unfold addR endL zeroL
 split
 ·split
  ·exact ⟨addAt_len _ _ _, Nat.le_refl _⟩
  ·exact ⟨Nat.zero_le _, Nat.zero_le _⟩
 ·exact ⟨Nat.zero_le _, Nat.zero_le _⟩
end Go.Proofs.YtleckcbiifhanaaDoor.P
