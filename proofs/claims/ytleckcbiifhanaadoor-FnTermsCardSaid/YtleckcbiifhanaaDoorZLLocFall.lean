/- The first of several locales that has a term: the program's and the reference's answers are one plain function, for locales whose texts have at most 1048576 bytes each. -/
import Derived.Test.YtleckcbiifhanaaDoorZPx0
import Derived.Test.YtleckcbiifhanaaDoorZPx11
import Derived.Test.YtleckcbiifhanaaDoorZPx14
import Derived.Test.YtleckcbiifhanaaDoorZPx15
import Derived.Test.YtleckcbiifhanaaDoorZPx7
import Derived.Test.YtleckcbiifhanaaDoorZLBase
import Derived.Test.YtleckcbiifhanaaDoorZLLocBytes
import Derived.Test.YtleckcbiifhanaaDoorZLLocFind
import Derived.Test.YtleckcbiifhanaaDoorZLLocGood
import Derived.Test.YtleckcbiifhanaaDoorZLLocNum
namespace Go.Proofs.YtleckcbiifhanaaDoor.P
open Go.RowKit Go.Proofs.YtleckcbiifhanaaDoorW.PrintWords Go.Proofs.YtleckcbiifhanaaDoorW.PrintLast Go.Proofs.YtleckcbiifhanaaDoorW.PrintMore
set_option linter.unusedVariables false
set_option linter.unusedSimpArgs false
def okL1 (x : S27) : Prop := x.f0.size ≤ 1048576 ∧ (x.f1.length ≤ 1048576 ∧ ∀ y ∈ x.f1, szT y) ∧ (x.f2.length ≤ 1048576 ∧ ∀ y ∈ x.f2, szR y) ∧ x.f3.size ≤ 1048576 ∧ x.f4.size ≤ 1048576
def goodL1 (x : S27) : Bool := goodL x.f0 x.f1 x.f2 x.f3 x.f4
def goodsFrom (L : List S27) : Int → Nat → Bool
 | _, 0 => true
 | i, d + 1 => goodL1 (rd_T27 L i) && goodsFrom L (i + 1) d
def firstFrom (L : List S27) (key : ByteArray) (n : Int) : Int → Nat → ByteArray × Int × Bool
 | _, 0 => ((⟨#[]⟩ : ByteArray), 0, false)
 | i, d + 1 => if findT (rd_T27 L i).f1 key ≥ 0 then (formT (rd_T29 (rd_T27 L i).f1 (findT (rd_T27 L i).f1 key)) n, i, true) else firstFrom L key n (i + 1) d
def fallR (L : List S27) (key : ByteArray) (n : Int) : ByteArray × Int × Bool :=
 if (L.length : Int) > 5 then ((⟨#[]⟩ : ByteArray), 0, false) else (if inB n 0 999999 = true then (if goodsFrom L 0 L.length = true then firstFrom L key n 0 L.length else ((⟨#[]⟩ : ByteArray), 0, false)) else ((⟨#[]⟩ : ByteArray), 0, false))
theorem rdL_mem {L : List S27} {i : Int} (h0 : 0 ≤ i) (h1 : i < (L.length : Int)) : rd_T27 L i ∈ L := by
 unfold rd_T27
 have hi : i.toNat < L.length := by omega
 rw [List.getD_eq_getElem?_getD, List.getElem?_eq_getElem hi, Option.getD_some]
 exact List.getElem_mem hi
theorem specGood1 {x : S27} (h : okL1 x) (k : Nat) (hk : 1048800 < k) : spec_l23Good.f k x.f0 x.f1 x.f2 x.f3 x.f4 = some (goodL1 x) := by
 obtain ⟨h1, ⟨_, h3⟩, ⟨_, h5⟩, h6, h7⟩ := h
 exact specGood _ _ _ _ _ h1 h3 h5 h6 h7 k hk
theorem implGood1 {x : S27} (h : okL1 x) (k : Nat) (hk : 1048800 < k) : impl_IsValidLocale.f k x.f0 x.f1 x.f2 x.f3 x.f4 = some (goodL1 x) := by
 obtain ⟨h1, ⟨_, h3⟩, ⟨_, h5⟩, h6, h7⟩ := h
 exact implGood _ _ _ _ _ h1 h3 h5 h6 h7 k hk
theorem findPos {ts : List S29} {key : ByteArray} (h : findT ts key ≥ 0) : findT ts key < (ts.length : Int) := by
 rcases findT_range ts key with q | q
 ·omega
 ·exact q.2
theorem specFirst (L : List S27) (key : ByteArray) (n : Int) (hL : L.length ≤ 5) (hx : ∀ x ∈ L, okL1 x) (d : Nat) : ∀ (k : Nat) (i : Int), 0 ≤ i → (L.length : Int) - i = d → d + 2000000 < k →
  spec_FallbackTerm.l1 k L key n i = some (firstFrom L key n i d) := by
 induction d with
 | zero =>
  intro k i h0 hd hk
  obtain ⟨k, rfl⟩ := succ_of hk
  rw [spec_FallbackTerm.l1, if_neg (by omega), firstFrom]
 | succ d ih =>
  intro k i h0 hd hk
  obtain ⟨k, rfl⟩ := succ_of hk
  obtain ⟨_, ⟨h2, _⟩, _⟩ := hx _ (rdL_mem h0 (show i < (L.length : Int) by omega))
  rw [spec_FallbackTerm.l1, if_pos (by omega), if_pos h0, specFind _ _ _ _ _ _ (by omega) k (by omega), Option.bind_some, firstFrom, w64 (x := i + 1) (by omega) (by omega), ih k (i + 1) (by omega) (by omega) (by omega)]
  by_cases e : findT (rd_T27 L i).f1 key ≥ 0
  ·rw [if_pos e, if_pos e, if_pos e, if_pos (findPos e), specFor, Option.bind_some]
  ·rw [if_neg e, if_neg e]
theorem specFall_l0 (L : List S27) (key : ByteArray) (n : Int) (hL : L.length ≤ 5) (hx : ∀ x ∈ L, okL1 x) (d : Nat) : ∀ (k : Nat) (i : Int), 0 ≤ i → (L.length : Int) - i = d → d + 2000100 < k →
  spec_FallbackTerm.l0 k L key n i = some (if goodsFrom L i d = true then firstFrom L key n 0 L.length else ((⟨#[]⟩ : ByteArray), 0, false)) := by
 induction d with
 | zero =>
  intro k i h0 hd hk
  obtain ⟨k, rfl⟩ := succ_of hk
  rw [spec_FallbackTerm.l0, if_neg (by omega), goodsFrom, if_pos rfl]
  exact specFirst L key n hL hx L.length k 0 (by omega) (by omega) (by omega)
 | succ d ih =>
  intro k i h0 hd hk
  obtain ⟨k, rfl⟩ := succ_of hk
  rw [spec_FallbackTerm.l0, if_pos (by omega), if_pos h0, specGood1 (hx _ (rdL_mem h0 (by omega))) k (by omega), Option.bind_some, goodsFrom, w64 (x := i + 1) (by omega) (by omega), ih k (i + 1) (by omega) (by omega) (by omega)]
  cases goodL1 (rd_T27 L i) with
  | false => rw [if_neg Bool.false_ne_true, Bool.false_and, if_neg Bool.false_ne_true]
  | true => rw [if_pos rfl, Bool.true_and]
theorem specFall (L : List S27) (key : ByteArray) (n : Int) (hx : ∀ x ∈ L, okL1 x) (k : Nat) (hk : 3000000 < k) : spec_FallbackTerm.f k L key n = some (fallR L key n) := by
 obtain ⟨k, rfl⟩ := succ_of hk
 unfold spec_FallbackTerm.f fallR
 by_cases g : (L.length : Int) > 5
 ·rw [if_pos g, if_pos g, spec_FallbackTerm.j0, if_pos rfl]
 ·rw [if_neg g, if_neg g, in_spec, Option.bind_some, spec_FallbackTerm.j0]
  cases inB n 0 999999 with
  | false => rw [if_pos (by decide), if_neg Bool.false_ne_true]
  | true =>
   rw [if_neg (by decide), if_pos rfl]
   exact specFall_l0 L key n (by omega) hx L.length k 0 (by omega) (by omega) (by omega)
theorem implBads_l0 (L : List S27) (hL : L.length ≤ 5) (hx : ∀ x ∈ L, okL1 x) (d : Nat) : ∀ (k : Nat) (i : Int), 0 ≤ i → (L.length : Int) - i = d → d + 1048800 < k →
  ∃ t, impl_Locale_56.l0 k L (L.length : Int) i = some t ∧ decide (t ≥ 0) = !goodsFrom L i d := by
 induction d with
 | zero =>
  intro k i h0 hd hk
  obtain ⟨k, rfl⟩ := succ_of hk
  rw [impl_Locale_56.l0, if_neg (by omega), goodsFrom]
  exact ⟨_, rfl, by decide⟩
 | succ d ih =>
  intro k i h0 hd hk
  obtain ⟨k, rfl⟩ := succ_of hk
  obtain ⟨t, ht, hd2⟩ := ih k (i + 1) (by omega) (by omega) (by omega)
  rw [impl_Locale_56.l0, if_pos (by omega), if_pos h0, if_pos (by omega), impl_FallbackTerm_1.f, implGood1 (hx _ (rdL_mem h0 (by omega))) k (by omega), Option.bind_some, Option.bind_some, goodsFrom, w64 (x := i + 1) (by omega) (by omega)]
  cases goodL1 (rd_T27 L i) with
  | false =>
   refine ⟨i, by simp, ?_⟩
   rw [decide_eq_true (show i ≥ 0 from h0)]
   rfl
  | true => exact ⟨t, by simpa using ht, by rw [hd2, Bool.true_and]⟩
theorem implFirst (L : List S27) (key : ByteArray) (n : Int) (hL : L.length ≤ 5) (hx : ∀ x ∈ L, okL1 x) (d : Nat) : ∀ (k : Nat) (i : Int), 0 ≤ i → (L.length : Int) - i = d → d < k →
  impl_FallbackTerm.l0 k key n L (L.length : Int) i = some (firstFrom L key n i d) := by
 induction d with
 | zero =>
  intro k i h0 hd hk
  obtain ⟨k, rfl⟩ := succ_of hk
  rw [impl_FallbackTerm.l0, if_neg (by omega), firstFrom]
 | succ d ih =>
  intro k i h0 hd hk
  obtain ⟨k, rfl⟩ := succ_of hk
  obtain ⟨_, ⟨h2, _⟩, _⟩ := hx _ (rdL_mem h0 (show i < (L.length : Int) by omega))
  rw [impl_FallbackTerm.l0, if_pos (by omega), if_pos h0, if_pos (by omega), implFind _ _ _ _ _ _ (by omega), Option.bind_some, firstFrom, w64 (x := i + 1) (by omega) (by omega), ih k (i + 1) (by omega) (by omega) (by omega)]
  by_cases e : findT (rd_T27 L i).f1 key ≥ 0
  ·rw [if_pos e, if_pos e, implFor _ _ _ _ _ _ n e (findPos e), Option.bind_some]
  ·rw [if_neg e, if_neg e]
theorem implFall (L : List S27) (key : ByteArray) (n : Int) (hx : ∀ x ∈ L, okL1 x) (k : Nat) (hk : 3000000 < k) : impl_FallbackTerm.f k L key n = some (fallR L key n) := by
 obtain ⟨k, rfl⟩ := succ_of hk
 have hj : impl_FallbackTerm.j0 (k + 1) L key n true = some ((⟨#[]⟩ : ByteArray), 0, false) := by rw [impl_FallbackTerm.j0, if_pos rfl]
 unfold impl_FallbackTerm.f fallR
 by_cases g : (L.length : Int) > 5
 ·rw [if_pos g, if_pos g, hj]
 ·rw [if_neg g, if_neg g, implNumber, Option.bind_some]
  cases inB n 0 999999 with
  | false => rw [if_neg Bool.false_ne_true, if_neg Bool.false_ne_true, hj]
  | true =>
   obtain ⟨t, ht, hd⟩ := implBads_l0 L (by omega) hx L.length (k + 1) 0 (by omega) (by omega) (by omega)
   rw [if_pos rfl, if_pos rfl, impl_Locale_29.f, impl_Locale_56.f, ht, Option.bind_some, hd, Option.bind_some]
   cases goodsFrom L 0 L.length with
   | false => rw [if_neg Bool.false_ne_true]; exact hj
   | true =>
    rw [if_pos rfl]
    show impl_FallbackTerm.j0 (k + 1) L key n false = _
    rw [impl_FallbackTerm.j0, if_neg Bool.false_ne_true]
    exact implFirst L key n (by omega) hx L.length k 0 (by omega) (by omega) (by omega)
end Go.Proofs.YtleckcbiifhanaaDoor.P
