/- The first of several locales that has a term: the program's and the reference's answers are one plain function, for locales whose texts have at most 1048576 bytes each. -/
import Derived.Test.YtmkkcpdpfelalaaZPx0
import Derived.Test.YtmkkcpdpfelalaaZPx14
import Derived.Test.YtmkkcpdpfelalaaZPx15
import Derived.Test.YtmkkcpdpfelalaaZPx16
import Derived.Test.YtmkkcpdpfelalaaZPx2
import Derived.Test.YtmkkcpdpfelalaaZPx5
import Derived.Test.YtmkkcpdpfelalaaZLBase
import Derived.Test.YtmkkcpdpfelalaaZLLocConv
import Derived.Test.YtmkkcpdpfelalaaZLLocFind
import Derived.Test.YtmkkcpdpfelalaaZLLocGood
import Derived.Test.YtmkkcpdpfelalaaZLLocText
namespace Go.Proofs.Ytmkkcpdpfelalaa.P
open Go.RowKit Go.Proofs.YtmkkcpdpfelalaaW.PrintWords Go.Proofs.YtmkkcpdpfelalaaW.PrintLast Go.Proofs.YtmkkcpdpfelalaaW.PrintMore
set_option linter.unusedVariables false
set_option linter.unusedSimpArgs false
def okL1 (x : S31) : Prop := x.f0.size ≤ 1048576 ∧ (x.f1.length ≤ 1048576 ∧ ∀ y ∈ x.f1, szT y) ∧ (x.f2.length ≤ 1048576 ∧ ∀ y ∈ x.f2, szR y) ∧ x.f3.size ≤ 1048576 ∧ x.f4.size ≤ 1048576
def goodL1 (x : S31) : Bool := goodL x.f0 x.f1 x.f2 x.f3 x.f4
def goodsFrom (L : List S31) : Int → Nat → Bool
 | _, 0 => true
 | i, d + 1 => goodL1 (rd_T31 L i) && goodsFrom L (i + 1) d
def firstFrom (L : List S31) (key : ByteArray) (n : Int) : Int → Nat → ByteArray × Int × Bool
 | _, 0 => ((⟨#[]⟩ : ByteArray), 0, false)
 | i, d + 1 => if findT (rd_T31 L i).f1 key ≥ 0 then (formT (rd_T61 (rd_T31 L i).f1 (findT (rd_T31 L i).f1 key)) n, i, true) else firstFrom L key n (i + 1) d
def fallR (L : List S31) (key : ByteArray) (n : Int) : ByteArray × Int × Bool :=
 if (L.length : Int) > 5 then ((⟨#[]⟩ : ByteArray), 0, false) else (if inB n 0 999999 = true then (if goodsFrom L 0 L.length = true then firstFrom L key n 0 L.length else ((⟨#[]⟩ : ByteArray), 0, false)) else ((⟨#[]⟩ : ByteArray), 0, false))
theorem rdL_mem {L : List S31} {i : Int} (h0 : 0 ≤ i) (h1 : i < (L.length : Int)) : rd_T31 L i ∈ L := by
 unfold rd_T31
 have hi : i.toNat < L.length := by omega
 rw [List.getD_eq_getElem?_getD, List.getElem?_eq_getElem hi, Option.getD_some]
 exact List.getElem_mem hi
theorem specGood1 {x : S31} (h : okL1 x) (k : Nat) (hk : 1048800 < k) : spec_l23Good.f k x.f0 x.f1 x.f2 x.f3 x.f4 = some (goodL1 x) := by
 obtain ⟨h1, ⟨_, h3⟩, ⟨_, h5⟩, h6, h7⟩ := h
 exact specGood _ _ _ _ _ h1 h3 h5 h6 h7 k hk
theorem implGood1 {x : S31} (h : okL1 x) (k : Nat) (hk : 1048800 < k) : impl_IsValidLocale.f k x.f0 x.f1 x.f2 x.f3 x.f4 = some (goodL1 x) := by
 obtain ⟨h1, ⟨_, h3⟩, ⟨_, h5⟩, h6, h7⟩ := h
 exact implGood _ _ _ _ _ h1 h3 h5 h6 h7 k hk
theorem findPos {ts : List S61} {key : ByteArray} (h : findT ts key ≥ 0) : findT ts key < (ts.length : Int) := by
 rcases findT_range ts key with q | q
 ·omega
 ·exact q.2
theorem specFirst (L : List S31) (key : ByteArray) (n : Int) (hL : L.length ≤ 5) (hx : ∀ x ∈ L, okL1 x) (d : Nat) : ∀ (k : Nat) (i : Int), 0 ≤ i → (L.length : Int) - i = d → d + 2000000 < k →
  spec_FallbackTerm.l1 k L key n i = some (firstFrom L key n i d) := by
 induction d with
 | zero =>
  intro k i h0 hd hk
  obtain ⟨k, rfl⟩ := succ_of hk
  rw [spec_FallbackTerm.l1, if_neg (by omega), firstFrom]
 | succ d ih =>
  intro k i h0 hd hk
  obtain ⟨k, rfl⟩ := succ_of hk
  obtain ⟨_, ⟨h2, _⟩, _⟩ := hx _ (rdL_mem h0 (show i < (L.length : Int) by omega))
  rw [spec_FallbackTerm.l1, if_pos (by omega), if_pos h0, specFind _ _ _ _ _ _ (by omega) k (by omega), Option.bind_some, firstFrom, w64 (x := i + 1) (by omega) (by omega), ih k (i + 1) (by omega) (by omega) (by omega)]
  by_cases e : findT (rd_T31 L i).f1 key ≥ 0
  ·rw [if_pos e, if_pos e, if_pos e, if_pos (findPos e), specFor, Option.bind_some]
  ·rw [if_neg e, if_neg e]
theorem specFall_l0 (L : List S31) (key : ByteArray) (n : Int) (hL : L.length ≤ 5) (hx : ∀ x ∈ L, okL1 x) (d : Nat) : ∀ (k : Nat) (i : Int), 0 ≤ i → (L.length : Int) - i = d → d + 2000100 < k →
  spec_FallbackTerm.l0 k L key n i = some (if goodsFrom L i d = true then firstFrom L key n 0 L.length else ((⟨#[]⟩ : ByteArray), 0, false)) := by
 induction d with
 | zero =>
  intro k i h0 hd hk
  obtain ⟨k, rfl⟩ := succ_of hk
  rw [spec_FallbackTerm.l0, if_neg (by omega), goodsFrom, if_pos rfl]
  exact specFirst L key n hL hx L.length k 0 (by omega) (by omega) (by omega)
 | succ d ih =>
  intro k i h0 hd hk
  obtain ⟨k, rfl⟩ := succ_of hk
  rw [spec_FallbackTerm.l0, if_pos (by omega), if_pos h0, specGood1 (hx _ (rdL_mem h0 (by omega))) k (by omega), Option.bind_some, goodsFrom, w64 (x := i + 1) (by omega) (by omega), ih k (i + 1) (by omega) (by omega) (by omega)]
  cases goodL1 (rd_T31 L i) with
  | false => rw [if_neg Bool.false_ne_true, Bool.false_and, if_neg Bool.false_ne_true]
  | true => rw [if_pos rfl, Bool.true_and]
theorem specFall (L : List S31) (key : ByteArray) (n : Int) (hx : ∀ x ∈ L, okL1 x) (k : Nat) (hk : 3000000 < k) : spec_FallbackTerm.f k L key n = some (fallR L key n) := by
 obtain ⟨k, rfl⟩ := succ_of hk
 unfold spec_FallbackTerm.f fallR
 by_cases g : (L.length : Int) > 5
 ·rw [if_pos g, if_pos g, spec_FallbackTerm.j0, if_pos rfl]
 ·rw [if_neg g, if_neg g, in_spec, Option.bind_some, spec_FallbackTerm.j0]
  cases inB n 0 999999 with
  | false => rw [if_pos (by decide), if_neg Bool.false_ne_true]
  | true =>
   rw [if_neg (by decide), if_pos rfl]
   exact specFall_l0 L key n (by omega) hx L.length k 0 (by omega) (by omega) (by omega)
theorem implBads_l0 (L : List S31) (hL : L.length ≤ 5) (hx : ∀ x ∈ L, okL1 x) (d : Nat) : ∀ (k : Nat) (i : Int), 0 ≤ i → (L.length : Int) - i = d → d + 1048800 < k →
  ∃ t, impl_Locale_81.l0 k L (L.length : Int) i = some t ∧ decide (t ≥ 0) = !goodsFrom L i d := by
 induction d with
 | zero =>
  intro k i h0 hd hk
  obtain ⟨k, rfl⟩ := succ_of hk
  rw [impl_Locale_81.l0, if_neg (by omega), goodsFrom]
  exact ⟨_, rfl, by decide⟩
 | succ d ih =>
  intro k i h0 hd hk
  obtain ⟨k, rfl⟩ := succ_of hk
  obtain ⟨t, ht, hd2⟩ := ih k (i + 1) (by omega) (by omega) (by omega)
  rw [impl_Locale_81.l0, if_pos (by omega), if_pos h0, if_pos (by omega), impl_FallbackTerm_1.f, implGood1 (hx _ (rdL_mem h0 (by omega))) k (by omega), Option.bind_some, Option.bind_some, goodsFrom, w64 (x := i + 1) (by omega) (by omega)]
  cases goodL1 (rd_T31 L i) with
  | false =>
   refine ⟨i, by simp, ?_⟩
   rw [decide_eq_true (show i ≥ 0 from h0)]
   rfl
  | true => exact ⟨t, by simpa using ht, by rw [hd2, Bool.true_and]⟩
theorem implFirst (L : List S31) (key : ByteArray) (n : Int) (hL : L.length ≤ 5) (hx : ∀ x ∈ L, okL1 x) (d : Nat) : ∀ (k : Nat) (i : Int), 0 ≤ i → (L.length : Int) - i = d → d < k →
  impl_FallbackTerm.l0 k key n L (L.length : Int) i = some (firstFrom L key n i d) := by
 induction d with
 | zero =>
  intro k i h0 hd hk
  obtain ⟨k, rfl⟩ := succ_of hk
  rw [impl_FallbackTerm.l0, if_neg (by omega), firstFrom]
 | succ d ih =>
  intro k i h0 hd hk
  obtain ⟨k, rfl⟩ := succ_of hk
  obtain ⟨_, ⟨h2, _⟩, _⟩ := hx _ (rdL_mem h0 (show i < (L.length : Int) by omega))
  rw [impl_FallbackTerm.l0, if_pos (by omega), if_pos h0, if_pos (by omega), implFind _ _ _ _ _ _ (by omega), Option.bind_some, firstFrom, w64 (x := i + 1) (by omega) (by omega), ih k (i + 1) (by omega) (by omega) (by omega)]
  by_cases e : findT (rd_T31 L i).f1 key ≥ 0
  ·rw [if_pos e, if_pos e, implFor _ _ _ _ _ _ n e (findPos e), Option.bind_some]
  ·rw [if_neg e, if_neg e]
theorem implFall (L : List S31) (key : ByteArray) (n : Int) (hx : ∀ x ∈ L, okL1 x) (k : Nat) (hk : 3000000 < k) : impl_FallbackTerm.f k L key n = some (fallR L key n) := by
 obtain ⟨k, rfl⟩ := succ_of hk
 have hj : impl_FallbackTerm.j0 (k + 1) L key n true = some ((⟨#[]⟩ : ByteArray), 0, false) := by rw [impl_FallbackTerm.j0, if_pos rfl]
 unfold impl_FallbackTerm.f fallR
 by_cases g : (L.length : Int) > 5
 ·rw [if_pos g, if_pos g, hj]
 ·rw [if_neg g, if_neg g, implNumber, Option.bind_some]
  cases inB n 0 999999 with
  | false => rw [if_neg Bool.false_ne_true, if_neg Bool.false_ne_true, hj]
  | true =>
   obtain ⟨t, ht, hd⟩ := implBads_l0 L (by omega) hx L.length (k + 1) 0 (by omega) (by omega) (by omega)
   rw [if_pos rfl, if_pos rfl, impl_Locale_54.f, impl_Locale_81.f, ht, Option.bind_some, hd, Option.bind_some]
   cases goodsFrom L 0 L.length with
   | false => rw [if_neg Bool.false_ne_true]; exact hj
   | true =>
    rw [if_pos rfl]
    show impl_FallbackTerm.j0 (k + 1) L key n false = _
    rw [impl_FallbackTerm.j0, if_neg Bool.false_ne_true]
    exact implFirst L key n (by omega) hx L.length k 0 (by omega) (by omega) (by omega)
def cL (x : S25) : S31 := ⟨x.f0, x.f1.map cT, x.f2.map cR, x.f3, x.f4⟩
theorem rdLm {l : List S25} {i : Nat} (h : i < l.length) : rd_T25 l (i : Int) = l[i] := by
 unfold rd_T25
 rw [Int.toNat_natCast, List.getD_eq_getElem?_getD, List.getElem?_eq_getElem h, Option.getD_some]
theorem toLocs_l0 (l : List S25) (hl : l.length ≤ 2000000) (hx : ∀ x ∈ l, okL1 (cL x)) (d : Nat) : ∀ (k i : Nat) (x : List S31), x.length = l.length → l.length - i = d → i ≤ l.length → d + 2000000 < k →
  laws_toLocaleS.l0 k l x (i : Int) = some (x.take i ++ (l.drop i).map cL) := by
 induction d with
 | zero =>
  intro k i x hxl hd hi hk
  obtain ⟨k, rfl⟩ := succ_of hk
  rw [laws_toLocaleS.l0, if_neg (by omega), List.take_of_length_le (by omega), List.drop_of_length_le (by omega), List.map_nil, List.append_nil]
 | succ d ih =>
  intro k i x hxl hd hi hk
  obtain ⟨k, rfl⟩ := succ_of hk
  have hlt : i < l.length := by omega
  obtain ⟨_, ⟨h2, _⟩, ⟨h3, _⟩, _⟩ := hx _ (List.getElem_mem hlt)
  have h2' : l[i].f1.length ≤ 1048576 := by have : (l[i].f1.map cT).length ≤ 1048576 := h2; rwa [List.length_map] at this
  have h3' : l[i].f2.length ≤ 1048576 := by have : (l[i].f2.map cR).length ≤ 1048576 := h3; rwa [List.length_map] at this
  rw [laws_toLocaleS.l0, if_pos (by omega), if_pos (by omega), rdLm hlt, toLocale _ _ _ _ _ (by omega) (by omega) k (by omega), Option.bind_some, if_pos (by omega), w64_succ hlt (by omega), Int.toNat_natCast, ih k (i + 1) _ (by rw [List.length_set]; exact hxl) (by omega) (by omega) (by omega), take_set_succ _ _ _ (by omega), List.append_assoc, List.drop_eq_getElem_cons hlt, List.map_cons]
  rfl
theorem toLocs (l : List S25) (hl : l.length ≤ 2000000) (hx : ∀ x ∈ l, okL1 (cL x)) (k : Nat) (hk : 5000000 < k) : laws_toLocaleS.f k l = some (l.map cL) := by
 unfold laws_toLocaleS.f
 rw [if_pos (by omega), if_pos (by omega)]
 have := toLocs_l0 l hl hx l.length k 0 (List.replicate ((l.length : Int) : Int).toNat z31) (by rw [List.length_replicate]; omega) (by omega) (by omega) (by omega)
 rw [List.take_zero, List.drop_zero, List.nil_append] at this
 exact this
theorem eqLocs_l0 (L : List S31) (hl : L.length ≤ 2000000) (hx : ∀ x ∈ L, okL1 x) (d : Nat) : ∀ (k : Nat) (i : Int), 0 ≤ i → (L.length : Int) - i = d → d + 2000000 < k → laws_eqLocaleS.l0 k L L i = some true := by
 induction d with
 | zero =>
  intro k i h0 hd hk
  obtain ⟨k, rfl⟩ := succ_of hk
  rw [laws_eqLocaleS.l0, if_neg (by omega)]
 | succ d ih =>
  intro k i h0 hd hk
  obtain ⟨k, rfl⟩ := succ_of hk
  obtain ⟨_, ⟨h2, _⟩, ⟨h3, _⟩, _⟩ := hx _ (rdL_mem h0 (show i < (L.length : Int) by omega))
  rw [laws_eqLocaleS.l0, if_pos (by omega), if_pos h0, if_pos (by omega), eqLocale _ _ _ _ _ (by omega) (by omega) k (by omega), Option.bind_some, if_pos rfl, w64 (x := i + 1) (by omega) (by omega)]
  exact ih k (i + 1) (by omega) (by omega) (by omega)
theorem eqLocs (L : List S31) (hl : L.length ≤ 2000000) (hx : ∀ x ∈ L, okL1 x) (k : Nat) (hk : 5000000 < k) : laws_eqLocaleS.f k L L = some true := by
 unfold laws_eqLocaleS.f
 rw [if_pos rfl]
 exact eqLocs_l0 L hl hx L.length k 0 (by omega) (by omega) (by omega)
def hugeL (x : S25) : Prop := x.f0.size ≤ 140737488351232 ∧ (x.f1.length ≤ 4000000000000 ∧ ∀ y ∈ x.f1, hugeT y) ∧ (x.f2.length ≤ 4500000000000 ∧ ∀ y ∈ x.f2, y.f2.size ≤ 140737488351232) ∧ x.f3.size ≤ 140737488351232 ∧ x.f4.size ≤ 140737488351232
theorem okL_cL {x : S25} (h : okL x.f0 x.f1 x.f2 x.f3 x.f4) : okL1 (cL x) := by
 obtain ⟨h1, ⟨h2, h3⟩, ⟨h4, h5⟩, h6, h7⟩ := h
 exact ⟨h1, ⟨by show (x.f1.map cT).length ≤ _; rw [List.length_map]; exact h2, h3⟩, ⟨by show (x.f2.map cR).length ≤ _; rw [List.length_map]; exact h4, h5⟩, h6, h7⟩
theorem szLocs_l0 (l : List S25) (hl : l.length ≤ 4000000000000) (hx : ∀ x ∈ l, hugeL x) (d : Nat) : ∀ (k i : Nat) (c : Int), 0 ≤ c → c ≤ 1048576 → l.length - i = d → i ≤ l.length → d + 2000000 < k →
  ∃ t, laws_szLocaleS.l0 k l c (i : Int) = some t ∧ t ≤ c ∧ (¬ t < 0 → ∀ x ∈ l.drop i, okL1 (cL x)) := by
 induction d with
 | zero =>
  intro k i c h0 h1 hd hi hk
  obtain ⟨k, rfl⟩ := succ_of hk
  rw [laws_szLocaleS.l0, if_neg (by omega), List.drop_of_length_le (by omega)]
  exact ⟨_, rfl, Int.le_refl _, fun _ x h => by cases h⟩
 | succ d ih =>
  intro k i c h0 h1 hd hi hk
  obtain ⟨k, rfl⟩ := succ_of hk
  have hlt : i < l.length := by omega
  obtain ⟨z1, ⟨z2, z3⟩, ⟨z4, z5⟩, z6, z7⟩ := hx _ (List.getElem_mem hlt)
  obtain ⟨t, ht, htc, hto⟩ := szLocale l[i].f0 l[i].f1 l[i].f2 l[i].f3 l[i].f4 z1 z2 z3 z4 z5 z6 z7 k c h0 h1 (by omega)
  rw [laws_szLocaleS.l0, if_pos (by omega), if_pos (by omega), rdLm hlt, ht, Option.bind_some]
  by_cases hn : t < 0
  ·rw [if_pos hn]
   exact ⟨_, rfl, by omega, fun h => absurd (by omega) h⟩
  ·rw [if_neg hn, w64_succ hlt (by omega)]
   obtain ⟨u, hu, huc, hus⟩ := ih k (i + 1) t (by omega) (by omega) (by omega) (by omega) (by omega)
   refine ⟨u, hu, by omega, fun h x hm => ?_⟩
   rw [List.drop_eq_getElem_cons hlt] at hm
   rcases List.mem_cons.1 hm with e | hm
   ·rw [e]; exact okL_cL (hto hn)
   ·exact hus h x hm
theorem szLocs (l : List S25) (hl : l.length ≤ 4000000000000) (hx : ∀ x ∈ l, hugeL x) (k : Nat) (c : Int) (h0 : 0 ≤ c) (h1 : c ≤ 1048576) (hk : 5000000 < k) :
  ∃ t, laws_szLocaleS.f k l c = some t ∧ t ≤ c ∧ (¬ t < 0 → l.length ≤ 1048576 ∧ ∀ x ∈ l, okL1 (cL x)) := by
 unfold laws_szLocaleS.f
 rw [w64 (x := c - (l.length : Int)) (by omega) (by omega)]
 by_cases hn : c - (l.length : Int) < 0
 ·rw [if_pos hn]
  exact ⟨_, rfl, by omega, fun h => absurd (by omega) h⟩
 ·rw [if_neg hn]
  obtain ⟨t, ht, htc, hts⟩ := szLocs_l0 l hl hx l.length k 0 (c - (l.length : Int)) (by omega) (by omega) (by omega) (by omega) (by omega)
  exact ⟨t, ht, by omega, fun h => ⟨by omega, fun x hm => hts h x (by rw [List.drop_zero]; exact hm)⟩⟩
end Go.Proofs.Ytmkkcpdpfelalaa.P
