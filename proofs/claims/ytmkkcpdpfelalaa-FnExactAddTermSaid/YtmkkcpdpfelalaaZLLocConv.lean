/- A locale of the statements turned into one of the program: the same texts and numbers; how large a locale is; a locale is equal to itself. For the sizes that the statements let in. -/
import Derived.Test.YtmkkcpdpfelalaaZPx0
import Derived.Test.YtmkkcpdpfelalaaZPx1
import Derived.Test.YtmkkcpdpfelalaaZPx2
import Derived.Test.YtmkkcpdpfelalaaZPx3
import Derived.Test.YtmkkcpdpfelalaaZLBase
import Derived.Test.YtmkkcpdpfelalaaZLLocGood
namespace Go.Proofs.Ytmkkcpdpfelalaa.P
open Go.RowKit Go.Proofs.YtmkkcpdpfelalaaW.PrintWords Go.Proofs.YtmkkcpdpfelalaaW.PrintLast Go.Proofs.YtmkkcpdpfelalaaW.PrintMore
set_option linter.unusedVariables false
set_option linter.unusedSimpArgs false
def cT (x : S57) : S61 := ⟨x.f0, x.f1, x.f2⟩
def cR (x : S91) : S72 := ⟨x.f0, x.f1, x.f2⟩
theorem take_set_succ {α : Type} (l : List α) (i : Nat) (v : α) (h : i < l.length) : (l.set i v).take (i + 1) = l.take i ++ [v] := by
 rw [List.take_add_one, List.take_set_of_le (Nat.le_refl i), List.getElem?_set_self h]
 rfl
theorem rdTm {l : List S57} {i : Nat} (h : i < l.length) : rd_T57 l (i : Int) = l[i] := by
 unfold rd_T57
 rw [Int.toNat_natCast, List.getD_eq_getElem?_getD, List.getElem?_eq_getElem h, Option.getD_some]
theorem rdRm {l : List S91} {i : Nat} (h : i < l.length) : rd_T91 l (i : Int) = l[i] := by
 unfold rd_T91
 rw [Int.toNat_natCast, List.getD_eq_getElem?_getD, List.getElem?_eq_getElem h, Option.getD_some]
theorem toTerms_l0 (l : List S57) (hl : l.length ≤ 2000000) (d : Nat) : ∀ (k i : Nat) (x : List S61), x.length = l.length → l.length - i = d → i ≤ l.length → d < k →
  laws_toTermS.l0 k l x (i : Int) = some (x.take i ++ (l.drop i).map cT) := by
 induction d with
 | zero =>
  intro k i x hx hd hi hk
  obtain ⟨k, rfl⟩ := succ_of hk
  rw [laws_toTermS.l0, if_neg (by omega), List.take_of_length_le (by omega), List.drop_of_length_le (by omega), List.map_nil, List.append_nil]
 | succ d ih =>
  intro k i x hx hd hi hk
  obtain ⟨k, rfl⟩ := succ_of hk
  have hlt : i < l.length := by omega
  rw [laws_toTermS.l0, if_pos (by omega), if_pos (by omega), laws_toTerm.f, Option.bind_some, if_pos (by omega), w64_succ hlt (by omega), Int.toNat_natCast, rdTm hlt, ih k (i + 1) _ (by rw [List.length_set]; exact hx) (by omega) (by omega) (by omega), take_set_succ _ _ _ (by omega), List.append_assoc, List.drop_eq_getElem_cons hlt, List.map_cons]
  rfl
theorem toTerms (l : List S57) (hl : l.length ≤ 2000000) (k : Nat) (hk : l.length < k) : laws_toTermS.f k l = some (l.map cT) := by
 unfold laws_toTermS.f
 rw [if_pos (by omega), if_pos (by omega)]
 have := toTerms_l0 l hl l.length k 0 (List.replicate ((l.length : Int) : Int).toNat z61) (by rw [List.length_replicate]; omega) (by omega) (by omega) hk
 rw [List.take_zero, List.drop_zero, List.nil_append] at this
 exact this
theorem toRules_l0 (l : List S91) (hl : l.length ≤ 2000000) (d : Nat) : ∀ (k i : Nat) (x : List S72), x.length = l.length → l.length - i = d → i ≤ l.length → d < k →
  laws_toOrdinalRuleS.l0 k l x (i : Int) = some (x.take i ++ (l.drop i).map cR) := by
 induction d with
 | zero =>
  intro k i x hx hd hi hk
  obtain ⟨k, rfl⟩ := succ_of hk
  rw [laws_toOrdinalRuleS.l0, if_neg (by omega), List.take_of_length_le (by omega), List.drop_of_length_le (by omega), List.map_nil, List.append_nil]
 | succ d ih =>
  intro k i x hx hd hi hk
  obtain ⟨k, rfl⟩ := succ_of hk
  have hlt : i < l.length := by omega
  rw [laws_toOrdinalRuleS.l0, if_pos (by omega), if_pos (by omega), laws_toOrdinalRule.f, Option.bind_some, if_pos (by omega), w64_succ hlt (by omega), Int.toNat_natCast, rdRm hlt, ih k (i + 1) _ (by rw [List.length_set]; exact hx) (by omega) (by omega) (by omega), take_set_succ _ _ _ (by omega), List.append_assoc, List.drop_eq_getElem_cons hlt, List.map_cons]
  rfl
theorem toRules (l : List S91) (hl : l.length ≤ 2000000) (k : Nat) (hk : l.length < k) : laws_toOrdinalRuleS.f k l = some (l.map cR) := by
 unfold laws_toOrdinalRuleS.f
 rw [if_pos (by omega), if_pos (by omega)]
 have := toRules_l0 l hl l.length k 0 (List.replicate ((l.length : Int) : Int).toNat z72) (by rw [List.length_replicate]; omega) (by omega) (by omega) hk
 rw [List.take_zero, List.drop_zero, List.nil_append] at this
 exact this
theorem toLocale (n : ByteArray) (ts : List S57) (rs : List S91) (la tw : ByteArray) (ht : ts.length ≤ 2000000) (hr : rs.length ≤ 2000000) (k : Nat) (hk : 2000000 < k) : laws_toLocale.f k n ts rs la tw = some (n, ts.map cT, rs.map cR, la, tw) := by
 unfold laws_toLocale.f
 rw [toTerms ts ht k (by omega), Option.bind_some, toRules rs hr k (by omega), Option.bind_some]
theorem eqTerms_l0 (l : List S61) (hl : l.length ≤ 2000000) (d : Nat) : ∀ (k : Nat) (i : Int), 0 ≤ i → (l.length : Int) - i = d → d < k → laws_eqTermS.l0 k l l i = some true := by
 induction d with
 | zero =>
  intro k i h0 hd hk
  obtain ⟨k, rfl⟩ := succ_of hk
  rw [laws_eqTermS.l0, if_neg (by omega)]
 | succ d ih =>
  intro k i h0 hd hk
  obtain ⟨k, rfl⟩ := succ_of hk
  rw [laws_eqTermS.l0, if_pos (by omega), if_pos h0, if_pos (by omega), laws_eqTerm.f, if_pos rfl, if_pos rfl, if_pos rfl, Option.bind_some, if_pos rfl, w64 (x := i + 1) (by omega) (by omega)]
  exact ih k (i + 1) (by omega) (by omega) (by omega)
theorem eqRules_l0 (l : List S72) (hl : l.length ≤ 2000000) (d : Nat) : ∀ (k : Nat) (i : Int), 0 ≤ i → (l.length : Int) - i = d → d < k → laws_eqOrdinalRuleS.l0 k l l i = some true := by
 induction d with
 | zero =>
  intro k i h0 hd hk
  obtain ⟨k, rfl⟩ := succ_of hk
  rw [laws_eqOrdinalRuleS.l0, if_neg (by omega)]
 | succ d ih =>
  intro k i h0 hd hk
  obtain ⟨k, rfl⟩ := succ_of hk
  rw [laws_eqOrdinalRuleS.l0, if_pos (by omega), if_pos h0, if_pos (by omega), laws_eqOrdinalRule.f, if_pos rfl, if_pos rfl, if_pos rfl, Option.bind_some, if_pos rfl, w64 (x := i + 1) (by omega) (by omega)]
  exact ih k (i + 1) (by omega) (by omega) (by omega)
theorem eqLocale (n : ByteArray) (ts : List S61) (rs : List S72) (la tw : ByteArray) (ht : ts.length ≤ 2000000) (hr : rs.length ≤ 2000000) (k : Nat) (hk : 2000000 < k) : laws_eqLocale.f k n ts rs la tw n ts rs la tw = some true := by
 unfold laws_eqLocale.f laws_eqTermS.f laws_eqOrdinalRuleS.f
 rw [if_pos rfl, if_pos rfl, eqTerms_l0 ts ht ts.length k 0 (by omega) (by omega) (by omega), Option.bind_some, if_pos rfl, if_pos rfl, eqRules_l0 rs hr rs.length k 0 (by omega) (by omega) (by omega), Option.bind_some, if_pos rfl, if_pos rfl, if_pos rfl]
def hugeT (x : S57) : Prop := x.f0.size ≤ 140737488351232 ∧ x.f1.size ≤ 140737488351232 ∧ x.f2.size ≤ 140737488351232
theorem szTerm1 (x : S57) (hx : hugeT x) (c : Int) (h0 : 0 ≤ c) (h1 : c ≤ 1048576) : ∃ t, laws_szTerm.f x.f0 x.f1 x.f2 c = some t ∧ t ≤ c ∧ (¬ t < 0 → szT (cT x)) := by
 obtain ⟨a, b, d⟩ := hx
 unfold laws_szTerm.f
 rw [w64 (x := c - (x.f0.size : Int)) (by omega) (by omega)]
 split
 ·exact ⟨_, rfl, by omega, fun h => absurd (by omega) h⟩
 ·rw [w64 (x := c - (x.f0.size : Int) - (x.f1.size : Int)) (by omega) (by omega)]
  split
  ·exact ⟨_, rfl, by omega, fun h => absurd (by omega) h⟩
  ·rw [w64 (x := c - (x.f0.size : Int) - (x.f1.size : Int) - (x.f2.size : Int)) (by omega) (by omega)]
   split
   ·exact ⟨_, rfl, by omega, fun h => absurd (by omega) h⟩
   ·exact ⟨_, rfl, by omega, fun _ => ⟨by show x.f0.size ≤ _; omega, by show x.f1.size ≤ _; omega, by show x.f2.size ≤ _; omega⟩⟩
theorem szTerms_l0 (l : List S57) (hl : l.length ≤ 4000000000000) (hx : ∀ x ∈ l, hugeT x) (d : Nat) : ∀ (k i : Nat) (c : Int), 0 ≤ c → c ≤ 1048576 → l.length - i = d → i ≤ l.length → d < k →
  ∃ t, laws_szTermS.l0 k l c (i : Int) = some t ∧ t ≤ c ∧ (¬ t < 0 → ∀ x ∈ l.drop i, szT (cT x)) := by
 induction d with
 | zero =>
  intro k i c h0 h1 hd hi hk
  obtain ⟨k, rfl⟩ := succ_of hk
  rw [laws_szTermS.l0, if_neg (by omega), List.drop_of_length_le (by omega)]
  exact ⟨_, rfl, Int.le_refl _, fun _ x h => by cases h⟩
 | succ d ih =>
  intro k i c h0 h1 hd hi hk
  obtain ⟨k, rfl⟩ := succ_of hk
  have hlt : i < l.length := by omega
  obtain ⟨t, ht, htc, hts⟩ := szTerm1 l[i] (hx _ (List.getElem_mem hlt)) c h0 h1
  rw [laws_szTermS.l0, if_pos (by omega), if_pos (by omega), rdTm hlt, ht, Option.bind_some]
  by_cases hn : t < 0
  ·rw [if_pos hn]
   exact ⟨_, rfl, by omega, fun h => absurd (by omega) h⟩
  ·rw [if_neg hn, w64_succ hlt (by omega)]
   obtain ⟨u, hu, huc, hus⟩ := ih k (i + 1) t (by omega) (by omega) (by omega) (by omega) (by omega)
   refine ⟨u, hu, by omega, fun h x hm => ?_⟩
   rw [List.drop_eq_getElem_cons hlt] at hm
   rcases List.mem_cons.1 hm with e | hm
   ·rw [e]; exact hts hn
   ·exact hus h x hm
theorem szTerms (l : List S57) (hl : l.length ≤ 4000000000000) (hx : ∀ x ∈ l, hugeT x) (k : Nat) (c : Int) (h0 : 0 ≤ c) (h1 : c ≤ 1048576) (hk : 2000000 < k) :
  ∃ t, laws_szTermS.f k l c = some t ∧ t ≤ c ∧ (¬ t < 0 → l.length ≤ 1048576 ∧ ∀ x ∈ l, szT (cT x)) := by
 unfold laws_szTermS.f
 rw [w64 (x := c - (l.length : Int)) (by omega) (by omega)]
 by_cases hn : c - (l.length : Int) < 0
 ·rw [if_pos hn]
  exact ⟨_, rfl, by omega, fun h => absurd (by omega) h⟩
 ·rw [if_neg hn]
  obtain ⟨t, ht, htc, hts⟩ := szTerms_l0 l hl hx l.length k 0 (c - (l.length : Int)) (by omega) (by omega) (by omega) (by omega) (by omega)
  exact ⟨t, ht, by omega, fun h => ⟨by omega, fun x hm => hts h x (by rw [List.drop_zero]; exact hm)⟩⟩
theorem szRules_l0 (l : List S91) (hl : l.length ≤ 4500000000000) (hx : ∀ x ∈ l, x.f2.size ≤ 140737488351232) (d : Nat) : ∀ (k i : Nat) (c : Int), 0 ≤ c → c ≤ 1048576 → l.length - i = d → i ≤ l.length → d < k →
  ∃ t, laws_szOrdinalRuleS.l0 k l c (i : Int) = some t ∧ t ≤ c ∧ (¬ t < 0 → ∀ x ∈ l.drop i, szR (cR x)) := by
 induction d with
 | zero =>
  intro k i c h0 h1 hd hi hk
  obtain ⟨k, rfl⟩ := succ_of hk
  rw [laws_szOrdinalRuleS.l0, if_neg (by omega), List.drop_of_length_le (by omega)]
  exact ⟨_, rfl, Int.le_refl _, fun _ x h => by cases h⟩
 | succ d ih =>
  intro k i c h0 h1 hd hi hk
  obtain ⟨k, rfl⟩ := succ_of hk
  have hlt : i < l.length := by omega
  have hz := hx _ (List.getElem_mem hlt)
  rw [laws_szOrdinalRuleS.l0, if_pos (by omega), if_pos (by omega), rdRm hlt, laws_szOrdinalRule.f, w64 (x := c - (l[i].f2.size : Int)) (by omega) (by omega)]
  by_cases hn : c - (l[i].f2.size : Int) < 0
  ·rw [if_pos hn, Option.bind_some, if_pos (by omega)]
   exact ⟨_, rfl, by omega, fun h => absurd (by omega) h⟩
  ·rw [if_neg hn, Option.bind_some, if_neg hn, w64_succ hlt (by omega)]
   obtain ⟨u, hu, huc, hus⟩ := ih k (i + 1) (c - (l[i].f2.size : Int)) (by omega) (by omega) (by omega) (by omega) (by omega)
   refine ⟨u, hu, by omega, fun h x hm => ?_⟩
   rw [List.drop_eq_getElem_cons hlt] at hm
   rcases List.mem_cons.1 hm with e | hm
   ·rw [e]; show l[i].f2.size ≤ 1048576; omega
   ·exact hus h x hm
theorem szRules (l : List S91) (hl : l.length ≤ 4500000000000) (hx : ∀ x ∈ l, x.f2.size ≤ 140737488351232) (k : Nat) (c : Int) (h0 : 0 ≤ c) (h1 : c ≤ 1048576) (hk : 2000000 < k) :
  ∃ t, laws_szOrdinalRuleS.f k l c = some t ∧ t ≤ c ∧ (¬ t < 0 → l.length ≤ 1048576 ∧ ∀ x ∈ l, szR (cR x)) := by
 unfold laws_szOrdinalRuleS.f
 rw [w64 (x := c - (l.length : Int)) (by omega) (by omega)]
 by_cases hn : c - (l.length : Int) < 0
 ·rw [if_pos hn]
  exact ⟨_, rfl, by omega, fun h => absurd (by omega) h⟩
 ·rw [if_neg hn]
  obtain ⟨t, ht, htc, hts⟩ := szRules_l0 l hl hx l.length k 0 (c - (l.length : Int)) (by omega) (by omega) (by omega) (by omega) (by omega)
  exact ⟨t, ht, by omega, fun h => ⟨by omega, fun x hm => hts h x (by rw [List.drop_zero]; exact hm)⟩⟩
def okL (n : ByteArray) (ts : List S57) (rs : List S91) (la tw : ByteArray) : Prop :=
 n.size ≤ 1048576 ∧ (ts.length ≤ 1048576 ∧ ∀ x ∈ ts.map cT, szT x) ∧ (rs.length ≤ 1048576 ∧ ∀ x ∈ rs.map cR, szR x) ∧ la.size ≤ 1048576 ∧ tw.size ≤ 1048576
theorem szLocale (n : ByteArray) (ts : List S57) (rs : List S91) (la tw : ByteArray) (hn : n.size ≤ 140737488351232) (htl : ts.length ≤ 4000000000000) (hts : ∀ x ∈ ts, hugeT x) (hrl : rs.length ≤ 4500000000000) (hrs : ∀ x ∈ rs, x.f2.size ≤ 140737488351232) (hla : la.size ≤ 140737488351232) (htw : tw.size ≤ 140737488351232) (k : Nat) (c : Int) (h0 : 0 ≤ c) (h1 : c ≤ 1048576) (hk : 2000000 < k) :
  ∃ t, laws_szLocale.f k n ts rs la tw c = some t ∧ t ≤ c ∧ (¬ t < 0 → okL n ts rs la tw) := by
 unfold laws_szLocale.f
 rw [w64 (x := c - (n.size : Int)) (by omega) (by omega)]
 by_cases g1 : c - (n.size : Int) < 0
 ·rw [if_pos g1]
  exact ⟨_, rfl, by omega, fun h => absurd (by omega) h⟩
 ·rw [if_neg g1]
  obtain ⟨t, ht, htc, hto⟩ := szTerms ts htl hts k (c - (n.size : Int)) (by omega) (by omega) hk
  rw [ht, Option.bind_some]
  by_cases g2 : t < 0
  ·rw [if_pos g2]
   exact ⟨_, rfl, by omega, fun h => absurd (by omega) h⟩
  ·rw [if_neg g2]
   obtain ⟨u, hu, huc, huo⟩ := szRules rs hrl hrs k t (by omega) (by omega) hk
   rw [hu, Option.bind_some]
   by_cases g3 : u < 0
   ·rw [if_pos g3]
    exact ⟨_, rfl, by omega, fun h => absurd (by omega) h⟩
   ·rw [if_neg g3, w64 (x := u - (la.size : Int)) (by omega) (by omega)]
    by_cases g4 : u - (la.size : Int) < 0
    ·rw [if_pos g4]
     exact ⟨_, rfl, by omega, fun h => absurd (by omega) h⟩
    ·rw [if_neg g4, w64 (x := u - (la.size : Int) - (tw.size : Int)) (by omega) (by omega)]
     by_cases g5 : u - (la.size : Int) - (tw.size : Int) < 0
     ·rw [if_pos g5]
      exact ⟨_, rfl, by omega, fun h => absurd (by omega) h⟩
     ·rw [if_neg g5]
      obtain ⟨a1, a2⟩ := hto g2
      obtain ⟨b1, b2⟩ := huo g3
      refine ⟨_, rfl, by omega, fun _ => ⟨by omega, ⟨a1, fun x hm => ?_⟩, ⟨b1, fun x hm => ?_⟩, by omega, by omega⟩⟩
      ·obtain ⟨y, hy, rfl⟩ := List.mem_map.1 hm
       exact a2 y hy
      ·obtain ⟨y, hy, rfl⟩ := List.mem_map.1 hm
       exact b2 y hy
end Go.Proofs.Ytmkkcpdpfelalaa.P
