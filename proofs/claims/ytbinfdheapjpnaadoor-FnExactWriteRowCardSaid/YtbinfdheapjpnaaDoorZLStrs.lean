/- A list of texts copied is the same list; how large it is. For lists of at most 2000000 texts. -/
import Derived.Test.YtbinfdheapjpnaaDoorZPx2
import Derived.Test.YtbinfdheapjpnaaDoorZLBase
namespace Go.Proofs.YtbinfdheapjpnaaDoor.P
open Go.RowKit Go.Proofs.YtbinfdheapjpnaaDoorW.PrintWords Go.Proofs.YtbinfdheapjpnaaDoorW.PrintLast Go.Proofs.YtbinfdheapjpnaaDoorW.PrintMore
set_option linter.unusedVariables false
set_option linter.unusedSimpArgs false
theorem rdSm {l : List ByteArray} {i : Nat} (h : i < l.length) : rdOf ByteArray.empty l (i : Int) = l[i] := by
 unfold rdOf
 rw [Int.toNat_natCast, List.getD_eq_getElem?_getD, List.getElem?_eq_getElem h, Option.getD_some]
theorem take_set_succ' {α : Type} (l : List α) (i : Nat) (v : α) (h : i < l.length) : (l.set i v).take (i + 1) = l.take i ++ [v] := by
 rw [List.take_add_one, List.take_set_of_le (Nat.le_refl i), List.getElem?_set_self h]
 rfl
theorem toStrs_l0 (l : List ByteArray) (hl : l.length ≤ 2000000) (d : Nat) : ∀ (k i : Nat) (x : List ByteArray), x.length = l.length → l.length - i = d → i ≤ l.length → d < k →
  laws_toStringS.l0 k l x (i : Int) = some (x.take i ++ l.drop i) := by
 induction d with
 | zero =>
  intro k i x hx hd hi hk
  obtain ⟨k, rfl⟩ := succ_of hk
  rw [laws_toStringS.l0, if_neg (by omega), List.take_of_length_le (by omega), List.drop_of_length_le (by omega), List.append_nil]
 | succ d ih =>
  intro k i x hx hd hi hk
  obtain ⟨k, rfl⟩ := succ_of hk
  have hlt : i < l.length := by omega
  rw [laws_toStringS.l0, if_pos (by omega), if_pos (by omega), if_pos (by omega), w64_succ hlt (by omega), Int.toNat_natCast, rdSm hlt, ih k (i + 1) _ (by rw [List.length_set]; exact hx) (by omega) (by omega) (by omega), take_set_succ' _ _ _ (by omega), List.append_assoc, List.drop_eq_getElem_cons hlt]
  rfl
theorem toStrs (l : List ByteArray) (hl : l.length ≤ 2000000) (k : Nat) (hk : l.length < k) : laws_toStringS.f k l = some l := by
 unfold laws_toStringS.f
 rw [if_pos (by omega), if_pos (by omega)]
 have := toStrs_l0 l hl l.length k 0 (List.replicate ((l.length : Int) : Int).toNat (⟨#[]⟩ : ByteArray)) (by rw [List.length_replicate]; omega) (by omega) (by omega) hk
 rw [List.take_zero, List.drop_zero, List.nil_append] at this
 exact this
theorem szStrs_l0 (l : List ByteArray) (hl : l.length ≤ 9000000000000) (hx : ∀ x ∈ l, x.size ≤ 140737488351232) (d : Nat) : ∀ (k i : Nat) (c : Int), 0 ≤ c → c ≤ 1048576 → l.length - i = d → i ≤ l.length → d < k →
  ∃ t, laws_szStringS.l0 k l c (i : Int) = some t ∧ t ≤ c ∧ (¬ t < 0 → ∀ x ∈ l.drop i, x.size ≤ 1048576) := by
 induction d with
 | zero =>
  intro k i c h0 h1 hd hi hk
  obtain ⟨k, rfl⟩ := succ_of hk
  rw [laws_szStringS.l0, if_neg (by omega), List.drop_of_length_le (by omega)]
  exact ⟨_, rfl, Int.le_refl _, fun _ x h => by cases h⟩
 | succ d ih =>
  intro k i c h0 h1 hd hi hk
  obtain ⟨k, rfl⟩ := succ_of hk
  have hlt : i < l.length := by omega
  have hz := hx _ (List.getElem_mem hlt)
  rw [laws_szStringS.l0, if_pos (by omega), if_pos (by omega), rdSm hlt, w64 (x := c - (l[i].size : Int)) (by omega) (by omega)]
  by_cases hn : c - (l[i].size : Int) < 0
  ·rw [if_pos hn]
   exact ⟨_, rfl, by omega, fun h => absurd (by omega) h⟩
  ·rw [if_neg hn, w64_succ hlt (by omega)]
   obtain ⟨u, hu, huc, hus⟩ := ih k (i + 1) (c - (l[i].size : Int)) (by omega) (by omega) (by omega) (by omega) (by omega)
   refine ⟨u, hu, by omega, fun h x hm => ?_⟩
   rw [List.drop_eq_getElem_cons hlt] at hm
   rcases List.mem_cons.1 hm with e | hm
   ·rw [e]; omega
   ·exact hus h x hm
theorem szStrs (l : List ByteArray) (hl : l.length ≤ 9000000000000) (hx : ∀ x ∈ l, x.size ≤ 140737488351232) (k : Nat) (c : Int) (h0 : 0 ≤ c) (h1 : c ≤ 1048576) (hk : 2000000 < k) :
  ∃ t, laws_szStringS.f k l c = some t ∧ t ≤ c ∧ (¬ t < 0 → l.length ≤ 1048576 ∧ ∀ x ∈ l, x.size ≤ 1048576) := by
 unfold laws_szStringS.f
 rw [w64 (x := c - (l.length : Int)) (by omega) (by omega)]
 by_cases hn : c - (l.length : Int) < 0
 ·rw [if_pos hn]
  exact ⟨_, rfl, by omega, fun h => absurd (by omega) h⟩
 ·rw [if_neg hn]
  obtain ⟨t, ht, htc, hts⟩ := szStrs_l0 l hl hx l.length k 0 (c - (l.length : Int)) (by omega) (by omega) (by omega) (by omega) (by omega)
  exact ⟨t, ht, by omega, fun h => ⟨by omega, fun x hm => hts h x (by rw [List.drop_zero]; exact hm)⟩⟩
end Go.Proofs.YtbinfdheapjpnaaDoor.P
