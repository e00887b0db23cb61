/- A term that was added is found; the first locale that has a term supplies it; missing terms aren't found. Conditions: those of each lemma. -/
import Derived.Test.YtleckcbiifhanaaDoorZPx0
import Derived.Test.YtleckcbiifhanaaDoorZPx14
import Derived.Test.YtleckcbiifhanaaDoorZPx17
import Derived.Test.YtleckcbiifhanaaDoorZLBase
import Derived.Test.YtleckcbiifhanaaDoorZLLocAdd
import Derived.Test.YtleckcbiifhanaaDoorZLLocBytes
import Derived.Test.YtleckcbiifhanaaDoorZLLocFall
import Derived.Test.YtleckcbiifhanaaDoorZLLocFind
import Derived.Test.YtleckcbiifhanaaDoorZLLocGood
import Derived.Test.YtleckcbiifhanaaDoorZLLocMiss
namespace Go.Proofs.YtleckcbiifhanaaDoor.P
open Go.RowKit Go.Proofs.YtleckcbiifhanaaDoorW.PrintWords Go.Proofs.YtleckcbiifhanaaDoorW.PrintLast Go.Proofs.YtleckcbiifhanaaDoorW.PrintMore
set_option linter.unusedVariables false
set_option linter.unusedSimpArgs false
theorem less_irr : ∀ l : List UInt8, Op.bytesLess l l = false
 | [] => rfl
 | a :: r => by
  unfold Op.bytesLess
  simp [less_irr r]
theorem posT_less (ts : List S29) (key : ByteArray) : ∀ (d : Nat) (i j : Int), i ≤ j → j < posT ts key i d → Op.bytesLess ((rd_T29 ts j).f0).toList key.toList = true
 | 0, i, j, h0, h1 => by rw [posT] at h1; omega
 | d + 1, i, j, h0, h1 => by
  rw [posT] at h1
  by_cases c : Op.bytesLess ((rd_T29 ts i).f0).toList key.toList = true
  ·rw [if_pos c] at h1
   by_cases e : j = i
   ·rw [e]; exact c
   ·exact posT_less ts key d (i + 1) j (by omega) h1
  ·rw [if_neg c] at h1; omega
theorem tI_at (key : ByteArray) (ts : List S29) (p : Int) (hp : (rd_T29 ts p).f0.toList = key.toList) : ∀ (d : Nat) (i : Int), i ≤ p → p < i + d → (∀ j, i ≤ j → j < p → (rd_T29 ts j).f0.toList ≠ key.toList) → impl_termIndex_at key ts i d = p
 | 0, i, h0, h1, _ => by omega
 | d + 1, i, h0, h1, h2 => by
  rw [impl_termIndex_at]
  by_cases e : i = p
  ·rw [e, if_pos (beq_iff_eq.2 hp)]
  ·rw [if_neg (fun h => h2 i (Int.le_refl _) (by omega) (beq_iff_eq.1 h))]
   exact tI_at key ts p hp d (i + 1) (by omega) (by omega) (fun j a b => h2 j (by omega) b)
theorem rdT_add (ts : List S29) (t : S29) (p j : Nat) (hp : p ≤ ts.length) (hj : j ≤ p) : rd_T29 (addAt ts t (p : Int)) (j : Int) = if j = p then t else rd_T29 ts (j : Int) := by
 unfold addAt rd_T29
 rw [Int.toNat_natCast, Int.toNat_natCast]
 by_cases h : eqAt ts t.f0 (p : Int) = true
 ·rw [if_pos h, List.getD_eq_getElem?_getD, List.getD_eq_getElem?_getD, List.getElem?_set]
  have hlt : p < ts.length := by
   unfold eqAt at h
   rw [Bool.and_eq_true] at h
   have := of_decide_eq_true h.1
   omega
  by_cases e : j = p
  ·rw [if_pos e, if_pos e.symm, if_pos hlt]; rfl
  ·rw [if_neg e, if_neg (fun h => e h.symm)]
 ·rw [if_neg h, List.getD_eq_getElem?_getD, List.getD_eq_getElem?_getD]
  by_cases e : j = p
  ·rw [if_pos e, List.getElem?_append_right (by rw [List.length_take]; omega), List.length_take, show j - min p ts.length = 0 by omega]
   rfl
  ·rw [if_neg e, List.getElem?_append_left (by rw [List.length_take]; omega), List.getElem?_take, if_pos (by omega)]
theorem addTL_found (ts : List S29) (t : S29) : 0 ≤ findT (addTL ts t) t.f0 ∧ rd_T29 (addTL ts t) (findT (addTL ts t) t.f0) = t := by
 have hr := posT_range ts t.f0 ts.length 0
 obtain ⟨p, hp⟩ : ∃ p : Nat, posT ts t.f0 0 ts.length = (p : Int) := ⟨(posT ts t.f0 0 ts.length).toNat, by omega⟩
 have hle : p ≤ ts.length := by omega
 have hlen : p < (addAt ts t (p : Int)).length := by
  unfold addAt
  by_cases h : eqAt ts t.f0 (p : Int) = true
  ·rw [if_pos h, List.length_set]
   unfold eqAt at h
   rw [Bool.and_eq_true] at h
   have := of_decide_eq_true h.1
   omega
  ·rw [if_neg h, List.length_append, List.length_append, List.length_take, List.length_drop, List.length_singleton, Int.toNat_natCast]; omega
 have hself : rd_T29 (addAt ts t (p : Int)) (p : Int) = t := by rw [rdT_add ts t p p hle (Nat.le_refl _), if_pos rfl]
 have hf : findT (addTL ts t) t.f0 = (p : Int) := by
  unfold findT addTL
  rw [hp]
  refine tI_at t.f0 _ (p : Int) (by rw [hself]) _ 0 (by omega) (by omega) fun j h0 h1 => ?_
  obtain ⟨j, rfl⟩ : ∃ q : Nat, j = (q : Int) := ⟨j.toNat, by omega⟩
  rw [rdT_add ts t p j hle (by omega), if_neg (by omega)]
  have hlt := posT_less ts t.f0 ts.length 0 (j : Int) (by omega) (by omega)
  intro e
  rw [e, less_irr] at hlt
  cases hlt
 rw [hf]
 refine ⟨by omega, ?_⟩
 unfold addTL
 rw [hp, hself]
theorem inB_1 : inB 1 0 999999 = true := by decide
theorem inB_2 : inB 2 0 999999 = true := by decide
theorem addR_found (n : ByteArray) (ts : List S29) (rs : List S66) (la tw : ByteArray) (t : S29) (h : (addR n ts rs la tw t).2.2.2.2.2 = true) :
  addR n ts rs la tw t = (n, addTL ts t, rs, la, tw, true) ∧ goodL n (addTL ts t) rs la tw = true ∧ termForR n (addTL ts t) rs la tw t.f0 1 = (t.f1, true) ∧ termForR n (addTL ts t) rs la tw t.f0 2 = (t.f2, true) ∧ fallR [⟨n, addTL ts t, rs, la, tw⟩] t.f0 1 = (t.f1, 0, true) := by
 obtain ⟨f0, f1⟩ := addTL_found ts t
 unfold addR endL at h ⊢
 by_cases g : goodL n ts rs la tw = true
 ·rw [if_pos g] at h ⊢
  by_cases g2 : goodL n (addTL ts t) rs la tw = true
  ·rw [if_pos g2]
   refine ⟨rfl, g2, ?_, ?_, ?_⟩
   ·unfold termForR
    rw [if_pos g2, if_pos inB_1, if_neg (by omega), f1]
    rfl
   ·unfold termForR
    rw [if_pos g2, if_pos inB_2, if_neg (by omega), f1]
    rfl
   ·have hrd : rd_T27 [(⟨n, addTL ts t, rs, la, tw⟩ : S27)] 0 = ⟨n, addTL ts t, rs, la, tw⟩ := rfl
    have hg : goodsFrom [(⟨n, addTL ts t, rs, la, tw⟩ : S27)] 0 1 = true := by
     rw [goodsFrom, goodsFrom, hrd, goodL1, g2]; rfl
    have hff : firstFrom [(⟨n, addTL ts t, rs, la, tw⟩ : S27)] t.f0 1 0 1 = (t.f1, 0, true) := by
     rw [firstFrom, hrd, if_pos f0, f1]
     rfl
    unfold fallR
    rw [if_neg (by rw [List.length_singleton]; omega), if_pos inB_1, List.length_singleton, if_pos hg, hff]
  ·rw [if_neg g2] at h; cases h
 ·rw [if_neg g] at h; cases h
theorem firstFrom_ok (L : List S27) (key : ByteArray) (n : Int) : ∀ (d : Nat) (i : Int), 0 ≤ i → i + d ≤ (L.length : Int) → goodsFrom L i d = true → inB n 0 999999 = true → (firstFrom L key n i d).2.2 = true →
  0 ≤ (firstFrom L key n i d).2.1 ∧ (firstFrom L key n i d).2.1 < (L.length : Int) ∧ termForR (rd_T27 L (firstFrom L key n i d).2.1).f0 (rd_T27 L (firstFrom L key n i d).2.1).f1 (rd_T27 L (firstFrom L key n i d).2.1).f2 (rd_T27 L (firstFrom L key n i d).2.1).f3 (rd_T27 L (firstFrom L key n i d).2.1).f4 key n = ((firstFrom L key n i d).1, true)
 | 0, i, _, _, _, _, h => by rw [firstFrom] at h; cases h
 | d + 1, i, h0, h1, hg, hn, h => by
  rw [goodsFrom, Bool.and_eq_true] at hg
  rw [firstFrom] at h ⊢
  by_cases c : findT (rd_T27 L i).f1 key ≥ 0
  ·rw [if_pos c]
   dsimp only
   refine ⟨h0, by omega, ?_⟩
   unfold termForR
   have hgi := hg.1
   unfold goodL1 at hgi
   rw [if_pos hgi, if_pos hn, if_neg (by omega)]
  ·rw [if_neg c] at h ⊢
   exact firstFrom_ok L key n d (i + 1) (by omega) (by omega) hg.2 hn h
theorem fallR_ok (L : List S27) (key : ByteArray) (n : Int) (h : (fallR L key n).2.2 = true) :
  0 ≤ (fallR L key n).2.1 ∧ (fallR L key n).2.1 < (L.length : Int) ∧ termForR (rd_T27 L (fallR L key n).2.1).f0 (rd_T27 L (fallR L key n).2.1).f1 (rd_T27 L (fallR L key n).2.1).f2 (rd_T27 L (fallR L key n).2.1).f3 (rd_T27 L (fallR L key n).2.1).f4 key n = ((fallR L key n).1, true) := by
 unfold fallR at h ⊢
 by_cases c5 : (L.length : Int) > 5
 ·rw [if_pos c5] at h; cases h
 ·rw [if_neg c5] at h ⊢
  by_cases cn : inB n 0 999999 = true
  ·rw [if_pos cn] at h ⊢
   by_cases cg : goodsFrom L 0 L.length = true
   ·rw [if_pos cg] at h ⊢
    exact firstFrom_ok L key n L.length 0 (by omega) (by omega) cg cn h
   ·rw [if_neg cg] at h; cases h
  ·rw [if_neg cn] at h; cases h
theorem missL_out (ts bs : List S29) : ∀ (d : Nat) (i : Int) (acc : List ByteArray), (∀ x ∈ acc, findT ts x < 0) → ∀ x ∈ missL ts bs i d acc, findT ts x < 0
 | 0, i, acc, h => h
 | d + 1, i, acc, h => by
  rw [missL]
  split
  ·rename_i c
   refine missL_out ts bs d (i + 1) _ fun x hx => ?_
   rcases List.mem_append.1 hx with hx | hx
   ·exact h x hx
   ·rw [List.mem_singleton.1 hx]; exact c
  ·exact missL_out ts bs d (i + 1) acc h
theorem missR_out (n : ByteArray) (ts : List S29) (rs : List S66) (la tw n2 : ByteArray) (bs : List S29) (rs2 : List S66) (la2 tw2 : ByteArray) (m : Int) : ∀ x ∈ (missR n ts rs la tw n2 bs rs2 la2 tw2).1, (termForR n ts rs la tw x m).2 = false := by
 intro x hx
 unfold missR at hx
 by_cases c1 : goodL n ts rs la tw = true
 ·rw [if_pos c1] at hx
  by_cases c2 : goodL n2 bs rs2 la2 tw2 = true
  ·rw [if_pos c2] at hx
   have := missL_out ts bs bs.length 0 [] (fun y hy => absurd hy List.not_mem_nil) x hx
   unfold termForR
   rw [if_pos c1]
   split <;> first | rfl | (rw [if_pos this])
  ·rw [if_neg c2] at hx; exact absurd hx List.not_mem_nil
 ·rw [if_neg c1] at hx; exact absurd hx List.not_mem_nil
theorem rTexts_l0 (l : List ByteArray) (hl : l.length ≤ 2000000) (d : Nat) : ∀ (k : Nat) (i : Int), 0 ≤ i → (l.length : Int) - i = d → d < k → laws_rTexts.l0 k l l i = some true := by
 induction d with
 | zero =>
  intro k i h0 hd hk
  obtain ⟨k, rfl⟩ := succ_of hk
  rw [laws_rTexts.l0, if_neg (by omega)]
 | succ d ih =>
  intro k i h0 hd hk
  obtain ⟨k, rfl⟩ := succ_of hk
  rw [laws_rTexts.l0, if_pos (by omega), if_pos h0, if_pos (by omega), if_pos rfl, w64 (x := i + 1) (by omega) (by omega), ih k (i + 1) (by omega) (by omega) (by omega)]
theorem rTexts_t (l : List ByteArray) (hl : l.length ≤ 2000000) (k : Nat) (hk : l.length < k) : laws_rTexts.f k l l = some true := by
 unfold laws_rTexts.f
 rw [if_pos rfl]
 exact rTexts_l0 l hl l.length k 0 (by omega) (by omega) (by omega)
end Go.Proofs.YtleckcbiifhanaaDoor.P
