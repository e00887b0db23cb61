/- The draws' cursor: a draw over a list of bytes comes to a number within its bound, and the cursor goes on by at most two places; a text that is drawn is one of those given, and a spoilt text is at most one byte longer. Conditions: those of each lemma. -/
import Derived.Test.YtleckcbiifhanaaDoorZPx1
import Derived.Test.YtleckcbiifhanaaDoorZLBase
namespace Go.Proofs.YtleckcbiifhanaaDoor.P
open Go.RowKit Go.Proofs.YtleckcbiifhanaaDoorW.PrintWords Go.Proofs.YtleckcbiifhanaaDoorW.PrintLast Go.Proofs.YtleckcbiifhanaaDoorW.PrintMore
set_option linter.unusedVariables false
set_option linter.unusedSimpArgs false
def Byt (l : List Int) : Prop := ∀ i : Int, 0 ≤ rd l i ∧ rd l i ≤ 255
theorem byt_of {l : List Int} (h : ∀ a ∈ l, (Lit.int .u8 a).wf = true) : Byt l := by
 intro i
 unfold rd
 rw [List.getD_eq_getElem?_getD]
 by_cases hi : i.toNat < l.length
 ·rw [List.getElem?_eq_getElem hi]
  have := h _ (List.getElem_mem hi)
  simp only [Option.getD_some]
  generalize l[i.toNat] = x at *
  have e0 : IntKind.u8.min = 0 := by decide
  have e1 : IntKind.u8.max = 255 := by decide
  replace this : (decide (IntKind.u8.min ≤ x) && decide (x ≤ IntKind.u8.max)) = true := this
  rw [e0, e1] at this
  simp only [Bool.and_eq_true, decide_eq_true_eq] at this
  omega
 ·rw [List.getElem?_eq_none (by omega)]
  simp
def Tot {α : Type} (x : Option α) (R : α → Prop) : Prop := ∃ r, x = some r ∧ R r
theorem Tot.bind {α β : Type} {x : Option α} {R : α → Prop} {K : α → Option β} {S : β → Prop} (h : Tot x R) (hK : ∀ r, R r → Tot (K r) S) : Tot (x.bind K) S := by
 obtain ⟨r, rfl, hr⟩ := h
 exact hK r hr
theorem Tot.some {α : Type} {r : α} {R : α → Prop} (h : R r) : Tot (Option.some r) R := ⟨r, rfl, h⟩
theorem Tot.ite {α : Type} {c : Prop} [Decidable c] {x y : Option α} {R : α → Prop} (h : c → Tot x R) (h2 : ¬ c → Tot y R) : Tot (if c then x else y) R := by
 by_cases hc : c
 ·rw [if_pos hc]; exact h hc
 ·rw [if_neg hc]; exact h2 hc
theorem Tot.mono {α : Type} {x : Option α} {R S : α → Prop} (h : Tot x R) (hS : ∀ r, R r → S r) : Tot x S := by
 obtain ⟨r, hr, h2⟩ := h
 exact ⟨r, hr, hS r h2⟩
theorem sz_of {t : ByteArray} {L : List ByteArray} {N : Nat} (h : t ∈ L) (hL : ∀ t ∈ L, t.size ≤ N) : t.size ≤ N := hL t h
theorem and255 (x : Int) : 0 ≤ Go.bits .and .u64 x 255 ∧ Go.bits .and .u64 x 255 ≤ 255 := by
 have h : (BitVec.ofInt 64 x).toNat &&& (BitVec.ofInt 64 255).toNat ≤ 255 := Nat.le_trans Nat.and_le_right (by decide)
 show 0 ≤ IntKind.u64.wrap ((BitVec.ofInt 64 x &&& BitVec.ofInt 64 255).toNat : Int) ∧ IntKind.u64.wrap ((BitVec.ofInt 64 x &&& BitVec.ofInt 64 255).toNat : Int) ≤ 255
 rw [BitVec.toNat_and, IntKind.wrap_u64]
 omega
theorem next_f {l : List Int} (hb : Byt l) (a sd : Int) (h0 : 0 ≤ a) (h1 : a ≤ 4000000000000000000) :
  ∃ x s, spec_l1Cur_next.f l a sd = some (x, a + 1, s) ∧ 0 ≤ x ∧ x ≤ 255 := by
 have hr := hb a
 have hw : wrap64 (a + 1) = a + 1 := w64 (by omega) (by omega)
 have hw2 : wrap64 (rd l a) = rd l a := w64 (by omega) (by omega)
 unfold spec_l1Cur_next.f
 rw [hw, hw2]
 by_cases c : a < (l.length : Int)
 ·rw [if_pos c, if_pos h0]
  split
  ·exact ⟨_, _, rfl, hr.1, hr.2⟩
  ·refine ⟨_, _, rfl, ?_⟩
   obtain ⟨b0, b1⟩ := and255 (IntKind.u64.wrap (IntKind.u64.wrap (IntKind.u64.wrap (sd * 6364136223846793005) + IntKind.u64.wrap (rd l a)) + 896896) / 1099511627776)
   rw [w64 (by omega) (by omega)]
   exact ⟨b0, b1⟩
 ·rw [if_neg c]
  split
  ·exact ⟨_, _, rfl, by omega, by omega⟩
  ·refine ⟨_, _, rfl, ?_⟩
   obtain ⟨b0, b1⟩ := and255 (IntKind.u64.wrap (IntKind.u64.wrap (IntKind.u64.wrap (sd * 6364136223846793005)) + 896896) / 1099511627776)
   rw [w64 (by omega) (by omega)]
   exact ⟨b0, b1⟩
theorem tmod_in {x n : Int} (h0 : 0 ≤ x) (hn : 0 < n) : 0 ≤ Int.tmod x n ∧ Int.tmod x n < n := by
 rw [Int.tmod_eq_emod_of_nonneg h0]
 exact ⟨Int.emod_nonneg _ (by omega), Int.emod_lt_of_pos _ hn⟩
theorem pick_f {l : List Int} (hb : Byt l) (a sd n : Int) (h0 : 0 ≤ a) (h1 : a ≤ 3000000000000000000) :
  ∃ x b s, spec_l1Cur_pick.f l a sd n = some (x, b, s) ∧ 0 ≤ x ∧ (x < n ∨ x = 0) ∧ a ≤ b ∧ b ≤ a + 2 := by
 unfold spec_l1Cur_pick.f
 by_cases c : n ≤ 1
 ·rw [if_pos c]
  exact ⟨_, _, _, rfl, by omega, Or.inr rfl, by omega, by omega⟩
 ·obtain ⟨x, s, hx, x0, x1⟩ := next_f hb a sd h0 (by omega)
  rw [if_neg c, hx, Option.bind_some]
  by_cases c2 : n > 200
  ·obtain ⟨y, s2, hy, y0, y1⟩ := next_f hb (a + 1) s (by omega) (by omega)
   rw [if_pos c2, hy, Option.bind_some, if_neg (by omega)]
   have e1 : wrap64 (x * 256) = x * 256 := w64 (by omega) (by omega)
   have e2 : wrap64 (x * 256 + y) = x * 256 + y := w64 (by omega) (by omega)
   have ht := tmod_in (x := x * 256 + y) (n := n) (by omega) (by omega)
   simp only [e1, e2]
   exact ⟨_, _, _, rfl, ht.1, Or.inl ht.2, by omega, by omega⟩
  ·have ht := tmod_in (x := x) (n := n) (by omega) (by omega)
   rw [if_neg c2, if_neg (by omega)]
   exact ⟨_, _, _, rfl, ht.1, Or.inl ht.2, by dsimp only; omega, by dsimp only; omega⟩
theorem one_f {l : List Int} (hb : Byt l) (a sd n : Int) (h0 : 0 ≤ a) (h1 : a ≤ 3000000000000000000) :
  ∃ x b s, spec_l1Cur_one.f l a sd n = some (x, b, s) ∧ a ≤ b ∧ b ≤ a + 2 := by
 obtain ⟨x, b, s, hx, _, _, h4, h5⟩ := pick_f hb a sd n h0 h1
 unfold spec_l1Cur_one.f
 rw [hx, Option.bind_some]
 exact ⟨_, _, _, rfl, h4, h5⟩
theorem of_f {l : List Int} (hb : Byt l) (a sd : Int) (L : List ByteArray) (hL : 0 < L.length) (h0 : 0 ≤ a) (h1 : a ≤ 3000000000000000000) :
  ∃ t b s, spec_l1Cur_of.f l a sd L = some (t, b, s) ∧ t ∈ L ∧ a ≤ b ∧ b ≤ a + 2 := by
 obtain ⟨x, b, s, hx, x0, x1, h4, h5⟩ := pick_f hb a sd (L.length : Int) h0 h1
 have hlt : x < (L.length : Int) := by omega
 unfold spec_l1Cur_of.f
 rw [hx, Option.bind_some, if_pos x0, if_pos hlt]
 refine ⟨_, _, _, rfl, ?_, h4, h5⟩
 unfold rdOf
 have hi : x.toNat < L.length := by omega
 rw [List.getD_eq_getElem?_getD, List.getElem?_eq_getElem hi, Option.getD_some]
 exact List.getElem_mem hi
theorem pick_t {l : List Int} (hb : Byt l) (a sd n : Int) (h0 : 0 ≤ a) (h1 : a ≤ 3000000000000000000) :
  Tot (spec_l1Cur_pick.f l a sd n) (fun r => 0 ≤ r.1 ∧ (r.1 < n ∨ r.1 = 0) ∧ a ≤ r.2.1 ∧ r.2.1 ≤ a + 2) := by
 obtain ⟨x, b, s, h⟩ := pick_f hb a sd n h0 h1
 exact ⟨_, h.1, h.2⟩
theorem one_t {l : List Int} (hb : Byt l) (a sd n : Int) (h0 : 0 ≤ a) (h1 : a ≤ 3000000000000000000) :
  Tot (spec_l1Cur_one.f l a sd n) (fun r => a ≤ r.2.1 ∧ r.2.1 ≤ a + 2) := by
 obtain ⟨x, b, s, h⟩ := one_f hb a sd n h0 h1
 exact ⟨_, h.1, h.2⟩
theorem of_t {l : List Int} (hb : Byt l) (a sd : Int) (L : List ByteArray) (hL : 0 < L.length) (h0 : 0 ≤ a) (h1 : a ≤ 3000000000000000000) :
  Tot (spec_l1Cur_of.f l a sd L) (fun r => r.1 ∈ L ∧ a ≤ r.2.1 ∧ r.2.1 ≤ a + 2) := by
 obtain ⟨x, b, s, h⟩ := of_f hb a sd L hL h0 h1
 exact ⟨_, h.1, h.2⟩
end Go.Proofs.YtleckcbiifhanaaDoor.P
