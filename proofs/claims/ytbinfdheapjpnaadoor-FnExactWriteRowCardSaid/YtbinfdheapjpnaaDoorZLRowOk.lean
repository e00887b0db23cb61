/- Writing a row: the program's and the reference's answers are one plain function, for at most 1048576 texts of at most 1048576 bytes each. -/
import Derived.Test.YtbinfdheapjpnaaDoorZPx2
import Derived.Test.YtbinfdheapjpnaaDoorZPx3
import Derived.Test.YtbinfdheapjpnaaDoorZLBase
import Derived.Test.YtbinfdheapjpnaaDoorZLCellOk
import Derived.Test.YtbinfdheapjpnaaDoorZLLocBytes
import Derived.Test.YtbinfdheapjpnaaDoorZLRow
namespace Go.Proofs.YtbinfdheapjpnaaDoor.P
open Go.RowKit Go.Proofs.YtbinfdheapjpnaaDoorW.PrintWords Go.Proofs.YtbinfdheapjpnaaDoorW.PrintLast Go.Proofs.YtbinfdheapjpnaaDoorW.PrintMore
set_option linter.unusedVariables false
set_option linter.unusedSimpArgs false
def okC (x : ByteArray) : Bool := bytesOk x 0 200 32
theorem badClose (s : ByteArray) (hs : s.size ≤ 2097152) (k : Nat) (hk : s.size < k) : impl_WriteRow_1.f k s = some (!okC s) := by
 unfold impl_WriteRow_1.f okC
 rw [implIsCell s hs k hk, Option.bind_some]
theorem rowBad_l0 (L : List ByteArray) (hL : L.length ≤ 1048576) (hx : ∀ x ∈ L, x.size ≤ 1048576) : ∀ (r : List ByteArray) (k i : Nat), L.drop i = r → i ≤ L.length → r.length + 1048600 < k →
  ∃ t, slices_IndexFunc_string_string.l0 k L (L.length : Int) (i : Int) = some t ∧ decide (t ≥ 0) = r.any (fun x => !okC x)
 | [], k, i, hr, hi, hk => by
  obtain ⟨k, rfl⟩ := succ_of hk
  have := drop_none hr
  rw [slices_IndexFunc_string_string.l0, if_neg (by omega)]
  exact ⟨_, rfl, rfl⟩
 | x :: r, k, i, hr, hi, hk => by
  rw [List.length_cons] at hk
  obtain ⟨k, rfl⟩ := succ_of (show 0 < k by omega)
  obtain ⟨h1, h2, h3⟩ := rdS_at hr
  have hxs : x.size ≤ 1048576 := hx x (drop_in hr)
  obtain ⟨t, ht, hd⟩ := rowBad_l0 L hL hx r k (i + 1) h3 (by omega) (by omega)
  rw [slices_IndexFunc_string_string.l0, if_pos (by omega), if_pos (by omega), if_pos (by omega), h1, badClose x (by omega) k (by omega), Option.bind_some, w64_succ h2 (by omega), List.any_cons]
  cases okC x with
  | false => exact ⟨(i : Int), by simp, by rw [decide_eq_true (show (i : Int) ≥ 0 by omega)]; rfl⟩
  | true => exact ⟨t, by simpa using ht, by rw [hd]; rfl⟩
theorem rowBad (L : List ByteArray) (hL : L.length ≤ 1048576) (hx : ∀ x ∈ L, x.size ≤ 1048576) (k : Nat) (hk : 2097300 < k) : slices_ContainsFunc_string_string.f k L 0 = some (L.any (fun x => !okC x)) := by
 obtain ⟨t, ht, hd⟩ := rowBad_l0 L hL hx L k 0 (by rw [List.drop_zero]) (by omega) (by omega)
 unfold slices_ContainsFunc_string_string.f slices_IndexFunc_string_string.f
 rw [show ((0 : Nat) : Int) = 0 from rfl] at ht
 rw [ht, Option.bind_some, hd]
def writeR (L : List ByteArray) : ByteArray × Bool :=
 if inB (L.length : Int) 1 20 = true then (if L.any (fun x => !okC x) = true then ((⟨#[]⟩ : ByteArray), false) else (rowB L, true)) else ((⟨#[]⟩ : ByteArray), false)
theorem okC_of {L : List ByteArray} (h : ¬ L.any (fun x => !okC x) = true) : ∀ x ∈ L, okC x = true := by
 intro x hx
 have h2 : L.any (fun x => !okC x) = false := by simpa using h
 rw [List.any_eq_false] at h2
 have := h2 x hx
 simpa using this
theorem okC_facts {L : List ByteArray} (h : ∀ x ∈ L, okC x = true) : (∀ x ∈ L, szC x) ∧ (∀ x ∈ L, ∀ b ∈ x.data.toList, b.toNat < 128) := by
 constructor
 ·intro x hx
  have := (bytesOk_small (h x hx)).2
  unfold szC
  omega
 ·intro x hx
  exact (bytesOk_small (h x hx)).1
theorem specWrite_l0 (L : List ByteArray) (hL : L.length ≤ 1048576) (hx : ∀ x ∈ L, x.size ≤ 1048576) : ∀ (r : List ByteArray) (k i : Nat), L.drop i = r → i ≤ L.length → (L.take i).any (fun x => !okC x) = false → r.length + 1048600 < k →
  spec_WriteRow.l0 k L (i : Int) = some (writeR L)
 | [], k, i, hr, hi, hp, hk => by
  obtain ⟨k, rfl⟩ := succ_of hk
  have hn := drop_none hr
  have e : L.take i = L := List.take_of_length_le (by omega)
  rw [e] at hp
  rw [spec_WriteRow.l0, if_neg (by omega), in_spec, Option.bind_some, writeR]
  cases hb : inB (L.length : Int) 1 20 with
  | false => rw [if_neg Bool.false_ne_true, if_neg Bool.false_ne_true]
  | true =>
   have hlen := inB_of hb
   have hok := okC_facts (okC_of (L := L) (by rw [hp]; exact Bool.false_ne_true))
   rw [if_pos rfl, if_pos rfl, hp, if_neg Bool.false_ne_true, specRow L (by omega) hok.1 k (by omega), Option.bind_some]
 | x :: r, k, i, hr, hi, hp, hk => by
  rw [List.length_cons] at hk
  obtain ⟨k, rfl⟩ := succ_of (show 0 < k by omega)
  obtain ⟨h1, h2, h3⟩ := rdS_at hr
  have hxs : x.size ≤ 1048576 := hx x (drop_in hr)
  rw [spec_WriteRow.l0, if_pos (by omega), if_pos (by omega), h1, specBytes x (by omega) 0 200 32 k (by omega), Option.bind_some, w64_succ h2 (by omega)]
  cases hb : bytesOk x 0 200 32 with
  | false =>
   have ha : L.any (fun x => !okC x) = true := List.any_eq_true.2 ⟨x, drop_in hr, by show (!bytesOk x 0 200 32) = true; rw [hb]; rfl⟩
   rw [if_neg Bool.false_ne_true, writeR, ha, if_pos rfl]
   split <;> rfl
  | true =>
   rw [if_pos rfl]
   refine specWrite_l0 L hL hx r k (i + 1) h3 (by omega) ?_ (by omega)
   rw [List.take_add_one, List.any_append, hp, Bool.false_or]
   have e : L[i]? = some x := by
    have := congrArg List.head? hr
    rw [List.head?_drop] at this
    exact this
   rw [e]
   show ((!bytesOk x 0 200 32) || false) = false
   rw [hb]
   rfl
theorem specWrite (L : List ByteArray) (hL : L.length ≤ 1048576) (hx : ∀ x ∈ L, x.size ≤ 1048576) (k : Nat) (hk : 2097300 < k) : spec_WriteRow.f k L = some (writeR L) :=
 specWrite_l0 L hL hx L k 0 (by rw [List.drop_zero]) (by omega) rfl (by omega)
theorem implWrite (L : List ByteArray) (hL : L.length ≤ 1048576) (hx : ∀ x ∈ L, x.size ≤ 1048576) (k : Nat) (hk : 2097300 < k) : impl_WriteRow.f k L = some (writeR L) := by
 unfold impl_WriteRow.f writeR
 rw [in_impl, Option.bind_some]
 cases hb : inB (L.length : Int) 1 20 with
 | false => rw [if_neg Bool.false_ne_true, if_neg Bool.false_ne_true]
 | true =>
  have hlen := inB_of hb
  rw [if_pos rfl, if_pos rfl, rowBad L hL hx k hk, Option.bind_some]
  by_cases h : L.any (fun x => !okC x) = true
  ·rw [if_pos h, if_pos h]
  ·have hok := okC_facts (okC_of h)
   rw [if_neg h, if_neg h, implRow L (by omega) hok.1 hok.2 k (by omega), Option.bind_some]
end Go.Proofs.YtbinfdheapjpnaaDoor.P
