/- What is read of an argument, kind by kind: whole numbers, bools, strings, slices and structs of these, with the bounds that every row's own reach gives. Conditions: those of each lemma. -/
import Derived.ProofKit
import Derived.SizedLaws
import Derived.Below
import Derived.Lib.LaidTab
import Derived.Test.YtleckcbiifhanaaDoorZPx0
namespace Go.Proofs.YtleckcbiifhanaaDoor.P
open Go.RowKit Go.Proofs.YtleckcbiifhanaaDoorW.PrintWords Go.Proofs.YtleckcbiifhanaaDoorW.PrintLast Go.Proofs.YtleckcbiifhanaaDoorW.PrintMore
set_option linter.unusedVariables false
set_option linter.unusedSimpArgs false
def Opn {α : Type} (P : Program) (t : TypeId) (d : Kd α) (B : α → Prop) : Prop :=
 ∀ (H : Type) (enc : TypeId × Value → H) (W : World) (fuel : Nat) (cs : List Value) (x : DataW H) (p : List MemPlace),
  DataW.trod enc P W 0 (fun _ => true) true fuel t cs = some (x, p) → (∀ n ∈ x.weights P t, n ≤ reachBytes) → ∃ a : α, d.K W a cs ∧ B a
theorem opn_int {P : Program} {t : TypeId} {k : IntKind} (hu : P.underlying t = some (.int k)) : Opn P t (Kd.int k) (fun a => (Lit.int k a).wf = true) := by
 intro H enc W fuel cs x p h _
 cases fuel with
 | zero => simp [DataW.trod] at h
 | succ fuel =>
  simp only [DataW.trod, hu] at h
  split at h <;> simp_all
  rename_i e
  subst e
  exact ⟨_, rfl, h.1.2⟩
theorem mapM_range {α : Type} (f : Nat → Option α) : ∀ (n : Nat) (xs : List α), (List.range n).mapM f = some xs → xs.length = n ∧ ∀ i x, xs[i]? = some x → f i = some x := by
 intro n xs h
 have hl := Lib.mapM_length h
 rw [List.length_range] at hl
 refine ⟨hl, fun i x hx => ?_⟩
 have hi : i < n := by
  have := (List.getElem?_eq_some_iff.1 hx).1
  omega
 obtain ⟨b, hb, hf⟩ := Lib.mapM_at h i i (by simp [hi])
 rw [hx] at hb
 obtain rfl := Option.some.inj hb
 exact hf
theorem cells_list {w : World} {base : Nat} {a : Addr} {n : Nat} {cs : List Value} (h : w.cells? base a n = some cs) : cs.length = n ∧ ∀ i u, cs[i]? = some u → w.cell? (a.add i) = some u := by
 unfold World.cells? at h
 split at h
 ·exact mapM_range _ _ _ h
 ·cases h
theorem add_add_ (a : Addr) (i j : Nat) : (a.add i).add j = a.add (i + j) := by
 obtain ⟨b, o, s⟩ := a
 unfold Addr.add
 by_cases hi : i = 0 <;> by_cases hj : j = 0 <;> cases s <;> simp [hi, hj, Nat.add_assoc]
theorem weightsAll_mem {H : Type} {P : Program} {e : TypeId} : ∀ {l : List (DataW H)} {i : Nat} {d : DataW H}, l[i]? = some d → ∀ n ∈ d.weights P e, n ∈ DataW.weightsAll P e l
 | [], _, _, h => by simp at h
 | d0 :: l, 0, d, h => by
  simp only [List.getElem?_cons_zero, Option.some.injEq] at h
  subst h
  intro n hn
  simp only [DataW.weightsAll, List.mem_append]
  exact .inl hn
 | d0 :: l, i + 1, d, h => by
  simp only [List.getElem?_cons_succ] at h
  intro n hn
  simp only [DataW.weightsAll, List.mem_append]
  exact .inr (weightsAll_mem h n hn)
theorem opn_slice {α : Type} {P : Program} {t e : TypeId} {d : Kd α} {B : α → Prop} (hu : P.underlying t = some (.slice e)) (hc : P.cellsOf e = d.sz) (bytes : Nat) (hb : P.bytesOf e = bytes) (hd : Opn P e d B) :
  Opn P t (Kd.slice e d) (fun l => l.length * bytes ≤ 140737488351232 ∧ l.length ≤ maxLen ∧ ∀ a ∈ l, B a) := by
 intro H enc W fuel cs x p h hw
 cases fuel with
 | zero => simp [DataW.trod] at h
 | succ fuel =>
  simp only [DataW.trod, hu] at h
  split at h
  all_goals first | (simp at h; done) | (simp_all; done) | skip
  ·refine ⟨[], ⟨none, 0, rfl, Nat.le_refl _, rfl, Nat.zero_le _, fun hn => absurd hn (by simp)⟩, ?_⟩
   simp
  ·rename_i e' a len cap hue
   obtain rfl : e = e' := by
    have := hue
    simp at this
    exact this
   split at h
   ·rename_i hk
    obtain ⟨_, hlc, hcm⟩ := hk
    obtain ⟨elems, hel, h⟩ := Option.bind_eq_some_iff.1 h
    obtain ⟨rest, hrest, h⟩ := Option.map_eq_some_iff.1 h
    simp only [Prod.mk.injEq] at h
    obtain ⟨rfl, _⟩ := h
    simp only [if_true] at hrest
    obtain ⟨hl, hat⟩ := mapM_range _ _ _ hel
    obtain ⟨hl2, _⟩ := mapM_range _ _ _ hrest
    have hin : ∀ j (y : DataW H × List MemPlace), elems[j]? = some y → ∃ b : α, (∃ c, c.length = d.sz ∧ d.K W b c ∧ ∀ i u, c[i]? = some u → W.cell? (a.add (j * d.sz + i)) = some u) ∧ B b := by
     intro j y hy
     have hf := hat j y hy
     obtain ⟨c, hcs, ht⟩ := Option.bind_eq_some_iff.1 hf
     obtain ⟨hcl, hcell⟩ := cells_list hcs
     obtain ⟨b, hK, hB⟩ := hd H enc W fuel c y.1 y.2 ht (fun n hn => hw n (by
      simp only [DataW.weights, hu, List.mem_cons, List.mem_append]
      exact .inr (.inl (weightsAll_mem (i := j) (d := y.1) (by simp [hy]) n hn))))
     refine ⟨b, ⟨c, by rw [hcl, hc], hK, fun i u hiu => ?_⟩, hB⟩
     have := hcell i u hiu
     rw [hc, add_add_] at this
     exact this
    have key : ∀ (n : Nat) , n ≤ elems.length → ∃ l : List α, l.length = n ∧ ∀ j b, l[j]? = some b → (∃ c, c.length = d.sz ∧ d.K W b c ∧ ∀ i u, c[i]? = some u → W.cell? (a.add (j * d.sz + i)) = some u) ∧ B b := by
     intro n
     induction n with
     | zero => intro _; exact ⟨[], rfl, fun j b hj => by simp at hj⟩
     | succ n ih =>
      intro hn
      obtain ⟨l, hll, hl3⟩ := ih (by omega)
      obtain ⟨b, hb3⟩ := hin n _ (List.getElem?_eq_getElem (by omega))
      refine ⟨l ++ [b], by simp [hll], fun j b' hj => ?_⟩
      by_cases hjn : j < n
      ·exact hl3 j b' (by rwa [List.getElem?_append_left (by omega)] at hj)
      ·have hjl : j < (l ++ [b]).length := (List.getElem?_eq_some_iff.1 hj).1
       simp [hll] at hjl
       obtain rfl : j = n := by omega
       rw [List.getElem?_append_right (by omega), hll, Nat.sub_self] at hj
       simp at hj
       subst hj
       exact hb3
    obtain ⟨l, hll, hl3⟩ := key elems.length (Nat.le_refl _)
    have hlen : l.length = len := by omega
    refine ⟨l, ⟨some a, cap, by rw [hlen], by omega, rfl, by rw [hlen]; unfold maxLen at hcm; omega, fun _ => ⟨a, rfl, fun j b hj => (hl3 j b hj).1⟩⟩, ?_, by rw [hlen]; omega, fun b hb => ?_⟩
    ·have h2 := hw _ (by simp only [DataW.weights, hu]; exact List.mem_cons_self)
     rw [hb, List.length_map, List.length_map, hl, hl2] at h2
     have h3 : l.length * bytes ≤ (len + (cap - len)) * bytes := Nat.mul_le_mul_right _ (by omega)
     exact Nat.le_trans h3 h2
    ·obtain ⟨j, hj⟩ := List.getElem?_of_mem hb
     exact (hl3 j b hj).2
   ·cases h
theorem Opn.mono {α : Type} {P : Program} {t : TypeId} {d : Kd α} {B B' : α → Prop} (h : Opn P t d B) (hb : ∀ a, B a → B' a) : Opn P t d B' := by
 intro H enc W fuel cs x p ht hw
 obtain ⟨a, hK, hB⟩ := h H enc W fuel cs x p ht hw
 exact ⟨a, hK, hb a hB⟩
end Go.Proofs.YtleckcbiifhanaaDoor.P
