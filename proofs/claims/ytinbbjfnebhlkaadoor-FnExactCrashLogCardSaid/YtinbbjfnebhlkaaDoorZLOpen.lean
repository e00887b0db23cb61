/- What is read of an argument, kind by kind: whole numbers, bools, strings, slices and structs of these, with the bounds that every row's own reach gives. Conditions: those of each lemma. -/
import Derived.ProofKit
import Derived.SizedLaws
import Derived.Below
import Derived.Lib.LaidTab
import Derived.Test.YtinbbjfnebhlkaaDoorZPx0
namespace Go.Proofs.YtinbbjfnebhlkaaDoor.P
open Go.RowKit Go.Proofs.YtinbbjfnebhlkaaDoorW.PrintWords Go.Proofs.YtinbbjfnebhlkaaDoorW.PrintLast Go.Proofs.YtinbbjfnebhlkaaDoorW.PrintMore
set_option linter.unusedVariables false
set_option linter.unusedSimpArgs false
def Opn {α : Type} (P : Program) (t : TypeId) (d : Kd α) (B : α → Prop) : Prop :=
 ∀ (H : Type) (enc : TypeId × Value → H) (W : World) (fuel : Nat) (cs : List Value) (x : DataW H) (p : List MemPlace),
  DataW.trod enc P W 0 (fun _ => true) true fuel t cs = some (x, p) → (∀ n ∈ x.weights P t, n ≤ reachBytes) → ∃ a : α, d.K W a cs ∧ B a
theorem opn_int {P : Program} {t : TypeId} {k : IntKind} (hu : P.underlying t = some (.int k)) : Opn P t (Kd.int k) (fun a => (Lit.int k a).wf = true) := by
 intro H enc W fuel cs x p h _
 cases fuel with
 | zero => simp [DataW.trod] at h
 | succ fuel =>
  simp only [DataW.trod, hu] at h
  split at h <;> simp_all
  rename_i e
  subst e
  exact ⟨_, rfl, h.1.2⟩
theorem opn_string {P : Program} {t : TypeId} (hu : P.underlying t = some .string) : Opn P t Kd.string (fun a => a.size ≤ 140737488351232) := by
 intro H enc W fuel cs x p h hw
 cases fuel with
 | zero => simp [DataW.trod] at h
 | succ fuel =>
  simp only [DataW.trod, hu] at h
  split at h
  all_goals first | (simp at h; done) | (simp_all; done) | skip
  rename_i s _
  split at h
  ·simp only [Option.some.injEq, Prod.mk.injEq] at h
   obtain ⟨rfl, _⟩ := h
   refine ⟨s, rfl, ?_⟩
   have := hw _ (by simp only [DataW.weights]; exact List.mem_singleton.2 rfl)
   rw [Array.length_toList] at this
   exact this
  ·cases h
def OpnFs {α : Type} (P : Program) (fs : List Field) (off n : Nat) (d : Kd α) (B : α → Prop) : Prop :=
 ∀ (H : Type) (enc : TypeId × Value → H) (W : World) (fuel : Nat) (cs : List Value) (xs : List (DataW H × List MemPlace)),
  cs.length = n → (fs.mapM fun f => DataW.trod enc P W 0 (fun _ => true) true fuel f.type ((cs.drop f.offset).take (P.cellsOf f.type))) = some xs →
  (∀ m ∈ DataW.weightsEach P (fs.map (·.type)) (xs.map (·.1)), m ≤ reachBytes) → ∃ a : α, d.K W a (cs.drop off) ∧ B a
theorem opnFs_one {α : Type} {P : Program} {f : Field} {off n : Nat} {d : Kd α} {B : α → Prop} (ho : f.offset = off) (hn : n = off + d.sz) (hc : P.cellsOf f.type = d.sz) (h : Opn P f.type d B) : OpnFs P [f] off n d B := by
 intro H enc W fuel cs xs hl hm hw
 simp only [List.mapM_cons, List.mapM_nil, Option.bind_eq_bind, Option.bind_eq_some_iff, Option.pure_def, Option.some.injEq] at hm
 obtain ⟨y, hy, r, rfl, rfl⟩ := hm
 obtain ⟨a, hK, hB⟩ := h H enc W fuel _ y.1 y.2 hy (fun m hm => hw m (by simp only [List.map_cons, List.map_nil, DataW.weightsEach, List.mem_append]; exact .inl hm))
 refine ⟨a, ?_, hB⟩
 rw [ho, hc, List.take_of_length_le (by simp; omega)] at hK
 exact hK
theorem opnFs_cons {α β : Type} {P : Program} {f : Field} {fs : List Field} {off n : Nat} {d : Kd α} {d2 : Kd β} {B : α → Prop} {B2 : β → Prop} (ho : f.offset = off) (hn : off + d.sz ≤ n) (hc : P.cellsOf f.type = d.sz) (h : Opn P f.type d B) (h2 : OpnFs P fs (off + d.sz) n d2 B2) :
  OpnFs P (f :: fs) off n (Kd.pair d d2) (fun x => B x.1 ∧ B2 x.2) := by
 intro H enc W fuel cs xs hl hm hw
 simp only [List.mapM_cons, Option.bind_eq_bind, Option.bind_eq_some_iff, Option.pure_def, Option.some.injEq] at hm
 obtain ⟨y, hy, r, hr, rfl⟩ := hm
 obtain ⟨a, hK, hB⟩ := h H enc W fuel _ y.1 y.2 hy (fun m hm => hw m (by simp only [List.map_cons, DataW.weightsEach, List.mem_append]; exact .inl hm))
 obtain ⟨b, hK2, hB2⟩ := h2 H enc W fuel cs r hl hr (fun m hm => hw m (by simp only [List.map_cons, DataW.weightsEach, List.mem_append]; exact .inr hm))
 refine ⟨(a, b), ⟨_, _, ?_, hK, hK2⟩, hB, hB2⟩
 rw [ho, hc, ← List.drop_drop]
 exact (List.take_append_drop _ _).symm
theorem opn_struct {α : Type} {P : Program} {t : TypeId} {fs : Array Field} {n : Nat} {d : Kd α} {B : α → Prop} (hu : P.underlying t = some (.struct fs)) (hc : P.cellsOf t = n) (h : OpnFs P fs.toList 0 n d B) : Opn P t d B := by
 intro H enc W fuel cs x p ht hw
 cases fuel with
 | zero => simp [DataW.trod] at ht
 | succ fuel =>
  simp only [DataW.trod, hu] at ht
  split at ht
  ·rename_i hl
   obtain ⟨xs, hm, hx⟩ := Option.map_eq_some_iff.1 ht
   simp only [Prod.mk.injEq] at hx
   obtain ⟨rfl, _⟩ := hx
   obtain ⟨a, hK, hB⟩ := h H enc W fuel _ xs (hl.trans hc) hm (fun m hm => hw m (by simp only [DataW.weights, hu]; exact hm))
   exact ⟨a, hK, hB⟩
  ·cases ht
theorem opn_iso {α β : Type} {P : Program} {t : TypeId} {d : Kd α} {B : α → Prop} (f : β → α) (g : α → β) (hg : ∀ a, f (g a) = a) (h : Opn P t d B) : Opn P t (Kd.iso d f) (fun b => B (f b)) := by
 intro H enc W fuel cs x p ht hw
 obtain ⟨a, hK, hB⟩ := h H enc W fuel cs x p ht hw
 exact ⟨g a, (by show d.K W (f (g a)) cs; rw [hg]; exact hK), by show B (f (g a)); rw [hg]; exact hB⟩
theorem Opn.mono {α : Type} {P : Program} {t : TypeId} {d : Kd α} {B B' : α → Prop} (h : Opn P t d B) (hb : ∀ a, B a → B' a) : Opn P t d B' := by
 intro H enc W fuel cs x p ht hw
 obtain ⟨a, hK, hB⟩ := h H enc W fuel cs x p ht hw
 exact ⟨a, hK, hb a hB⟩
end Go.Proofs.YtinbbjfnebhlkaaDoor.P
