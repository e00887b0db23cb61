/- What is read of an argument, kind by kind: whole numbers, bools, strings, slices and structs of these, with the bounds that every row's own reach gives. Conditions: those of each lemma. -/
import Derived.ProofKit
import Derived.SizedLaws
import Derived.Below
import Derived.Lib.LaidTab
import Derived.Test.YtmafmhgmdegplaaGreatDoorZPx0
namespace Go.Proofs.YtmafmhgmdegplaaGreatDoor.P
open Go.RowKit Go.Proofs.YtmafmhgmdegplaaGreatDoorW.PrintWords Go.Proofs.YtmafmhgmdegplaaGreatDoorW.PrintLast Go.Proofs.YtmafmhgmdegplaaGreatDoorW.PrintMore
set_option linter.unusedVariables false
set_option linter.unusedSimpArgs false
def Opn {α : Type} (P : Program) (t : TypeId) (d : Kd α) (B : α → Prop) : Prop :=
 ∀ (H : Type) (enc : TypeId × Value → H) (W : World) (fuel : Nat) (cs : List Value) (x : DataW H) (p : List MemPlace),
  DataW.trod enc P W 0 (fun _ => true) true fuel t cs = some (x, p) → (∀ n ∈ x.weights P t, n ≤ reachBytes) → ∃ a : α, d.K W a cs ∧ B a
def OpnU {α : Type} (m : Nat) (P : Program) (t : TypeId) (d : Kd α) (B : α → Prop) : Prop :=
 ∀ (H : Type) (enc : TypeId × Value → H) (W : World) (fuel : Nat) (cs : List Value) (x : DataW H) (p : List MemPlace), fuel ≤ m →
  DataW.trod enc P W 0 (fun _ => true) true fuel t cs = some (x, p) → (∀ n ∈ x.weights P t, n ≤ reachBytes) → ∃ a : α, d.K W a cs ∧ B a
theorem Opn.u {α : Type} {P : Program} {t : TypeId} {d : Kd α} {B : α → Prop} (h : Opn P t d B) (m : Nat) : OpnU m P t d B := fun H enc W fuel cs x p _ ht hw => h H enc W fuel cs x p ht hw
theorem opn_of {α : Type} {P : Program} {t : TypeId} {d : Kd α} {B : α → Prop} (h : ∀ m, OpnU m P t d B) : Opn P t d B := fun H enc W fuel cs x p ht hw => h fuel H enc W fuel cs x p (Nat.le_refl _) ht hw
theorem OpnU.zero {α : Type} {P : Program} {t : TypeId} {d : Kd α} {B : α → Prop} : OpnU 0 P t d B := by
 intro H enc W fuel cs x p hf h _
 obtain rfl : fuel = 0 := by omega
 simp [DataW.trod] at h
theorem OpnU.le {α : Type} {P : Program} {t : TypeId} {d : Kd α} {B : α → Prop} {m n : Nat} (h : OpnU n P t d B) (hm : m ≤ n) : OpnU m P t d B := fun H enc W fuel cs x p hf => h H enc W fuel cs x p (Nat.le_trans hf hm)
theorem opn_int {P : Program} {t : TypeId} {k : IntKind} (hu : P.underlying t = some (.int k)) : Opn P t (Kd.int k) (fun a => (Lit.int k a).wf = true) := by
 intro H enc W fuel cs x p h _
 cases fuel with
 | zero => simp [DataW.trod] at h
 | succ fuel =>
  simp only [DataW.trod, hu] at h
  split at h <;> simp_all
  rename_i e
  subst e
  exact ⟨_, rfl, h.1.2⟩
theorem opn_bool {P : Program} {t : TypeId} (hu : P.underlying t = some .bool) : Opn P t Kd.bool (fun _ => True) := by
 intro H enc W fuel cs x p h _
 cases fuel with
 | zero => simp [DataW.trod] at h
 | succ fuel =>
  simp only [DataW.trod, hu] at h
  split at h
  all_goals first | (simp at h; done) | (simp_all; done) | skip
  rename_i b _
  exact ⟨b, rfl, trivial⟩
theorem opn_string {P : Program} {t : TypeId} (hu : P.underlying t = some .string) : Opn P t Kd.string (fun a => a.size ≤ 140737488351232) := by
 intro H enc W fuel cs x p h hw
 cases fuel with
 | zero => simp [DataW.trod] at h
 | succ fuel =>
  simp only [DataW.trod, hu] at h
  split at h
  all_goals first | (simp at h; done) | (simp_all; done) | skip
  rename_i s _
  split at h
  ·simp only [Option.some.injEq, Prod.mk.injEq] at h
   obtain ⟨rfl, _⟩ := h
   refine ⟨s, rfl, ?_⟩
   have := hw _ (by simp only [DataW.weights]; exact List.mem_singleton.2 rfl)
   rw [Array.length_toList] at this
   exact this
  ·cases h
theorem mapM_range {α : Type} (f : Nat → Option α) : ∀ (n : Nat) (xs : List α), (List.range n).mapM f = some xs → xs.length = n ∧ ∀ i x, xs[i]? = some x → f i = some x := by
 intro n xs h
 have hl := Lib.mapM_length h
 rw [List.length_range] at hl
 refine ⟨hl, fun i x hx => ?_⟩
 have hi : i < n := by
  have := (List.getElem?_eq_some_iff.1 hx).1
  omega
 obtain ⟨b, hb, hf⟩ := Lib.mapM_at h i i (by simp [hi])
 rw [hx] at hb
 obtain rfl := Option.some.inj hb
 exact hf
theorem cells_list {w : World} {base : Nat} {a : Addr} {n : Nat} {cs : List Value} (h : w.cells? base a n = some cs) : cs.length = n ∧ ∀ i u, cs[i]? = some u → w.cell? (a.add i) = some u := by
 unfold World.cells? at h
 split at h
 ·exact mapM_range _ _ _ h
 ·cases h
theorem add_add_ (a : Addr) (i j : Nat) : (a.add i).add j = a.add (i + j) := by
 obtain ⟨b, o, s⟩ := a
 unfold Addr.add
 by_cases hi : i = 0 <;> by_cases hj : j = 0 <;> cases s <;> simp [hi, hj, Nat.add_assoc]
theorem weightsAll_mem {H : Type} {P : Program} {e : TypeId} : ∀ {l : List (DataW H)} {i : Nat} {d : DataW H}, l[i]? = some d → ∀ n ∈ d.weights P e, n ∈ DataW.weightsAll P e l
 | [], _, _, h => by simp at h
 | d0 :: l, 0, d, h => by
  simp only [List.getElem?_cons_zero, Option.some.injEq] at h
  subst h
  intro n hn
  simp only [DataW.weightsAll, List.mem_append]
  exact .inl hn
 | d0 :: l, i + 1, d, h => by
  simp only [List.getElem?_cons_succ] at h
  intro n hn
  simp only [DataW.weightsAll, List.mem_append]
  exact .inr (weightsAll_mem h n hn)
theorem opn_sliceU {α : Type} {m : Nat} {P : Program} {t e : TypeId} {d : Kd α} {B : α → Prop} (hu : P.underlying t = some (.slice e)) (hc : P.cellsOf e = d.sz) (bytes : Nat) (hb : P.bytesOf e = bytes) (hd : OpnU m P e d B) :
  OpnU (m + 1) P t (Kd.slice e d) (fun l => l.length * bytes ≤ 140737488351232 ∧ l.length ≤ maxLen ∧ ∀ a ∈ l, B a) := by
 intro H enc W fuel cs x p hfm h hw
 cases fuel with
 | zero => simp [DataW.trod] at h
 | succ fuel =>
  simp only [DataW.trod, hu] at h
  split at h
  all_goals first | (simp at h; done) | (simp_all; done) | skip
  ·refine ⟨[], ⟨none, 0, rfl, Nat.le_refl _, rfl, Nat.zero_le _, fun hn => absurd hn (by simp)⟩, ?_⟩
   simp
  ·rename_i e' a len cap hue
   obtain rfl : e = e' := by
    have := hue
    simp at this
    exact this
   split at h
   ·rename_i hk
    obtain ⟨_, hlc, hcm⟩ := hk
    obtain ⟨elems, hel, h⟩ := Option.bind_eq_some_iff.1 h
    obtain ⟨rest, hrest, h⟩ := Option.map_eq_some_iff.1 h
    simp only [Prod.mk.injEq] at h
    obtain ⟨rfl, _⟩ := h
    simp only [if_true] at hrest
    obtain ⟨hl, hat⟩ := mapM_range _ _ _ hel
    obtain ⟨hl2, _⟩ := mapM_range _ _ _ hrest
    have hin : ∀ j (y : DataW H × List MemPlace), elems[j]? = some y → ∃ b : α, (∃ c, c.length = d.sz ∧ d.K W b c ∧ ∀ i u, c[i]? = some u → W.cell? (a.add (j * d.sz + i)) = some u) ∧ B b := by
     intro j y hy
     have hf := hat j y hy
     obtain ⟨c, hcs, ht⟩ := Option.bind_eq_some_iff.1 hf
     obtain ⟨hcl, hcell⟩ := cells_list hcs
     obtain ⟨b, hK, hB⟩ := hd H enc W fuel c y.1 y.2 (by omega) ht (fun n hn => hw n (by
      simp only [DataW.weights, hu, List.mem_cons, List.mem_append]
      exact .inr (.inl (weightsAll_mem (i := j) (d := y.1) (by simp [hy]) n hn))))
     refine ⟨b, ⟨c, by rw [hcl, hc], hK, fun i u hiu => ?_⟩, hB⟩
     have := hcell i u hiu
     rw [hc, add_add_] at this
     exact this
    have key : ∀ (n : Nat) , n ≤ elems.length → ∃ l : List α, l.length = n ∧ ∀ j b, l[j]? = some b → (∃ c, c.length = d.sz ∧ d.K W b c ∧ ∀ i u, c[i]? = some u → W.cell? (a.add (j * d.sz + i)) = some u) ∧ B b := by
     intro n
     induction n with
     | zero => intro _; exact ⟨[], rfl, fun j b hj => by simp at hj⟩
     | succ n ih =>
      intro hn
      obtain ⟨l, hll, hl3⟩ := ih (by omega)
      obtain ⟨b, hb3⟩ := hin n _ (List.getElem?_eq_getElem (by omega))
      refine ⟨l ++ [b], by simp [hll], fun j b' hj => ?_⟩
      by_cases hjn : j < n
      ·exact hl3 j b' (by rwa [List.getElem?_append_left (by omega)] at hj)
      ·have hjl : j < (l ++ [b]).length := (List.getElem?_eq_some_iff.1 hj).1
       simp [hll] at hjl
       obtain rfl : j = n := by omega
       rw [List.getElem?_append_right (by omega), hll, Nat.sub_self] at hj
       simp at hj
       subst hj
       exact hb3
    obtain ⟨l, hll, hl3⟩ := key elems.length (Nat.le_refl _)
    have hlen : l.length = len := by omega
    refine ⟨l, ⟨some a, cap, by rw [hlen], by omega, rfl, by rw [hlen]; unfold maxLen at hcm; omega, fun _ => ⟨a, rfl, fun j b hj => (hl3 j b hj).1⟩⟩, ?_, by rw [hlen]; omega, fun b hb => ?_⟩
    ·have h2 := hw _ (by simp only [DataW.weights, hu]; exact List.mem_cons_self)
     rw [hb, List.length_map, List.length_map, hl, hl2] at h2
     have h3 : l.length * bytes ≤ (len + (cap - len)) * bytes := Nat.mul_le_mul_right _ (by omega)
     exact Nat.le_trans h3 h2
    ·obtain ⟨j, hj⟩ := List.getElem?_of_mem hb
     exact (hl3 j b hj).2
   ·cases h
theorem opn_slice {α : Type} {P : Program} {t e : TypeId} {d : Kd α} {B : α → Prop} (hu : P.underlying t = some (.slice e)) (hc : P.cellsOf e = d.sz) (bytes : Nat) (hb : P.bytesOf e = bytes) (hd : Opn P e d B) :
  Opn P t (Kd.slice e d) (fun l => l.length * bytes ≤ 140737488351232 ∧ l.length ≤ maxLen ∧ ∀ a ∈ l, B a) :=
 opn_of fun m => (opn_sliceU hu hc bytes hb (hd.u m)).le (Nat.le_succ m)
def OpnFs {α : Type} (P : Program) (fs : List Field) (off n : Nat) (d : Kd α) (B : α → Prop) : Prop :=
 ∀ (H : Type) (enc : TypeId × Value → H) (W : World) (fuel : Nat) (cs : List Value) (xs : List (DataW H × List MemPlace)),
  cs.length = n → (fs.mapM fun f => DataW.trod enc P W 0 (fun _ => true) true fuel f.type ((cs.drop f.offset).take (P.cellsOf f.type))) = some xs →
  (∀ m ∈ DataW.weightsEach P (fs.map (·.type)) (xs.map (·.1)), m ≤ reachBytes) → ∃ a : α, d.K W a (cs.drop off) ∧ B a
theorem opnFs_one {α : Type} {P : Program} {f : Field} {off n : Nat} {d : Kd α} {B : α → Prop} (ho : f.offset = off) (hn : n = off + d.sz) (hc : P.cellsOf f.type = d.sz) (h : Opn P f.type d B) : OpnFs P [f] off n d B := by
 intro H enc W fuel cs xs hl hm hw
 simp only [List.mapM_cons, List.mapM_nil, Option.bind_eq_bind, Option.bind_eq_some_iff, Option.pure_def, Option.some.injEq] at hm
 obtain ⟨y, hy, r, rfl, rfl⟩ := hm
 obtain ⟨a, hK, hB⟩ := h H enc W fuel _ y.1 y.2 hy (fun m hm => hw m (by simp only [List.map_cons, List.map_nil, DataW.weightsEach, List.mem_append]; exact .inl hm))
 refine ⟨a, ?_, hB⟩
 rw [ho, hc, List.take_of_length_le (by simp; omega)] at hK
 exact hK
theorem opnFs_cons {α β : Type} {P : Program} {f : Field} {fs : List Field} {off n : Nat} {d : Kd α} {d2 : Kd β} {B : α → Prop} {B2 : β → Prop} (ho : f.offset = off) (hn : off + d.sz ≤ n) (hc : P.cellsOf f.type = d.sz) (h : Opn P f.type d B) (h2 : OpnFs P fs (off + d.sz) n d2 B2) :
  OpnFs P (f :: fs) off n (Kd.pair d d2) (fun x => B x.1 ∧ B2 x.2) := by
 intro H enc W fuel cs xs hl hm hw
 simp only [List.mapM_cons, Option.bind_eq_bind, Option.bind_eq_some_iff, Option.pure_def, Option.some.injEq] at hm
 obtain ⟨y, hy, r, hr, rfl⟩ := hm
 obtain ⟨a, hK, hB⟩ := h H enc W fuel _ y.1 y.2 hy (fun m hm => hw m (by simp only [List.map_cons, DataW.weightsEach, List.mem_append]; exact .inl hm))
 obtain ⟨b, hK2, hB2⟩ := h2 H enc W fuel cs r hl hr (fun m hm => hw m (by simp only [List.map_cons, DataW.weightsEach, List.mem_append]; exact .inr hm))
 refine ⟨(a, b), ⟨_, _, ?_, hK, hK2⟩, hB, hB2⟩
 rw [ho, hc, ← List.drop_drop]
 exact (List.take_append_drop _ _).symm
theorem opn_struct {α : Type} {P : Program} {t : TypeId} {fs : Array Field} {n : Nat} {d : Kd α} {B : α → Prop} (hu : P.underlying t = some (.struct fs)) (hc : P.cellsOf t = n) (h : OpnFs P fs.toList 0 n d B) : Opn P t d B := by
 intro H enc W fuel cs x p ht hw
 cases fuel with
 | zero => simp [DataW.trod] at ht
 | succ fuel =>
  simp only [DataW.trod, hu] at ht
  split at ht
  ·rename_i hl
   obtain ⟨xs, hm, hx⟩ := Option.map_eq_some_iff.1 ht
   simp only [Prod.mk.injEq] at hx
   obtain ⟨rfl, _⟩ := hx
   obtain ⟨a, hK, hB⟩ := h H enc W fuel _ xs (hl.trans hc) hm (fun m hm => hw m (by simp only [DataW.weights, hu]; exact hm))
   exact ⟨a, hK, hB⟩
  ·cases ht
theorem opn_iso {α β : Type} {P : Program} {t : TypeId} {d : Kd α} {B : α → Prop} (f : β → α) (g : α → β) (hg : ∀ a, f (g a) = a) (h : Opn P t d B) : Opn P t (Kd.iso d f) (fun b => B (f b)) := by
 intro H enc W fuel cs x p ht hw
 obtain ⟨a, hK, hB⟩ := h H enc W fuel cs x p ht hw
 exact ⟨g a, (by show d.K W (f (g a)) cs; rw [hg]; exact hK), by show B (f (g a)); rw [hg]; exact hB⟩
theorem Opn.mono {α : Type} {P : Program} {t : TypeId} {d : Kd α} {B B' : α → Prop} (h : Opn P t d B) (hb : ∀ a, B a → B' a) : Opn P t d B' := by
 intro H enc W fuel cs x p ht hw
 obtain ⟨a, hK, hB⟩ := h H enc W fuel cs x p ht hw
 exact ⟨a, hK, hb a hB⟩
theorem cells_of_strs {H : Type} {enc : TypeId × Value → H} {P : Program} {w : World} {base : Nat} {sp : Nat → Bool} {held : Bool} {fuel : Nat} {t e : TypeId} {n : Nat} {cs : List Value} {ss : List (List UInt8)} {p : List MemPlace}
  (ht : P.underlying t = some (.array n e)) (he : P.underlying e = some .string) (hce : P.cellsOf e = 1) (hct : P.cellsOf t = n)
  (h : DataW.trod enc P w base sp held fuel t cs = some (.agg (ss.map fun s => .lit (.string s)), p)) : cs = ss.map fun s => Value.string ⟨s.toArray⟩ := by
 cases fuel with
 | zero => simp [DataW.trod] at h
 | succ fuel =>
  simp only [DataW.trod, ht, hce, hct, Nat.mul_one] at h
  split at h
  ·rename_i hl
   obtain ⟨xs, hm, hx⟩ := Option.map_eq_some_iff.1 h
   have hxs : xs.map (·.1) = ss.map fun s => (DataW.lit (.string s) : DataW H) := by
    have := congrArg Prod.fst hx
    simpa using this
   have hxl : xs.length = n := by simpa using Lib.mapM_length hm
   have hzl : ss.length = n := by
    have := congrArg List.length hxs
    simp at this
    omega
   apply List.ext_getElem?
   intro i
   by_cases hi : i < n
   ·obtain ⟨b, hb, hf⟩ := Lib.mapM_at hm i i (by simp [hi])
    obtain ⟨s, hc, rfl, _⟩ := DataW.trod_string he hf
    have h1 : cs[i]? = some (.string s) := by
     have := congrArg (·[0]?) hc
     simpa [List.getElem?_take, List.getElem?_drop] using this
    have h2 : (xs.map (·.1))[i]? = some (DataW.lit (.string s.data.toList) : DataW H) := by simp [hb]
    rw [hxs] at h2
    simp only [List.getElem?_map, Option.map_eq_some_iff, DataW.lit.injEq, Lit.string.injEq] at h2
    obtain ⟨z', hz', hz2⟩ := h2
    rw [h1]
    simp [hz', hz2]
   ·rw [List.getElem?_eq_none (by omega), List.getElem?_eq_none (by simp; omega)]
  ·cases h
theorem strs_of_head {P : Program} {W : World} {name : String} (ss : List (List UInt8)) {rest : List (String × DataW Unit)} {g : Nat} {t e : TypeId} {n : Nat}
  (hg : P.globalNamed name = some g) (hty : (P.globals[g]?).map (·.type) = some t) (ht : P.underlying t = some (.array n e)) (he : P.underlying e = some .string) (hce : P.cellsOf e = 1) (hct : P.cellsOf t = n)
  (h : laidMet P ((name, .agg (ss.map fun s => .lit (.string s))) :: rest) W) : W.var? P name = some (ss.map fun s => Value.string ⟨s.toArray⟩).toArray := by
 obtain ⟨ps, ⟨g', t', cs, fuel, p, q, hg', ht', hvar, hd, _, _⟩, _⟩ := h
 obtain rfl := Option.some.inj (hg.symm.trans hg')
 obtain rfl := Option.some.inj (hty.symm.trans ht')
 rw [hvar, ← cells_of_strs ht he hce hct hd]
end Go.Proofs.YtmafmhgmdegplaaGreatDoor.P
