/- What is read of an argument, kind by kind: whole numbers, bools, strings, slices and structs of these, with the bounds that every row's own reach gives. Conditions: those of each lemma. -/
import Derived.ProofKit
import Derived.SizedLaws
import Derived.Below
import Derived.Lib.LaidTab
import Derived.Test.YtbinfdheapjpnaaDoorZPx0
namespace Go.Proofs.YtbinfdheapjpnaaDoor.P
open Go.RowKit Go.Proofs.YtbinfdheapjpnaaDoorW.PrintWords Go.Proofs.YtbinfdheapjpnaaDoorW.PrintLast Go.Proofs.YtbinfdheapjpnaaDoorW.PrintMore
set_option linter.unusedVariables false
set_option linter.unusedSimpArgs false
def Opn {α : Type} (P : Program) (t : TypeId) (d : Kd α) (B : α → Prop) : Prop :=
 ∀ (H : Type) (enc : TypeId × Value → H) (W : World) (fuel : Nat) (cs : List Value) (x : DataW H) (p : List MemPlace),
  DataW.trod enc P W 0 (fun _ => true) true fuel t cs = some (x, p) → (∀ n ∈ x.weights P t, n ≤ reachBytes) → ∃ a : α, d.K W a cs ∧ B a
theorem Opn.mono {α : Type} {P : Program} {t : TypeId} {d : Kd α} {B B' : α → Prop} (h : Opn P t d B) (hb : ∀ a, B a → B' a) : Opn P t d B' := by
 intro H enc W fuel cs x p ht hw
 obtain ⟨a, hK, hB⟩ := h H enc W fuel cs x p ht hw
 exact ⟨a, hK, hb a hB⟩
end Go.Proofs.YtbinfdheapjpnaaDoor.P
