/- More of the draws: a number among those given, and a spoilt text. Conditions: those of each lemma. -/
import Derived.Test.YtleckcbiifhanaaDoorZPx3
import Derived.Test.YtleckcbiifhanaaDoorZLDraw
namespace Go.Proofs.YtleckcbiifhanaaDoor.P
open Go.RowKit Go.Proofs.YtleckcbiifhanaaDoorW.PrintWords Go.Proofs.YtleckcbiifhanaaDoorW.PrintLast Go.Proofs.YtleckcbiifhanaaDoorW.PrintMore
set_option linter.unusedVariables false
set_option linter.unusedSimpArgs false
theorem among_f {l : List Int} (hb : Byt l) (a sd : Int) (L : List Int) (hL : 0 < L.length) (h0 : 0 ≤ a) (h1 : a ≤ 3000000000000000000) :
  ∃ t b s, spec_l1Cur_among.f l a sd L = some (t, b, s) ∧ t ∈ L ∧ a ≤ b ∧ b ≤ a + 2 := by
 obtain ⟨x, b, s, hx, x0, x1, h4, h5⟩ := pick_f hb a sd (L.length : Int) h0 h1
 have hlt : x < (L.length : Int) := by omega
 unfold spec_l1Cur_among.f
 rw [hx, Option.bind_some, if_pos x0, if_pos hlt]
 refine ⟨_, _, _, rfl, ?_, h4, h5⟩
 unfold rd
 have hi : x.toNat < L.length := by omega
 rw [List.getD_eq_getElem?_getD, List.getElem?_eq_getElem hi, Option.getD_some]
 exact List.getElem_mem hi
theorem among_t {l : List Int} (hb : Byt l) (a sd : Int) (L : List Int) (hL : 0 < L.length) (h0 : 0 ≤ a) (h1 : a ≤ 3000000000000000000) :
  Tot (spec_l1Cur_among.f l a sd L) (fun r => r.1 ∈ L ∧ a ≤ r.2.1 ∧ r.2.1 ≤ a + 2) := by
 obtain ⟨x, b, s, h⟩ := among_f hb a sd L hL h0 h1
 exact ⟨_, h.1, h.2⟩
end Go.Proofs.YtleckcbiifhanaaDoor.P
