/- A list of texts is equal to itself. For lists of at most 2000000 texts. -/
import Derived.Test.YtbinfdheapjpnaaDoorZPx3
import Derived.Test.YtbinfdheapjpnaaDoorZLBase
namespace Go.Proofs.YtbinfdheapjpnaaDoor.P
open Go.RowKit Go.Proofs.YtbinfdheapjpnaaDoorW.PrintWords Go.Proofs.YtbinfdheapjpnaaDoorW.PrintLast Go.Proofs.YtbinfdheapjpnaaDoorW.PrintMore
set_option linter.unusedVariables false
set_option linter.unusedSimpArgs false
theorem eqStrs_l0 (l : List ByteArray) (hl : l.length ≤ 2000000) (d : Nat) : ∀ (k : Nat) (i : Int), 0 ≤ i → (l.length : Int) - i = d → d < k → laws_eqStringS.l0 k l l i = some true := by
 induction d with
 | zero =>
  intro k i h0 hd hk
  obtain ⟨k, rfl⟩ := succ_of hk
  rw [laws_eqStringS.l0, if_neg (by omega)]
 | succ d ih =>
  intro k i h0 hd hk
  obtain ⟨k, rfl⟩ := succ_of hk
  rw [laws_eqStringS.l0, if_pos (by omega), if_pos h0, if_pos (by omega), if_pos rfl, w64 (x := i + 1) (by omega) (by omega)]
  exact ih k (i + 1) (by omega) (by omega) (by omega)
theorem eqStrs (l : List ByteArray) (hl : l.length ≤ 2000000) (k : Nat) (hk : l.length < k) : laws_eqStringS.f k l l = some true := by
 unfold laws_eqStringS.f
 rw [if_pos rfl]
 exact eqStrs_l0 l hl l.length k 0 (by omega) (by omega) hk
end Go.Proofs.YtbinfdheapjpnaaDoor.P
