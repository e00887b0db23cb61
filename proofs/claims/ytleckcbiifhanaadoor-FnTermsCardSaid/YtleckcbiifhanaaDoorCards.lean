/-
  DERIVED. GIVEN WITH THE SEED: THE CARDS: each row of YtleckcbiifhanaaDoorRows.lean that lists a variable, with what it lists TIED to the program's text (the seventh form; the later family's looks); each row that meets fmt, with fmt's text TOLD by the authors' own Lean function (tested against real Go, not proved from fmt's source: count such statements apart). THE CARD IS WHAT COUNTS. Prove the row's statement (the work); the ties are given (YtleckcbiifhanaaDoorTie.lean); close each card by the builder's one call (the guide's Derived/Test/ToyasCard.lean, 'card_holds'). Laid BY PROGRAM, IN A SANDBOX (cutbox-door.mjs). By AI agents, Wed Nov 11 2026. No macro, syntax, notation, axiom, sorry.
-/
import Derived.Test.YtleckcbiifhanaaDoorRows
import GoSem.ClaimSeven
namespace Go.Proofs.YtleckcbiifhanaaDoor
namespace Rows

/-- THE TIED CARD OF 'laws.FnTerms'. -/
def fnTermsCard : Claim7 := { stood := { row := fnTermsRow, standIns := [], harness := (true, "ca80f4414d33efe73e2bd9a9438d6618f938bf2667520c45a47301088d288cc7"), looks := false }, kinds := [], alts := [], laidByText := true, laidKinds := [.data, .data, .data], laidTests := true, laidLooks := .later }
def FnTermsCardSaid : Prop := Claim7.holds Tryd.pinned (.plain (OpenSpec.ofChange fnTermsSpec)) fnTermsCard

/-- THE SECOND FORM's CARD OF 'laws.FnTerms'. -/
def fnTermsUptoCard : Claim7 := { stood := { row := fnTermsUptoRow, standIns := [], harness := (true, "ca80f4414d33efe73e2bd9a9438d6618f938bf2667520c45a47301088d288cc7"), looks := false }, kinds := [], alts := [], laidByText := true, laidKinds := [.data, .data, .data], laidTests := true, laidLooks := .later }
def FnTermsUptoCardSaid : Prop := Claim7.holds Tryd.pinned (.plain (OpenSpec.upto fnTermsSpec)) fnTermsUptoCard
end Rows
end Go.Proofs.YtleckcbiifhanaaDoor
