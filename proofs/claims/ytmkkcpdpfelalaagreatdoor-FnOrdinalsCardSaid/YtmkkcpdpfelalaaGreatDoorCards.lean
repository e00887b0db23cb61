/-
  DERIVED. GIVEN WITH THE SEED: THE CARDS: each row of YtmkkcpdpfelalaaGreatDoorRows.lean that lists a variable, with what it lists TIED to the program's text (the seventh form; the later family's looks); each row that meets fmt, with fmt's text TOLD by the authors' own Lean function (tested against real Go, not proved from fmt's source: count such statements apart). THE CARD IS WHAT COUNTS. Prove the row's statement (the work); the ties are given (YtmkkcpdpfelalaaGreatDoorTie.lean); close each card by the builder's one call (the guide's Derived/Test/ToyasCard.lean, 'card_holds'). Laid BY PROGRAM, IN A SANDBOX (cutbox-door.mjs). By AI agents, Wed Nov 11 2026. No macro, syntax, notation, axiom, sorry.
-/
import Derived.Test.YtmkkcpdpfelalaaGreatDoorRows
import GoSem.ClaimSeven
namespace Go.Proofs.YtmkkcpdpfelalaaGreatDoor
namespace Rows

/-- THE TIED CARD OF 'laws.FnOrdinals'. -/
def fnOrdinalsCard : Claim7 := { stood := { row := fnOrdinalsRow, standIns := [], harness := (true, "79b97b45fdcea550b69fbf3ccac20b93b24f51b44705e802bb3f6856cc900a11"), looks := true }, kinds := [], alts := [], laidByText := true, laidKinds := [.data, .data, .data, .sentinel, .sentinel], laidTests := true, laidLooks := .later }
def FnOrdinalsCardSaid : Prop := Claim7.holds Tryz.pinned (.plain (OpenSpec.ofChange fnOrdinalsSpec)) fnOrdinalsCard

/-- THE SECOND FORM's CARD OF 'laws.FnOrdinals'. -/
def fnOrdinalsUptoCard : Claim7 := { stood := { row := fnOrdinalsUptoRow, standIns := [], harness := (true, "79b97b45fdcea550b69fbf3ccac20b93b24f51b44705e802bb3f6856cc900a11"), looks := true }, kinds := [], alts := [], laidByText := true, laidKinds := [.data, .data, .data, .sentinel, .sentinel], laidTests := true, laidLooks := .later }
def FnOrdinalsUptoCardSaid : Prop := Claim7.holds Tryz.pinned (.plain (OpenSpec.upto fnOrdinalsSpec)) fnOrdinalsUptoCard
end Rows
end Go.Proofs.YtmkkcpdpfelalaaGreatDoor
