/-
  DERIVED. GIVEN WITH THE SEED: THE CARDS: each row of YtbinfdheapjpnaaDoorRows.lean that lists a variable, with what it lists TIED to the program's text (the seventh form; the later family's looks); each row that meets fmt, with fmt's text TOLD by the authors' own Lean function (tested against real Go, not proved from fmt's source: count such statements apart). THE CARD IS WHAT COUNTS. Prove the row's statement (the work); the ties are given (YtbinfdheapjpnaaDoorTie.lean); close each card by the builder's one call (the guide's Derived/Test/ToyasCard.lean, 'card_holds'). Laid BY PROGRAM, IN A SANDBOX (cutbox-door.mjs). By AI agents, Wed Nov 11 2026. No macro, syntax, notation, axiom, sorry.
-/
import Derived.Test.YtbinfdheapjpnaaDoorRows
import GoSem.ClaimSeven
namespace Go.Proofs.YtbinfdheapjpnaaDoor
namespace Rows

/-- THE TIED CARD OF 'laws.FnExactWriteCell'. -/
def fnExactWriteCellCard : Claim7 := { stood := { row := fnExactWriteCellRow, standIns := [], harness := (true, "af0220723e890b72cab861c37975b68d77de6069e7f8ca728b1dc99695bcf8ee"), looks := false }, kinds := [], alts := [], laidByText := true, laidKinds := [.data, .pinned], laidTests := true, laidLooks := .later }
def FnExactWriteCellCardSaid : Prop := Claim7.holds Tryd.pinned (.plain (OpenSpec.ofChange fnExactWriteCellSpec)) fnExactWriteCellCard

/-- THE TIED CARD OF 'laws.FnExactWriteRow'. -/
def fnExactWriteRowCard : Claim7 := { stood := { row := fnExactWriteRowRow, standIns := [], harness := (true, "af0220723e890b72cab861c37975b68d77de6069e7f8ca728b1dc99695bcf8ee"), looks := false }, kinds := [], alts := [], laidByText := true, laidKinds := [.data, .pinned], laidTests := true, laidLooks := .later }
def FnExactWriteRowCardSaid : Prop := Claim7.holds Tryd.pinned (.plain (OpenSpec.ofChange fnExactWriteRowSpec)) fnExactWriteRowCard

/-- THE TIED CARD OF 'laws.FnExactReadRow'. -/
def fnExactReadRowCard : Claim7 := { stood := { row := fnExactReadRowRow, standIns := [], harness := (true, "af0220723e890b72cab861c37975b68d77de6069e7f8ca728b1dc99695bcf8ee"), looks := false }, kinds := [], alts := [], laidByText := true, laidKinds := [.data, .pinned], laidTests := true, laidLooks := .later }
def FnExactReadRowCardSaid : Prop := Claim7.holds Tryd.pinned (.plain (OpenSpec.ofChange fnExactReadRowSpec)) fnExactReadRowCard

/-- THE SECOND FORM's CARD OF 'laws.FnExactWriteCell'. -/
def fnExactWriteCellUptoCard : Claim7 := { stood := { row := fnExactWriteCellUptoRow, standIns := [], harness := (true, "af0220723e890b72cab861c37975b68d77de6069e7f8ca728b1dc99695bcf8ee"), looks := false }, kinds := [], alts := [], laidByText := true, laidKinds := [.data, .pinned], laidTests := true, laidLooks := .later }
def FnExactWriteCellUptoCardSaid : Prop := Claim7.holds Tryd.pinned (.plain (OpenSpec.upto fnExactWriteCellSpec)) fnExactWriteCellUptoCard

/-- THE SECOND FORM's CARD OF 'laws.FnExactWriteRow'. -/
def fnExactWriteRowUptoCard : Claim7 := { stood := { row := fnExactWriteRowUptoRow, standIns := [], harness := (true, "af0220723e890b72cab861c37975b68d77de6069e7f8ca728b1dc99695bcf8ee"), looks := false }, kinds := [], alts := [], laidByText := true, laidKinds := [.data, .pinned], laidTests := true, laidLooks := .later }
def FnExactWriteRowUptoCardSaid : Prop := Claim7.holds Tryd.pinned (.plain (OpenSpec.upto fnExactWriteRowSpec)) fnExactWriteRowUptoCard

/-- THE SECOND FORM's CARD OF 'laws.FnExactReadRow'. -/
def fnExactReadRowUptoCard : Claim7 := { stood := { row := fnExactReadRowUptoRow, standIns := [], harness := (true, "af0220723e890b72cab861c37975b68d77de6069e7f8ca728b1dc99695bcf8ee"), looks := false }, kinds := [], alts := [], laidByText := true, laidKinds := [.data, .pinned], laidTests := true, laidLooks := .later }
def FnExactReadRowUptoCardSaid : Prop := Claim7.holds Tryd.pinned (.plain (OpenSpec.upto fnExactReadRowSpec)) fnExactReadRowUptoCard
end Rows
end Go.Proofs.YtbinfdheapjpnaaDoor
