/-
  DERIVED. GIVEN WITH THE SEED: THE CARDS: each row of YtpnjnlcjofaglaaDoorRows.lean that lists a variable, with what it lists TIED to the program's text (the seventh form; the later family's looks); each row that meets fmt, with fmt's text TOLD by the authors' own Lean function (tested against real Go, not proved from fmt's source: count such statements apart). THE CARD IS WHAT COUNTS. Prove the row's statement (the work); the ties are given (YtpnjnlcjofaglaaDoorTie.lean); close each card by the builder's one call (the guide's Derived/Test/ToyasCard.lean, 'card_holds'). Laid BY PROGRAM, IN A SANDBOX (cutbox-door.mjs). By AI agents, Wed Nov 11 2026. No macro, syntax, notation, axiom, sorry.
-/
import Derived.Test.YtpnjnlcjofaglaaDoorRows
import GoSem.ClaimSeven
namespace Go.Proofs.YtpnjnlcjofaglaaDoor
namespace Rows

/-- THE TIED CARD OF 'laws.FnExactToBook10'. -/
def fnExactToBook10Card : Claim7 := { stood := { row := fnExactToBook10Row, standIns := [], harness := (true, "60574b50e73cc744b41c875c0d96415f32588011cf6dd4cd061203cc87e3b0ec"), looks := false }, kinds := [], alts := [], laidByText := true, laidKinds := [.data, .data, .data], laidTests := true, laidLooks := .later }
def FnExactToBook10CardSaid : Prop := Claim7.holds Tryd.pinned (.plain (OpenSpec.ofChange fnExactToBook10Spec)) fnExactToBook10Card

/-- THE TIED CARD OF 'laws.FnExactToBook13'. -/
def fnExactToBook13Card : Claim7 := { stood := { row := fnExactToBook13Row, standIns := [], harness := (true, "60574b50e73cc744b41c875c0d96415f32588011cf6dd4cd061203cc87e3b0ec"), looks := false }, kinds := [], alts := [], laidByText := true, laidKinds := [.data, .data, .data], laidTests := true, laidLooks := .later }
def FnExactToBook13CardSaid : Prop := Claim7.holds Tryd.pinned (.plain (OpenSpec.ofChange fnExactToBook13Spec)) fnExactToBook13Card

/-- THE TIED CARD OF 'laws.FnExactCompleteIdentifier'. -/
def fnExactCompleteIdentifierCard : Claim7 := { stood := { row := fnExactCompleteIdentifierRow, standIns := [], harness := (true, "60574b50e73cc744b41c875c0d96415f32588011cf6dd4cd061203cc87e3b0ec"), looks := false }, kinds := [], alts := [], laidByText := true, laidKinds := [.data, .data, .data], laidTests := true, laidLooks := .later }
def FnExactCompleteIdentifierCardSaid : Prop := Claim7.holds Tryd.pinned (.plain (OpenSpec.ofChange fnExactCompleteIdentifierSpec)) fnExactCompleteIdentifierCard

/-- THE TIED CARD OF 'laws.FnExactCompactForm'. -/
def fnExactCompactFormCard : Claim7 := { stood := { row := fnExactCompactFormRow, standIns := [], harness := (true, "60574b50e73cc744b41c875c0d96415f32588011cf6dd4cd061203cc87e3b0ec"), looks := false }, kinds := [], alts := [], laidByText := true, laidKinds := [.data, .pinned], laidTests := true, laidLooks := .later }
def FnExactCompactFormCardSaid : Prop := Claim7.holds Tryd.pinned (.plain (OpenSpec.ofChange fnExactCompactFormSpec)) fnExactCompactFormCard

/-- THE TIED CARD OF 'laws.FnBooks'. -/
def fnBooksCard : Claim7 := { stood := { row := fnBooksRow, standIns := [], harness := (true, "60574b50e73cc744b41c875c0d96415f32588011cf6dd4cd061203cc87e3b0ec"), looks := false }, kinds := [], alts := [], laidByText := true, laidKinds := [.data, .data, .data], laidTests := true, laidLooks := .later }
def FnBooksCardSaid : Prop := Claim7.holds Tryd.pinned (.plain (OpenSpec.ofChange fnBooksSpec)) fnBooksCard

/-- THE TIED CARD OF 'laws.FnIdentifiers'. -/
def fnIdentifiersCard : Claim7 := { stood := { row := fnIdentifiersRow, standIns := [], harness := (true, "60574b50e73cc744b41c875c0d96415f32588011cf6dd4cd061203cc87e3b0ec"), looks := false }, kinds := [], alts := [], laidByText := true, laidKinds := [.data, .data, .data, .data, .pinned], laidTests := true, laidLooks := .later }
def FnIdentifiersCardSaid : Prop := Claim7.holds Tryd.pinned (.plain (OpenSpec.ofChange fnIdentifiersSpec)) fnIdentifiersCard

/-- THE SECOND FORM's CARD OF 'laws.FnExactToBook10'. -/
def fnExactToBook10UptoCard : Claim7 := { stood := { row := fnExactToBook10UptoRow, standIns := [], harness := (true, "60574b50e73cc744b41c875c0d96415f32588011cf6dd4cd061203cc87e3b0ec"), looks := false }, kinds := [], alts := [], laidByText := true, laidKinds := [.data, .data, .data], laidTests := true, laidLooks := .later }
def FnExactToBook10UptoCardSaid : Prop := Claim7.holds Tryd.pinned (.plain (OpenSpec.upto fnExactToBook10Spec)) fnExactToBook10UptoCard

/-- THE SECOND FORM's CARD OF 'laws.FnExactToBook13'. -/
def fnExactToBook13UptoCard : Claim7 := { stood := { row := fnExactToBook13UptoRow, standIns := [], harness := (true, "60574b50e73cc744b41c875c0d96415f32588011cf6dd4cd061203cc87e3b0ec"), looks := false }, kinds := [], alts := [], laidByText := true, laidKinds := [.data, .data, .data], laidTests := true, laidLooks := .later }
def FnExactToBook13UptoCardSaid : Prop := Claim7.holds Tryd.pinned (.plain (OpenSpec.upto fnExactToBook13Spec)) fnExactToBook13UptoCard

/-- THE SECOND FORM's CARD OF 'laws.FnExactCompleteIdentifier'. -/
def fnExactCompleteIdentifierUptoCard : Claim7 := { stood := { row := fnExactCompleteIdentifierUptoRow, standIns := [], harness := (true, "60574b50e73cc744b41c875c0d96415f32588011cf6dd4cd061203cc87e3b0ec"), looks := false }, kinds := [], alts := [], laidByText := true, laidKinds := [.data, .data, .data], laidTests := true, laidLooks := .later }
def FnExactCompleteIdentifierUptoCardSaid : Prop := Claim7.holds Tryd.pinned (.plain (OpenSpec.upto fnExactCompleteIdentifierSpec)) fnExactCompleteIdentifierUptoCard

/-- THE SECOND FORM's CARD OF 'laws.FnExactCompactForm'. -/
def fnExactCompactFormUptoCard : Claim7 := { stood := { row := fnExactCompactFormUptoRow, standIns := [], harness := (true, "60574b50e73cc744b41c875c0d96415f32588011cf6dd4cd061203cc87e3b0ec"), looks := false }, kinds := [], alts := [], laidByText := true, laidKinds := [.data, .pinned], laidTests := true, laidLooks := .later }
def FnExactCompactFormUptoCardSaid : Prop := Claim7.holds Tryd.pinned (.plain (OpenSpec.upto fnExactCompactFormSpec)) fnExactCompactFormUptoCard

/-- THE SECOND FORM's CARD OF 'laws.FnBooks'. -/
def fnBooksUptoCard : Claim7 := { stood := { row := fnBooksUptoRow, standIns := [], harness := (true, "60574b50e73cc744b41c875c0d96415f32588011cf6dd4cd061203cc87e3b0ec"), looks := false }, kinds := [], alts := [], laidByText := true, laidKinds := [.data, .data, .data], laidTests := true, laidLooks := .later }
def FnBooksUptoCardSaid : Prop := Claim7.holds Tryd.pinned (.plain (OpenSpec.upto fnBooksSpec)) fnBooksUptoCard

/-- THE SECOND FORM's CARD OF 'laws.FnIdentifiers'. -/
def fnIdentifiersUptoCard : Claim7 := { stood := { row := fnIdentifiersUptoRow, standIns := [], harness := (true, "60574b50e73cc744b41c875c0d96415f32588011cf6dd4cd061203cc87e3b0ec"), looks := false }, kinds := [], alts := [], laidByText := true, laidKinds := [.data, .data, .data, .data, .pinned], laidTests := true, laidLooks := .later }
def FnIdentifiersUptoCardSaid : Prop := Claim7.holds Tryd.pinned (.plain (OpenSpec.upto fnIdentifiersSpec)) fnIdentifiersUptoCard
end Rows
end Go.Proofs.YtpnjnlcjofaglaaDoor
