/-
  DERIVED. GIVEN WITH THE SEED: THE CARDS: each row of YtmafmhgmdegplaaGreatDoorRows.lean that lists a variable, with what it lists TIED to the program's text (the seventh form; the later family's looks); each row that meets fmt, with fmt's text TOLD by the authors' own Lean function (tested against real Go, not proved from fmt's source: count such statements apart). THE CARD IS WHAT COUNTS. Prove the row's statement (the work); the ties are given (YtmafmhgmdegplaaGreatDoorTie.lean); close each card by the builder's one call (the guide's Derived/Test/ToyasCard.lean, 'card_holds'). Laid BY PROGRAM, IN A SANDBOX (cutbox-door.mjs). By AI agents, Wed Nov 11 2026. No macro, syntax, notation, axiom, sorry.
-/
import Derived.Test.YtmafmhgmdegplaaGreatDoorRows
import GoSem.ClaimSeven
namespace Go.Proofs.YtmafmhgmdegplaaGreatDoor
namespace Rows

/-- THE TIED CARD OF 'laws.FnExactMatchEntry'. -/
def fnExactMatchEntryCard : Claim7 := { stood := { row := fnExactMatchEntryRow, standIns := [], harness := (true, "aba5bc6e477f6a888394e6cbeede31f24b24e7147b39711386707a827ba447b9"), looks := false }, kinds := [], alts := [], laidByText := true, laidKinds := [.data, .data, .data, .data, .widerDeep, .pinned], laidTests := true, laidLooks := .later }
def FnExactMatchEntryCardSaid : Prop := Claim7.holds Tryz.pinned (.plain (OpenSpec.ofChange fnExactMatchEntrySpec)) fnExactMatchEntryCard

/-- THE TIED CARD OF 'laws.FnExactRunQuery'. -/
def fnExactRunQueryCard : Claim7 := { stood := { row := fnExactRunQueryRow, standIns := [], harness := (true, "aba5bc6e477f6a888394e6cbeede31f24b24e7147b39711386707a827ba447b9"), looks := false }, kinds := [], alts := [], laidByText := true, laidKinds := [.data, .data, .data, .data, .widerDeep, .pinned], laidTests := true, laidLooks := .later }
def FnExactRunQueryCardSaid : Prop := Claim7.holds Tryz.pinned (.plain (OpenSpec.ofChange fnExactRunQuerySpec)) fnExactRunQueryCard

/-- THE TIED CARD OF 'laws.FnQueries'. -/
def fnQueriesCard : Claim7 := { stood := { row := fnQueriesRow, standIns := [], harness := (true, "aba5bc6e477f6a888394e6cbeede31f24b24e7147b39711386707a827ba447b9"), looks := false }, kinds := [], alts := [], laidByText := true, laidKinds := [.data, .data, .data, .data, .widerDeep, .pinned], laidTests := true, laidLooks := .later }
def FnQueriesCardSaid : Prop := Claim7.holds Tryz.pinned (.plain (OpenSpec.ofChange fnQueriesSpec)) fnQueriesCard

/-- THE TIED CARD OF 'laws.FnExactWordIndex'. -/
def fnExactWordIndexCard : Claim7 := { stood := { row := fnExactWordIndexRow, standIns := [], harness := (true, "aba5bc6e477f6a888394e6cbeede31f24b24e7147b39711386707a827ba447b9"), looks := false }, kinds := [], alts := [], laidByText := true, laidKinds := [.data, .data, .data, .data, .widerDeep, .pinned], laidTests := true, laidLooks := .later }
def FnExactWordIndexCardSaid : Prop := Claim7.holds Tryz.pinned (.plain (OpenSpec.ofChange fnExactWordIndexSpec)) fnExactWordIndexCard

/-- THE TIED CARD OF 'laws.FnExactRankEntries'. -/
def fnExactRankEntriesCard : Claim7 := { stood := { row := fnExactRankEntriesRow, standIns := [], harness := (true, "aba5bc6e477f6a888394e6cbeede31f24b24e7147b39711386707a827ba447b9"), looks := false }, kinds := [], alts := [], laidByText := true, laidKinds := [.data, .data, .data, .data, .widerDeep, .pinned], laidTests := true, laidLooks := .later }
def FnExactRankEntriesCardSaid : Prop := Claim7.holds Tryz.pinned (.plain (OpenSpec.ofChange fnExactRankEntriesSpec)) fnExactRankEntriesCard

/-- THE TIED CARD OF 'laws.FnIndex'. -/
def fnIndexCard : Claim7 := { stood := { row := fnIndexRow, standIns := [], harness := (true, "aba5bc6e477f6a888394e6cbeede31f24b24e7147b39711386707a827ba447b9"), looks := false }, kinds := [], alts := [], laidByText := true, laidKinds := [.data, .data, .data, .data, .widerDeep, .pinned], laidTests := true, laidLooks := .later }
def FnIndexCardSaid : Prop := Claim7.holds Tryz.pinned (.plain (OpenSpec.ofChange fnIndexSpec)) fnIndexCard

/-- THE SECOND FORM's CARD OF 'laws.FnExactMatchEntry'. -/
def fnExactMatchEntryUptoCard : Claim7 := { stood := { row := fnExactMatchEntryUptoRow, standIns := [], harness := (true, "aba5bc6e477f6a888394e6cbeede31f24b24e7147b39711386707a827ba447b9"), looks := false }, kinds := [], alts := [], laidByText := true, laidKinds := [.data, .data, .data, .data, .widerDeep, .pinned], laidTests := true, laidLooks := .later }
def FnExactMatchEntryUptoCardSaid : Prop := Claim7.holds Tryz.pinned (.plain (OpenSpec.upto fnExactMatchEntrySpec)) fnExactMatchEntryUptoCard

/-- THE SECOND FORM's CARD OF 'laws.FnExactRunQuery'. -/
def fnExactRunQueryUptoCard : Claim7 := { stood := { row := fnExactRunQueryUptoRow, standIns := [], harness := (true, "aba5bc6e477f6a888394e6cbeede31f24b24e7147b39711386707a827ba447b9"), looks := false }, kinds := [], alts := [], laidByText := true, laidKinds := [.data, .data, .data, .data, .widerDeep, .pinned], laidTests := true, laidLooks := .later }
def FnExactRunQueryUptoCardSaid : Prop := Claim7.holds Tryz.pinned (.plain (OpenSpec.upto fnExactRunQuerySpec)) fnExactRunQueryUptoCard

/-- THE SECOND FORM's CARD OF 'laws.FnQueries'. -/
def fnQueriesUptoCard : Claim7 := { stood := { row := fnQueriesUptoRow, standIns := [], harness := (true, "aba5bc6e477f6a888394e6cbeede31f24b24e7147b39711386707a827ba447b9"), looks := false }, kinds := [], alts := [], laidByText := true, laidKinds := [.data, .data, .data, .data, .widerDeep, .pinned], laidTests := true, laidLooks := .later }
def FnQueriesUptoCardSaid : Prop := Claim7.holds Tryz.pinned (.plain (OpenSpec.upto fnQueriesSpec)) fnQueriesUptoCard

/-- THE SECOND FORM's CARD OF 'laws.FnExactWordIndex'. -/
def fnExactWordIndexUptoCard : Claim7 := { stood := { row := fnExactWordIndexUptoRow, standIns := [], harness := (true, "aba5bc6e477f6a888394e6cbeede31f24b24e7147b39711386707a827ba447b9"), looks := false }, kinds := [], alts := [], laidByText := true, laidKinds := [.data, .data, .data, .data, .widerDeep, .pinned], laidTests := true, laidLooks := .later }
def FnExactWordIndexUptoCardSaid : Prop := Claim7.holds Tryz.pinned (.plain (OpenSpec.upto fnExactWordIndexSpec)) fnExactWordIndexUptoCard

/-- THE SECOND FORM's CARD OF 'laws.FnExactRankEntries'. -/
def fnExactRankEntriesUptoCard : Claim7 := { stood := { row := fnExactRankEntriesUptoRow, standIns := [], harness := (true, "aba5bc6e477f6a888394e6cbeede31f24b24e7147b39711386707a827ba447b9"), looks := false }, kinds := [], alts := [], laidByText := true, laidKinds := [.data, .data, .data, .data, .widerDeep, .pinned], laidTests := true, laidLooks := .later }
def FnExactRankEntriesUptoCardSaid : Prop := Claim7.holds Tryz.pinned (.plain (OpenSpec.upto fnExactRankEntriesSpec)) fnExactRankEntriesUptoCard

/-- THE SECOND FORM's CARD OF 'laws.FnIndex'. -/
def fnIndexUptoCard : Claim7 := { stood := { row := fnIndexUptoRow, standIns := [], harness := (true, "aba5bc6e477f6a888394e6cbeede31f24b24e7147b39711386707a827ba447b9"), looks := false }, kinds := [], alts := [], laidByText := true, laidKinds := [.data, .data, .data, .data, .widerDeep, .pinned], laidTests := true, laidLooks := .later }
def FnIndexUptoCardSaid : Prop := Claim7.holds Tryz.pinned (.plain (OpenSpec.upto fnIndexSpec)) fnIndexUptoCard
end Rows
end Go.Proofs.YtmafmhgmdegplaaGreatDoor
