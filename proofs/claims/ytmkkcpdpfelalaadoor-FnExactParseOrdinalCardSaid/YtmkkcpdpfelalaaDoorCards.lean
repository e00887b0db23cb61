/-
  DERIVED. GIVEN WITH THE SEED: THE CARDS: each row of YtmkkcpdpfelalaaDoorRows.lean that lists a variable, with what it lists TIED to the program's text (the seventh form; the later family's looks); each row that meets fmt, with fmt's text TOLD by the authors' own Lean function (tested against real Go, not proved from fmt's source: count such statements apart). THE CARD IS WHAT COUNTS. Prove the row's statement (the work); the ties are given (YtmkkcpdpfelalaaDoorTie.lean); close each card by the builder's one call (the guide's Derived/Test/ToyasCard.lean, 'card_holds'). Laid BY PROGRAM, IN A SANDBOX (cutbox-door.mjs). By AI agents, Wed Nov 11 2026. No macro, syntax, notation, axiom, sorry.
-/
import Derived.Test.YtmkkcpdpfelalaaDoorRows
import GoSem.ClaimSeven
namespace Go.Proofs.YtmkkcpdpfelalaaDoor
namespace Rows

/-- THE TIED CARD OF 'laws.FnExactOrdinalText'. -/
def fnExactOrdinalTextCard : Claim7 := { stood := { row := fnExactOrdinalTextRow, standIns := [], harness := (true, "ab3bdbf4b23adc72a870372edbfbeb9407cc3e879c5b060357510a281ef79769"), looks := true }, kinds := [], alts := [], laidByText := true, laidKinds := [.data, .data, .data], laidTests := true, laidLooks := .later }
def FnExactOrdinalTextCardSaid : Prop := Claim7.holds Tryd.pinned (.plain (OpenSpec.ofChange fnExactOrdinalTextSpec)) fnExactOrdinalTextCard

/-- THE TIED CARD OF 'laws.FnExactCountText'. -/
def fnExactCountTextCard : Claim7 := { stood := { row := fnExactCountTextRow, standIns := [], harness := (true, "ab3bdbf4b23adc72a870372edbfbeb9407cc3e879c5b060357510a281ef79769"), looks := true }, kinds := [], alts := [], laidByText := true, laidKinds := [.data, .data, .data], laidTests := true, laidLooks := .later }
def FnExactCountTextCardSaid : Prop := Claim7.holds Tryd.pinned (.plain (OpenSpec.ofChange fnExactCountTextSpec)) fnExactCountTextCard

/-- THE TIED CARD OF 'laws.FnTerms'. -/
def fnTermsCard : Claim7 := { stood := { row := fnTermsRow, standIns := [], harness := (true, "ab3bdbf4b23adc72a870372edbfbeb9407cc3e879c5b060357510a281ef79769"), looks := true }, kinds := [], alts := [], laidByText := true, laidKinds := [.data, .data, .data], laidTests := true, laidLooks := .later }
def FnTermsCardSaid : Prop := Claim7.holds Tryd.pinned (.plain (OpenSpec.ofChange fnTermsSpec)) fnTermsCard

/-- THE TIED CARD OF 'laws.FnExactParseOrdinal'. -/
def fnExactParseOrdinalCard : Claim7 := { stood := { row := fnExactParseOrdinalRow, standIns := [], harness := (true, "ab3bdbf4b23adc72a870372edbfbeb9407cc3e879c5b060357510a281ef79769"), looks := true }, kinds := [], alts := [], laidByText := true, laidKinds := [.data, .data, .data, .sentinel, .sentinel], laidTests := true, laidLooks := .later }
def FnExactParseOrdinalCardSaid : Prop := Claim7.holds Tryd.pinned (.plain (OpenSpec.ofChange fnExactParseOrdinalSpec)) fnExactParseOrdinalCard

/-- THE SECOND FORM's CARD OF 'laws.FnExactOrdinalText'. -/
def fnExactOrdinalTextUptoCard : Claim7 := { stood := { row := fnExactOrdinalTextUptoRow, standIns := [], harness := (true, "ab3bdbf4b23adc72a870372edbfbeb9407cc3e879c5b060357510a281ef79769"), looks := true }, kinds := [], alts := [], laidByText := true, laidKinds := [.data, .data, .data], laidTests := true, laidLooks := .later }
def FnExactOrdinalTextUptoCardSaid : Prop := Claim7.holds Tryd.pinned (.plain (OpenSpec.upto fnExactOrdinalTextSpec)) fnExactOrdinalTextUptoCard

/-- THE SECOND FORM's CARD OF 'laws.FnExactCountText'. -/
def fnExactCountTextUptoCard : Claim7 := { stood := { row := fnExactCountTextUptoRow, standIns := [], harness := (true, "ab3bdbf4b23adc72a870372edbfbeb9407cc3e879c5b060357510a281ef79769"), looks := true }, kinds := [], alts := [], laidByText := true, laidKinds := [.data, .data, .data], laidTests := true, laidLooks := .later }
def FnExactCountTextUptoCardSaid : Prop := Claim7.holds Tryd.pinned (.plain (OpenSpec.upto fnExactCountTextSpec)) fnExactCountTextUptoCard

/-- THE SECOND FORM's CARD OF 'laws.FnTerms'. -/
def fnTermsUptoCard : Claim7 := { stood := { row := fnTermsUptoRow, standIns := [], harness := (true, "ab3bdbf4b23adc72a870372edbfbeb9407cc3e879c5b060357510a281ef79769"), looks := true }, kinds := [], alts := [], laidByText := true, laidKinds := [.data, .data, .data], laidTests := true, laidLooks := .later }
def FnTermsUptoCardSaid : Prop := Claim7.holds Tryd.pinned (.plain (OpenSpec.upto fnTermsSpec)) fnTermsUptoCard

/-- THE SECOND FORM's CARD OF 'laws.FnExactParseOrdinal'. -/
def fnExactParseOrdinalUptoCard : Claim7 := { stood := { row := fnExactParseOrdinalUptoRow, standIns := [], harness := (true, "ab3bdbf4b23adc72a870372edbfbeb9407cc3e879c5b060357510a281ef79769"), looks := true }, kinds := [], alts := [], laidByText := true, laidKinds := [.data, .data, .data, .sentinel, .sentinel], laidTests := true, laidLooks := .later }
def FnExactParseOrdinalUptoCardSaid : Prop := Claim7.holds Tryd.pinned (.plain (OpenSpec.upto fnExactParseOrdinalSpec)) fnExactParseOrdinalUptoCard
end Rows
end Go.Proofs.YtmkkcpdpfelalaaDoor
