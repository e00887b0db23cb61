/-
  No cell of these rows narrows 'for every input' (looked for: loops, veiled, ifaces, maps, wideKeys, modest, calm, conditions, laid).
  DERIVED. THE GIVEN ROWS OF THIS SEAT. 5 by the template 'for every input the law returns true; each argument reads behind the call as it read before'; 0 by the template 'total and deterministic' (their statements: YtpnjnlcjofaglaaTotals.lean).
  GIVEN WITH THE SEED: the statements are not yours to turn. If you find one false, say at which input.
  Laid BY PROGRAM, IN A SANDBOX (cutbox-rows.mjs): the forced cells as the released guide's own fill.sh prints them over the translation eaba2fe4e8b0753f… (all of the seat's roots in one cut). By AI agents, Wed Nov 11 2026. No macro, syntax, notation, axiom, sorry.
-/
import Derived.Test.YtpnjnlcjofaglaaChecked
import GoSem.Claim
import GoSem.ClaimJoined
import GoSem.ClaimMapViews
import Derived.JoinedTies
import Derived.KernelRfl
namespace Go.Proofs.Ytpnjnlcjofaglaa
/- THE CELL 'sum', in the pinned program and in every row, IS THE sha256 OF THE DUMP (.gsa) THAT YtpnjnlcjofaglaaProg.lean LOADS. Nothing in Lean hashes anything: it is a label: what it is worth is what the hold of that sum in a sandbox is worth. -/
noncomputable def Try.pinned : Pinned := { name := "ytpnjnlcjofaglaa", sum := "eaba2fe4e8b0753f5e5f453e1a45f0b8ed95a944b80dac2b69ed7b795c5dcba1", checked := Try.checked }
namespace Rows
def none {H : Type} : Left H := { results := [], args := [] }

/-- 'laws.FnExactRomanText': WHATEVER THE INPUT: true; the input reads as it did. -/
def fnExactRomanTextSpec : ChangeSpec := { name := "fnExactRomanText", fn := fun _ => fun
  | [d1, d2] => { results := [.lit (.bool true)], args := [d1, d2] }
  | _ => none }
def fnExactRomanTextRow : OpenClaim := { program := "ytpnjnlcjofaglaa", sum := "eaba2fe4e8b0753f5e5f453e1a45f0b8ed95a944b80dac2b69ed7b795c5dcba1", func := "loop.example/g00896/laws.FnExactRomanText", spec := "fnExactRomanText", apart := false }
def FnExactRomanTextSaid : Prop := fnExactRomanTextRow.holds Try.pinned (OpenSpec.ofChange fnExactRomanTextSpec)

/-- ITS FALSE NEIGHBOUR: 'it returns false'. Refute it at one input. -/
def fnExactRomanTextWrong : ChangeSpec := { name := "fnExactRomanText", fn := fun _ => fun
  | [d1, d2] => { results := [.lit (.bool false)], args := [d1, d2] }
  | _ => none }
def FnExactRomanTextWrongFalsely : Prop := fnExactRomanTextRow.holds Try.pinned (OpenSpec.ofChange fnExactRomanTextWrong)

/-- 'laws.FnExactCheckIdentifier': WHATEVER THE INPUT: true; the input reads as it did. -/
def fnExactCheckIdentifierSpec : ChangeSpec := { name := "fnExactCheckIdentifier", fn := fun _ => fun
  | [d] => { results := [.lit (.bool true)], args := [d] }
  | _ => none }
def fnExactCheckIdentifierRow : OpenClaim := { program := "ytpnjnlcjofaglaa", sum := "eaba2fe4e8b0753f5e5f453e1a45f0b8ed95a944b80dac2b69ed7b795c5dcba1", func := "loop.example/g00896/laws.FnExactCheckIdentifier", spec := "fnExactCheckIdentifier", apart := false }
def FnExactCheckIdentifierSaid : Prop := fnExactCheckIdentifierRow.holds Try.pinned (OpenSpec.ofChange fnExactCheckIdentifierSpec)

/-- ITS FALSE NEIGHBOUR: 'it returns false'. Refute it at one input. -/
def fnExactCheckIdentifierWrong : ChangeSpec := { name := "fnExactCheckIdentifier", fn := fun _ => fun
  | [d] => { results := [.lit (.bool false)], args := [d] }
  | _ => none }
def FnExactCheckIdentifierWrongFalsely : Prop := fnExactCheckIdentifierRow.holds Try.pinned (OpenSpec.ofChange fnExactCheckIdentifierWrong)

/-- 'laws.FnExactWrittenForm': WHATEVER THE INPUT: true; the input reads as it did. -/
def fnExactWrittenFormSpec : ChangeSpec := { name := "fnExactWrittenForm", fn := fun _ => fun
  | [d] => { results := [.lit (.bool true)], args := [d] }
  | _ => none }
def fnExactWrittenFormRow : OpenClaim := { program := "ytpnjnlcjofaglaa", sum := "eaba2fe4e8b0753f5e5f453e1a45f0b8ed95a944b80dac2b69ed7b795c5dcba1", func := "loop.example/g00896/laws.FnExactWrittenForm", spec := "fnExactWrittenForm", apart := false }
def FnExactWrittenFormSaid : Prop := fnExactWrittenFormRow.holds Try.pinned (OpenSpec.ofChange fnExactWrittenFormSpec)

/-- ITS FALSE NEIGHBOUR: 'it returns false'. Refute it at one input. -/
def fnExactWrittenFormWrong : ChangeSpec := { name := "fnExactWrittenForm", fn := fun _ => fun
  | [d] => { results := [.lit (.bool false)], args := [d] }
  | _ => none }
def FnExactWrittenFormWrongFalsely : Prop := fnExactWrittenFormRow.holds Try.pinned (OpenSpec.ofChange fnExactWrittenFormWrong)

/-- 'laws.FnExactRepairDigit': WHATEVER THE INPUT: true; the input reads as it did. -/
def fnExactRepairDigitSpec : ChangeSpec := { name := "fnExactRepairDigit", fn := fun _ => fun
  | [d1, d2, d3] => { results := [.lit (.bool true)], args := [d1, d2, d3] }
  | _ => none }
def fnExactRepairDigitRow : OpenClaim := { program := "ytpnjnlcjofaglaa", sum := "eaba2fe4e8b0753f5e5f453e1a45f0b8ed95a944b80dac2b69ed7b795c5dcba1", func := "loop.example/g00896/laws.FnExactRepairDigit", spec := "fnExactRepairDigit", apart := false }
def FnExactRepairDigitSaid : Prop := fnExactRepairDigitRow.holds Try.pinned (OpenSpec.ofChange fnExactRepairDigitSpec)

/-- ITS FALSE NEIGHBOUR: 'it returns false'. Refute it at one input. -/
def fnExactRepairDigitWrong : ChangeSpec := { name := "fnExactRepairDigit", fn := fun _ => fun
  | [d1, d2, d3] => { results := [.lit (.bool false)], args := [d1, d2, d3] }
  | _ => none }
def FnExactRepairDigitWrongFalsely : Prop := fnExactRepairDigitRow.holds Try.pinned (OpenSpec.ofChange fnExactRepairDigitWrong)

/-- 'laws.FnExactSwapsOf': WHATEVER THE INPUT: true; the input reads as it did. -/
def fnExactSwapsOfSpec : ChangeSpec := { name := "fnExactSwapsOf", fn := fun _ => fun
  | [d1, d2] => { results := [.lit (.bool true)], args := [d1, d2] }
  | _ => none }
def fnExactSwapsOfRow : OpenClaim := { program := "ytpnjnlcjofaglaa", sum := "eaba2fe4e8b0753f5e5f453e1a45f0b8ed95a944b80dac2b69ed7b795c5dcba1", func := "loop.example/g00896/laws.FnExactSwapsOf", spec := "fnExactSwapsOf", apart := false }
def FnExactSwapsOfSaid : Prop := fnExactSwapsOfRow.holds Try.pinned (OpenSpec.ofChange fnExactSwapsOfSpec)

/-- ITS FALSE NEIGHBOUR: 'it returns false'. Refute it at one input. -/
def fnExactSwapsOfWrong : ChangeSpec := { name := "fnExactSwapsOf", fn := fun _ => fun
  | [d1, d2] => { results := [.lit (.bool false)], args := [d1, d2] }
  | _ => none }
def FnExactSwapsOfWrongFalsely : Prop := fnExactSwapsOfRow.holds Try.pinned (OpenSpec.ofChange fnExactSwapsOfWrong)

/- THE SECOND FORM. 'bulk': how many values and letters a reading holds, each counted each time it is reached (what is shared counts as often as it is met; a slice's spare places count too). A statement '..UptoSaid' is the law's where the arguments, and the package variables that the reading takes, are together of bulk at most 1048576: NARROWER than '..Said'. Prove '..Said' where nothing that the law and all that it calls make is longer than what came in: it says more and counts as full. Else prove '..UptoSaid'. A law counts once. -/
mutual
def uptoBulk {H : Type} : DataW H → Nat
  | .lit (.string bytes) => bytes.length + 1
  | .lit _ => 1
  | .nil => 1
  | .ptr d => uptoBulk d + 1
  | .slice elems spare => uptoBulkAll elems + uptoBulkAll spare + 1
  | .agg parts => uptoBulkAll parts + 1
  | .iface _ d => uptoBulk d + 1
  | .map entries => uptoBulkEntries entries + 1
  | .held _ => 1
def uptoBulkAll {H : Type} : List (DataW H) → Nat
  | [] => 0
  | d :: r => uptoBulk d + uptoBulkAll r
def uptoBulkEntries {H : Type} : List (Lit × DataW H) → Nat
  | [] => 0
  | x :: r => uptoBulkEntry x + uptoBulkEntries r
def uptoBulkEntry {H : Type} : Lit × DataW H → Nat
  | (.string bytes, d) => bytes.length + uptoBulk d + 1
  | (_, d) => uptoBulk d + 1
 end
def uptoSmall : (H : Type) → List (DataW H) → Bool := fun _ ds => decide (uptoBulkAll ds ≤ 1048576)
def OpenSpec.upto (s : _root_.Go.ChangeSpec) : _root_.Go.OpenSpec := { _root_.Go.OpenSpec.ofChange s with cond := some uptoSmall }

/-- 'laws.FnExactRomanText', WHERE WHAT IT READS IS OF BULK AT MOST 1048576: true; the input reads as it did. -/
def fnExactRomanTextUptoRow : OpenClaim := { program := "ytpnjnlcjofaglaa", sum := "eaba2fe4e8b0753f5e5f453e1a45f0b8ed95a944b80dac2b69ed7b795c5dcba1", func := "loop.example/g00896/laws.FnExactRomanText", spec := "fnExactRomanText", apart := false, narrowed := true }
def FnExactRomanTextUptoSaid : Prop := fnExactRomanTextUptoRow.holds Try.pinned (OpenSpec.upto fnExactRomanTextSpec)

/-- 'laws.FnExactCheckIdentifier', WHERE WHAT IT READS IS OF BULK AT MOST 1048576: true; the input reads as it did. -/
def fnExactCheckIdentifierUptoRow : OpenClaim := { program := "ytpnjnlcjofaglaa", sum := "eaba2fe4e8b0753f5e5f453e1a45f0b8ed95a944b80dac2b69ed7b795c5dcba1", func := "loop.example/g00896/laws.FnExactCheckIdentifier", spec := "fnExactCheckIdentifier", apart := false, narrowed := true }
def FnExactCheckIdentifierUptoSaid : Prop := fnExactCheckIdentifierUptoRow.holds Try.pinned (OpenSpec.upto fnExactCheckIdentifierSpec)

/-- 'laws.FnExactWrittenForm', WHERE WHAT IT READS IS OF BULK AT MOST 1048576: true; the input reads as it did. -/
def fnExactWrittenFormUptoRow : OpenClaim := { program := "ytpnjnlcjofaglaa", sum := "eaba2fe4e8b0753f5e5f453e1a45f0b8ed95a944b80dac2b69ed7b795c5dcba1", func := "loop.example/g00896/laws.FnExactWrittenForm", spec := "fnExactWrittenForm", apart := false, narrowed := true }
def FnExactWrittenFormUptoSaid : Prop := fnExactWrittenFormUptoRow.holds Try.pinned (OpenSpec.upto fnExactWrittenFormSpec)

/-- 'laws.FnExactRepairDigit', WHERE WHAT IT READS IS OF BULK AT MOST 1048576: true; the input reads as it did. -/
def fnExactRepairDigitUptoRow : OpenClaim := { program := "ytpnjnlcjofaglaa", sum := "eaba2fe4e8b0753f5e5f453e1a45f0b8ed95a944b80dac2b69ed7b795c5dcba1", func := "loop.example/g00896/laws.FnExactRepairDigit", spec := "fnExactRepairDigit", apart := false, narrowed := true }
def FnExactRepairDigitUptoSaid : Prop := fnExactRepairDigitUptoRow.holds Try.pinned (OpenSpec.upto fnExactRepairDigitSpec)

/-- 'laws.FnExactSwapsOf', WHERE WHAT IT READS IS OF BULK AT MOST 1048576: true; the input reads as it did. -/
def fnExactSwapsOfUptoRow : OpenClaim := { program := "ytpnjnlcjofaglaa", sum := "eaba2fe4e8b0753f5e5f453e1a45f0b8ed95a944b80dac2b69ed7b795c5dcba1", func := "loop.example/g00896/laws.FnExactSwapsOf", spec := "fnExactSwapsOf", apart := false, narrowed := true }
def FnExactSwapsOfUptoSaid : Prop := fnExactSwapsOfUptoRow.holds Try.pinned (OpenSpec.upto fnExactSwapsOfSpec)

end Rows
end Go.Proofs.Ytpnjnlcjofaglaa
