/-
  No cell of these rows narrows 'for every input' (looked for: loops, veiled, ifaces, maps, wideKeys, modest, calm, conditions, laid).
  DERIVED. THE GIVEN ROWS OF THIS SEAT. 6 by the template 'for every input the law returns true; each argument reads behind the call as it read before'; 0 by the template 'total and deterministic' (their statements: YtmkkcpdpfelalaaTotals.lean).
  GIVEN WITH THE SEED: the statements are not yours to turn. If you find one false, say at which input.
  Laid BY PROGRAM, IN A SANDBOX (cutbox-rows.mjs): the forced cells as the released guide's own fill.sh prints them over the translation 515c48932319db7d… (all of the seat's roots in one cut). By AI agents, Wed Nov 11 2026. No macro, syntax, notation, axiom, sorry.
-/
import Derived.Test.YtmkkcpdpfelalaaChecked
import GoSem.Claim
import GoSem.ClaimJoined
import GoSem.ClaimMapViews
import Derived.JoinedTies
import Derived.KernelRfl
namespace Go.Proofs.Ytmkkcpdpfelalaa
/- THE CELL 'sum', in the pinned program and in every row, IS THE sha256 OF THE DUMP (.gsa) THAT YtmkkcpdpfelalaaProg.lean LOADS. Nothing in Lean hashes anything: it is a label: what it is worth is what the hold of that sum in a sandbox is worth. -/
noncomputable def Try.pinned : Pinned := { name := "ytmkkcpdpfelalaa", sum := "515c48932319db7d112482fec6defa30cec2316034f31ca674d211e20094fdf1", checked := Try.checked }
namespace Rows
def none {H : Type} : Left H := { results := [], args := [] }

/-- 'laws.FnExactIsValidLocale': WHATEVER THE INPUT: true; the input reads as it did. -/
def fnExactIsValidLocaleSpec : ChangeSpec := { name := "fnExactIsValidLocale", fn := fun _ => fun
  | [d] => { results := [.lit (.bool true)], args := [d] }
  | _ => none }
def fnExactIsValidLocaleRow : OpenClaim := { program := "ytmkkcpdpfelalaa", sum := "515c48932319db7d112482fec6defa30cec2316034f31ca674d211e20094fdf1", func := "loop.example/g00896/laws.FnExactIsValidLocale", spec := "fnExactIsValidLocale", inPlace := ["internal/bytealg.IndexByteString", "internal/bytealg.IndexString"], unfollowed := true, recurses := true, named := ["internal/bytealg.MaxLen"], apart := false }
def FnExactIsValidLocaleSaid : Prop := fnExactIsValidLocaleRow.holds Try.pinned (OpenSpec.ofChange fnExactIsValidLocaleSpec)

/-- ITS FALSE NEIGHBOUR: 'it returns false'. Refute it at one input. -/
def fnExactIsValidLocaleWrong : ChangeSpec := { name := "fnExactIsValidLocale", fn := fun _ => fun
  | [d] => { results := [.lit (.bool false)], args := [d] }
  | _ => none }
def FnExactIsValidLocaleWrongFalsely : Prop := fnExactIsValidLocaleRow.holds Try.pinned (OpenSpec.ofChange fnExactIsValidLocaleWrong)

/-- 'laws.FnExactTermFor': WHATEVER THE INPUT: true; the input reads as it did. -/
def fnExactTermForSpec : ChangeSpec := { name := "fnExactTermFor", fn := fun _ => fun
  | [d1, d2, d3] => { results := [.lit (.bool true)], args := [d1, d2, d3] }
  | _ => none }
def fnExactTermForRow : OpenClaim := { program := "ytmkkcpdpfelalaa", sum := "515c48932319db7d112482fec6defa30cec2316034f31ca674d211e20094fdf1", func := "loop.example/g00896/laws.FnExactTermFor", spec := "fnExactTermFor", inPlace := ["internal/bytealg.IndexByteString", "internal/bytealg.IndexString"], unfollowed := true, recurses := true, named := ["internal/bytealg.MaxLen"], apart := false }
def FnExactTermForSaid : Prop := fnExactTermForRow.holds Try.pinned (OpenSpec.ofChange fnExactTermForSpec)

/-- ITS FALSE NEIGHBOUR: 'it returns false'. Refute it at one input. -/
def fnExactTermForWrong : ChangeSpec := { name := "fnExactTermFor", fn := fun _ => fun
  | [d1, d2, d3] => { results := [.lit (.bool false)], args := [d1, d2, d3] }
  | _ => none }
def FnExactTermForWrongFalsely : Prop := fnExactTermForRow.holds Try.pinned (OpenSpec.ofChange fnExactTermForWrong)

/-- 'laws.FnExactFallbackTerm': WHATEVER THE INPUT: true; the input reads as it did. -/
def fnExactFallbackTermSpec : ChangeSpec := { name := "fnExactFallbackTerm", fn := fun _ => fun
  | [d1, d2, d3] => { results := [.lit (.bool true)], args := [d1, d2, d3] }
  | _ => none }
def fnExactFallbackTermRow : OpenClaim := { program := "ytmkkcpdpfelalaa", sum := "515c48932319db7d112482fec6defa30cec2316034f31ca674d211e20094fdf1", func := "loop.example/g00896/laws.FnExactFallbackTerm", spec := "fnExactFallbackTerm", inPlace := ["internal/bytealg.IndexByteString", "internal/bytealg.IndexString"], unfollowed := true, recurses := true, named := ["internal/bytealg.MaxLen"], apart := false }
def FnExactFallbackTermSaid : Prop := fnExactFallbackTermRow.holds Try.pinned (OpenSpec.ofChange fnExactFallbackTermSpec)

/-- ITS FALSE NEIGHBOUR: 'it returns false'. Refute it at one input. -/
def fnExactFallbackTermWrong : ChangeSpec := { name := "fnExactFallbackTerm", fn := fun _ => fun
  | [d1, d2, d3] => { results := [.lit (.bool false)], args := [d1, d2, d3] }
  | _ => none }
def FnExactFallbackTermWrongFalsely : Prop := fnExactFallbackTermRow.holds Try.pinned (OpenSpec.ofChange fnExactFallbackTermWrong)

/-- 'laws.FnExactMissingTerms': WHATEVER THE INPUT: true; the input reads as it did. -/
def fnExactMissingTermsSpec : ChangeSpec := { name := "fnExactMissingTerms", fn := fun _ => fun
  | [d1, d2] => { results := [.lit (.bool true)], args := [d1, d2] }
  | _ => none }
def fnExactMissingTermsRow : OpenClaim := { program := "ytmkkcpdpfelalaa", sum := "515c48932319db7d112482fec6defa30cec2316034f31ca674d211e20094fdf1", func := "loop.example/g00896/laws.FnExactMissingTerms", spec := "fnExactMissingTerms", inPlace := ["internal/bytealg.IndexByteString", "internal/bytealg.IndexString"], unfollowed := true, recurses := true, named := ["internal/bytealg.MaxLen"], apart := false }
def FnExactMissingTermsSaid : Prop := fnExactMissingTermsRow.holds Try.pinned (OpenSpec.ofChange fnExactMissingTermsSpec)

/-- ITS FALSE NEIGHBOUR: 'it returns false'. Refute it at one input. -/
def fnExactMissingTermsWrong : ChangeSpec := { name := "fnExactMissingTerms", fn := fun _ => fun
  | [d1, d2] => { results := [.lit (.bool false)], args := [d1, d2] }
  | _ => none }
def FnExactMissingTermsWrongFalsely : Prop := fnExactMissingTermsRow.holds Try.pinned (OpenSpec.ofChange fnExactMissingTermsWrong)

/-- 'laws.FnExactListText': WHATEVER THE INPUT: true; the input reads as it did. -/
def fnExactListTextSpec : ChangeSpec := { name := "fnExactListText", fn := fun _ => fun
  | [d1, d2] => { results := [.lit (.bool true)], args := [d1, d2] }
  | _ => none }
def fnExactListTextRow : OpenClaim := { program := "ytmkkcpdpfelalaa", sum := "515c48932319db7d112482fec6defa30cec2316034f31ca674d211e20094fdf1", func := "loop.example/g00896/laws.FnExactListText", spec := "fnExactListText", inPlace := ["internal/bytealg.IndexByteString", "internal/bytealg.IndexString", "internal/abi.NoEscape", "internal/bytealg.MakeNoZero"], unfollowed := true, recurses := true, named := ["internal/bytealg.MaxLen"], apart := false }
def FnExactListTextSaid : Prop := fnExactListTextRow.holds Try.pinned (OpenSpec.ofChange fnExactListTextSpec)

/-- ITS FALSE NEIGHBOUR: 'it returns false'. Refute it at one input. -/
def fnExactListTextWrong : ChangeSpec := { name := "fnExactListText", fn := fun _ => fun
  | [d1, d2] => { results := [.lit (.bool false)], args := [d1, d2] }
  | _ => none }
def FnExactListTextWrongFalsely : Prop := fnExactListTextRow.holds Try.pinned (OpenSpec.ofChange fnExactListTextWrong)

/-- 'laws.FnExactAddTerm': WHATEVER THE INPUT: true; the input reads as it did. -/
def fnExactAddTermSpec : ChangeSpec := { name := "fnExactAddTerm", fn := fun _ => fun
  | [d1, d2] => { results := [.lit (.bool true)], args := [d1, d2] }
  | _ => none }
def fnExactAddTermRow : OpenClaim := { program := "ytmkkcpdpfelalaa", sum := "515c48932319db7d112482fec6defa30cec2316034f31ca674d211e20094fdf1", func := "loop.example/g00896/laws.FnExactAddTerm", spec := "fnExactAddTerm", inPlace := ["internal/bytealg.IndexByteString", "internal/bytealg.IndexString", "slices.overlaps[loop.example/g00896/impl.Term]"], unfollowed := true, recurses := true, named := ["internal/bytealg.MaxLen"], apart := false }
def FnExactAddTermSaid : Prop := fnExactAddTermRow.holds Try.pinned (OpenSpec.ofChange fnExactAddTermSpec)

/-- ITS FALSE NEIGHBOUR: 'it returns false'. Refute it at one input. -/
def fnExactAddTermWrong : ChangeSpec := { name := "fnExactAddTerm", fn := fun _ => fun
  | [d1, d2] => { results := [.lit (.bool false)], args := [d1, d2] }
  | _ => none }
def FnExactAddTermWrongFalsely : Prop := fnExactAddTermRow.holds Try.pinned (OpenSpec.ofChange fnExactAddTermWrong)

/- THE SECOND FORM. 'bulk': how many values and letters a reading holds, each counted each time it is reached (what is shared counts as often as it is met; a slice's spare places count too). A statement '..UptoSaid' is the law's where the arguments, and the package variables that the reading takes, are together of bulk at most 1048576: NARROWER than '..Said'. Prove '..Said' where nothing that the law and all that it calls make is longer than what came in: it says more and counts as full. Else prove '..UptoSaid'. A law counts once. -/
mutual
def uptoBulk {H : Type} : DataW H → Nat
  | .lit (.string bytes) => bytes.length + 1
  | .lit _ => 1
  | .nil => 1
  | .ptr d => uptoBulk d + 1
  | .slice elems spare => uptoBulkAll elems + uptoBulkAll spare + 1
  | .agg parts => uptoBulkAll parts + 1
  | .iface _ d => uptoBulk d + 1
  | .map entries => uptoBulkEntries entries + 1
  | .held _ => 1
def uptoBulkAll {H : Type} : List (DataW H) → Nat
  | [] => 0
  | d :: r => uptoBulk d + uptoBulkAll r
def uptoBulkEntries {H : Type} : List (Lit × DataW H) → Nat
  | [] => 0
  | x :: r => uptoBulkEntry x + uptoBulkEntries r
def uptoBulkEntry {H : Type} : Lit × DataW H → Nat
  | (.string bytes, d) => bytes.length + uptoBulk d + 1
  | (_, d) => uptoBulk d + 1
 end
def uptoSmall : (H : Type) → List (DataW H) → Bool := fun _ ds => decide (uptoBulkAll ds ≤ 1048576)
def OpenSpec.upto (s : _root_.Go.ChangeSpec) : _root_.Go.OpenSpec := { _root_.Go.OpenSpec.ofChange s with cond := some uptoSmall }

/-- 'laws.FnExactIsValidLocale', WHERE WHAT IT READS IS OF BULK AT MOST 1048576: true; the input reads as it did. -/
def fnExactIsValidLocaleUptoRow : OpenClaim := { program := "ytmkkcpdpfelalaa", sum := "515c48932319db7d112482fec6defa30cec2316034f31ca674d211e20094fdf1", func := "loop.example/g00896/laws.FnExactIsValidLocale", spec := "fnExactIsValidLocale", inPlace := ["internal/bytealg.IndexByteString", "internal/bytealg.IndexString"], unfollowed := true, recurses := true, named := ["internal/bytealg.MaxLen"], apart := false, narrowed := true }
def FnExactIsValidLocaleUptoSaid : Prop := fnExactIsValidLocaleUptoRow.holds Try.pinned (OpenSpec.upto fnExactIsValidLocaleSpec)

/-- 'laws.FnExactTermFor', WHERE WHAT IT READS IS OF BULK AT MOST 1048576: true; the input reads as it did. -/
def fnExactTermForUptoRow : OpenClaim := { program := "ytmkkcpdpfelalaa", sum := "515c48932319db7d112482fec6defa30cec2316034f31ca674d211e20094fdf1", func := "loop.example/g00896/laws.FnExactTermFor", spec := "fnExactTermFor", inPlace := ["internal/bytealg.IndexByteString", "internal/bytealg.IndexString"], unfollowed := true, recurses := true, named := ["internal/bytealg.MaxLen"], apart := false, narrowed := true }
def FnExactTermForUptoSaid : Prop := fnExactTermForUptoRow.holds Try.pinned (OpenSpec.upto fnExactTermForSpec)

/-- 'laws.FnExactFallbackTerm', WHERE WHAT IT READS IS OF BULK AT MOST 1048576: true; the input reads as it did. -/
def fnExactFallbackTermUptoRow : OpenClaim := { program := "ytmkkcpdpfelalaa", sum := "515c48932319db7d112482fec6defa30cec2316034f31ca674d211e20094fdf1", func := "loop.example/g00896/laws.FnExactFallbackTerm", spec := "fnExactFallbackTerm", inPlace := ["internal/bytealg.IndexByteString", "internal/bytealg.IndexString"], unfollowed := true, recurses := true, named := ["internal/bytealg.MaxLen"], apart := false, narrowed := true }
def FnExactFallbackTermUptoSaid : Prop := fnExactFallbackTermUptoRow.holds Try.pinned (OpenSpec.upto fnExactFallbackTermSpec)

/-- 'laws.FnExactMissingTerms', WHERE WHAT IT READS IS OF BULK AT MOST 1048576: true; the input reads as it did. -/
def fnExactMissingTermsUptoRow : OpenClaim := { program := "ytmkkcpdpfelalaa", sum := "515c48932319db7d112482fec6defa30cec2316034f31ca674d211e20094fdf1", func := "loop.example/g00896/laws.FnExactMissingTerms", spec := "fnExactMissingTerms", inPlace := ["internal/bytealg.IndexByteString", "internal/bytealg.IndexString"], unfollowed := true, recurses := true, named := ["internal/bytealg.MaxLen"], apart := false, narrowed := true }
def FnExactMissingTermsUptoSaid : Prop := fnExactMissingTermsUptoRow.holds Try.pinned (OpenSpec.upto fnExactMissingTermsSpec)

/-- 'laws.FnExactListText', WHERE WHAT IT READS IS OF BULK AT MOST 1048576: true; the input reads as it did. -/
def fnExactListTextUptoRow : OpenClaim := { program := "ytmkkcpdpfelalaa", sum := "515c48932319db7d112482fec6defa30cec2316034f31ca674d211e20094fdf1", func := "loop.example/g00896/laws.FnExactListText", spec := "fnExactListText", inPlace := ["internal/bytealg.IndexByteString", "internal/bytealg.IndexString", "internal/abi.NoEscape", "internal/bytealg.MakeNoZero"], unfollowed := true, recurses := true, named := ["internal/bytealg.MaxLen"], apart := false, narrowed := true }
def FnExactListTextUptoSaid : Prop := fnExactListTextUptoRow.holds Try.pinned (OpenSpec.upto fnExactListTextSpec)

/-- 'laws.FnExactAddTerm', WHERE WHAT IT READS IS OF BULK AT MOST 1048576: true; the input reads as it did. -/
def fnExactAddTermUptoRow : OpenClaim := { program := "ytmkkcpdpfelalaa", sum := "515c48932319db7d112482fec6defa30cec2316034f31ca674d211e20094fdf1", func := "loop.example/g00896/laws.FnExactAddTerm", spec := "fnExactAddTerm", inPlace := ["internal/bytealg.IndexByteString", "internal/bytealg.IndexString", "slices.overlaps[loop.example/g00896/impl.Term]"], unfollowed := true, recurses := true, named := ["internal/bytealg.MaxLen"], apart := false, narrowed := true }
def FnExactAddTermUptoSaid : Prop := fnExactAddTermUptoRow.holds Try.pinned (OpenSpec.upto fnExactAddTermSpec)

end Rows
end Go.Proofs.Ytmkkcpdpfelalaa
