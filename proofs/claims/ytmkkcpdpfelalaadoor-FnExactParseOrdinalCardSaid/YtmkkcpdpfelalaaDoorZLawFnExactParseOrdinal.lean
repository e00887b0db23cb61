/- The row of the law laws_FnExactParseOrdinal, for every input that the row's form lets in: the law returns true and its arguments read as they did. -/
import Derived.Test.YtmkkcpdpfelalaaDoorRows
import Derived.Test.YtmkkcpdpfelalaaDoorZPx12
import Derived.Test.YtmkkcpdpfelalaaDoorZPureFnExactParseOrdinal
import Derived.Test.YtmkkcpdpfelalaaDoorZLOpen
import Derived.Test.YtmkkcpdpfelalaaDoorZOpn
import Derived.Test.YtmkkcpdpfelalaaDoorTie
import Derived.Test.YtmkkcpdpfelalaaDoorCards
import Derived.WalkKit
import Derived.ProofKit
import Derived.OpenShut
import Derived.ShutString
import Derived.ChangeOld
import Derived.Below
import Derived.SizedLaws
import Derived.Deep.DeepHandedRow
import Derived.Lib.LaidTab
import Derived.SevenTiedAt
import Derived.Stop.LaidErr
namespace Go.Proofs.YtmkkcpdpfelalaaDoor.fnExactParseOrdinal
open Go.ChangeShapes Go.WideShapes Go.ChangeAt Go.RowKit Go.Proofs.YtmkkcpdpfelalaaDoorW.PrintWords Go.Proofs.YtmkkcpdpfelalaaDoor.P
open Go.ChangeMaps (open_string shut_string)
set_option linter.unusedVariables false
set_option linter.unusedSimpArgs false
theorem own : ownKnob Tryd.prog.godebug = none := by kernel_rfl
theorem laidOut : laidOutB Tryd.prog = true := by kernel_rfl
theorem okWide_agg {P : Program} {w : World} {r : Reach} {base : Nat} {t : TypeId} {v : Value} {fs : Array Field} (hu : P.underlying t = some (.struct fs)) (h : Value.okWide P w r base t v) : ∃ cs, v = .agg cs := by
 unfold Value.okWide at h
 rw [hu] at h
 obtain ⟨cs, rfl, _⟩ := h
 exact ⟨cs, rfl⟩
def cells0 {H : Type} : DataW H → List Value
 | .lit (.int k n) => [.int k n]
 | .lit (.bool b) => [.bool b]
 | .lit (.string l) => [.string ⟨l.toArray⟩]
 | _ => []
def cells1 {H : Type} : DataW H → List Value
 | .agg l => l.flatMap cells0
 | d => cells0 d
def cells2 {H : Type} : DataW H → List Value
 | .agg l => l.flatMap cells1
 | d => cells1 d
noncomputable def low : Nat := (World.holding Tryd.prog default ⟨#[], #[], []⟩).heap.size
noncomputable def laidWorld (os : Os) : World := { World.holding Tryd.prog os ⟨#[.cells #[.string ⟨(#[118, 97, 108, 117, 101, 32, 111, 117, 116, 32, 111, 102, 32, 114, 97, 110, 103, 101] : Array UInt8)⟩] 153, .cells #[.string ⟨(#[105, 110, 118, 97, 108, 105, 100, 32, 115, 121, 110, 116, 97, 120] : Array UInt8)⟩] 153], #[], []⟩ with heap := ((((((World.holding Tryd.prog os ⟨#[.cells #[.string ⟨(#[118, 97, 108, 117, 101, 32, 111, 117, 116, 32, 111, 102, 32, 114, 97, 110, 103, 101] : Array UInt8)⟩] 153, .cells #[.string ⟨(#[105, 110, 118, 97, 108, 105, 100, 32, 115, 121, 110, 116, 97, 120] : Array UInt8)⟩] 153], #[], []⟩).heap).modify ((Tryd.prog.globalNamed "math/bits.deBruijn32tab").getD 0) (fun | .cells _ t frozen => .cells (cells2 (Rows.laid_math_bits_deBruijn32tab : DataW Unit)).toArray t frozen | o => o)).modify ((Tryd.prog.globalNamed "math/bits.deBruijn64tab").getD 0) (fun | .cells _ t frozen => .cells (cells2 (Rows.laid_math_bits_deBruijn64tab : DataW Unit)).toArray t frozen | o => o)).modify ((Tryd.prog.globalNamed "internal/strconv.uint64pow10").getD 0) (fun | .cells _ t frozen => .cells (cells2 (Rows.laid_internal_strconv_uint64pow10 : DataW Unit)).toArray t frozen | o => o)).modify ((Tryd.prog.globalNamed "strconv.ErrRange").getD 0) (fun | .cells _ t frozen => .cells #[.iface 151 (.pointer (some ⟨low + 0, 0, none⟩))] t frozen | o => o)).modify ((Tryd.prog.globalNamed "strconv.ErrSyntax").getD 0) (fun | .cells _ t frozen => .cells #[.iface 151 (.pointer (some ⟨low + 1, 0, none⟩))] t frozen | o => o) }
set_option maxRecDepth 100000 in
theorem laid_met (os : Os) (args : Array Value) : laidMet Tryd.prog Rows.fnExactParseOrdinalRow.laid ((laidWorld os).forCall (fun _ _ => 0) ⟨#[], args, []⟩).memory :=
 laidMet_of_run' 8 (by kernel_rfl) (by kernel_rfl)
set_option maxRecDepth 100000 in
theorem witness_row (os : Os) {H : Type} (enc : TypeId × Value → H) :
  (OpenSpec.ofChange Rows.fnExactParseOrdinalSpec).preRow enc Tryd.prog Tryd.f6 Rows.fnExactParseOrdinalRow.domain false Rows.fnExactParseOrdinalRow.laid ((laidWorld os).forCall (fun _ _ => 0) ⟨#[], #[(.agg #[(.string ⟨#[]⟩), (.slice none 0 0), (.slice none 0 0), (.string ⟨#[]⟩), (.string ⟨#[]⟩)]), (.string ⟨#[]⟩)], []⟩).memory #[(.agg #[(.string ⟨#[]⟩), (.slice none 0 0), (.slice none 0 0), (.string ⟨#[]⟩), (.string ⟨#[]⟩)]), (.string ⟨#[]⟩)] := by
 have hw : (DataW.whole enc Tryd.prog ((laidWorld os).forCall (fun _ _ => 0) ⟨#[], #[(.agg #[(.string ⟨#[]⟩), (.slice none 0 0), (.slice none 0 0), (.string ⟨#[]⟩), (.string ⟨#[]⟩)]), (.string ⟨#[]⟩)], []⟩).memory Tryd.f6.params.toList (OpenSpec.ofChange Rows.fnExactParseOrdinalSpec).vars false (#[(.agg #[(.string ⟨#[]⟩), (.slice none 0 0), (.slice none 0 0), (.string ⟨#[]⟩), (.string ⟨#[]⟩)]), (.string ⟨#[]⟩)] : Array Value).toList 8).isSome = true := by kernel_rfl
 obtain ⟨⟨x1, x2, x3⟩, hx⟩ := Option.isSome_iff_exists.1 hw
 exact OpenSpec.preRow_of_cond 8 hx (by rfl) (fun k hk => by cases hk) (by first | kernel_rfl | exact sized_zero_ hx) (laid_met os _)
set_option maxRecDepth 100000 in
theorem lifted (os : Os) (started : os.Started) (H : Type) (enc : TypeId × Value → H) (F : Stop.Interp) :
  ReturnsInHanded {} Tryd.checked os 6 .any ((OpenSpec.ofChange Rows.fnExactParseOrdinalSpec).preRow enc Tryd.prog Tryd.f6 Rows.fnExactParseOrdinalRow.domain false Rows.fnExactParseOrdinalRow.laid) (((OpenSpec.ofChange Rows.fnExactParseOrdinalSpec).at F).post enc Tryd.prog Tryd.f6 false true false false) := by
 refine returnsInHanded_of_row (C := Tryd.checked) (s := (OpenSpec.ofChange Rows.fnExactParseOrdinalSpec)) own started (by kernel_rfl) Tryd.func6
  (witness_row_at (enc := enc) (C := Tryd.checked) false (laidWorld os) #[(.agg #[(.string ⟨#[]⟩), (.slice none 0 0), (.slice none 0 0), (.string ⟨#[]⟩), (.string ⟨#[]⟩)]), (.string ⟨#[]⟩)] rfl (by kernel_rfl) (by kernel_rfl) (by kernel_rfl) (witness_row os enc)) ?_
 intro W base args ds gs before hval0 hW _ _ hsz0 hL hsh _
 have hsz : (DataW.weightsEach Tryd.prog (Tryd.f6.params.toList ++ (OpenSpec.ofChange Rows.fnExactParseOrdinalSpec).bare.plain.varTypes Tryd.prog) (ds ++ gs)).all (· ≤ reachBytes) = true := hsz0
 have hval : ∀ (j : Nat) t v, Tryd.f6.params[j]? = some t → args[j]? = some v → Value.okWide Tryd.prog W .any base t v := hval0
 have hW' := hW
 obtain ⟨p, q, hA0, hV, rfl, hfz, hnd⟩ := hW
 have hA : DataW.TrodAll enc Tryd.prog W 0 (fun _ => true) true Tryd.f6.params.toList args.toList ds p := hA0
 rw [Tryd.params6] at hA hval hsz
 obtain ⟨v0, vs0, d0, ds0, p0, q0, hargs, rfl, rfl, h0, r0⟩ := trodAll_cons hA
 obtain ⟨v1, vs1, d1, ds1, p1, q1, rfl, rfl, rfl, h1, r1⟩ := trodAll_cons r0
 obtain ⟨rfl, rfl, rfl⟩ := trodAll_nil r1
 obtain rfl : args = #[v0, v1] := by cases args; simp_all
 obtain ⟨rfl, rfl⟩ := trodVars_none hV
 obtain ⟨cs0, rfl⟩ := okWide_agg Tryd.underlying25 (hval 0 25 v0 rfl rfl)
 have k0 := h0
 have lt0 : ∀ x ∈ p0, x.block < W.heap.size := by obtain ⟨m, hm⟩ := k0; exact DataW.trod_lt m _ _ _ hm
 obtain ⟨fuel0, hf0⟩ := h0
 obtain ⟨x0, hK0, hB0⟩ := opn_k25 H enc W fuel0 _ _ _ hf0 (fun n hn => by simpa using List.all_eq_true.1 hsz n (DataW.weights_mem_each (j := 0) rfl rfl n hn))
 replace hK0 : k25.K W x0 cs0.toList := hK0
 generalize hl0 : cs0.toList = L0 at hK0
 obtain ⟨_, _, rfl, rfl, ⟨_, _, rfl, ⟨Ax05, cx05, rfl, hcx05, hrx05⟩, ⟨_, _, rfl, ⟨Ax06, cx06, rfl, hcx06, hrx06⟩, ⟨_, _, rfl, rfl, rfl⟩⟩⟩⟩ := hK0
 obtain rfl : cs0 = #[.string x0.f0, .slice Ax05 x0.f1.length cx05, .slice Ax06 x0.f2.length cx06, .string x0.f3, .string x0.f4] := Array.ext' hl0
 obtain ⟨a1, rfl, rfl, rfl, y1⟩ := open_string Tryd.underlying9 (hval 1 9 v1 rfl rfl) h1
 have w1 : a1.size ≤ 140737488351232 := by
  have z := sized_string hsz (j := 1) (t := 9) rfl rfl
  rw [Array.length_toList] at z
  exact z
 have hL0 : laidMet Tryd.prog Rows.fnExactParseOrdinalRow.laid W := hL
 have hrow_ : ∀ u, Tryd.prog.typeName? 3 u = some "*errors.errorString" → u = 151 := fun u h_ =>
  typeName_ptr_named (nm := "errors.errorString") (by rw [show "*" ++ "errors.errorString" = "*errors.errorString" by decide]; kernel_rfl) (by kernel_rfl) (by decide) u (by rw [show "*" ++ "errors.errorString" = "*errors.errorString" by decide]; exact h_)
 obtain ⟨ae_, se_, hve_, -, -, -⟩ := laid_sentinel (laidMet.tail (laidMet.tail (laidMet.tail (laidMet.tail hL0)))) (g := (Tryd.prog.globalNamed "strconv.ErrSyntax").getD 0) (ti := 113) (tp := 151) (te := 153) (ts := 9) (by kernel_rfl) (by kernel_rfl) Tryd.underlying113 hrow_ Tryd.underlying151 Tryd.underlying153 rfl rfl Tryd.underlying9 (by kernel_rfl) (by kernel_rfl)
 have hG : Ge W := ⟨Lib.tabIs_of_head (g := (Tryd.prog.globalNamed "internal/strconv.uint64pow10").getD 0) (t := 135) (e := 74) (n := 20) (by kernel_rfl) (by kernel_rfl) Tryd.underlying135 Tryd.underlying74 (by kernel_rfl) (by kernel_rfl) (laidMet.tail (laidMet.tail hL0)), ⟨_, hve_, Or.inr ⟨_, _, rfl⟩⟩⟩
 clear hA0 hval0 hsz0 hsz
 obtain ⟨k, h⟩ := Pure.FnExactParseOrdinal x0 a1 hB0 w1
 refine (laws_FnExactParseOrdinal.calls k x0.f0 _ _ x0.f1 _ _ x0.f2 x0.f3 x0.f4 a1 true W hrx05 hcx05 hrx06 hcx06 hG rfl h).mono fun e W' ⟨he, hd⟩ => ?_
 subst he
 have bel : Below W.heap.size W W' := hd
 exact ⟨_, rfl, _, _, _, [], _, [], hW', trodAll_mk1 (shut_bool Tryd.underlying4 _), (trodAll_cons_mk (Below.trod laidOut (by kernel_rfl) (of_decide_eq_true (by kernel_rfl)) k0 bel lt0) (trodAll_cons_mk (shut_string Tryd.underlying9 y1) trodAll_mk0)), rfl, bel.frame _, fun h => by cases h⟩
theorem over : Rows.FnExactParseOrdinalSaid :=
 OpenClaim.holds_of_cond 6 Tryd.f6 rfl rfl rfl rfl rfl rfl rfl ⟨rfl, rfl, rfl, rfl, rfl⟩ rfl rfl rfl rfl rfl (by kernel_rfl) Tryd.func6 (by kernel_rfl)
  (of_decide_eq_true (by kernel_rfl)) (by unfold Func.isWrapper; first | (rw [if_pos (by decide +kernel)]; kernel_rfl) | (rw [if_neg (by decide +kernel)]; exact ⟨rfl, rfl⟩))
  (fun os started H enc _ F0 => by rw [OpenClaim.pre_eq_preRow]; exact lifted os started H enc F0)
set_option maxRecDepth 100000 in
theorem proved : Rows.FnExactParseOrdinalCardSaid :=
 Claim7.holds_tied_plain_at .later [] [.data, .data, .data, .sentinel, .sentinel] true (true, "ab3bdbf4b23adc72a870372edbfbeb9407cc3e879c5b060357510a281ef79769") true
  over (fun _ h => by cases h) (by kernel_rfl) (fun _ h => by cases h) fnExactParseOrdinal_row_tie rfl ⟨rfl, rfl⟩ (by kernel_rfl) rfl
  (fun f fn hf hfn => by
   obtain rfl : f = 6 := Option.some.inj ((show Tryd.prog.funcNamed Rows.fnExactParseOrdinalRow.func = some 6 by kernel_rfl).symm.trans hf) |>.symm
   obtain rfl : fn = Tryd.f6 := (Option.some.inj (Tryd.func6.symm.trans hfn)).symm
   exact ⟨by kernel_rfl, fun j t ht => by
    rw [Tryd.params6] at ht
    have hm : t ∈ (#[25, 9] : Array TypeId) := Array.mem_of_getElem? ht
    simp only [List.mem_toArray, List.mem_cons, List.not_mem_nil, or_false] at hm
    rcases hm with rfl | rfl
    ·exact (show Tryd.prog.wantsStandIn 25 = false by kernel_rfl)
    ·exact (show Tryd.prog.wantsStandIn 9 = false by kernel_rfl)⟩)
  (by kernel_rfl)
#print axioms proved
end Go.Proofs.YtmkkcpdpfelalaaDoor.fnExactParseOrdinal
namespace Go.Proofs.YtmkkcpdpfelalaaDoor
theorem fnExactParseOrdinal_holds : Rows.FnExactParseOrdinalCardSaid := fnExactParseOrdinal.proved
end Go.Proofs.YtmkkcpdpfelalaaDoor
