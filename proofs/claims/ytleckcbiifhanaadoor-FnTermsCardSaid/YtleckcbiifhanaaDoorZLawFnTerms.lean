/- The row of the law laws_FnTerms, for every input that the row's form lets in: the law returns true and its arguments read as they did. -/
import Derived.Test.YtleckcbiifhanaaDoorRows
import Derived.Test.YtleckcbiifhanaaDoorZPx19
import Derived.Test.YtleckcbiifhanaaDoorZPx20
import Derived.Test.YtleckcbiifhanaaDoorZPureFnTerms
import Derived.Test.YtleckcbiifhanaaDoorZLOpen
import Derived.Test.YtleckcbiifhanaaDoorTie
import Derived.Test.YtleckcbiifhanaaDoorCards
import Derived.WalkKit
import Derived.ProofKit
import Derived.OpenShut
import Derived.ShutString
import Derived.ChangeOld
import Derived.Below
import Derived.SizedLaws
import Derived.Deep.DeepHandedRow
import Derived.Lib.LaidTab
import Derived.SevenTiedAt
import Derived.Stop.LaidErr
namespace Go.Proofs.YtleckcbiifhanaaDoor.fnTerms
open Go.ChangeShapes Go.WideShapes Go.ChangeAt Go.RowKit Go.Proofs.YtleckcbiifhanaaDoorW.PrintWords Go.Proofs.YtleckcbiifhanaaDoor.P
open Go.ChangeMaps (open_string shut_string)
set_option linter.unusedVariables false
set_option linter.unusedSimpArgs false
theorem own : ownKnob Tryd.prog.godebug = none := by kernel_rfl
theorem laidOut : laidOutB Tryd.prog = true := by kernel_rfl
def cells0 {H : Type} : DataW H → List Value
 | .lit (.int k n) => [.int k n]
 | .lit (.bool b) => [.bool b]
 | .lit (.string l) => [.string ⟨l.toArray⟩]
 | _ => []
def cells1 {H : Type} : DataW H → List Value
 | .agg l => l.flatMap cells0
 | d => cells0 d
def cells2 {H : Type} : DataW H → List Value
 | .agg l => l.flatMap cells1
 | d => cells1 d
noncomputable def laidWorld (os : Os) : World := { World.holding Tryd.prog os ⟨#[], #[], []⟩ with heap := ((((World.holding Tryd.prog os ⟨#[], #[], []⟩).heap).modify ((Tryd.prog.globalNamed "math/bits.deBruijn32tab").getD 0) (fun | .cells _ t frozen => .cells (cells2 (Rows.laid_math_bits_deBruijn32tab : DataW Unit)).toArray t frozen | o => o)).modify ((Tryd.prog.globalNamed "math/bits.deBruijn64tab").getD 0) (fun | .cells _ t frozen => .cells (cells2 (Rows.laid_math_bits_deBruijn64tab : DataW Unit)).toArray t frozen | o => o)).modify ((Tryd.prog.globalNamed "internal/strconv.uint64pow10").getD 0) (fun | .cells _ t frozen => .cells (cells2 (Rows.laid_internal_strconv_uint64pow10 : DataW Unit)).toArray t frozen | o => o) }
set_option maxRecDepth 100000 in
theorem laid_met (os : Os) (args : Array Value) : laidMet Tryd.prog Rows.fnTermsRow.laid ((laidWorld os).forCall (fun _ _ => 0) ⟨#[], args, []⟩).memory :=
 laidMet_of_run' 8 (by kernel_rfl) (by kernel_rfl)
set_option maxRecDepth 100000 in
theorem witness_row (os : Os) {H : Type} (enc : TypeId × Value → H) :
  (OpenSpec.ofChange Rows.fnTermsSpec).preRow enc Tryd.prog Tryd.f3 Rows.fnTermsRow.domain false Rows.fnTermsRow.laid ((laidWorld os).forCall (fun _ _ => 0) ⟨#[], #[(.slice none 0 0)], []⟩).memory #[(.slice none 0 0)] := by
 have hw : (DataW.whole enc Tryd.prog ((laidWorld os).forCall (fun _ _ => 0) ⟨#[], #[(.slice none 0 0)], []⟩).memory Tryd.f3.params.toList (OpenSpec.ofChange Rows.fnTermsSpec).vars false (#[(.slice none 0 0)] : Array Value).toList 8).isSome = true := by kernel_rfl
 obtain ⟨⟨x1, x2, x3⟩, hx⟩ := Option.isSome_iff_exists.1 hw
 exact OpenSpec.preRow_of_cond 8 hx (by rfl) (fun k hk => by cases hk) (by first | kernel_rfl | exact sized_zero_ hx) (laid_met os _)
set_option maxRecDepth 100000 in
theorem lifted (os : Os) (started : os.Started) (H : Type) (enc : TypeId × Value → H) (F : Stop.Interp) :
  ReturnsInHanded {} Tryd.checked os 3 .any ((OpenSpec.ofChange Rows.fnTermsSpec).preRow enc Tryd.prog Tryd.f3 Rows.fnTermsRow.domain false Rows.fnTermsRow.laid) (((OpenSpec.ofChange Rows.fnTermsSpec).at F).post enc Tryd.prog Tryd.f3 false true false false) := by
 refine returnsInHanded_of_row (C := Tryd.checked) (s := (OpenSpec.ofChange Rows.fnTermsSpec)) own started (by kernel_rfl) Tryd.func3
  (witness_row_at (enc := enc) (C := Tryd.checked) false (laidWorld os) #[(.slice none 0 0)] rfl (by kernel_rfl) (by kernel_rfl) (by kernel_rfl) (witness_row os enc)) ?_
 intro W base args ds gs before hval0 hW _ _ hsz0 hL hsh _
 have hsz : (DataW.weightsEach Tryd.prog (Tryd.f3.params.toList ++ (OpenSpec.ofChange Rows.fnTermsSpec).bare.plain.varTypes Tryd.prog) (ds ++ gs)).all (· ≤ reachBytes) = true := hsz0
 have hval : ∀ (j : Nat) t v, Tryd.f3.params[j]? = some t → args[j]? = some v → Value.okWide Tryd.prog W .any base t v := hval0
 have hW' := hW
 obtain ⟨p, q, hA0, hV, rfl, hfz, hnd⟩ := hW
 have hA : DataW.TrodAll enc Tryd.prog W 0 (fun _ => true) true Tryd.f3.params.toList args.toList ds p := hA0
 rw [Tryd.params3] at hA hval hsz
 obtain ⟨v0, vs0, d0, ds0, p0, q0, hargs, rfl, rfl, h0, r0⟩ := trodAll_cons hA
 obtain ⟨rfl, rfl, rfl⟩ := trodAll_nil r0
 obtain rfl : args = #[v0] := by cases args; simp_all
 obtain ⟨rfl, rfl⟩ := trodVars_none hV
 obtain ⟨a0, len0, cap0, rfl⟩ := okWide_slice Tryd.underlying22 (hval 0 22 v0 rfl rfl)
 have k0 := h0
 have lt0 : ∀ x ∈ p0, x.block < W.heap.size := by obtain ⟨m, hm⟩ := k0; exact DataW.trod_lt m _ _ _ hm
 obtain ⟨fuel0, hf0⟩ := h0
 obtain ⟨x0, ⟨A0, c0, hcs0, hc0, hr0⟩, hB0⟩ := (opn_slice (bytes := 1) Tryd.underlying22 (by kernel_rfl) (by kernel_rfl) (opn_int Tryd.underlying5)) H enc W fuel0 _ _ _ hf0 (fun n hn => by simpa using List.all_eq_true.1 hsz n (DataW.weights_mem_each (j := 0) rfl rfl n hn))
 simp [Value.cells] at hcs0
 obtain ⟨rfl, rfl, rfl⟩ := hcs0
 have hL0 : laidMet Tryd.prog Rows.fnTermsRow.laid W := hL
 have hG : Gw W := ⟨Lib.tabIs_of_head (g := (Tryd.prog.globalNamed "internal/strconv.uint64pow10").getD 0) (t := 97) (e := 51) (n := 20) (by kernel_rfl) (by kernel_rfl) Tryd.underlying97 Tryd.underlying51 (by kernel_rfl) (by kernel_rfl) (laidMet.tail (laidMet.tail hL0))⟩
 clear hA0 hval0 hsz0 hsz
 obtain ⟨k, h⟩ := Pure.FnTerms x0 hB0
 refine (laws_FnTerms.calls k _ _ x0 true W hr0 hc0 hG rfl h).mono fun e W' ⟨he, hd⟩ => ?_
 subst he
 have bel : Below W.heap.size W W' := hd
 exact ⟨_, rfl, _, _, _, [], _, [], hW', trodAll_mk1 (shut_bool Tryd.underlying4 _), (trodAll_cons_mk (Below.trod laidOut (by kernel_rfl) (of_decide_eq_true (by kernel_rfl)) k0 bel lt0) trodAll_mk0), rfl, bel.frame _, fun h => by cases h⟩
theorem over : Rows.FnTermsSaid :=
 OpenClaim.holds_of_cond 3 Tryd.f3 rfl rfl rfl rfl rfl rfl rfl ⟨rfl, rfl, rfl, rfl, rfl⟩ rfl rfl rfl rfl rfl (by kernel_rfl) Tryd.func3 (by kernel_rfl)
  (of_decide_eq_true (by kernel_rfl)) (by unfold Func.isWrapper; first | (rw [if_pos (by decide +kernel)]; kernel_rfl) | (rw [if_neg (by decide +kernel)]; exact ⟨rfl, rfl⟩))
  (fun os started H enc _ F0 => by rw [OpenClaim.pre_eq_preRow]; exact lifted os started H enc F0)
set_option maxRecDepth 100000 in
theorem proved : Rows.FnTermsCardSaid :=
 Claim7.holds_tied_plain_at .later [] [.data, .data, .data] true (true, "ca80f4414d33efe73e2bd9a9438d6618f938bf2667520c45a47301088d288cc7") false
  over (fun _ h => by cases h) (by kernel_rfl) (fun _ h => by cases h) fnTerms_row_tie rfl ⟨rfl, rfl⟩ (by kernel_rfl) rfl
  (fun f fn hf hfn => by
   obtain rfl : f = 3 := Option.some.inj ((show Tryd.prog.funcNamed Rows.fnTermsRow.func = some 3 by kernel_rfl).symm.trans hf) |>.symm
   obtain rfl : fn = Tryd.f3 := (Option.some.inj (Tryd.func3.symm.trans hfn)).symm
   exact ⟨by kernel_rfl, fun j t ht => by
    rw [Tryd.params3] at ht
    have hm : t ∈ (#[22] : Array TypeId) := Array.mem_of_getElem? ht
    simp only [List.mem_toArray, List.mem_cons, List.not_mem_nil, or_false] at hm
    subst hm
    exact (show Tryd.prog.wantsStandIn 22 = false by kernel_rfl)⟩)
  (by kernel_rfl)
#print axioms proved
end Go.Proofs.YtleckcbiifhanaaDoor.fnTerms
namespace Go.Proofs.YtleckcbiifhanaaDoor
theorem fnTerms_holds : Rows.FnTermsCardSaid := fnTerms.proved
end Go.Proofs.YtleckcbiifhanaaDoor
