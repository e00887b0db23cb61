/- The row of the law Fac, for every input that the row's form lets in: the law returns true and its arguments read as they did. -/
import Derived.OpenVars
import Derived.ChangeVars
import Derived.Test.YtmafmhgmdegplaaGreatDoorRows
import Derived.Test.YtmafmhgmdegplaaGreatDoorZPx27
import Derived.Test.YtmafmhgmdegplaaGreatDoorZPureFnExactWordIndex
import Derived.Test.YtmafmhgmdegplaaGreatDoorZLOpen
import Derived.Test.YtmafmhgmdegplaaGreatDoorZOpn
import Derived.Test.YtmafmhgmdegplaaGreatDoorTie
import Derived.Test.YtmafmhgmdegplaaGreatDoorCards
import Derived.WalkKit
import Derived.ProofKit
import Derived.OpenShut
import Derived.ShutString
import Derived.ChangeOld
import Derived.Below
import Derived.SizedLaws
import Derived.Deep.DeepHandedRow
import Derived.Lib.LaidTab
import Derived.SevenTiedAt
import Derived.Stop.LaidErr
namespace Go.Proofs.YtmafmhgmdegplaaGreatDoor.fnExactWordIndex
open Go.ChangeShapes Go.WideShapes Go.ChangeAt Go.RowKit Go.Proofs.YtmafmhgmdegplaaGreatDoorW.PrintWords Go.Proofs.YtmafmhgmdegplaaGreatDoor.P
open Go.ChangeMaps (open_string shut_string)
set_option linter.unusedVariables false
set_option linter.unusedSimpArgs false
theorem own : ownKnob Tryz.prog.godebug = none := by kernel_rfl
theorem laidOut : laidOutB Tryz.prog = true := by kernel_rfl
theorem okWide_agg {P : Program} {w : World} {r : Reach} {base : Nat} {t : TypeId} {v : Value} {fs : Array Field} (hu : P.underlying t = some (.struct fs)) (h : Value.okWide P w r base t v) : ∃ cs, v = .agg cs := by
 unfold Value.okWide at h
 rw [hu] at h
 obtain ⟨cs, rfl, _⟩ := h
 exact ⟨cs, rfl⟩
def cells0 {H : Type} : DataW H → List Value
 | .lit (.int k n) => [.int k n]
 | .lit (.bool b) => [.bool b]
 | .lit (.string l) => [.string ⟨l.toArray⟩]
 | _ => []
def cells1 {H : Type} : DataW H → List Value
 | .agg l => l.flatMap cells0
 | d => cells0 d
def cells2 {H : Type} : DataW H → List Value
 | .agg l => l.flatMap cells1
 | d => cells1 d
noncomputable def laidWorld (os : Os) : World := { World.holding Tryz.prog os ⟨#[], #[], []⟩ with heap := (((((((World.holding Tryz.prog os ⟨#[], #[], []⟩).heap).modify ((Tryz.prog.globalNamed "math/bits.deBruijn32tab").getD 0) (fun | .cells _ t frozen => .cells (cells2 (Rows.laid_math_bits_deBruijn32tab : DataW Unit)).toArray t frozen | o => o)).modify ((Tryz.prog.globalNamed "math/bits.deBruijn64tab").getD 0) (fun | .cells _ t frozen => .cells (cells2 (Rows.laid_math_bits_deBruijn64tab : DataW Unit)).toArray t frozen | o => o)).modify ((Tryz.prog.globalNamed "internal/strconv.uint64pow10").getD 0) (fun | .cells _ t frozen => .cells (cells2 (Rows.laid_internal_strconv_uint64pow10 : DataW Unit)).toArray t frozen | o => o)).modify ((Tryz.prog.globalNamed "unicode/utf8.acceptRanges").getD 0) (fun | .cells _ t frozen => .cells (cells2 (Rows.laid_unicode_utf8_acceptRanges : DataW Unit)).toArray t frozen | o => o)).modify ((Tryz.prog.globalNamed "loop.example/g00896/impl.fieldWords").getD 0) (fun | .cells _ t frozen => .cells (cells2 (Rows.laid_loop_example_g00896_impl_fieldWords : DataW Unit)).toArray t frozen | o => o)).modify ((Tryz.prog.globalNamed "unicode/utf8.first").getD 0) (fun | .cells _ t frozen => .cells (cells2 (Rows.laid_unicode_utf8_first : DataW Unit)).toArray t frozen | o => o) }
set_option maxRecDepth 100000 in
theorem laid_met (os : Os) (args : Array Value) : laidMet Tryz.prog Rows.fnExactWordIndexRow.laid ((laidWorld os).forCall (fun _ _ => 0) ⟨#[], args, []⟩).memory :=
 laidMet_of_run' 8 (by kernel_rfl) (by kernel_rfl)
set_option maxRecDepth 100000 in
theorem witness_row (os : Os) {H : Type} (enc : TypeId × Value → H) :
  (OpenSpec.ofChange Rows.fnExactWordIndexSpec).preRow enc Tryz.prog Tryz.f6 Rows.fnExactWordIndexRow.domain false Rows.fnExactWordIndexRow.laid ((laidWorld os).forCall (fun _ _ => 0) ⟨#[], #[(.agg #[(.slice none 0 0)])], []⟩).memory #[(.agg #[(.slice none 0 0)])] := by
 have hw : (DataW.whole enc Tryz.prog ((laidWorld os).forCall (fun _ _ => 0) ⟨#[], #[(.agg #[(.slice none 0 0)])], []⟩).memory Tryz.f6.params.toList (OpenSpec.ofChange Rows.fnExactWordIndexSpec).vars false (#[(.agg #[(.slice none 0 0)])] : Array Value).toList 8).isSome = true := by kernel_rfl
 obtain ⟨⟨x1, x2, x3⟩, hx⟩ := Option.isSome_iff_exists.1 hw
 exact OpenSpec.preRow_of_cond 8 hx (by rfl) (fun k hk => by cases hk) (by first | kernel_rfl | exact sized_zero_ hx) (laid_met os _)
set_option maxRecDepth 100000 in
theorem lifted (os : Os) (started : os.Started) (H : Type) (enc : TypeId × Value → H) (F : Stop.Interp) :
  ReturnsInHanded {} Tryz.checked os 6 .any ((OpenSpec.ofChange Rows.fnExactWordIndexSpec).preRow enc Tryz.prog Tryz.f6 Rows.fnExactWordIndexRow.domain false Rows.fnExactWordIndexRow.laid) (((OpenSpec.ofChange Rows.fnExactWordIndexSpec).at F).post enc Tryz.prog Tryz.f6 false true false false) := by
 refine returnsInHanded_of_row (C := Tryz.checked) (s := (OpenSpec.ofChange Rows.fnExactWordIndexSpec)) own started (by kernel_rfl) Tryz.func6
  (witness_row_at (enc := enc) (C := Tryz.checked) false (laidWorld os) #[(.agg #[(.slice none 0 0)])] rfl (by kernel_rfl) (by kernel_rfl) (by kernel_rfl) (witness_row os enc)) ?_
 intro W base args ds gs before hval0 hW _ _ hsz0 hL hsh _
 have hsz : (DataW.weightsEach Tryz.prog (Tryz.f6.params.toList ++ (OpenSpec.ofChange Rows.fnExactWordIndexSpec).bare.plain.varTypes Tryz.prog) (ds ++ gs)).all (· ≤ reachBytes) = true := hsz0
 have hval : ∀ (j : Nat) t v, Tryz.f6.params[j]? = some t → args[j]? = some v → Value.okWide Tryz.prog W .any base t v := hval0
 have hW' := hW
 obtain ⟨p, q, hA0, hV, rfl, hfz, hnd⟩ := hW
 have hA : DataW.TrodAll enc Tryz.prog W 0 (fun _ => true) true Tryz.f6.params.toList args.toList ds p := hA0
 rw [Tryz.params6] at hA hval hsz
 obtain ⟨v0, vs0, d0, ds0, p0, q0, hargs, rfl, rfl, h0, r0⟩ := trodAll_cons hA
 obtain ⟨rfl, rfl, rfl⟩ := trodAll_nil r0
 obtain rfl : args = #[v0] := by cases args; simp_all
 have hV0 := hV
 obtain ⟨gv_, tv_, csv_, fv_, dv_, pv_, rfl, hgv_, -, -, -, hpv_⟩ := trodVars_one hV
 obtain ⟨cs0, rfl⟩ := okWide_agg Tryz.underlying48 (hval 0 48 v0 rfl rfl)
 have k0 := h0
 have lt0 : ∀ x ∈ p0, x.block < W.heap.size := by obtain ⟨m, hm⟩ := k0; exact DataW.trod_lt m _ _ _ hm
 obtain ⟨fuel0, hf0⟩ := h0
 obtain ⟨x0, hK0, hB0⟩ := opn_k48 H enc W fuel0 _ _ _ hf0 (fun n hn => by simpa using List.all_eq_true.1 hsz n (DataW.weights_mem_each (j := 0) rfl rfl n hn))
 replace hK0 : k48.K W x0 cs0.toList := hK0
 generalize hl0 : cs0.toList = L0 at hK0
 obtain ⟨Ax01, cx01, rfl, hcx01, hrx01⟩ := hK0
 obtain rfl : cs0 = #[.slice Ax01 x0.f0.length cx01] := Array.ext' hl0
 have hL0 : laidMet Tryz.prog Rows.fnExactWordIndexRow.laid W := hL
 have hG : Gfb W := ⟨(strs_of_head (List.map (fun s_ : ByteArray => s_.data.toList) fieldL) (g := (Tryz.prog.globalNamed "loop.example/g00896/impl.fieldWords").getD 0) (t := 170) (e := 9) (n := 8) (by kernel_rfl) (by kernel_rfl) Tryz.underlying170 Tryz.underlying9 (by kernel_rfl) (by kernel_rfl) (laidMet.tail (laidMet.tail (laidMet.tail (laidMet.tail hL0))))), Lib.tabIs_of_head (g := (Tryz.prog.globalNamed "internal/strconv.uint64pow10").getD 0) (t := 258) (e := 119) (n := 20) (by kernel_rfl) (by kernel_rfl) Tryz.underlying258 Tryz.underlying119 (by kernel_rfl) (by kernel_rfl) (laidMet.tail (laidMet.tail hL0)), Go.Proofs.cell_of_shapedOpen_int (zero := #[.int .i64 0]) (t := 3) hsh (of_decide_eq_true (by kernel_rfl)) (by kernel_rfl) rfl (by kernel_rfl) (by kernel_rfl) Tryz.underlying3⟩
 clear hA0 hval0 hsz0 hsz
 obtain ⟨k, h⟩ := Pure.FnExactWordIndex x0 hB0
 refine (Fac.calls k _ _ x0.f0 true W hrx01 hcx01 hG rfl h).mono fun e W' ⟨he, hd⟩ => ?_
 subst he
 have bel : Below W.heap.size W W' := hd
 exact ⟨_, rfl, _, _, _, _, _, _, hW', trodAll_mk1 (shut_bool Tryz.underlying4 _), (trodAll_cons_mk (Below.trod laidOut (by kernel_rfl) (of_decide_eq_true (by kernel_rfl)) k0 bel lt0) trodAll_mk0), bel.trodVars laidOut (by kernel_rfl) hV0, bel.frame _, fun h => by cases h⟩
theorem over : Rows.FnExactWordIndexSaid :=
 OpenClaim.holds_of_cond 6 Tryz.f6 rfl rfl rfl rfl rfl rfl rfl ⟨rfl, rfl, rfl, rfl, rfl⟩ rfl rfl rfl rfl rfl (by kernel_rfl) Tryz.func6 (by kernel_rfl)
  (of_decide_eq_true (by kernel_rfl)) (by unfold Func.isWrapper; first | (rw [if_pos (by decide +kernel)]; kernel_rfl) | (rw [if_neg (by decide +kernel)]; exact ⟨rfl, rfl⟩))
  (fun os started H enc _ F0 => by rw [OpenClaim.pre_eq_preRow]; exact lifted os started H enc F0)
set_option maxRecDepth 100000 in
theorem proved : Rows.FnExactWordIndexCardSaid :=
 Claim7.holds_tied_plain_at .later [] [.data, .data, .data, .data, .widerDeep, .pinned] true (true, "aba5bc6e477f6a888394e6cbeede31f24b24e7147b39711386707a827ba447b9") false
  over (fun _ h => by cases h) (by kernel_rfl) (fun _ h => by cases h) fnExactWordIndex_row_tie rfl ⟨rfl, rfl⟩ (by kernel_rfl) rfl
  (fun f fn hf hfn => by
   obtain rfl : f = 6 := Option.some.inj ((show Tryz.prog.funcNamed Rows.fnExactWordIndexRow.func = some 6 by kernel_rfl).symm.trans hf) |>.symm
   obtain rfl : fn = Tryz.f6 := (Option.some.inj (Tryz.func6.symm.trans hfn)).symm
   exact ⟨by kernel_rfl, fun j t ht => by
    rw [Tryz.params6] at ht
    have hm : t ∈ (#[48] : Array TypeId) := Array.mem_of_getElem? ht
    simp only [List.mem_toArray, List.mem_cons, List.not_mem_nil, or_false] at hm
    subst hm
    exact (show Tryz.prog.wantsStandIn 48 = false by kernel_rfl)⟩)
  (by kernel_rfl)
#print axioms proved
end Go.Proofs.YtmafmhgmdegplaaGreatDoor.fnExactWordIndex
namespace Go.Proofs.YtmafmhgmdegplaaGreatDoor
theorem fnExactWordIndex_holds : Rows.FnExactWordIndexCardSaid := fnExactWordIndex.proved
end Go.Proofs.YtmafmhgmdegplaaGreatDoor
