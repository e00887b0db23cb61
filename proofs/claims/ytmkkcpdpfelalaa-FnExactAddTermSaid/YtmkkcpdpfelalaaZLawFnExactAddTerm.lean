/- The row of the law laws_FnExactAddTerm, for every input that the row's form lets in: the law returns true and its arguments read as they did. -/
import Derived.Test.YtmkkcpdpfelalaaRows
import Derived.Test.YtmkkcpdpfelalaaZPx15
import Derived.Test.YtmkkcpdpfelalaaZPureFnExactAddTerm
import Derived.Test.YtmkkcpdpfelalaaZLOpen
import Derived.Test.YtmkkcpdpfelalaaZOpn
import Derived.WalkKit
import Derived.ProofKit
import Derived.OpenShut
import Derived.ShutString
import Derived.ChangeOld
import Derived.Below
import Derived.SizedLaws
namespace Go.Proofs.Ytmkkcpdpfelalaa.fnExactAddTerm
open Go.ChangeShapes Go.WideShapes Go.ChangeAt Go.RowKit Go.Proofs.YtmkkcpdpfelalaaW.PrintWords Go.Proofs.Ytmkkcpdpfelalaa.P
open Go.ChangeMaps (open_string shut_string)
set_option linter.unusedVariables false
set_option linter.unusedSimpArgs false
theorem own : ownKnob Try.prog.godebug = none := by kernel_rfl
theorem laidOut : laidOutB Try.prog = true := by kernel_rfl
theorem okWide_agg {P : Program} {w : World} {r : Reach} {base : Nat} {t : TypeId} {v : Value} {fs : Array Field} (hu : P.underlying t = some (.struct fs)) (h : Value.okWide P w r base t v) : ∃ cs, v = .agg cs := by
 unfold Value.okWide at h
 rw [hu] at h
 obtain ⟨cs, rfl, _⟩ := h
 exact ⟨cs, rfl⟩
set_option maxRecDepth 100000 in
theorem lifted (os : Os) (started : os.Started) (H : Type) (enc : TypeId × Value → H) :
  ReturnsInHanded {} Try.checked os 8 .any (Rows.fnExactAddTermSpec.pre6 enc Try.prog Try.f8 Rows.fnExactAddTermRow.domain false) (Rows.fnExactAddTermSpec.post enc Try.prog Try.f8 false true false false) := by
 refine returnsInHanded_of_change_sized (C := Try.checked) own started (by kernel_rfl) Try.func8
  (ChangeSpec.witness6 (enc := enc) (C := Try.checked) false ⟨#[], #[(.agg #[(.string ⟨#[]⟩), (.slice none 0 0), (.slice none 0 0), (.string ⟨#[]⟩), (.string ⟨#[]⟩)]), (.agg #[(.string ⟨#[]⟩), (.string ⟨#[]⟩), (.string ⟨#[]⟩)])], []⟩ 8 (by kernel_rfl) (by kernel_rfl) (by kernel_rfl) (by kernel_rfl)) ?_
 intro W base args ds gs before hval0 hW hcnd hsz0 _
 have hsz : (DataW.weightsEach Try.prog (Try.f8.params.toList ++ Rows.fnExactAddTermSpec.plain.varTypes Try.prog) (ds ++ gs)).all (· ≤ reachBytes) = true := hsz0
 have hval : ∀ (j : Nat) t v, Try.f8.params[j]? = some t → args[j]? = some v → Value.okWide Try.prog W .any base t v := hval0
 have hW' := hW
 obtain ⟨p, q, hA0, hV, rfl, hfz, hnd⟩ := hW
 have hA : DataW.TrodAll enc Try.prog W 0 (fun _ => true) true Try.f8.params.toList args.toList ds p := hA0
 rw [Try.params8] at hA hval hsz
 obtain ⟨v0, vs0, d0, ds0, p0, q0, hargs, rfl, rfl, h0, r0⟩ := trodAll_cons hA
 obtain ⟨v1, vs1, d1, ds1, p1, q1, rfl, rfl, rfl, h1, r1⟩ := trodAll_cons r0
 obtain ⟨rfl, rfl, rfl⟩ := trodAll_nil r1
 obtain rfl : args = #[v0, v1] := by cases args; simp_all
 obtain ⟨rfl, rfl⟩ := trodVars_none hV
 obtain ⟨cs0, rfl⟩ := okWide_agg Try.underlying25 (hval 0 25 v0 rfl rfl)
 have k0 := h0
 have lt0 : ∀ x ∈ p0, x.block < W.heap.size := by obtain ⟨m, hm⟩ := k0; exact DataW.trod_lt m _ _ _ hm
 obtain ⟨fuel0, hf0⟩ := h0
 obtain ⟨x0, hK0, hB0⟩ := opn_k25 H enc W fuel0 _ _ _ hf0 (fun n hn => by simpa using List.all_eq_true.1 hsz n (DataW.weights_mem_each (j := 0) rfl rfl n hn))
 replace hK0 : k25.K W x0 cs0.toList := hK0
 generalize hl0 : cs0.toList = L0 at hK0
 obtain ⟨_, _, rfl, rfl, ⟨_, _, rfl, ⟨Ax01, cx01, rfl, hcx01, hrx01⟩, ⟨_, _, rfl, ⟨Ax02, cx02, rfl, hcx02, hrx02⟩, ⟨_, _, rfl, rfl, rfl⟩⟩⟩⟩ := hK0
 obtain rfl : cs0 = #[.string x0.f0, .slice Ax01 x0.f1.length cx01, .slice Ax02 x0.f2.length cx02, .string x0.f3, .string x0.f4] := Array.ext' hl0
 obtain ⟨cs1, rfl⟩ := okWide_agg Try.underlying57 (hval 1 57 v1 rfl rfl)
 have k1 := h1
 have lt1 : ∀ x ∈ p1, x.block < W.heap.size := by obtain ⟨m, hm⟩ := k1; exact DataW.trod_lt m _ _ _ hm
 obtain ⟨fuel1, hf1⟩ := h1
 obtain ⟨x1, hK1, hB1⟩ := opn_k57 H enc W fuel1 _ _ _ hf1 (fun n hn => by simpa using List.all_eq_true.1 hsz n (DataW.weights_mem_each (j := 1) rfl rfl n hn))
 replace hK1 : k57.K W x1 cs1.toList := hK1
 generalize hl1 : cs1.toList = L1 at hK1
 obtain ⟨_, _, rfl, rfl, ⟨_, _, rfl, rfl, rfl⟩⟩ := hK1
 obtain rfl : cs1 = #[.string x1.f0, .string x1.f1, .string x1.f2] := Array.ext' hl1
 clear hA0 hval0 hsz0 hsz
 obtain ⟨k, h⟩ := Pure.FnExactAddTerm x0 x1 hB0 hB1
 refine (laws_FnExactAddTerm.calls k x0.f0 _ _ x0.f1 _ _ x0.f2 x0.f3 x0.f4 x1.f0 x1.f1 x1.f2 true W hrx01 hcx01 hrx02 hcx02 rfl h).mono fun e W' ⟨he, hd⟩ => ?_
 subst he
 have bel : Below W.heap.size W W' := hd
 exact ⟨_, rfl, _, _, _, [], _, [], hW', trodAll_mk1 (shut_bool Try.underlying4 _), (trodAll_cons_mk (Below.trod laidOut (by kernel_rfl) (of_decide_eq_true (by kernel_rfl)) k0 bel lt0) (trodAll_cons_mk (Below.trod laidOut (by kernel_rfl) (of_decide_eq_true (by kernel_rfl)) k1 bel lt1) trodAll_mk0)), rfl, bel.frame _, fun h => by cases h⟩
theorem over : Rows.fnExactAddTermRow.holds Try.pinned (OpenSpec.ofChange Rows.fnExactAddTermSpec) :=
 OpenClaim.holds_of_wide 8 Try.f8 rfl rfl rfl rfl rfl rfl rfl ⟨rfl, rfl, rfl, rfl, rfl⟩ rfl rfl rfl rfl rfl (by kernel_rfl) Try.func8 (by kernel_rfl)
  (of_decide_eq_true (by kernel_rfl)) (by unfold Func.isWrapper; first | (rw [if_pos (by decide +kernel)]; kernel_rfl) | (rw [if_neg (by decide +kernel)]; exact ⟨rfl, rfl⟩))
  (fun os started H enc _ => lifted os started H enc)
theorem proved : Rows.FnExactAddTermSaid := over
#print axioms proved
end Go.Proofs.Ytmkkcpdpfelalaa.fnExactAddTerm
namespace Go.Proofs.Ytmkkcpdpfelalaa
theorem fnExactAddTerm_holds : Rows.FnExactAddTermSaid := fnExactAddTerm.proved
end Go.Proofs.Ytmkkcpdpfelalaa
