/- For every list of locales, key and number, the law FnExactFallbackTerm answers true: the program's FallbackTerm returns what the reference's returns, and leaves its arguments as they were. No conditions beyond the given statement's. -/
import Derived.Test.YtmkkcpdpfelalaaZPx16
import Derived.Test.YtmkkcpdpfelalaaZLLocFall
namespace Go.Proofs.Ytmkkcpdpfelalaa.Pure
open Go.RowKit Go.Proofs.YtmkkcpdpfelalaaW.PrintWords Go.Proofs.YtmkkcpdpfelalaaW.PrintLast Go.Proofs.YtmkkcpdpfelalaaW.PrintMore Go.Proofs.Ytmkkcpdpfelalaa.P
set_option linter.unusedVariables false
set_option linter.unusedSimpArgs false
theorem FnExactFallbackTerm : laws_FnExactFallbackTerm.Pure := by
 intro l key n hl _ _
 obtain ⟨hl1, _, hl2⟩ := hl
 obtain ⟨K, hK⟩ : ∃ K, 9000000 < K := ⟨_, Nat.lt_succ_self _⟩
 refine ⟨K + 1, ?_⟩
 unfold laws_FnExactFallbackTerm.f
 by_cases hkey : (key.size : Int) > 1048576
 ·rw [if_pos hkey]
 ·rw [if_neg hkey]
  obtain ⟨t, ht, _, hto⟩ := szLocs l (by omega) (fun x hx => by
   obtain ⟨q1, ⟨q2, _, q3⟩, ⟨q4, _, q5⟩, q6, q7⟩ := hl2 x hx
   exact ⟨q1, ⟨by omega, q3⟩, ⟨by omega, fun y hy => (q5 y hy).2.2⟩, q6, q7⟩) (K + 1) 1048576 (by omega) (by omega) (by omega)
  rw [ht, Option.bind_some]
  by_cases g : t < 0
  ·rw [if_pos g]
  ·obtain ⟨o1, o2⟩ := hto g
   have hx : ∀ x ∈ l.map cL, okL1 x := by
    intro x hm
    obtain ⟨y, hy, rfl⟩ := List.mem_map.1 hm
    exact o2 y hy
   have ca := fun k hk => toLocs l (by omega) o2 k hk
   have qa := fun k hk => eqLocs (l.map cL) (by rw [List.length_map]; omega) hx k hk
   have hb : ∀ b : Bool, (b != b) = false := by intro b; simp
   rw [if_neg g, ca _ (by omega), Option.bind_some, specFall _ key n hx _ (by omega), Option.bind_some, Option.bind_some, implFall _ key n hx _ (by omega), Option.bind_some, if_pos rfl, if_pos rfl, hb, laws_FnExactFallbackTerm.j0, if_neg Bool.false_ne_true, ca _ (by omega), Option.bind_some, qa _ (by omega), Option.bind_some, if_pos rfl]
end Go.Proofs.Ytmkkcpdpfelalaa.Pure
