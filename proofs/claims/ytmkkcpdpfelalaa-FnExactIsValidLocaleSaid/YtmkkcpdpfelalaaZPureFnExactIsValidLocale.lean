/- For every locale, the law FnExactIsValidLocale answers true: the program's IsValidLocale returns what the reference's returns, and leaves its argument as it was. No conditions beyond the given statement's. -/
import Derived.Test.YtmkkcpdpfelalaaZPx3
import Derived.Test.YtmkkcpdpfelalaaZPx7
import Derived.Test.YtmkkcpdpfelalaaZLLocConv
import Derived.Test.YtmkkcpdpfelalaaZLLocGood
namespace Go.Proofs.Ytmkkcpdpfelalaa.Pure
open Go.RowKit Go.Proofs.YtmkkcpdpfelalaaW.PrintWords Go.Proofs.YtmkkcpdpfelalaaW.PrintLast Go.Proofs.YtmkkcpdpfelalaaW.PrintMore Go.Proofs.Ytmkkcpdpfelalaa.P
set_option linter.unusedVariables false
set_option linter.unusedSimpArgs false
theorem FnExactIsValidLocale : laws_FnExactIsValidLocale.Pure := by
 intro a hB
 obtain ⟨hn, ⟨htl, _, hts⟩, ⟨hrl, _, hrs⟩, hla, htw⟩ := hB
 obtain ⟨K, hK⟩ : ∃ K, 3000000 < K := ⟨_, Nat.lt_succ_self _⟩
 refine ⟨K, ?_⟩
 obtain ⟨t, ht, _, hto⟩ := szLocale a.f0 a.f1 a.f2 a.f3 a.f4 hn (by omega) hts (by omega) (fun x hx => (hrs x hx).2.2) hla htw K 1048576 (by omega) (by omega) (by omega)
 unfold laws_FnExactIsValidLocale.f
 rw [ht, Option.bind_some]
 by_cases g : t < 0
 ·rw [if_pos g]
 ·obtain ⟨o1, ⟨o2, o3⟩, ⟨o4, o5⟩, o6, o7⟩ := hto g
  have hc := toLocale a.f0 a.f1 a.f2 a.f3 a.f4 (by omega) (by omega) K (by omega)
  have hspec : spec_IsValidLocale.f K a.f0 (a.f1.map cT) (a.f2.map cR) a.f3 a.f4 = some (goodL a.f0 (a.f1.map cT) (a.f2.map cR) a.f3 a.f4) := by
   unfold spec_IsValidLocale.f
   rw [specGood _ _ _ _ _ o1 o3 o5 o6 o7 K (by omega), Option.bind_some]
  have hq := eqLocale a.f0 (a.f1.map cT) (a.f2.map cR) a.f3 a.f4 (by rw [List.length_map]; omega) (by rw [List.length_map]; omega) K (by omega)
  have hb : ∀ b : Bool, ¬ ((b != b) = true) := by intro b; simp
  rw [if_neg g, hc, Option.bind_some]
  dsimp only
  rw [hspec, Option.bind_some, Option.bind_some]
  dsimp only
  rw [implGood _ _ _ _ _ o1 o3 o5 o6 o7 K (by omega), Option.bind_some, if_neg (hb _), Option.bind_some]
  dsimp only
  rw [hq, Option.bind_some, if_pos rfl]
end Go.Proofs.Ytmkkcpdpfelalaa.Pure
