/- For every locale and text, the law FnExactParseOrdinal answers true: the program's ParseOrdinal returns what the reference's returns, and leaves its argument as it was. No conditions beyond the given statement's. -/
import Derived.Test.YtmkkcpdpfelalaaDoorZPx12
import Derived.Test.YtmkkcpdpfelalaaDoorZLLocConv
import Derived.Test.YtmkkcpdpfelalaaDoorZLLocParse
namespace Go.Proofs.YtmkkcpdpfelalaaDoor.Pure
open Go.RowKit Go.Proofs.YtmkkcpdpfelalaaDoorW.PrintWords Go.Proofs.YtmkkcpdpfelalaaDoorW.PrintLast Go.Proofs.YtmkkcpdpfelalaaDoorW.PrintMore Go.Proofs.YtmkkcpdpfelalaaDoor.P
set_option linter.unusedVariables false
set_option linter.unusedSimpArgs false
theorem FnExactParseOrdinal : laws_FnExactParseOrdinal.Pure := by
 intro a s hB _
 obtain ⟨hn, ⟨htl, _, hts⟩, ⟨hrl, _, hrs⟩, hla, htw⟩ := hB
 obtain ⟨K, hK⟩ : ∃ K, 3000000 < K := ⟨_, Nat.lt_succ_self _⟩
 refine ⟨K + 1, ?_⟩
 unfold laws_FnExactParseOrdinal.f
 by_cases hkey : (s.size : Int) > 1048576
 ·rw [if_pos hkey]
 ·rw [if_neg hkey]
  obtain ⟨t, ht, _, hto⟩ := szLocale a.f0 a.f1 a.f2 a.f3 a.f4 hn (by omega) hts (by omega) (fun x hx => (hrs x hx).2.2) hla htw (K + 1) 1048576 (by omega) (by omega) (by omega)
  rw [ht, Option.bind_some]
  by_cases g : t < 0
  ·rw [if_pos g]
  ·obtain ⟨o1, ⟨o2, o3⟩, ⟨o4, o5⟩, o6, o7⟩ := hto g
   have hc := toLocale a.f0 a.f1 a.f2 a.f3 a.f4 (by omega) (by omega) (K + 1) (by omega)
   have hc1 := toLocale a.f0 a.f1 a.f2 a.f3 a.f4 (by omega) (by omega) K (by omega)
   obtain ⟨eS, eI⟩ := parseBoth a.f0 (a.f1.map cT) (a.f2.map cR) a.f3 a.f4 s (by omega) o1 o3 o5 o6 o7 (K + 1) (by omega)
   have hq := eqLocale a.f0 (a.f1.map cT) (a.f2.map cR) a.f3 a.f4 (by rw [List.length_map]; omega) (by rw [List.length_map]; omega) K (by omega)
   have hb : ∀ b : Bool, (b != b) = false := by intro b; simp
   rw [if_neg g, hc, Option.bind_some]
   dsimp only
   rw [eS, Option.bind_some, Option.bind_some]
   dsimp only
   rw [eI, Option.bind_some, if_pos rfl, hb, laws_FnExactParseOrdinal.j0, if_neg Bool.false_ne_true, hc1, Option.bind_some]
   dsimp only
   rw [hq, Option.bind_some, if_pos rfl]
end Go.Proofs.YtmkkcpdpfelalaaDoor.Pure
