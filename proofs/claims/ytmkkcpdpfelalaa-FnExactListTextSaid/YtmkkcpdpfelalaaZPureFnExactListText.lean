/- For every locale and list of texts, the law FnExactListText answers true: the program's ListText returns what the reference's returns, and leaves its arguments as they were. No conditions beyond the given statement's. -/
import Derived.Test.YtmkkcpdpfelalaaZPx19
import Derived.Test.YtmkkcpdpfelalaaZLEqStrs
import Derived.Test.YtmkkcpdpfelalaaZLLocConv
import Derived.Test.YtmkkcpdpfelalaaZLLocList
import Derived.Test.YtmkkcpdpfelalaaZLStrs
namespace Go.Proofs.Ytmkkcpdpfelalaa.Pure
open Go.RowKit Go.Proofs.YtmkkcpdpfelalaaW.PrintWords Go.Proofs.YtmkkcpdpfelalaaW.PrintLast Go.Proofs.YtmkkcpdpfelalaaW.PrintMore Go.Proofs.Ytmkkcpdpfelalaa.P
set_option linter.unusedVariables false
set_option linter.unusedSimpArgs false
theorem FnExactListText : laws_FnExactListText.Pure := by
 intro a l hB hL
 obtain ⟨hn, ⟨htl, _, hts⟩, ⟨hrl, _, hrs⟩, hla, htw⟩ := hB
 obtain ⟨hl1, _, hl2⟩ := hL
 obtain ⟨K, hK⟩ : ∃ K, 9000000 < K := ⟨_, Nat.lt_succ_self _⟩
 refine ⟨K + 1, ?_⟩
 unfold laws_FnExactListText.f
 obtain ⟨t, ht, htc, hto⟩ := szLocale a.f0 a.f1 a.f2 a.f3 a.f4 hn (by omega) hts (by omega) (fun x hx => (hrs x hx).2.2) hla htw (K + 1) 1048576 (by omega) (by omega) (by omega)
 rw [ht, Option.bind_some]
 by_cases g : t < 0
 ·rw [if_pos g]
 ·obtain ⟨u, hu, _, huo⟩ := szStrs l (by omega) hl2 (K + 1) t (by omega) (by omega) (by omega)
  rw [if_neg g, hu, Option.bind_some]
  by_cases g2 : u < 0
  ·rw [if_pos g2]
  ·obtain ⟨o1, ⟨o2, o3⟩, ⟨o4, o5⟩, o6, o7⟩ := hto g
   obtain ⟨p1, p2⟩ := huo g2
   have ca := fun k hk => toLocale a.f0 a.f1 a.f2 a.f3 a.f4 (by omega) (by omega) k hk
   have la1 : (a.f1.map cT).length ≤ 1048576 := by rw [List.length_map]; omega
   have la2 : (a.f2.map cR).length ≤ 1048576 := by rw [List.length_map]; omega
   have cl := fun k hk => toStrs l (by omega) k hk
   have qa := fun k hk => eqLocale a.f0 (a.f1.map cT) (a.f2.map cR) a.f3 a.f4 (by omega) (by omega) k hk
   have ql := fun k hk => eqStrs l (by omega) k hk
   have hS := specList a.f0 (a.f1.map cT) (a.f2.map cR) a.f3 a.f4 l o1 o3 o5 o6 o7 p2 (K + 1) (by omega)
   have hI := implList a.f0 (a.f1.map cT) (a.f2.map cR) a.f3 a.f4 l o1 o3 o5 o6 o7 p2 (K + 1) (by omega)
   generalize listR a.f0 (a.f1.map cT) (a.f2.map cR) a.f3 a.f4 l = R at *
   have hb : ∀ b : Bool, (b != b) = false := by intro b; simp
   rw [if_neg g2, ca _ (by omega), Option.bind_some]
   dsimp only
   rw [cl _ (by omega), Option.bind_some, hS, Option.bind_some, Option.bind_some]
   dsimp only
   rw [Option.bind_some, hI, Option.bind_some, if_pos rfl, hb, laws_FnExactListText.j0, if_neg Bool.false_ne_true, ca _ (by omega), Option.bind_some]
   dsimp only
   rw [qa _ (by omega), Option.bind_some, if_pos rfl, cl _ (by omega), Option.bind_some, ql _ (by omega), Option.bind_some, if_pos rfl]
end Go.Proofs.Ytmkkcpdpfelalaa.Pure
