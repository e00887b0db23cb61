/- For every locale and every term, the law FnExactAddTerm answers true: the program's AddTerm returns what the reference's returns, leaves its arguments as they were, and what it returns belongs to the caller alone. No conditions beyond the given statement's. -/
import Derived.Test.YtmkkcpdpfelalaaZPx1
import Derived.Test.YtmkkcpdpfelalaaZPx15
import Derived.Test.YtmkkcpdpfelalaaZLLocAdd
import Derived.Test.YtmkkcpdpfelalaaZLLocConv
import Derived.Test.YtmkkcpdpfelalaaZLLocGood
import Derived.Test.YtmkkcpdpfelalaaZLLocHeld
import Derived.Test.YtmkkcpdpfelalaaZLLocMark
namespace Go.Proofs.Ytmkkcpdpfelalaa.Pure
open Go.RowKit Go.Proofs.YtmkkcpdpfelalaaW.PrintWords Go.Proofs.YtmkkcpdpfelalaaW.PrintLast Go.Proofs.YtmkkcpdpfelalaaW.PrintMore Go.Proofs.Ytmkkcpdpfelalaa.P
set_option linter.unusedVariables false
set_option linter.unusedSimpArgs false
theorem FnExactAddTerm : laws_FnExactAddTerm.Pure := by
 intro a t hA hB
 obtain ⟨hn, ⟨htl, _, hts⟩, ⟨hrl, _, hrs⟩, hla, htw⟩ := hA
 obtain ⟨K, hK⟩ : ∃ K, 9000000 < K := ⟨_, Nat.lt_succ_self _⟩
 refine ⟨K + 4, ?_⟩
 unfold laws_FnExactAddTerm.f
 obtain ⟨u, hu, huc, huo⟩ := szLocale a.f0 a.f1 a.f2 a.f3 a.f4 hn (by omega) hts (by omega) (fun x hx => (hrs x hx).2.2) hla htw (K + 4) 1048576 (by omega) (by omega) (by omega)
 rw [hu, Option.bind_some]
 by_cases g : u < 0
 ·rw [if_pos g]
 ·obtain ⟨v, hv, _, hvo⟩ := szTerm1 t hB u (by omega) (by omega)
  rw [if_neg g, hv, Option.bind_some]
  by_cases g2 : v < 0
  ·rw [if_pos g2]
  ·obtain ⟨o1, ⟨o2, o3⟩, ⟨o4, o5⟩, o6, o7⟩ := huo g
   have hz : szT (cT t) := hvo g2
   have ca := fun k hk => toLocale a.f0 a.f1 a.f2 a.f3 a.f4 (by omega) (by omega) k hk
   have ct : laws_toTerm.f t.f0 t.f1 t.f2 = some ((cT t).f0, (cT t).f1, (cT t).f2) := rfl
   have la1 : (a.f1.map cT).length ≤ 1048576 := by rw [List.length_map]; omega
   have la2 : (a.f2.map cR).length ≤ 1048576 := by rw [List.length_map]; omega
   have hb := fun k hk => addBoth a.f0 (a.f1.map cT) (a.f2.map cR) a.f3 a.f4 (cT t) o1 (by omega) (by omega) o3 o5 o6 o7 hz k hk
   have qa := fun k hk => eqLocale a.f0 (a.f1.map cT) (a.f2.map cR) a.f3 a.f4 (by omega) (by omega) k hk
   obtain ⟨A1, B1, m1⟩ := markLoc a.f0 (a.f1.map cT) (a.f2.map cR) a.f3 a.f4 (by omega) (by omega) 1 (by omega) (K + 3) (by omega)
   have hl := addR_len a.f0 (a.f1.map cT) (a.f2.map cR) a.f3 a.f4 (cT t)
   generalize addR a.f0 (a.f1.map cT) (a.f2.map cR) a.f3 a.f4 (cT t) = R at *
   obtain ⟨n', ts', rs', la', tw', ok⟩ := R
   have hl1 : ts'.length ≤ 1048577 := by have := hl.1; dsimp only at this; omega
   have hl2 : rs'.length ≤ 1048576 := by have := hl.2; dsimp only at this; omega
   have qr := fun k hk => eqLocale n' ts' rs' la' tw' (by omega) (by omega) k hk
   obtain ⟨A2, B2, m2, m3⟩ := markHeldLoc n' ts' rs' la' tw' (by omega) (by omega) (K + 2) (by omega)
   have hbb : (ok != ok) = false := by cases ok <;> rfl
   rw [if_neg g2, ca _ (by omega), Option.bind_some]
   dsimp only
   rw [ct, Option.bind_some]
   dsimp only
   rw [(hb _ (by omega)).1, Option.bind_some, Option.bind_some]
   dsimp only
   rw [Option.bind_some]
   dsimp only
   rw [(hb _ (by omega)).2, Option.bind_some]
   dsimp only
   rw [qr _ (by omega), Option.bind_some, if_pos rfl, hbb, laws_FnExactAddTerm.j0, if_neg Bool.false_ne_true, ca _ (by omega), Option.bind_some]
   dsimp only
   rw [qa _ (by omega), Option.bind_some, if_pos rfl]
   rw [show ((1 : Nat) : Int) = 1 from rfl] at m1
   rw [m1, Option.bind_some]
   dsimp only
   rw [if_neg (by omega), qr _ (by omega), Option.bind_some, if_pos rfl, hbb, laws_FnExactAddTerm.j1, if_neg Bool.false_ne_true, m2, Option.bind_some]
   dsimp only
   rw [m3 _ (by omega), Option.bind_some, if_neg (by omega), if_pos rfl, ca _ (by omega), Option.bind_some]
   dsimp only
   rw [ct, Option.bind_some]
   dsimp only
   rw [(hb _ (by omega)).2, Option.bind_some]
   dsimp only
   rw [qr _ (by omega), Option.bind_some, if_pos rfl, hbb, laws_FnExactAddTerm.j2, if_neg Bool.false_ne_true, m3 _ (by omega), Option.bind_some, if_neg (by omega), if_pos rfl]
end Go.Proofs.Ytmkkcpdpfelalaa.Pure
