/- For every two locales, the law FnExactMissingTerms answers true: the program's MissingTerms returns what the reference's returns, leaves its arguments as they were, and what it returns belongs to the caller alone. No conditions beyond the given statement's. -/
import Derived.Test.YtmkkcpdpfelalaaZPx13
import Derived.Test.YtmkkcpdpfelalaaZLEqStrs
import Derived.Test.YtmkkcpdpfelalaaZLLocConv
import Derived.Test.YtmkkcpdpfelalaaZLLocMark
import Derived.Test.YtmkkcpdpfelalaaZLLocMiss
import Derived.Test.YtmkkcpdpfelalaaZLMtBig
namespace Go.Proofs.Ytmkkcpdpfelalaa.Pure
open Go.RowKit Go.Proofs.YtmkkcpdpfelalaaW.PrintWords Go.Proofs.YtmkkcpdpfelalaaW.PrintLast Go.Proofs.YtmkkcpdpfelalaaW.PrintMore Go.Proofs.Ytmkkcpdpfelalaa.P
set_option linter.unusedVariables false
set_option linter.unusedSimpArgs false
theorem FnExactMissingTerms : laws_FnExactMissingTerms.Pure := by
 intro a b hA hB
 obtain ⟨hn, ⟨htl, _, hts⟩, ⟨hrl, _, hrs⟩, hla, htw⟩ := hA
 obtain ⟨hn2, ⟨htl2, _, hts2⟩, ⟨hrl2, _, hrs2⟩, hla2, htw2⟩ := hB
 obtain ⟨K, hK⟩ : ∃ K, 9000000 < K := ⟨_, Nat.lt_succ_self _⟩
 refine ⟨K + 3, ?_⟩
 unfold laws_FnExactMissingTerms.f
 obtain ⟨t, ht, htc, hto⟩ := szLocale a.f0 a.f1 a.f2 a.f3 a.f4 hn (by omega) hts (by omega) (fun x hx => (hrs x hx).2.2) hla htw (K + 3) 1048576 (by omega) (by omega) (by omega)
 rw [ht, Option.bind_some]
 by_cases g : t < 0
 ·rw [if_pos g]
 ·obtain ⟨u, hu, _, huo⟩ := szLocale b.f0 b.f1 b.f2 b.f3 b.f4 hn2 (by omega) hts2 (by omega) (fun x hx => (hrs2 x hx).2.2) hla2 htw2 (K + 3) t (by omega) (by omega) (by omega)
  rw [if_neg g, hu, Option.bind_some]
  by_cases g2 : u < 0
  ·rw [if_pos g2]
  ·obtain ⟨o1, ⟨o2, o3⟩, ⟨o4, o5⟩, o6, o7⟩ := hto g
   obtain ⟨p1, ⟨p2, p3⟩, ⟨p4, p5⟩, p6, p7⟩ := huo g2
   have ca := fun k hk => toLocale a.f0 a.f1 a.f2 a.f3 a.f4 (by omega) (by omega) k hk
   have cb := fun k hk => toLocale b.f0 b.f1 b.f2 b.f3 b.f4 (by omega) (by omega) k hk
   have la1 : (a.f1.map cT).length ≤ 1048576 := by rw [List.length_map]; omega
   have la2 : (a.f2.map cR).length ≤ 1048576 := by rw [List.length_map]; omega
   have lb1 : (b.f1.map cT).length ≤ 1048576 := by rw [List.length_map]; omega
   have lb2 : (b.f2.map cR).length ≤ 1048576 := by rw [List.length_map]; omega
   have hms := fun k hk => missBoth a.f0 (a.f1.map cT) (a.f2.map cR) a.f3 a.f4 b.f0 (b.f1.map cT) (b.f2.map cR) b.f3 b.f4 o1 (by omega) o3 o5 o6 o7 p1 (by omega) p3 p5 p6 p7 k hk
   have hlen := missR_length a.f0 (a.f1.map cT) (a.f2.map cR) a.f3 a.f4 b.f0 (b.f1.map cT) (b.f2.map cR) b.f3 b.f4
   have qa := fun k hk => eqLocale a.f0 (a.f1.map cT) (a.f2.map cR) a.f3 a.f4 (by omega) (by omega) k hk
   have qb := fun k hk => eqLocale b.f0 (b.f1.map cT) (b.f2.map cR) b.f3 b.f4 (by omega) (by omega) k hk
   obtain ⟨A1, B1, m1⟩ := markLoc a.f0 (a.f1.map cT) (a.f2.map cR) a.f3 a.f4 (by omega) (by omega) 1 (by omega) (K + 2) (by omega)
   obtain ⟨A2, B2, m2⟩ := markLoc b.f0 (b.f1.map cT) (b.f2.map cR) b.f3 b.f4 (by omega) (by omega) (1 + 3 * (a.f1.map cT).length + 3 * (a.f2.map cR).length) (by omega) (K + 2) (by omega)
   generalize missR a.f0 (a.f1.map cT) (a.f2.map cR) a.f3 a.f4 b.f0 (b.f1.map cT) (b.f2.map cR) b.f3 b.f4 = R at *
   have q := fun k hk => eqStrs R.1 (by omega) k hk
   obtain ⟨L, n1, n2⟩ := markHeldStrs R.1 (by omega) (K + 1) (by omega)
   have hb : ∀ b : Bool, (b != b) = false := by intro b; simp
   rw [if_neg g2, ca _ (by omega), Option.bind_some]
   dsimp only
   rw [cb _ (by omega), Option.bind_some]
   dsimp only
   rw [(hms _ (by omega)).1, Option.bind_some, Option.bind_some, Option.bind_some]
   dsimp only
   rw [(hms _ (by omega)).2, Option.bind_some, q _ (by omega), Option.bind_some, if_pos rfl, hb, laws_FnExactMissingTerms.j0, if_neg Bool.false_ne_true, ca _ (by omega), Option.bind_some]
   dsimp only
   rw [qa _ (by omega), Option.bind_some, if_pos rfl, cb _ (by omega), Option.bind_some]
   dsimp only
   rw [qb _ (by omega), Option.bind_some, if_pos rfl]
   rw [show ((1 : Nat) : Int) = 1 from rfl] at m1
   rw [m1, Option.bind_some]
   dsimp only
   rw [m2, Option.bind_some]
   dsimp only
   rw [if_neg (by omega), q _ (by omega), Option.bind_some, if_pos rfl, hb, laws_FnExactMissingTerms.j1, if_neg Bool.false_ne_true, n1, Option.bind_some]
   dsimp only
   rw [n2 _ (by omega), Option.bind_some, if_neg (by omega), if_pos rfl, ca _ (by omega), Option.bind_some]
   dsimp only
   rw [cb _ (by omega), Option.bind_some]
   dsimp only
   rw [(hms _ (by omega)).2, Option.bind_some, q _ (by omega), Option.bind_some, if_pos rfl, hb, laws_FnExactMissingTerms.j2, if_neg Bool.false_ne_true, n2 _ (by omega), Option.bind_some, if_neg (by omega), if_pos rfl]
end Go.Proofs.Ytmkkcpdpfelalaa.Pure
