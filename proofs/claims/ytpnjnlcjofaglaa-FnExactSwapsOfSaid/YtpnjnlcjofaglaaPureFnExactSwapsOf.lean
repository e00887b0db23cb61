/- For every kind and string, the law FnExactSwapsOf answers true: the program's SwapsOf returns what the reference's returns, and what it returns belongs to the caller alone. No conditions beyond the given statement's. -/
import Derived.Test.YtpnjnlcjofaglaaPx4
import Derived.Test.YtpnjnlcjofaglaaLInts
import Derived.Test.YtpnjnlcjofaglaaLSwaps
namespace Go.Proofs.Ytpnjnlcjofaglaa.Pure
open Go.RowKit Go.Proofs.YtpnjnlcjofaglaaW.PrintWords Go.Proofs.YtpnjnlcjofaglaaW.PrintLast Go.Proofs.YtpnjnlcjofaglaaW.PrintMore Go.Proofs.Ytpnjnlcjofaglaa.P
set_option linter.unusedVariables false
set_option linter.unusedSimpArgs false

theorem FnExactSwapsOf : laws_FnExactSwapsOf.Pure := by
  intro kind s _ _
  obtain ⟨K, hK⟩ : ∃ K, 2 * s.size + 200 < K := ⟨_, Nat.lt_succ_self _⟩
  refine ⟨K + 2, ?_⟩
  unfold laws_FnExactSwapsOf.f
  by_cases hbig : (s.size : Int) > 1048576
  · rw [if_pos hbig]
  · rw [if_neg hbig]
    have hs : s.size ≤ 1048576 := by omega
    obtain ⟨eS, eI⟩ := swapsBoth kind s hs (K + 2) (by omega)
    obtain ⟨_, eI2⟩ := swapsBoth kind s hs (K + 1) (by omega)
    have hlen : (swapsR kind s).1.length ≤ s.size := by
      unfold swapsR
      split
      · have := swapsL_length kind s (s.size - 1) 0
        show (swapsL kind s 0 (s.size - 1)).length ≤ _
        omega
      · exact Nat.zero_le _
    generalize swapsR kind s = R at *
    have q1 := eqInts R.1 (by omega) (K + 2) (by omega)
    have q2 := eqInts R.1 (by omega) (K + 1) (by omega)
    obtain ⟨L, m1, m2⟩ := markHeldInts R.1 (by omega) (K + 1) (by omega)
    have m3 := m2 (K + 1) (by omega)
    have m4 := m2 K (by omega)
    have hb : (R.2 != R.2) = false := by simp
    have g1 : ¬ (((1 + R.1.length : Nat) : Int) < 0) := by omega
    have j1 : laws_FnExactSwapsOf.j1 (K + 1) L ((1 + R.1.length : Nat) : Int) false = some true := by
      rw [laws_FnExactSwapsOf.j1, if_neg Bool.false_ne_true, m4, Option.bind_some, if_neg g1, if_pos rfl]
    rw [eS, Option.bind_some, eI, Option.bind_some, q1, Option.bind_some, if_pos rfl, hb, laws_FnExactSwapsOf.j0, if_neg Bool.false_ne_true, m1, Option.bind_some]
    dsimp only
    rw [m3, Option.bind_some, if_neg g1, if_pos rfl, eI2, Option.bind_some, q2, Option.bind_some, if_pos rfl, hb]
    exact j1

end Go.Proofs.Ytpnjnlcjofaglaa.Pure
