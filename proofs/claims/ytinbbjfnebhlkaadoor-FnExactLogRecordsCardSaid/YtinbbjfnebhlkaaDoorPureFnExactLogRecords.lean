/- For every log, the law FnExactLogRecords answers true: the program's LogRecords returns what the reference's returns, and what it returns belongs to the caller alone. No conditions beyond the given statement's. -/
import Derived.Test.YtinbbjfnebhlkaaDoorPx0
import Derived.Test.YtinbbjfnebhlkaaDoorPx1
import Derived.Test.YtinbbjfnebhlkaaDoorPx3
import Derived.Test.YtinbbjfnebhlkaaDoorPx5
import Derived.Test.YtinbbjfnebhlkaaDoorPx7
import Derived.Test.YtinbbjfnebhlkaaDoorLMark
import Derived.Test.YtinbbjfnebhlkaaDoorLWalk
import Derived.Test.YtinbbjfnebhlkaaDoorLWalks
namespace Go.Proofs.YtinbbjfnebhlkaaDoor.Pure
open Go.RowKit Go.Proofs.YtinbbjfnebhlkaaDoorW.PrintWords Go.Proofs.YtinbbjfnebhlkaaDoorW.PrintLast Go.Proofs.YtinbbjfnebhlkaaDoorW.PrintMore Go.Proofs.YtinbbjfnebhlkaaDoor.P
set_option linter.unusedVariables false
set_option linter.unusedSimpArgs false

theorem specRecs (D P : ByteArray) (c : Int) (hs : D.size + P.size ≤ 1048576) (k : Nat) (hk : 2 * (D.size + P.size) + 800 < k) : spec_LogRecords.f k D P c = some (if isLogB D P c = true then ((recsB (D ++ P)).map (fun x => x.1), true) else ([], false)) := by
  have hz : (D ++ P).size = D.size + P.size := ByteArray.size_append
  obtain ⟨b1, _, _⟩ := recsB_facts (D ++ P)
  unfold spec_LogRecords.f
  rw [specLog D P c hs k hk]
  simp only [Option.bind_some]
  cases hl : isLogB D P c with
  | false => rfl
  | true =>
    have : endB (recsB (D ++ P)) 0 = D.size + P.size := by
      unfold isLogB at hl
      simp only [Bool.and_eq_true, decide_eq_true_eq] at hl
      exact hl.1.1
    rw [if_pos rfl, if_pos (by omega), specOpen (D ++ P) (by omega) k (by omega)]
    rfl
theorem implRecs (D P : ByteArray) (c : Int) (hs : D.size + P.size ≤ 1048576) (k : Nat) (hk : 2 * (D.size + P.size) + 800 < k) : impl_LogRecords.f k D P c = some (if isLogB D P c = true then ((recsB (D ++ P)).map (fun x => x.1), true) else ([], false)) := by
  have hz : (D ++ P).size = D.size + P.size := ByteArray.size_append
  unfold impl_LogRecords.f
  rw [implLog D P c hs k hk]
  simp only [Option.bind_some]
  cases hl : isLogB D P c with
  | false => rfl
  | true =>
    rw [if_pos rfl, if_pos (by omega), implRecords (D ++ P) (by omega) k (by omega)]
    rfl
theorem FnExactLogRecords : laws_FnExactLogRecords.Pure := by
  intro a hB
  obtain ⟨hD, hP, _⟩ := hB
  obtain ⟨K, hK⟩ : ∃ K, 2 * (a.f0.size + a.f1.size) + 1000 < K := ⟨_, Nat.lt_succ_self _⟩
  refine ⟨K + 1 + 1, ?_⟩
  obtain ⟨t, ht, hsz⟩ := szLog a.f0 a.f1 a.f2 hD hP
  unfold laws_FnExactLogRecords.f
  rw [ht]
  simp only [Option.bind_some]
  by_cases hneg : t < 0
  · rw [if_pos hneg]
  · have hs := hsz hneg
    obtain ⟨_, _, b3⟩ := recsB_facts (a.f0 ++ a.f1)
    rw [if_neg hneg]
    have eS := specRecs a.f0 a.f1 a.f2 hs (K + 1 + 1) (by omega)
    have eI := implRecs a.f0 a.f1 a.f2 hs (K + 1 + 1) (by omega)
    have eI2 := implRecs a.f0 a.f1 a.f2 hs (K + 1) (by omega)
    obtain ⟨R, hR⟩ : ∃ R : List S27 × Bool, (if isLogB a.f0 a.f1 a.f2 = true then ((recsB (a.f0 ++ a.f1)).map (fun x => x.1), true) else ([], false)) = R := ⟨_, rfl⟩
    have hRl : R.1.length ≤ 60 := by
      rw [← hR]
      split
      · simpa using b3
      · simp
    rw [hR] at eS eI eI2
    clear hR b3
    obtain ⟨L, m1, m2, m3⟩ := markHeld R.1 (by omega) (K + 1) (by omega)
    have q1 := eqRecs R.1 (by omega) (K + 1 + 1) (by omega)
    have q2 := eqRecs R.1 (by omega) (K + 1) (by omega)
    have hb : (R.2 != R.2) = false := bne_eq_false_iff_eq.2 rfl
    have m4 := m3 (K + 1) (by omega)
    have m5 := m3 K (by omega)
    have j1 : laws_FnExactLogRecords.j1 (K + 1) L ((1 + 2 * R.1.length : Nat) : Int) false = some true := by
      rw [laws_FnExactLogRecords.j1, if_neg (by simp), m5, Option.bind_some, if_neg (by omega), if_pos rfl]
    have j0 : laws_FnExactLogRecords.j0 (K + 1 + 1) R.1 R.2 R.1 false a.f0 a.f1 a.f2 = some true := by
      rw [laws_FnExactLogRecords.j0, if_neg (by simp), m1, Option.bind_some, m4, Option.bind_some, if_neg (by omega), if_pos rfl, show laws_toLog.f a.f0 a.f1 a.f2 = some (a.f0, a.f1, a.f2) from rfl, Option.bind_some, eI2, Option.bind_some, q2, Option.bind_some, if_pos rfl, hb, j1]
    rw [show laws_toLog.f a.f0 a.f1 a.f2 = some (a.f0, a.f1, a.f2) from rfl, Option.bind_some, eS, Option.bind_some, Option.bind_some, eI, Option.bind_some, q1, Option.bind_some, if_pos rfl, hb, j0]

end Go.Proofs.YtinbbjfnebhlkaaDoor.Pure
