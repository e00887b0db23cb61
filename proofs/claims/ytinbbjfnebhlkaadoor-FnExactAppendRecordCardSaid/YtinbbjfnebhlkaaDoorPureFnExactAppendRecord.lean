/- For every log and record, the law FnExactAppendRecord answers true: the program's AppendRecord returns what the reference's returns. No conditions beyond the given statement's. -/
import Derived.Test.YtinbbjfnebhlkaaDoorPx1
import Derived.Test.YtinbbjfnebhlkaaDoorPx4
import Derived.Test.YtinbbjfnebhlkaaDoorPx6
import Derived.Test.YtinbbjfnebhlkaaDoorPx7
import Derived.Test.YtinbbjfnebhlkaaDoorLBase
import Derived.Test.YtinbbjfnebhlkaaDoorLLog
import Derived.Test.YtinbbjfnebhlkaaDoorLRec
import Derived.Test.YtinbbjfnebhlkaaDoorLSeal
import Derived.Test.YtinbbjfnebhlkaaDoorLWalk
import Derived.Test.YtinbbjfnebhlkaaDoorLWalks
namespace Go.Proofs.YtinbbjfnebhlkaaDoor.Pure
open Go.RowKit Go.Proofs.YtinbbjfnebhlkaaDoorW.PrintWords Go.Proofs.YtinbbjfnebhlkaaDoorW.PrintLast Go.Proofs.YtinbbjfnebhlkaaDoorW.PrintMore Go.Proofs.YtinbbjfnebhlkaaDoor.P
set_option linter.unusedVariables false
set_option linter.unusedSimpArgs false

theorem appendBoth (D P c r : ByteArray) (n : Int) (hs : D.size + P.size ≤ 1048576) (hc : c.size ≤ 1048576) (hr : r.size ≤ 1048576) (K : Nat) (hK : 2 * (D.size + P.size) + 800 < K) (h1 : c.size < K) (h2 : r.size < K) (h3 : 600 < K) :
    ∃ R, spec_AppendRecord.f (K + 1) D P n c r = some R ∧ impl_AppendRecord.f (K + 1) D P n c r = some R := by
  have eS := specLog D P n hs (K + 1) (Nat.lt_succ_of_lt hK)
  have eI := implLog D P n hs (K + 1) (Nat.lt_succ_of_lt hK)
  have gS := specGood c r (Nat.le_trans hc (by decide)) (Nat.le_trans hr (by decide)) (K + 1) (Nat.lt_succ_of_lt h1) (Nat.lt_succ_of_lt h2)
  have gI := implGood c r (Nat.le_trans hc (by decide)) (Nat.le_trans hr (by decide)) (K + 1) (Nat.lt_succ_of_lt h1) (Nat.lt_succ_of_lt h2)
  have sT : spec_AppendRecord.j0 (K + 1) true D P n c r = some (D, P, n, 1) := by rw [spec_AppendRecord.j0, if_pos rfl]
  have iT : impl_AppendRecord.j0 (K + 1) true D P n c r = some (D, P, n, 1) := by rw [impl_AppendRecord.j0, if_pos rfl]
  unfold spec_AppendRecord.f impl_AppendRecord.f
  rw [eS, eI, Option.bind_some, Option.bind_some]
  cases hl : isLogB D P n with
  | false => exact ⟨_, sT, iT⟩
  | true =>
    rw [if_pos rfl, if_pos rfl, gS, gI, Option.bind_some, Option.bind_some]
    cases hg : goodRec c r with
    | false => exact ⟨_, sT, iT⟩
    | true =>
      have hb : (!true) = false := rfl
      rw [hb, spec_AppendRecord.j0, impl_AppendRecord.j0, if_neg (show ¬ (false = true) by decide), if_neg (show ¬ (false = true) by decide)]
      by_cases h60 : n = 60
      · rw [if_pos h60, if_pos h60]
        exact ⟨_, rfl, rfl⟩
      · have hn : 0 ≤ n ∧ n < 1000000000000000000 := by
          obtain ⟨_, _, b3⟩ := recsB_facts (D ++ P)
          unfold isLogB at hl
          simp only [Bool.and_eq_true, decide_eq_true_eq] at hl
          have := hl.2
          clear eS eI gS gI sT iT hl hs hK
          omega
        obtain ⟨_, g2, g3, _⟩ := goodRec_parts hg
        have hz := recLine_size hn.1 hn.2 hg
        have hk : c.size + r.size + 90 < K := by clear eS eI gS gI sT iT hl hs hK hz; omega
        have lS := specLine n c r (Int.lt_of_lt_of_le (by decide) hn.1) hn.2 hc (Nat.le_trans g3 (by decide)) (by clear eS eI gS gI sT iT hl hs hK hz; omega) K hk
        have lI := implLine n c r hn.1 hn.2 hg K hk
        have hp : P.size + (recLine n c r).size ≤ 9223372036854775807 := by clear eS eI gS gI sT iT hl hK lS lI; omega
        rw [if_neg h60, if_neg h60, lS, lI, Option.bind_some, if_pos hp]
        exact ⟨_, rfl, rfl⟩
theorem szRec (c r : ByteArray) (m : Int) (hm : m ≤ 1048576) (h0 : 0 ≤ m) (hc : c.size ≤ 140737488351232) (hr : r.size ≤ 140737488351232) : ∃ t, laws_szLogRecord.f c r m = some t ∧ (¬ t < 0 → c.size + r.size ≤ 1048576) := by
  unfold laws_szLogRecord.f
  rw [w64 (x := m - (c.size : Int)) (by omega) (by omega)]
  split
  · exact ⟨_, rfl, fun h => absurd (by omega) h⟩
  · rw [w64 (by omega) (by omega)]
    split
    · exact ⟨_, rfl, fun h => absurd (by omega) h⟩
    · exact ⟨_, rfl, fun _ => by omega⟩
theorem szLog2 (D P : ByteArray) (c : Int) (hD : D.size ≤ 140737488351232) (hP : P.size ≤ 140737488351232) : ∃ t, laws_szLog.f D P c 1048576 = some t ∧ t ≤ 1048576 ∧ (¬ t < 0 → D.size + P.size ≤ 1048576) := by
  unfold laws_szLog.f
  rw [w64 (x := 1048576 - (D.size : Int)) (by omega) (by omega)]
  split
  · exact ⟨_, rfl, by omega, fun h => absurd (by omega) h⟩
  · rw [w64 (by omega) (by omega)]
    split
    · exact ⟨_, rfl, by omega, fun h => absurd (by omega) h⟩
    · exact ⟨_, rfl, by omega, fun _ => by omega⟩
theorem FnExactAppendRecord : laws_FnExactAppendRecord.Pure := by
  intro a e hB hE
  obtain ⟨hD, hP, _⟩ := hB
  obtain ⟨hC, hR⟩ := hE
  obtain ⟨t, ht, htm, hsz⟩ := szLog2 a.f0 a.f1 a.f2 hD hP
  obtain ⟨K, hK⟩ : ∃ K, 2 * (a.f0.size + a.f1.size) + 800 + e.f0.size + e.f1.size < K := ⟨_, Nat.lt_succ_self _⟩
  refine ⟨K + 1, ?_⟩
  unfold laws_FnExactAppendRecord.f
  rw [ht, Option.bind_some]
  by_cases hneg : t < 0
  · rw [if_pos hneg]
  · have hs := hsz hneg
    obtain ⟨t2, ht2, hsz2⟩ := szRec e.f0 e.f1 t htm (by omega) hC hR
    rw [if_neg hneg, ht2, Option.bind_some]
    by_cases hneg2 : t2 < 0
    · rw [if_pos hneg2]
    · have hs2 := hsz2 hneg2
      obtain ⟨R, eS, eI⟩ := appendBoth a.f0 a.f1 e.f0 e.f1 a.f2 hs (by omega) (by omega) K (by omega) (by omega) (by omega) (by omega)
      have eE : laws_eqLog.f R.1 R.2.1 R.2.2.1 R.1 R.2.1 R.2.2.1 = some true := by
        unfold laws_eqLog.f
        rw [if_pos rfl, if_pos rfl, if_pos rfl]
      have eT : laws_toLog.f a.f0 a.f1 a.f2 = some (a.f0, a.f1, a.f2) := rfl
      have eU : laws_toLogRecord.f e.f0 e.f1 = some (e.f0, e.f1) := rfl
      rw [if_neg hneg2, eT, Option.bind_some, eU, Option.bind_some, eS, Option.bind_some, Option.bind_some, Option.bind_some, eI, Option.bind_some, eE, Option.bind_some, if_pos rfl, if_pos rfl]

end Go.Proofs.YtinbbjfnebhlkaaDoor.Pure
