/- Appending a record to a log: what the program and the reference compute is one plain function, for logs of at most 1048576 bytes and records of at most 1048576 bytes in each part. -/
import Derived.Test.YtinbbjfnebhlkaaDoorZPx0
import Derived.Test.YtinbbjfnebhlkaaDoorZPx8
import Derived.Test.YtinbbjfnebhlkaaDoorZLBase
import Derived.Test.YtinbbjfnebhlkaaDoorZLLog
import Derived.Test.YtinbbjfnebhlkaaDoorZLLogCat
import Derived.Test.YtinbbjfnebhlkaaDoorZLRec
import Derived.Test.YtinbbjfnebhlkaaDoorZLSeal
import Derived.Test.YtinbbjfnebhlkaaDoorZLWalk
import Derived.Test.YtinbbjfnebhlkaaDoorZLWalks
namespace Go.Proofs.YtinbbjfnebhlkaaDoor.P
open Go.RowKit Go.Proofs.YtinbbjfnebhlkaaDoorW.PrintWords Go.Proofs.YtinbbjfnebhlkaaDoorW.PrintLast Go.Proofs.YtinbbjfnebhlkaaDoorW.PrintMore
set_option linter.unusedVariables false
set_option linter.unusedSimpArgs false
def appR (D P : ByteArray) (n : Int) (c r : ByteArray) : ByteArray × ByteArray × Int × Int :=
 if isLogB D P n = true then (if goodRec c r = true then (if n = 60 then (D, P, n, 2) else (D, P ++ recLine n c r, n + 1, 0)) else (D, P, n, 1)) else (D, P, n, 1)
theorem isLog_parts {D P : ByteArray} {n : Int} (h : isLogB D P n = true) :
  ∃ l, goodL l ∧ l.length ≤ 60 ∧ (D ++ P).data.toList = catL l 0 ∧ n = (l.length : Int) ∧ endB (recsB D) 0 = D.size ∧ D.size + P.size ≤ 24120 := by
 unfold isLogB at h
 simp only [Bool.and_eq_true, decide_eq_true_eq] at h
 obtain ⟨⟨h1, h2⟩, h3⟩ := h
 have hz : (D ++ P).size = D.size + P.size := ByteArray.size_append
 obtain ⟨b1, _, _⟩ := recsB_facts (D ++ P)
 obtain ⟨l, g1, g2, g3, g4⟩ := recs_whole (s := D ++ P) (by rw [h1, hz])
 refine ⟨l, g1, g3, g4, ?_, h2, by omega⟩
 rw [← h3, g2, endsL_length]
theorem isLog_of {D P : ByteArray} {l : List S27} (hg : goodL l) (hl : l.length ≤ 60) (h : (D ++ P).data.toList = catL l 0) (hD : endB (recsB D) 0 = D.size) : isLogB D P (l.length : Int) = true := by
 obtain ⟨_, h2, h3, _⟩ := recs_cat hg hl h
 have hz : (D ++ P).size = D.size + P.size := ByteArray.size_append
 unfold isLogB
 rw [h2, h3, hz, hD]
 simp
theorem specApp (D P c r : ByteArray) (n : Int) (hs : D.size + P.size ≤ 1048576) (hc : c.size ≤ 1048576) (hr : r.size ≤ 1048576) (K : Nat) (hK : 2 * (D.size + P.size) + 800 < K) (h1 : c.size < K) (h2 : r.size < K) :
  spec_AppendRecord.f (K + 1) D P n c r = some (appR D P n c r) := by
 have eS := specLog D P n hs (K + 1) (Nat.lt_succ_of_lt hK)
 have gS := specGood c r (Nat.le_trans hc (by decide)) (Nat.le_trans hr (by decide)) (K + 1) (Nat.lt_succ_of_lt h1) (Nat.lt_succ_of_lt h2)
 have sT : spec_AppendRecord.j0 (K + 1) true D P n c r = some (D, P, n, 1) := by rw [spec_AppendRecord.j0, if_pos rfl]
 unfold spec_AppendRecord.f appR
 rw [eS, Option.bind_some]
 cases hl : isLogB D P n with
 | false => exact sT
 | true =>
  rw [if_pos rfl, gS, Option.bind_some, if_pos rfl]
  cases hg : goodRec c r with
  | false => exact sT
  | true =>
   have hb : (!true) = false := rfl
   rw [hb, spec_AppendRecord.j0, if_neg (show ¬ (false = true) by decide), if_pos rfl]
   by_cases h60 : n = 60
   ·rw [if_pos h60, if_pos h60]
   ·have hn : 0 ≤ n ∧ n ≤ 60 := by
     obtain ⟨l, _, q1, _, q2, _⟩ := isLog_parts hl
     clear eS gS sT hl hs hK
     omega
    obtain ⟨_, g2, g3, _⟩ := goodRec_parts hg
    have hn1 : n < 1000000000000000000 := by clear eS gS sT hl hs hK; omega
    have hz := recLine_size hn.1 hn1 hg
    have hk : c.size + r.size + 90 < K := by clear eS gS sT hl hs hz; omega
    have lS := specLine n c r (Int.lt_of_lt_of_le (by decide) hn.1) hn1 hc (Nat.le_trans g3 (by decide)) (by clear eS gS sT hl hs hK hz; omega) K hk
    have hp : P.size + (recLine n c r).size ≤ 9223372036854775807 := by clear eS gS sT hl hK lS; omega
    have hw : wrap64 (n + 1) = n + 1 := w64 (by clear eS gS sT hl hK lS; omega) (by clear eS gS sT hl hK lS; omega)
    rw [if_neg h60, if_neg h60, lS, Option.bind_some, if_pos hp, hw]
theorem appR_size (D P c r : ByteArray) (n : Int) : (appR D P n c r).1 = D ∧ (appR D P n c r).2.1.size ≤ P.size + 402 := by
 unfold appR
 split
 ·rename_i hl
  split
  ·rename_i hg
   split
   ·exact ⟨rfl, by simp⟩
   ·refine ⟨rfl, ?_⟩
    obtain ⟨l, _, q1, _, q2, _⟩ := isLog_parts hl
    have hz := recLine_size (n := n) (by omega) (by omega) hg
    show (P ++ recLine n c r).size ≤ _
    rw [ByteArray.size_append]
    omega
  ·exact ⟨rfl, by simp⟩
 ·exact ⟨rfl, by simp⟩
end Go.Proofs.YtinbbjfnebhlkaaDoor.P
