/- What an appended record does to a log: the log's records, and what is recovered and synchronized. Conditions: those of each lemma. -/
import Derived.Test.YtinbbjfnebhlkaaDoorZPx0
import Derived.Test.YtinbbjfnebhlkaaDoorZLBase
import Derived.Test.YtinbbjfnebhlkaaDoorZLLog
import Derived.Test.YtinbbjfnebhlkaaDoorZLLogA
import Derived.Test.YtinbbjfnebhlkaaDoorZLLogB
import Derived.Test.YtinbbjfnebhlkaaDoorZLLogCat
import Derived.Test.YtinbbjfnebhlkaaDoorZLLogD
import Derived.Test.YtinbbjfnebhlkaaDoorZLLogF
import Derived.Test.YtinbbjfnebhlkaaDoorZLNum
import Derived.Test.YtinbbjfnebhlkaaDoorZLRec
import Derived.Test.YtinbbjfnebhlkaaDoorZLSeal
import Derived.Test.YtinbbjfnebhlkaaDoorZLWalk
import Derived.Test.YtinbbjfnebhlkaaDoorZLWalks
namespace Go.Proofs.YtinbbjfnebhlkaaDoor.P
open Go.RowKit Go.Proofs.YtinbbjfnebhlkaaDoorW.PrintWords Go.Proofs.YtinbbjfnebhlkaaDoorW.PrintLast Go.Proofs.YtinbbjfnebhlkaaDoorW.PrintMore
set_option linter.unusedVariables false
set_option linter.unusedSimpArgs false
theorem appR_ok {D P c r : ByteArray} {n : Int} (h : (appR D P n c r).2.2.2 = 0) : isLogB D P n = true ∧ goodRec c r = true ∧ n ≠ 60 ∧ appR D P n c r = (D, P ++ recLine n c r, n + 1, 0) := by
 unfold appR at h ⊢
 by_cases hl : isLogB D P n = true
 ·rw [if_pos hl] at h ⊢
  by_cases hg : goodRec c r = true
  ·rw [if_pos hg] at h ⊢
   by_cases hn : n = 60
   ·rw [if_pos hn] at h
    simp at h
   ·rw [if_neg hn]
    exact ⟨hl, hg, hn, rfl⟩
  ·rw [if_neg hg] at h
   simp at h
 ·rw [if_neg hl] at h
  simp at h
theorem appR_no {D P c r : ByteArray} {n : Int} (h : ¬ (appR D P n c r).2.2.2 = 0) : (appR D P n c r).1 = D ∧ (appR D P n c r).2.1 = P ∧ (appR D P n c r).2.2.1 = n := by
 unfold appR at h ⊢
 by_cases hl : isLogB D P n = true
 ·rw [if_pos hl] at h ⊢
  by_cases hg : goodRec c r = true
  ·rw [if_pos hg] at h ⊢
   by_cases hn : n = 60
   ·rw [if_pos hn]
    exact ⟨rfl, rfl, rfl⟩
   ·rw [if_neg hn] at h
    simp at h
  ·rw [if_neg hg]
   exact ⟨rfl, rfl, rfl⟩
 ·rw [if_neg hl]
  exact ⟨rfl, rfl, rfl⟩
theorem recR_whole {s : ByteArray} {l : List S27} (hg : goodL l) (hl : l.length ≤ 60) (h : s.data.toList = catL l 0) : recR s = (s, (⟨#[]⟩ : ByteArray), (l.length : Int), ((s.size : Nat) : Int), true) := by
 obtain ⟨_, h2, h3, _⟩ := recs_cat hg hl h
 obtain ⟨b1, _, _⟩ := recsB_facts s
 unfold recR
 rw [if_neg (by omega), h2, h3]
 have : s.extract 0 s.size = s := bytes_eq (by rw [extract_zero_toL, size_data, List.take_length])
 rw [this]
theorem app_facts {D P c r : ByteArray} {n : Int} (hl : isLogB D P n = true) (hg : goodRec c r = true) (hn : n ≠ 60) :
  ∃ l : List S27, l.length < 60 ∧ recsR D P n = (l, true) ∧ n = (l.length : Int) ∧ isLogB D (P ++ recLine n c r) (n + 1) = true ∧ recsR D (P ++ recLine n c r) (n + 1) = (l ++ [⟨c, r⟩], true) ∧
   recR (D ++ (P ++ recLine n c r)) = (D ++ (P ++ recLine n c r), (⟨#[]⟩ : ByteArray), n + 1, (((D ++ (P ++ recLine n c r)).size : Nat) : Int), true) ∧
   syncR D (P ++ recLine n c r) (n + 1) = (D ++ (P ++ recLine n c r), (⟨#[]⟩ : ByteArray), n + 1, true) ∧ D.size + (P ++ recLine n c r).size ≤ 24522 := by
 obtain ⟨l, g1, g2, g3, g4, g5, g6⟩ := isLog_parts hl
 subst g4
 have hlt : l.length < 60 := by omega
 have hgl : goodL (l ++ [⟨c, r⟩]) := by
  intro x hx
  rcases List.mem_append.1 hx with hx | hx
  ·exact g1 x hx
  ·obtain rfl := List.mem_singleton.1 hx
   exact hg
 have hcat : (D ++ (P ++ recLine (l.length : Int) c r)).data.toList = catL (l ++ [⟨c, r⟩]) 0 := by
  rw [← ByteArray.append_assoc, toL_append, g3, catL_append, Nat.zero_add, catL, catL, List.append_nil]
 have hlen : (l ++ [(⟨c, r⟩ : S27)]).length = l.length + 1 := by simp
 have hll : (l ++ [(⟨c, r⟩ : S27)]).length ≤ 60 := by omega
 have hL := isLog_of hgl hll hcat g5
 have hi : (((l ++ [(⟨c, r⟩ : S27)]).length : Nat) : Int) = (l.length : Int) + 1 := by omega
 rw [hi] at hL
 obtain ⟨_, _, _, r4⟩ := recs_cat hgl hll hcat
 obtain ⟨_, _, _, r0⟩ := recs_cat g1 g2 g3
 have hR := recR_whole hgl hll hcat
 rw [hi] at hR
 have hz := recLine_size (n := (l.length : Int)) (by omega) (by omega) hg
 refine ⟨l, hlt, ?_, rfl, hL, ?_, hR, ?_, by rw [ByteArray.size_append]; omega⟩
 ·unfold recsR; rw [if_pos hl, r0]
 ·unfold recsR; rw [if_pos hL, r4]
 ·unfold syncR; rw [if_pos hL]
end Go.Proofs.YtinbbjfnebhlkaaDoor.P
