/- For every draw, the law FnLogLines answers true: an encoded record is accepted only at the position of its sequence number, and a recovered log is a fixed point of SyncLog. No conditions beyond the given statement's. -/
import Derived.Test.YtinbbjfnebhlkaaDoorZPx14
import Derived.Test.YtinbbjfnebhlkaaDoorZPx8
import Derived.Test.YtinbbjfnebhlkaaDoorZLDraw
import Derived.Test.YtinbbjfnebhlkaaDoorZLLogB
import Derived.Test.YtinbbjfnebhlkaaDoorZLLogD
import Derived.Test.YtinbbjfnebhlkaaDoorZLLogDraw3
import Derived.Test.YtinbbjfnebhlkaaDoorZLLogE
import Derived.Test.YtinbbjfnebhlkaaDoorZLLogEnc
import Derived.Test.YtinbbjfnebhlkaaDoorZLLogOps
import Derived.Test.YtinbbjfnebhlkaaDoorZLRec
import Derived.Test.YtinbbjfnebhlkaaDoorZLSeal
import Derived.Test.YtinbbjfnebhlkaaDoorZLWalks
namespace Go.Proofs.YtinbbjfnebhlkaaDoor.Pure
open Go.RowKit Go.Proofs.YtinbbjfnebhlkaaDoorW.PrintWords Go.Proofs.YtinbbjfnebhlkaaDoorW.PrintLast Go.Proofs.YtinbbjfnebhlkaaDoorW.PrintMore Go.Proofs.YtinbbjfnebhlkaaDoor.P
set_option linter.unusedVariables false
set_option linter.unusedSimpArgs false
theorem lines_j1 (k : Nat) (hk : 100000 < k) (t : ByteArray) (ok : Bool) (ht : ok = false → t = (⟨#[]⟩ : ByteArray)) (s : ByteArray) :
  laws_FnLogLines.j1 (k + 1) t ok (recR s).2.2.2.2 false (recR s).1 (recR s).2.1 (recR s).2.2.1 = some true := by
 obtain ⟨h1, h2, h3⟩ := recR_fix s
 generalize recR s = R at *
 have e0 : (⟨#[]⟩ : ByteArray).size = 0 := rfl
 have hS := implSync R.1 (⟨#[]⟩ : ByteArray) R.2.2.1 (by omega) k (by omega)
 have hI := implLog R.1 (⟨#[]⟩ : ByteArray) R.2.2.1 (by omega) k (by omega)
 rw [laws_FnLogLines.j1, if_neg Bool.false_ne_true, h1, hS, Option.bind_some]
 by_cases htold : R.2.2.2.2 = true
 ·have h4 := h3 htold
  have hR : syncR R.1 (⟨#[]⟩ : ByteArray) R.2.2.1 = (R.1, (⟨#[]⟩ : ByteArray), R.2.2.1, true) := by
   unfold syncR
   rw [if_pos h4, empty_append]
  have hq : ((R.1.toList == R.1.toList) && (((⟨#[]⟩ : ByteArray).toList == (⟨#[]⟩ : ByteArray).toList) && (R.2.2.1 == R.2.2.1))) = true := by simp
  rw [if_pos htold, hR]
  dsimp only
  rw [if_pos rfl, if_pos hq, hI, h4, Option.bind_some, if_pos rfl]
  cases ok with
  | true => rfl
  | false =>
   rw [ht rfl, if_neg Bool.false_ne_true]
   have : (⟨#[]⟩ : ByteArray).toList = [] := (toList_empty _).2 rfl
   rw [this]
   rfl
 ·rw [if_neg htold]
theorem lines_j0 (k : Nat) (hk : 100000 < k) (n : Int) (c r : ByteArray) (s : ByteArray) :
  laws_FnLogLines.j0 (k + 2) n (encR n c r).1 (encR n c r).2 (recR s).2.2.2.2 false (recR s).1 (recR s).2.1 (recR s).2.2.1 = some true := by
 rw [laws_FnLogLines.j0, if_neg Bool.false_ne_true, implRecov _ (k + 1) (by omega), Option.bind_some]
 unfold encR
 by_cases hc : 0 ≤ n ∧ n ≤ 59 ∧ goodRec c r = true
 ·obtain ⟨a1, a2⟩ := recR_alone hc.1 hc.2.1 hc.2.2
  rw [if_pos hc]
  dsimp only
  rw [if_pos rfl]
  have hj := lines_j1 k hk (recLine n c r) true (fun h => by cases h) s
  by_cases hn : n = 0
  ·obtain ⟨a3, a4⟩ := a1 hn
   have e1 : decide ((recR (recLine n c r)).2.2.2.1 > 0) = true := decide_eq_true a4
   have e2 : (n == 0) = true := beq_iff_eq.2 hn
   have e3 : ¬ ((true != true) = true) := by simp
   have e4 : ((recR (recLine n c r)).2.2.1 != 1) = false := by rw [a3]; rfl
   rw [e1, e2, if_neg e3, if_pos hn, e4]
   exact hj
  ·have a5 := a2 hn
   have e1 : decide ((recR (recLine n c r)).2.2.2.1 > 0) = false := decide_eq_false (by omega)
   have e2 : (n == 0) = false := beq_eq_false_iff_ne.2 hn
   have e3 : ¬ ((false != false) = true) := by simp
   rw [e1, e2, if_neg e3, if_neg hn]
   exact hj
 ·rw [if_neg hc]
  dsimp only
  rw [if_neg Bool.false_ne_true]
  exact lines_j1 k hk (⟨#[]⟩ : ByteArray) false (fun _ => rfl) s
theorem FnLogLines : laws_FnLogLines.Pure := by
 intro l hB
 obtain ⟨_, _, hw⟩ := hB
 have hb := byt_of hw
 obtain ⟨K, hK⟩ : ∃ K, 200000 < K := ⟨_, Nat.lt_succ_self _⟩
 refine ⟨K + 2, ?_⟩
 have hv : laws_vBig.f l = some (decide ((l.length : Int) > 65536)) := rfl
 unfold laws_FnLogLines.f
 rw [hv, Option.bind_some]
 generalize decide ((l.length : Int) > 65536) = b
 by_cases hbt : b = true
 ·rw [if_pos hbt]
 ·obtain ⟨R, hR, z1, z2⟩ := drawEnc_t hb
  obtain ⟨s, hs, _⟩ := drawRec_t hb (K + 2) (by omega)
  obtain ⟨n, c, r⟩ := R
  dsimp only at z1 z2
  obtain ⟨eS, eI⟩ := encBoth n c r (by omega) (by omega) (K + 2) (by omega)
  have rI := implRecov s (K + 2) (by omega)
  have rS := specRecov s (K + 2) (by omega)
  have hj := lines_j0 K (by omega) n c r s
  rw [if_neg hbt, hR, Option.bind_some]
  dsimp only
  rw [eI, Option.bind_some, eS, Option.bind_some, hs, Option.bind_some, rI, Option.bind_some, rS, Option.bind_some]
  generalize recR s = Q at *
  generalize encR n c r = E at *
  have n2 : ¬ ((E.2 != E.2) = true) := by simp
  have n1 : ¬ ((!(Q.1.toList == Q.1.toList) || (!(Q.2.1.toList == Q.2.1.toList) || (!(Q.2.2.1 == Q.2.2.1)))) = true) := by simp
  have n3 : (Q.2.2.2.2 != Q.2.2.2.2) = false := by simp
  rw [if_pos rfl, if_neg n2, if_neg n1, if_pos rfl, n3]
  exact hj
end Go.Proofs.YtinbbjfnebhlkaaDoor.Pure
