/- For every draw, the law FnCrashRecovery answers true: recovery after a crash returns all durable records and a prefix of the pending ones. No conditions beyond the given statement's. -/
import Derived.Test.YtinbbjfnebhlkaaDoorZPx0
import Derived.Test.YtinbbjfnebhlkaaDoorZPx11
import Derived.Test.YtinbbjfnebhlkaaDoorZPx7
import Derived.Test.YtinbbjfnebhlkaaDoorZLBase
import Derived.Test.YtinbbjfnebhlkaaDoorZLDraw
import Derived.Test.YtinbbjfnebhlkaaDoorZLLogCat
import Derived.Test.YtinbbjfnebhlkaaDoorZLLogCrash
import Derived.Test.YtinbbjfnebhlkaaDoorZLLogD
import Derived.Test.YtinbbjfnebhlkaaDoorZLLogDraw4
import Derived.Test.YtinbbjfnebhlkaaDoorZLLogF
import Derived.Test.YtinbbjfnebhlkaaDoorZLLogG
import Derived.Test.YtinbbjfnebhlkaaDoorZLRec
import Derived.Test.YtinbbjfnebhlkaaDoorZLWalks
namespace Go.Proofs.YtinbbjfnebhlkaaDoor.Pure
open Go.RowKit Go.Proofs.YtinbbjfnebhlkaaDoorW.PrintWords Go.Proofs.YtinbbjfnebhlkaaDoorW.PrintLast Go.Proofs.YtinbbjfnebhlkaaDoorW.PrintMore Go.Proofs.YtinbbjfnebhlkaaDoor.P
set_option linter.unusedVariables false
set_option linter.unusedSimpArgs false
theorem crash_l0 (s D : ByteArray) (e n : Int) (l l' : List S27) (hl : l.length ≤ 60) (hle : l'.length ≤ l.length) (hr : ∀ i : Nat, i < l'.length → rd_T27 l' (i : Int) = rd_T27 l (i : Int)) (he0 : 0 ≤ e) (he1 : e ≤ (s.size : Int)) (hD : D = s.extract 0 e.toNat) (hv : ∀ k', 70000 < k' → impl_IsValidLog.f k' D (⟨#[]⟩ : ByteArray) n = some true) (d : Nat) :
  ∀ (k i : Nat), l'.length - i = d → 70001 + d < k → i ≤ l'.length → laws_FnCrashRecovery.l0 k s e l' l (i : Int) D (⟨#[]⟩ : ByteArray) n = some true := by
 induction d with
 | zero =>
  intro k i hd hk hi
  obtain ⟨k, rfl⟩ := succ_of hk
  rw [laws_FnCrashRecovery.l0, if_neg (by omega), hv k (by omega), Option.bind_some, if_pos rfl, if_pos he0, if_pos he1, hD]
  simp
 | succ d ih =>
  intro k i hd hk hi
  obtain ⟨k, rfl⟩ := succ_of hk
  have hlt : i < l'.length := by omega
  rw [laws_FnCrashRecovery.l0, if_pos (by omega), if_pos (by omega), if_pos (by omega), hr i hlt, w64_succ hlt (by omega)]
  have h1 : ¬ ((!((rd_T27 l (i : Int)).f0.toList == (rd_T27 l (i : Int)).f0.toList) || (!((rd_T27 l (i : Int)).f1.toList == (rd_T27 l (i : Int)).f1.toList))) = true) := by simp
  rw [if_neg h1]
  exact ih k (i + 1) (by omega) (by omega) (by omega)
theorem crash_j0 (K : Nat) (hK : 200000 < K) (D P : ByteArray) (n : Int) (hs : D.size + P.size ≤ 7000) (hl : isLogB D P n = true) (m : Nat) (hm : m ≤ P.size) (b : Bool) :
  laws_FnCrashRecovery.j0 (K + 3) (D ++ tornB (P.extract 0 m) b) true false D P n = some true := by
 obtain ⟨l, l', rest, q1, q2, q3, q4, q5, q6, q7, q8⟩ := crash_recs hl m hm b
 have hz : (D ++ tornB (P.extract 0 m) b).size ≤ 7000 := by
  rw [ByteArray.size_append, tornB_le, ByteArray.size_extract]
  omega
 generalize D ++ tornB (P.extract 0 m) b = s at *
 obtain ⟨c1, c2, c3, c4⟩ := recR_cut (s := s) (by omega) q2 (by omega) q7 q8
 have hsz : (s.extract 0 (catL l' 0).length).size ≤ 7000 := by rw [ByteArray.size_extract]; omega
 have hDD : s.extract 0 (catL l' 0).length = s.extract 0 ((((catL l' 0).length : Nat) : Int)).toNat := by rw [Int.toNat_natCast]
 generalize (catL l' 0).length = e at *
 generalize hX : s.extract 0 e = X at *
 have e0 : (⟨#[]⟩ : ByteArray).size = 0 := rfl
 have r1 := implRecov s (K + 2) (by omega)
 rw [c1] at r1
 have r2 := implRecsR X (⟨#[]⟩ : ByteArray) (l'.length : Int) (by omega) (K + 2) (by omega)
 rw [c2] at r2
 have r3 := specRecsR D P n (by omega) (K + 2) (by omega)
 rw [q1] at r3
 have hv : ∀ k', 70000 < k' → impl_IsValidLog.f k' X (⟨#[]⟩ : ByteArray) (l'.length : Int) = some true := fun k' hk' => by rw [implLog X (⟨#[]⟩ : ByteArray) (l'.length : Int) (by omega) k' (by omega), c3]
 have hF := crash_l0 s X (e : Int) (l'.length : Int) l l' q4 q3 q5 (by omega) (by omega) hDD hv l'.length (K + 1) 0 (by omega) (by omega) (by omega)
 have e00 : ((0 : Nat) : Int) = 0 := rfl
 rw [e00] at hF
 have n1 : ¬ ((e : Int) > (s.size : Int)) := by omega
 have n2 : ¬ ((e : Int) < (D.size : Int)) := by omega
 have n3 : decide ((l'.length : Int) > (l.length : Int)) = false := decide_eq_false (by omega)
 clear c1 c2 c3 c4 q1 q2 q3 q4 q5 q6 q7 q8 hl hs hm hz hsz hv hDD hX
 rw [laws_FnCrashRecovery.j0, if_neg Bool.false_ne_true, if_pos rfl, r1, Option.bind_some]
 dsimp only
 rw [r2, Option.bind_some, r3, Option.bind_some]
 dsimp only
 rw [if_pos rfl, if_neg n1, if_neg n2, n3, laws_FnCrashRecovery.j1, if_neg Bool.false_ne_true]
 exact hF
theorem FnCrashRecovery : laws_FnCrashRecovery.Pure := by
 intro l hB
 obtain ⟨_, _, hw⟩ := hB
 have hb := byt_of hw
 obtain ⟨K, hK⟩ : ∃ K, 200000 < K := ⟨_, Nat.lt_succ_self _⟩
 refine ⟨K + 3, ?_⟩
 have hv : laws_vBig.f l = some (decide ((l.length : Int) > 65536)) := rfl
 unfold laws_FnCrashRecovery.f
 rw [hv, Option.bind_some]
 generalize decide ((l.length : Int) > 65536) = bb
 by_cases hbt : bb = true
 ·rw [if_pos hbt]
 ·obtain ⟨R, hR, z1⟩ := drawCrash_t hb (K + 3) (by omega)
  obtain ⟨D, P, n, keep, torn⟩ := R
  dsimp only at z1
  obtain ⟨eS, eI⟩ := crashBoth D P n keep torn (by omega) (K + 3) (by omega)
  rw [if_neg hbt, hR, Option.bind_some]
  dsimp only
  rw [eI, Option.bind_some, eS, Option.bind_some, if_pos rfl]
  have hn : ((crashR D P n keep torn).2 != (crashR D P n keep torn).2) = false := by simp
  rw [hn]
  unfold crashR
  have hno : laws_FnCrashRecovery.j0 (K + 3) (⟨#[]⟩ : ByteArray) false false D P n = some true := by
   rw [laws_FnCrashRecovery.j0, if_neg Bool.false_ne_true, if_neg Bool.false_ne_true]
   have : (⟨#[]⟩ : ByteArray).toList = [] := (toList_empty _).2 rfl
   rw [this]
   rfl
  by_cases hl : isLogB D P n = true
  ·rw [if_pos hl]
   by_cases hc : 0 ≤ keep ∧ keep ≤ (P.size : Int)
   ·rw [if_pos hc]
    exact crash_j0 K hK D P n z1 hl keep.toNat (by omega) torn
   ·rw [if_neg hc]
    exact hno
  ·rw [if_neg hl]
   exact hno
end Go.Proofs.YtinbbjfnebhlkaaDoor.Pure
