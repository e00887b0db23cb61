/- For every draw, the law FnLog answers true: an appended record follows the existing ones unchanged, and recovery of the log's bytes returns the synchronized log. No conditions beyond the given statement's. -/
import Derived.Test.YtinbbjfnebhlkaaDoorZPx0
import Derived.Test.YtinbbjfnebhlkaaDoorZPx11
import Derived.Test.YtinbbjfnebhlkaaDoorZPx12
import Derived.Test.YtinbbjfnebhlkaaDoorZPx7
import Derived.Test.YtinbbjfnebhlkaaDoorZPx8
import Derived.Test.YtinbbjfnebhlkaaDoorZLBase
import Derived.Test.YtinbbjfnebhlkaaDoorZLDraw
import Derived.Test.YtinbbjfnebhlkaaDoorZLLogA
import Derived.Test.YtinbbjfnebhlkaaDoorZLLogB
import Derived.Test.YtinbbjfnebhlkaaDoorZLLogD
import Derived.Test.YtinbbjfnebhlkaaDoorZLLogDraw2
import Derived.Test.YtinbbjfnebhlkaaDoorZLLogF
import Derived.Test.YtinbbjfnebhlkaaDoorZLLogOps
import Derived.Test.YtinbbjfnebhlkaaDoorZLRec
import Derived.Test.YtinbbjfnebhlkaaDoorZLSeal
import Derived.Test.YtinbbjfnebhlkaaDoorZLWalks
namespace Go.Proofs.YtinbbjfnebhlkaaDoor.Pure
open Go.RowKit Go.Proofs.YtinbbjfnebhlkaaDoorW.PrintWords Go.Proofs.YtinbbjfnebhlkaaDoorW.PrintLast Go.Proofs.YtinbbjfnebhlkaaDoorW.PrintMore Go.Proofs.YtinbbjfnebhlkaaDoor.P
set_option linter.unusedVariables false
set_option linter.unusedSimpArgs false
theorem vBig_f (l : List Int) : ∃ b, laws_vBig.f l = some b := ⟨_, rfl⟩
theorem fnLog_l0 (l : List S27) (c r D P : ByteArray) (e n : Int) (hl : l.length ≤ 60) (hs : D.size + P.size ≤ 30000) (he : e = (((D ++ P).size : Nat) : Int)) (hv : ∀ k', 70000 < k' → impl_IsValidLog.f k' D P n = some true) (bD bP : ByteArray) (bn : Int) (d : Nat) :
  ∀ (k i : Nat), l.length - i = d → 70001 + d < k → i ≤ l.length → laws_FnLog.l0 k (l ++ [⟨c, r⟩]) l e true true (i : Int) c r D P n bD bP bn bD bP bn = some true := by
 have hlen : (l ++ [(⟨c, r⟩ : S27)]).length = l.length + 1 := by simp
 induction d with
 | zero =>
  intro k i hd hk hi
  obtain ⟨k, rfl⟩ := succ_of hk
  have hii : i = l.length := by omega
  subst hii
  have hx : rd_T27 (l ++ [(⟨c, r⟩ : S27)]) (l.length : Int) = ⟨c, r⟩ := by
   unfold rd_T27
   rw [Int.toNat_natCast, List.getD_eq_getElem?_getD, List.getElem?_append_right (Nat.le_refl _), Nat.sub_self]
   rfl
  rw [laws_FnLog.l0, if_neg (by omega), if_pos (by omega), if_pos (by omega), hx]
  have h1 : ((c.toList == c.toList) && (r.toList == r.toList)) = true := by simp
  have h2 : (bD.toList == bD.toList && (bP.toList == bP.toList && (bn == bn))) = true := by simp
  rw [if_pos h1, if_pos rfl, if_pos (by omega), if_pos he, if_pos rfl, if_pos h2, hv k (by omega)]
  rfl
 | succ d ih =>
  intro k i hd hk hi
  obtain ⟨k, rfl⟩ := succ_of hk
  have hlt : i < l.length := by omega
  have hx : rd_T27 (l ++ [(⟨c, r⟩ : S27)]) (i : Int) = rd_T27 l (i : Int) := by
   unfold rd_T27
   rw [Int.toNat_natCast, List.getD_eq_getElem?_getD, List.getD_eq_getElem?_getD, List.getElem?_append_left hlt]
  rw [laws_FnLog.l0, if_pos (by omega), if_pos (by omega), if_pos (by omega), hx, w64_succ hlt (by omega)]
  have h1 : ¬ ((!((rd_T27 l (i : Int)).f0.toList == (rd_T27 l (i : Int)).f0.toList) || (!((rd_T27 l (i : Int)).f1.toList == (rd_T27 l (i : Int)).f1.toList))) = true) := by simp
  rw [if_neg h1]
  exact ih k (i + 1) (by omega) (by omega) (by omega)
theorem fnLog_no (k : Nat) (x : Int) (D P : ByteArray) (n : Int) (c r : ByteArray) (hx : ¬ x = 0) : laws_FnLog.j0 (k + 1) x false D P n c r D P n = some true := by
 rw [laws_FnLog.j0, if_neg Bool.false_ne_true, if_neg hx]
 simp
theorem fnLog_ok (K : Nat) (hK : 200000 < K) (D P : ByteArray) (n : Int) (c r : ByteArray) (hs : D.size + P.size ≤ 30000) (hl : isLogB D P n = true) (hg : goodRec c r = true) (hn : n ≠ 60) :
  laws_FnLog.j0 (K + 3) 0 false D P n c r D (P ++ recLine n c r) (n + 1) = some true := by
 obtain ⟨ls, q1, q2, q3, q4, q5, q6, q7, q8⟩ := app_facts hl hg hn
 generalize P ++ recLine n c r = P2 at *
 have e1 := implRecsR D P2 (n + 1) (by omega) (K + 2) (by omega)
 have e2 := implRecsR D P n (by omega) (K + 2) (by omega)
 have e3 := implRecov (D ++ P2) (K + 2) (by omega)
 have e4 := implSync D P2 (n + 1) (by omega) (K + 2) (by omega)
 rw [q5] at e1
 rw [q2] at e2
 rw [q6] at e3
 rw [q7] at e4
 have hI : ∀ k', 70000 < k' → impl_IsValidLog.f k' D P2 (n + 1) = some true := fun k' hk' => by rw [implLog D P2 (n + 1) (by omega) k' (by omega), q4]
 have hlen : (((ls ++ [(⟨c, r⟩ : S27)]).length : Nat) : Int) = (ls.length : Int) + 1 := by simp
 have hw1 : wrap64 ((ls.length : Int) + 1) = (ls.length : Int) + 1 := w64 (by omega) (by omega)
 have hb0 : (n + 1 != (((ls ++ [(⟨c, r⟩ : S27)]).length : Nat) : Int)) = false := by rw [hlen, q3]; simp
 have hF := fnLog_l0 ls c r D P2 _ (n + 1) (by omega) (by omega) rfl hI (D ++ P2) (⟨#[]⟩ : ByteArray) (n + 1) ls.length (K + 1) 0 (by omega) (by omega) (by omega)
 have e0 : ((0 : Nat) : Int) = 0 := rfl
 rw [e0] at hF
 have hle : D.size + P2.size ≤ 9223372036854775807 := by omega
 clear hl hg hs q1 q2 q4 q5 q6 q7 q8 e0 hI q3 hn hK
 rw [laws_FnLog.j0, if_neg Bool.false_ne_true, if_pos rfl, e1, Option.bind_some, e2, Option.bind_some, if_pos hle, e3, Option.bind_some, e4, Option.bind_some]
 dsimp only
 rw [if_pos rfl, hw1, if_pos hlen, hb0, laws_FnLog.j1, if_neg Bool.false_ne_true]
 exact hF
theorem FnLog : laws_FnLog.Pure := by
 intro l hB
 obtain ⟨_, _, hw⟩ := hB
 have hb := byt_of hw
 obtain ⟨K, hK⟩ : ∃ K, 200000 < K := ⟨_, Nat.lt_succ_self _⟩
 refine ⟨K + 3, ?_⟩
 obtain ⟨b, hv⟩ := vBig_f l
 unfold laws_FnLog.f
 rw [hv, Option.bind_some]
 by_cases hbt : b = true
 ·rw [if_pos hbt]
 ·obtain ⟨R, hR, z1, z2, z3⟩ := drawApp_t hb (K + 3) (by omega)
  rw [if_neg hbt, hR, Option.bind_some]
  obtain ⟨D, P, n, c, r⟩ := R
  dsimp only at z1 z2 z3 ⊢
  clear hR hb hw
  obtain ⟨aS, aI⟩ := appBoth D P c r n (by omega) (by omega) (by omega) (K + 2) (by omega) (by omega) (by omega)
  have vI := implLog D P n (by omega) (K + 3) (by omega)
  have gS := specGood c r (by omega) (by omega) (K + 3) (by omega) (by omega)
  have gI := implGood c r (by omega) (by omega) (K + 3) (by omega) (by omega)
  have vS := specLog D P n (by omega) (K + 3) (by omega)
  have vS' : spec_IsValidLog.f (K + 3) D P n = some (isLogB D P n) := by unfold spec_IsValidLog.f; rw [vS]; rfl
  have gS' : spec_IsValidRecord.f (K + 3) c r = some (goodRec c r) := by unfold spec_IsValidRecord.f; rw [gS]; rfl
  have hok : (appR D P n c r).2.2.2 = 0 → laws_FnLog.j0 (K + 3) (appR D P n c r).2.2.2 false D P n c r (appR D P n c r).1 (appR D P n c r).2.1 (appR D P n c r).2.2.1 = some true := by
   intro h0
   obtain ⟨hl, hg, hn, hA⟩ := appR_ok h0
   rw [hA]
   exact fnLog_ok K hK D P n c r z1 hl hg hn
  have hno : ¬ (appR D P n c r).2.2.2 = 0 → laws_FnLog.j0 (K + 3) (appR D P n c r).2.2.2 false D P n c r (appR D P n c r).1 (appR D P n c r).2.1 (appR D P n c r).2.2.1 = some true := by
   intro h0
   obtain ⟨e1, e2, e3⟩ := appR_no h0
   have := fnLog_no (K + 2) (appR D P n c r).2.2.2 D P n c r h0
   rw [e1, e2, e3]
   exact this
  rw [aI, Option.bind_some, aS, Option.bind_some]
  generalize appR D P n c r = A at *
  generalize isLogB D P n = B at *
  generalize goodRec c r = G at *
  have n1 : ¬ ((!(A.1.toList == A.1.toList) || (!(A.2.1.toList == A.2.1.toList) || (!(A.2.2.1 == A.2.2.1)))) = true) := by simp
  have n2 : ¬ ((B != B) = true) := by simp
  have n3 : (G != G) = false := by simp
  rw [if_neg n1, if_pos rfl, vI, Option.bind_some, vS', Option.bind_some, if_neg n2, gI, Option.bind_some, gS', Option.bind_some, n3]
  by_cases h0 : A.2.2.2 = 0
  ·exact hok h0
  ·exact hno h0
end Go.Proofs.YtinbbjfnebhlkaaDoor.Pure
