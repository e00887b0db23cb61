/- For every list of bytes, the law FnTerms answers true: a term that is added is found, the first locale that has a term supplies it, and missing terms are those that cannot be found. No conditions beyond the given statement's. -/
import Derived.Test.YtleckcbiifhanaaDoorZPx0
import Derived.Test.YtleckcbiifhanaaDoorZPx1
import Derived.Test.YtleckcbiifhanaaDoorZPx19
import Derived.Test.YtleckcbiifhanaaDoorZLBase
import Derived.Test.YtleckcbiifhanaaDoorZLDraw
import Derived.Test.YtleckcbiifhanaaDoorZLDrawLoc
import Derived.Test.YtleckcbiifhanaaDoorZLDrawLoc3
import Derived.Test.YtleckcbiifhanaaDoorZLLocAdd
import Derived.Test.YtleckcbiifhanaaDoorZLLocCount
import Derived.Test.YtleckcbiifhanaaDoorZLLocFall
import Derived.Test.YtleckcbiifhanaaDoorZLLocFind
import Derived.Test.YtleckcbiifhanaaDoorZLLocGood
import Derived.Test.YtleckcbiifhanaaDoorZLLocMiss
import Derived.Test.YtleckcbiifhanaaDoorZLTerms
namespace Go.Proofs.YtleckcbiifhanaaDoor.Pure
open Go.RowKit Go.Proofs.YtleckcbiifhanaaDoorW.PrintWords Go.Proofs.YtleckcbiifhanaaDoorW.PrintLast Go.Proofs.YtleckcbiifhanaaDoorW.PrintMore Go.Proofs.YtleckcbiifhanaaDoor.P
set_option linter.unusedVariables false
set_option linter.unusedSimpArgs false
theorem FnTerms : laws_FnTerms.Pure := by
 intro l hl
 have hb : Byt l := byt_of hl.2.2
 obtain ⟨K, hK⟩ : ∃ K, 9000000 < K := ⟨_, Nat.lt_succ_self _⟩
 refine ⟨K + 5, ?_⟩
 have hbb : ∀ b : Bool, (b != b) = false := by intro b; simp
 have hl0 : ∀ (d : Nat) (k : Nat) (i : Int) (M : List ByteArray) (n : ByteArray) (ts : List S29) (rs : List S66) (la tw : ByteArray), 0 ≤ i → (M.length : Int) - i = d → M.length ≤ 100 → d + 8000000 < k → SmallL 8 n ts rs la tw → (∀ x ∈ M, (termForR n ts rs la tw x 1).2 = false) →
   laws_FnTerms.l0 k l M i n ts rs la tw = some true := by
  intro d
  induction d with
  | zero =>
   intro k i M n ts rs la tw h0 hd hM hk hs hx
   obtain ⟨k, rfl⟩ := succ_of hk
   rw [laws_FnTerms.l0, if_neg (by omega)]
   obtain ⟨q, hq, hsq, _⟩ := drawCT_t hb k (by omega)
   obtain ⟨k1, k2, k3⟩ := hsq.ok
   have hql := hsq.tl
   obtain ⟨c1, c2⟩ := countBoth q.1 q.2.1 q.2.2.1 q.2.2.2.1 q.2.2.2.2.1 q.2.2.2.2.2.1 q.2.2.2.2.2.2 k1 (by omega) hsq.t hsq.r k2 k3 k (by omega)
   rw [hq, Option.bind_some, c2, Option.bind_some, c1, Option.bind_some, if_pos rfl]
   simp
  | succ d ih =>
   intro k i M n ts rs la tw h0 hd hM hk hs hx
   obtain ⟨k, rfl⟩ := succ_of hk
   obtain ⟨k1, k2, k3⟩ := hs.ok
   have htl := hs.tl
   have hmem : rdOf ByteArray.empty M i ∈ M := by
    unfold rdOf
    rw [List.getD_eq_getElem?_getD, List.getElem?_eq_getElem (show i.toNat < M.length by omega), Option.getD_some]
    exact List.getElem_mem _
   obtain ⟨_, t2⟩ := termForBoth n ts rs la tw (rdOf ByteArray.empty M i) 1 k1 (by omega) hs.t hs.r k2 k3 k (by omega)
   rw [laws_FnTerms.l0, if_pos (by omega), if_pos h0, t2, Option.bind_some, hx _ hmem, if_neg Bool.false_ne_true, w64 (x := i + 1) (by omega) (by omega)]
   exact ih k (i + 1) M n ts rs la tw (by omega) (by omega) hM (by omega) hs hx
 have j2 : laws_FnTerms.j2 (K + 3) l = some true := by
  rw [laws_FnTerms.j2]
  obtain ⟨q, hq, hs, hs2⟩ := drawMT_t hb (K + 2) (by omega)
  obtain ⟨k1, k2, k3⟩ := hs.ok
  obtain ⟨g1, g2, g3⟩ := hs2.ok
  have htl := hs.tl
  have htl2 := hs2.tl
  obtain ⟨m1, m2⟩ := missBoth q.1 q.2.1 q.2.2.1 q.2.2.2.1 q.2.2.2.2.1 q.2.2.2.2.2.1 q.2.2.2.2.2.2.1 q.2.2.2.2.2.2.2.1 q.2.2.2.2.2.2.2.2.1 q.2.2.2.2.2.2.2.2.2 k1 (by omega) hs.t hs.r k2 k3 g1 (by omega) hs2.t hs2.r g2 g3 (K + 2) (by omega)
  have hlen := missR_length q.1 q.2.1 q.2.2.1 q.2.2.2.1 q.2.2.2.2.1 q.2.2.2.2.2.1 q.2.2.2.2.2.2.1 q.2.2.2.2.2.2.2.1 q.2.2.2.2.2.2.2.2.1 q.2.2.2.2.2.2.2.2.2
  have hout := missR_out q.1 q.2.1 q.2.2.1 q.2.2.2.1 q.2.2.2.2.1 q.2.2.2.2.2.1 q.2.2.2.2.2.2.1 q.2.2.2.2.2.2.2.1 q.2.2.2.2.2.2.2.2.1 q.2.2.2.2.2.2.2.2.2 1
  rw [hq, Option.bind_some, m2, Option.bind_some, m1, Option.bind_some]
  generalize missR q.1 q.2.1 q.2.2.1 q.2.2.2.1 q.2.2.2.2.1 q.2.2.2.2.2.1 q.2.2.2.2.2.2.1 q.2.2.2.2.2.2.2.1 q.2.2.2.2.2.2.2.2.1 q.2.2.2.2.2.2.2.2.2 = R at *
  rw [hbb, if_neg Bool.false_ne_true, rTexts_t R.1 (by omega) (K + 2) (by omega), Option.bind_some, laws_FnTerms.j3]
  show (if false = true then _ else _) = _
  rw [if_neg Bool.false_ne_true]
  exact hl0 R.1.length (K + 1) 0 R.1 _ _ _ _ _ (by omega) (by omega) (by omega) (by omega) hs hout
 have j0 : laws_FnTerms.j0 (K + 5) l = some true := by
  rw [laws_FnTerms.j0]
  obtain ⟨q, hq, hs⟩ := drawFT_t hb (K + 4) (by omega)
  have hok := fallR_ok q.1 q.2.1 q.2.2
  rw [hq, Option.bind_some, implFall q.1 q.2.1 q.2.2 hs (K + 4) (by omega), Option.bind_some, specFall q.1 q.2.1 q.2.2 hs (K + 4) (by omega), Option.bind_some, if_pos rfl, if_pos rfl, hbb, laws_FnTerms.j1, if_neg Bool.false_ne_true]
  generalize fallR q.1 q.2.1 q.2.2 = R at *
  by_cases e : R.2.2 = true
  ·obtain ⟨h0, h1, h2⟩ := hok e
   obtain ⟨o1, ⟨o2, o3⟩, ⟨_, o5⟩, o6, o7⟩ := hs _ (rdL_mem h0 h1)
   obtain ⟨_, t2⟩ := termForBoth _ _ _ _ _ q.2.1 q.2.2 o1 (by omega) o3 o5 o6 o7 (K + 3) (by omega)
   rw [if_pos e, if_pos h0, if_pos h1, t2, h2, Option.bind_some, if_pos rfl, if_pos rfl, j2]
  ·rw [if_neg e, j2]
 have j0' : ∀ m, laws_FnTerms.j0 m l = laws_FnTerms.j0 m l := fun _ => rfl
 unfold laws_FnTerms.f laws_rBig.f
 rw [Option.bind_some]
 by_cases g : (l.length : Int) > 65536
 ·rw [if_pos (decide_eq_true g)]
 ·rw [if_neg (by simpa using g)]
  obtain ⟨q, hq, hs, z0, z1, z2⟩ := drawAT_t hb (K + 5) (by omega)
  obtain ⟨k1, k2, k3⟩ := hs.ok
  have htl := hs.tl
  have hrl := hs.rl
  obtain ⟨n, ts, rs, la, tw, t0, t1, t2⟩ := q
  dsimp only at hs z0 z1 z2 k1 k2 k3 htl hrl
  obtain ⟨t, ht⟩ : ∃ t : S29, t = ⟨t0, t1, t2⟩ := ⟨_, rfl⟩
  have hz : szT t := by rw [ht]; exact ⟨by show t0.size ≤ _; omega, by show t1.size ≤ _; omega, by show t2.size ≤ _; omega⟩
  obtain ⟨a1, a2⟩ := addBoth n ts rs la tw t k1 (by omega) (by omega) hs.t hs.r k2 k3 hz (K + 5) (by omega)
  have hf := addR_found n ts rs la tw t
  have hlen := addR_len n ts rs la tw t
  have hmem : ∀ x ∈ addTL ts t, szT x := addAt_mem ts t _ hz hs.t
  rw [show t.f0 = t0 by rw [ht], show t.f1 = t1 by rw [ht], show t.f2 = t2 by rw [ht]] at a1 a2 hf
  rw [hq, Option.bind_some]
  dsimp only
  rw [a2, Option.bind_some, a1, Option.bind_some, hbb, if_neg Bool.false_ne_true]
  by_cases e : (addR n ts rs la tw t).2.2.2.2.2 = true
  ·obtain ⟨e1, e2, e3, e4, e5⟩ := hf e
   have hl1 : (addTL ts t).length ≤ 100 := by
    have := addAt_len ts t (posT ts t.f0 0 ts.length)
    unfold addTL
    omega
   obtain ⟨_, u1⟩ := termForBoth n (addTL ts t) rs la tw t0 1 k1 (by omega) hmem hs.r k2 k3 (K + 5) (by omega)
   obtain ⟨_, u2⟩ := termForBoth n (addTL ts t) rs la tw t0 2 k1 (by omega) hmem hs.r k2 k3 (K + 5) (by omega)
   have hokm : ∀ x ∈ [(⟨n, addTL ts t, rs, la, tw⟩ : S27)], okL1 x := by
    intro x hx
    rw [List.mem_singleton.1 hx]
    exact ⟨k1, ⟨by show (addTL ts t).length ≤ _; omega, hmem⟩, ⟨by show rs.length ≤ _; omega, hs.r⟩, k2, k3⟩
   have u3 := implFall [(⟨n, addTL ts t, rs, la, tw⟩ : S27)] t0 1 hokm (K + 5) (by omega)
   have u4 := implGood n (addTL ts t) rs la tw k1 hmem hs.r k2 k3 (K + 5) (by omega)
   rw [if_pos e, e1]
   dsimp only
   rw [u1, Option.bind_some, u2, Option.bind_some, u3, Option.bind_some, e3, e4, e5]
   dsimp only
   rw [if_pos rfl, if_pos rfl, if_pos rfl, if_pos rfl, if_pos rfl, if_pos rfl, if_pos rfl, u4, Option.bind_some, if_pos e2, j0]
  ·rw [if_neg e, j0]
end Go.Proofs.YtleckcbiifhanaaDoor.Pure
