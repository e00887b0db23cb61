/- For every list of bytes, the law FnOrdinals answers true: the text of an ordinal number is parsed to a number with the same text, which is not greater, and lists and Roman numerals are the reference's. No conditions beyond the given statement's. -/
import Derived.Test.YtmkkcpdpfelalaaGreatDoorZPx1
import Derived.Test.YtmkkcpdpfelalaaGreatDoorZPx17
import Derived.Test.YtmkkcpdpfelalaaGreatDoorZLDraw
import Derived.Test.YtmkkcpdpfelalaaGreatDoorZLDrawLoc
import Derived.Test.YtmkkcpdpfelalaaGreatDoorZLDrawLoc2
import Derived.Test.YtmkkcpdpfelalaaGreatDoorZLLocBytes
import Derived.Test.YtmkkcpdpfelalaaGreatDoorZLLocGood
import Derived.Test.YtmkkcpdpfelalaaGreatDoorZLLocList
import Derived.Test.YtmkkcpdpfelalaaGreatDoorZLLocOrd
import Derived.Test.YtmkkcpdpfelalaaGreatDoorZLLocParse
import Derived.Test.YtmkkcpdpfelalaaGreatDoorZLOrdBack
import Derived.Test.YtmkkcpdpfelalaaGreatDoorZLRoman
namespace Go.Proofs.YtmkkcpdpfelalaaGreatDoor.Pure
open Go.RowKit Go.Proofs.YtmkkcpdpfelalaaGreatDoorW.PrintWords Go.Proofs.YtmkkcpdpfelalaaGreatDoorW.PrintLast Go.Proofs.YtmkkcpdpfelalaaGreatDoorW.PrintMore Go.Proofs.YtmkkcpdpfelalaaGreatDoor.P
set_option linter.unusedVariables false
set_option linter.unusedSimpArgs false
theorem FnOrdinals : laws_FnOrdinals.Pure := by
 intro l hl
 have hb : Byt l := byt_of hl.2.2
 obtain ⟨K, hK⟩ : ∃ K, 9000000 < K := ⟨_, Nat.lt_succ_self _⟩
 refine ⟨K + 4, ?_⟩
 have hbb : ∀ b : Bool, (b != b) = false := by intro b; simp
 have j3 : laws_FnOrdinals.j3 (K + 1) l false = some true := by
  rw [laws_FnOrdinals.j3, if_neg Bool.false_ne_true]
  obtain ⟨q, hq, _⟩ := drawRT_t hb
  obtain ⟨R, r1, r2⟩ := romanBoth q.1 q.2 K (by omega)
  rw [hq, Option.bind_some, r2, Option.bind_some, r1, Option.bind_some, if_pos rfl]
  simp
 have j2 : laws_FnOrdinals.j2 (K + 2) l false = some true := by
  rw [laws_FnOrdinals.j2, if_neg Bool.false_ne_true]
  obtain ⟨q, hq, hs, h1, h2⟩ := drawLT_t hb (K + 1) (by omega)
  obtain ⟨k1, k2, k3⟩ := hs.ok
  rw [hq, Option.bind_some, implList _ _ _ _ _ _ k1 hs.t hs.r k2 k3 h2 (K + 1) (by omega), Option.bind_some, specList _ _ _ _ _ _ k1 hs.t hs.r k2 k3 h2 (K + 1) (by omega), Option.bind_some, if_pos rfl, hbb, j3]
 have j1 : laws_FnOrdinals.j1 (K + 3) l = some true := by
  rw [laws_FnOrdinals.j1]
  obtain ⟨q, hq, hs, h1⟩ := drawPO_t hb (K + 2) (by omega)
  obtain ⟨k1, k2, k3⟩ := hs.ok
  obtain ⟨p1, p2⟩ := parseBoth q.1 q.2.1 q.2.2.1 q.2.2.2.1 q.2.2.2.2.1 q.2.2.2.2.2 (by omega) k1 hs.t hs.r k2 k3 (K + 2) (by omega)
  rw [hq, Option.bind_some, p2, Option.bind_some, p1, Option.bind_some, if_pos rfl, hbb, j2]
 unfold laws_FnOrdinals.f laws_rBig.f
 rw [Option.bind_some]
 by_cases g : (l.length : Int) > 65536
 ·rw [if_pos (decide_eq_true g)]
 ·rw [if_neg (by simpa using g)]
  obtain ⟨q, hq, hs, h1, h2⟩ := drawOrd_t hb (K + 4) (by omega)
  obtain ⟨k1, k2, k3⟩ := hs.ok
  have hrl := hs.rl
  obtain ⟨n, ts, rs, la, tw, m⟩ := q
  obtain ⟨o1, o2⟩ := ordBoth n ts rs la tw m k1 hs.t hs.r k2 k3 (K + 4) (by omega)
  rw [hq, Option.bind_some]
  dsimp only at o1 o2 k1 k2 k3 hrl hs h1 h2 ⊢
  rw [o2, Option.bind_some, o1, Option.bind_some, if_pos rfl, hbb, laws_FnOrdinals.j0, if_neg Bool.false_ne_true]
  by_cases e : (ordR n ts rs la tw m).2 = true
  ·rw [if_pos e]
   obtain ⟨v, f1, f2, f3⟩ := ordBack n ts rs la tw m e
   have hz : (ordR n ts rs la tw m).1.size ≤ 2097152 := by
    have e2 := e
    unfold ordR at e2 ⊢
    by_cases hg : goodL n ts rs la tw = true
    ·rw [if_pos hg] at e2 ⊢
     by_cases hi : inB m 0 999999 = true
     ·rw [if_pos hi]
      obtain ⟨m0, m1⟩ := inB_of hi
      obtain ⟨M, rfl⟩ : ∃ M : Nat, m = (M : Int) := ⟨m.toNat, by omega⟩
      have := ordTxt_size rs M (by omega) rs.length 0 (goodL_rules hg).2
      show (ordTxt rs (M : Int) 0 rs.length).size ≤ _
      omega
     ·rw [if_neg hi] at e2; cases e2
    ·rw [if_neg hg] at e2; cases e2
   obtain ⟨_, p2⟩ := parseBoth n ts rs la tw (ordR n ts rs la tw m).1 hz k1 hs.t hs.r k2 k3 (K + 3) (by omega)
   obtain ⟨_, o4⟩ := ordBoth n ts rs la tw v k1 hs.t hs.r k2 k3 (K + 3) (by omega)
   rw [p2, Option.bind_some, f1, o4, Option.bind_some, f3, if_pos rfl, if_pos e, if_pos rfl, if_neg (by omega), j1]
  ·rw [if_neg e, j1]
end Go.Proofs.YtmkkcpdpfelalaaGreatDoor.Pure
