/- For every draw, the law FnIdentifiers answers true: a completed identifier is one of its kind, its written form is read again, and its last character is the only one possible. No conditions beyond the given statement's. -/
import Derived.Test.YtpnjnlcjofaglaaDoorZPx4
import Derived.Test.YtpnjnlcjofaglaaDoorZPx8
import Derived.Test.YtpnjnlcjofaglaaDoorZPx9
import Derived.Test.YtpnjnlcjofaglaaDoorZLBase
import Derived.Test.YtpnjnlcjofaglaaDoorZLCompact
import Derived.Test.YtpnjnlcjofaglaaDoorZLComplBoth
import Derived.Test.YtpnjnlcjofaglaaDoorZLDraw
import Derived.Test.YtpnjnlcjofaglaaDoorZLIdBack
import Derived.Test.YtpnjnlcjofaglaaDoorZLIdDraw
import Derived.Test.YtpnjnlcjofaglaaDoorZLIdDraw4
import Derived.Test.YtpnjnlcjofaglaaDoorZLIdent
import Derived.Test.YtpnjnlcjofaglaaDoorZLIdentK
import Derived.Test.YtpnjnlcjofaglaaDoorZLRepair
import Derived.Test.YtpnjnlcjofaglaaDoorZLSwaps
namespace Go.Proofs.YtpnjnlcjofaglaaDoor.Pure
open Go.RowKit Go.Proofs.YtpnjnlcjofaglaaDoorW.PrintWords Go.Proofs.YtpnjnlcjofaglaaDoorW.PrintLast Go.Proofs.YtpnjnlcjofaglaaDoorW.PrintMore Go.Proofs.YtpnjnlcjofaglaaDoor.P
set_option linter.unusedVariables false
set_option linter.unusedSimpArgs false
theorem rInts_l0 (l : List Int) (hl : l.length ≤ 2000000) (d : Nat) : ∀ (k i : Nat), l.length - i = d → d < k → i ≤ l.length → laws_rInts.l0 k l l (i : Int) = some true := by
 induction d with
 | zero =>
  intro k i hd hk hi
  obtain ⟨k, rfl⟩ := succ_of hk
  rw [laws_rInts.l0, if_neg (by omega)]
 | succ d ih =>
  intro k i hd hk hi
  obtain ⟨k, rfl⟩ := succ_of hk
  have hw : wrap64 ((i : Int) + 1) = ((i + 1 : Nat) : Int) := by rw [w64 (by omega) (by omega)]; omega
  rw [laws_rInts.l0, if_pos (by omega), if_pos (by omega), if_pos (by omega), if_pos rfl, hw]
  exact ih k (i + 1) (by omega) (by omega) (by omega)
theorem rInts_f (l : List Int) (hl : l.length ≤ 2000000) (k : Nat) (hk : l.length < k) : laws_rInts.f k l l = some true := by
 unfold laws_rInts.f
 rw [if_pos rfl]
 exact rInts_l0 l hl l.length k 0 (by omega) (by omega) (by omega)
theorem checkId {kind : Int} {s : ByteArray} (h : isId kind s = true) (k : Nat) (hk : 100 < k) : impl_CheckIdentifier.f k s = some (kind, true) := by
 have hle := isId_le h
 obtain ⟨_, h1, _⟩ := idForm_size (isId_form h)
 unfold impl_CheckIdentifier.f
 rw [implKind s (by omega) _ (by omega), kindOf_id h, Option.bind_some, decide_eq_true (show kind > 0 by omega)]
theorem ids_j3 {l : List Int} (hb : Byt l) (k : Nat) (hk : 1000 < k) : laws_FnIdentifiers.j3 (k + 1) l false = some true := by
 obtain ⟨t, ht, hz⟩ := drawSwaps_t hb k (by omega)
 obtain ⟨e1, e2⟩ := swapsBoth t.1 t.2 (by omega) k (by omega)
 have hlen : (swapsR t.1 t.2).1.length ≤ t.2.size := by
  unfold swapsR
  split
  ·have := swapsL_length t.1 t.2 (t.2.size - 1) 0
   show (swapsL t.1 t.2 0 (t.2.size - 1)).length ≤ _
   omega
  ·exact Nat.zero_le _
 generalize swapsR t.1 t.2 = R at *
 rw [laws_FnIdentifiers.j3, if_neg Bool.false_ne_true, ht, Option.bind_some, e2, Option.bind_some, e1, Option.bind_some, if_pos (beq_self_eq_true _), rInts_f R.1 (by omega) k (by omega), Option.bind_some]
theorem ids_j2 {l : List Int} (hb : Byt l) (k : Nat) (hk : 1000 < k) : laws_FnIdentifiers.j2 (k + 2) l false = some true := by
 obtain ⟨t, ht, hz⟩ := drawRepair_t hb (k + 1) (by omega)
 obtain ⟨e1, e2⟩ := repairBoth t.1 t.2.1 t.2.2 (by omega) (k + 1) (by omega)
 have hn : ((repairR t.1 t.2.1 t.2.2).2 != (repairR t.1 t.2.1 t.2.2).2) = false := by simp
 rw [laws_FnIdentifiers.j2, if_neg Bool.false_ne_true, ht, Option.bind_some, e2, Option.bind_some, e1, Option.bind_some, if_pos rfl, hn]
 exact ids_j3 hb k hk
theorem ids_j1 {l : List Int} (hb : Byt l) (k : Nat) (hk : 1000 < k) : laws_FnIdentifiers.j1 (k + 3) l = some true := by
 obtain ⟨t, ht, hz⟩ := drawCompact_t hb (k + 2) (by omega)
 have hn : ((compactR t).2.2 != (compactR t).2.2) = false := by simp
 rw [laws_FnIdentifiers.j1, ht, Option.bind_some, implCompact t (k + 2) (by omega), Option.bind_some, specCompact t (k + 2) (by omega), Option.bind_some, if_pos rfl, if_pos rfl, hn]
 exact ids_j2 hb k hk
theorem ids_j0 {l : List Int} (hb : Byt l) (k : Nat) (hk : 1000 < k) (kind : Int) (s : ByteArray) (ok : Bool) (h : ok = true → isId kind s = true) : laws_FnIdentifiers.j0 (k + 4) l kind s ok false = some true := by
 rw [laws_FnIdentifiers.j0, if_neg Bool.false_ne_true]
 by_cases hok : ok = true
 ·have hi := h hok
  have hle := isId_le hi
  have hrp := (repairBoth kind s ((s.size : Int) - 1) (by omega) (k + 3) (by omega)).2
  rw [repairBack hi] at hrp
  rw [if_pos hok, checkId hi (k + 3) (by omega), Option.bind_some, (writtenBoth hi (k + 3) (by omega)).2, Option.bind_some, implCompact _ (k + 3) (by omega), compactBack hi, Option.bind_some, w64 (x := (s.size : Int) - 1) (by omega) (by omega), hrp, Option.bind_some, if_pos rfl, if_pos rfl, if_pos rfl, if_pos rfl, if_pos rfl, if_pos rfl, if_pos rfl, if_pos rfl]
  exact ids_j1 hb k hk
 ·rw [if_neg hok]
  exact ids_j1 hb k hk
theorem FnIdentifiers : laws_FnIdentifiers.Pure := by
 intro l hB
 obtain ⟨_, _, hw⟩ := hB
 have hb := byt_of hw
 obtain ⟨K, hK⟩ : ∃ K, 1000 < K := ⟨_, Nat.lt_succ_self _⟩
 refine ⟨K + 4, ?_⟩
 have hv : laws_rBig.f l = some (decide ((l.length : Int) > 65536)) := rfl
 unfold laws_FnIdentifiers.f
 rw [hv, Option.bind_some]
 generalize decide ((l.length : Int) > 65536) = b
 by_cases hbt : b = true
 ·rw [if_pos hbt]
 ·obtain ⟨x, hx, hz⟩ := drawComplete_t hb (K + 4) (by omega)
  obtain ⟨e1, e2⟩ := complBoth x.1 x.2 (by omega) (K + 4) (by omega)
  have hn : ((complR x.1 x.2).2 != (complR x.1 x.2).2) = false := by simp
  have hi := @complR_is x.1 x.2
  generalize complR x.1 x.2 = R at *
  rw [if_neg hbt, hx, Option.bind_some, e2, Option.bind_some, e1, Option.bind_some, if_pos rfl, hn]
  exact ids_j0 hb K hK x.1 R.1 R.2 hi
end Go.Proofs.YtpnjnlcjofaglaaDoor.Pure
