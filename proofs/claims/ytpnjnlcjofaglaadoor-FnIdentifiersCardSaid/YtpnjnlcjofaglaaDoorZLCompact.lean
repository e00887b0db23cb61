/- The compact form of a written identifier: the program's and the reference's answers are one function, for all strings of at most 1048576 bytes. -/
import Derived.Test.YtpnjnlcjofaglaaDoorZPx2
import Derived.Test.YtpnjnlcjofaglaaDoorZPx3
import Derived.Test.YtpnjnlcjofaglaaDoorZLBase
import Derived.Test.YtpnjnlcjofaglaaDoorZLBytesU
import Derived.Test.YtpnjnlcjofaglaaDoorZLContainsS
import Derived.Test.YtpnjnlcjofaglaaDoorZLIdent
import Derived.Test.YtpnjnlcjofaglaaDoorZLIdentK
import Derived.Test.YtpnjnlcjofaglaaDoorZLPieces
namespace Go.Proofs.YtpnjnlcjofaglaaDoor.P
open Go.RowKit Go.Proofs.YtpnjnlcjofaglaaDoorW.PrintWords Go.Proofs.YtpnjnlcjofaglaaDoorW.PrintLast Go.Proofs.YtpnjnlcjofaglaaDoorW.PrintMore
set_option linter.unusedVariables false
set_option linter.unusedSimpArgs false
def finC (o : ByteArray) : ByteArray × Int × Bool := if kindOf o = 0 then ((⟨#[]⟩ : ByteArray), 0, false) else (o, kindOf o, true)
def ofLs (l : List UInt8) : ByteArray := ⟨l.toArray⟩
def compactR (s : ByteArray) : ByteArray × Int × Bool := if (s.size : Int) > 30 then ((⟨#[]⟩ : ByteArray), 0, false) else if bad true s.data.toList = true then ((⟨#[]⟩ : ByteArray), 0, false) else finC (ofLs (s.data.toList.filter (fun b => b != 45)))
theorem ofLs_app (o : ByteArray) (b : UInt8) (l : List UInt8) : ofLs (o.data.toList ++ b :: l) = ofLs ((o ++ ofLs [b]).data.toList ++ l) := by
 apply toL_same
 show o.data.toList ++ b :: l = (o ++ ofLs [b]).data.toList ++ l
 rw [toL_cat]
 show o.data.toList ++ b :: l = (o.data.toList ++ [b]) ++ l
 simp
theorem specCompact_l0 (s : ByteArray) (hs : s.size ≤ 30) (d : Nat) : ∀ (k i : Nat) (o : ByteArray) (p : Bool), s.size - i = d → i ≤ s.size → o.size ≤ i → d + 200 < k → (p = true ↔ (i = 0 ∨ bt s ((i : Int) - 1) = 45)) → (i = s.size → p = false) →
  spec_CompactForm.l0 k s o (i : Int) = some (if bad p (s.data.toList.drop i) = true then ((⟨#[]⟩ : ByteArray), 0, false) else finC (ofLs (o.data.toList ++ (s.data.toList.drop i).filter (fun b => b != 45)))) := by
 induction d with
 | zero =>
  intro k i o p hd hi ho hk hp he
  obtain ⟨k, rfl⟩ := succ_of hk
  rw [spec_CompactForm.l0, if_neg (by omega), drop_end s i (by omega), specKind o (by omega) k (by omega), Option.bind_some]
  have hpf := he (by omega)
  subst hpf
  rw [bad, if_neg Bool.false_ne_true, List.filter_nil, List.append_nil]
  have : ofLs o.data.toList = o := toL_same rfl
  rw [this]
  unfold finC
  by_cases hz : kindOf o = 0
  ·rw [if_pos hz, if_pos hz]
  ·rw [if_neg hz, if_neg hz]
 | succ d ih =>
  intro k i o p hd hi ho hk hp he
  obtain ⟨k, rfl⟩ := succ_of hk
  have hlt : i < s.size := by omega
  obtain ⟨b, hb, hbt⟩ := drop_bt s i hlt
  have hwl : wrap64 ((s.size : Int) - 1) = (s.size : Int) - 1 := w64 (by omega) (by omega)
  have hwp : wrap64 ((i : Int) - 1) = (i : Int) - 1 := w64 (by omega) (by omega)
  rw [spec_CompactForm.l0, if_pos (by omega), if_pos (by omega), hwl, hwp, w64_succ hlt (by omega), hb, hbt, bad]
  by_cases e : b = 45
  ·subst e
   have e45 : (((45 : UInt8).toNat : Nat) : Int) = 45 := rfl
   rw [if_pos e45, if_pos rfl]
   by_cases hi0 : i = 0
   ·have hpt : p = true := hp.2 (Or.inl hi0)
    subst hpt
    rw [if_pos (by omega), Bool.true_or, if_pos rfl]
   ·rw [if_neg (by omega)]
    by_cases hl : (i : Int) = (s.size : Int) - 1
    ·rw [if_pos hl, drop_end s (i + 1) (by omega), bad, Bool.or_true, if_pos rfl]
    ·rw [if_neg hl, if_pos (by omega), if_pos (by omega)]
     by_cases hq : bt s ((i : Int) - 1) = 45
     ·have hpt : p = true := hp.2 (Or.inr hq)
      subst hpt
      rw [if_pos hq, Bool.true_or, if_pos rfl]
     ·have hpf : p = false := by
       cases p with
       | false => rfl
       | true => exact Or.elim (hp.1 rfl) (fun h => absurd h hi0) (fun h => absurd h hq)
      subst hpf
      have h1 : ((i + 1 : Nat) : Int) - 1 = (i : Int) := by omega
      rw [if_neg hq, Bool.false_or, ih k (i + 1) o true (by omega) (by omega) (by omega) (by omega) ⟨fun _ => Or.inr (by rw [h1, hbt]; rfl), fun _ => rfl⟩ (by omega)]
      rfl
  ·have hne : ¬ ((b.toNat : Int) = 45) := by
    intro h
    apply e
    apply UInt8.toNat_inj.1
    have : (45 : UInt8).toNat = 45 := rfl
    omega
   have hbb : (b != 45) = true := bne_iff_ne.2 e
   have hX : s.extract i (i + 1) = ofLs [b] := by
    apply toL_same
    rw [toL_cut, hb]
    have : i + 1 - i = 1 := by omega
    rw [this]
    rfl
   have hXs : (ofLs [b]).size = 1 := rfl
   have h1 : ((i + 1 : Nat) : Int) - 1 = (i : Int) := by omega
   rw [if_neg hne, if_neg e, if_pos (by omega), if_pos (by omega)]
   simp only [Int.toNat_natCast]
   rw [hX, if_pos (by omega), ih k (i + 1) (o ++ ofLs [b]) false (by omega) (by omega) (by rw [ByteArray.size_append, hXs]; omega) (by omega) ⟨(fun h => absurd h Bool.false_ne_true), fun h => Or.elim h (fun h => absurd h (Nat.succ_ne_zero i)) (fun h => by rw [h1, hbt] at h; exact absurd h hne)⟩ (fun _ => rfl), List.filter_cons, hbb, if_pos rfl, ofLs_app]
theorem specCompact (s : ByteArray) (k : Nat) (hk : 300 < k) : spec_CompactForm.f k s = some (compactR s) := by
 unfold spec_CompactForm.f compactR
 by_cases h30 : (s.size : Int) > 30
 ·rw [if_pos h30, if_pos h30]
 ·rw [if_neg h30, if_neg h30]
  by_cases h0 : s.size = 0
  ·obtain ⟨k, rfl⟩ := succ_of hk
   have hn : s.data.toList = [] := List.eq_nil_of_length_eq_zero (by rw [data_length]; exact h0)
   have e0 : (⟨#[]⟩ : ByteArray).size = 0 := rfl
   have hk0 : kindOf (⟨#[]⟩ : ByteArray) = 0 := by
    rcases kindOf_cases (⟨#[]⟩ : ByteArray) with h | ⟨_, _, h⟩
    ·exact h
    ·have := isId_form h
     obtain ⟨hz, g1, g4⟩ := idForm_size this
     have hkk : kindOf (⟨#[]⟩ : ByteArray) = 1 ∨ kindOf (⟨#[]⟩ : ByteArray) = 2 ∨ kindOf (⟨#[]⟩ : ByteArray) = 3 ∨ kindOf (⟨#[]⟩ : ByteArray) = 4 := by omega
     exfalso
     rcases hkk with q | q | q | q <;> rw [q] at hz <;> (simp [idLen, e0] at hz)
   rw [spec_CompactForm.l0, if_neg (by omega), specKind _ (by decide) k (by rw [e0]; omega), Option.bind_some, hk0, if_pos rfl, hn, bad, if_pos rfl]
  ·have := specCompact_l0 s (by omega) s.size k 0 (⟨#[]⟩ : ByteArray) true (by omega) (by omega) (by decide) (by omega) ⟨fun _ => Or.inl rfl, fun _ => rfl⟩ (by omega)
   rw [List.drop_zero] at this
   exact this
theorem j0Compact (k : Nat) (s : ByteArray) (b : Bool) (hk : 0 < k) : impl_CompactForm.j0 k s b = if b = true then (some ((⟨#[]⟩ : ByteArray), 0, false)) else ((strings_ReplaceAll.f s (⟨#[45]⟩ : ByteArray) (⟨#[]⟩ : ByteArray)).bind fun t133 => ((impl_idKind.f (k - 1) t133).bind fun t134 => (if t134 = 0 then (some ((⟨#[]⟩ : ByteArray), 0, false)) else (some (t133, t134, true))))) := by
 obtain ⟨k, rfl⟩ : ∃ j, k = j + 1 := ⟨k - 1, by omega⟩
 rw [impl_CompactForm.j0, Nat.add_sub_cancel]
theorem implCompact (s : ByteArray) (k : Nat) (hk : 300 < k) : impl_CompactForm.f k s = some (compactR s) := by
 unfold impl_CompactForm.f compactR
 by_cases h30 : (s.size : Int) > 30
 ·rw [if_pos h30, if_pos h30, j0Compact _ _ _ (by omega), if_pos rfl]
 ·rw [if_neg h30, if_neg h30]
  have hc := countS s
  have hsp := splitS s
  have hsp1 : strings_Split.f s ⟨#[45]⟩ = some (Lib.splitB ⟨#[45]⟩ 0 (Lib.countB s ⟨#[45]⟩) s) := by
   unfold strings_Split.f
   rw [if_pos ⟨by omega, by decide, by omega⟩]
  have hrp : strings_ReplaceAll.f s ⟨#[45]⟩ ⟨#[]⟩ = some (ofLs (s.data.toList.filter (fun b => b != 45))) := by
   unfold strings_ReplaceAll.f
   rw [if_pos ⟨by omega, by decide, by decide⟩, replaceS]
   rfl
  have hlen := Lib.splitB_length_le ⟨#[45]⟩ 0 (Lib.countB s ⟨#[45]⟩) s
  generalize hL : Lib.splitB ⟨#[45]⟩ 0 (Lib.countB s ⟨#[45]⟩) s = L at *
  have hfl : (ofLs (s.data.toList.filter (fun b => b != 45))).size ≤ s.size := by
   rw [size_data]
   show (s.data.toList.filter (fun b => b != 45)).length ≤ _
   rw [size_data]
   exact List.length_filter_le _ _
  have hany : L.any (fun y => (⟨#[]⟩ : ByteArray).toList == y.toList) = bad true s.data.toList := by
   rw [Bool.eq_iff_iff, ← (bad_pieces s.data.toList).1, ← hsp, List.any_eq_true, List.mem_map]
   have e0 : (⟨#[]⟩ : ByteArray).toList = [] := by rw [Go.ByteArray.toList_eq]
   constructor
   ·rintro ⟨x, hx, h⟩
    rw [e0, beq_iff_eq, Go.ByteArray.toList_eq] at h
    exact ⟨x, hx, h.symm⟩
   ·rintro ⟨x, hx, h⟩
    refine ⟨x, hx, ?_⟩
    rw [e0, beq_iff_eq, Go.ByteArray.toList_eq, h]
  rw [hsp1, Option.bind_some, containsS_f L _ (by omega) k (by omega), Option.bind_some, hany]
  rw [j0Compact _ _ _ (by omega)]
  cases hb : bad true s.data.toList with
  | true => rw [if_pos rfl, if_pos rfl]
  | false =>
   rw [if_neg Bool.false_ne_true, if_neg Bool.false_ne_true, hrp, Option.bind_some, implKind _ (by omega) (k - 1) (by omega), Option.bind_some]
   unfold finC
   split <;> rfl
end Go.Proofs.YtpnjnlcjofaglaaDoor.P
