/- An identifier's last character is the only one possible: the completion of all its characters but the last gives the identifier back. No conditions beyond each lemma's own. -/
import Derived.Test.YtpnjnlcjofaglaaDoorZPx0
import Derived.Test.YtpnjnlcjofaglaaDoorZLBase
import Derived.Test.YtpnjnlcjofaglaaDoorZLComplete
import Derived.Test.YtpnjnlcjofaglaaDoorZLIdent
import Derived.Test.YtpnjnlcjofaglaaDoorZLLastB
namespace Go.Proofs.YtpnjnlcjofaglaaDoor.P
open Go.RowKit Go.Proofs.YtpnjnlcjofaglaaDoorW.PrintWords Go.Proofs.YtpnjnlcjofaglaaDoorW.PrintLast Go.Proofs.YtpnjnlcjofaglaaDoorW.PrintMore
set_option linter.unusedVariables false
set_option linter.unusedSimpArgs false
theorem toL_ext0 (s : ByteArray) (b : Nat) : (s.extract 0 b).data.toList = s.data.toList.take b := by
 rw [Lib.extract_data]; simp
theorem toL_app (a b : ByteArray) : (a ++ b).data.toList = a.data.toList ++ b.data.toList := by
 rw [ByteArray.data_append, Array.toList_append]
theorem toL_eq {a b : ByteArray} (h : a.data.toList = b.data.toList) : a = b := by
 cases a; cases b
 congr 1
 exact Array.toList_inj.1 h
theorem isId_parts {kind : Int} {s : ByteArray} (h : isId kind s = true) : idForm kind s = true ∧ (kind = 2 → altFrom s 0 s.size 0 % 10 = 0 ∧ (pre978 s = true ∨ pre979 s = true)) ∧ (kind = 4 → per15 s = idVal (bt s 15)) ∧ (kind ≠ 2 → kind ≠ 4 → wtdFrom s 0 s.size 0 % 11 = 0) := by
 refine ⟨isId_form h, ?_, ?_, ?_⟩
 ·intro e
  subst e
  unfold isId at h
  simp only [Bool.and_eq_true, if_true, beq_iff_eq, Bool.or_eq_true] at h
  exact ⟨h.2.2, h.2.1⟩
 ·intro e
  subst e
  unfold isId at h
  simp at h
  exact h.2
 ·intro e2 e4
  unfold isId at h
  rw [if_neg e2, if_neg e4] at h
  simp only [Bool.and_eq_true, beq_iff_eq] at h
  exact h.2
theorem last_split {kind : Int} {s : ByteArray} (hz : 0 < s.size) (h : idAt kind s ((s.size : Int) - 1) = true) : ∃ v, v < 11 ∧ s = s.extract 0 (s.size - 1) ++ lastB v := by
 have hlt : s.size - 1 < s.size := by omega
 obtain ⟨b, hb, hbt⟩ := drop_bt s (s.size - 1) hlt
 have hi : ((s.size - 1 : Nat) : Int) = (s.size : Int) - 1 := by omega
 rw [hi] at hbt
 have hL : s.data.toList = s.data.toList.take (s.size - 1) ++ [b] := by
  have h1 := (List.take_append_drop (s.size - 1) s.data.toList).symm
  rw [hb, drop_end s (s.size - 1 + 1) (by omega)] at h1
  exact h1
 have key : ∀ v, (lastB v).data.toList = [b] → s = s.extract 0 (s.size - 1) ++ lastB v := by
  intro v hv
  apply toL_eq
  rw [toL_app, toL_ext0, hv]
  exact hL
 have hr := b.toNat_lt
 unfold idAt isDg at h
 rw [hbt] at h
 simp only [Bool.or_eq_true, Bool.and_eq_true, decide_eq_true_eq] at h
 rcases h with ⟨h1, h2⟩ | ⟨⟨h1, _⟩, _⟩
 ·refine ⟨b.toNat - 48, by omega, key _ ?_⟩
  unfold lastB
  rw [if_pos (by omega)]
  show [UInt8.ofNat (48 + (b.toNat - 48))] = [b]
  congr 1
  apply UInt8.toNat_inj.1
  rw [UInt8.toNat_ofNat_of_lt' (by show 48 + (b.toNat - 48) < 256; omega)]
  omega
 ·refine ⟨10, by omega, key _ ?_⟩
  unfold lastB
  rw [if_neg (by omega)]
  show [(88 : UInt8)] = [b]
  congr 1
  apply UInt8.toNat_inj.1
  show 88 = b.toNat
  omega
theorem wtd_last (s : ByteArray) (v : Nat) (hv : v < 11) : wtdFrom (s ++ lastB v) 0 (s.size + 1) 0 = wtdFrom (s ++ lastB 0) 0 s.size 0 + (v : Int) := by
 have hsz : (s ++ lastB v).size = s.size + 1 := by rw [ByteArray.size_append, lastB_size]
 have hsz0 : (s ++ lastB 0).size = s.size + 1 := by rw [ByteArray.size_append, lastB_size]
 have h9 := idVal_last s v hv
 rw [wtdFrom_succ (s ++ lastB v) s.size 0 0, hsz]
 have e : (0 : Int) + ((s.size : Nat) : Int) = ((s.size : Nat) : Int) := by omega
 rw [e, h9, wtdFrom_congr (s ++ lastB v) (s ++ lastB 0) (by omega) s.size 0 0 (fun j h0 h1 => by
  rw [bt_append_left s _ j h0 (by omega), bt_append_left s _ j h0 (by omega)])]
 have e2 : ((s.size + 1 : Nat) : Int) - (s.size : Int) = 1 := by omega
 rw [e2, Int.mul_one]
theorem alt_last (s : ByteArray) (hz : s.size = 12) (v : Nat) (hv : v < 11) : altFrom (s ++ lastB v) 0 13 0 = altFrom (s ++ lastB 0) 0 12 0 + (v : Int) := by
 have h12 := idVal_last s v hv
 rw [hz] at h12
 rw [altFrom_succ (s ++ lastB v) 12 0 0]
 have e : (0 : Int) + ((12 : Nat) : Int) = ((12 : Nat) : Int) := by omega
 rw [e, h12, altFrom_congr (s ++ lastB v) (s ++ lastB 0) 12 0 0 (fun j h0 h1 => by
  rw [bt_append_left s _ j h0 (by omega), bt_append_left s _ j h0 (by omega)])]
 omega
theorem perFrom_congr (s t : ByteArray) : ∀ (d : Nat) (i a : Int), (∀ j : Int, i ≤ j → j < i + d → bt s j = bt t j) → perFrom s i d a = perFrom t i d a
 | 0, i, a, _ => rfl
 | d + 1, i, a, h => by
  rw [perFrom, perFrom, h i (by omega) (by omega)]
  exact perFrom_congr s t d (i + 1) _ (fun j h1 h2 => h j (by omega) (by omega))
theorem per_last (s : ByteArray) (hz : s.size = 15) (v w : Nat) : per15 (s ++ lastB v) = per15 (s ++ lastB w) := by
 unfold per15
 rw [perFrom_congr (s ++ lastB v) (s ++ lastB w) 15 0 0 (fun j h0 h1 => by
  rw [bt_append_left s _ j h0 (by omega), bt_append_left s _ j h0 (by omega)])]
theorem isId_size {kind : Int} {s : ByteArray} {v : Nat} (h : isId kind (s ++ lastB v) = true) : (s.size : Int) = idLen kind - 1 ∧ 1 ≤ kind ∧ kind ≤ 4 := by
 obtain ⟨h1, h2, h3⟩ := idForm_size (isId_form h)
 rw [ByteArray.size_append, lastB_size] at h1
 exact ⟨by omega, h2, h3⟩
theorem isId_uniq {kind : Int} {s : ByteArray} {v w : Nat} (hv : v < 11) (hw : w < 11) (h1 : isId kind (s ++ lastB v) = true) (h2 : isId kind (s ++ lastB w) = true) : v = w := by
 obtain ⟨hz, k1, k4⟩ := isId_size h1
 obtain ⟨p1, p2, p3, p4⟩ := isId_parts h1
 obtain ⟨q1, q2, q3, q4⟩ := isId_parts h2
 have z1 : (s ++ lastB v).size = s.size + 1 := by rw [ByteArray.size_append, lastB_size]
 have z2 : (s ++ lastB w).size = s.size + 1 := by rw [ByteArray.size_append, lastB_size]
 have hk : kind = 1 ∨ kind = 2 ∨ kind = 3 ∨ kind = 4 := by omega
 have wt : wtdFrom (s ++ lastB v) 0 (s ++ lastB v).size 0 % 11 = 0 → wtdFrom (s ++ lastB w) 0 (s ++ lastB w).size 0 % 11 = 0 → v = w := by
  intro a b
  rw [z1, wtd_last s v hv] at a
  rw [z2, wtd_last s w hw] at b
  omega
 rcases hk with e | e | e | e
 ·exact wt (p4 (by omega) (by omega)) (q4 (by omega) (by omega))
 ·subst e
  have hz' : s.size = 12 := by have : idLen 2 = 13 := rfl; omega
  have a := (p2 rfl).1
  have b := (q2 rfl).1
  rw [z1, hz', alt_last s hz' v hv] at a
  rw [z2, hz', alt_last s hz' w hw] at b
  have d1 : ∀ x, x < 11 → idForm 2 (s ++ lastB x) = true → x < 10 := by
   intro x hx hf
   have := idForm_at hf (s.size : Int) (by omega) (by rw [ByteArray.size_append, lastB_size]; omega)
   unfold idAt isDg at this
   rw [bt_last s x hx] at this
   rcases Nat.lt_or_ge x 10 with g | g
   ·exact g
   ·rw [if_neg (by omega)] at this
    simp at this
  have := d1 v hv p1
  have := d1 w hw q1
  omega
 ·exact wt (p4 (by omega) (by omega)) (q4 (by omega) (by omega))
 ·subst e
  have hz' : s.size = 15 := by have : idLen 4 = 16 := rfl; omega
  have a := p3 rfl
  have b := q3 rfl
  have e1 := idVal_last s v hv
  have e2 := idVal_last s w hw
  have e15 : ((s.size : Nat) : Int) = 15 := by omega
  rw [e15] at e1 e2
  rw [e1] at a
  rw [e2, per_last s hz' w v] at b
  omega
end Go.Proofs.YtpnjnlcjofaglaaDoor.P
