/- An identifier's kind is found again, its written form is read back, and its last character is the only one that repairs it. Conditions: those of each lemma. -/
import Derived.Test.YtpnjnlcjofaglaaDoorZPx6
import Derived.Test.YtpnjnlcjofaglaaDoorZLBase
import Derived.Test.YtpnjnlcjofaglaaDoorZLBytesU
import Derived.Test.YtpnjnlcjofaglaaDoorZLCompact
import Derived.Test.YtpnjnlcjofaglaaDoorZLIdDraw
import Derived.Test.YtpnjnlcjofaglaaDoorZLIdent
import Derived.Test.YtpnjnlcjofaglaaDoorZLIdentK
import Derived.Test.YtpnjnlcjofaglaaDoorZLLastB
import Derived.Test.YtpnjnlcjofaglaaDoorZLPieces
import Derived.Test.YtpnjnlcjofaglaaDoorZLRepair
import Derived.Test.YtpnjnlcjofaglaaDoorZLUniq
namespace Go.Proofs.YtpnjnlcjofaglaaDoor.P
open Go.RowKit Go.Proofs.YtpnjnlcjofaglaaDoorW.PrintWords Go.Proofs.YtpnjnlcjofaglaaDoorW.PrintLast Go.Proofs.YtpnjnlcjofaglaaDoorW.PrintMore
set_option linter.unusedVariables false
set_option linter.unusedSimpArgs false
theorem idLen_inj {a b : Int} (ha : 1 ≤ a ∧ a ≤ 4) (hb : 1 ≤ b ∧ b ≤ 4) (h : idLen a = idLen b) : a = b := by
 have h1 : a = 1 ∨ a = 2 ∨ a = 3 ∨ a = 4 := by omega
 have h2 : b = 1 ∨ b = 2 ∨ b = 3 ∨ b = 4 := by omega
 have e1 : idLen 1 = 10 := rfl
 have e2 : idLen 2 = 13 := rfl
 have e3 : idLen 3 = 8 := rfl
 have e4 : idLen 4 = 16 := rfl
 rcases h1 with rfl | rfl | rfl | rfl <;> rcases h2 with rfl | rfl | rfl | rfl <;> omega
theorem idKindFrom_hit (s : ByteArray) (kind : Int) (h : isId kind s = true) : ∀ (d : Nat) (i : Int), i ≤ kind → kind < i + d → idKindFrom s i d ≠ 0 ∨ i ≤ 0
 | 0, i, h1, h2 => by omega
 | d + 1, i, h1, h2 => by
  by_cases h0 : i ≤ 0
  ·exact Or.inr h0
  ·rw [idKindFrom]
   split
   ·exact Or.inl (by omega)
   ·rename_i hn
    by_cases e : i = kind
    ·exact absurd (e ▸ h) hn
    ·rcases idKindFrom_hit s kind h d (i + 1) (by omega) (by omega) with q | q
     ·exact Or.inl q
     ·omega
theorem kindOf_id {kind : Int} {s : ByteArray} (h : isId kind s = true) : kindOf s = kind := by
 obtain ⟨hz, h1, h4⟩ := idForm_size (isId_form h)
 have hn : kindOf s ≠ 0 := by
  rcases idKindFrom_hit s kind h 4 1 h1 (by omega) with q | q
  ·exact q
  ·omega
 rcases kindOf_cases s with q | ⟨q1, q4, qi⟩
 ·exact absurd q hn
 ·obtain ⟨qz, _, _⟩ := idForm_size (isId_form qi)
  exact idLen_inj ⟨q1, q4⟩ ⟨h1, h4⟩ (by omega)
def wr3 (s : ByteArray) : ByteArray := ((s.extract 0 4) ++ (⟨#[45]⟩ : ByteArray)) ++ (s.extract 4 s.size)
def wr4 (s : ByteArray) : ByteArray := ((((((s.extract 0 4) ++ (⟨#[45]⟩ : ByteArray)) ++ (s.extract 4 8)) ++ (⟨#[45]⟩ : ByteArray)) ++ (s.extract 8 12)) ++ (⟨#[45]⟩ : ByteArray)) ++ (s.extract 12 s.size)
def wrR (s : ByteArray) : ByteArray := if kindOf s = 3 then wr3 s else if kindOf s = 4 then wr4 s else s
theorem writtenBoth {kind : Int} {s : ByteArray} (h : isId kind s = true) (k : Nat) (hk : 100 < k) : spec_WrittenForm.f k s = some (wrR s, true) ∧ impl_WrittenForm.f k s = some (wrR s, true) := by
 have hle := isId_le h
 have hkd := kindOf_id h
 obtain ⟨hz, h1, h4⟩ := idForm_size (isId_form h)
 unfold spec_WrittenForm.f impl_WrittenForm.f wrR wr3 wr4
 rw [specKind s (by omega) _ (by omega), implKind s (by omega) _ (by omega)]
 simp only [Option.bind_some]
 have : kindOf s = 1 ∨ kindOf s = 2 ∨ kindOf s = 3 ∨ kindOf s = 4 := by omega
 have c1 : (⟨#[45]⟩ : ByteArray).size = 1 := rfl
 rw [← hkd] at hz
 rcases this with e | e | e | e <;> rw [e] at hz ⊢
 ·simp
 ·simp
 ·have hz' : (s.size : Int) = 8 := hz
  have hn : s.size = 8 := by omega
  simp [hn, c1, ByteArray.size_extract]
 ·have hz' : (s.size : Int) = 16 := hz
  have hn : s.size = 16 := by omega
  simp [hn, c1, ByteArray.size_extract]
def noHy (l : List UInt8) : Prop := ∀ b ∈ l, b ≠ 45
theorem noHy_id {kind : Int} {s : ByteArray} (h : isId kind s = true) : noHy s.data.toList := by
 intro b hb
 obtain ⟨i, hi, hx⟩ := List.getElem_of_mem hb
 have hi' : i < s.size := by rw [← data_length]; exact hi
 obtain ⟨c, hc, hbt⟩ := drop_bt s i hi'
 have hcb : c = b := by
  have := congrArg List.head? hc
  rw [List.drop_eq_getElem_cons hi, hx] at this
  simpa using this.symm
 subst hcb
 have ha := idForm_at (isId_form h) (i : Int) (by omega) (by omega)
 unfold idAt isDg at ha
 rw [hbt] at ha
 simp only [Bool.or_eq_true, Bool.and_eq_true, decide_eq_true_eq] at ha
 rintro rfl
 have e : ((45 : UInt8).toNat : Int) = 45 := rfl
 omega
theorem bad_seg : ∀ (a : List UInt8), noHy a → ∀ (p : Bool) (l : List UInt8), a ≠ [] → bad p (a ++ l) = bad false l
 | [], _, _, _, h => absurd rfl h
 | b :: a, hn, p, l, _ => by
  rw [List.cons_append, bad, if_neg (hn b (List.mem_cons_self ..))]
  cases a with
  | nil => rfl
  | cons c a => exact bad_seg (c :: a) (fun x hx => hn x (List.mem_cons_of_mem _ hx)) false l (by simp)
theorem filt_seg (a : List UInt8) (h : noHy a) : a.filter (fun b => b != 45) = a := by
 rw [List.filter_eq_self]
 intro x hx
 exact bne_iff_ne.2 (h x hx)
theorem noHy_take {a : List UInt8} (h : noHy a) (n : Nat) : noHy (a.take n) := fun b hb => h b (List.mem_of_mem_take hb)
theorem noHy_drop {a : List UInt8} (h : noHy a) (n : Nat) : noHy (a.drop n) := fun b hb => h b (List.mem_of_mem_drop hb)
theorem hy_toL : (⟨#[45]⟩ : ByteArray).data.toList = [45] := rfl
theorem bad_hy (l : List UInt8) : bad false (45 :: l) = bad true l := by rw [bad, if_pos rfl, Bool.false_or]
theorem filt_hy (l : List UInt8) : (45 :: l).filter (fun b => b != 45) = l.filter (fun b => b != 45) := rfl
theorem bad_seg1 {a : List UInt8} (h : noHy a) (p : Bool) (hn : a ≠ []) : bad p a = false := by
 have := bad_seg a h p [] hn
 rw [List.append_nil] at this
 rw [this, bad]
theorem ofLs_self (s : ByteArray) : ofLs s.data.toList = s := toL_same rfl
theorem finC_id {kind : Int} {s : ByteArray} (h : isId kind s = true) : finC s = (s, kind, true) := by
 obtain ⟨_, h1, _⟩ := idForm_size (isId_form h)
 unfold finC
 rw [kindOf_id h, if_neg (by omega)]
theorem compact_of {kind : Int} {s w : ByteArray} (h : isId kind s = true) (hz : w.size ≤ 30) (hb : bad true w.data.toList = false) (hf : w.data.toList.filter (fun b => b != 45) = s.data.toList) : compactR w = (s, kind, true) := by
 unfold compactR
 rw [if_neg (by omega), hb, if_neg Bool.false_ne_true, hf, ofLs_self, finC_id h]
theorem ne_of_len {a : List UInt8} (h : 0 < a.length) : a ≠ [] := by
 intro e
 rw [e] at h
 exact absurd h (Nat.lt_irrefl _)
theorem compactBack {kind : Int} {s : ByteArray} (h : isId kind s = true) : compactR (wrR s) = (s, kind, true) := by
 have hle := isId_le h
 have hn := noHy_id h
 have hlen : s.data.toList.length = s.size := data_length s
 have c1 : (⟨#[45]⟩ : ByteArray).size = 1 := rfl
 unfold wrR
 by_cases k3 : kindOf s = 3
 ·rw [if_pos k3]
  have hw : (wr3 s).data.toList = s.data.toList.take 4 ++ (45 :: s.data.toList.drop 4) := by
   unfold wr3
   rw [toL_cat, toL_cat, toL_cut0, toL_cutE, hy_toL, List.append_assoc]
   rfl
  refine compact_of h ?_ ?_ ?_
  ·have := congrArg List.length hw
   rw [data_length, List.length_append, List.length_cons, List.length_take, List.length_drop, hlen] at this
   omega
  ·rw [hw, bad_seg _ (noHy_take hn 4) _ _ (ne_of_len (by rw [List.length_take, hlen]; omega)), bad_hy, bad_seg1 (noHy_drop hn 4) _ (ne_of_len (by rw [List.length_drop, hlen]; omega))]
  ·rw [hw, List.filter_append, filt_hy, filt_seg _ (noHy_take hn 4), filt_seg _ (noHy_drop hn 4), List.take_append_drop]
 ·rw [if_neg k3]
  by_cases k4 : kindOf s = 4
  ·rw [if_pos k4]
   have hk4 : kind = 4 := by rw [← kindOf_id h]; exact k4
   have hz16 : s.size = 16 := by
    obtain ⟨hz, _, _⟩ := idForm_size (isId_form h)
    rw [hk4] at hz
    have : idLen 4 = 16 := rfl
    omega
   have hw : (wr4 s).data.toList = s.data.toList.take 4 ++ (45 :: ((s.data.toList.drop 4).take 4 ++ (45 :: ((s.data.toList.drop 8).take 4 ++ (45 :: s.data.toList.drop 12))))) := by
    unfold wr4
    simp only [toL_cat, toL_cut0, toL_cutE, hy_toL, toL_cut s 4 8, toL_cut s 8 12, List.append_assoc]
    rfl
   have hfl : s.data.toList.take 4 ++ ((s.data.toList.drop 4).take 4 ++ ((s.data.toList.drop 8).take 4 ++ s.data.toList.drop 12)) = s.data.toList := by
    have e1 : s.data.toList.drop 12 = (s.data.toList.drop 8).drop 4 := by rw [List.drop_drop]
    have e2 : s.data.toList.drop 8 = (s.data.toList.drop 4).drop 4 := by rw [List.drop_drop]
    rw [e1, List.take_append_drop, e2, List.take_append_drop, List.take_append_drop]
   refine compact_of h ?_ ?_ ?_
   ·have := congrArg List.length hw
    rw [data_length] at this
    simp only [List.length_append, List.length_cons, List.length_take, List.length_drop, hlen] at this
    omega
   ·have g1 : ∀ n, n < 16 → (s.data.toList.drop n).take 4 ≠ [] := fun n hn' => ne_of_len (by rw [List.length_take, List.length_drop, hlen]; omega)
    rw [hw, bad_seg _ (noHy_take hn 4) _ _ (ne_of_len (by rw [List.length_take, hlen]; omega)), bad_hy, bad_seg _ (noHy_take (noHy_drop hn 4) 4) _ _ (g1 4 (by omega)), bad_hy, bad_seg _ (noHy_take (noHy_drop hn 8) 4) _ _ (g1 8 (by omega)), bad_hy, bad_seg1 (noHy_drop hn 12) _ (ne_of_len (by rw [List.length_drop, hlen]; omega))]
   ·rw [hw, List.filter_append, filt_hy, List.filter_append, filt_hy, List.filter_append, filt_hy, filt_seg _ (noHy_take hn 4), filt_seg _ (noHy_take (noHy_drop hn 4) 4), filt_seg _ (noHy_take (noHy_drop hn 8) 4), filt_seg _ (noHy_drop hn 12), hfl]
  ·rw [if_neg k4]
   exact compact_of h (by omega) (bad_seg1 hn _ (ne_of_len (by omega))) (filt_seg _ hn)
theorem repI_after (kind : Int) (s t : ByteArray) (p v : Nat) (hu : ∀ j, j < 11 → isId kind (putAt s p j) = true → j = v) : ∀ (d j : Nat), j + d = 11 → v < j → repI kind s p d j t 1 = (t, true)
 | 0, j, _, _ => by rw [repI, if_pos rfl]
 | d + 1, j, hd, hj => by
  rw [repI, if_neg (fun h => by have := hu j (by omega) h; omega)]
  exact repI_after kind s t p v hu d (j + 1) (by omega) (by omega)
theorem repI_before (kind : Int) (s : ByteArray) (p v : Nat) (hv : v < 11) (hu : ∀ j, j < 11 → isId kind (putAt s p j) = true → j = v) (hi : isId kind (putAt s p v) = true) : ∀ (d j : Nat), j + d = 11 → j ≤ v → repI kind s p d j (⟨#[]⟩ : ByteArray) 0 = (putAt s p v, true)
 | 0, j, h1, h2 => by omega
 | d + 1, j, hd, hj => by
  rw [repI]
  by_cases e : j = v
  ·subst e
   rw [if_pos hi]
   exact repI_after kind s _ p j hu d (j + 1) (by omega) (by omega)
  ·rw [if_neg (fun h => e (hu j (by omega) h))]
   exact repI_before kind s p v hv hu hi d (j + 1) (by omega) (by omega)
theorem repairBack {kind : Int} {s : ByteArray} (h : isId kind s = true) : repairR kind s ((s.size : Int) - 1) = (s, true) := by
 have hle := isId_le h
 have hf := isId_form h
 obtain ⟨v, hv, hs⟩ := last_split (by omega) (idForm_at hf ((s.size : Int) - 1) (by omega) (by omega))
 unfold repairR
 rw [if_pos ⟨hf, by omega, by omega⟩]
 have hp : ((s.size : Int) - 1).toNat = s.size - 1 := by omega
 rw [hp]
 have hput : ∀ j, putAt s (s.size - 1) j = s.extract 0 (s.size - 1) ++ lastB j := by
  intro j
  rw [← putAt_eq s (s.size - 1) j (by omega)]
  have e : s.size - 1 + 1 = s.size := by omega
  apply toL_same
  rw [e, toL_cat, toL_cutE, List.drop_eq_nil_of_le (by rw [data_length]; omega), List.append_nil]
 have hiv : isId kind (putAt s (s.size - 1) v) = true := by rw [hput, ← hs]; exact h
 have := repI_before kind s (s.size - 1) v hv (fun j hj hi => by
  rw [hput] at hi
  rw [hput] at hiv
  exact isId_uniq hj hv hi hiv) hiv 11 0 (by omega) (by omega)
 rw [this, hput, ← hs]
end Go.Proofs.YtpnjnlcjofaglaaDoor.P
