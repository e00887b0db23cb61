/- What the program's and the reference's CompleteIdentifier return: one plain function, for strings of at most 1048576 bytes. -/
import Derived.Test.YtpnjnlcjofaglaaDoorZPx1
import Derived.Test.YtpnjnlcjofaglaaDoorZPx2
import Derived.Test.YtpnjnlcjofaglaaDoorZPx4
import Derived.Test.YtpnjnlcjofaglaaDoorZLBase
import Derived.Test.YtpnjnlcjofaglaaDoorZLComplete
import Derived.Test.YtpnjnlcjofaglaaDoorZLIdent
import Derived.Test.YtpnjnlcjofaglaaDoorZLLastB
namespace Go.Proofs.YtpnjnlcjofaglaaDoor.P
open Go.RowKit Go.Proofs.YtpnjnlcjofaglaaDoorW.PrintWords Go.Proofs.YtpnjnlcjofaglaaDoorW.PrintLast Go.Proofs.YtpnjnlcjofaglaaDoorW.PrintMore
set_option linter.unusedVariables false
set_option linter.unusedSimpArgs false
open Classical in
theorem complLoop (kind : Int) (s : ByteArray) (hs : s.size ≤ 2097152) (b : Nat) (R : Option (ByteArray × Bool)) (hR : ∀ k, b < k → ((spec_l24Complete.f k kind s).bind fun t => (some (t, (t.toList != ([] : List UInt8))))) = R) (d : Nat) :
  ∀ (k i : Nat), s.size - i = d → d + b + 1 < k → spec_CompleteIdentifier.l0 k kind s i = if (∀ j : Int, (i : Int) ≤ j → j < s.size → isDg (bt s j) = true) then R else some (⟨#[]⟩, false) := by
 induction d with
 | zero =>
  intro k i hd hk
  obtain ⟨k, rfl⟩ := succ_of hk
  simp only [spec_CompleteIdentifier.l0]
  rw [if_neg (by omega), hR k (by omega), if_pos (fun j h1 h2 => by omega)]
 | succ d ih =>
  intro k i hd hk
  obtain ⟨k, rfl⟩ := succ_of hk
  have hlt : i < s.size := by omega
  have h := ih k (i + 1) (by omega) (by omega)
  have e6 : spec_l6Digit.f (bt s i) = some (isDg (bt s i)) := by
   unfold spec_l6Digit.f isDg
   by_cases h1 : bt s i ≥ 48
   ·rw [if_pos h1]
    have : decide (48 ≤ bt s i) = true := decide_eq_true h1
    rw [this]; rfl
   ·rw [if_neg h1]
    have : decide (48 ≤ bt s i) = false := decide_eq_false h1
    rw [this]; rfl
  simp only [spec_CompleteIdentifier.l0, w64_succ hlt (by omega), h, e6]
  rw [if_pos (by omega), if_pos (by omega)]
  simp only [Option.bind_some]
  cases hd' : isDg (bt s i) with
  | false =>
   rw [if_neg (by simp), if_neg (fun hh => by
    have := hh i (by omega) (by omega)
    rw [hd'] at this
    cases this)]
  | true =>
   rw [if_pos rfl]
   by_cases hh : ∀ j : Int, ((i + 1 : Nat) : Int) ≤ j → j < s.size → isDg (bt s j) = true
   ·rw [if_pos hh, if_pos (fun j h1 h2 => by
     by_cases e : j = i
     ·rw [e]; exact hd'
     ·exact hh j (by omega) h2)]
   ·rw [if_neg hh, if_neg (fun h' => hh (fun j h1 h2 => h' j (by omega) h2))]
def complR (kind : Int) (s : ByteArray) : ByteArray × Bool := match compl kind s 0 11 with | some t => (t, true) | none => ((⟨#[]⟩ : ByteArray), false)
open Classical in
theorem complBoth (kind : Int) (s : ByteArray) (hs : s.size ≤ 1048576) (K : Nat) (hK : 2 * s.size + 200 ≤ K) : spec_CompleteIdentifier.f K kind s = some (complR kind s) ∧ impl_CompleteIdentifier.f K kind s = some (complR kind s) := by
  unfold spec_CompleteIdentifier.f impl_CompleteIdentifier.f impl_isIdKind.f impl_inside.f
  -- a string of another length has no completion
  have hno : ∀ v, v < 11 → (s.size : Int) + 1 ≠ idLen kind ∨ ¬ (1 ≤ kind ∧ kind ≤ 4) → isId kind (s ++ lastB v) = false := by
   intro v hv hz
   cases hi : isId kind (s ++ lastB v) with
   | false => rfl
   | true =>
    obtain ⟨h1, h2, h3⟩ := idForm_size (isId_form hi)
    rw [ByteArray.size_append, lastB_size] at h1
    omega
  have hnd : ∀ v, v < 11 → ¬ (∀ j : Int, 0 ≤ j → j < s.size → isDg (bt s j) = true) → isId kind (s ++ lastB v) = false := by
   intro v hv hz
   cases hi : isId kind (s ++ lastB v) with
   | false => rfl
   | true =>
    refine absurd (fun j h0 h1 => ?_) hz
    have hf := isId_form hi
    have := idForm_at hf j h0 (by rw [ByteArray.size_append, lastB_size]; omega)
    unfold idAt at this
    rw [bt_append_left s _ j h0 h1, ByteArray.size_append, lastB_size] at this
    simp only [Bool.or_eq_true, Bool.and_eq_true, decide_eq_true_eq] at this
    rcases this with h | ⟨⟨_, h⟩, _⟩
    ·exact h
    ·omega
  have hsm : s.size ≤ 2097151 := by omega
  ·have hsp : ∀ k, s.size + 60 < k → ((spec_l24Complete.f k kind s).bind fun t => (some (t, (t.toList != ([] : List UInt8))))) = some ((compl kind s 0 11).getD ⟨#[]⟩, (((compl kind s 0 11).getD ⟨#[]⟩).toList != ([] : List UInt8))) := by
    intro k hk
    rw [specComplete kind s hsm k (by omega)]
    rfl
   have hl := complLoop kind s (by omega) (s.size + 60) _ hsp s.size K 0 (by omega) (by omega)
   simp only [Int.natCast_zero] at hl
   rw [hl]
   have he0 : ((⟨#[]⟩ : ByteArray).toList != ([] : List UInt8)) = false := by decide +kernel
   -- the reference's answer, either way
   have hspec : (if (∀ j : Int, 0 ≤ j → j < s.size → isDg (bt s j) = true) then some ((compl kind s 0 11).getD ⟨#[]⟩, (((compl kind s 0 11).getD ⟨#[]⟩).toList != ([] : List UInt8))) else some ((⟨#[]⟩ : ByteArray), false)) = some (complR kind s) := by
    unfold complR
    cases hc : compl kind s 0 11 with
    | none => simp [he0]
    | some t =>
     obtain ⟨hi, v, _, hv, rfl⟩ := compl_is hc
     have hdg : ∀ j : Int, 0 ≤ j → j < s.size → isDg (bt s j) = true := by
      rcases Classical.em (∀ j : Int, 0 ≤ j → j < s.size → isDg (bt s j) = true) with h | h
      ·exact h
      ·rw [hnd v (by omega) h] at hi
       cases hi
     rw [if_pos hdg]
     have hne : ((s ++ lastB v).toList != ([] : List UInt8)) = true := by
      rw [bne_iff_ne, Go.ByteArray.toList_eq]
      intro h0
      have : (s ++ lastB v).size = 0 := by rw [size_data, h0]; rfl
      rw [ByteArray.size_append, lastB_size] at this
      omega
     simp [hne]
   rw [hspec]
   refine ⟨rfl, ?_⟩
   unfold complR
   by_cases hk : 1 ≤ kind ∧ kind ≤ 4
   ·rw [if_pos hk.1]
    have g4 : decide (kind ≤ 4) = true := decide_eq_true hk.2
    rw [g4]
    simp only [Option.bind_some, if_true]
    have hlen : impl_idLength.f kind = some (idLen kind) := by
     have : kind = 1 ∨ kind = 2 ∨ kind = 3 ∨ kind = 4 := by omega
     rcases this with rfl | rfl | rfl | rfl <;> rfl
    have hle := idLen_le kind
    rw [hlen]
    simp only [Option.bind_some]
    rw [w64 (x := idLen kind - 1) (by omega) (by omega)]
    by_cases hz : (s.size : Int) = idLen kind - 1
    ·rw [if_pos hz, implComplete kind s (by omega) hk.1 hk.2 _ (by omega)]
     cases compl kind s 0 11 <;> simp
    ·rw [if_neg hz, compl_none (fun v hv => hno v hv (.inl (by omega))) (by omega)]
   ·rw [compl_none (fun v hv => hno v hv (.inr hk)) (by omega)]
    by_cases h1 : kind ≥ 1
    ·rw [if_pos h1]
     have g4 : decide (kind ≤ 4) = false := decide_eq_false (by omega)
     rw [g4]
     simp
    ·rw [if_neg h1]
     simp
theorem complR_is {kind : Int} {s : ByteArray} (h : (complR kind s).2 = true) : isId kind (complR kind s).1 = true := by
 unfold complR at *
 cases hc : compl kind s 0 11 with
 | none => rw [hc] at h; cases h
 | some t => exact (compl_is hc).1
end Go.Proofs.YtpnjnlcjofaglaaDoor.P
