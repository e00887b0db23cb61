/- The draws of identifiers come to something: an identifier of its kind. Conditions: those of each lemma. -/
import Derived.Test.YtpnjnlcjofaglaaDoorZPx1
import Derived.Test.YtpnjnlcjofaglaaDoorZPx4
import Derived.Test.YtpnjnlcjofaglaaDoorZPx5
import Derived.Test.YtpnjnlcjofaglaaDoorZLBase
import Derived.Test.YtpnjnlcjofaglaaDoorZLComplete
import Derived.Test.YtpnjnlcjofaglaaDoorZLDraw
import Derived.Test.YtpnjnlcjofaglaaDoorZLIdCompl
import Derived.Test.YtpnjnlcjofaglaaDoorZLIdent
import Derived.Test.YtpnjnlcjofaglaaDoorZLLastB
import Derived.Test.YtpnjnlcjofaglaaDoorZLNum
import Derived.Test.YtpnjnlcjofaglaaDoorZLUniq
namespace Go.Proofs.YtpnjnlcjofaglaaDoor.P
open Go.RowKit Go.Proofs.YtpnjnlcjofaglaaDoorW.PrintWords Go.Proofs.YtpnjnlcjofaglaaDoorW.PrintLast Go.Proofs.YtpnjnlcjofaglaaDoorW.PrintMore
set_option linter.unusedVariables false
set_option linter.unusedSimpArgs false
theorem numB_last {x : Int} (h0 : 0 ≤ x) (h9 : x < 10) : numB x = lastB x.toNat := by
 unfold numB Lib.itoa lastB
 rw [if_neg (by omega), if_pos (by omega), dec_small _ (by omega)]
 rfl
theorem digits24_l0 {l : List Int} (hb : Byt l) (d : Nat) : ∀ (k : Nat) (n a sd : Int) (s : ByteArray), n = (d : Int) → d ≤ 1000 → 0 ≤ a → a ≤ 1000000000000000000 - 2 * d → s.size ≤ 1000 → d + 30 < k → allDg s →
  Tot (spec_l1Cur_digits24.l0 k n s l a sd) (fun r => r.1.size = s.size + d ∧ allDg r.1 ∧ a ≤ r.2.1 ∧ r.2.1 ≤ a + 2 * d) := by
 have key : ∀ (d k : Nat) (n a sd : Int) (s : ByteArray), n = (d : Int) → d ≤ 1000 → 0 ≤ a → a ≤ 1000000000000000000 - 2 * d → s.size + d ≤ 2000 → d + 30 < k → allDg s →
   Tot (spec_l1Cur_digits24.l0 k n s l a sd) (fun r => r.1.size = s.size + d ∧ allDg r.1 ∧ a ≤ r.2.1 ∧ r.2.1 ≤ a + 2 * d) := by
  intro d
  induction d with
  | zero =>
   intro k n a sd s hn _ h0 h1 hs hk hd
   obtain ⟨k, rfl⟩ := succ_of hk
   rw [spec_l1Cur_digits24.l0]
   exact Tot.neg (by omega) (Tot.some ⟨rfl, hd, by dsimp only; omega, by dsimp only; omega⟩)
  | succ d ih =>
   intro k n a sd s hn hle h0 h1 hs hk hd
   obtain ⟨k, rfl⟩ := succ_of hk
   rw [spec_l1Cur_digits24.l0]
   have hw : wrap64 (n - 1) = (d : Int) := by rw [w64 (by omega) (by omega)]; omega
   rw [hw]
   refine Tot.pos (by omega) (Tot.bind (pick_t hb _ _ _ h0 (by omega)) (fun x hx => ?_))
   obtain ⟨x0, x1, p1, q1⟩ := hx
   have hx10 : x.1 < 10 := by omega
   rw [specNum x.1 (by omega) (by omega) k (by omega), Option.bind_some, numB_last x0 hx10]
   have hz : (s ++ lastB x.1.toNat).size = s.size + 1 := by rw [ByteArray.size_append, lastB_size]
   refine Tot.pos (by rw [lastB_size]; omega) ((ih k _ _ _ (s ++ lastB x.1.toNat) rfl (by omega) (by omega) (by omega) (by omega) (by omega) (allDg_append hd (allDg_last (by omega)))).mono (fun r hr => ?_))
   obtain ⟨r1, r2, r3, r4⟩ := hr
   exact ⟨by omega, r2, by omega, by omega⟩
 intro k n a sd s h1 h2 h3 h4 h5 h6 h7
 exact key d k n a sd s h1 h2 h3 h4 (by omega) h6 h7
theorem digits24_t {l : List Int} (hb : Byt l) (n : Nat) (hn : n ≤ 1000) (a sd : Int) (h0 : 0 ≤ a) (h1 : a ≤ 900000000000000000) (k : Nat) (hk : n + 30 < k) :
  Tot (spec_l1Cur_digits24.f k l a sd (n : Int)) (fun r => r.1.size = n ∧ allDg r.1 ∧ a ≤ r.2.1 ∧ r.2.1 ≤ a + 2 * n) := by
 unfold spec_l1Cur_digits24.f
 refine (digits24_l0 hb n k _ _ _ _ rfl hn h0 (by omega) (by decide) hk (fun j g0 g1 => by
  have : (⟨#[]⟩ : ByteArray).size = 0 := rfl
  rw [this] at g1
  omega)).mono (fun r hr => ?_)
 obtain ⟨r1, r2⟩ := hr
 have : (⟨#[]⟩ : ByteArray).size = 0 := rfl
 exact ⟨by omega, r2⟩
theorem len24 {kind : Int} (h1 : 1 ≤ kind) (h4 : kind ≤ 4) : spec_l24Length.f kind = some (idLen kind) := by
 have hk : kind = 1 ∨ kind = 2 ∨ kind = 3 ∨ kind = 4 := by omega
 rcases hk with rfl | rfl | rfl | rfl <;> decide
theorem id24_t {l : List Int} (hb : Byt l) (kind : Int) (h1 : 1 ≤ kind) (h4 : kind ≤ 4) (a sd : Int) (h0 : 0 ≤ a) (ha : a ≤ 800000000000000000) (k : Nat) (hk : 200 < k) :
  Tot (spec_l1Cur_id24.f k l a sd kind) (fun r => isId kind r.1 = true ∧ a ≤ r.2.1 ∧ r.2.1 ≤ a + 50) := by
 have hL := idLen_le kind
 have hL8 : 8 ≤ idLen kind := by
  have hk : kind = 1 ∨ kind = 2 ∨ kind = 3 ∨ kind = 4 := by omega
  rcases hk with rfl | rfl | rfl | rfl <;> decide
 have hw : wrap64 (idLen kind - 1) = (((idLen kind - 1).toNat : Nat) : Int) := by rw [w64 (by omega) (by omega)]; omega
 unfold spec_l1Cur_id24.f
 rw [len24 h1 h4, Option.bind_some, hw]
 refine Tot.bind (digits24_t hb _ (by omega) a sd h0 (by omega) k (by omega)) (fun x hx => ?_)
 obtain ⟨z1, z2, p1, q1⟩ := hx
 have fin : ∀ (s : ByteArray) (b c : Int), s.size ≤ 100 → a ≤ b → b ≤ a + 50 → (∃ t, compl kind s 0 11 = some t) → Tot ((spec_l24Complete.f k kind s).bind fun t => some (t, b, c)) (fun r : ByteArray × Int × Int => isId kind r.1 = true ∧ a ≤ r.2.1 ∧ r.2.1 ≤ a + 50) := by
  intro s b c hs hb1 hb2 ht
  obtain ⟨t, ht⟩ := ht
  rw [specComplete kind s (by omega) k (by omega), ht, Option.bind_some]
  exact Tot.some ⟨(compl_is ht).1, hb1, hb2⟩
 refine Tot.ite (fun e => ?_) (fun e => ?_)
 ·subst e
  have hz : x.1.size = 12 := by have : idLen 2 = 13 := rfl; omega
  refine Tot.bind (of_t hb _ _ _ (by decide) (by omega) (by omega)) (fun y hy => ?_)
  obtain ⟨m, p2, q2⟩ := hy
  have hy3 : y.1 = (⟨#[57, 55, 56]⟩ : ByteArray) ∨ y.1 = (⟨#[57, 55, 57]⟩ : ByteArray) := by
   simp only [List.mem_cons, List.not_mem_nil, or_false] at m
   rcases m with m | m | m
   ·exact Or.inl m
   ·exact Or.inl m
   ·exact Or.inr m
  clear m
  have hr : (x.1.extract 3 x.1.size).size = 9 := by rw [ByteArray.size_extract]; omega
  have hrd : allDg (x.1.extract 3 x.1.size) := allDg_drop 3 _ (Nat.le_refl _) z2
  generalize x.1.extract 3 x.1.size = R at *
  have hys : y.1.size = 3 := by rcases hy3 with e | e <;> (rw [e]; rfl)
  have hyd : allDg y.1 := by
   intro j g0 g1
   rw [hys] at g1
   have : j = 0 ∨ j = 1 ∨ j = 2 := by omega
   rcases hy3 with e | e <;> rw [e] <;> rcases this with rfl | rfl | rfl <;> decide +kernel
  refine Tot.pos (by omega) (Tot.pos (by omega) (fin _ _ _ (by rw [ByteArray.size_append]; omega) (by omega) (by omega) ?_))
  refine compl_alt (by rw [ByteArray.size_append]; omega) (allDg_append hyd hrd) (fun v hv => ?_)
  have hpre : (y.1 ++ R ++ lastB v).data.toList.take 3 = y.1.data.toList := by
   rw [ByteArray.append_assoc, toL_app, List.take_append_of_le_length (by rw [data_length]; omega), List.take_of_length_le (by rw [data_length]; omega)]
  rcases hy3 with e | e
  ·left
   unfold pre978
   rw [Go.ByteArray.toList_eq, beq_iff_eq, toL_ext0, hpre, e]
  ·right
   unfold pre979
   rw [Go.ByteArray.toList_eq, beq_iff_eq, toL_ext0, hpre, e]
 ·refine fin x.1 _ _ (by omega) (by omega) (by omega) ?_
  have hk : kind = 1 ∨ kind = 3 ∨ kind = 4 := by omega
  rcases hk with rfl | rfl | rfl
  ·exact compl_wtd (Or.inl rfl) (by omega) z2
  ·exact compl_wtd (Or.inr rfl) (by omega) z2
  ·exact compl_per (by have : idLen 4 = 16 := rfl; omega) z2
theorem kind24_t {l : List Int} (hb : Byt l) (a sd : Int) (h0 : 0 ≤ a) (ha : a ≤ 800000000000000000) : Tot (spec_l1Cur_kind24.f l a sd) (fun r => 1 ≤ r.1 ∧ r.1 ≤ 4 ∧ a ≤ r.2.1 ∧ r.2.1 ≤ a + 2) := by
 unfold spec_l1Cur_kind24.f
 refine Tot.bind (pick_t hb _ _ _ h0 (by omega)) (fun x hx => ?_)
 obtain ⟨x0, x1, p1, q1⟩ := hx
 have hw : wrap64 (1 + x.1) = 1 + x.1 := w64 (by omega) (by omega)
 rw [hw]
 exact Tot.some ⟨by dsimp only; omega, by dsimp only; omega, p1, q1⟩
theorem isId_le {kind : Int} {s : ByteArray} (h : isId kind s = true) : 8 ≤ s.size ∧ s.size ≤ 16 := by
 obtain ⟨hz, h1, h4⟩ := idForm_size (isId_form h)
 have hk : kind = 1 ∨ kind = 2 ∨ kind = 3 ∨ kind = 4 := by omega
 rcases hk with rfl | rfl | rfl | rfl
 ·have : idLen 1 = 10 := rfl; omega
 ·have : idLen 2 = 13 := rfl; omega
 ·have : idLen 3 = 8 := rfl; omega
 ·have : idLen 4 = 16 := rfl; omega
end Go.Proofs.YtpnjnlcjofaglaaDoor.P
