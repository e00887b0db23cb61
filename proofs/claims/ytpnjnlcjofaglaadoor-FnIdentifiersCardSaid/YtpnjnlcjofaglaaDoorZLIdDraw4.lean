/- The draws of FnIdentifiers come to something short. Conditions: those of each lemma. -/
import Derived.Test.YtpnjnlcjofaglaaDoorZPx6
import Derived.Test.YtpnjnlcjofaglaaDoorZPx7
import Derived.Test.YtpnjnlcjofaglaaDoorZLBase
import Derived.Test.YtpnjnlcjofaglaaDoorZLDraw
import Derived.Test.YtpnjnlcjofaglaaDoorZLDraw2
import Derived.Test.YtpnjnlcjofaglaaDoorZLDraw3
import Derived.Test.YtpnjnlcjofaglaaDoorZLIdBack
import Derived.Test.YtpnjnlcjofaglaaDoorZLIdDraw
import Derived.Test.YtpnjnlcjofaglaaDoorZLIdent
namespace Go.Proofs.YtpnjnlcjofaglaaDoor.P
open Go.RowKit Go.Proofs.YtpnjnlcjofaglaaDoorW.PrintWords Go.Proofs.YtpnjnlcjofaglaaDoorW.PrintLast Go.Proofs.YtpnjnlcjofaglaaDoorW.PrintMore
set_option linter.unusedVariables false
set_option linter.unusedSimpArgs false
theorem drawComplete_t {l : List Int} (hb : Byt l) (k : Nat) (hk : 300 < k) : Tot (spec_DrawCompleteIdentifier.f k l) (fun r => r.2.size ≤ 100) := by
 unfold spec_DrawCompleteIdentifier.f
 refine Tot.bind (kind24_t hb _ _ (by omega) (by omega)) (fun x hx => ?_)
 obtain ⟨x1, x4, p1, q1⟩ := hx
 refine Tot.bind (id24_t hb _ x1 x4 _ _ (by omega) (by omega) k (by omega)) (fun y hy => ?_)
 obtain ⟨i1, p2, q2⟩ := hy
 have hz := isId_le i1
 rw [w64 (x := (y.1.size : Int) - 1) (by omega) (by omega)]
 refine Tot.pos (by omega) (Tot.pos (by omega) ?_)
 have hx : (y.1.extract 0 ((y.1.size : Int) - 1).toNat).size ≤ 16 := by rw [ByteArray.size_extract]; omega
 refine Tot.bind (pick_t hb _ _ _ (by omega) (by omega)) (fun z hz => ?_)
 obtain ⟨_, _, p3, q3⟩ := hz
 refine Tot.ite (fun _ => ?_) (fun _ => Tot.ite (fun _ => ?_) (fun _ => Tot.some (by dsimp only; omega)))
 ·refine Tot.bind (spoilt_t hb _ _ _ _ (by decide) (by omega) (by omega) (by omega)) (fun u hu => Tot.some ?_)
  obtain ⟨u1, _⟩ := hu
  dsimp only
  omega
 ·exact Tot.bind (among_t hb _ _ _ (by decide) (by omega) (by omega)) (fun u hu => Tot.some (by dsimp only; omega))
theorem wrR_size {kind : Int} {s : ByteArray} (h : isId kind s = true) : (wrR s).size ≤ 40 := by
 have hle := isId_le h
 have c1 : (⟨#[45]⟩ : ByteArray).size = 1 := rfl
 unfold wrR wr3 wr4
 split
 ·simp only [ByteArray.size_append, ByteArray.size_extract, c1]
  omega
 ·split
  ·simp only [ByteArray.size_append, ByteArray.size_extract, c1]
   omega
  ·omega
theorem drawCompact_j1 {l : List Int} (hb : Byt l) (k : Nat) (hk : 0 < k) (s : ByteArray) (hs : s.size ≤ 40) (a sd : Int) (h0 : 0 ≤ a) (h1 : a ≤ 1000000) : Tot (spec_DrawCompactForm.j1 k s l a sd) (fun r => r.size ≤ 100) := by
 obtain ⟨k, rfl⟩ : ∃ j, k = j + 1 := ⟨k - 1, by omega⟩
 rw [spec_DrawCompactForm.j1]
 refine Tot.bind (one_t hb _ _ _ (by omega) (by omega)) (fun x hx => ?_)
 obtain ⟨p1, q1⟩ := hx
 refine Tot.ite (fun _ => ?_) (fun _ => Tot.some (by omega))
 refine Tot.bind (spoilt_t hb _ _ _ _ (by decide) (by omega) (by omega) (by omega)) (fun u hu => Tot.some ?_)
 obtain ⟨u1, _⟩ := hu
 omega
theorem drawCompact_j0 {l : List Int} (hb : Byt l) (k : Nat) (hk : 1 < k) (s t : ByteArray) (c : Bool) (hs : s.size ≤ 40) (ht : t.size ≤ 40) (a sd : Int) (h0 : 0 ≤ a) (h1 : a ≤ 1000000) : Tot (spec_DrawCompactForm.j0 k s t c l a sd) (fun r => r.size ≤ 100) := by
 obtain ⟨k, rfl⟩ : ∃ j, k = j + 1 := ⟨k - 1, by omega⟩
 rw [spec_DrawCompactForm.j0]
 exact Tot.ite (fun _ => drawCompact_j1 hb k (by omega) t ht a sd h0 h1) (fun _ => drawCompact_j1 hb k (by omega) s hs a sd h0 h1)
theorem drawCompact_t {l : List Int} (hb : Byt l) (k : Nat) (hk : 300 < k) : Tot (spec_DrawCompactForm.f k l) (fun r => r.size ≤ 100) := by
 unfold spec_DrawCompactForm.f
 refine Tot.bind (kind24_t hb _ _ (by omega) (by omega)) (fun x hx => ?_)
 obtain ⟨x1, x4, p1, q1⟩ := hx
 refine Tot.bind (id24_t hb _ x1 x4 _ _ (by omega) (by omega) k (by omega)) (fun y hy => ?_)
 obtain ⟨i1, p2, q2⟩ := hy
 have hz := isId_le i1
 have hw := wrR_size i1
 rw [(writtenBoth i1 k (by omega)).1, Option.bind_some]
 refine Tot.pos rfl (Tot.bind (one_t hb _ _ _ (by omega) (by omega)) (fun u hu => ?_))
 obtain ⟨p3, q3⟩ := hu
 exact drawCompact_j0 hb k (by omega) _ _ _ (by omega) hw _ _ (by omega) (by omega)
theorem drawSwaps_j0 {l : List Int} (hb : Byt l) (k : Nat) (hk : 0 < k) (kind : Int) (s : ByteArray) (hs : s.size ≤ 40) (a sd : Int) (h0 : 0 ≤ a) (h1 : a ≤ 1000000) : Tot (spec_DrawSwapsOf.j0 k kind s l a sd) (fun r => r.2.size ≤ 100) := by
 obtain ⟨k, rfl⟩ : ∃ j, k = j + 1 := ⟨k - 1, by omega⟩
 rw [spec_DrawSwapsOf.j0]
 refine Tot.bind (pick_t hb _ _ _ (by omega) (by omega)) (fun z hz => ?_)
 obtain ⟨_, _, p3, q3⟩ := hz
 refine Tot.ite (fun _ => ?_) (fun _ => Tot.ite (fun _ => ?_) (fun _ => Tot.some (by dsimp only; omega)))
 ·exact Tot.bind (among_t hb _ _ _ (by decide) (by omega) (by omega)) (fun u hu => Tot.some (by dsimp only; omega))
 ·refine Tot.bind (spoilt_t hb _ _ _ _ (by decide) (by omega) (by omega) (by omega)) (fun u hu => Tot.some ?_)
  obtain ⟨u1, _⟩ := hu
  dsimp only
  omega
theorem drawSwaps_t {l : List Int} (hb : Byt l) (k : Nat) (hk : 300 < k) : Tot (spec_DrawSwapsOf.f k l) (fun r => r.2.size ≤ 100) := by
 unfold spec_DrawSwapsOf.f
 refine Tot.bind (kind24_t hb _ _ (by omega) (by omega)) (fun x hx => ?_)
 obtain ⟨x1, x4, p1, q1⟩ := hx
 refine Tot.bind (id24_t hb _ x1 x4 _ _ (by omega) (by omega) k (by omega)) (fun y hy => ?_)
 obtain ⟨i1, p2, q2⟩ := hy
 have hz := isId_le i1
 refine Tot.bind (pick_t hb _ _ _ (by omega) (by omega)) (fun z hz => ?_)
 obtain ⟨_, _, p3, q3⟩ := hz
 refine Tot.ite (fun _ => ?_) (fun _ => Tot.ite (fun _ => ?_) (fun _ => drawSwaps_j0 hb k (by omega) _ _ (by omega) _ _ (by omega) (by omega)))
 case refine_2 =>
  refine Tot.bind (digits24_t hb y.1.size (by omega) _ _ (by omega) (by omega) k (by omega)) (fun v hv => ?_)
  obtain ⟨v1, _, v2, v3⟩ := hv
  exact drawSwaps_j0 hb k (by omega) _ _ (by omega) _ _ (by omega) (by omega)
 rw [w64 (x := (y.1.size : Int) - 1) (by omega) (by omega)]
 refine Tot.bind (pick_t hb _ _ _ (by omega) (by omega)) (fun u hu => ?_)
 obtain ⟨u0, u1, p4, q4⟩ := hu
 rw [w64 (x := u.1 + 1) (by omega) (by omega), w64 (x := u.1 + 2) (by omega) (by omega)]
 have hx : ((((y.1.extract 0 u.1.toNat) ++ (y.1.extract (u.1 + 1).toNat (u.1 + 2).toNat)) ++ (y.1.extract u.1.toNat (u.1 + 1).toNat)) ++ (y.1.extract (u.1 + 2).toNat y.1.size)).size ≤ 40 := by
  simp only [ByteArray.size_append, ByteArray.size_extract]
  omega
 simp only [ByteArray.size_append] at hx
 repeat refine Tot.pos (by first | omega | (simp only [ByteArray.size_append]; omega)) ?_
 exact drawSwaps_j0 hb k (by omega) _ _ (by simp only [ByteArray.size_append]; omega) _ _ (by omega) (by omega)
theorem byt_drop {l : List Int} (hb : Byt l) (n : Nat) : Byt (l.drop n) := by
 intro i
 have := hb ((n + i.toNat : Nat) : Int)
 unfold rd at *
 rw [List.getD_eq_getElem?_getD, List.getElem?_drop]
 rw [List.getD_eq_getElem?_getD, Int.toNat_natCast] at this
 exact this
theorem drawRepair_t {l : List Int} (hb : Byt l) (k : Nat) (hk : 300 < k) : Tot (spec_DrawRepairDigit.f k l) (fun r => r.2.1.size ≤ 100) := by
 unfold spec_DrawRepairDigit.f
 have hl : ∃ m : Int, spec_l1Least.f (l.length : Int) 5 = some m ∧ 0 ≤ m ∧ m ≤ (l.length : Int) := by
  unfold spec_l1Least.f
  split
  ·exact ⟨_, rfl, by omega, by omega⟩
  ·exact ⟨_, rfl, by omega, by omega⟩
 obtain ⟨m, e, m0, m1⟩ := hl
 rw [e, Option.bind_some]
 have hb2 := byt_drop hb m.toNat
 refine Tot.pos m0 (Tot.pos m1 (Tot.bind (drawSwaps_t hb k hk) (fun x hx => ?_)))
 refine Tot.bind (pick_t hb2 _ _ _ (by omega) (by omega)) (fun y hy => ?_)
 obtain ⟨_, _, p3, q3⟩ := hy
 exact Tot.bind (pick_t hb2 _ _ _ (by omega) (by omega)) (fun z hz => Tot.some hx)
end Go.Proofs.YtpnjnlcjofaglaaDoor.P
