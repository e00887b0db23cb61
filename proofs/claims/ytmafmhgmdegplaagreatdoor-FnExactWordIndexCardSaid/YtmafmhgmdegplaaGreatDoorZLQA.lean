/- Words, names, dates and texts of a query and of an entry: which are valid, as the program and the reference tell it; texts of at most 1048576 bytes. -/
import Derived.Lib.Replace
import Derived.Lib.IndexBytes
import Derived.Lib.TrimByte
import Derived.Test.YtmafmhgmdegplaaGreatDoorZPx0
import Derived.Test.YtmafmhgmdegplaaGreatDoorZPx8
import Derived.Test.YtmafmhgmdegplaaGreatDoorZPx13
import Derived.Test.YtmafmhgmdegplaaGreatDoorZPx18
import Derived.Test.YtmafmhgmdegplaaGreatDoorZPx20
import Derived.Test.YtmafmhgmdegplaaGreatDoorZPx6
import Derived.Test.YtmafmhgmdegplaaGreatDoorZLBase
import Derived.Test.YtmafmhgmdegplaaGreatDoorZLEv
namespace Go.Proofs.YtmafmhgmdegplaaGreatDoor.P
open Go.RowKit Go.Proofs.YtmafmhgmdegplaaGreatDoorW.PrintWords Go.Proofs.YtmafmhgmdegplaaGreatDoorW.PrintLast Go.Proofs.YtmafmhgmdegplaaGreatDoorW.PrintMore
set_option linter.unusedVariables false
set_option linter.unusedSimpArgs false
def loB (c : Int) : Bool := decide (97 ≤ c) && decide (c ≤ 122)
def diB (c : Int) : Bool := decide (48 ≤ c) && decide (c ≤ 57)
def upB (c : Int) : Bool := decide (65 ≤ c) && decide (c ≤ 90)
def leB (c : Int) : Bool := upB c || loB c
def rgB (n a b : Int) : Bool := decide (a ≤ n) && decide (n ≤ b)
theorem rg_tell (a b c : Int) : (if a ≥ b then (some (decide (a ≤ c)) : Option Bool) else some false) = some (rgB a b c) := by
 unfold rgB
 by_cases h : a ≥ b
 ·rw [if_pos h, decide_eq_true (show b ≤ a from h), Bool.true_and]
 ·rw [if_neg h, decide_eq_false (show ¬ b ≤ a from h), Bool.false_and]
theorem i_in (n a b : Int) : Fa5.f n a b = some (rgB n a b) := rg_tell n a b
theorem s_in (n a b : Int) : Fbd.f n a b = some (rgB n a b) := rg_tell n a b
theorem i_lo (c : Int) : Fbg.f c = some (loB c) := rg_tell c 97 122
theorem i_di (c : Int) : FbE.f c = some (diB c) := rg_tell c 48 57
theorem i_up (c : Int) : Fbr.f c = some (upB c) := rg_tell c 65 90
theorem s_lo (c : Int) : Fbz.f c = some (loB c) := rg_tell c 97 122
theorem s_di (c : Int) : Fce.f c = some (diB c) := rg_tell c 48 57
theorem s_up (c : Int) : FbO.f c = some (upB c) := rg_tell c 65 90
theorem i_le (c : Int) : Fbe.f c = some (leB c) := by
 unfold Fbe.f leB
 rw [i_up, Option.bind_some, i_lo, Option.bind_some]
 cases upB c <;> rfl
theorem s_le (c : Int) : Fbh.f c = some (leB c) := by
 unfold Fbh.f leB
 rw [s_up, Option.bind_some, s_lo, Option.bind_some]
 cases upB c <;> rfl
def keyB (s : ByteArray) : Bool := rgB (s.size : Int) 1 10 && (loB (bt s 0) && (bytesOf s).all (fun c => loB c || diB c))
theorem i_key (s : ByteArray) (hs : s.size ≤ 4611686018427387904) : Ev (fun k => FaE.f k s) (keyB s) := by
 have hl : Ev (fun k => FaE.l0 k s 0) ((bytesOf s).all (fun c => loB c || diB c)) := by
  refine Ev.eq (loop_all (fun k i => FaE.l0 k s i) s (fun c => loB c || diB c) true 0 ?_ ?_ s.size 0 (Nat.le_refl _) (by omega)) (by rw [List.drop_zero, Bool.and_true])
  ·intro i _ hi
   refine ⟨fun hp r hr => ?_, fun hp => ?_⟩
   ·refine Ev.st (fun k => by rw [FaE.l0]) (vP (vP (Ev.b0 (i_lo _) ?_)))
    rw [nsucc hi hs]
    cases h1 : loB (bt s i) with
    | true => exact Ev.tt rfl hr
    | false =>
     rw [h1, Bool.false_or] at hp
     exact Ev.ff rfl (Ev.b0 (i_di _) (Ev.tt hp hr))
   ·obtain ⟨h1, h2⟩ := Bool.or_eq_false_iff.1 hp
    exact Ev.st (fun k => by rw [FaE.l0]) (vP (vP (Ev.b0 (i_lo _) (Ev.ff h1 (Ev.b0 (i_di _) (Ev.ff h2 (Ev.now _)))))))
  ·exact Ev.st (fun k => by rw [FaE.l0]) (vN (Ev.now _))
 unfold FaE.f keyB
 refine Ev.b0 (i_in _ _ _) ?_
 cases hr : rgB (s.size : Int) 1 10 with
 | false =>
  rw [Bool.false_and]
  exact Ev.ff rfl (Ev.st (fun k => by rw [FaE.j0]) (Ev.tt rfl (Ev.now _)))
 | true =>
  have h0 : 0 < (s.size : Int) := by unfold rgB at hr; simp at hr; omega
  refine Ev.tt rfl (Ev.pos h0 (Ev.b0 (i_lo _) (Ev.st (fun k => by rw [FaE.j0]) ?_)))
  rw [Bool.true_and]
  cases loB (bt s 0) with
  | false => rw [Bool.false_and]; exact Ev.tt rfl (Ev.now _)
  | true => rw [Bool.true_and]; exact Ev.ff rfl hl
theorem s_key (s : ByteArray) (hs : s.size ≤ 4611686018427387904) : Ev (fun k => FaD.f k s) (keyB s) := by
 have hd : ∀ c : Int, diB c = true → ¬ c < 48 ∧ ¬ c > 57 := fun c h => by unfold diB at h; simp at h; omega
 have hl : Ev (fun k => FaD.l0 k s 0) ((bytesOf s).all (fun c => loB c || diB c)) := by
  refine Ev.eq (loop_all (fun k i => FaD.l0 k s i) s (fun c => loB c || diB c) true 0 ?_ ?_ s.size 0 (Nat.le_refl _) (by omega)) (by rw [List.drop_zero, Bool.and_true])
  ·intro i _ hi
   refine ⟨fun hp r hr => ?_, fun hp => ?_⟩
   ·refine Ev.st (fun k => by rw [FaD.l0]) (vP (vP (Ev.b0 (s_lo _) ?_)))
    rw [nsucc hi hs]
    cases h1 : loB (bt s i) with
    | true => exact Ev.tt rfl hr
    | false =>
     rw [h1, Bool.false_or] at hp
     exact Ev.ff rfl (Ev.neg (hd _ hp).1 (Ev.neg (hd _ hp).2 hr))
   ·obtain ⟨h1, h2⟩ := Bool.or_eq_false_iff.1 hp
    refine Ev.st (fun k => by rw [FaD.l0]) (vP (vP (Ev.b0 (s_lo _) (Ev.ff h1 ?_))))
    by_cases h48 : bt s i < 48
    ·exact Ev.pos h48 (Ev.now _)
    ·refine Ev.neg h48 (Ev.pos ?_ (Ev.now _))
     unfold diB at h2
     simp at h2
     omega
  ·exact Ev.st (fun k => by rw [FaD.l0]) (vN (Ev.now _))
 unfold FaD.f keyB
 refine Ev.b0 (s_in _ _ _) ?_
 cases hr : rgB (s.size : Int) 1 10 with
 | false =>
  rw [Bool.false_and]
  exact Ev.ff rfl (Ev.st (fun k => by rw [FaD.j0]) (Ev.tt rfl (Ev.now _)))
 | true =>
  have h0 : 0 < (s.size : Int) := by unfold rgB at hr; simp at hr; omega
  refine Ev.tt rfl (Ev.pos h0 (Ev.b0 (s_lo _) (Ev.st (fun k => by rw [FaD.j0]) ?_)))
  rw [Bool.true_and]
  cases loB (bt s 0) with
  | false => rw [Bool.false_and]; exact Ev.tt rfl (Ev.now _)
  | true => rw [Bool.true_and]; exact Ev.ff rfl hl
def pcs : List UInt8 → List (List UInt8)
 | [] => [[]]
 | b :: l => if b = 32 then [] :: pcs l else (b :: (pcs l).headD []) :: (pcs l).tail
theorem pcs_ne : ∀ l, pcs l ≠ []
 | [] => by simp [pcs]
 | b :: l => by
  rw [pcs]
  split <;> simp
theorem ix_hit (l : List UInt8) : Lib.index (32 :: l) [32] = 0 := by
 rw [Lib.index_one]
 unfold Lib.indexByte
 rfl
theorem ix_skip {b : UInt8} (l : List UInt8) (h : b ≠ 32) : Lib.index (b :: l) [32] = if Lib.index l [32] = -1 then -1 else Lib.index l [32] + 1 := by
 rw [Lib.index_one, Lib.index_one]
 conv => lhs; unfold Lib.indexByte
 have : (b == 32) = false := beq_eq_false_iff_ne.2 h
 rw [this]
 by_cases q : Lib.indexByte l 32 = -1
 ·simp [q]
 ·have : (Lib.indexByte l 32 == -1) = false := beq_eq_false_iff_ne.2 q
  rw [this, if_neg q]
  rfl
theorem ix_some : ∀ (l : List UInt8), 0 < l.count 32 → ∃ i : Nat, Lib.index l [32] = (i : Int)
 | [], h => by simp at h
 | b :: l, h => by
  by_cases e : b = 32
  ·subst e
   exact ⟨0, ix_hit l⟩
  ·rw [List.count_cons_of_ne e] at h
   obtain ⟨i, hi⟩ := ix_some l h
   exact ⟨i + 1, by rw [ix_skip l e, hi, if_neg (by omega)]; omega⟩
theorem split_pcs : ∀ l : List UInt8, Lib.splitK [32] 0 (l.count 32) l = pcs l
 | [] => rfl
 | b :: l => by
  have ih := split_pcs l
  by_cases e : b = 32
  ·subst e
   rw [List.count_cons_self, Lib.splitK, ix_hit, pcs, if_pos rfl]
   rw [if_neg (by decide)]
   show [] :: Lib.splitK [32] 0 (l.count 32) (List.drop 1 (32 :: l)) = _
   rw [List.drop_succ_cons, List.drop_zero, ih]
  ·rw [List.count_cons_of_ne e, pcs, if_neg e]
   cases hc : l.count 32 with
   | zero =>
    rw [hc] at ih
    rw [← ih]
    rfl
   | succ k =>
    obtain ⟨i, hi⟩ := ix_some l (by omega)
    rw [hc, Lib.splitK, hi, if_neg (by rw [beq_iff_eq]; omega)] at ih
    rw [Lib.splitK, ix_skip l e, hi, if_neg (show ¬ ((i : Int) = -1) by omega), if_neg (by rw [beq_iff_eq]; omega), ← ih]
    have e1 : ((i : Int) + 1).toNat = i + 1 := by omega
    rw [e1, Int.toNat_natCast]
    rfl
theorem splitSp (s : ByteArray) : (Lib.splitB ⟨#[32]⟩ 0 (Lib.countB s ⟨#[32]⟩) s).map (fun x => x.data.toList) = pcs s.data.toList := by
 rw [Lib.splitB_data]
 have hc : Lib.countB s ⟨#[32]⟩ = s.data.toList.count 32 := by
  unfold Lib.countB
  exact Lib.count_one 32 _
 rw [hc]
 exact split_pcs _
theorem countSp (s : ByteArray) : Lib.countB s ⟨#[32]⟩ ≤ s.size := by
 have hc : Lib.countB s ⟨#[32]⟩ = s.data.toList.count 32 := by
  unfold Lib.countB
  exact Lib.count_one 32 _
 rw [hc, size_data]
 exact List.count_le_length
theorem pcs_none : ∀ l : List UInt8, (∀ b ∈ l, b ≠ 32) → pcs l = [l]
 | [], _ => rfl
 | b :: l, h => by
  rw [pcs, if_neg (h b List.mem_cons_self), pcs_none l (fun c hc => h c (List.mem_cons_of_mem _ hc))]
  rfl
theorem pcs_app : ∀ (a l : List UInt8), (∀ b ∈ a, b ≠ 32) → pcs (a ++ 32 :: l) = a :: pcs l
 | [], l, _ => by rw [List.nil_append, pcs, if_pos rfl]
 | b :: a, l, h => by
  rw [List.cons_append, pcs, if_neg (h b List.mem_cons_self), pcs_app a l (fun c hc => h c (List.mem_cons_of_mem _ hc))]
  rfl
def spl (s : ByteArray) : List ByteArray := (pcs s.data.toList).map ofL
theorem map_back (X : List ByteArray) (Y : List (List UInt8)) (h : X.map (fun x => x.data.toList) = Y) : X = Y.map ofL := by
 rw [← h, List.map_map]
 conv => lhs; rw [← List.map_id X]
 exact List.map_congr_left fun x _ => rfl
theorem i_split (s : ByteArray) (hs : s.size ≤ 1073741824) : FbF.f s (⟨#[32]⟩ : ByteArray) = some (spl s) := by
 unfold FbF.f
 have hc := countSp s
 rw [if_pos ⟨by omega, by decide, by omega⟩]
 exact congrArg some (map_back _ _ (splitSp s))
theorem bt_u8 (s : ByteArray) (i : Nat) (h : i < s.size) : ∃ b : UInt8, s.data.toList.drop i = b :: s.data.toList.drop (i + 1) ∧ bt s i = (b.toNat : Int) := drop_bt s i h
theorem s_split_l0 (s : ByteArray) (hs : s.size ≤ 1048576) (d : Nat) : ∀ (out : List ByteArray) (fr i : Nat), i + d = s.size → fr ≤ i → out.length ≤ fr → (∀ b ∈ (s.data.toList.drop fr).take (i - fr), b ≠ 32) →
  Ev (fun k => Fa0.l0 k s 32 out fr i) (out ++ (pcs (s.data.toList.drop fr)).map ofL) := by
 induction d with
 | zero =>
  intro out fr i hi hf ho hn
  obtain rfl : i = s.size := by omega
  refine Ev.st (fun k => by rw [Fa0.l0]) (vN (vP (vP (vP ?_))))
  rw [List.take_of_length_le (by rw [List.length_drop, data_length]; exact Nat.le_refl _)] at hn
  rw [pcs_none _ hn]
  refine Ev.val (congrArg (out ++ ·) ?_)
  rw [List.map_cons, List.map_nil]
  exact congrArg (· :: []) (toL_same (by rw [Int.toNat_natCast, toL_cutE]; rfl))
 | succ d ih =>
  intro out fr i hi hf ho hn
  have hlt : i < s.size := by omega
  obtain ⟨b, hb, hbt⟩ := bt_u8 s i hlt
  have hsplit : s.data.toList.drop fr = (s.data.toList.drop fr).take (i - fr) ++ b :: s.data.toList.drop (i + 1) := by
   rw [← hb]
   have h1 : s.data.toList.drop i = (s.data.toList.drop fr).drop (i - fr) := by rw [List.drop_drop]; congr 1; omega
   rw [h1]
   exact (List.take_append_drop _ _).symm
  refine Ev.st (fun k => by rw [Fa0.l0]) (vP (vP ?_))
  by_cases h32 : b = 32
  ·subst h32
   refine Ev.pos (by rw [hbt]; decide) (vP (vP (vP (vP ?_))))
   rw [w64_succ hlt (by omega)]
   refine Ev.eq (ih _ (i + 1) (i + 1) (by omega) (Nat.le_refl _) (by rw [List.length_append, List.length_singleton]; omega) (by rw [Nat.sub_self, List.take_zero]; intro b hb; cases hb)) ?_
   rw [hsplit, pcs_app _ _ hn, List.map_cons, List.append_assoc, List.singleton_append]
   congr 2
   exact toL_same (by rw [Int.toNat_natCast, Int.toNat_natCast, toL_cut]; rfl)
  ·refine Ev.neg (by rw [hbt]; intro e; exact h32 (u8_int (b := 32) e)) ?_
   rw [w64_succ hlt (by omega)]
   refine ih out fr (i + 1) (by omega) (by omega) ho ?_
   have h2 : (s.data.toList.drop fr).take (i + 1 - fr) = (s.data.toList.drop fr).take (i - fr) ++ [b] := by
    rw [show i + 1 - fr = (i - fr) + 1 by omega, List.take_add_one, List.getElem?_drop, show fr + (i - fr) = i by omega]
    have h3 : s.data.toList[i]? = some b := by
     have h4 := congrArg (·[0]?) hb
     simpa [List.getElem?_drop] using h4
    rw [h3]
    rfl
   rw [h2]
   intro c hc
   rcases List.mem_append.1 hc with hc | hc
   ·exact hn c hc
   ·rw [List.mem_singleton.1 hc]
    exact h32
theorem s_split (s : ByteArray) (hs : s.size ≤ 1048576) : Ev (fun k => Fa0.f k s 32) (spl s) := by
 refine Ev.eq (s_split_l0 s hs s.size [] 0 0 (by omega) (Nat.le_refl _) (Nat.le_refl _) (by intro b hb; simp at hb)) ?_
 rw [List.nil_append, List.drop_zero]
 rfl
def nwAt (s : ByteArray) (i : Nat) : Bool := leB (bt s i) || ((decide (bt s i = 45) || decide (bt s i = 39)) && leB (bt s ((i : Int) - 1)))
def nwB (s : ByteArray) : Bool := rgB (s.size : Int) 1 12 && (leB (bt s 0) && (leB (bt s ((s.size : Int) - 1)) && (List.range' 1 (s.size - 1)).all (nwAt s)))
theorem rg_pos {s : ByteArray} {b : Int} (h : rgB (s.size : Int) 1 b = true) : 0 < s.size := by
 unfold rgB at h
 simp at h
 omega
theorem nw_step (s : ByteArray) (hs : s.size ≤ 1048576) (i : Nat) (h1 : 1 ≤ i) (hi : i < s.size) {A B : Nat → Option Bool} {r : Bool} (hA : nwAt s i = true → Ev A r) (hB : nwAt s i = false → Ev B r) (LE : Int → Option Bool) (hle : ∀ c, LE c = some (leB c)) :
  Ev (fun n => (LE (bt s (i : Int))).bind fun t => (if t = true then A n else (if (bt s (i : Int)) = 45 then (if 0 ≤ (wrap64 ((i : Int) - 1)) then (if (wrap64 ((i : Int) - 1)) < (s.size : Int) then ((LE (bt s (wrap64 ((i : Int) - 1)))).bind fun t => (if t = true then A n else B n)) else (none)) else (none)) else (if (bt s (i : Int)) = 39 then (if 0 ≤ (wrap64 ((i : Int) - 1)) then (if (wrap64 ((i : Int) - 1)) < (s.size : Int) then ((LE (bt s (wrap64 ((i : Int) - 1)))).bind fun t => (if t = true then A n else B n)) else (none)) else (none)) else B n)))) r := by
 have hw : wrap64 ((i : Int) - 1) = (i : Int) - 1 := w64 (by omega) (by omega)
 rw [hw]
 refine Ev.b0 (hle _) ?_
 unfold nwAt at hA hB
 cases h : leB (bt s (i : Int)) with
 | true => exact Ev.tt rfl (hA (by rw [h, Bool.true_or]))
 | false =>
  rw [h] at hA hB
  simp only [Bool.false_or] at hA hB
  refine Ev.ff rfl ?_
  by_cases h45 : bt s (i : Int) = 45
  ·rw [decide_eq_true h45, Bool.true_or, Bool.true_and] at hA hB
   refine Ev.pos h45 (vP (vP (Ev.b0 (hle _) ?_)))
   cases h2 : leB (bt s ((i : Int) - 1)) with
   | true => exact Ev.tt rfl (hA h2)
   | false => exact Ev.ff rfl (hB h2)
  ·rw [decide_eq_false h45, Bool.false_or] at hA hB
   refine Ev.neg h45 ?_
   by_cases h39 : bt s (i : Int) = 39
   ·rw [decide_eq_true h39, Bool.true_and] at hA hB
    refine Ev.pos h39 (vP (vP (Ev.b0 (hle _) ?_)))
    cases h2 : leB (bt s ((i : Int) - 1)) with
    | true => exact Ev.tt rfl (hA h2)
    | false => exact Ev.ff rfl (hB h2)
   ·rw [decide_eq_false h39, Bool.false_and] at hB
    exact Ev.neg h39 (hB rfl)
theorem i_nword (s : ByteArray) (hs : s.size ≤ 1048576) : Ev (fun k => Fae.f k s) (nwB s) := by
 unfold Fae.f nwB
 refine Ev.b0 (i_in _ _ _) ?_
 cases hr : rgB (s.size : Int) 1 12 with
 | false =>
  rw [Bool.false_and]
  exact Ev.ff rfl (Ev.st (fun k => by rw [Fae.j0]) (Ev.tt rfl (Ev.now _)))
 | true =>
  have h0 := rg_pos hr
  have hw : wrap64 ((s.size : Int) - 1) = (s.size : Int) - 1 := w64 (by omega) (by omega)
  rw [Bool.true_and, hw]
  refine Ev.tt rfl (vP (vP (Ev.b0 (i_le _) ?_)))
  cases hl : leB (bt s ((s.size : Int) - 1)) with
  | false =>
   rw [Bool.false_and, Bool.and_false]
   exact Ev.ff rfl (Ev.st (fun k => by rw [Fae.j0]) (Ev.tt rfl (Ev.now _)))
  | true =>
   refine Ev.tt rfl (vP (Ev.b0 (i_le _) (Ev.st (fun k => by rw [Fae.j0]) ?_)))
   rw [Bool.true_and]
   cases hf : leB (bt s 0) with
   | false => rw [Bool.false_and]; exact Ev.tt rfl (Ev.now _)
   | true =>
    rw [Bool.true_and]
    refine Ev.ff rfl (Ev.st (fun k => by rw [Fae.l0]) (vP (vP (Ev.b0 (i_le _) (Ev.tt hf ?_)))))
    rw [show wrap64 ((0 : Int) + 1) = ((1 : Nat) : Int) by rw [w64 (by omega) (by omega)]; rfl]
    refine Ev.eq (loop_idx (fun k i => Fae.l0 k s i) s.size (nwAt s) true 1 ?_ ?_ (s.size - 1) 1 (Nat.le_refl _) (by omega)) (Bool.and_true _)
    ·intro i h1 hi
     refine ⟨fun hp r hr => ?_, fun hp => ?_⟩
     ·refine Ev.st (fun k => by rw [Fae.l0]) (vP (vP (nw_step s hs i h1 hi (fun _ => ?_) (fun h => ?_) _ i_le)))
      ·rw [nsucc hi (by omega)]; exact hr
      ·rw [hp] at h; cases h
     ·refine Ev.st (fun k => by rw [Fae.l0]) (vP (vP (nw_step s hs i h1 hi (fun h => ?_) (fun _ => Ev.now _) _ i_le)))
      rw [hp] at h; cases h
    ·exact Ev.st (fun k => by rw [Fae.l0]) (vN (Ev.now _))
theorem s_nword (s : ByteArray) (hs : s.size ≤ 1048576) : Ev (fun k => Fat.f k s) (nwB s) := by
 unfold Fat.f nwB
 refine Ev.b0 (s_in _ _ _) ?_
 cases hr : rgB (s.size : Int) 1 12 with
 | false =>
  rw [Bool.false_and]
  exact Ev.ff rfl (Ev.st (fun k => by rw [Fat.j0]) (Ev.tt rfl (Ev.now _)))
 | true =>
  have h0 := rg_pos hr
  have hw : wrap64 ((s.size : Int) - 1) = (s.size : Int) - 1 := w64 (by omega) (by omega)
  rw [Bool.true_and, hw]
  refine Ev.tt rfl (vP (Ev.b0 (s_le _) ?_))
  cases hf : leB (bt s 0) with
  | false =>
   rw [Bool.false_and]
   exact Ev.ff rfl (Ev.st (fun k => by rw [Fat.j0]) (Ev.tt rfl (Ev.now _)))
  | true =>
   rw [Bool.true_and]
   refine Ev.tt rfl (vP (vP (Ev.b0 (s_le _) (Ev.st (fun k => by rw [Fat.j0]) ?_))))
   cases hl : leB (bt s ((s.size : Int) - 1)) with
   | false => rw [Bool.false_and]; exact Ev.tt rfl (Ev.now _)
   | true =>
    rw [Bool.true_and]
    refine Ev.ff rfl (Ev.eq (loop_idx (fun k i => Fat.l0 k s i) s.size (nwAt s) true 1 ?_ ?_ (s.size - 1) 1 (Nat.le_refl _) (by omega)) (Bool.and_true _))
    ·intro i h1 hi
     refine ⟨fun hp r hr => ?_, fun hp => ?_⟩
     ·refine Ev.st (fun k => by rw [Fat.l0]) (vP (vP (nw_step s hs i h1 hi (fun _ => ?_) (fun h => ?_) _ s_le)))
      ·rw [nsucc hi (by omega)]; exact hr
      ·rw [hp] at h; cases h
     ·refine Ev.st (fun k => by rw [Fat.l0]) (vP (vP (nw_step s hs i h1 hi (fun h => ?_) (fun _ => Ev.now _) _ s_le)))
      rw [hp] at h; cases h
    ·exact Ev.st (fun k => by rw [Fat.l0]) (vN (Ev.now _))
def gwB (s : ByteArray) : Bool := nwB s && upB (bt s 0)
theorem nw_pos {s : ByteArray} (h : nwB s = true) : 0 < s.size := by
 unfold nwB at h
 rw [Bool.and_eq_true] at h
 exact rg_pos h.1
theorem i_gword (s : ByteArray) (hs : s.size ≤ 1048576) : Ev (fun k => Fbf.f k s) (gwB s) := by
 unfold Fbf.f gwB
 refine Ev.b1 (i_nword s hs) ?_
 cases h : nwB s with
 | false => rw [Bool.false_and]; exact Ev.ff rfl (Ev.now _)
 | true =>
  have h0 := nw_pos h
  rw [Bool.true_and]
  exact Ev.tt rfl (vP (Ev.b0 (i_up _) (Ev.now _)))
def lowB (s : ByteArray) : Bool := (bytesOf s).all loB
theorem nw_low {s : ByteArray} (h : rgB (s.size : Int) 1 12 = true) (hl : lowB s = true) : nwB s = true := by
 have h0 := rg_pos h
 have hat : ∀ i : Nat, i < s.size → loB (bt s i) = true := by
  intro i hi
  have h1 := bytesOf_drop s i hi
  unfold lowB at hl
  rw [List.all_eq_true] at hl
  refine hl _ (List.mem_of_mem_drop (i := i) ?_)
  rw [h1]
  exact List.mem_cons_self
 have hle : ∀ i : Nat, i < s.size → leB (bt s i) = true := fun i hi => by unfold leB; rw [hat i hi, Bool.or_true]
 unfold nwB
 rw [h, show bt s 0 = bt s ((0 : Nat) : Int) from rfl, hle 0 h0, show (s.size : Int) - 1 = ((s.size - 1 : Nat) : Int) by omega, hle _ (by omega), Bool.true_and, Bool.true_and, Bool.true_and, List.all_eq_true]
 intro i hi
 have := List.mem_range'_1.1 hi
 unfold nwAt
 rw [hle i (by omega), Bool.true_or]
def parB (s : ByteArray) : Bool := decide (s.toList = ([] : List UInt8)) || ((spl s).all (fun w => rgB (w.size : Int) 1 12 && lowB w) && decide (((spl s).length : Int) ≤ 2))
theorem spl_size (s : ByteArray) : (spl s).length ≤ s.size + 1 ∧ ∀ w ∈ spl s, w.size ≤ s.size := by
 have key : ∀ l : List UInt8, (pcs l).length ≤ l.length + 1 ∧ ∀ w ∈ pcs l, w.length ≤ l.length := by
  intro l
  induction l with
  | nil => exact ⟨by simp [pcs], by intro w hw; simp [pcs] at hw; subst hw; simp⟩
  | cons b l ih =>
   rw [pcs]
   have hne := pcs_ne l
   cases hp : pcs l with
   | nil => exact absurd hp hne
   | cons x xs =>
    rw [hp] at ih
    obtain ⟨h1, h2⟩ := ih
    split
    ·refine ⟨by simp at h1 ⊢; omega, ?_⟩
     intro w hw
     rcases List.mem_cons.1 hw with rfl | hw
     ·simp
     ·have := h2 w hw
      simp; omega
    ·refine ⟨by simp at h1 ⊢; omega, ?_⟩
     intro w hw
     rcases List.mem_cons.1 hw with rfl | hw
     ·have := h2 x List.mem_cons_self
      simp; omega
     ·have := h2 w (List.mem_cons_of_mem _ hw)
      simp; omega
 unfold spl
 obtain ⟨h1, h2⟩ := key s.data.toList
 rw [data_length] at h1
 refine ⟨by rw [List.length_map]; exact h1, ?_⟩
 intro w hw
 obtain ⟨x, hx, rfl⟩ := List.mem_map.1 hw
 have := h2 x hx
 rw [data_length] at this
 rw [ofL_size]
 exact this
theorem rd_mem (l : List ByteArray) (i : Nat) (h : i < l.length) : rdOf ByteArray.empty l i ∈ l := by
 have := rdOf_drop l i h
 exact List.mem_of_mem_drop (i := i) (by rw [this]; exact List.mem_cons_self)
theorem i_particle (s : ByteArray) (hs : s.size ≤ 1048576) : Ev (fun k => Fan.f k s) (parB s) := by
 unfold Fan.f parB
 by_cases he : s.toList = ([] : List UInt8)
 ·rw [decide_eq_true he, Bool.true_or]
  exact Ev.pos he (Ev.now _)
 ·rw [decide_eq_false he, Bool.false_or]
  refine Ev.neg he (Ev.b0 (i_split s (by omega)) ?_)
  obtain ⟨hl, hz⟩ := spl_size s
  generalize spl s = l at *
  refine loop_list (fun k i => Fan.l0 k l l (l.length : Int) i) l (rdOf ByteArray.empty l) (rdOf_drop l) (fun w => rgB (w.size : Int) 1 12 && lowB w) (decide ((l.length : Int) ≤ 2)) ?_ ?_ l.length 0 (by omega)
  ·intro i hi
   have hw := hz _ (rd_mem l i hi)
   have key : ∀ r, Ev (fun k => Fan.l0 k l l (l.length : Int) ((i + 1 : Nat) : Int)) r → Ev (fun k => Fan.l1 k l (rdOf ByteArray.empty l i) 0 l (l.length : Int) (i : Int)) (if lowB (rdOf ByteArray.empty l i) = true then r else false) := by
    intro r hr
    generalize rdOf ByteArray.empty l i = w at *
    have hlo : ∀ (d j : Nat), j + d = w.size → Ev (fun k => Fan.l1 k l w (j : Int) l (l.length : Int) (i : Int)) (if ((bytesOf w).drop j).all loB = true then r else false) := by
     intro d
     induction d with
     | zero =>
      intro j hj
      obtain rfl : j = w.size := by omega
      rw [List.drop_of_length_le (by rw [bytesOf_length]; exact Nat.le_refl _), List.all_nil, if_pos rfl]
      refine Ev.st (fun k => by rw [Fan.l1]) (vN ?_)
      rw [nsucc hi (by omega)]
      exact hr
     | succ d ih =>
      intro j hj
      rw [bytesOf_drop w j (by omega), List.all_cons]
      refine Ev.st (fun k => by rw [Fan.l1]) (vP (vP (Ev.b0 (i_lo _) ?_)))
      cases hb : loB (bt w j) with
      | true =>
       rw [Bool.true_and, nsucc (show j < w.size by omega) (by omega)]
       exact Ev.tt rfl (ih (j + 1) (by omega))
      | false =>
       rw [Bool.false_and, if_neg Bool.false_ne_true]
       exact Ev.ff rfl (Ev.now _)
    exact hlo w.size 0 (by omega)
   refine ⟨fun hp r hr => ?_, fun hp => ?_⟩
   ·obtain ⟨h1, h2⟩ := Bool.and_eq_true_iff.1 hp
    have := key r hr
    rw [if_pos h2] at this
    exact Ev.st (fun k => by rw [Fan.l0]) (vP (vP (vP (Ev.b0 (i_in _ _ _) (Ev.tt h1 this)))))
   ·refine Ev.st (fun k => by rw [Fan.l0]) (vP (vP (vP (Ev.b0 (i_in _ _ _) ?_))))
    cases h1 : rgB ((rdOf ByteArray.empty l i).size : Int) 1 12 with
    | false => exact Ev.ff rfl (Ev.now _)
    | true =>
     rw [h1, Bool.true_and] at hp
     refine Ev.tt rfl ?_
     generalize rdOf ByteArray.empty l i = w at *
     have hlo : ∀ (d j : Nat), j + d = w.size → ((bytesOf w).drop j).all loB = false → Ev (fun k => Fan.l1 k l w (j : Int) l (l.length : Int) (i : Int)) false := by
      intro d
      induction d with
      | zero =>
       intro j hj hf
       obtain rfl : j = w.size := by omega
       rw [List.drop_of_length_le (by rw [bytesOf_length]; exact Nat.le_refl _)] at hf
       cases hf
      | succ d ih =>
       intro j hj hf
       rw [bytesOf_drop w j (by omega), List.all_cons] at hf
       refine Ev.st (fun k => by rw [Fan.l1]) (vP (vP (Ev.b0 (i_lo _) ?_)))
       cases hb : loB (bt w j) with
       | true =>
        rw [hb, Bool.true_and] at hf
        rw [nsucc (show j < w.size by omega) (by omega)]
        exact Ev.tt rfl (ih (j + 1) (by omega) hf)
       | false => exact Ev.ff rfl (Ev.now _)
     exact hlo w.size 0 (by omega) hp
  ·exact Ev.st (fun k => by rw [Fan.l0]) (vN (Ev.now _))
theorem s_particle (s : ByteArray) (hs : s.size ≤ 1048576) : Ev (fun k => Faq.f k s) (parB s) := by
 unfold Faq.f parB
 by_cases he : s.toList = ([] : List UInt8)
 ·rw [decide_eq_true he, Bool.true_or]
  exact Ev.pos he (Ev.now _)
 ·rw [decide_eq_false he, Bool.false_or]
  refine Ev.neg he (Ev.b1 (s_split s hs) ?_)
  obtain ⟨hl, hz⟩ := spl_size s
  generalize spl s = l at *
  refine loop_list (fun k i => Faq.l0 k l i) l (rdOf ByteArray.empty l) (rdOf_drop l) (fun w => rgB (w.size : Int) 1 12 && lowB w) (decide ((l.length : Int) ≤ 2)) ?_ ?_ l.length 0 (by omega)
  ·intro i hi
   have hw := hz _ (rd_mem l i hi)
   have key : ∀ (r : Bool), Ev (fun k => Faq.l0 k l ((i + 1 : Nat) : Int)) r → ∀ (d j : Nat), j + d = (rdOf ByteArray.empty l i).size → ((bytesOf (rdOf ByteArray.empty l i)).drop j).all loB = true → Ev (fun k => Faq.l1 k l (i : Int) (j : Int)) r := by
    intro r hr d
    induction d with
    | zero =>
     intro j hj _
     obtain rfl : j = (rdOf ByteArray.empty l i).size := by omega
     refine Ev.st (fun k => by rw [Faq.l1]) (vP (vP (vN ?_)))
     rw [nsucc hi (by omega)]
     exact hr
    | succ d ih =>
     intro j hj hf
     rw [bytesOf_drop _ j (by omega), List.all_cons, Bool.and_eq_true] at hf
     refine Ev.st (fun k => by rw [Faq.l1]) (vP (vP (vP (vP (Ev.b0 (s_lo _) (Ev.tt hf.1 ?_))))))
     rw [nsucc (show j < (rdOf ByteArray.empty l i).size by omega) (by omega)]
     exact ih (j + 1) (by omega) hf.2
   have key2 : ∀ (d j : Nat), j + d = (rdOf ByteArray.empty l i).size → ((bytesOf (rdOf ByteArray.empty l i)).drop j).all loB = false → Ev (fun k => Faq.l1 k l (i : Int) (j : Int)) false := by
    intro d
    induction d with
    | zero =>
     intro j hj hf
     obtain rfl : j = (rdOf ByteArray.empty l i).size := by omega
     rw [List.drop_of_length_le (by rw [bytesOf_length]; exact Nat.le_refl _)] at hf
     cases hf
    | succ d ih =>
     intro j hj hf
     rw [bytesOf_drop _ j (by omega), List.all_cons] at hf
     refine Ev.st (fun k => by rw [Faq.l1]) (vP (vP (vP (vP (Ev.b0 (s_lo _) ?_)))))
     cases hb : loB (bt (rdOf ByteArray.empty l i) j) with
     | true =>
      rw [hb, Bool.true_and] at hf
      rw [nsucc (show j < (rdOf ByteArray.empty l i).size by omega) (by omega)]
      exact Ev.tt rfl (ih (j + 1) (by omega) hf)
     | false => exact Ev.ff rfl (Ev.now _)
   refine ⟨fun hp r hr => ?_, fun hp => ?_⟩
   ·obtain ⟨h1, h2⟩ := Bool.and_eq_true_iff.1 hp
    exact Ev.st (fun k => by rw [Faq.l0]) (vP (vP (Ev.b1 (s_nword _ (by omega)) (Ev.tt (nw_low h1 h2) (key r hr _ 0 (Nat.zero_add _) h2)))))
   ·refine Ev.st (fun k => by rw [Faq.l0]) (vP (vP (Ev.b1 (s_nword _ (by omega)) ?_)))
    cases hn : nwB (rdOf ByteArray.empty l i) with
    | false => exact Ev.ff rfl (Ev.now _)
    | true =>
     have h1 : rgB ((rdOf ByteArray.empty l i).size : Int) 1 12 = true := by
      unfold nwB at hn
      exact (Bool.and_eq_true_iff.1 hn).1
     rw [h1, Bool.true_and] at hp
     exact Ev.tt rfl (key2 _ 0 (Nat.zero_add _) hp)
  ·exact Ev.st (fun k => by rw [Faq.l0]) (vN (Ev.now _))
def szN (g : List ByteArray) (p f s : ByteArray) : Prop := g.length ≤ 1048576 ∧ (∀ x ∈ g, x.size ≤ 1048576) ∧ p.size ≤ 1048576 ∧ f.size ≤ 1048576 ∧ s.size ≤ 1048576
def sfxB (s : ByteArray) : Bool := decide (s.toList = ([] : List UInt8)) || nwB s
def nmB (g : List ByteArray) (p f s : ByteArray) : Bool := decide ((g.length : Int) ≤ 3) && (g.all gwB && (parB p && (gwB f && sfxB s)))
theorem i_find214 (g : List ByteArray) (hl : g.length ≤ 1048576) (hz : ∀ x ∈ g, x.size ≤ 1048576) : Ev (fun k => FaJ.f k g 0) (!(g.all gwB)) := by
 have key : ∃ t, Ev (fun k => Fad.l0 k g (g.length : Int) 0) t ∧ decide (t ≥ 0) = (g.drop 0).any (fun w => !gwB w) := by
  refine loop_find (fun k i => Fad.l0 k g (g.length : Int) i) g (rdOf ByteArray.empty g) (rdOf_drop g) (fun w => !gwB w) ?_ ?_ g.length 0 (by omega)
  ·intro i hi
   have hw := hz _ (rd_mem g i hi)
   have hlit : Ev (fun k => Fbm.f k (rdOf ByteArray.empty g i)) (!gwB (rdOf ByteArray.empty g i)) := Ev.b1 (i_gword _ hw) (Ev.now _)
   refine ⟨fun hp r hr => ?_, fun hp => ?_⟩
   ·refine Ev.st (fun k => by rw [Fad.l0]) (vP (vP (vP (Ev.b1 hlit (Ev.ff hp ?_)))))
    rw [nsucc hi (by omega)]
    exact hr
   ·exact Ev.st (fun k => by rw [Fad.l0]) (vP (vP (vP (Ev.b1 hlit (Ev.tt hp (Ev.now _))))))
  ·exact Ev.st (fun k => by rw [Fad.l0]) (vN (Ev.now _))
 obtain ⟨t, ht, hd⟩ := key
 refine Ev.b1 (f := fun _ t => some (decide (t ≥ 0))) ht (Ev.val ?_)
 rw [hd, List.drop_zero]
 induction g with
 | nil => rfl
 | cons x xs ih => rw [List.any_cons, List.all_cons, Bool.not_and]; congr 1; clear ht hd hl hz ih; induction xs with
  | nil => rfl
  | cons y ys ih2 => rw [List.any_cons, List.all_cons, Bool.not_and, ih2]
theorem i_name (g : List ByteArray) (p f s : ByteArray) (h : szN g p f s) : Ev (fun k => FaL.f k g p f s) (nmB g p f s) := by
 obtain ⟨hl, hz, hp, hf, hs⟩ := h
 unfold FaL.f nmB
 by_cases h3 : (g.length : Int) > 3
 ·rw [decide_eq_false (show ¬ (g.length : Int) ≤ 3 by omega), Bool.false_and]
  exact Ev.pos h3 (Ev.st (fun k => by rw [FaL.j0]) (Ev.tt rfl (Ev.now _)))
 ·rw [decide_eq_true (show (g.length : Int) ≤ 3 by omega), Bool.true_and]
  refine Ev.neg h3 (Ev.b1 (i_find214 g hl hz) (Ev.st (fun k => by rw [FaL.j0]) ?_))
  cases g.all gwB with
  | false => rw [Bool.false_and]; exact Ev.tt rfl (Ev.now _)
  | true =>
   rw [Bool.true_and]
   refine Ev.ff rfl (Ev.b1 (i_particle p hp) ?_)
   cases parB p with
   | false => rw [Bool.false_and]; exact Ev.ff rfl (Ev.now _)
   | true =>
    rw [Bool.true_and]
    refine Ev.tt rfl (Ev.b1 (i_gword f hf) ?_)
    cases gwB f with
    | false => rw [Bool.false_and]; exact Ev.ff rfl (Ev.now _)
    | true =>
     rw [Bool.true_and]
     refine Ev.tt rfl ?_
     unfold sfxB
     by_cases he : s.toList = ([] : List UInt8)
     ·rw [decide_eq_true he, Bool.true_or]; exact Ev.pos he (Ev.now _)
     ·rw [decide_eq_false he, Bool.false_or]; exact Ev.neg he (Ev.b1 (i_nword s hs) (Ev.now _))
theorem s_name (g : List ByteArray) (p f s : ByteArray) (h : szN g p f s) : Ev (fun k => Fa8.f k g p f s) (nmB g p f s) := by
 obtain ⟨hl, hz, hp, hf, hs⟩ := h
 unfold Fa8.f
 have hfin : Ev (fun k => Fa8.l0 k (g.length : Int) g p f s) (decide ((g.length : Int) ≤ 3) && (parB p && (gwB f && sfxB s))) := by
  refine Ev.st (fun k => by rw [Fa8.l0]) (vN ?_)
  by_cases h3 : (g.length : Int) ≤ 3
  ·rw [decide_eq_true h3, Bool.true_and]
   refine Ev.pos h3 (Ev.b1 (s_particle p hp) ?_)
   cases parB p with
   | false => rw [Bool.false_and]; exact Ev.ff rfl (Ev.now _)
   | true =>
    rw [Bool.true_and]
    refine Ev.tt rfl (Ev.b1 (s_nword f hf) ?_)
    unfold gwB
    cases hn : nwB f with
    | false => rw [Bool.false_and, Bool.false_and]; exact Ev.ff rfl (Ev.now _)
    | true =>
     have h0 := nw_pos hn
     rw [Bool.true_and]
     refine Ev.tt rfl (vP (Ev.b0 (s_up _) ?_))
     cases upB (bt f 0) with
     | false => rw [Bool.false_and]; exact Ev.ff rfl (Ev.now _)
     | true =>
      rw [Bool.true_and]
      refine Ev.tt rfl ?_
      unfold sfxB
      by_cases he : s.toList = ([] : List UInt8)
      ·rw [decide_eq_true he, Bool.true_or]; exact Ev.pos he (Ev.now _)
      ·rw [decide_eq_false he, Bool.false_or]; exact Ev.neg he (Ev.b1 (s_nword s hs) (Ev.now _))
  ·rw [decide_eq_false h3, Bool.false_and]
   exact Ev.neg h3 (Ev.now _)
 refine Ev.eq (loop_list (fun k i => Fa8.l0 k i g p f s) g (rdOf ByteArray.empty g) (rdOf_drop g) gwB _ ?_ hfin g.length 0 (by omega)) ?_
 ·intro i hi
  have hw := hz _ (rd_mem g i hi)
  refine ⟨fun hq r hr => ?_, fun hq => ?_⟩
  ·unfold gwB at hq
   obtain ⟨h1, h2⟩ := Bool.and_eq_true_iff.1 hq
   have h0 := nw_pos h1
   refine Ev.st (fun k => by rw [Fa8.l0]) (vP (vP (Ev.b1 (s_nword _ hw) (Ev.tt h1 ?_))))
   refine vP (Ev.b0 (s_up _) (Ev.tt h2 ?_))
   rw [nsucc hi (by omega)]
   exact hr
  ·refine Ev.st (fun k => by rw [Fa8.l0]) (vP (vP (Ev.b1 (s_nword _ hw) ?_)))
   unfold gwB at hq
   cases hn : nwB (rdOf ByteArray.empty g i) with
   | false => exact Ev.ff rfl (Ev.now _)
   | true =>
    have h0 := nw_pos hn
    rw [hn, Bool.true_and] at hq
    refine Ev.tt rfl ?_
    exact vP (Ev.b0 (s_up _) (Ev.ff hq (Ev.now _)))
 ·unfold nmB
  rw [List.drop_zero]
  cases g.all gwB <;> cases decide ((g.length : Int) ≤ 3) <;> simp
theorem rdN_drop (l : List S157) (i : Nat) (h : i < l.length) : l.drop i = Fas l i :: l.drop (i + 1) := by
 rw [List.drop_eq_getElem_cons h]
 congr 1
 simp [Fas, List.getD_eq_getElem?_getD, List.getElem?_eq_getElem h]
theorem rdN_mem (l : List S157) (i : Nat) (h : i < l.length) : Fas l i ∈ l := by
 exact List.mem_of_mem_drop (i := i) (by rw [rdN_drop l i h]; exact List.mem_cons_self)
def szNs (l : List S157) : Prop := l.length ≤ 1048576 ∧ ∀ x ∈ l, szN x.f0 x.f1 x.f2 x.f3
def nm1 (x : S157) : Bool := nmB x.f0 x.f1 x.f2 x.f3
def nlB (l : List S157) : Bool := decide ((l.length : Int) ≤ 4) && l.all nm1
theorem any_not {α : Type} (p : α → Bool) (l : List α) : l.any (fun x => !p x) = !l.all p := by
 induction l with
 | nil => rfl
 | cons x xs ih => rw [List.any_cons, List.all_cons, Bool.not_and, ih]
theorem i_names (l : List S157) (h : szNs l) : Ev (fun k => Fbl.f k l) (nlB l) := by
 obtain ⟨hl, hz⟩ := h
 unfold Fbl.f nlB
 by_cases h4 : (l.length : Int) ≤ 4
 ·rw [decide_eq_true h4, Bool.true_and]
  have key : ∃ t, Ev (fun k => Fa3.l0 k l (l.length : Int) 0) t ∧ decide (t ≥ 0) = (l.drop 0).any (fun x => !nm1 x) := by
   refine loop_find (fun k i => Fa3.l0 k l (l.length : Int) i) l (Fas l) (rdN_drop l) (fun x => !nm1 x) ?_ ?_ l.length 0 (by omega)
   ·intro i hi
    have hlit : Ev (fun k => Fbx.f k (Fas l i).f0 (Fas l i).f1 (Fas l i).f2 (Fas l i).f3) (!nm1 (Fas l i)) := Ev.b1 (i_name _ _ _ _ (hz _ (rdN_mem l i hi))) (Ev.now _)
    refine ⟨fun hp r hr => ?_, fun hp => ?_⟩
    ·refine Ev.st (fun k => by rw [Fa3.l0]) (vP (vP (vP (Ev.b1 hlit (Ev.ff hp ?_)))))
     rw [nsucc hi (by omega)]
     exact hr
    ·exact Ev.st (fun k => by rw [Fa3.l0]) (vP (vP (vP (Ev.b1 hlit (Ev.tt hp (Ev.now _))))))
   ·exact Ev.st (fun k => by rw [Fa3.l0]) (vN (Ev.now _))
  obtain ⟨t, ht, hd⟩ := key
  have hc : Ev (fun k => FbG.f k l 0) (!l.all nm1) := Ev.b1 (f := fun _ t => some (decide (t ≥ 0))) ht (Ev.val (by rw [hd, List.drop_zero, any_not]))
  exact Ev.pos h4 (Ev.b1 hc (Ev.val (Bool.not_not _)))
 ·rw [decide_eq_false h4, Bool.false_and]
  exact Ev.neg h4 (Ev.now _)
theorem s_names (l : List S157) (h : szNs l) : Ev (fun k => Fax.f k l) (nlB l) := by
 obtain ⟨hl, hz⟩ := h
 have step : ∀ (i : Nat) (r : Bool), i < l.length → i ≤ 4 → Ev (fun k => Fax.l0 k l ((i + 1 : Nat) : Int)) r → Ev (fun k => Fax.l0 k l (i : Int)) (nm1 (Fas l i) && r) := by
  intro i r hi h4 hr
  refine Ev.st (fun k => by rw [Fax.l0]) (vP ?_)
  rw [decide_eq_true (show (i : Int) ≤ 4 by omega)]
  refine Ev.st (fun k => by rw [Fax.j1]) (Ev.tt rfl (vP (vP (Ev.b1 (s_name _ _ _ _ (hz _ (rdN_mem l i hi))) ?_))))
  show Ev (fun n => if nm1 (Fas l i) = true then _ else _) _
  cases nm1 (Fas l i) with
  | false => rw [Bool.false_and]; exact Ev.ff rfl (Ev.now _)
  | true =>
   rw [Bool.true_and, nsucc hi (by omega)]
   exact Ev.tt rfl hr
 unfold nlB
 by_cases h4 : (l.length : Int) ≤ 4
 ·rw [decide_eq_true h4, Bool.true_and]
  have key : ∀ (d i : Nat), i + d = l.length → Ev (fun k => Fax.l0 k l (i : Int)) ((l.drop i).all nm1) := by
   intro d
   induction d with
   | zero =>
    intro i hi
    obtain rfl : i = l.length := by omega
    rw [List.drop_of_length_le (Nat.le_refl _)]
    refine Ev.st (fun k => by rw [Fax.l0]) (vN (Ev.st (fun k => by rw [Fax.j1]) (Ev.ff rfl (Ev.val ?_))))
    rw [decide_eq_true h4]
    rfl
   | succ d ih =>
    intro i hi
    rw [rdN_drop l i (by omega), List.all_cons]
    exact step i _ (by omega) (by omega) (ih (i + 1) (by omega))
  exact key l.length 0 (by omega)
 ·rw [decide_eq_false h4, Bool.false_and]
  have key : ∀ (d i : Nat), i + d = 5 → Ev (fun k => Fax.l0 k l (i : Int)) false := by
   intro d
   induction d with
   | zero =>
    intro i hi
    obtain rfl : i = 5 := by omega
    refine Ev.st (fun k => by rw [Fax.l0]) ?_
    have last : Ev (fun k => Fax.j1 k l ((5 : Nat) : Int) false) false := Ev.st (fun k => by rw [Fax.j1]) (Ev.ff rfl (Ev.val (decide_eq_false h4)))
    by_cases h5 : ((5 : Nat) : Int) < (l.length : Int)
    ·refine Ev.pos h5 ?_
     rw [decide_eq_false (show ¬ ((5 : Nat) : Int) ≤ 4 by decide)]
     exact last
    ·exact Ev.neg h5 last
   | succ d ih =>
    intro i hi
    exact Ev.eq (step i false (by omega) (by omega) (ih (i + 1) (by omega))) (Bool.and_false _)
  exact key 5 0 (by omega)
def dim (y m : Int) : Int := if m = 2 then (if (Int.tmod y 4) = 0 then (if (Int.tmod y 100) = 0 then (if (Int.tmod y 400) = 0 then 29 else 28) else 29) else 28) else (if m = 4 then 30 else (if m = 6 then 30 else (if m = 9 then 30 else (if m = 11 then 30 else 31))))
theorem i_days (y m : Int) : FbJ.f y m = some (dim y m) := by
 unfold FbJ.f dim
 repeat' split
 all_goals rfl
theorem s_days (y m : Int) (hy : 0 ≤ y) : Ev (fun k => Fa4.f k y m) (dim y m) := by
 unfold Fa4.f
 by_cases h2 : m = 2
 ·have hd : dim y m = if Int.tmod y 4 = 0 then (if Int.tmod y 100 = 0 then (if Int.tmod y 400 = 0 then 29 else 28) else 29) else 28 := by
   unfold dim; exact if_pos h2
  rw [hd]
  refine Ev.pos h2 ?_
  by_cases h4 : Int.tmod y 4 = 0
  ·refine Ev.pos h4 ?_
   by_cases h100 : Int.tmod y 100 = 0
   ·refine Ev.pos h100 (Ev.st (fun k => by rw [Fa4.j0]) ?_)
    by_cases h400 : Int.tmod y 400 = 0
    ·exact Ev.eq (Ev.tt (by rw [h400]; rfl) (Ev.now _)) (by rw [if_pos h4, if_pos h100, if_pos h400])
    ·exact Ev.eq (Ev.ff (beq_eq_false_iff_ne.2 h400) (Ev.now _)) (by rw [if_pos h4, if_pos h100, if_neg h400])
   ·exact Ev.eq (Ev.neg h100 (Ev.st (fun k => by rw [Fa4.j0]) (Ev.tt rfl (Ev.now _)))) (by rw [if_pos h4, if_neg h100])
  ·have h400 : ¬ Int.tmod y 400 = 0 := by
    rw [Int.tmod_eq_emod_of_nonneg hy] at h4 ⊢
    omega
   exact Ev.eq (Ev.neg h4 (Ev.st (fun k => by rw [Fa4.j0]) (Ev.ff (beq_eq_false_iff_ne.2 h400) (Ev.now _)))) (by rw [if_neg h4])
 ·have hd : dim y m = if m = 4 then 30 else if m = 6 then 30 else if m = 9 then 30 else if m = 11 then 30 else 31 := by
   unfold dim; exact if_neg h2
  rw [hd]
  refine Ev.neg h2 ?_
  by_cases a4 : m = 4
  ·exact Ev.eq (Ev.pos a4 (Ev.now _)) (by rw [if_pos a4])
  ·refine Ev.neg a4 ?_
   by_cases a6 : m = 6
   ·exact Ev.eq (Ev.pos a6 (Ev.now _)) (by rw [if_neg a4, if_pos a6])
   ·refine Ev.neg a6 ?_
    by_cases a9 : m = 9
    ·exact Ev.eq (Ev.pos a9 (Ev.now _)) (by rw [if_neg a4, if_neg a6, if_pos a9])
    ·refine Ev.neg a9 ?_
     by_cases a11 : m = 11
     ·exact Ev.eq (Ev.pos a11 (Ev.now _)) (by rw [if_neg a4, if_neg a6, if_neg a9, if_pos a11])
     ·exact Ev.eq (Ev.neg a11 (Ev.now _)) (by rw [if_neg a4, if_neg a6, if_neg a9, if_neg a11])
def dtB (y m d : Int) (c : Bool) : Bool := (y == 0 && (m == 0 && (d == 0 && (!c)))) || (rgB y 1 2999 && (rgB m 0 12 && (if c = true then (m == 0 && d == 0) else if m = 0 then (d == 0) else rgB d 0 (dim y m))))
theorem i_date (y m d : Int) (c : Bool) : Ev (fun k => Faw.f k y m d c) (dtB y m d c) := by
 unfold Faw.f dtB
 cases (y == 0 && (m == 0 && (d == 0 && (!c)))) with
 | true => exact Ev.tt rfl (Ev.now _)
 | false =>
  rw [Bool.false_or]
  refine Ev.ff rfl (Ev.b0 (i_in _ _ _) ?_)
  cases rgB y 1 2999 with
  | false => rw [Bool.false_and]; exact Ev.ff rfl (Ev.st (fun k => by rw [Faw.j0]) (Ev.tt rfl (Ev.now _)))
  | true =>
   rw [Bool.true_and]
   refine Ev.tt rfl (Ev.b0 (i_in _ _ _) ?_)
   cases rgB m 0 12 with
   | false => rw [Bool.false_and]; exact Ev.ff rfl (Ev.st (fun k => by rw [Faw.j0]) (Ev.tt rfl (Ev.now _)))
   | true =>
    rw [Bool.true_and]
    refine Ev.tt rfl ?_
    cases c with
    | true =>
     refine Ev.tt rfl (Ev.st (fun k => by rw [Faw.j0]) ?_)
     rw [if_pos rfl]
     by_cases hm : m = 0
     ·subst hm
      exact Ev.ff rfl (Ev.pos rfl (Ev.now _))
     ·rw [beq_eq_false_iff_ne.2 hm, Bool.false_and]
      exact Ev.tt (bne_iff_ne.2 hm) (Ev.now _)
    | false =>
     refine Ev.ff rfl (Ev.st (fun k => by rw [Faw.j0]) (Ev.ff rfl ?_))
     rw [if_neg Bool.false_ne_true]
     by_cases hm : m = 0
     ·exact Ev.eq (Ev.pos hm (Ev.now _)) (by rw [if_pos hm])
     ·refine Ev.eq (Ev.neg hm ?_) (by rw [if_neg hm])
      refine Ev.b0 (i_days y m) ?_
      exact Ev.b0 (i_in _ _ _) (Ev.now _)
theorem s_date (y m d : Int) (c : Bool) : Ev (fun k => Fba.f k y m d c) (dtB y m d c) := by
 unfold Fba.f dtB
 cases (y == 0 && (m == 0 && (d == 0 && (!c)))) with
 | true => exact Ev.tt rfl (Ev.now _)
 | false =>
  rw [Bool.false_or]
  refine Ev.ff rfl (Ev.b0 (s_in _ _ _) ?_)
  cases hy : rgB y 1 2999 with
  | false => rw [Bool.false_and]; exact Ev.ff rfl (Ev.st (fun k => by rw [Fba.j0]) (Ev.tt rfl (Ev.now _)))
  | true =>
   have hy0 : 0 ≤ y := by unfold rgB at hy; simp at hy; omega
   rw [Bool.true_and]
   refine Ev.tt rfl (Ev.b0 (s_in _ _ _) (Ev.st (fun k => by rw [Fba.j0]) ?_))
   cases rgB m 0 12 with
   | false => rw [Bool.false_and]; exact Ev.tt rfl (Ev.now _)
   | true =>
    rw [Bool.true_and]
    refine Ev.ff rfl ?_
    cases c with
    | true =>
     refine Ev.tt rfl ?_
     rw [if_pos rfl]
     by_cases hm : m = 0
     ·subst hm
      exact Ev.pos rfl (Ev.now _)
     ·rw [beq_eq_false_iff_ne.2 hm, Bool.false_and]
      exact Ev.neg hm (Ev.now _)
    | false =>
     refine Ev.ff rfl ?_
     rw [if_neg Bool.false_ne_true]
     by_cases hm : m = 0
     ·rw [if_pos hm]; exact Ev.pos hm (Ev.now _)
     ·rw [if_neg hm]; exact Ev.neg hm (Ev.b1 (s_days y m hy0) (Ev.b0 (s_in _ _ _) (Ev.now _)))
def prB (c : Int) : Bool := !decide (c < 32) && !decide (c > 126)
def edB (s : ByteArray) : Bool := decide (s.toList = ([] : List UInt8)) || (!decide (bt s 0 = 32) && (bt s ((s.size : Int) - 1) != 32))
def txB (s : ByteArray) : Bool := decide ((s.size : Int) ≤ 40) && ((bytesOf s).all prB && edB s)
theorem trim_self (L : List UInt8) : Lib.trimB L 32 = L ↔ (L.head? ≠ some 32 ∧ L.getLast? ≠ some 32) := by
 have dw : ∀ l : List UInt8, l.dropWhile (· == 32) = l ↔ l.head? ≠ some 32 := by
  intro l
  cases l with
  | nil => simp
  | cons b l =>
   by_cases hb : b = 32
   ·subst hb
    constructor
    ·intro h
     have h1 := congrArg List.length h
     have h2 : (l.dropWhile (· == 32)).length ≤ l.length := (List.dropWhile_suffix _).length_le
     rw [List.dropWhile_cons] at h1
     simp at h1
     omega
    ·intro h; exact absurd rfl h
   ·constructor
    ·intro _ h
     exact hb (by simpa using h)
    ·intro _
     rw [List.dropWhile_cons]
     simp [hb]
 have tr : Lib.trimRightB L 32 = L ↔ L.getLast? ≠ some 32 := by
  unfold Lib.trimRightB
  rw [← List.head?_reverse, ← dw L.reverse]
  constructor
  ·intro h
   have := congrArg List.reverse h
   rwa [List.reverse_reverse] at this
  ·intro h
   rw [h, List.reverse_reverse]
 unfold Lib.trimB Lib.trimLeftB
 constructor
 ·intro h
  have h1 := congrArg List.length h
  have h2 : ((Lib.trimRightB L 32).dropWhile (· == 32)).length ≤ (Lib.trimRightB L 32).length := (List.dropWhile_suffix _).length_le
  have h3 : (L.reverse.dropWhile (· == 32)).length ≤ L.reverse.length := (List.dropWhile_suffix _).length_le
  have h4 : (Lib.trimRightB L 32).length = (L.reverse.dropWhile (· == 32)).length := by unfold Lib.trimRightB; rw [List.length_reverse]
  rw [List.length_reverse] at h3
  have h5 : L.reverse.dropWhile (· == 32) = L.reverse := (List.dropWhile_suffix _).eq_of_length (by rw [List.length_reverse]; omega)
  have h6 : Lib.trimRightB L 32 = L := by unfold Lib.trimRightB; rw [h5, List.reverse_reverse]
  refine ⟨?_, tr.1 h6⟩
  rw [h6] at h
  exact (dw L).1 h
 ·intro ⟨h1, h2⟩
  rw [tr.2 h2]
  exact (dw L).2 h1
theorem i_edge (s : ByteArray) : ((⟨(Lib.trimB s.data.toList 32).toArray⟩ : ByteArray).toList == s.toList) = edB s := by
 have e1 : (⟨(Lib.trimB s.data.toList 32).toArray⟩ : ByteArray).toList = Lib.trimB s.data.toList 32 := by rw [Go.ByteArray.toList_eq]
 rw [e1, Go.ByteArray.toList_eq]
 unfold edB
 rw [Go.ByteArray.toList_eq]
 by_cases h0 : s.data.toList = []
 ·rw [h0, decide_eq_true rfl, Bool.true_or]; rfl
 ·have hp : 0 < s.size := by
   rw [size_data]
   exact List.length_pos_iff.2 h0
  rw [decide_eq_false h0, Bool.false_or]
  obtain ⟨b, hb, hbt⟩ := drop_bt s 0 hp
  obtain ⟨c, hc, hct⟩ := drop_bt s (s.size - 1) (by omega)
  rw [List.drop_zero] at hb
  have hh : s.data.toList.head? = some b := by rw [hb]; rfl
  have hl : s.data.toList.getLast? = some c := by
   rw [List.getLast?_eq_getElem?, data_length]
   have := congrArg (·[0]?) hc
   simpa [List.getElem?_drop] using this
  rw [show (s.size : Int) - 1 = ((s.size - 1 : Nat) : Int) by omega, hct]
  rw [show bt s 0 = (b.toNat : Int) from hbt]
  have q := trim_self s.data.toList
  rw [hh, hl] at q
  have n32 : ∀ x : UInt8, ((x.toNat : Int) = 32) ↔ x = 32 := fun x => ⟨fun h => u8_int (b := 32) h, fun h => by rw [h]; rfl⟩
  by_cases hb32 : b = 32
  ·rw [decide_eq_true ((n32 b).2 hb32), Bool.not_true, Bool.false_and]
   exact beq_eq_false_iff_ne.2 (fun h => (q.1 h).1 (by rw [hb32]))
  ·rw [decide_eq_false (fun h => hb32 ((n32 b).1 h)), Bool.not_false, Bool.true_and]
   by_cases hc32 : c = 32
   ·have : ((c.toNat : Int) != 32) = false := by rw [(n32 c).2 hc32]; rfl
    rw [this]
    exact beq_eq_false_iff_ne.2 (fun h => (q.1 h).2 (by rw [hc32]))
   ·have : ((c.toNat : Int) != 32) = true := bne_iff_ne.2 (fun h => hc32 ((n32 c).1 h))
    rw [this]
    exact beq_iff_eq.2 (q.2 ⟨fun h => hb32 (Option.some.inj h), fun h => hc32 (Option.some.inj h)⟩)
theorem i_text (s : ByteArray) : Ev (fun k => Fbo.f k s) (txB s) := by
 unfold Fbo.f txB
 by_cases h40 : (s.size : Int) ≤ 40
 ·rw [decide_eq_true h40, Bool.true_and]
  refine Ev.pos h40 (Ev.b1 (a := (bytesOf s).all prB && edB s) ?_ (Ev.now _))
  unfold FaM.f
  refine Ev.eq (loop_all (fun k i => FaM.l0 k s i) s prB (edB s) 0 ?_ ?_ s.size 0 (Nat.le_refl _) (by omega)) (by rw [List.drop_zero])
  ·intro i _ hi
   refine ⟨fun hp r hr => ?_, fun hp => ?_⟩
   ·unfold prB at hp
    simp at hp
    refine Ev.st (fun k => by rw [FaM.l0]) (vP (vP (vN (vN ?_))))
    rw [nsucc hi (by omega)]
    exact hr
   ·refine Ev.st (fun k => by rw [FaM.l0]) (vP (vP ?_))
    by_cases h32 : bt s i < 32
    ·exact Ev.pos h32 (Ev.now _)
    ·refine Ev.neg h32 (Ev.pos ?_ (Ev.now _))
     unfold prB at hp
     simp at hp
     omega
  ·refine Ev.st (fun k => by rw [FaM.l0]) ?_
   refine vN ?_
   refine Ev.b0 (a := (⟨(Lib.trimB s.data.toList 32).toArray⟩ : ByteArray)) ?_ (Ev.val (i_edge s))
   unfold Fb4.f
   rw [if_pos ⟨by omega, rfl⟩]
 ·rw [decide_eq_false h40, Bool.false_and]
  exact Ev.neg h40 (Ev.now _)
theorem s_text (s : ByteArray) : Ev (fun k => FaZ.f k s) (txB s) := by
 unfold FaZ.f txB
 by_cases h40 : (s.size : Int) ≤ 40
 ·rw [decide_eq_true h40, Bool.true_and]
  refine vN (Ev.eq (loop_all (fun k i => FaZ.l0 k s i) s prB (edB s) 0 ?_ ?_ s.size 0 (Nat.le_refl _) (by omega)) (by rw [List.drop_zero]))
  ·intro i _ hi
   refine ⟨fun hp r hr => ?_, fun hp => ?_⟩
   ·unfold prB at hp
    simp at hp
    refine Ev.st (fun k => by rw [FaZ.l0]) (vP (vP (vN (vN ?_))))
    rw [nsucc hi (by omega)]
    exact hr
   ·refine Ev.st (fun k => by rw [FaZ.l0]) (vP (vP ?_))
    by_cases h32 : bt s i < 32
    ·exact Ev.pos h32 (Ev.now _)
    ·refine Ev.neg h32 (Ev.pos ?_ (Ev.now _))
     unfold prB at hp
     simp at hp
     omega
  ·refine Ev.st (fun k => by rw [FaZ.l0]) (vN ?_)
   unfold edB
   by_cases he : s.toList = ([] : List UInt8)
   ·rw [decide_eq_true he, Bool.true_or]; exact Ev.pos he (Ev.now _)
   ·have h0 : 0 < s.size := by
     rw [size_data]
     refine List.length_pos_iff.2 (fun h => he ?_)
     rw [Go.ByteArray.toList_eq]; exact h
    have hw : wrap64 ((s.size : Int) - 1) = (s.size : Int) - 1 := w64 (by omega) (by omega)
    rw [decide_eq_false he, Bool.false_or, hw]
    refine Ev.neg he (vP ?_)
    by_cases h32 : bt s 0 = 32
    ·rw [decide_eq_true h32, Bool.not_true, Bool.false_and]; exact Ev.pos h32 (Ev.now _)
    ·rw [decide_eq_false h32, Bool.not_false, Bool.true_and]
     exact Ev.neg h32 (vP (vP (Ev.now _)))
 ·rw [decide_eq_false h40, Bool.false_and]
  exact vP (Ev.now _)
theorem Ev.an1 {g A B : Nat → Option Bool} {a r : Bool} (h : Ev g a) (kt : a = true → Ev A r) (kf : a = false → Ev B false) : Ev (fun n => (g n).bind fun t => if t = true then A n else B n) (a && r) := by
 refine Ev.b1 h ?_
 cases a with
 | true => rw [Bool.true_and]; exact Ev.tt rfl (kt rfl)
 | false => rw [Bool.false_and]; exact Ev.ff rfl (kf rfl)
theorem Ev.an0 {x : Option Bool} {A B : Nat → Option Bool} {a r : Bool} (h : x = some a) (kt : a = true → Ev A r) (kf : a = false → Ev B false) : Ev (fun n => x.bind fun t => if t = true then A n else B n) (a && r) := by
 subst h
 exact Ev.an1 (g := fun _ => some a) (Ev.now a) kt kf
def crB (a0 a13 : ByteArray) : Bool := decide (a13.toList = ([] : List UInt8)) || (keyB a13 && (a13.toList != a0.toList))
def enB (a0 : ByteArray) (a1 : Int) (l2 l3 : List S157) (a4 a5 a6 : ByteArray) (a7 a8 a9 : Int) (a10 : Bool) (a11 : Int) (a12 a13 : ByteArray) : Bool :=
 (keyB a0 && (rgB a1 1 4 && (nlB l2 && nlB l3))) && ((txB a4 && (txB a5 && (txB a6 && txB a12))) && (dtB a7 a8 a9 a10 && (rgB a11 0 9999 && crB a0 a13)))
theorem enB_i (a0 : ByteArray) (a1 : Int) (l2 l3 : List S157) (a4 a5 a6 : ByteArray) (a7 a8 a9 : Int) (a10 : Bool) (a11 : Int) (a12 a13 : ByteArray) :
  enB a0 a1 l2 l3 a4 a5 a6 a7 a8 a9 a10 a11 a12 a13 = (keyB a0 && (rgB a1 1 4 && (nlB l2 && (nlB l3 && (dtB a7 a8 a9 a10 && (rgB a11 0 9999 && (txB a4 && (txB a5 && (txB a6 && (txB a12 && crB a0 a13)))))))))) := by
 unfold enB
 generalize keyB a0 = b0, rgB a1 1 4 = b1, nlB l2 = b2, nlB l3 = b3, txB a4 = b4, txB a5 = b5, txB a6 = b6, txB a12 = b7, dtB a7 a8 a9 a10 = b8, rgB a11 0 9999 = b9, crB a0 a13 = b10
 cases b0 <;> cases b1 <;> cases b2 <;> cases b3 <;> cases b4 <;> cases b5 <;> cases b6 <;> cases b7 <;> cases b8 <;> cases b9 <;> cases b10 <;> rfl
theorem i_kind (a : Int) : Fb2.f a = some (rgB a 1 4) := by
 unfold Fb2.f
 rw [i_in]
 rfl
theorem i_cross (a0 a13 : ByteArray) (h : a13.size ≤ 1048576) : Ev (fun k => if a13.toList = ([] : List UInt8) then (some true) else ((FaE.f k a13).bind fun t411 => (if t411 = true then (some (a13.toList != a0.toList)) else (some false)))) (crB a0 a13) := by
 unfold crB
 by_cases he : a13.toList = ([] : List UInt8)
 ·rw [decide_eq_true he, Bool.true_or]; exact Ev.pos he (Ev.now _)
 ·rw [decide_eq_false he, Bool.false_or]
  exact Ev.neg he (Ev.an1 (i_key a13 (by omega)) (fun _ => Ev.now _) (fun _ => Ev.now _))
theorem s_cross (a0 a13 : ByteArray) (h : a13.size ≤ 1048576) : Ev (fun k => if a13.toList = ([] : List UInt8) then (some true) else ((FaD.f k a13).bind fun t411 => (if t411 = true then (some (a13.toList != a0.toList)) else (some false)))) (crB a0 a13) := by
 unfold crB
 by_cases he : a13.toList = ([] : List UInt8)
 ·rw [decide_eq_true he, Bool.true_or]; exact Ev.pos he (Ev.now _)
 ·rw [decide_eq_false he, Bool.false_or]
  exact Ev.neg he (Ev.an1 (s_key a13 (by omega)) (fun _ => Ev.now _) (fun _ => Ev.now _))
theorem i_entry (a0 : ByteArray) (a1 : Int) (l2 l3 : List S157) (a4 a5 a6 : ByteArray) (a7 a8 a9 : Int) (a10 : Bool) (a11 : Int) (a12 a13 : ByteArray) (h0 : a0.size ≤ 1048576) (h2 : szNs l2) (h3 : szNs l3) (h13 : a13.size ≤ 1048576) :
  Ev (fun k => Far.f k a0 a1 l2 l3 a4 a5 a6 a7 a8 a9 a10 a11 a12 a13) (enB a0 a1 l2 l3 a4 a5 a6 a7 a8 a9 a10 a11 a12 a13) := by
 rw [enB_i]
 unfold Far.f
 have no : Ev (fun k => Far.j0 k true a0 a1 l2 l3 a4 a5 a6 a7 a8 a9 a10 a11 a12 a13) false := Ev.st (fun k => by rw [Far.j0]) (Ev.tt rfl (Ev.now _))
 refine Ev.an1 (i_key a0 (by omega)) (fun _ => ?_) (fun _ => no)
 refine Ev.an0 (i_kind a1) (fun _ => ?_) (fun _ => no)
 refine Ev.an1 (i_names l2 h2) (fun _ => ?_) (fun _ => no)
 refine Ev.an1 (i_names l3 h3) (fun _ => ?_) (fun _ => no)
 refine Ev.an1 (i_date a7 a8 a9 a10) (fun _ => ?_) (fun _ => no)
 refine Ev.b0 (i_in a11 0 9999) ?_
 cases rgB a11 0 9999 with
 | false => exact no
 | true =>
  rw [Bool.true_and]
  refine Ev.st (fun k => by rw [Far.j0]) ?_
  refine Ev.ff rfl ?_
  refine Ev.an1 (i_text a4) (fun _ => ?_) (fun _ => Ev.now _)
  refine Ev.an1 (i_text a5) (fun _ => ?_) (fun _ => Ev.now _)
  refine Ev.an1 (i_text a6) (fun _ => ?_) (fun _ => Ev.now _)
  refine Ev.an1 (i_text a12) (fun _ => ?_) (fun _ => Ev.now _)
  exact i_cross a0 a13 h13
theorem s_entry (a0 : ByteArray) (a1 : Int) (l2 l3 : List S157) (a4 a5 a6 : ByteArray) (a7 a8 a9 : Int) (a10 : Bool) (a11 : Int) (a12 a13 : ByteArray) (h0 : a0.size ≤ 1048576) (h2 : szNs l2) (h3 : szNs l3) (h13 : a13.size ≤ 1048576) :
  Ev (fun k => Fav.f k a0 a1 l2 l3 a4 a5 a6 a7 a8 a9 a10 a11 a12 a13) (enB a0 a1 l2 l3 a4 a5 a6 a7 a8 a9 a10 a11 a12 a13) := by
 unfold Fav.f enB
 have no : Ev (fun k => Fav.j0 k true a0 a1 l2 l3 a4 a5 a6 a7 a8 a9 a10 a11 a12 a13) false := Ev.st (fun k => by rw [Fav.j0]) (Ev.tt rfl (Ev.now _))
 have no1 : Ev (fun k => Fav.j1 k true a0 a1 l2 l3 a4 a5 a6 a7 a8 a9 a10 a11 a12 a13) false := Ev.st (fun k => by rw [Fav.j1]) (Ev.tt rfl (Ev.now _))
 rw [Bool.and_assoc, Bool.and_assoc, Bool.and_assoc]
 refine Ev.an1 (s_key a0 (by omega)) (fun _ => ?_) (fun _ => no)
 refine Ev.an0 (s_in a1 1 4) (fun _ => ?_) (fun _ => no)
 refine Ev.an1 (s_names l2 h2) (fun _ => ?_) (fun _ => no)
 refine Ev.b1 (s_names l3 h3) ?_
 cases nlB l3 with
 | false => exact no
 | true =>
  rw [Bool.true_and]
  refine Ev.st (fun k => by rw [Fav.j0]) ?_
  refine Ev.ff rfl ?_
  rw [Bool.and_assoc, Bool.and_assoc, Bool.and_assoc]
  refine Ev.an1 (s_text a4) (fun _ => ?_) (fun _ => no1)
  refine Ev.an1 (s_text a5) (fun _ => ?_) (fun _ => no1)
  refine Ev.an1 (s_text a6) (fun _ => ?_) (fun _ => no1)
  refine Ev.b1 (s_text a12) ?_
  cases txB a12 with
  | false => exact no1
  | true =>
   rw [Bool.true_and]
   refine Ev.st (fun k => by rw [Fav.j1]) ?_
   refine Ev.ff rfl ?_
   refine Ev.an1 (s_date a7 a8 a9 a10) (fun _ => ?_) (fun _ => Ev.now _)
   refine Ev.an0 (s_in a11 0 9999) (fun _ => ?_) (fun _ => Ev.now _)
   exact s_cross a0 a13 h13
end Go.Proofs.YtmafmhgmdegplaaGreatDoor.P
