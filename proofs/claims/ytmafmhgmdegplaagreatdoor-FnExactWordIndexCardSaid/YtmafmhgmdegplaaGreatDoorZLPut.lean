/- A list that is sorted and rid of what repeats is the list into which all has been put one by one. No conditions beyond each lemma's own. -/
import Derived.Sort.OwnSorted
import Derived.Test.YtmafmhgmdegplaaGreatDoorZPx24
namespace Go.Proofs.YtmafmhgmdegplaaGreatDoor.P
open Go.RowKit Go.Proofs.YtmafmhgmdegplaaGreatDoorW.PrintWords Go.Proofs.YtmafmhgmdegplaaGreatDoorW.PrintLast Go.Proofs.YtmafmhgmdegplaaGreatDoorW.PrintMore
set_option linter.unusedVariables false
set_option linter.unusedSimpArgs false
def SL (l : List (List UInt8)) : Prop := l.Pairwise (fun a b => a < b)
theorem sl_ext : ∀ {a b : List (List UInt8)}, SL a → SL b → (∀ x, x ∈ a ↔ x ∈ b) → a = b
 | [], [], _, _, _ => rfl
 | [], y :: s, _, _, h => absurd ((h y).2 List.mem_cons_self) List.not_mem_nil
 | x :: r, [], _, _, h => absurd ((h x).1 List.mem_cons_self) List.not_mem_nil
 | x :: r, y :: s, ha, hb, h => by
  obtain ⟨h1, h2⟩ := List.pairwise_cons.1 ha
  obtain ⟨k1, k2⟩ := List.pairwise_cons.1 hb
  have e : x = y := by
   rcases List.mem_cons.1 ((h x).1 List.mem_cons_self) with e | hx
   ·exact e
   ·rcases List.mem_cons.1 ((h y).2 List.mem_cons_self) with e | hy
    ·exact e.symm
    ·exact absurd (List.lt_trans (h1 y hy) (k1 x hx)) (List.lt_irrefl _)
  subst e
  congr 1
  refine sl_ext h2 k2 (fun z => ⟨fun hz => ?_, fun hz => ?_⟩)
  ·rcases List.mem_cons.1 ((h z).1 (List.mem_cons_of_mem _ hz)) with e | h3
   ·exact absurd (e ▸ h1 z hz) (List.lt_irrefl _)
   ·exact h3
  ·rcases List.mem_cons.1 ((h z).2 (List.mem_cons_of_mem _ hz)) with e | h3
   ·exact absurd (e ▸ k1 z hz) (List.lt_irrefl _)
   ·exact h3
theorem lt_of_le_ne {a b : List UInt8} (h : a ≤ b) (n : a ≠ b) : a < b := by
 rcases Classical.em (a < b) with h2 | h2
 ·exact h2
 ·exact absurd (List.le_antisymm h (List.not_lt.1 h2)) n
def putL (s : List UInt8) : List (List UInt8) → List (List UInt8)
 | [] => [s]
 | x :: r => if x < s then x :: putL s r else if x = s then x :: r else s :: x :: r
theorem putL_mem (s : List UInt8) : ∀ (l : List (List UInt8)) (z : List UInt8), z ∈ putL s l ↔ z = s ∨ z ∈ l
 | [], z => by simp [putL]
 | x :: r, z => by
  unfold putL
  by_cases h : x < s
  ·rw [if_pos h, List.mem_cons, putL_mem s r z, List.mem_cons]
   exact ⟨fun h => h.elim (fun e => .inr (.inl e)) (fun h => h.elim .inl (fun h => .inr (.inr h))), fun h => h.elim (fun e => .inr (.inl e)) (fun h => h.elim .inl (fun h => .inr (.inr h)))⟩
  ·rw [if_neg h]
   by_cases e : x = s
   ·rw [if_pos e, List.mem_cons]
    exact ⟨.inr, fun h => h.elim (fun h => .inl (h.trans e.symm)) id⟩
   ·rw [if_neg e, List.mem_cons]
theorem putL_sl (s : List UInt8) : ∀ (l : List (List UInt8)), SL l → SL (putL s l)
 | [], _ => List.pairwise_singleton _ _
 | x :: r, hl => by
  obtain ⟨h1, h2⟩ := List.pairwise_cons.1 hl
  unfold putL
  by_cases h : x < s
  ·rw [if_pos h]
   refine List.pairwise_cons.2 ⟨fun z hz => ?_, putL_sl s r h2⟩
   rcases (putL_mem s r z).1 hz with e | hz
   ·rw [e]; exact h
   ·exact h1 z hz
  ·rw [if_neg h]
   by_cases e : x = s
   ·rw [if_pos e]; exact hl
   ·rw [if_neg e]
    have hs : s < x := lt_of_le_ne (List.not_lt.1 h) (fun he => e he.symm)
    refine List.pairwise_cons.2 ⟨fun z hz => ?_, hl⟩
    rcases List.mem_cons.1 hz with e2 | hz
    ·rw [e2]; exact hs
    ·exact List.lt_trans hs (h1 z hz)
def putAll (l : List (List UInt8)) (acc : List (List UInt8)) : List (List UInt8) := l.foldl (fun a s => putL s a) acc
theorem putAll_ok : ∀ (l acc : List (List UInt8)), SL acc → SL (putAll l acc) ∧ ∀ z, z ∈ putAll l acc ↔ z ∈ l ∨ z ∈ acc
 | [], acc, h => ⟨h, fun z => ⟨.inr, fun h => h.elim (fun h => absurd h List.not_mem_nil) id⟩⟩
 | s :: r, acc, h => by
  obtain ⟨h1, h2⟩ := putAll_ok r (putL s acc) (putL_sl s acc h)
  refine ⟨h1, fun z => ?_⟩
  show z ∈ putAll r (putL s acc) ↔ _
  rw [h2 z, putL_mem, List.mem_cons]
  exact ⟨fun h => h.elim (fun h => .inl (.inr h)) (fun h => h.elim (fun h => .inl (.inl h)) .inr), fun h => h.elim (fun h => h.elim (fun h => .inr (.inl h)) .inl) (fun h => .inr (.inr h))⟩
theorem cu_ok (d : Array (List UInt8)) (hs : ∀ i j, i < j → j < d.size → d[i]! ≤ d[j]!) : ∀ m, m ≤ d.size → SL (Lib.compactUpTo d m) ∧ (∀ x, x ∈ Lib.compactUpTo d m ↔ ∃ j, j < m ∧ d[j]! = x) ∧ ∀ x, x ∈ Lib.compactUpTo d m → x ≤ d[m - 1]!
 | 0, _ => ⟨List.Pairwise.nil, fun x => ⟨fun h => absurd h List.not_mem_nil, fun ⟨_, h, _⟩ => by omega⟩, fun x h => absurd h List.not_mem_nil⟩
 | m + 1, hm => by
  obtain ⟨h1, h2, h3⟩ := cu_ok d hs m (by omega)
  rw [Lib.compactUpTo_succ]
  by_cases hk : Lib.keeps d m = true
  ·rw [if_pos hk]
   have hlt : ∀ x, x ∈ Lib.compactUpTo d m → x < d[m]! := fun x hx => by
    obtain ⟨j, hj, _⟩ := (h2 x).1 hx
    have hne : d[m]! ≠ d[m - 1]! := by
     have := of_decide_eq_true hk
     rcases this with h | h
     ·omega
     ·exact h
    have h4 := hs (m - 1) m (by omega) (by omega)
    exact List.lt_of_le_of_lt (h3 x hx) (lt_of_le_ne h4 (fun e => hne e.symm))
   refine ⟨List.pairwise_append.2 ⟨h1, List.pairwise_singleton _ _, fun a ha b hb => by rw [List.mem_singleton.1 hb]; exact hlt a ha⟩, fun x => ?_, fun x hx => ?_⟩
   ·rw [List.mem_append, h2 x, List.mem_singleton]
    constructor
    ·rintro (⟨j, hj, e⟩ | e)
     ·exact ⟨j, by omega, e⟩
     ·exact ⟨m, by omega, e.symm⟩
    ·rintro ⟨j, hj, e⟩
     by_cases hjm : j = m
     ·subst hjm; exact .inr e.symm
     ·exact .inl ⟨j, by omega, e⟩
   ·rw [Nat.add_sub_cancel]
    rcases List.mem_append.1 hx with hx | hx
    ·exact List.not_lt.1 (fun h => List.lt_irrefl _ (List.lt_trans h (hlt x hx)))
    ·rw [List.mem_singleton.1 hx]; exact List.not_lt.1 (List.lt_irrefl _)
  ·rw [if_neg hk, List.append_nil]
   have he : 0 < m ∧ d[m]! = d[m - 1]! := by
    have h4 : ¬ (m = 0 ∨ d[m]! ≠ d[m - 1]!) := fun h => hk (decide_eq_true h)
    exact ⟨Nat.pos_of_ne_zero (fun h => h4 (.inl h)), Classical.byContradiction (fun h => h4 (.inr h))⟩
   refine ⟨h1, fun x => ?_, fun x hx => ?_⟩
   ·rw [h2 x]
    constructor
    ·rintro ⟨j, hj, e⟩
     exact ⟨j, by omega, e⟩
    ·rintro ⟨j, hj, e⟩
     by_cases hjm : j = m
     ·subst hjm; exact ⟨j - 1, by omega, he.2.symm.trans e⟩
     ·exact ⟨j, by omega, e⟩
   ·rw [Nat.add_sub_cancel, he.2]; exact h3 x hx
theorem compact_ok (l : List (List UInt8)) (hs : l.Pairwise (fun a b => a ≤ b)) : SL (Lib.compact l) ∧ ∀ x, x ∈ Lib.compact l ↔ x ∈ l := by
 have hd : ∀ i j, i < j → j < l.toArray.size → l.toArray[i]! ≤ l.toArray[j]! := fun i j h1 h2 => by
  have h3 : j < l.length := by simpa using h2
  rw [getElem!_pos l.toArray i (by simp; omega), getElem!_pos l.toArray j h2]
  exact List.pairwise_iff_getElem.1 hs i j (by omega) h3 h1
 obtain ⟨h1, h2, _⟩ := cu_ok l.toArray hd l.length (by simp)
 refine ⟨h1, fun x => ?_⟩
 show x ∈ Lib.compactUpTo l.toArray l.length ↔ _
 rw [h2 x]
 constructor
 ·rintro ⟨j, hj, e⟩
  rw [getElem!_pos l.toArray j (by simpa using hj)] at e
  rw [← e]
  exact List.getElem_mem (by simpa using hj)
 ·intro hx
  obtain ⟨j, hj, e⟩ := List.getElem_of_mem hx
  exact ⟨j, hj, by rw [getElem!_pos l.toArray j (by simpa using hj)]; exact e⟩
theorem sort_put (l : List (List UInt8)) : Lib.compact (l.mergeSort fun x y => decide (x ≤ y)) = putAll l [] := by
 have hs : (l.mergeSort fun x y => decide (x ≤ y)).Pairwise (fun a b => a ≤ b) := by
  have := List.pairwise_mergeSort (le := fun (x y : List UInt8) => decide (x ≤ y)) (fun a b c h1 h2 => decide_eq_true (List.le_trans (of_decide_eq_true h1) (of_decide_eq_true h2))) (fun a b => by
   rcases List.le_total a b with h | h
   ·rw [decide_eq_true h]; rfl
   ·rw [decide_eq_true h, Bool.or_true]) l
  exact this.imp (fun h => of_decide_eq_true h)
 obtain ⟨h1, h2⟩ := compact_ok _ hs
 obtain ⟨h3, h4⟩ := putAll_ok l [] List.Pairwise.nil
 refine sl_ext h1 h3 (fun x => ?_)
 rw [h2 x, List.mem_mergeSort, h4 x]
 exact ⟨.inl, fun h => h.elim id (fun h => absurd h List.not_mem_nil)⟩
theorem unS_data (x : List UInt8) : (unS x).data.toList = x := by simp [unS]
theorem unS_of (b : ByteArray) : unS b.data.toList = b := by
 cases b with
 | mk d => simp [unS]
theorem srt_cmp (l : List ByteArray) : cmpS (srtS l) = (putAll (l.map (fun b => b.data.toList)) []).map unS := by
 unfold cmpS srtS
 rw [List.map_map, ← sort_put]
 congr 1
 congr 1
 rw [show ((fun b : ByteArray => b.data.toList) ∘ unS) = id from funext (fun x => unS_data x), List.map_id]
def putB (s : ByteArray) (l : List ByteArray) : List ByteArray := (putL s.data.toList (l.map (fun b => b.data.toList))).map unS
theorem putB_nil (s : ByteArray) : putB s [] = [s] := by
 show [unS s.data.toList] = [s]
 rw [unS_of]
theorem map_unS (l : List ByteArray) : (l.map (fun b => b.data.toList)).map unS = l := by
 rw [List.map_map]
 conv => rhs; rw [← List.map_id l]
 exact List.map_congr_left (fun b _ => unS_of b)
theorem putB_lt (s x : ByteArray) (r : List ByteArray) (h : x.data.toList < s.data.toList) : putB s (x :: r) = x :: putB s r := by
 unfold putB
 rw [List.map_cons, putL, if_pos h, List.map_cons, unS_of]
theorem putB_eq (s x : ByteArray) (r : List ByteArray) (h : ¬ x.data.toList < s.data.toList) (e : x.data.toList = s.data.toList) : putB s (x :: r) = x :: r := by
 unfold putB
 rw [List.map_cons, putL, if_neg h, if_pos e, List.map_cons, unS_of, map_unS]
theorem putB_gt (s x : ByteArray) (r : List ByteArray) (h : ¬ x.data.toList < s.data.toList) (e : ¬ x.data.toList = s.data.toList) : putB s (x :: r) = s :: x :: r := by
 unfold putB
 rw [List.map_cons, putL, if_neg h, if_neg e, List.map_cons, List.map_cons, unS_of, unS_of, map_unS]
theorem putB_all : ∀ (l acc : List ByteArray), (putAll (l.map (fun b => b.data.toList)) (acc.map (fun b => b.data.toList))).map unS = l.foldl (fun a s => putB s a) acc
 | [], acc => map_unS acc
 | s :: r, acc => by
  show (putAll (r.map _) (putL s.data.toList (acc.map _))).map unS = r.foldl _ (putB s acc)
  rw [← putB_all r (putB s acc)]
  congr 2
  unfold putB
  rw [List.map_map, show ((fun b : ByteArray => b.data.toList) ∘ unS) = id from funext (fun x => unS_data x), List.map_id]
theorem srt_put (l : List ByteArray) : cmpS (srtS l) = l.foldl (fun a s => putB s a) [] := by
 rw [srt_cmp, ← putB_all l []]
 rfl
theorem bL_eq : ∀ (x y : List UInt8), Op.bytesLess x y = decide (x < y)
 | [], [] => by rw [Op.bytesLess, decide_eq_false (List.lt_irrefl _)]
 | a :: x, [] => by rw [Op.bytesLess, decide_eq_false (List.not_lt_nil _)]
 | [], b :: y => by rw [Op.bytesLess, decide_eq_true (List.nil_lt_cons _ _)]
 | a :: x, b :: y => by
  rw [Op.bytesLess, bL_eq x y, Bool.eq_iff_iff]
  simp [List.cons_lt_cons_iff]
end Go.Proofs.YtmafmhgmdegplaaGreatDoor.P
