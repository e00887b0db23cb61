/- The tests of a log agree: what the program's IsValidLog and the reference's test of a log answer, for logs of at most 1048576 bytes together. -/
import Derived.Test.YtinbbjfnebhlkaaDoorZPx5
import Derived.Test.YtinbbjfnebhlkaaDoorZPx7
import Derived.Test.YtinbbjfnebhlkaaDoorZLBase
import Derived.Test.YtinbbjfnebhlkaaDoorZLCut
import Derived.Test.YtinbbjfnebhlkaaDoorZLLog
import Derived.Test.YtinbbjfnebhlkaaDoorZLNum
import Derived.Test.YtinbbjfnebhlkaaDoorZLWalk
namespace Go.Proofs.YtinbbjfnebhlkaaDoor.P
open Go.RowKit Go.Proofs.YtinbbjfnebhlkaaDoorW.PrintWords Go.Proofs.YtinbbjfnebhlkaaDoorW.PrintLast Go.Proofs.YtinbbjfnebhlkaaDoorW.PrintMore
set_option linter.unusedVariables false
set_option linter.unusedSimpArgs false
theorem posL_left {a b : List UInt8} {x : UInt8} (h : posL a x < a.length) : posL (a ++ b) x = posL a x := by
 induction a with
 | nil => simp [posL] at h
 | cons y a ih =>
  rw [posL_cons] at h
  rw [List.cons_append, posL_cons, posL_cons]
  by_cases e : y = x
  ·rw [if_pos e, if_pos e]
  ·rw [if_neg e] at h
   rw [if_neg e, if_neg e, ih (by simp only [List.length_cons] at h; omega)]
theorem posL_right {a b : List UInt8} {x : UInt8} (h : ¬ posL a x < a.length) : a.length ≤ posL (a ++ b) x := by
 induction a with
 | nil => simp
 | cons y a ih =>
  rw [posL_cons] at h
  rw [List.cons_append, posL_cons]
  by_cases e : y = x
  ·rw [if_pos e] at h
   simp at h
  ·rw [if_neg e] at h
   rw [if_neg e]
   have := ih (by simp only [List.length_cons] at h; omega)
   simp only [List.length_cons]
   omega
theorem mem_ends (d : Nat) (D P : ByteArray) : ∀ a n : Nat, a ≤ D.size → (endB (walkB D d a n) a = D.size ↔ (a = D.size ∨ ∃ x ∈ walkB (D ++ P) d a n, x.2 = D.size)) := by
 induction d with
 | zero => intro a n _; simp [walkB, endB]
 | succ d ih =>
  intro a n ha
  have hDP : (D ++ P).data.toList = D.data.toList ++ P.data.toList := toL_append D P
  have hDs : (D.extract a D.size).size = D.size - a := by rw [ByteArray.size_extract]; omega
  have hDPs : ((D ++ P).extract a (D ++ P).size).size = D.size + P.size - a := by rw [ByteArray.size_extract, ByteArray.size_append]; omega
  have hE : ((D ++ P).extract a (D ++ P).size).data.toList = (D.extract a D.size).data.toList ++ P.data.toList := by
   rw [extract_end_toL, extract_end_toL, hDP, List.drop_append_of_le_length (by rw [← size_data]; exact ha)]
  unfold walkB
  by_cases hnl : posL (D.extract a D.size).data.toList 10 < (D.extract a D.size).size
  ·have hpos : posL ((D ++ P).extract a (D ++ P).size).data.toList 10 = posL (D.extract a D.size).data.toList 10 := by
    rw [hE]; exact posL_left (by rw [← size_data]; exact hnl)
   obtain ⟨c1, c2⟩ := cutB_is hnl
   have hnl2 : posL ((D ++ P).extract a (D ++ P).size).data.toList 10 < ((D ++ P).extract a (D ++ P).size).size := by rw [hpos, hDPs]; omega
   obtain ⟨c3, c4⟩ := cutB_is hnl2
   have c5 : (cutB ((D ++ P).extract a (D ++ P).size) 10).1 = (cutB (D.extract a D.size) 10).1 := by
    rw [c2, c4, hpos]
    apply bytes_eq
    rw [extract_zero_toL, extract_zero_toL, hE, List.take_append_of_le_length (by rw [← size_data]; omega)]
   have hrd : readB ((D ++ P).extract a (D ++ P).size) (n : Int) = readB (D.extract a D.size) (n : Int) := by
    unfold readB; rw [c1, c3, c5]
   rw [hrd, c5]
   cases hq : readB (D.extract a D.size) (n : Int) with
   | none => simp [endB]
   | some cr =>
    obtain ⟨_, l2⟩ := readB_line hq (by omega)
    have q2 : a + (cutB (D.extract a D.size) 10).1.size + 1 ≤ D.size := Nat.le_trans (Nat.add_le_add_left (Nat.le_trans l2 (Nat.le_of_eq hDs)) a) (Nat.le_of_eq (Nat.add_sub_cancel' ha))
    have hi := ih (a + (cutB (D.extract a D.size) 10).1.size + 1) (n + 1) q2
    simp only [endB]
    rw [hi]
    generalize (cutB (D.extract a D.size) 10).1.size = z at *
    have hne : ¬ a = D.size := by clear hi ih hnl l2 hDs hDPs; omega
    constructor
    ·rintro (h | ⟨x, hx, h⟩)
     ·exact Or.inr ⟨_, List.mem_cons_self, h⟩
     ·exact Or.inr ⟨x, List.mem_cons_of_mem _ hx, h⟩
    ·rintro (h | ⟨x, hx, h⟩)
     ·exact absurd h hne
     ·cases hx with
      | head => exact Or.inl h
      | tail _ hx => exact Or.inr ⟨x, hx, h⟩
  ·have hno : readB (D.extract a D.size) (n : Int) = none := by
    unfold readB
    rw [if_neg (fun h => hnl (cutB_true h.1).1)]
   rw [hno]
   simp only [endB]
   constructor
   ·exact fun h => Or.inl h
   ·rintro (h | ⟨x, hx, h⟩)
    ·exact h
    ·exfalso
     cases hq : readB ((D ++ P).extract a (D ++ P).size) (n : Int) with
     | none => rw [hq] at hx; cases hx
     | some cr =>
      rw [hq] at hx
      obtain ⟨r1, _, _⟩ := readB_some hq
      obtain ⟨_, _, z3⟩ := cutB_true r1
      have hge : (D.extract a D.size).size ≤ posL ((D ++ P).extract a (D ++ P).size).data.toList 10 := by
       rw [hE, size_data]
       exact posL_right (by rw [← size_data]; exact hnl)
      rw [← z3, hDs] at hge
      generalize (cutB ((D ++ P).extract a (D ++ P).size) 10).1.size = z at *
      simp only [List.mem_cons] at hx
      have hb : D.size < a + z + 1 := by clear hnl; omega
      rcases hx with rfl | hx
      ·simp only at h
       omega
      ·obtain ⟨_, _, _, i4, _⟩ := walkB_end (D ++ P) d (a + z + 1) (n + 1)
       have := i4 x hx
       omega
def isLogB (D P : ByteArray) (c : Int) : Bool := decide (endB (recsB (D ++ P)) 0 = D.size + P.size) && decide (endB (recsB D) 0 = D.size) && decide (((recsB (D ++ P)).length : Int) = c)
theorem specLog (D P : ByteArray) (c : Int) (hs : D.size + P.size ≤ 1048576) (k : Nat) (hk : 2 * (D.size + P.size) + 800 < k) : spec_l26Log.f k D P c = some (isLogB D P c) := by
 obtain ⟨b1, _, _⟩ := recsB_facts (D ++ P)
 have hz : (D ++ P).size = D.size + P.size := ByteArray.size_append
 have hw : wrap64 ((D.size : Int) + (P.size : Int)) = ((D.size + P.size : Nat) : Int) := by rw [w64 (by omega) (by omega)]; omega
 unfold spec_l26Log.f isLogB
 rw [hw]
 by_cases hbig : ((D.size + P.size : Nat) : Int) > 30000
 ·rw [if_pos hbig]
  have : decide (endB (recsB (D ++ P)) 0 = D.size + P.size) = false := decide_eq_false (by omega)
  rw [this]
  rfl
 ·rw [if_neg hbig, if_pos (by omega), specOpen (D ++ P) (by omega) k (by omega), specOpen D (by omega) k (by omega)]
  simp only [Option.bind_some, List.length_map]
  by_cases h1 : endB (recsB (D ++ P)) 0 = D.size + P.size
  ·rw [if_pos (by omega), decide_eq_true h1]
   by_cases h2 : endB (recsB D) 0 = D.size
   ·rw [if_pos (by omega), decide_eq_true h2, beqd]
    simp
   ·rw [if_neg (by omega), decide_eq_false h2]
    simp
  ·rw [if_neg (by omega), decide_eq_false h1]
   simp
theorem rd_len (l : List Int) (i : Nat) : rd l (i : Int) = l.getD i 0 := rfl
theorem valid_l0 (D P : ByteArray) (c : Int) (l : List Int) (hl : l.length ≤ 1000000) (d : Nat) : ∀ (k i : Nat), l.length - i = d → d < k → i ≤ l.length →
  impl_IsValidLog.l0 k l (l.length : Int) (i : Int) D P c = some (decide ((D.size : Int) ∈ l.drop i)) := by
 induction d with
 | zero =>
  intro k i hd hk hi
  obtain ⟨k, rfl⟩ := succ_of hk
  rw [impl_IsValidLog.l0, if_neg (by omega), List.drop_of_length_le (by omega)]
  simp
 | succ d ih =>
  intro k i hd hk hi
  obtain ⟨k, rfl⟩ := succ_of hk
  have hlt : i < l.length := by omega
  rw [impl_IsValidLog.l0, if_pos (by omega), if_pos (by omega), if_pos (by omega), rd_len, w64_succ hlt (by omega), List.drop_eq_getElem_cons hlt]
  have hg : l.getD i 0 = l[i] := by rw [List.getD_eq_getElem?_getD, List.getElem?_eq_getElem hlt]; rfl
  rw [hg]
  by_cases e : l[i] = (D.size : Int)
  ·rw [if_pos e]
   simp [e]
  ·rw [if_neg e, ih k (i + 1) (by omega) (by omega) (by omega)]
   have e2 : ¬ (D.size : Int) = l[i] := fun h => e h.symm
   congr 1
   exact decide_eq_decide.2 (by rw [List.mem_cons]; exact ⟨fun h => Or.inr h, fun h => h.resolve_left e2⟩)
theorem implLog (D P : ByteArray) (c : Int) (hs : D.size + P.size ≤ 1048576) (k : Nat) (hk : 2 * (D.size + P.size) + 800 < k) : impl_IsValidLog.f k D P c = some (isLogB D P c) := by
 obtain ⟨_, _, b3⟩ := recsB_facts (D ++ P)
 have hz : (D ++ P).size = D.size + P.size := ByteArray.size_append
 have hr := rd_end (recsB (D ++ P)) 0
 have e0 : (((0 : Nat) : Int)) = 0 := rfl
 rw [e0] at hr
 obtain ⟨k, rfl⟩ := succ_of hk
 unfold impl_IsValidLog.f isLogB
 rw [if_pos (by omega), implRecords (D ++ P) (by omega) (k + 1) (by omega)]
 simp only [Option.bind_some, List.length_map, List.length_cons]
 rw [if_pos (by omega), if_pos (by omega), hr, hz]
 have hmem := mem_ends 60 D P 0 0 (by omega)
 by_cases h1 : endB (recsB (D ++ P)) 0 = D.size + P.size
 ·rw [if_pos (by omega), decide_eq_true h1, impl_IsValidLog.j0]
  by_cases hc : ((recsB (D ++ P)).length : Int) = c
  ·have hb : (((recsB (D ++ P)).length : Int) != c) = false := bne_eq_false_iff_eq.2 hc
   rw [hb, if_neg (by simp), decide_eq_true hc]
   have hv := valid_l0 D P c (0 :: (recsB (D ++ P)).map (fun x => (x.2 : Int))) (by simp; omega) _ k 0 rfl (by simp; omega) (by omega)
   simp only [List.drop_zero] at hv
   rw [e0] at hv
   rw [hv]
   have : ((D.size : Int) ∈ (0 : Int) :: (recsB (D ++ P)).map (fun x => (x.2 : Int))) ↔ endB (recsB D) 0 = D.size := by
    unfold recsB
    rw [hmem]
    simp only [List.mem_cons, List.mem_map]
    constructor
    ·rintro (h | ⟨x, hx, h⟩)
     ·exact Or.inl (by omega)
     ·exact Or.inr ⟨x, hx, by omega⟩
    ·rintro (h | ⟨x, hx, h⟩)
     ·exact Or.inl (by omega)
     ·exact Or.inr ⟨x, hx, by omega⟩
   by_cases h9 : endB (recsB D) 0 = D.size
   ·rw [decide_eq_true h9, decide_eq_true (this.2 h9)]
    rfl
   ·rw [decide_eq_false h9, decide_eq_false (fun h => h9 (this.1 h))]
    rfl
  ·have hb : (((recsB (D ++ P)).length : Int) != c) = true := bne_iff_ne.2 hc
   rw [hb, if_pos rfl, decide_eq_false hc]
   simp
 ·rw [if_neg (by omega), decide_eq_false h1, impl_IsValidLog.j0, if_pos rfl]
  simp
end Go.Proofs.YtinbbjfnebhlkaaDoor.P
