/- Records laid one behind the other are read back, each with its place; what is read of a text is such a row of records; a text without a newline has none. Conditions: those of each lemma. -/
import Derived.Test.YtinbbjfnebhlkaaDoorZPx0
import Derived.Test.YtinbbjfnebhlkaaDoorZLBase
import Derived.Test.YtinbbjfnebhlkaaDoorZLCut
import Derived.Test.YtinbbjfnebhlkaaDoorZLLog
import Derived.Test.YtinbbjfnebhlkaaDoorZLNum
import Derived.Test.YtinbbjfnebhlkaaDoorZLRec
import Derived.Test.YtinbbjfnebhlkaaDoorZLSeal
import Derived.Test.YtinbbjfnebhlkaaDoorZLWalk
namespace Go.Proofs.YtinbbjfnebhlkaaDoor.P
open Go.RowKit Go.Proofs.YtinbbjfnebhlkaaDoorW.PrintWords Go.Proofs.YtinbbjfnebhlkaaDoorW.PrintLast Go.Proofs.YtinbbjfnebhlkaaDoorW.PrintMore
set_option linter.unusedVariables false
set_option linter.unusedSimpArgs false
def catL : List S27 → Nat → List UInt8
 | [], _ => []
 | x :: l, n => (recLine (n : Int) x.f0 x.f1).data.toList ++ catL l (n + 1)
def endsL : List S27 → Nat → Nat → List (S27 × Nat)
 | [], _, _ => []
 | x :: l, a, n => (x, a + (recLine (n : Int) x.f0 x.f1).size) :: endsL l (a + (recLine (n : Int) x.f0 x.f1).size) (n + 1)
def goodL (l : List S27) : Prop := ∀ x ∈ l, goodRec x.f0 x.f1 = true
theorem goodL_nil : goodL [] := by
 intro x hx
 cases hx
theorem plain_no10 {s : ByteArray} (h : plain s = true) : s.data.toList.contains 10 = false := by
 unfold plain at h
 rw [List.contains_eq_mem]
 simp only [decide_eq_false_iff_not]
 intro hm
 have := List.all_eq_true.1 h 10 hm
 revert this
 decide
theorem num_no10 (n : Int) (h0 : 0 ≤ n) (h1 : n < 1000000000000000000) : ¬ (10 : UInt8) ∈ (numB n).data.toList := by
 intro hm
 have := numB_no n h0 h1 10 hm
 revert this
 decide
theorem seal_no10 {n : Int} {c r : ByteArray} (h0 : 0 ≤ n) (h1 : n < 1000000000000000000) (h : goodRec c r = true) : (sealB (recText n c r)).data.toList.contains 10 = false := by
 obtain ⟨_, _, _, h4, h5, _⟩ := goodRec_parts h
 have hc := plain_no10 h4
 have hr := plain_no10 h5
 have hk := chk_range (recText n c r)
 have hn := num_no10 n h0 h1
 have hm := num_no10 (chk (recText n c r)) hk.1 (by omega)
 rw [sealB_toL]
 generalize (numB (chk (recText n c r))).data.toList = X at *
 rw [recText_toL]
 simp only [List.contains_eq_mem, decide_eq_false_iff_not] at hc hr ⊢
 simp [hn, hc, hr, hm]
theorem recLine_toL (n : Int) (c r : ByteArray) : (recLine n c r).data.toList = (sealB (recText n c r)).data.toList ++ [10] := by
 unfold recLine
 rw [toL_append]
theorem read_step {t : ByteArray} {n : Int} {c r : ByteArray} {rest : List UInt8} (h0 : 0 ≤ n) (hn : n < 60) (hg : goodRec c r = true) (h : t.data.toList = (recLine n c r).data.toList ++ rest) :
  readB t n = some (c, r) ∧ (cutB t 10).1.size + 1 = (recLine n c r).size := by
 have h1 : n < 1000000000000000000 := by omega
 have hc := cutB_at (s := t) (x := 10) (a := (sealB (recText n c r)).data.toList) (b := rest) (by rw [h, recLine_toL]; simp) (seal_no10 h0 h1 hg)
 rw [ofL_toL] at hc
 have e1 : (⟨#[10]⟩ : ByteArray).size = 1 := rfl
 refine ⟨?_, ?_⟩
 ·unfold readB
  rw [hc, if_pos ⟨rfl, hn⟩]
  exact recQ_of h0 h1 hg rfl
 ·rw [hc]
  unfold recLine
  rw [ByteArray.size_append, e1]
theorem walk_cat : ∀ (l : List S27) (d a n : Nat) (s : ByteArray) (rest : List UInt8), goodL l → l.length ≤ d → n + d ≤ 60 → a ≤ s.size → s.data.toList.drop a = catL l n ++ rest →
  walkB s d a n = endsL l a n ++ walkB s (d - l.length) (a + (catL l n).length) (n + l.length)
 | [], d, a, n, s, rest, _, _, _, _, _ => by simp [endsL, catL]
 | x :: l, 0, a, n, s, rest, _, hd, _, _, _ => by simp at hd
 | x :: l, d + 1, a, n, s, rest, hg, hd, hn, ha, h => by
  have hE : (s.extract a s.size).data.toList = (recLine (n : Int) x.f0 x.f1).data.toList ++ (catL l (n + 1) ++ rest) := by
   rw [extract_end_toL, h, catL, List.append_assoc]
  obtain ⟨r1, r2⟩ := read_step (by omega) (by omega) (hg x List.mem_cons_self) hE
  have hz : s.size - a = (recLine (n : Int) x.f0 x.f1).size + (catL l (n + 1) ++ rest).length := by
   have := congrArg List.length hE
   rw [List.length_append, data_length, data_length, ByteArray.size_extract] at this
   omega
  have hsz := size_data (recLine (n : Int) x.f0 x.f1)
  have hp : a + (cutB (s.extract a s.size) 10).1.size + 1 = a + (recLine (n : Int) x.f0 x.f1).size := by omega
  rw [walkB, r1]
  simp only
  rw [hp, endsL]
  generalize hR : (recLine (n : Int) x.f0 x.f1) = R at *
  have hdrop : s.data.toList.drop (a + R.size) = catL l (n + 1) ++ rest := by
   rw [← List.drop_drop, h, catL, hR, List.append_assoc, hsz]
   exact List.drop_left
  have hi := walk_cat l d (a + R.size) (n + 1) s rest (fun y hy => hg y (List.mem_cons_of_mem _ hy)) (by simp at hd; omega) (by omega) (by omega) hdrop
  rw [hi]
  have e1 : d + 1 - (x :: l).length = d - l.length := by simp
  have e2 : a + (catL (x :: l) n).length = a + R.size + (catL l (n + 1)).length := by rw [catL, hR, List.length_append, ← hsz]; omega
  have e3 : n + (x :: l).length = n + 1 + l.length := by simp; omega
  rw [e1, e2, e3]
  rfl
theorem walk_no (s : ByteArray) : ∀ (d a n : Nat), (s.data.toList.drop a).contains 10 = false → walkB s d a n = []
 | 0, _, _, _ => rfl
 | d + 1, a, n, h => by
  rw [walkB]
  have hno : readB (s.extract a s.size) (n : Int) = none := by
   unfold readB
   rw [if_neg]
   intro hc
   have h2 := (cutB_true hc.1).1
   rw [size_data (s.extract a s.size), posL_lt, extract_end_toL, h] at h2
   cases h2
  rw [hno]
theorem posL_split (l : List UInt8) (x : UInt8) (h : posL l x < l.length) : l = l.take (posL l x) ++ x :: l.drop (posL l x + 1) := by
 induction l with
 | nil => simp at h
 | cons y l ih =>
  rw [posL_cons] at h ⊢
  by_cases e : y = x
  ·subst e
   rw [if_pos rfl]
   simp
  ·rw [if_neg e] at h ⊢
   have := ih (by simp only [List.length_cons] at h; omega)
   simp only [List.take_succ_cons, List.drop_succ_cons, List.cons_append]
   rw [← this]
theorem endsL_fst : ∀ (l : List S27) (a n : Nat), (endsL l a n).map (fun x => x.1) = l
 | [], _, _ => rfl
 | x :: l, a, n => by rw [endsL, List.map_cons, endsL_fst l]
theorem endsL_end : ∀ (l : List S27) (a n : Nat), endB (endsL l a n) a = a + (catL l n).length
 | [], _, _ => rfl
 | x :: l, a, n => by
  rw [endsL, endB, endsL_end l, catL, List.length_append, ← size_data]
  omega
theorem endsL_length : ∀ (l : List S27) (a n : Nat), (endsL l a n).length = l.length
 | [], _, _ => rfl
 | x :: l, a, n => by rw [endsL, List.length_cons, endsL_length l, List.length_cons]
theorem walk_inv : ∀ (d a n : Nat) (s : ByteArray), n + d ≤ 60 → a ≤ s.size →
  ∃ l, goodL l ∧ walkB s d a n = endsL l a n ∧ l.length ≤ d ∧ s.data.toList.drop a = catL l n ++ s.data.toList.drop (a + (catL l n).length)
 | 0, a, n, s, _, _ => ⟨[], goodL_nil, rfl, Nat.le_refl _, by simp [catL]⟩
 | d + 1, a, n, s, hn, ha => by
  rw [walkB]
  cases hq : readB (s.extract a s.size) (n : Int) with
  | none => exact ⟨[], goodL_nil, rfl, Nat.zero_le _, by simp [catL]⟩
  | some cr =>
   obtain ⟨c, r⟩ := cr
   obtain ⟨_, l2⟩ := readB_line hq (by omega)
   obtain ⟨h1, h2, h3⟩ := readB_some hq
   obtain ⟨hg, he⟩ := recQ_some h3
   obtain ⟨c1, c2, c3⟩ := cutB_true h1
   have hts : (s.extract a s.size).size = s.size - a := by rw [ByteArray.size_extract]; omega
   have e1 : (⟨#[10]⟩ : ByteArray).size = 1 := rfl
   have hRz : (recLine (n : Int) c r).size = (cutB (s.extract a s.size) 10).1.size + 1 := by rw [he, ByteArray.size_append, e1]
   have hRl : (s.extract a s.size).data.toList = (recLine (n : Int) c r).data.toList ++ (s.extract a s.size).data.toList.drop (recLine (n : Int) c r).size := by
    rw [hRz, c3, he, c2, toL_append, extract_zero_toL]
    have := posL_split (s.extract a s.size).data.toList 10 (by rw [← size_data]; exact c1)
    rw [List.append_assoc]
    exact this
   obtain ⟨l, g1, g2, g3, g4⟩ := walk_inv d (a + (recLine (n : Int) c r).size) (n + 1) s (by omega) (by rw [hRz]; omega)
   refine ⟨⟨c, r⟩ :: l, ?_, ?_, by simp; omega, ?_⟩
   ·intro x hx
    cases hx with
    | head => exact hg
    | tail _ hx => exact g1 x hx
   ·simp only
    rw [endsL, show a + (cutB (s.extract a s.size) 10).1.size + 1 = a + (recLine (n : Int) c r).size by omega, g2]
   ·rw [extract_end_toL, List.drop_drop] at hRl
    rw [hRl, g4, catL, List.append_assoc, List.length_append, ← size_data]
    have : a + (recLine (n : Int) c r).size + (catL l (n + 1)).length = a + ((recLine (n : Int) c r).size + (catL l (n + 1)).length) := by omega
    rw [this]
theorem recs_of {s : ByteArray} {l : List S27} {rest : List UInt8} (hg : goodL l) (hl : l.length ≤ 60) (hr : rest.contains 10 = false) (h : s.data.toList = catL l 0 ++ rest) : recsB s = endsL l 0 0 := by
 have hw := walk_cat l 60 0 0 s rest hg hl (by omega) (by omega) (by rw [List.drop_zero]; exact h)
 unfold recsB
 rw [hw, walk_no s]
 ·simp
 ·rw [Nat.zero_add, h, List.drop_left]
  exact hr
theorem recs_inv (s : ByteArray) : ∃ l, goodL l ∧ recsB s = endsL l 0 0 ∧ l.length ≤ 60 ∧ s.data.toList = catL l 0 ++ s.data.toList.drop (catL l 0).length := by
 obtain ⟨l, h1, h2, h3, h4⟩ := walk_inv 60 0 0 s (by omega) (by omega)
 rw [List.drop_zero, Nat.zero_add] at h4
 exact ⟨l, h1, h2, h3, h4⟩
theorem catL_append : ∀ (l m : List S27) (n : Nat), catL (l ++ m) n = catL l n ++ catL m (n + l.length)
 | [], m, n => by simp [catL]
 | x :: l, m, n => by
  rw [List.cons_append, catL, catL_append l m, catL, List.append_assoc, List.length_cons]
  have : n + 1 + l.length = n + (l.length + 1) := by omega
  rw [this]
theorem recs_whole {s : ByteArray} (h : endB (recsB s) 0 = s.size) : ∃ l, goodL l ∧ recsB s = endsL l 0 0 ∧ l.length ≤ 60 ∧ s.data.toList = catL l 0 := by
 obtain ⟨l, h1, h2, h3, h4⟩ := recs_inv s
 refine ⟨l, h1, h2, h3, ?_⟩
 rw [h2, endsL_end, Nat.zero_add] at h
 rw [h4]
 rw [h, size_data, List.drop_length, List.append_nil]
theorem recs_cat {s : ByteArray} {l : List S27} (hg : goodL l) (hl : l.length ≤ 60) (h : s.data.toList = catL l 0) : recsB s = endsL l 0 0 ∧ endB (recsB s) 0 = s.size ∧ (recsB s).length = l.length ∧ (recsB s).map (fun x => x.1) = l := by
 have h1 := recs_of (s := s) (rest := []) hg hl rfl (by rw [h, List.append_nil])
 refine ⟨h1, ?_, ?_, ?_⟩
 ·rw [h1, endsL_end, size_data, h, Nat.zero_add]
 ·rw [h1, endsL_length]
 ·rw [h1, endsL_fst]
end Go.Proofs.YtinbbjfnebhlkaaDoor.P
