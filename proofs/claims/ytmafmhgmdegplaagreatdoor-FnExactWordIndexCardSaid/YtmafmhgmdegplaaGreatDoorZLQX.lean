/- WordIndex: the program and the reference tell the same lines. No conditions beyond each lemma's own. -/
import Derived.Test.YtmafmhgmdegplaaGreatDoorZPx0
import Derived.Test.YtmafmhgmdegplaaGreatDoorZPx11
import Derived.Test.YtmafmhgmdegplaaGreatDoorZPx14
import Derived.Test.YtmafmhgmdegplaaGreatDoorZPx15
import Derived.Test.YtmafmhgmdegplaaGreatDoorZPx16
import Derived.Test.YtmafmhgmdegplaaGreatDoorZPx20
import Derived.Test.YtmafmhgmdegplaaGreatDoorZPx24
import Derived.Test.YtmafmhgmdegplaaGreatDoorZPx26
import Derived.Test.YtmafmhgmdegplaaGreatDoorZLEv
import Derived.Test.YtmafmhgmdegplaaGreatDoorZLPut
import Derived.Test.YtmafmhgmdegplaaGreatDoorZLQB
import Derived.Test.YtmafmhgmdegplaaGreatDoorZLQD
namespace Go.Proofs.YtmafmhgmdegplaaGreatDoor.P
open Go.RowKit Go.Proofs.YtmafmhgmdegplaaGreatDoorW.PrintWords Go.Proofs.YtmafmhgmdegplaaGreatDoorW.PrintLast Go.Proofs.YtmafmhgmdegplaaGreatDoorW.PrintMore
set_option linter.unusedVariables false
set_option linter.unusedSimpArgs false
theorem lib_ok8 (l : List S41) (h : GL l) : ∃ b : Bool, Ev (fun k => Faf.f k l) b ∧ Ev (fun k => FaA.f k l) b ∧ (b = true → l.length ≤ 8 ∧ ∀ y ∈ l, enX y = true) := by
 obtain ⟨c, c1, c2, c3⟩ := lib_l0 l h l.length 0 (by omega)
 refine ⟨c && decide ((l.length : Int) ≤ 8), c1, ?_, fun hb => ?_⟩
 ·unfold FaA.f
  by_cases h8 : (l.length : Int) > 8
  ·refine Ev.pos h8 ?_
   rw [decide_eq_false (by omega), Bool.and_false]
   exact Ev.now _
  ·refine Ev.neg h8 ?_
   rw [decide_eq_true (by omega), Bool.and_true]
   exact c2
 ·obtain ⟨h1, h2⟩ := Bool.and_eq_true_iff.1 hb
  have := c3 h1
  rw [List.drop_zero] at this
  exact ⟨by have := of_decide_eq_true h2; omega, this⟩
def ewX (y : S41) : List ByteArray := ewL (fdB y.f2 y.f3 y.f4 y.f5 y.f6 y.f7.f0 y.f7.f1 y.f7.f2 y.f7.f3 y.f8 y.f9) (⟨#[]⟩ : ByteArray) fieldL
theorem ewX_i (y : S41) (g : GE y) (h : enX y = true) : Ev (fun k => Fak.f k y.f0 y.f1 y.f2 y.f3 y.f4 y.f5 y.f6 y.f7.f0 y.f7.f1 y.f7.f2 y.f7.f3 y.f8 y.f9 y.f10 (⟨#[]⟩ : ByteArray)) (ewX y) := i_ewords _ _ _ _ _ _ _ _ _ _ _ _ _ _ g.2.1 g.2.2.1 (en_ok h) _
theorem ewX_s (y : S41) (g : GE y) (h : enX y = true) : Ev (fun k => Fau.f k y.f0 y.f1 y.f2 y.f3 y.f4 y.f5 y.f6 y.f7.f0 y.f7.f1 y.f7.f2 y.f7.f3 y.f8 y.f9 y.f10 (⟨#[]⟩ : ByteArray)) (ewX y) := s_words _ _ _ _ _ _ _ _ _ _ _ _ _ _ g.2.1 g.2.2.1 (en_ok h) _ (by
 unfold fqB
 rw [show (⟨#[]⟩ : ByteArray).toList = [] from (Go.ByteArray.toList_eq _).trans rfl, beq_self_eq_true, Bool.or_true])
theorem ewX_len (y : S41) (g : GE y) (h : enX y = true) : (ewX y).length ≤ 268480008 := by
 have := ewL_len (fdB y.f2 y.f3 y.f4 y.f5 y.f6 y.f7.f0 y.f7.f1 y.f7.f2 y.f7.f3 y.f8 y.f9) (fun x => fd_size g.2.1 g.2.2.1 (en_ok h) x) (⟨#[]⟩ : ByteArray) fieldL
 have h8 : fieldL.length = 8 := rfl
 rw [h8] at this
 exact this
def VL (l : List S41) : Prop := GL l ∧ l.length ≤ 8 ∧ ∀ y ∈ l, enX y = true
theorem allw_len (l : List S41) (h : ∀ y ∈ l, GE y ∧ enX y = true) : (l.flatMap ewX).length ≤ l.length * 268480008 := by
 induction l with
 | nil => exact Nat.zero_le _
 | cons y r ih =>
  have h1 := ewX_len y (h y List.mem_cons_self).1 (h y List.mem_cons_self).2
  have h2 := ih (fun z hz => h z (List.mem_cons_of_mem _ hz))
  rw [List.flatMap_cons, List.length_append, List.length_cons, Nat.succ_mul]
  omega
theorem takew (l : List S41) (i : Nat) (h : i < l.length) : (l.take (i + 1)).flatMap ewX = (l.take i).flatMap ewX ++ ewX (Faa l i) := by
 have e : l.take (i + 1) = l.take i ++ [Faa l i] := by
  rw [List.take_add_one, List.getElem?_eq_getElem h]
  congr 1
  simp [Faa, List.getD_eq_getElem?_getD, List.getElem?_eq_getElem h]
 rw [e, List.flatMap_append, List.flatMap_cons, List.flatMap_nil, List.append_nil]
theorem takew_len (l : List S41) (h : VL l) (i : Nat) (hi : i ≤ l.length) : ((l.take i).flatMap ewX).length ≤ 2147840064 := by
 have h1 := allw_len (l.take i) (fun y hy => ⟨h.1.2 y (List.mem_of_mem_take hy), h.2.2 y (List.mem_of_mem_take hy)⟩)
 rw [List.length_take, Nat.min_eq_left hi] at h1
 have h2 := h.2.1
 have h3 : i * 268480008 ≤ 8 * 268480008 := Nat.mul_le_mul_right _ (by omega)
 omega
theorem ix_l0 (l : List S41) (h : VL l) (R : List S90 × Bool) (hR : Ev (fun k => Fam.l1 k [] (cmpS (srtS (l.flatMap ewX))) ((cmpS (srtS (l.flatMap ewX))).length : Int) 0 l) R) (d : Nat) : ∀ i : Nat, i + d = l.length → Ev (fun k => Fam.l0 k ((l.take i).flatMap ewX) [] l (l.length : Int) (i : Int) l) R := by
 have hl := h.1.1
 induction d with
 | zero =>
  intro i hi
  obtain rfl : i = l.length := by omega
  have hn := takew_len l h l.length (Nat.le_refl _)
  rw [List.take_of_length_le (Nat.le_refl _)] at hn ⊢
  refine Ev.st (fun k => by rw [Fam.l0]) ?_
  refine vN ?_
  refine Ev.b0 (a := srtS (l.flatMap ewX)) (by unfold Fby.f; exact if_pos (by omega)) ?_
  have hs : (srtS (l.flatMap ewX)).length = (l.flatMap ewX).length := by unfold srtS; rw [List.length_map, List.length_mergeSort, List.length_map]
  refine Ev.b0 (a := cmpS (srtS (l.flatMap ewX))) (by unfold Fbp.f; exact if_pos (by omega)) ?_
  exact hR
 | succ d ih =>
  intro i hi
  have g := h.1.2 _ (rdE_mem l i (by omega))
  have hx := h.2.2 _ (rdE_mem l i (by omega))
  have h1 := takew_len l h i (by omega)
  have h2 := ewX_len _ g hx
  refine Ev.st (fun k => by rw [Fam.l0]) ?_
  refine vP ?_
  refine vP ?_
  refine vP ?_
  refine Ev.b1 (ewX_i _ g hx) ?_
  refine vP ?_
  rw [nsucc (n := l.length) (by omega) (by omega), ← takew l i (by omega)]
  exact ih (i + 1) (by omega)
def keyL (l : List S41) (w : ByteArray) : List ByteArray := (l.filter (fun y => hasB (ewX y) w)).map (fun y => y.f0)
theorem keyL_take (l : List S41) (w : ByteArray) (i : Nat) (h : i < l.length) : keyL (l.take (i + 1)) w = keyL (l.take i) w ++ (if hasB (ewX (Faa l i)) w = true then [(Faa l i).f0] else []) := by
 have e : l.take (i + 1) = l.take i ++ [Faa l i] := by
  rw [List.take_add_one, List.getElem?_eq_getElem h]
  congr 1
  simp [Faa, List.getD_eq_getElem?_getD, List.getElem?_eq_getElem h]
 unfold keyL
 rw [e, List.filter_append, List.map_append]
 by_cases hb : hasB (ewX (Faa l i)) w = true
 ·rw [if_pos hb, List.filter_cons_of_pos (p := fun y => hasB (ewX y) w) hb, List.filter_nil, List.map_cons, List.map_nil]
 ·rw [if_neg hb, List.filter_cons_of_neg (p := fun y => hasB (ewX y) w) hb, List.filter_nil, List.map_nil]
theorem keyL_len (l : List S41) (w : ByteArray) (i : Nat) : (keyL (l.take i) w).length ≤ l.length := by
 unfold keyL
 rw [List.length_map]
 exact Nat.le_trans (List.length_filter_le _ _) (by rw [List.length_take]; omega)
theorem kw_l0 (l : List S41) (h : VL l) (w : ByteArray) (d : Nat) : ∀ i : Nat, i + d = l.length → Ev (fun k => Fay.l0 k w (keyL (l.take i) w) l (l.length : Int) (i : Int)) (keyL l w) := by
 have hl := h.1.1
 induction d with
 | zero =>
  intro i hi
  obtain rfl : i = l.length := by omega
  rw [List.take_of_length_le (Nat.le_refl _)]
  refine Ev.st (fun k => by rw [Fay.l0]) ?_
  exact vN (Ev.now _)
 | succ d ih =>
  intro i hi
  have g := h.1.2 _ (rdE_mem l i (by omega))
  have hx := h.2.2 _ (rdE_mem l i (by omega))
  have h2 := ewX_len _ g hx
  have h3 := keyL_len l w i
  have e := ih (i + 1) (by omega)
  rw [keyL_take l w i (by omega), ← nsucc (n := l.length) (by omega) (by omega)] at e
  refine Ev.st (fun k => by rw [Fay.l0]) ?_
  refine vP ?_
  refine vP ?_
  refine vP ?_
  refine Ev.b1 (ewX_i _ g hx) ?_
  refine Ev.b1 (i_has (ewX (Faa l i)) w (by omega)) ?_
  cases hb : hasB (ewX (Faa l i)) w with
  | true =>
   rw [hb, if_pos rfl] at e
   refine Ev.tt rfl ?_
   refine vP ?_
   exact e
  | false =>
   rw [hb, if_neg Bool.false_ne_true, List.append_nil] at e
   refine Ev.ff rfl ?_
   exact e
theorem kw_ok (l : List S41) (h : VL l) (w : ByteArray) : Ev (fun k => Fay.f k l w) (keyL l w) := by
 unfold Fay.f
 exact kw_l0 l h w l.length 0 (by omega)
def lineL (l : List S41) (W : List ByteArray) : List S90 := W.map (fun w => (⟨w, keyL l w⟩ : S90))
theorem lineL_take (l : List S41) (W : List ByteArray) (i : Nat) (h : i < W.length) : lineL l (W.take (i + 1)) = lineL l (W.take i) ++ [(⟨rdOf ByteArray.empty W (i : Int), keyL l (rdOf ByteArray.empty W (i : Int))⟩ : S90)] := by
 have e : W.take (i + 1) = W.take i ++ [rdOf ByteArray.empty W (i : Int)] := by
  rw [List.take_add_one, List.getElem?_eq_getElem h]
  congr 1
  simp [rdOf, List.getD_eq_getElem?_getD, List.getElem?_eq_getElem h]
 unfold lineL
 rw [e, List.map_append, List.map_cons, List.map_nil]
theorem ix_l1 (l : List S41) (h : VL l) (W : List ByteArray) (hW : W.length ≤ 2147840064) (d : Nat) : ∀ i : Nat, i + d = W.length → Ev (fun k => Fam.l1 k (lineL l (W.take i)) W (W.length : Int) (i : Int) l) (lineL l W, true) := by
 induction d with
 | zero =>
  intro i hi
  obtain rfl : i = W.length := by omega
  rw [List.take_of_length_le (Nat.le_refl _)]
  refine Ev.st (fun k => by rw [Fam.l1]) ?_
  exact vN (Ev.now _)
 | succ d ih =>
  intro i hi
  have hn : (lineL l (W.take i)).length ≤ W.length := by unfold lineL; rw [List.length_map, List.length_take]; omega
  refine Ev.st (fun k => by rw [Fam.l1]) ?_
  refine vP ?_
  refine vP ?_
  refine vP ?_
  refine Ev.b1 (kw_ok l h _) ?_
  refine vP ?_
  rw [nsucc (n := W.length) (by omega) (by omega), ← lineL_take l W i (by omega)]
  exact ih (i + 1) (by omega)
theorem toL_data (b : ByteArray) : b.toList = b.data.toList := Go.ByteArray.toList_eq b
theorem s_put_l0 (l : List ByteArray) (hl : l.length ≤ 2147840064) (s : ByteArray) (d : Nat) : ∀ i : Nat, i + d = l.length → Ev (fun k => FaT.l0 k l s (i : Int)) (l.take i ++ putB s (l.drop i)) := by
 induction d with
 | zero =>
  intro i hi
  obtain rfl : i = l.length := by omega
  rw [List.take_of_length_le (Nat.le_refl _), List.drop_of_length_le (Nat.le_refl _), putB_nil]
  refine Ev.st (fun k => by rw [FaT.l0]) ?_
  refine vN ?_
  refine Ev.b0 rfl ?_
  refine vP ?_
  refine vP ?_
  refine Ev.b0 rfl ?_
  rw [Int.toNat_natCast, List.take_of_length_le (Nat.le_refl _), List.drop_of_length_le (Nat.le_refl _)]
  refine Ev.pos (by simp only [List.length_nil]; omega) ?_
  refine Ev.b0 rfl ?_
  refine Ev.b0 rfl ?_
  refine Ev.pos (by simp only [List.length_append, List.length_nil, List.length_singleton]; omega) ?_
  refine Ev.b0 rfl ?_
  refine Ev.b0 rfl ?_
  refine Ev.pos (by simp only [List.length_append, List.length_nil, List.length_singleton]; omega) ?_
  exact Ev.val (by rw [List.nil_append, List.append_nil])
 | succ d ih =>
  intro i hi
  have hd := rdOf_drop l i (by omega)
  have hb : ∀ b : ByteArray, Op.bytesLess b.toList s.toList = decide (b.data.toList < s.data.toList) := fun b => by rw [bL_eq, toL_data, toL_data]
  refine Ev.st (fun k => by rw [FaT.l0]) ?_
  refine vP ?_
  refine vP ?_
  rw [hb, hd]
  by_cases c : (rdOf ByteArray.empty l (i : Int)).data.toList < s.data.toList
  ·refine Ev.pos (decide_eq_true c) ?_
   rw [nsucc (n := l.length) (by omega) (by omega), putB_lt _ _ _ c]
   have e := ih (i + 1) (by omega)
   have ht : l.take (i + 1) = l.take i ++ [rdOf ByteArray.empty l (i : Int)] := by
    rw [List.take_add_one, List.getElem?_eq_getElem (by omega : i < l.length)]
    congr 1
    simp [rdOf, List.getD_eq_getElem?_getD, List.getElem?_eq_getElem (by omega : i < l.length)]
   rw [ht, List.append_assoc] at e
   exact e
  ·refine Ev.neg (by rw [decide_eq_false c]; exact Bool.false_ne_true) ?_
   by_cases c2 : (rdOf ByteArray.empty l (i : Int)).data.toList = s.data.toList
   ·refine Ev.pos (by rw [toL_data, toL_data]; exact c2) ?_
    rw [putB_eq _ _ _ c c2, ← hd, List.take_append_drop]
    exact Ev.now _
   ·refine Ev.neg (by rw [toL_data, toL_data]; exact c2) ?_
    rw [putB_gt _ _ _ c c2, ← hd]
    refine Ev.b0 rfl ?_
    refine vP ?_
    refine Ev.b0 rfl ?_
    rw [Int.toNat_natCast]
    refine Ev.pos (by simp only [List.length_nil, List.length_take]; omega) ?_
    refine Ev.b0 rfl ?_
    refine Ev.b0 rfl ?_
    refine Ev.pos (by simp only [List.length_append, List.length_nil, List.length_singleton, List.length_take]; omega) ?_
    refine Ev.b0 rfl ?_
    refine Ev.b0 rfl ?_
    refine Ev.pos (by simp only [List.length_append, List.length_nil, List.length_singleton, List.length_take, List.length_drop]; omega) ?_
    exact Ev.val (by rw [List.nil_append, List.append_assoc]; rfl)
theorem s_put (l : List ByteArray) (hl : l.length ≤ 2147840064) (s : ByteArray) : Ev (fun k => FaT.f k l s) (putB s l) := by
 have e := s_put_l0 l hl s l.length 0 (by omega)
 rw [List.take_zero, List.drop_zero, List.nil_append] at e
 exact e
theorem putB_len (s : ByteArray) (l : List ByteArray) : (putB s l).length ≤ l.length + 1 := by
 unfold putB
 rw [List.length_map]
 have : ∀ m : List (List UInt8), (putL s.data.toList m).length ≤ m.length + 1 := fun m => by
  induction m with
  | nil => exact Nat.le_refl _
  | cons x r ih =>
   unfold putL
   by_cases c : x < s.data.toList
   ·rw [if_pos c, List.length_cons, List.length_cons]; omega
   ·rw [if_neg c]
    by_cases c2 : x = s.data.toList
    ·rw [if_pos c2]; omega
    ·rw [if_neg c2, List.length_cons]; omega
 have h := this (l.map (fun b => b.data.toList))
 rw [List.length_map] at h
 exact h
def putW (ws acc : List ByteArray) : List ByteArray := ws.foldl (fun a s => putB s a) acc
theorem putW_len : ∀ (ws acc : List ByteArray), (putW ws acc).length ≤ acc.length + ws.length
 | [], acc => Nat.le_refl _
 | s :: r, acc => by
  have h1 := putW_len r (putB s acc)
  have h2 := putB_len s acc
  show (putW r (putB s acc)).length ≤ acc.length + (r.length + 1)
  omega
theorem putW_app (a b acc : List ByteArray) : putW (a ++ b) acc = putW b (putW a acc) := List.foldl_append
theorem putW_step (W : List ByteArray) (i : Nat) (h : i < W.length) (acc : List ByteArray) : putW (W.drop i) acc = putW (W.drop (i + 1)) (putB (rdOf ByteArray.empty W (i : Int)) acc) := by
 rw [rdOf_drop W i h]
 rfl
theorem sx_l1 (l : List S41) (ws : List ByteArray) (hw : ws.length ≤ 268480008) (R : List S90 × Bool) (e : Nat) (d : Nat) : ∀ (j : Nat) (acc : List ByteArray), j + d = ws.length → acc.length + d ≤ 2147840064 → Ev (fun k => Fab.l0 k [] (putW (ws.drop j) acc) (wrap64 ((e : Int) + 1)) l) R → Ev (fun k => Fab.l1 k [] acc (e : Int) ws (j : Int) l) R := by
 induction d with
 | zero =>
  intro j acc hj ha hR
  obtain rfl : j = ws.length := by omega
  rw [List.drop_of_length_le (Nat.le_refl _)] at hR
  refine Ev.st (fun k => by rw [Fab.l1]) ?_
  exact vN hR
 | succ d ih =>
  intro j acc hj ha hR
  have hl := putB_len (rdOf ByteArray.empty ws (j : Int)) acc
  refine Ev.st (fun k => by rw [Fab.l1]) ?_
  refine vP ?_
  refine vP ?_
  refine Ev.b1 (s_put acc (by omega) _) ?_
  rw [nsucc (n := ws.length) (by omega) (by omega)]
  refine ih (j + 1) _ (by omega) (by omega) ?_
  rw [← putW_step ws j (by omega) acc]
  exact hR
theorem sx_l0 (l : List S41) (h : VL l) (R : List S90 × Bool) (hR : Ev (fun k => Fab.l2 k [] (putW (l.flatMap ewX) []) 0 l) R) (d : Nat) : ∀ i : Nat, i + d = l.length → Ev (fun k => Fab.l0 k [] (putW ((l.take i).flatMap ewX) []) (i : Int) l) R := by
 have hl := h.1.1
 induction d with
 | zero =>
  intro i hi
  obtain rfl : i = l.length := by omega
  rw [List.take_of_length_le (Nat.le_refl _)]
  refine Ev.st (fun k => by rw [Fab.l0]) ?_
  exact vN hR
 | succ d ih =>
  intro i hi
  have g := h.1.2 _ (rdE_mem l i (by omega))
  have hx := h.2.2 _ (rdE_mem l i (by omega))
  have h1 := takew_len l h (i + 1) (by omega)
  rw [takew l i (by omega), List.length_append] at h1
  have h2 := ewX_len _ g hx
  have h3 := putW_len ((l.take i).flatMap ewX) []
  rw [List.length_nil] at h3
  refine Ev.st (fun k => by rw [Fab.l0]) ?_
  refine vP ?_
  refine vP ?_
  refine Ev.b1 (ewX_s _ g hx) ?_
  refine sx_l1 l (ewX (Faa l i)) h2 R i (ewX (Faa l i)).length 0 _ (by omega) (by omega) ?_
  rw [List.drop_zero, ← putW_app, ← takew l i (by omega), nsucc (n := l.length) (by omega) (by omega)]
  exact ih (i + 1) (by omega)
theorem sx_l3 (l : List S41) (h : VL l) (W : List ByteArray) (hW : W.length ≤ 2147840064) (x : Nat) (hx : x < W.length) (acc : List S90) (ha : acc.length ≤ 2147840064) (R : List S90 × Bool)
  (hR : Ev (fun k => Fab.l2 k (acc ++ [(⟨rdOf ByteArray.empty W (x : Int), keyL l (rdOf ByteArray.empty W (x : Int))⟩ : S90)]) W (wrap64 ((x : Int) + 1)) l) R) (d : Nat) :
  ∀ i : Nat, i + d = l.length → Ev (fun k => Fab.l3 k acc W (x : Int) (i : Int) l (rdOf ByteArray.empty W (x : Int)) (keyL (l.take i) (rdOf ByteArray.empty W (x : Int)))) R := by
 have hl := h.1.1
 induction d with
 | zero =>
  intro i hi
  obtain rfl : i = l.length := by omega
  rw [List.take_of_length_le (Nat.le_refl _)]
  refine Ev.st (fun k => by rw [Fab.l3]) ?_
  refine vN ?_
  exact vP hR
 | succ d ih =>
  intro i hi
  have g := h.1.2 _ (rdE_mem l i (by omega))
  have hx2 := h.2.2 _ (rdE_mem l i (by omega))
  have h2 := ewX_len _ g hx2
  have h3 := keyL_len l (rdOf ByteArray.empty W (x : Int)) i
  have e := ih (i + 1) (by omega)
  rw [keyL_take l _ i (by omega), ← nsucc (n := l.length) (by omega) (by omega)] at e
  refine Ev.st (fun k => by rw [Fab.l3]) ?_
  refine vP ?_
  refine vP ?_
  refine Ev.b1 (ewX_s _ g hx2) ?_
  refine vP ?_
  refine vP ?_
  refine Ev.b1 (s_has (ewX (Faa l i)) (rdOf ByteArray.empty W (x : Int)) (by omega)) ?_
  cases hb : hasB (ewX (Faa l i)) (rdOf ByteArray.empty W (x : Int)) with
  | true =>
   rw [hb, if_pos rfl] at e
   refine Ev.tt rfl ?_
   refine vP ?_
   exact e
  | false =>
   rw [hb, if_neg Bool.false_ne_true, List.append_nil] at e
   refine Ev.ff rfl ?_
   exact e
theorem sx_l2 (l : List S41) (h : VL l) (W : List ByteArray) (hW : W.length ≤ 2147840064) (d : Nat) : ∀ i : Nat, i + d = W.length → Ev (fun k => Fab.l2 k (lineL l (W.take i)) W (i : Int) l) (lineL l W, true) := by
 induction d with
 | zero =>
  intro i hi
  obtain rfl : i = W.length := by omega
  rw [List.take_of_length_le (Nat.le_refl _)]
  refine Ev.st (fun k => by rw [Fab.l2]) ?_
  exact vN (Ev.now _)
 | succ d ih =>
  intro i hi
  have hn : (lineL l (W.take i)).length ≤ W.length := by unfold lineL; rw [List.length_map, List.length_take]; omega
  refine Ev.st (fun k => by rw [Fab.l2]) ?_
  refine vP ?_
  refine vP ?_
  refine sx_l3 l h W hW i (by omega) (lineL l (W.take i)) (by omega) _ ?_ l.length 0 (by omega)
  rw [nsucc (n := W.length) (by omega) (by omega), ← lineL_take l W i (by omega)]
  exact ih (i + 1) (by omega)
theorem q_index (l : List S41) (h : GL l) : ∃ r : List S90 × Bool, Ev (fun k => Fam.f k l) r ∧ Ev (fun k => Fab.f k l) r ∧ r.1.length ≤ 2147840064 ∧ (∀ x ∈ r.1, x.f1.length ≤ 8) := by
 obtain ⟨b, b1, b2, b3⟩ := lib_ok8 l h
 unfold Fam.f Fab.f
 cases b with
 | false => exact ⟨([], false), Ev.b1 b1 (Ev.ff rfl (Ev.now _)), Ev.b0 rfl (Ev.b1 b2 (Ev.ff rfl (Ev.now _))), Nat.zero_le _, fun x hx => absurd hx List.not_mem_nil⟩
 | true =>
  obtain ⟨h8, hx⟩ := b3 rfl
  have v : VL l := ⟨h, h8, hx⟩
  have hn := takew_len l v l.length (Nat.le_refl _)
  rw [List.take_of_length_le (Nat.le_refl _)] at hn
  obtain ⟨W, hW⟩ : ∃ W, W = putW (l.flatMap ewX) [] := ⟨_, rfl⟩
  have hc : cmpS (srtS (l.flatMap ewX)) = W := by rw [hW, srt_put]; rfl
  have hl : W.length ≤ 2147840064 := by
   have := putW_len (l.flatMap ewX) []
   rw [List.length_nil] at this
   rw [hW]
   omega
  refine ⟨(lineL l W, true), Ev.b1 b1 (Ev.tt rfl ?_), Ev.b0 rfl (Ev.b1 b2 (Ev.tt rfl ?_)), ?_, fun x hx => ?_⟩
  ·refine ix_l0 l v _ ?_ l.length 0 (by omega)
   rw [hc]
   exact ix_l1 l v W hl W.length 0 (by omega)
  ·refine sx_l0 l v _ ?_ l.length 0 (by omega)
   rw [← hW]
   exact sx_l2 l v W hl W.length 0 (by omega)
  ·show (lineL l W).length ≤ _
   unfold lineL
   rw [List.length_map]
   exact hl
  ·obtain ⟨w, _, rfl⟩ := List.mem_map.1 hx
   have := keyL_len l w l.length
   rw [List.take_of_length_le (Nat.le_refl _)] at this
   exact Nat.le_trans this h8
end Go.Proofs.YtmafmhgmdegplaaGreatDoor.P
