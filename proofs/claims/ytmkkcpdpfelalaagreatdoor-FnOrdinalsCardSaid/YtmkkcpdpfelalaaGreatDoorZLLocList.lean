/- The text of a list: the program's and the reference's answers are one plain function, for texts of at most 1048576 bytes each. -/
import Derived.Lib.Join
import Derived.Test.YtmkkcpdpfelalaaGreatDoorZPx0
import Derived.Test.YtmkkcpdpfelalaaGreatDoorZPx13
import Derived.Test.YtmkkcpdpfelalaaGreatDoorZPx14
import Derived.Test.YtmkkcpdpfelalaaGreatDoorZPx15
import Derived.Test.YtmkkcpdpfelalaaGreatDoorZLBase
import Derived.Test.YtmkkcpdpfelalaaGreatDoorZLBytesU
import Derived.Test.YtmkkcpdpfelalaaGreatDoorZLLocBytes
import Derived.Test.YtmkkcpdpfelalaaGreatDoorZLLocGood
namespace Go.Proofs.YtmkkcpdpfelalaaGreatDoor.P
open Go.RowKit Go.Proofs.YtmkkcpdpfelalaaGreatDoorW.PrintWords Go.Proofs.YtmkkcpdpfelalaaGreatDoorW.PrintLast Go.Proofs.YtmkkcpdpfelalaaGreatDoorW.PrintMore
set_option linter.unusedVariables false
set_option linter.unusedSimpArgs false
def okI (s : ByteArray) : Bool := bytesOk s 0 20 32
def glue (n : Nat) (la tw : ByteArray) (i : Nat) : ByteArray := if i = 0 then (⟨#[]⟩ : ByteArray) else if n = 2 then tw else if i + 1 = n then la else (⟨#[44, 32]⟩ : ByteArray)
def listFold (n : Nat) (la tw : ByteArray) : List ByteArray → Nat → ByteArray → ByteArray × Bool
 | [], _, acc => (acc, true)
 | x :: r, i, acc => if okI x = true then listFold n la tw r (i + 1) ((acc ++ glue n la tw i) ++ x) else ((⟨#[]⟩ : ByteArray), false)
def catL (n : Nat) (la tw : ByteArray) : List ByteArray → Nat → List UInt8
 | [], _ => []
 | x :: r, i => (glue n la tw i).data.toList ++ (x.data.toList ++ catL n la tw r (i + 1))
theorem listFold_ok (n : Nat) (la tw : ByteArray) : ∀ (r : List ByteArray) (i : Nat) (acc : ByteArray), r.any (fun x => !okI x) = false → (listFold n la tw r i acc).2 = true ∧ (listFold n la tw r i acc).1.data.toList = acc.data.toList ++ catL n la tw r i
 | [], i, acc, _ => ⟨rfl, by rw [listFold, catL, List.append_nil]⟩
 | x :: r, i, acc, h => by
  rw [List.any_cons, Bool.or_eq_false_iff] at h
  have hx : okI x = true := by simpa using h.1
  obtain ⟨h1, h2⟩ := listFold_ok n la tw r (i + 1) ((acc ++ glue n la tw i) ++ x) h.2
  rw [listFold, if_pos hx, catL]
  refine ⟨h1, ?_⟩
  rw [h2, toL_cat, toL_cat, List.append_assoc, List.append_assoc]
theorem listFold_bad (n : Nat) (la tw : ByteArray) : ∀ (r : List ByteArray) (i : Nat) (acc : ByteArray), r.any (fun x => !okI x) = true → listFold n la tw r i acc = ((⟨#[]⟩ : ByteArray), false)
 | [], i, acc, h => by cases h
 | x :: r, i, acc, h => by
  rw [List.any_cons] at h
  rw [listFold]
  cases hx : okI x with
  | false => rw [if_neg Bool.false_ne_true]
  | true =>
   rw [hx] at h
   rw [if_pos rfl]
   exact listFold_bad n la tw r (i + 1) _ (by simpa using h)
theorem rdS_drop {L : List ByteArray} {i : Nat} {x : ByteArray} {r : List ByteArray} (h : L.drop i = x :: r) : rdOf ByteArray.empty L (i : Int) = x ∧ i < L.length ∧ L.drop (i + 1) = r := by
 have hi : i < L.length := by
  have := congrArg List.length h
  rw [List.length_drop, List.length_cons] at this
  omega
 rw [List.drop_eq_getElem_cons hi] at h
 injection h with h1 h2
 refine ⟨?_, hi, h2⟩
 unfold rdOf
 rw [Int.toNat_natCast, List.getD_eq_getElem?_getD, List.getElem?_eq_getElem hi, Option.getD_some, h1]
theorem app_empty (a : ByteArray) : a ++ (⟨#[]⟩ : ByteArray) = a := by
 apply toL_same
 rw [toL_cat]
 exact List.append_nil _
theorem specList_l0 (L : List ByteArray) (nm : ByteArray) (ts : List S65) (rs : List S67) (la tw : ByteArray) (hL : L.length ≤ 10) (hla : la.size ≤ 1048576) (htw : tw.size ≤ 1048576) (hx : ∀ x ∈ L, x.size ≤ 1048576) : ∀ (r : List ByteArray) (k i : Nat) (acc : ByteArray), L.drop i = r → acc.size ≤ i * 3000000 → i ≤ L.length → r.length + 1048600 < k →
  spec_ListText.l0 k L acc (i : Int) nm ts rs la tw = some (listFold L.length la tw r i acc)
 | [], k, i, acc, hr, ha, hi, hk => by
  obtain ⟨k, rfl⟩ := succ_of hk
  have : ¬ i < L.length := by
   have := congrArg List.length hr
   rw [List.length_drop] at this
   have e : ([] : List ByteArray).length = 0 := rfl
   omega
  rw [spec_ListText.l0, if_neg (by omega), listFold]
 | x :: r, k, i, acc, hr, ha, hi, hk => by
  rw [List.length_cons] at hk
  obtain ⟨k, rfl⟩ := succ_of (show 0 < k by omega)
  obtain ⟨h1, h2, h3⟩ := rdS_drop hr
  have hxs : x.size ≤ 1048576 := hx x (by rw [← List.take_append_drop i L, hr]; exact List.mem_append_right _ (List.mem_cons_self ..))
  have ih := fun acc' ha' => specList_l0 L nm ts rs la tw hL hla htw hx r k (i + 1) acc' h3 ha' (by omega) (by omega)
  have c2 : (⟨#[44, 32]⟩ : ByteArray).size = 2 := rfl
  rw [spec_ListText.l0, if_pos (by omega), if_pos (by omega), h1, specBytes x (by omega) _ _ _ k (by omega), Option.bind_some, w64_succ h2 (by omega), w64 (x := (L.length : Int) - 1) (by omega) (by omega), listFold]
  show (if okI x = true then _ else _) = _
  cases okI x with
  | false => rw [if_neg Bool.false_ne_true, if_neg Bool.false_ne_true]
  | true =>
   rw [if_pos rfl, if_pos rfl, glue]
   by_cases g0 : i = 0
   ·rw [if_pos (by omega), if_pos g0, app_empty, if_pos (by omega)]
    exact ih _ (by rw [ByteArray.size_append]; omega)
   ·rw [if_neg (by omega), if_neg g0]
    by_cases g2 : L.length = 2
    ·rw [if_pos (by omega), if_pos g2, if_pos (by omega), if_pos (by rw [ByteArray.size_append]; omega)]
     exact ih _ (by rw [ByteArray.size_append, ByteArray.size_append]; omega)
    ·rw [if_neg (by omega), if_neg g2]
     by_cases g3 : i + 1 = L.length
     ·rw [if_pos (by omega), if_pos g3, if_pos (by omega), if_pos (by rw [ByteArray.size_append]; omega)]
      exact ih _ (by rw [ByteArray.size_append, ByteArray.size_append]; omega)
     ·rw [if_neg (by omega), if_neg g3, if_pos (by omega), if_pos (by rw [ByteArray.size_append]; omega)]
      exact ih _ (by rw [ByteArray.size_append, ByteArray.size_append]; omega)
theorem closeList (s : ByteArray) (hs : s.size ≤ 2097152) (k : Nat) (hk : s.size < k) : impl_ListText_1.f k s = some (!okI s) := by
 unfold impl_ListText_1.f okI bytesOk
 by_cases h : (s.size : Int) > 20
 ·have : inB (s.size : Int) 0 20 = false := by
   unfold inB
   rw [decide_eq_false (show ¬ (s.size : Int) ≤ 20 by omega), Bool.and_false]
  rw [if_pos h, this, Bool.and_false]
  rfl
 ·have : inB (s.size : Int) 0 20 = true := by
   unfold inB
   rw [decide_eq_true (show (0 : Int) ≤ s.size by omega), decide_eq_true (show (s.size : Int) ≤ 20 by omega)]
   rfl
  rw [if_neg h, this, Bool.and_true, implPrint s hs k hk, Option.bind_some]
theorem implBad_l0 (L : List ByteArray) (hL : L.length ≤ 10) (hx : ∀ x ∈ L, x.size ≤ 1048576) : ∀ (r : List ByteArray) (k i : Nat), L.drop i = r → i ≤ L.length → r.length + 1048600 < k →
  ∃ t, slices_IndexFunc_string_string.l0 k L (L.length : Int) (i : Int) = some t ∧ decide (t ≥ 0) = r.any (fun x => !okI x)
 | [], k, i, hr, hi, hk => by
  obtain ⟨k, rfl⟩ := succ_of hk
  have : ¬ i < L.length := by
   have := congrArg List.length hr
   rw [List.length_drop] at this
   have e : ([] : List ByteArray).length = 0 := rfl
   omega
  rw [slices_IndexFunc_string_string.l0, if_neg (by omega)]
  exact ⟨_, rfl, rfl⟩
 | x :: r, k, i, hr, hi, hk => by
  rw [List.length_cons] at hk
  obtain ⟨k, rfl⟩ := succ_of (show 0 < k by omega)
  obtain ⟨h1, h2, h3⟩ := rdS_drop hr
  have hxs : x.size ≤ 1048576 := hx x (by rw [← List.take_append_drop i L, hr]; exact List.mem_append_right _ (List.mem_cons_self ..))
  obtain ⟨t, ht, hd⟩ := implBad_l0 L hL hx r k (i + 1) h3 (by omega) (by omega)
  rw [slices_IndexFunc_string_string.l0, if_pos (by omega), if_pos (by omega), if_pos (by omega), h1, closeList x (by omega) k (by omega), Option.bind_some, w64_succ h2 (by omega), List.any_cons]
  cases okI x with
  | false => exact ⟨(i : Int), by simp, by rw [decide_eq_true (show (i : Int) ≥ 0 by omega)]; rfl⟩
  | true => exact ⟨t, by simpa using ht, by rw [hd]; rfl⟩
theorem implBad (L : List ByteArray) (hL : L.length ≤ 10) (hx : ∀ x ∈ L, x.size ≤ 1048576) (k : Nat) (hk : 1048700 < k) : slices_ContainsFunc_string_string.f k L 0 = some (L.any (fun x => !okI x)) := by
 obtain ⟨t, ht, hd⟩ := implBad_l0 L hL hx L k 0 (by rw [List.drop_zero]) (by omega) (by omega)
 unfold slices_ContainsFunc_string_string.f slices_IndexFunc_string_string.f
 rw [show ((0 : Nat) : Int) = 0 from rfl] at ht
 rw [ht, Option.bind_some, hd]
theorem catL_tail (n : Nat) (la tw : ByteArray) (hn : n ≠ 2) : ∀ (r : List ByteArray) (y : ByteArray) (i : Nat), 1 ≤ i → i + (r.length + 1) = n → catL n la tw (r ++ [y]) i = Lib.joinTail [44, 32] (r.map (·.data.toList)) ++ (la.data.toList ++ y.data.toList)
 | [], y, i, h1, hi => by
  have e : ([] : List ByteArray).length = 0 := rfl
  rw [List.nil_append, catL, catL, glue, if_neg (by omega), if_neg hn, if_pos (by omega), List.append_nil]
  rfl
 | x :: r, y, i, h1, hi => by
  rw [List.length_cons] at hi
  rw [List.cons_append, catL, catL_tail n la tw hn r y (i + 1) (by omega) (by omega), glue, if_neg (by omega), if_neg hn, if_neg (by omega), List.map_cons]
  simp [Lib.joinTail, List.append_assoc]
theorem lens_le {xs : List ByteArray} (h : ∀ x ∈ xs, x.size ≤ 1048576) : Lib.lens (xs.map (·.data.toList)) ≤ xs.length * 1048576 := by
 induction xs with
 | nil => exact Nat.le_refl _
 | cons x r ih =>
  have h1 := ih (fun y hy => h y (List.mem_cons_of_mem _ hy))
  have h2 := h x (List.mem_cons_self ..)
  have h3 : x.data.toList.length = x.size := data_length x
  simp only [Lib.lens, List.map_cons, List.sum_cons, List.length_cons] at h1 ⊢
  rw [h3]
  omega
theorem joinSmall (xs : List ByteArray) (sp : ByteArray) (hl : xs.length ≤ 10) (hs : sp.size ≤ 2) (h : ∀ x ∈ xs, x.size ≤ 1048576) : strings_Join.f xs sp = some ⟨(Lib.join (xs.map (·.data.toList)) sp.data.toList).toArray⟩ := by
 unfold strings_Join.f
 refine if_pos ⟨by omega, ?_⟩
 cases xs with
 | nil => exact Nat.zero_le _
 | cons x r =>
  rw [List.map_cons, Lib.join_cons, List.length_append, Lib.joinTail_length, List.length_map]
  have h1 := lens_le (fun y hy => h y (List.mem_cons_of_mem x hy))
  have h2 := h x (List.mem_cons_self ..)
  have h3 : x.data.toList.length = x.size := data_length x
  have h4 : sp.data.toList.length = sp.size := data_length sp
  rw [List.length_cons] at hl
  have h5 : sp.data.toList.length * r.length ≤ 2 * 10 := Nat.mul_le_mul (by omega) (by omega)
  omega
def listR (nm : ByteArray) (ts : List S65) (rs : List S67) (la tw : ByteArray) (L : List ByteArray) : ByteArray × Bool :=
 if goodL nm ts rs la tw = true then (if (L.length : Int) > 10 then ((⟨#[]⟩ : ByteArray), false) else listFold L.length la tw L 0 (⟨#[]⟩ : ByteArray)) else ((⟨#[]⟩ : ByteArray), false)
theorem specList (nm : ByteArray) (ts : List S65) (rs : List S67) (la tw : ByteArray) (L : List ByteArray) (hn : nm.size ≤ 1048576) (ht : ∀ x ∈ ts, szT x) (hr : ∀ x ∈ rs, szR x) (hla : la.size ≤ 1048576) (htw : tw.size ≤ 1048576) (hx : ∀ x ∈ L, x.size ≤ 1048576) (k : Nat) (hk : 2000000 < k) :
  spec_ListText.f k nm ts rs la tw L = some (listR nm ts rs la tw L) := by
 obtain ⟨k, rfl⟩ := succ_of hk
 unfold spec_ListText.f listR
 rw [specGood nm ts rs la tw hn ht hr hla htw _ (by omega), Option.bind_some]
 cases goodL nm ts rs la tw with
 | false => rw [if_neg Bool.false_ne_true, if_neg Bool.false_ne_true, spec_ListText.j0, if_pos rfl]
 | true =>
  rw [if_pos rfl, if_pos rfl, spec_ListText.j0]
  by_cases g : (L.length : Int) > 10
  ·rw [decide_eq_true g, if_pos rfl, if_pos g]
  ·rw [decide_eq_false g, if_neg Bool.false_ne_true, if_neg g]
   exact specList_l0 L nm ts rs la tw (by omega) hla htw hx L k 0 (⟨#[]⟩ : ByteArray) (by rw [List.drop_zero]) (by decide) (by omega) (by omega)
theorem pair_same {a : ByteArray × Bool} {s : ByteArray} (h1 : a.2 = true) (h2 : s.data.toList = a.1.data.toList) : (s, true) = a := by
 obtain ⟨x, b⟩ := a
 have h3 : s = x := toL_same h2
 have h4 : b = true := h1
 rw [h3, h4]
theorem implList (nm : ByteArray) (ts : List S65) (rs : List S67) (la tw : ByteArray) (L : List ByteArray) (hn : nm.size ≤ 1048576) (ht : ∀ x ∈ ts, szT x) (hr : ∀ x ∈ rs, szR x) (hla : la.size ≤ 1048576) (htw : tw.size ≤ 1048576) (hx : ∀ x ∈ L, x.size ≤ 1048576) (k : Nat) (hk : 2000000 < k) :
  impl_ListText.f k nm ts rs la tw L = some (listR nm ts rs la tw L) := by
 obtain ⟨k, rfl⟩ : ∃ j, k = j + 2 := ⟨k - 2, by omega⟩
 unfold impl_ListText.f listR
 rw [implGood nm ts rs la tw hn ht hr hla htw _ (by omega), Option.bind_some]
 have hj : impl_ListText.j0 (k + 2) L true nm ts rs la tw = some ((⟨#[]⟩ : ByteArray), false) := by rw [impl_ListText.j0, if_pos rfl]
 cases goodL nm ts rs la tw with
 | false => rw [if_neg Bool.false_ne_true, if_neg Bool.false_ne_true, hj]
 | true =>
  rw [if_pos rfl, if_pos rfl]
  by_cases g : (L.length : Int) > 10
  ·rw [if_pos g, if_pos g, hj]
  ·rw [if_neg g, if_neg g, implBad L (by omega) hx _ (by omega), Option.bind_some]
   cases hb : L.any (fun x => !okI x) with
   | true => rw [hj, listFold_bad _ _ _ _ _ _ hb]
   | false =>
    obtain ⟨f1, f2⟩ := listFold_ok L.length la tw L 0 (⟨#[]⟩ : ByteArray) hb
    have e0 : (⟨#[]⟩ : ByteArray).data.toList = [] := rfl
    rw [e0, List.nil_append] at f2
    rw [impl_ListText.j0, if_neg Bool.false_ne_true]
    match L, hx, g, f1, f2 with
    | [], hx, g, f1, f2 =>
     have l0 : ((([] : List ByteArray).length : Nat) : Int) = 0 := rfl
     rw [l0, if_pos rfl, impl_ListText.j1, if_pos (by decide), joinSmall [] _ (Nat.zero_le _) (by decide) (fun x h => by cases h), Option.bind_some]
     exact congrArg some (pair_same f1 (by rw [f2]; rfl))
    | [x], hx, g, f1, f2 =>
     have l1 : (([x].length : Nat) : Int) = 1 := rfl
     rw [l1, if_neg (by decide), impl_ListText.j1, if_pos (by decide), joinSmall [x] _ (by show 1 ≤ 10; decide) (by decide) hx, Option.bind_some]
     refine congrArg some (pair_same f1 ?_)
     rw [f2, catL, catL, glue, if_pos rfl, e0, List.nil_append, List.append_nil, List.map_cons, List.map_nil, Lib.join_one]
    | [x, y], hx, g, f1, f2 =>
     have hxs := hx x (by simp)
     have hys := hx y (by simp)
     have r0 : rdOf ByteArray.empty [x, y] 0 = x := rfl
     have r1 : rdOf ByteArray.empty [x, y] 1 = y := rfl
     have l2 : (([x, y].length : Nat) : Int) = 2 := rfl
     rw [l2, if_neg (by decide), impl_ListText.j1, if_neg (by decide), if_pos rfl, l2, if_pos (by decide), r0, r1, if_pos (by omega), if_pos (by decide), if_pos (by rw [ByteArray.size_append]; omega)]
     refine congrArg some (pair_same f1 ?_)
     rw [f2, catL, catL, catL, glue, if_pos rfl, glue, if_neg (by decide), if_pos (show [x, y].length = 2 from rfl), e0, List.nil_append, List.append_nil, toL_cat, toL_cat, List.append_assoc]
    | x :: y :: z :: r, hx, g, f1, f2 =>
     obtain ⟨m, l, hml⟩ : ∃ m l, y :: z :: r = m ++ [l] := ⟨(y :: z :: r).dropLast, (y :: z :: r).getLast (by simp), (List.dropLast_concat_getLast (by simp)).symm⟩
     have hml2 : x :: y :: z :: r = (x :: m) ++ [l] := by rw [hml]; rfl
     have hlen : (x :: y :: z :: r).length = m.length + 2 := by rw [hml2, List.length_append, List.length_cons]; rfl
     have hm : 1 ≤ m.length := by
      have := congrArg List.length hml
      rw [List.length_append, List.length_cons, List.length_cons] at this
      have e : [l].length = 1 := rfl
      omega
     have hm9 : m.length ≤ 8 := by omega
     have hls : l.size ≤ 1048576 := hx l (by rw [hml2]; simp)
     have hms : ∀ w ∈ x :: m, w.size ≤ 1048576 := fun w hw => hx w (by rw [hml2]; exact List.mem_append_left _ hw)
     have n0 : ¬ (((x :: y :: z :: r).length : Int) = 0) := by omega
     have n1 : ¬ ((((x :: y :: z :: r).length : Int) == 1) = true) := by rw [beq_iff_eq]; omega
     have n2 : ¬ (((x :: y :: z :: r).length : Int) = 2) := by omega
     have nw : wrap64 (((x :: y :: z :: r).length : Int) - 1) = ((m.length + 1 : Nat) : Int) := by rw [w64 (by omega) (by omega)]; omega
     have htk : (x :: y :: z :: r).take (m.length + 1) = x :: m := by rw [hml2]; exact List.take_left' (by rw [List.length_cons])
     have hrd : rdOf ByteArray.empty (x :: y :: z :: r) ((m.length + 1 : Nat) : Int) = l := by
      unfold rdOf
      rw [Int.toNat_natCast, hml2, List.getD_eq_getElem?_getD, List.getElem?_append_right (by rw [List.length_cons]; omega), List.length_cons, Nat.sub_self]
      rfl
     have hsz : (⟨(Lib.join ((x :: m).map (·.data.toList)) [44, 32]).toArray⟩ : ByteArray).size ≤ 20000000 := by
      rw [size_data]
      show (Lib.join ((x :: m).map (·.data.toList)) [44, 32]).length ≤ _
      rw [List.map_cons, Lib.join_cons, List.length_append, Lib.joinTail_length, List.length_map]
      have h1 := lens_le (fun w hw => hms w (List.mem_cons_of_mem x hw))
      have h2 := hms x (List.mem_cons_self ..)
      have h3 : x.data.toList.length = x.size := data_length x
      have h4 : ([44, 32] : List UInt8).length = 2 := rfl
      rw [h4]
      omega
     have hsp : (⟨#[44, 32]⟩ : ByteArray).data.toList = [44, 32] := rfl
     have hjn := joinSmall (x :: m) (⟨#[44, 32]⟩ : ByteArray) (by rw [List.length_cons]; omega) (by decide) hms
     rw [hsp] at hjn
     rw [if_neg n0, impl_ListText.j1, if_neg n1, if_neg n2, nw, if_pos (by omega), if_pos (by omega), Int.toNat_natCast, htk, hjn, Option.bind_some, hrd, if_pos (by omega), if_pos (by omega), if_pos (by rw [ByteArray.size_append]; omega)]
     refine congrArg some (pair_same f1 ?_)
     rw [f2, hml2, List.cons_append, catL, catL_tail _ la tw (by rw [← List.cons_append, ← hml2]; omega) m l 1 (by omega) (by rw [List.length_cons, List.length_append]; have e : [l].length = 1 := rfl; omega), glue, if_pos rfl, e0, List.nil_append, toL_cat, toL_cat, List.map_cons]
     show Lib.join _ _ ++ _ ++ _ = _
     rw [Lib.join_cons, List.append_assoc, List.append_assoc]
end Go.Proofs.YtmkkcpdpfelalaaGreatDoor.P
