/- A row as it is written: the program's and the reference's answers are one plain function, for rows of at most 20000 cells, each printable and of at most 100000 bytes. -/
import Derived.Lib.Join
import Derived.Test.YtbinfdheapjpnaaDoorZPx2
import Derived.Test.YtbinfdheapjpnaaDoorZPx3
import Derived.Test.YtbinfdheapjpnaaDoorZLBase
import Derived.Test.YtbinfdheapjpnaaDoorZLCell
import Derived.Test.YtbinfdheapjpnaaDoorZLOfL
namespace Go.Proofs.YtbinfdheapjpnaaDoor.P
open Go.RowKit Go.Proofs.YtbinfdheapjpnaaDoorW.PrintWords Go.Proofs.YtbinfdheapjpnaaDoorW.PrintLast Go.Proofs.YtbinfdheapjpnaaDoorW.PrintMore
set_option linter.unusedVariables false
set_option linter.unusedSimpArgs false
theorem rdS_at {L : List ByteArray} {i : Nat} {x : ByteArray} {r : List ByteArray} (h : L.drop i = x :: r) : rdOf ByteArray.empty L (i : Int) = x ∧ i < L.length ∧ L.drop (i + 1) = r := by
 have hi : i < L.length := by
  have := congrArg List.length h
  rw [List.length_drop, List.length_cons] at this
  omega
 rw [List.drop_eq_getElem_cons hi] at h
 injection h with h1 h2
 refine ⟨?_, hi, h2⟩
 unfold rdOf
 rw [Int.toNat_natCast, List.getD_eq_getElem?_getD, List.getElem?_eq_getElem hi, Option.getD_some, h1]
theorem drop_none {L : List ByteArray} {i : Nat} (h : L.drop i = []) : ¬ i < L.length := by
 have := congrArg List.length h
 rw [List.length_drop] at this
 have e : ([] : List ByteArray).length = 0 := rfl
 omega
theorem drop_in {L : List ByteArray} {i : Nat} {x : ByteArray} {r : List ByteArray} (h : L.drop i = x :: r) : x ∈ L := by
 rw [← List.take_append_drop i L, h]
 exact List.mem_append_right _ (List.mem_cons_self ..)
def tailL : List ByteArray → List UInt8
 | [] => []
 | x :: r => 44 :: (cellL x.data.toList ++ tailL r)
def rowL : List ByteArray → List UInt8
 | [] => []
 | x :: r => cellL x.data.toList ++ tailL r
def rowB (L : List ByteArray) : ByteArray := ofL (rowL L)
def szC (x : ByteArray) : Prop := x.size ≤ 100000
theorem specRow_tail (L : List ByteArray) (hL : L.length ≤ 20000) (hx : ∀ x ∈ L, szC x) : ∀ (r : List ByteArray) (k i : Nat) (acc : ByteArray), L.drop i = r → 1 ≤ i → i ≤ L.length → acc.size ≤ i * 200003 → r.length + 100001 < k →
  spec_l25Row.l0 k L acc (i : Int) = some (acc ++ ofL (tailL r))
 | [], k, i, acc, hr, h1, hi, ha, hk => by
  obtain ⟨k, rfl⟩ := succ_of hk
  have := drop_none hr
  rw [spec_l25Row.l0, if_neg (by omega), tailL]
  congr 1
  apply bytes_eq
  rw [toL_append, toL_ofL, List.append_nil]
 | x :: r, k, i, acc, hr, h1, hi, ha, hk => by
  rw [List.length_cons] at hk
  obtain ⟨k, rfl⟩ := succ_of (show 0 < k by omega)
  obtain ⟨q1, q2, q3⟩ := rdS_at hr
  have hz : x.size ≤ 100000 := hx x (drop_in hr)
  have hc := cellB_size x
  have e1 : (acc ++ (⟨#[44]⟩ : ByteArray)).size = acc.size + 1 := by rw [ByteArray.size_append]; rfl
  have hi2 : i * 200003 ≤ 20000 * 200003 := Nat.mul_le_mul_right _ (by omega)
  rw [spec_l25Row.l0, if_pos (by omega), if_pos (by omega), if_pos (by omega), if_pos (by omega), q1, specCell x (by omega) k (by omega), Option.bind_some, if_pos (by omega), w64_succ q2 (by omega)]
  rw [specRow_tail L hL hx r k (i + 1) _ q3 (by omega) (by omega) (by rw [ByteArray.size_append, e1]; omega) (by omega)]
  congr 1
  apply bytes_eq
  rw [toL_append, toL_append, toL_append, toL_append, toL_ofL, toL_ofL, tailL, cellB, toL_ofL]
  simp
theorem specRow (L : List ByteArray) (hL : L.length ≤ 20000) (hx : ∀ x ∈ L, szC x) (k : Nat) (hk : 130000 < k) : spec_l25Row.f k L = some (rowB L) := by
 obtain ⟨k, rfl⟩ := succ_of hk
 unfold spec_l25Row.f rowB
 cases L with
 | nil => rw [spec_l25Row.l0, if_neg (by simp), rowL]; rfl
 | cons x r =>
  obtain ⟨q1, q2, q3⟩ := rdS_at (L := x :: r) (i := 0) (x := x) (r := r) rfl
  have hz : x.size ≤ 100000 := hx x (List.mem_cons_self ..)
  have hc := cellB_size x
  have e0 : (⟨#[]⟩ : ByteArray).size = 0 := rfl
  have h0 : (((0 : Nat) : Int)) = 0 := rfl
  rw [h0] at q1
  rw [spec_l25Row.l0, if_pos (by rw [List.length_cons]; omega), if_neg (by omega), if_pos (by omega), q1, specCell x (by omega) k (by omega), Option.bind_some, if_pos (by omega), show wrap64 (0 + 1) = ((1 : Nat) : Int) by rw [w64 (by omega) (by omega)]; rfl]
  rw [List.length_cons] at hL
  rw [specRow_tail (x :: r) (by rw [List.length_cons]; omega) hx r k 1 _ rfl (by omega) (by rw [List.length_cons]; omega) (by rw [ByteArray.size_append]; omega) (by omega)]
  congr 1
theorem implRow_l0 (L : List ByteArray) (hL : L.length ≤ 20000) (hx : ∀ x ∈ L, szC x) (hp : ∀ x ∈ L, ∀ b ∈ x.data.toList, b.toNat < 128) : ∀ (r : List ByteArray) (k i : Nat) (acc : List ByteArray), L.drop i = r → i ≤ L.length → acc.length = i → r.length < k →
  impl_writeRow.l0 k acc L (L.length : Int) (i : Int) = (strings_Join.f (acc ++ r.map cellB) (⟨#[44]⟩ : ByteArray)).bind fun t => some t
 | [], k, i, acc, hr, hi, ha, hk => by
  obtain ⟨k, rfl⟩ := succ_of hk
  have := drop_none hr
  rw [impl_writeRow.l0, if_neg (by omega), List.map_nil, List.append_nil]
 | x :: r, k, i, acc, hr, hi, ha, hk => by
  rw [List.length_cons] at hk
  obtain ⟨k, rfl⟩ := succ_of (show 0 < k by omega)
  obtain ⟨q1, q2, q3⟩ := rdS_at hr
  have hz : x.size ≤ 100000 := hx x (drop_in hr)
  rw [impl_writeRow.l0, if_pos (by omega), if_pos (by omega), if_pos (by omega), q1, implCell x hz (hp x (drop_in hr)), Option.bind_some, if_pos (by omega), w64_succ q2 (by omega)]
  rw [implRow_l0 L hL hx hp r k (i + 1) (acc ++ [cellB x]) q3 (by omega) (by rw [List.length_append, ha]; rfl) (by omega), List.map_cons, List.append_assoc]
  rfl
theorem joinTail_tailL : ∀ L : List ByteArray, Lib.joinTail [44] ((L.map cellB).map (·.data.toList)) = tailL L
 | [] => rfl
 | x :: r => by
  have ih := joinTail_tailL r
  unfold Lib.joinTail at ih ⊢
  rw [List.map_cons, List.map_cons, List.map_cons, List.flatten_cons, ih, tailL, cellB, toL_ofL]
  rfl
theorem join_rowL : ∀ L : List ByteArray, Lib.join ((L.map cellB).map (·.data.toList)) [44] = rowL L
 | [] => rfl
 | x :: r => by
  rw [List.map_cons, List.map_cons, Lib.join_cons, joinTail_tailL, rowL, cellB, toL_ofL]
theorem tailL_len : ∀ L : List ByteArray, (∀ x ∈ L, szC x) → (tailL L).length ≤ L.length * 200003
 | [], _ => Nat.zero_le _
 | x :: r, hx => by
  have h1 := tailL_len r (fun y hy => hx y (List.mem_cons_of_mem _ hy))
  have h2 : x.size ≤ 100000 := hx x (List.mem_cons_self ..)
  have h3 := cellL_len x.data.toList
  rw [data_length] at h3
  rw [tailL, List.length_cons, List.length_append, List.length_cons]
  omega
theorem rowL_len (L : List ByteArray) (hx : ∀ x ∈ L, szC x) : (rowL L).length ≤ L.length * 200003 := by
 cases L with
 | nil => exact Nat.zero_le _
 | cons x r =>
  have h1 := tailL_len r (fun y hy => hx y (List.mem_cons_of_mem _ hy))
  have h2 : x.size ≤ 100000 := hx x (List.mem_cons_self ..)
  have h3 := cellL_len x.data.toList
  rw [data_length] at h3
  rw [rowL, List.length_append, List.length_cons]
  omega
theorem implRow (L : List ByteArray) (hL : L.length ≤ 20000) (hx : ∀ x ∈ L, szC x) (hp : ∀ x ∈ L, ∀ b ∈ x.data.toList, b.toNat < 128) (k : Nat) (hk : 20000 < k) : impl_writeRow.f k L = some (rowB L) := by
 have h := implRow_l0 L hL hx hp L k 0 [] (by rw [List.drop_zero]) (by omega) rfl (by omega)
 unfold impl_writeRow.f
 rw [show ((0 : Nat) : Int) = 0 from rfl] at h
 rw [h, List.nil_append]
 have hl := rowL_len L hx
 have hl2 : L.length * 200003 ≤ 20000 * 200003 := Nat.mul_le_mul_right _ hL
 unfold strings_Join.f
 have hj : Lib.join ((L.map cellB).map (·.data.toList)) (⟨#[44]⟩ : ByteArray).data.toList = rowL L := join_rowL L
 rw [hj, if_pos ⟨by rw [List.length_map]; omega, by omega⟩, Option.bind_some]
 rfl
end Go.Proofs.YtbinfdheapjpnaaDoor.P
