/- The cells of a row: the program's and the reference's answers are one plain function, for texts of at most 1048576 bytes. -/
import Derived.Test.YtbinfdheapjpnaaDoorZPx4
import Derived.Test.YtbinfdheapjpnaaDoorZPx5
import Derived.Test.YtbinfdheapjpnaaDoorZLBase
import Derived.Test.YtbinfdheapjpnaaDoorZLBytesU
import Derived.Test.YtbinfdheapjpnaaDoorZLCell
import Derived.Test.YtbinfdheapjpnaaDoorZLCellOk
import Derived.Test.YtbinfdheapjpnaaDoorZLLocBytes
import Derived.Test.YtbinfdheapjpnaaDoorZLOfL
import Derived.Test.YtbinfdheapjpnaaDoorZLRow
namespace Go.Proofs.YtbinfdheapjpnaaDoor.P
open Go.RowKit Go.Proofs.YtbinfdheapjpnaaDoorW.PrintWords Go.Proofs.YtbinfdheapjpnaaDoorW.PrintLast Go.Proofs.YtbinfdheapjpnaaDoorW.PrintMore
set_option linter.unusedVariables false
set_option linter.unusedSimpArgs false
def rdL : Nat → List UInt8 → List ByteArray → List UInt8 → Bool → List ByteArray × Bool
 | 0, _, out, cell, q => (out ++ [ofL cell], q)
 | _ + 1, [], out, cell, q => (out ++ [ofL cell], q)
 | n + 1, b :: r, out, cell, q =>
  if b = 34 ∧ q = true ∧ r.head? = some 34 then rdL n r.tail out (cell ++ [34]) q
  else if b = 34 then rdL n r out cell (!q)
  else if b = 44 ∧ q = false then rdL n r (out ++ [ofL cell]) [] q
  else rdL n r out (cell ++ [b]) q
theorem rdL_nil (n : Nat) (out : List ByteArray) (cell : List UInt8) (q : Bool) : rdL n [] out cell q = (out ++ [ofL cell], q) := by
 cases n <;> rfl
theorem rdL_ne : ∀ (n : Nat) (l : List UInt8) (out : List ByteArray) (cell : List UInt8) (q : Bool), (rdL n l out cell q).1 ≠ []
 | 0, _, out, cell, q => by simp [rdL]
 | n + 1, [], out, cell, q => by simp [rdL]
 | n + 1, b :: r, out, cell, q => by
  rw [rdL]
  split
  ·exact rdL_ne n _ _ _ _
  ·split
   ·exact rdL_ne n _ _ _ _
   ·split
    ·exact rdL_ne n _ _ _ _
    ·exact rdL_ne n _ _ _ _
theorem rd_bare (n : Nat) (t : List UInt8) (out : List ByteArray) : ∀ (l cell : List UInt8), qL l = false → rdL (l.length + n) (l ++ t) out cell false = rdL n t out (cell ++ l) false
 | [], cell, _ => by rw [List.append_nil, List.nil_append, List.length_nil, Nat.zero_add]
 | b :: l, cell, h => by
  rw [qL, List.any_cons, Bool.or_eq_false_iff, Bool.or_eq_false_iff, beq_eq_false_iff_ne, beq_eq_false_iff_ne] at h
  have e : (b :: l).length + n = (l.length + n) + 1 := by rw [List.length_cons]; omega
  rw [e, List.cons_append, rdL, if_neg (fun g => h.1.2 g.1), if_neg h.1.2, if_neg (fun g => h.1.1 g.1), rd_bare n t out l (cell ++ [b]) h.2, List.append_assoc]
  rfl
theorem rd_quoted (n : Nat) (t : List UInt8) (ht : t.head? ≠ some 34) (out : List ByteArray) : ∀ (l cell : List UInt8), rdL (l.length + 1 + n) (dblL l ++ 34 :: t) out cell true = rdL n t out (cell ++ l) false
 | [], cell => by
  have e : ([] : List UInt8).length + 1 + n = n + 1 := by rw [List.length_nil]; omega
  rw [e, dblL, List.nil_append, rdL, if_neg (fun g => ht g.2.2), if_pos rfl, List.append_nil]
  rfl
 | b :: l, cell => by
  have e : (b :: l).length + 1 + n = (l.length + 1 + n) + 1 := by rw [List.length_cons]; omega
  rw [e, dblL]
  by_cases h : b = 34
  ·rw [if_pos h, List.cons_append, rdL, if_pos ⟨rfl, rfl, rfl⟩]
   show rdL (l.length + 1 + n) (dblL l ++ 34 :: t) out (cell ++ [34]) true = _
   rw [rd_quoted n t ht out l (cell ++ [34]), List.append_assoc, h]
   rfl
  ·rw [if_neg h, List.cons_append, rdL, if_neg (fun g => h g.1), if_neg h, if_neg (fun g => absurd g.2 (by decide)), rd_quoted n t ht out l (cell ++ [b]), List.append_assoc]
   rfl
theorem rd_cell (x t : List UInt8) (ht : t.head? ≠ some 34) (out : List ByteArray) (n : Nat) (hn : (cellL x ++ t).length ≤ n) : ∃ m, t.length ≤ m ∧ rdL n (cellL x ++ t) out [] false = rdL m t out x false := by
 rw [List.length_append] at hn
 unfold cellL at hn ⊢
 by_cases h : qL x = true
 ·rw [if_pos h] at hn ⊢
  have hd : x.length ≤ (dblL x).length := by
   clear hn h
   induction x with
   | nil => exact Nat.zero_le _
   | cons b l ih =>
    rw [dblL]
    split
    ·rw [List.length_cons, List.length_cons, List.length_cons]
     omega
    ·rw [List.length_cons, List.length_cons]
     omega
  rw [List.length_cons, List.length_append, List.length_singleton] at hn
  obtain ⟨m, rfl⟩ : ∃ m, n = (x.length + 1 + m) + 1 := ⟨n - x.length - 2, by omega⟩
  refine ⟨m, by omega, ?_⟩
  rw [List.cons_append, rdL, if_neg (fun g => absurd g.2.1 (by decide)), if_pos rfl, List.append_assoc]
  exact rd_quoted m t ht out x []
 ·rw [if_neg h] at hn ⊢
  obtain ⟨m, rfl⟩ : ∃ m, n = x.length + m := ⟨n - x.length, by omega⟩
  refine ⟨m, by omega, ?_⟩
  exact rd_bare m t out x [] (by simpa using h)
theorem tailL_head (r : List ByteArray) : (tailL r).head? ≠ some 34 := by
 cases r with
 | nil => simp [tailL]
 | cons x r => simp [tailL]
theorem rd_tail : ∀ (r out : List ByteArray) (cell : List UInt8) (n : Nat), (tailL r).length ≤ n → rdL n (tailL r) out cell false = ((out ++ [ofL cell]) ++ r, false)
 | [], out, cell, n, _ => by rw [tailL, rdL_nil, List.append_nil]
 | x :: r, out, cell, n, hn => by
  rw [tailL, List.length_cons] at hn
  obtain ⟨n, rfl⟩ := succ_of (show 0 < n by omega)
  obtain ⟨m, hm, h⟩ := rd_cell x.data.toList (tailL r) (tailL_head r) (out ++ [ofL cell]) n (by omega)
  rw [tailL, rdL, if_neg (fun g => absurd g.1 (by decide)), if_neg (by decide), if_pos ⟨rfl, rfl⟩, h, rd_tail r _ _ m hm, ofL_toL, List.append_assoc, List.append_assoc, List.append_assoc]
  rfl
def readAll (s : ByteArray) : List ByteArray × Bool := rdL s.size s.data.toList [] [] false
theorem readAll_row (L : List ByteArray) (hL : L ≠ []) : readAll (rowB L) = (L, false) := by
 cases L with
 | nil => exact absurd rfl hL
 | cons x r =>
  unfold readAll rowB
  rw [toL_ofL, ofL_size, rowL]
  obtain ⟨m, hm, h⟩ := rd_cell x.data.toList (tailL r) (tailL_head r) [] _ (Nat.le_refl _)
  rw [h, rd_tail r [] _ m hm, ofL_toL]
  rfl
theorem readAll_open {s : ByteArray} (h : (rowB (readAll s).1).toList = s.toList) : (readAll s).2 = false := by
 have e : rowB (readAll s).1 = s := toList_inj.1 h
 have h2 := readAll_row (readAll s).1 (rdL_ne _ _ _ _ _)
 rw [e] at h2
 have h3 := congrArg Prod.snd h2
 exact h3
structure InvR (s : ByteArray) (i : Nat) (out : List ByteArray) (cell : List UInt8) : Prop where
 le : i ≤ s.size
 c : cell.length ≤ i
 o : out.length ≤ i
 z : ∀ x ∈ out, x.size ≤ i
 cb : ∀ b ∈ cell, b ∈ s.data.toList
 ob : ∀ x ∈ out, ∀ b ∈ x.data.toList, b ∈ s.data.toList
theorem mem_at {s : ByteArray} {i : Nat} {b : UInt8} (h : s.data.toList.drop i = b :: s.data.toList.drop (i + 1)) : b ∈ s.data.toList := List.mem_of_mem_drop (by rw [h]; exact List.mem_cons_self ..)
theorem InvR.app {s : ByteArray} {i j : Nat} {out : List ByteArray} {cell : List UInt8} {b : UInt8} (h : InvR s i out cell) (hj : i + 1 ≤ j) (hs : j ≤ s.size) (hb : b ∈ s.data.toList) : InvR s j out (cell ++ [b]) where
 le := hs
 c := by have := h.c; rw [List.length_append, List.length_singleton]; omega
 o := by have := h.o; omega
 z := fun x hx => by have := h.z x hx; omega
 cb := fun y hy => by
  rcases List.mem_append.1 hy with hy | hy
  ·exact h.cb y hy
  ·rw [List.mem_singleton.1 hy]; exact hb
 ob := h.ob
theorem InvR.go {s : ByteArray} {i : Nat} {out : List ByteArray} {cell : List UInt8} (h : InvR s i out cell) (hs : i + 1 ≤ s.size) : InvR s (i + 1) out cell where
 le := hs
 c := by have := h.c; omega
 o := by have := h.o; omega
 z := fun x hx => by have := h.z x hx; omega
 cb := h.cb
 ob := h.ob
theorem InvR.push {s : ByteArray} {i : Nat} {out : List ByteArray} {cell : List UInt8} (h : InvR s i out cell) (hs : i + 1 ≤ s.size) : InvR s (i + 1) (out ++ [ofL cell]) [] where
 le := hs
 c := by simp
 o := by have := h.o; rw [List.length_append, List.length_singleton]; omega
 z := fun x hx => by
  rcases List.mem_append.1 hx with hx | hx
  ·have := h.z x hx; omega
  ·have := h.c
   rw [List.mem_singleton.1 hx, ofL_size]
   omega
 cb := fun y hy => by cases hy
 ob := fun x hx => by
  rcases List.mem_append.1 hx with hx | hx
  ·exact h.ob x hx
  ·rw [List.mem_singleton.1 hx, toL_ofL]; exact h.cb
def nextQ (s : ByteArray) (i : Nat) (q : Bool) : Bool := decide (bt s (i : Int) = 34) && (q && (decide (i + 1 < s.size) && (bt s ((i + 1 : Nat) : Int) == 34)))
theorem head_at {s : ByteArray} {i : Nat} : ((s.data.toList.drop i).head? = some 34) ↔ (i < s.size ∧ bt s (i : Int) = 34) := by
 by_cases h : i < s.size
 ·obtain ⟨b, hb, hbt⟩ := drop_bt s i h
  rw [hb, hbt, List.head?_cons, Option.some.injEq]
  constructor
  ·rintro rfl
   exact ⟨h, rfl⟩
  ·rintro ⟨_, g⟩
   exact u8_int (by rw [g]; rfl)
 ·rw [drop_end s i (by omega)]
  constructor
  ·intro g; cases g
  ·intro g; exact absurd g.1 h
theorem nextQ_true {s : ByteArray} {i : Nat} {q : Bool} (h : nextQ s i q = true) : bt s (i : Int) = 34 ∧ q = true ∧ i + 1 < s.size ∧ bt s ((i + 1 : Nat) : Int) = 34 := by
 unfold nextQ at h
 simp only [Bool.and_eq_true, decide_eq_true_eq, beq_iff_eq] at h
 exact h
theorem nextQ_false {s : ByteArray} {i : Nat} {q : Bool} (h : nextQ s i q = false) : ¬ (bt s (i : Int) = 34 ∧ q = true ∧ i + 1 < s.size ∧ bt s ((i + 1 : Nat) : Int) = 34) := by
 rintro ⟨h1, h2, h3, h4⟩
 unfold nextQ at h
 rw [decide_eq_true h1, h2, decide_eq_true h3, beq_iff_eq.2 h4] at h
 cases h
theorem rd_next {s : ByteArray} {i n : Nat} {b : UInt8} (hb : s.data.toList.drop i = b :: s.data.toList.drop (i + 1)) (hbt : bt s (i : Int) = (b.toNat : Int)) (out : List ByteArray) (cell : List UInt8) (q : Bool) :
  rdL (n + 1) (s.data.toList.drop i) out cell q = if nextQ s i q = true then rdL n (s.data.toList.drop (i + 2)) out (cell ++ [34]) q
   else if b = 34 then rdL n (s.data.toList.drop (i + 1)) out cell (!q)
   else if b = 44 ∧ q = false then rdL n (s.data.toList.drop (i + 1)) (out ++ [ofL cell]) [] q
   else rdL n (s.data.toList.drop (i + 1)) out (cell ++ [b]) q := by
 have b34 : (b.toNat : Int) = 34 ↔ b = 34 := ⟨fun h => u8_int (by rw [h]; rfl), fun h => by rw [h]; rfl⟩
 rw [hb, rdL]
 have ht : (s.data.toList.drop (i + 1)).tail = s.data.toList.drop (i + 2) := by rw [List.tail_drop]
 cases hq : nextQ s i q with
 | true =>
  obtain ⟨h1, h2, h3, h4⟩ := nextQ_true hq
  rw [if_pos ⟨b34.1 (hbt ▸ h1), h2, head_at.2 ⟨h3, h4⟩⟩, if_pos rfl, ht]
 | false =>
  rw [if_neg Bool.false_ne_true, if_neg]
  rintro ⟨h1, h2, h3⟩
  have h4 := head_at.1 h3
  exact nextQ_false hq ⟨by rw [hbt]; exact b34.2 h1, h2, h4.1, h4.2⟩
def finR2 (s : ByteArray) (R : List ByteArray × Bool) : List ByteArray × Bool := (R.1, if R.2 = true then false else (rowB R.1).toList == s.toList)
theorem rd_endInv {s : ByteArray} {out : List ByteArray} {cell : List UInt8} (h : InvR s s.size out cell) (hs : s.size ≤ 1000) : (out ++ [ofL cell]).length ≤ 20000 ∧ (∀ x ∈ out ++ [ofL cell], szC x) ∧ (∀ x ∈ out ++ [ofL cell], ∀ b ∈ x.data.toList, b ∈ s.data.toList) := by
 have h1 := h.o
 have h2 := h.c
 refine ⟨by rw [List.length_append, List.length_singleton]; omega, fun x hx => ?_, fun x hx => ?_⟩
 ·unfold szC
  rcases List.mem_append.1 hx with hx | hx
  ·have := h.z x hx; omega
  ·rw [List.mem_singleton.1 hx, ofL_size]; omega
 ·rcases List.mem_append.1 hx with hx | hx
  ·exact h.ob x hx
  ·rw [List.mem_singleton.1 hx, toL_ofL]; exact h.cb
theorem specRd_end (s : ByteArray) (hs : s.size ≤ 1000) (out : List ByteArray) (cell : List UInt8) (q : Bool) (hI : InvR s s.size out cell) (k : Nat) (hk : 140000 < k) :
  spec_l25Read.l0 k s out (ofL cell) q (s.size : Int) = some (finR2 s (out ++ [ofL cell], q)) := by
 obtain ⟨k, rfl⟩ := succ_of hk
 obtain ⟨h1, h2, _⟩ := rd_endInv hI hs
 have ho := hI.o
 rw [spec_l25Read.l0, if_neg (by omega), if_pos (by omega), Option.bind_some, finR2]
 cases q with
 | true => rw [if_pos rfl, if_pos rfl]
 | false => rw [if_neg Bool.false_ne_true, if_neg Bool.false_ne_true, specRow _ h1 h2 k (by omega), Option.bind_some]
theorem specRd_j (s : ByteArray) (i : Nat) (hi : i < s.size) (hs : s.size ≤ 1000) (out : List ByteArray) (c : ByteArray) (q : Bool) (k : Nat) : spec_l25Read.l0 (k + 1) s out c q (i : Int) = spec_l25Read.j1 k s out c q (i : Int) (nextQ s i q) := by
 have hw : wrap64 ((i : Int) + 1) = ((i + 1 : Nat) : Int) := w64_succ hi (by omega)
 rw [spec_l25Read.l0, if_pos (by omega), if_pos (by omega), hw]
 unfold nextQ
 by_cases h1 : bt s (i : Int) = 34
 ·rw [if_pos h1, decide_eq_true h1, Bool.true_and]
  cases q with
  | false => rw [if_neg Bool.false_ne_true, Bool.false_and]
  | true =>
   rw [if_pos rfl, Bool.true_and]
   by_cases h2 : i + 1 < s.size
   ·rw [if_pos (by omega), if_pos (by omega), decide_eq_true h2, Bool.true_and]
   ·rw [if_neg (by omega), decide_eq_false h2, Bool.false_and]
 ·rw [if_neg h1, decide_eq_false h1, Bool.false_and]
theorem specRd_l0 (s : ByteArray) (hs : s.size ≤ 1000) (B : Nat) (hB : 140000 < B) : ∀ (n k i : Nat) (out : List ByteArray) (cell : List UInt8) (q : Bool), s.size ≤ i + n → InvR s i out cell → 2 * n + B < k →
  spec_l25Read.l0 k s out (ofL cell) q (i : Int) = some (finR2 s (rdL n (s.data.toList.drop i) out cell q)) := by
 intro n
 induction n with
 | zero =>
  intro k i out cell q hn hI hk
  have := hI.le
  obtain rfl : i = s.size := by omega
  rw [specRd_end s hs out cell q hI k (by omega), rdL]
 | succ n ih =>
  intro k i out cell q hn hI hk
  by_cases hi : i < s.size
  ·have h2k : 2 ≤ k := by clear ih hn hs hI hi; omega
   obtain ⟨k, rfl⟩ : ∃ m, k = m + 2 := ⟨k - 2, (Nat.sub_add_cancel h2k).symm⟩
   clear h2k
   have a1 : s.size ≤ (i + 1) + n := by clear ih hk hs; omega
   have a2 : s.size ≤ (i + 2) + n := by clear ih hk hs; omega
   have a3 : 2 * n + B < k := by clear ih hn hs hi; omega
   have a4 : i + 1 ≤ s.size := hi
   clear hn hk
   obtain ⟨b, hb, hbt⟩ := drop_bt s i hi
   obtain ⟨w1, w2, w3, w4⟩ := wExt i s.size hi (by omega)
   have ho := one_ext s i b hb
   have hz : (ofL [b]).size = 1 := rfl
   have hc := hI.c
   have hcap : cell.length + 1 ≤ 9223372036854775807 := Nat.le_trans (Nat.add_le_add_right (Nat.le_trans hc (Nat.le_trans hI.le hs)) 1) (by decide)
   have hoL := hI.o
   have b34 : (b.toNat : Int) = 34 ↔ b = 34 := ⟨fun h => u8_int (by rw [h]; rfl), fun h => by rw [h]; rfl⟩
   have b44 : (b.toNat : Int) = 44 ↔ b = 44 := ⟨fun h => u8_int (by rw [h]; rfl), fun h => by rw [h]; rfl⟩
   rw [specRd_j s i hi hs, rd_next hb hbt, spec_l25Read.j1, w4]
   have happ : ∀ y : UInt8, ofL cell ++ ofL [y] = ofL (cell ++ [y]) := fun y => ofL_append _ _
   cases hq : nextQ s i q with
   | true =>
    obtain ⟨h1, h2, h3, h4⟩ := nextQ_true hq
    have hw2 : wrap64 (((i + 1 : Nat) : Int) + 1) = ((i + 2 : Nat) : Int) := by rw [w64 (by omega) (by omega)]; omega
    rw [if_pos rfl, if_pos rfl, if_pos (by rw [ofL_size]; exact hcap), lit34, happ, hw2]
    have hm : (34 : UInt8) ∈ s.data.toList := by
     have e : b = 34 := b34.1 (hbt ▸ h1)
     rw [← e]
     exact mem_at hb
    exact ih k (i + 2) out (cell ++ [34]) q a2 (hI.app (Nat.le_succ _) h3 hm) a3
   | false =>
    rw [if_neg Bool.false_ne_true, if_neg Bool.false_ne_true, if_pos (by omega), if_pos (by omega), hbt, Int.toNat_natCast, Int.toNat_natCast, ho]
    by_cases e34 : b = 34
    ·rw [if_pos (b34.2 e34), if_pos e34]
     exact ih k (i + 1) out cell (!q) a1 (hI.go a4) a3
    ·rw [if_neg (fun h => e34 (b34.1 h)), if_neg e34]
     have hA := ih k (i + 1) out (cell ++ [b]) q a1 (hI.app (Nat.le_refl _) a4 (mem_at hb)) a3
     by_cases e44 : b = 44
     ·rw [if_pos (b44.2 e44)]
      cases q with
      | true =>
       rw [if_pos rfl, if_pos (by omega), if_pos (by omega), if_pos (by rw [ofL_size, hz]; omega), if_neg (fun h => absurd h.2 (by decide)), happ]
       exact hA
      | false =>
       rw [if_neg Bool.false_ne_true, if_pos (by omega), if_pos ⟨e44, rfl⟩]
       exact ih k (i + 1) (out ++ [ofL cell]) [] false a1 (hI.push a4) a3
     ·rw [if_neg (fun h => e44 (b44.1 h)), if_pos (by omega), if_pos (by omega), if_pos (by rw [ofL_size, hz]; omega), if_neg (fun h => e44 h.1), happ]
      exact hA
  ·have := hI.le
   obtain rfl : i = s.size := by omega
   rw [specRd_end s hs out cell q hI k (by omega), drop_end s s.size (by omega), rdL]
def numsL (l : List UInt8) : List Int := l.map fun b => (b.toNat : Int)
theorem nums_ofL (l : List UInt8) : strOfNums (numsL l) = ofL l := by
 apply bytes_eq
 rw [nums_toL, toL_ofL, numsL, List.map_map]
 conv => rhs; rw [← List.map_id l]
 apply List.map_congr_left
 intro b _
 exact u8_back b
theorem implRd_end (s : ByteArray) (hs : s.size ≤ 1000) (hp : ∀ b ∈ s.data.toList, b.toNat < 128) (out : List ByteArray) (cell : List UInt8) (q : Bool) (hI : InvR s s.size out cell) (k : Nat) (hk : 140000 < k) :
  impl_readRow.l0 k s out (numsL cell) q (s.size : Int) = some (out ++ [ofL cell], (rowB (out ++ [ofL cell])).toList == s.toList) := by
 obtain ⟨k, rfl⟩ := succ_of hk
 obtain ⟨h1, h2, h3⟩ := rd_endInv hI hs
 have ho := hI.o
 rw [impl_readRow.l0, if_neg (by omega), if_pos (by omega), Option.bind_some, nums_ofL, implRow _ h1 h2 (fun x hx b hb => hp b (h3 x hx b hb)) k (by omega), Option.bind_some]
theorem implRd_j (s : ByteArray) (i : Nat) (hi : i < s.size) (hs : s.size ≤ 1000) (out : List ByteArray) (c : List Int) (q : Bool) (k : Nat) : impl_readRow.l0 (k + 1) s out c q (i : Int) = impl_readRow.j1 k s out c q (i : Int) (nextQ s i q) := by
 have hw : wrap64 ((i : Int) + 1) = ((i + 1 : Nat) : Int) := w64_succ hi (by omega)
 rw [impl_readRow.l0, if_pos (by omega), if_pos (by omega), hw]
 unfold nextQ
 by_cases h1 : bt s (i : Int) = 34
 ·rw [if_pos h1, decide_eq_true h1, Bool.true_and]
  cases q with
  | false => rw [if_neg Bool.false_ne_true, Bool.false_and]
  | true =>
   rw [if_pos rfl, Bool.true_and]
   by_cases h2 : i + 1 < s.size
   ·rw [if_pos (by omega), if_pos (by omega), decide_eq_true h2, Bool.true_and]
   ·rw [if_neg (by omega), decide_eq_false h2, Bool.false_and]
 ·rw [if_neg h1, decide_eq_false h1, Bool.false_and]
def finI (s : ByteArray) (R : List ByteArray × Bool) : List ByteArray × Bool := (R.1, (rowB R.1).toList == s.toList)
theorem implRd_l0 (s : ByteArray) (hs : s.size ≤ 1000) (hp : ∀ b ∈ s.data.toList, b.toNat < 128) (B : Nat) (hB : 140000 < B) : ∀ (n k i : Nat) (out : List ByteArray) (cell : List UInt8) (q : Bool), s.size ≤ i + n → InvR s i out cell → 2 * n + B < k →
  impl_readRow.l0 k s out (numsL cell) q (i : Int) = some (finI s (rdL n (s.data.toList.drop i) out cell q)) := by
 intro n
 induction n with
 | zero =>
  intro k i out cell q hn hI hk
  have := hI.le
  obtain rfl : i = s.size := by omega
  rw [implRd_end s hs hp out cell q hI k (by omega), rdL, finI]
 | succ n ih =>
  intro k i out cell q hn hI hk
  by_cases hi : i < s.size
  ·have h2k : 2 ≤ k := by clear ih hn hs hI hi; omega
   obtain ⟨k, rfl⟩ : ∃ m, k = m + 2 := ⟨k - 2, (Nat.sub_add_cancel h2k).symm⟩
   clear h2k
   have a1 : s.size ≤ (i + 1) + n := by clear ih hk hs; omega
   have a2 : s.size ≤ (i + 2) + n := by clear ih hk hs; omega
   have a3 : 2 * n + B < k := by clear ih hn hs hi; omega
   have a4 : i + 1 ≤ s.size := hi
   clear hn hk
   obtain ⟨b, hb, hbt⟩ := drop_bt s i hi
   obtain ⟨w1, w2, w3, w4⟩ := wExt i s.size hi (by omega)
   have hc := hI.c
   have hoL := hI.o
   have hlen : (numsL cell).length = cell.length := List.length_map ..
   have hcap : cell.length < 140737488355328 := Nat.lt_of_le_of_lt (Nat.le_trans hc (Nat.le_trans hI.le hs)) (by decide)
   have b34 : (b.toNat : Int) = 34 ↔ b = 34 := ⟨fun h => u8_int (by rw [h]; rfl), fun h => by rw [h]; rfl⟩
   have b44 : (b.toNat : Int) = 44 ↔ b = 44 := ⟨fun h => u8_int (by rw [h]; rfl), fun h => by rw [h]; rfl⟩
   rw [implRd_j s i hi hs, rd_next hb hbt, impl_readRow.j1, w4]
   have happ : ∀ y : UInt8, numsL cell ++ [(y.toNat : Int)] = numsL (cell ++ [y]) := fun y => by unfold numsL; rw [List.map_append]; rfl
   cases hq : nextQ s i q with
   | true =>
    obtain ⟨h1, h2, h3, h4⟩ := nextQ_true hq
    have hw2 : wrap64 (((i + 1 : Nat) : Int) + 1) = ((i + 2 : Nat) : Int) := by rw [w64 (by omega) (by omega)]; omega
    rw [if_pos rfl, if_pos rfl, if_pos (by rw [hlen]; exact hcap), show ([34] : List Int) = [((34 : UInt8).toNat : Int)] from rfl, happ, hw2]
    have hm : (34 : UInt8) ∈ s.data.toList := by
     have e : b = 34 := b34.1 (hbt ▸ h1)
     rw [← e]
     exact mem_at hb
    exact ih k (i + 2) out (cell ++ [34]) q a2 (hI.app (Nat.le_succ _) h3 hm) a3
   | false =>
    rw [if_neg Bool.false_ne_true, if_neg Bool.false_ne_true, if_pos (by omega), if_pos (by omega), hbt]
    by_cases e34 : b = 34
    ·rw [if_pos (b34.2 e34), if_pos e34]
     exact ih k (i + 1) out cell (!q) a1 (hI.go a4) a3
    ·rw [if_neg (fun h => e34 (b34.1 h)), if_neg e34]
     have hA := ih k (i + 1) out (cell ++ [b]) q a1 (hI.app (Nat.le_refl _) a4 (mem_at hb)) a3
     by_cases e44 : b = 44
     ·rw [if_pos (b44.2 e44)]
      cases q with
      | true =>
       rw [if_pos rfl, if_pos (by omega), if_neg (fun h => absurd h.2 (by decide)), happ]
       exact hA
      | false =>
       rw [if_neg Bool.false_ne_true, if_pos (by omega), if_pos ⟨e44, rfl⟩, nums_ofL]
       exact ih k (i + 1) (out ++ [ofL cell]) [] false a1 (hI.push a4) a3
     ·rw [if_neg (fun h => e44 (b44.1 h)), if_pos (by omega), if_neg (fun h => e44 h.1), happ]
      exact hA
  ·have := hI.le
   obtain rfl : i = s.size := by omega
   rw [implRd_end s hs hp out cell q hI k (by omega), drop_end s s.size (by omega), rdL, finI]
theorem InvR.start (s : ByteArray) : InvR s 0 [] [] where
 le := Nat.zero_le _
 c := Nat.zero_le _
 o := Nat.zero_le _
 z := fun x hx => by cases hx
 cb := fun x hx => by cases hx
 ob := fun x hx => by cases hx
theorem rdL_len : ∀ (n : Nat) (l : List UInt8) (out : List ByteArray) (cell : List UInt8) (q : Bool), (rdL n l out cell q).1.length ≤ out.length + n + 1
 | 0, _, out, cell, q => by simp [rdL]
 | n + 1, [], out, cell, q => by rw [rdL, List.length_append, List.length_singleton]; omega
 | n + 1, b :: r, out, cell, q => by
  rw [rdL]
  have h1 := rdL_len n r.tail out (cell ++ [34]) q
  have h2 := rdL_len n r out cell (!q)
  have h3 := rdL_len n r (out ++ [ofL cell]) [] q
  have h4 := rdL_len n r out (cell ++ [b]) q
  rw [List.length_append, List.length_singleton] at h3
  split
  ·omega
  ·split
   ·omega
   ·split <;> omega
def readRowR (s : ByteArray) : List ByteArray × Bool :=
 if bytesOk s 0 1000 32 = true then (if (rowB (readAll s).1).toList = s.toList then ((readAll s).1, true) else ([], false)) else ([], false)
theorem readRowR_len (s : ByteArray) : (readRowR s).1.length ≤ 1001 := by
 unfold readRowR
 split
 ·rename_i h
  have hz := (bytesOk_small h).2
  split
  ·have := rdL_len s.size s.data.toList [] [] false
   show (readAll s).1.length ≤ 1001
   unfold readAll
   rw [List.length_nil] at this
   omega
  ·exact Nat.zero_le _
 ·exact Nat.zero_le _
theorem specReadRow (s : ByteArray) (hs : s.size ≤ 2097152) (k : Nat) (hk : 3000000 < k) : spec_ReadRow.f k s = some (readRowR s) := by
 unfold spec_ReadRow.f readRowR
 rw [specBytes s hs 0 1000 32 k (by omega), Option.bind_some]
 cases hb : bytesOk s 0 1000 32 with
 | false => rw [if_neg Bool.false_ne_true, if_neg Bool.false_ne_true]
 | true =>
  have hz := (bytesOk_small hb).2
  have h := specRd_l0 s (by omega) 140001 (by omega) s.size k 0 [] [] false (by omega) (InvR.start s) (by omega)
  rw [List.drop_zero] at h
  unfold spec_l25Read.f
  rw [if_pos rfl, if_pos rfl]
  rw [show ((0 : Nat) : Int) = 0 from rfl] at h
  rw [show (⟨#[]⟩ : ByteArray) = ofL [] from rfl, h, Option.bind_some]
  show (if (finR2 s (readAll s)).2 = true then some ((finR2 s (readAll s)).1, true) else _) = _
  unfold finR2
  by_cases e : (rowB (readAll s).1).toList = s.toList
  ·rw [readAll_open e, if_neg Bool.false_ne_true, if_pos e, beq_iff_eq.2 e, if_pos rfl]
  ·rw [if_neg e, if_neg]
   intro g
   revert g
   show ¬ ((if (readAll s).2 = true then false else (rowB (readAll s).1).toList == s.toList) = true)
   split
   ·exact Bool.false_ne_true
   ·intro g; exact e (beq_iff_eq.1 g)
theorem implReadRow (s : ByteArray) (hs : s.size ≤ 2097152) (k : Nat) (hk : 3000000 < k) : impl_ReadRow.f k s = some (readRowR s) := by
 unfold impl_ReadRow.f readRowR
 by_cases hz : (s.size : Int) > 1000
 ·rw [if_pos hz, if_neg]
  intro h
  have := (bytesOk_small h).2
  omega
 ·have hb : bytesOk s 0 1000 32 = allFrom 32 126 s 0 s.size := by
   unfold bytesOk inB
   rw [decide_eq_true (by omega), decide_eq_true (by omega), Bool.true_and, Bool.and_true]
  rw [if_neg hz, hb]
  unfold impl_readRow.f
  rw [implPrint s hs k (by omega), Option.bind_some]
  cases ha : allFrom 32 126 s 0 s.size with
  | false => rw [if_neg Bool.false_ne_true, if_neg Bool.false_ne_true, Option.bind_some, if_neg Bool.false_ne_true]
  | true =>
   have hp := all_mem s s.size 0 (by omega) (by omega) ha
   rw [List.drop_zero] at hp
   have h := implRd_l0 s (by omega) hp 140001 (by omega) s.size k 0 [] [] false (by omega) (InvR.start s) (by omega)
   rw [List.drop_zero] at h
   rw [show ((0 : Nat) : Int) = 0 from rfl] at h
   rw [if_pos rfl, if_pos rfl, show ([] : List Int) = numsL [] from rfl, h, Option.bind_some]
   show (if (finI s (readAll s)).2 = true then some ((finI s (readAll s)).1, true) else _) = _
   unfold finI
   by_cases e : (rowB (readAll s).1).toList = s.toList
   ·rw [beq_iff_eq.2 e, if_pos rfl, if_pos e]
   ·rw [if_neg e, if_neg (fun g => e (beq_iff_eq.1 g))]
end Go.Proofs.YtbinfdheapjpnaaDoor.P
