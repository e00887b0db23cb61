/- Draws of locales come to something: short texts, few terms and rules; draws of numbers come to numbers within 64 bits. Conditions: those of each lemma. -/
import Derived.Test.YtleckcbiifhanaaDoorZPx0
import Derived.Test.YtleckcbiifhanaaDoorZPx14
import Derived.Test.YtleckcbiifhanaaDoorZPx2
import Derived.Test.YtleckcbiifhanaaDoorZPx4
import Derived.Test.YtleckcbiifhanaaDoorZLBase
import Derived.Test.YtleckcbiifhanaaDoorZLDraw
import Derived.Test.YtleckcbiifhanaaDoorZLDraw2
import Derived.Test.YtleckcbiifhanaaDoorZLLocGood
namespace Go.Proofs.YtleckcbiifhanaaDoor.P
open Go.RowKit Go.Proofs.YtleckcbiifhanaaDoorW.PrintWords Go.Proofs.YtleckcbiifhanaaDoorW.PrintLast Go.Proofs.YtleckcbiifhanaaDoorW.PrintMore
set_option linter.unusedVariables false
set_option linter.unusedSimpArgs false
structure SmallL (m : Nat) (n : ByteArray) (ts : List S29) (rs : List S66) (la tw : ByteArray) : Prop where
 n : n.size ≤ 100
 tl : ts.length ≤ m
 t : ∀ x ∈ ts, szT x
 rl : rs.length ≤ m
 r : ∀ x ∈ rs, szR x
 la : la.size ≤ 100
 tw : tw.size ≤ 100
theorem SmallL.addT {n : ByteArray} {ts : List S29} {rs : List S66} {la tw : ByteArray} {x : S29} {m m2 : Nat} (h : SmallL m n ts rs la tw) (hm : m ≤ m2) (hl : ts.length + 1 ≤ m2) (hx : szT x) : SmallL m2 n (ts ++ [x]) rs la tw :=
 { h with
  tl := by rw [List.length_append, List.length_singleton]; omega
  rl := Nat.le_trans h.rl hm
  t := fun y hy => by
   rcases List.mem_append.1 hy with hy | hy
   ·exact h.t y hy
   ·rw [List.mem_singleton.1 hy]; exact hx }
theorem SmallL.up {n : ByteArray} {ts : List S29} {rs : List S66} {la tw : ByteArray} {m m2 : Nat} (h : SmallL m n ts rs la tw) (hm : m ≤ m2) : SmallL m2 n ts rs la tw := { h with tl := Nat.le_trans h.tl hm, rl := Nat.le_trans h.rl hm }
theorem SmallL.addR {n : ByteArray} {ts : List S29} {rs : List S66} {la tw : ByteArray} {x : S66} {m m2 : Nat} (h : SmallL m n ts rs la tw) (hm : m ≤ m2) (hl : rs.length + 1 ≤ m2) (hx : szR x) : SmallL m2 n ts (rs ++ [x]) la tw :=
 { h with
  rl := by rw [List.length_append, List.length_singleton]; omega
  tl := Nat.le_trans h.tl hm
  r := fun y hy => by
   rcases List.mem_append.1 hy with hy | hy
   ·exact h.r y hy
   ·rw [List.mem_singleton.1 hy]; exact hx }
def LocR (m : Nat) (a B : Int) (q : ByteArray × (List S29) × (List S66) × ByteArray × ByteArray × Int × Int) : Prop :=
 SmallL m q.1 q.2.1 q.2.2.1 q.2.2.2.1 q.2.2.2.2.1 ∧ a ≤ q.2.2.2.2.2.1 ∧ q.2.2.2.2.2.1 ≤ B
theorem loc_l1 {l : List Int} (hb : Byt l) (n : ByteArray) (ts : List S29) (la tw : ByteArray) (d : Nat) (hd4 : d ≤ 4) : ∀ (k : Nat) (a sd : Int) (rs : List S66), SmallL 7 n ts rs la tw → rs.length + d ≤ 4 → d < k → 0 ≤ a → a + 6 * d ≤ 1000000 →
  Tot (spec_l1Cur_locale.l1 k (d : Int) l a sd n ts rs la tw) (LocR 7 a (a + 6 * d)) := by
 induction d with
 | zero =>
  intro k a sd rs hs hr hk h0 h1
  obtain ⟨k, rfl⟩ := succ_of hk
  rw [spec_l1Cur_locale.l1, if_neg (by omega)]
  exact Tot.some ⟨hs, by dsimp only; omega, by dsimp only; omega⟩
 | succ d ih =>
  intro k a sd rs hs hr hk h0 h1
  obtain ⟨k, rfl⟩ := succ_of hk
  rw [spec_l1Cur_locale.l1, if_pos (by omega)]
  refine Tot.bind (pick_t hb a sd 12 h0 (by omega)) fun p hp => ?_
  refine Tot.bind (pick_t hb p.2.1 p.2.2 _ (by omega) (by omega)) fun q hq => ?_
  refine Tot.bind (of_t hb q.2.1 q.2.2 _ (by decide) (by omega) (by omega)) fun o ho => ?_
  have hz : o.1.size ≤ 10 := sz_of ho.1 (by decide)
  rw [if_pos (by omega), show wrap64 (((d + 1 : Nat) : Int) - 1) = (d : Int) by rw [w64 (by omega) (by omega)]; omega]
  have hx : szR (⟨wrap64 (1 + p.1), q.1, o.1⟩ : S66) := by show o.1.size ≤ 1048576; omega
  refine (ih (by omega) k o.2.1 o.2.2 _ (hs.addR (Nat.le_refl _) (by omega) hx) (by rw [List.length_append, List.length_singleton]; omega) (by omega) (by omega) (by omega)).mono fun r hr2 => ?_
  exact ⟨hr2.1, by have := hr2.2.1; omega, by have := hr2.2.2; omega⟩
theorem loc_l0 {l : List Int} (hb : Byt l) (T : List S29) (hT : T.length = 4) (hTz : ∀ x ∈ T, szT x) (n la tw : ByteArray) (d : Nat) : ∀ (k i : Nat) (a sd : Int) (ts : List S29), i + d = 4 → ts.length ≤ i → SmallL 7 n ts [] la tw → d + 10 < k → 0 ≤ a → a + 2 * d ≤ 100000 →
  Tot (spec_l1Cur_locale.l0 k T (i : Int) l a sd n ts la tw) (LocR 7 a (a + 2 * d + 30)) := by
 induction d with
 | zero =>
  intro k i a sd ts hi hl hs hk h0 h1
  obtain ⟨k, rfl⟩ := succ_of hk
  rw [spec_l1Cur_locale.l0, if_neg (by omega)]
  refine Tot.bind (pick_t hb a sd 3 h0 (by omega)) fun p hp => ?_
  have e5 : ∀ x ∈ ([(⟨100, 11, (⟨#[116, 104]⟩ : ByteArray)⟩ : S66), (⟨100, 12, (⟨#[116, 104]⟩ : ByteArray)⟩), (⟨10, 1, (⟨#[115, 116]⟩ : ByteArray)⟩), (⟨10, 2, (⟨#[110, 100]⟩ : ByteArray)⟩), (⟨1, 0, (⟨#[116, 104]⟩ : ByteArray)⟩)] : List S66), szR x := by
   intro x hx
   simp only [List.mem_cons, List.not_mem_nil, or_false] at hx
   rcases hx with rfl | rfl | rfl | rfl | rfl <;> (unfold szR; decide)
  have e1 : ∀ x ∈ ([(⟨1, 0, (⟨#[46]⟩ : ByteArray)⟩ : S66)] : List S66), szR x := by
   intro x hx
   rw [List.mem_singleton.1 hx]
   unfold szR
   decide
  refine Tot.ite (fun _ => Tot.some ⟨{ hs with rl := by simp, r := e5 }, by dsimp only; omega, by dsimp only; omega⟩) fun _ => ?_
  refine Tot.ite (fun _ => Tot.some ⟨{ hs with rl := by simp, r := e1 }, by dsimp only; omega, by dsimp only; omega⟩) fun _ => ?_
  refine Tot.bind (pick_t hb p.2.1 p.2.2 4 (by omega) (by omega)) fun q hq => ?_
  obtain ⟨c, hc⟩ : ∃ c : Nat, q.1 = (c : Int) := ⟨q.1.toNat, by omega⟩
  rw [hc]
  refine (loc_l1 hb n ts la tw c (by omega) k q.2.1 q.2.2 [] hs (by show 0 + c ≤ 4; omega) (by omega) (by omega) (by omega)).mono fun r hr => ?_
  exact ⟨hr.1, by have := hr.2.1; omega, by have := hr.2.2; omega⟩
 | succ d ih =>
  intro k i a sd ts hi hl hs hk h0 h1
  obtain ⟨k, rfl⟩ := succ_of hk
  have e2 : wrap64 ((i : Int) + 1) = ((i + 1 : Nat) : Int) := by rw [w64 (by omega) (by omega)]; omega
  rw [spec_l1Cur_locale.l0, if_pos (by omega), e2]
  refine Tot.bind (one_t hb a sd 3 h0 (by omega)) fun p hp => ?_
  refine Tot.ite (fun _ => ?_) fun _ => ?_
  ·refine (ih k (i + 1) p.2.1 p.2.2 ts (by omega) (by omega) hs (by omega) (by omega) (by omega)).mono fun r hr => ?_
   exact ⟨hr.1, by have := hr.2.1; omega, by have := hr.2.2; omega⟩
  ·rw [if_pos (by omega), if_pos (by omega)]
   have hx : szT (rd_T29 T (i : Int)) := hTz _ (rdT_mem (by omega) (by omega))
   refine (ih k (i + 1) p.2.1 p.2.2 _ (by omega) (by rw [List.length_append, List.length_singleton]; omega) (hs.addT (Nat.le_refl _) (by omega) hx) (by omega) (by omega) (by omega)).mono fun r hr => ?_
   exact ⟨hr.1, by have := hr.2.1; omega, by have := hr.2.2; omega⟩
theorem loc_t {l : List Int} (hb : Byt l) (a sd : Int) (k : Nat) (hk : 100 < k) (h0 : 0 ≤ a) (h1 : a ≤ 1000) : Tot (spec_l1Cur_locale.f k l a sd) (LocR 7 a (a + 50)) := by
 unfold spec_l1Cur_locale.f
 refine Tot.bind (of_t hb a sd _ (by decide) h0 (by omega)) fun p hp => ?_
 refine Tot.bind (of_t hb p.2.1 p.2.2 _ (by decide) (by omega) (by omega)) fun q hq => ?_
 refine Tot.bind (of_t hb q.2.1 q.2.2 _ (by decide) (by omega) (by omega)) fun r hr => ?_
 have z1 : p.1.size ≤ 100 := sz_of hp.1 (by decide)
 have z2 : q.1.size ≤ 100 := sz_of hq.1 (by decide)
 have z3 : r.1.size ≤ 100 := sz_of hr.1 (by decide)
 refine (loc_l0 hb _ (by rfl) ?_ p.1 q.1 r.1 4 k 0 r.2.1 r.2.2 [] (by omega) (by decide) ⟨z1, Nat.zero_le _, (fun x hx => absurd hx (List.not_mem_nil)), Nat.zero_le _, (fun x hx => absurd hx (List.not_mem_nil)), z2, z3⟩ (by omega) (by omega) (by omega)).mono fun s hs => ?_
 ·intro x hx
  simp only [List.mem_cons, List.not_mem_nil, or_false] at hx
  rcases hx with rfl | rfl | rfl | rfl <;> (unfold szT; decide)
 ·exact ⟨hs.1, by have := hs.2.1; omega, by have := hs.2.2; omega⟩
theorem any_t {l : List Int} (hb : Byt l) (a sd : Int) (k : Nat) (hk : 100 < k) (h0 : 0 ≤ a) (h1 : a ≤ 1000) : Tot (spec_l1Cur_anyLocale.f k l a sd) (LocR 8 a (a + 100)) := by
 unfold spec_l1Cur_anyLocale.f
 refine Tot.bind (loc_t hb a sd k hk h0 h1) fun m hm => ?_
 obtain ⟨hs, m1, m2⟩ := hm
 refine Tot.bind (pick_t hb _ _ 40 (by omega) (by omega)) fun p hp => ?_
 refine Tot.ite (fun _ => ?_) fun _ => ?_
 ·refine Tot.bind (of_t hb p.2.1 p.2.2 _ (by decide) (by omega) (by omega)) fun q hq => ?_
  have z1 : q.1.size ≤ 100 := sz_of hq.1 (by decide)
  exact Tot.some ⟨{ hs.up (m2 := 8) (by omega) with n := z1 }, by dsimp only; omega, by dsimp only; omega⟩
 refine Tot.ite (fun _ => ?_) fun _ => ?_
 ·refine Tot.bind (of_t hb p.2.1 p.2.2 _ (by decide) (by omega) (by omega)) fun q hq => ?_
  refine Tot.bind (of_t hb q.2.1 q.2.2 _ (by decide) (by omega) (by omega)) fun r hr => ?_
  have z1 : q.1.size ≤ 100 := sz_of hq.1 (by decide)
  have z2 : r.1.size ≤ 100 := sz_of hr.1 (by decide)
  have hl := hs.tl
  have hx : szT (⟨q.1, (⟨#[120]⟩ : ByteArray), r.1⟩ : S29) := by
   refine ⟨?_, ?_, ?_⟩
   ·show q.1.size ≤ _; omega
   ·show (⟨#[120]⟩ : ByteArray).size ≤ _; decide
   ·show r.1.size ≤ _; omega
  rw [if_pos (by omega)]
  exact Tot.some ⟨hs.addT (m2 := 8) (by omega) (by omega) hx, by dsimp only; omega, by dsimp only; omega⟩
 refine Tot.ite (fun _ => ?_) fun _ => ?_
 ·refine Tot.bind (among_t hb p.2.1 p.2.2 _ (by decide) (by omega) (by omega)) fun q hq => ?_
  refine Tot.bind (among_t hb q.2.1 q.2.2 _ (by decide) (by omega) (by omega)) fun q2 hq2 => ?_
  refine Tot.bind (of_t hb q2.2.1 q2.2.2 _ (by decide) (by omega) (by omega)) fun r hr => ?_
  have z2 : r.1.size ≤ 100 := sz_of hr.1 (by decide)
  have hl := hs.rl
  have hx : szR (⟨q.1, q2.1, r.1⟩ : S66) := by show r.1.size ≤ 1048576; omega
  rw [if_pos (by omega)]
  exact Tot.some ⟨hs.addR (m2 := 8) (by omega) (by omega) hx, by dsimp only; omega, by dsimp only; omega⟩
 refine Tot.ite (fun _ => ?_) fun _ => ?_
 ·exact Tot.some ⟨{ hs.up (m2 := 8) (by omega) with la := (by show (⟨#[]⟩ : ByteArray).size ≤ 100; decide) }, by dsimp only; omega, by dsimp only; omega⟩
 ·exact Tot.some ⟨hs.up (by omega), by dsimp only; omega, by dsimp only; omega⟩
theorem num_t {l : List Int} (hb : Byt l) (a sd : Int) (h0 : 0 ≤ a) (h1 : a ≤ 1000000) : Tot (spec_l1Cur_number23.f l a sd) (fun q => -1 ≤ q.1 ∧ q.1 ≤ 1000000 ∧ a ≤ q.2.1 ∧ q.2.1 ≤ a + 6) := by
 unfold spec_l1Cur_number23.f
 refine Tot.bind (pick_t hb a sd 1000 h0 (by omega)) fun p hp => ?_
 rw [Option.bind_some]
 refine Tot.bind (pick_t hb p.2.1 p.2.2 24 (by omega) (by omega)) fun q hq => ?_
 have e1 : wrap64 (12 + (wrap64 (Int.tdiv q.1 11))) = 12 + q.1 / 11 := by
  rw [Int.tdiv_eq_ediv_of_nonneg hq.1, w64 (x := q.1 / 11) (by omega) (by omega), w64 (by omega) (by omega)]
 have hl : (([0, 1, 2, 3, 11, 12, 21, 101, 111, 1999, p.1, 999999, (-1), 1000000] : List Int).length : Int) = 14 := rfl
 rw [e1, if_pos (by omega), hl, if_pos (by omega)]
 have hlen : 0 < (([0, 1, 2, 3, 11, 12, 21, 101, 111, 1999, p.1, 999999, (-1), 1000000] : List Int).take (12 + q.1 / 11).toNat).length := by
  rw [List.length_take]
  show 0 < min _ 14
  omega
 refine Tot.bind (among_t hb q.2.1 q.2.2 _ hlen (by omega) (by omega)) fun r hr => ?_
 have hm := List.mem_of_mem_take hr.1
 have hv : -1 ≤ r.1 ∧ r.1 ≤ 1000000 := by
  simp only [List.mem_cons, List.not_mem_nil, or_false] at hm
  omega
 exact Tot.some ⟨hv.1, hv.2, by dsimp only; omega, by dsimp only; omega⟩
theorem SmallL.ok {m : Nat} {n : ByteArray} {ts : List S29} {rs : List S66} {la tw : ByteArray} (h : SmallL m n ts rs la tw) : n.size ≤ 1048576 ∧ la.size ≤ 1048576 ∧ tw.size ≤ 1048576 := by
 have h1 := h.n
 have h2 := h.la
 have h3 := h.tw
 omega
end Go.Proofs.YtleckcbiifhanaaDoor.P
