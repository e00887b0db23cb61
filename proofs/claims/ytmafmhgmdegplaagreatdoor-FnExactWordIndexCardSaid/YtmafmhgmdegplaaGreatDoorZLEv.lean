/- Steps for 'from some number of rounds on' (Ev): tests, calls, loops over the bytes of a string or the elements of a list; no conditions beyond each lemma's own. -/
import Derived.Test.YtmafmhgmdegplaaGreatDoorZPx0
import Derived.Test.YtmafmhgmdegplaaGreatDoorZLBase
namespace Go.Proofs.YtmafmhgmdegplaaGreatDoor.P
open Go.RowKit Go.Proofs.YtmafmhgmdegplaaGreatDoorW.PrintWords Go.Proofs.YtmafmhgmdegplaaGreatDoorW.PrintLast Go.Proofs.YtmafmhgmdegplaaGreatDoorW.PrintMore
set_option linter.unusedVariables false
set_option linter.unusedSimpArgs false
theorem Ev.pos {α : Type} {c : Prop} [Decidable c] {A B : Nat → Option α} {r : α} (h : c) (k : Ev A r) : Ev (fun n => if c then A n else B n) r := by
 obtain ⟨K, hK⟩ := k
 exact ⟨K, fun n hn => (if_pos h).trans (hK n hn)⟩
theorem Ev.neg {α : Type} {c : Prop} [Decidable c] {A B : Nat → Option α} {r : α} (h : ¬ c) (k : Ev B r) : Ev (fun n => if c then A n else B n) r := by
 obtain ⟨K, hK⟩ := k
 exact ⟨K, fun n hn => (if_neg h).trans (hK n hn)⟩
theorem Ev.tt {α : Type} {A B : Nat → Option α} {b : Bool} {r : α} (h : b = true) (k : Ev A r) : Ev (fun n => if b = true then A n else B n) r := Ev.pos h k
theorem Ev.ff {α : Type} {A B : Nat → Option α} {b : Bool} {r : α} (h : b = false) (k : Ev B r) : Ev (fun n => if b = true then A n else B n) r := Ev.neg (by rw [h]; exact Bool.false_ne_true) k
theorem Ev.b0 {α β : Type} {x : Option α} {f : Nat → α → Option β} {a : α} {r : β} (h : x = some a) (k : Ev (fun n => f n a) r) : Ev (fun n => x.bind (f n)) r := by
 subst h
 exact k
theorem Ev.b1 {α β : Type} {g : Nat → Option α} {f : Nat → α → Option β} {a : α} {r : β} (h : Ev g a) (k : Ev (fun n => f n a) r) : Ev (fun n => (g n).bind (f n)) r := Ev.bind h k
theorem Ev.st {α : Type} {g f : Nat → Option α} {r : α} (h : ∀ k, g (k + 1) = f k) (k : Ev f r) : Ev g r := Ev.step h k
theorem Ev.eq {α : Type} {g : Nat → Option α} {r r' : α} (h : Ev g r) (e : r = r') : Ev g r' := e ▸ h
theorem Ev.val {α : Type} {r r' : α} (e : r = r') : Ev (fun _ => some r) r' := e ▸ Ev.now r
theorem nsucc {i n : Nat} (h : i < n) (hn : n ≤ 4611686018427387904) : wrap64 ((i : Int) + 1) = ((i + 1 : Nat) : Int) := w64_succ h (by omega)
theorem bytesOf_drop (s : ByteArray) (i : Nat) (h : i < s.size) : (bytesOf s).drop i = bt s i :: (bytesOf s).drop (i + 1) := by
 have hl : i < (bytesOf s).length := by rw [bytesOf_length]; exact h
 rw [List.drop_eq_getElem_cons hl]
 congr 1
 have := rd_bytesOf s i
 simp only [rd, Int.toNat_natCast, List.getD_eq_getElem?_getD, List.getElem?_eq_getElem hl, Option.getD_some] at this
 exact this
theorem loop_all (L : Nat → Int → Option Bool) (s : ByteArray) (p : Int → Bool) (fin : Bool) (a : Nat)
  (hs : ∀ i : Nat, a ≤ i → i < s.size → (p (bt s i) = true → ∀ r, Ev (fun k => L k ((i + 1 : Nat) : Int)) r → Ev (fun k => L k (i : Int)) r) ∧ (p (bt s i) = false → Ev (fun k => L k (i : Int)) false))
  (he : Ev (fun k => L k (s.size : Int)) fin) : ∀ (d i : Nat), a ≤ i → i + d = s.size → Ev (fun k => L k (i : Int)) (((bytesOf s).drop i).all p && fin) := by
 intro d
 induction d with
 | zero =>
  intro i _ hi
  obtain rfl : i = s.size := by omega
  rw [List.drop_of_length_le (by rw [bytesOf_length]; exact Nat.le_refl _)]
  exact he
 | succ d ih =>
  intro i ha hi
  have h := hs i ha (by omega)
  rw [bytesOf_drop s i (by omega), List.all_cons]
  cases hp : p (bt s i) with
  | true => rw [Bool.true_and]; exact h.1 hp _ (ih (i + 1) (by omega) (by omega))
  | false => rw [Bool.false_and, Bool.false_and]; exact h.2 hp
theorem rdOf_drop (l : List ByteArray) (i : Nat) (h : i < l.length) : l.drop i = rdOf ByteArray.empty l i :: l.drop (i + 1) := by
 rw [List.drop_eq_getElem_cons h]
 congr 1
 simp [rdOf, List.getD_eq_getElem?_getD, List.getElem?_eq_getElem h]
theorem loop_list {α : Type} (L : Nat → Int → Option Bool) (l : List α) (rdx : Int → α) (hrd : ∀ i : Nat, i < l.length → l.drop i = rdx i :: l.drop (i + 1)) (p : α → Bool) (fin : Bool)
  (hs : ∀ i : Nat, i < l.length → (p (rdx i) = true → ∀ r, Ev (fun k => L k ((i + 1 : Nat) : Int)) r → Ev (fun k => L k (i : Int)) r) ∧ (p (rdx i) = false → Ev (fun k => L k (i : Int)) false))
  (he : Ev (fun k => L k (l.length : Int)) fin) : ∀ (d i : Nat), i + d = l.length → Ev (fun k => L k (i : Int)) ((l.drop i).all p && fin) := by
 intro d
 induction d with
 | zero =>
  intro i hi
  obtain rfl : i = l.length := by omega
  rw [List.drop_of_length_le (Nat.le_refl _)]
  exact he
 | succ d ih =>
  intro i hi
  have h := hs i (by omega)
  rw [hrd i (by omega), List.all_cons]
  cases hp : p (rdx i) with
  | true => rw [Bool.true_and]; exact h.1 hp _ (ih (i + 1) (by omega))
  | false => rw [Bool.false_and, Bool.false_and]; exact h.2 hp
theorem loop_find {α : Type} (L : Nat → Int → Option Int) (l : List α) (rdx : Int → α) (hrd : ∀ i : Nat, i < l.length → l.drop i = rdx i :: l.drop (i + 1)) (p : α → Bool)
  (hs : ∀ i : Nat, i < l.length → (p (rdx i) = false → ∀ r, Ev (fun k => L k ((i + 1 : Nat) : Int)) r → Ev (fun k => L k (i : Int)) r) ∧ (p (rdx i) = true → Ev (fun k => L k (i : Int)) (i : Int)))
  (he : Ev (fun k => L k (l.length : Int)) (-1)) : ∀ (d i : Nat), i + d = l.length → ∃ t, Ev (fun k => L k (i : Int)) t ∧ decide (t ≥ 0) = (l.drop i).any p := by
 intro d
 induction d with
 | zero =>
  intro i hi
  obtain rfl : i = l.length := by omega
  rw [List.drop_of_length_le (Nat.le_refl _)]
  exact ⟨_, he, rfl⟩
 | succ d ih =>
  intro i hi
  have h := hs i (by omega)
  rw [hrd i (by omega), List.any_cons]
  cases hp : p (rdx i) with
  | true => exact ⟨_, h.2 hp, by rw [Bool.true_or]; simp⟩
  | false =>
   obtain ⟨t, ht, hd⟩ := ih (i + 1) (by omega)
   exact ⟨t, h.1 hp t ht, by rw [Bool.false_or]; exact hd⟩
theorem loop_idx (L : Nat → Int → Option Bool) (n : Nat) (p : Nat → Bool) (fin : Bool) (a : Nat)
  (hs : ∀ i : Nat, a ≤ i → i < n → (p i = true → ∀ r, Ev (fun k => L k ((i + 1 : Nat) : Int)) r → Ev (fun k => L k (i : Int)) r) ∧ (p i = false → Ev (fun k => L k (i : Int)) false))
  (he : Ev (fun k => L k (n : Int)) fin) : ∀ (d i : Nat), a ≤ i → i + d = n → Ev (fun k => L k (i : Int)) ((List.range' i d).all p && fin) := by
 intro d
 induction d with
 | zero =>
  intro i _ hi
  obtain rfl : i = n := by omega
  exact he
 | succ d ih =>
  intro i ha hi
  have h := hs i ha (by omega)
  rw [List.range'_succ, List.all_cons]
  cases hp : p i with
  | true => rw [Bool.true_and]; exact h.1 hp _ (ih (i + 1) (by omega) (by omega))
  | false => rw [Bool.false_and, Bool.false_and]; exact h.2 hp
theorem vP {α : Type} {c : Prop} [Decidable c] {A B : Nat → Option α} {r : α} (k : Ev A r) (h : c := by omega) : Ev (fun n => if c then A n else B n) r := Ev.pos h k
theorem vN {α : Type} {c : Prop} [Decidable c] {A B : Nat → Option α} {r : α} (k : Ev B r) (h : ¬ c := by omega) : Ev (fun n => if c then A n else B n) r := Ev.neg h k
end Go.Proofs.YtmafmhgmdegplaaGreatDoor.P
