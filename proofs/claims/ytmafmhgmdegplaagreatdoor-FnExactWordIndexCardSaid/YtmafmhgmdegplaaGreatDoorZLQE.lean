/- RunQuery: the program and the reference tell the same list; what marks leave of numbers. No conditions beyond each lemma's own. -/
import Derived.Test.YtmafmhgmdegplaaGreatDoorZPx0
import Derived.Test.YtmafmhgmdegplaaGreatDoorZPx4
import Derived.Test.YtmafmhgmdegplaaGreatDoorZPx6
import Derived.Test.YtmafmhgmdegplaaGreatDoorZLBase
import Derived.Test.YtmafmhgmdegplaaGreatDoorZLEv
import Derived.Test.YtmafmhgmdegplaaGreatDoorZLQA
import Derived.Test.YtmafmhgmdegplaaGreatDoorZLQD
namespace Go.Proofs.YtmafmhgmdegplaaGreatDoor.P
open Go.RowKit Go.Proofs.YtmafmhgmdegplaaGreatDoorW.PrintWords Go.Proofs.YtmafmhgmdegplaaGreatDoorW.PrintLast Go.Proofs.YtmafmhgmdegplaaGreatDoorW.PrintMore
set_option linter.unusedVariables false
set_option linter.unusedSimpArgs false
theorem mkT_l0 (d : Nat) : ∀ (x : Nat) (s : ByteArray), x < 10 ^ d → x ≤ 4611686018427387904 → s.size + d ≤ 1000 → ∃ t, Ev (fun k => Fag.l0 k (x : Int) s) t := by
 induction d with
 | zero =>
  intro x s hx _ hs
  have h0 : x = 0 := by simpa using hx
  subst h0
  exact ⟨_, Ev.st (fun k => by rw [Fag.l0]) (vN (vP (Ev.now _)))⟩
 | succ d ih =>
  intro x s hx hm hs
  by_cases h0 : x = 0
  ·subst h0
   exact ⟨_, Ev.st (fun k => by rw [Fag.l0]) (vN (vP (Ev.now _)))⟩
  ·have hz : ∀ y : Int, (strOfNums [y]).size = 1 := fun y => rfl
   have hd : Int.tdiv (x : Int) 10 = ((x / 10 : Nat) : Int) := rfl
   have hx2 : x / 10 < 10 ^ d := by rw [Nat.pow_succ] at hx; omega
   obtain ⟨t, ht⟩ := ih (x / 10) (strOfNums [(wrap64 (48 + (Int.tmod (x : Int) 10))) % 256] ++ s) hx2 (by omega) (by rw [ByteArray.size_append, hz]; omega)
   refine ⟨t, ?_⟩
   refine Ev.st (fun k => by rw [Fag.l0]) ?_
   refine vP ?_
   refine Ev.b0 rfl ?_
   refine Ev.pos (by rw [hz]; omega) ?_
   rw [hd, w64 (by omega) (by omega)]
   exact ht
theorem mkT (x : Int) (h0 : 0 ≤ x) (h1 : x ≤ 4611686018427387904) : ∃ t, Ev (fun k => Fag.f k x) t := by
 unfold Fag.f
 by_cases c : x ≤ 0
 ·exact ⟨_, Ev.pos c (Ev.now _)⟩
 ·obtain ⟨n, rfl⟩ : ∃ n : Nat, x = (n : Int) := ⟨x.toNat, by omega⟩
  obtain ⟨t, ht⟩ := mkT_l0 20 n (⟨#[]⟩ : ByteArray) (by omega) (by omega) (by decide)
  exact ⟨t, Ev.neg c ht⟩
theorem wr1 (x : Int) (h0 : 0 ≤ x) (h1 : x ≤ 4611686018427387904) : wrap64 (x + 1) = x + 1 := w64 (by omega) (by omega)
theorem mkS_ok (n : Nat) (hn : n ≤ 1048576) (d : Nat) : ∀ (i : Nat) (m : Int), i + d = n → 0 ≤ m → m + (d : Int) ≤ 4611686018427387904 → Ev (fun k => mkS.l0 k n m (i : Int)) (m + (d : Int)) := by
 induction d with
 | zero =>
  intro i m hi h0 h1
  refine Ev.st (fun k => by rw [mkS.l0]) (vN (Ev.val (by omega)))
 | succ d ih =>
  intro i m hi h0 h1
  obtain ⟨t, ht⟩ := mkT m h0 (by omega)
  refine Ev.st (fun k => by rw [mkS.l0]) ?_
  refine vP ?_
  refine Ev.b1 ht ?_
  refine vP ?_
  rw [wr1 m h0 (by omega), nsucc (n := n) (by omega) (by omega)]
  exact Ev.eq (ih (i + 1) (m + 1) (by omega) (by omega) (by omega)) (by omega)
theorem mkN_ok (xs : List S157) (hx : szNs xs) (d : Nat) : ∀ (i : Nat) (m : Int), i + d = xs.length → 0 ≤ m → m + (d * 1048579 : Nat) ≤ 4611686018427387904 → ∃ r, Ev (fun k => mkN.l0 k (xs.map skN) m (i : Int)) r ∧ m ≤ r ∧ r ≤ m + (d * 1048579 : Nat) := by
 induction d with
 | zero =>
  intro i m hi h0 h1
  exact ⟨m, Ev.st (fun k => by rw [mkN.l0]) (Ev.neg (by rw [List.length_map]; omega) (Ev.now _)), by omega, by omega⟩
 | succ d ih =>
  intro i m hi h0 h1
  rw [Nat.succ_mul] at h1
  have hl := hx.1
  have hm : mAt zN (xs.map skN) (i : Int) = skN (xs[i]'(by omega)) := by
   unfold mAt
   rw [Int.toNat_natCast, List.getD_eq_getElem?_getD, List.getElem?_map, List.getElem?_eq_getElem (by omega : i < xs.length)]
   rfl
  obtain ⟨n, hn⟩ : ∃ n, n = (xs[i]'(by omega)).f0.length := ⟨_, rfl⟩
  have hn2 : n ≤ 1048576 := by rw [hn]; exact (hx.2 _ (List.getElem_mem _)).1
  have e1 := mkS_ok n hn2 n 0 m (by omega) h0 (by omega)
  have hlen : (mAt zN (xs.map skN) (i : Int)).1.length = n := by rw [hm, hn]; exact List.length_map _
  obtain ⟨t1, ht1⟩ := mkT (m + (n : Int)) (by omega) (by omega)
  obtain ⟨t2, ht2⟩ := mkT (m + (n : Int) + 1) (by omega) (by omega)
  obtain ⟨t3, ht3⟩ := mkT (m + (n : Int) + 1 + 1) (by omega) (by omega)
  obtain ⟨r, r1, r2, r3⟩ := ih (i + 1) (m + (n : Int) + 1 + 1 + 1) (by omega) (by omega) (by omega)
  refine ⟨r, ?_, by omega, by rw [Nat.succ_mul]; omega⟩
  refine Ev.st (fun k => by rw [mkN.l0]) ?_
  refine Ev.pos (by rw [List.length_map]; omega) ?_
  refine vP ?_
  rw [hlen]
  refine Ev.b1 e1 ?_
  rw [wr1 (m + (n : Int)) (by omega) (by omega), wr1 (m + (n : Int) + 1) (by omega) (by omega), wr1 (m + (n : Int) + 1 + 1) (by omega) (by omega), nsucc (n := xs.length) (by omega) (by omega)]
  exact Ev.b1 ht1 (Ev.b1 ht2 (Ev.b1 ht3 r1))
theorem mkE_ok (xs : List S41) (hl : xs.length ≤ 1048576) (hx : ∀ y ∈ xs, GE y) (d : Nat) : ∀ (i : Nat) (m : Int), i + d = xs.length → 0 ≤ m → m + (d * 2199029547020 : Nat) ≤ 4611686018427387904 → ∃ r, Ev (fun k => mkE.l0 k (xs.map skE) m (i : Int)) r ∧ m ≤ r ∧ r ≤ m + (d * 2199029547020 : Nat) := by
 induction d with
 | zero =>
  intro i m hi h0 h1
  exact ⟨m, Ev.st (fun k => by rw [mkE.l0]) (Ev.neg (by rw [List.length_map]; omega) (Ev.now _)), by omega, by omega⟩
 | succ d ih =>
  intro i m hi h0 h1
  rw [Nat.succ_mul] at h1
  have g := hx _ (List.getElem_mem (show i < xs.length by omega))
  have hm : mAt zE (xs.map skE) (i : Int) = skE (xs[i]'(by omega)) := by
   unfold mAt
   rw [Int.toNat_natCast, List.getD_eq_getElem?_getD, List.getElem?_map, List.getElem?_eq_getElem (by omega : i < xs.length)]
   rfl
  obtain ⟨y, hy⟩ : ∃ y, y = xs[i]'(by omega) := ⟨_, rfl⟩
  rw [← hy] at g hm
  have l2 := Nat.mul_le_mul_right 1048579 g.2.1.1
  have l3 := Nat.mul_le_mul_right 1048579 g.2.2.1.1
  obtain ⟨t0, ht0⟩ := mkT m h0 (by omega)
  obtain ⟨m2, n1, n2, n3⟩ := mkN_ok y.f2 g.2.1 y.f2.length 0 (m + 1 + 1) (by omega) (by omega) (by omega)
  obtain ⟨m3, o1, o2, o3⟩ := mkN_ok y.f3 g.2.2.1 y.f3.length 0 m2 (by omega) (by omega) (by omega)
  have b3 : m3 ≤ m + 2199029547010 := by omega
  have b4 : m ≤ m3 := by omega
  clear l2 l3 n2 n3 o2 o3
  obtain ⟨t4, ht4⟩ := mkT (m3) (by omega) (by omega)
  obtain ⟨t5, ht5⟩ := mkT (m3 + 1) (by omega) (by omega)
  obtain ⟨t6, ht6⟩ := mkT (m3 + 1 + 1) (by omega) (by omega)
  obtain ⟨t12, ht12⟩ := mkT (m3 + 1 + 1 + 1 + 1 + 1 + 1 + 1 + 1) (by omega) (by omega)
  obtain ⟨t13, ht13⟩ := mkT (m3 + 1 + 1 + 1 + 1 + 1 + 1 + 1 + 1 + 1) (by omega) (by omega)
  obtain ⟨r, r1, r2, r3⟩ := ih (i + 1) (m3 + 1 + 1 + 1 + 1 + 1 + 1 + 1 + 1 + 1 + 1) (by omega) (by omega) (by omega)
  refine ⟨r, ?_, by omega, by rw [Nat.succ_mul]; omega⟩
  refine Ev.st (fun k => by rw [mkE.l0]) ?_
  refine Ev.pos (by rw [List.length_map]; omega) ?_
  refine vP ?_
  rw [hm, wr1 m h0 (by omega), wr1 (m + 1) (by omega) (by omega), nsucc (n := xs.length) (by omega) (by omega)]
  refine Ev.b1 ht0 (Ev.b1 n1 (Ev.b1 o1 ?_))
  rw [wr1 (m3) (by omega) (by omega), wr1 (m3 + 1) (by omega) (by omega), wr1 (m3 + 1 + 1) (by omega) (by omega), wr1 (m3 + 1 + 1 + 1) (by omega) (by omega), wr1 (m3 + 1 + 1 + 1 + 1) (by omega) (by omega), wr1 (m3 + 1 + 1 + 1 + 1 + 1) (by omega) (by omega), wr1 (m3 + 1 + 1 + 1 + 1 + 1 + 1) (by omega) (by omega), wr1 (m3 + 1 + 1 + 1 + 1 + 1 + 1 + 1) (by omega) (by omega), wr1 (m3 + 1 + 1 + 1 + 1 + 1 + 1 + 1 + 1) (by omega) (by omega), wr1 (m3 + 1 + 1 + 1 + 1 + 1 + 1 + 1 + 1 + 1) (by omega) (by omega)]
  exact Ev.b1 ht4 (Ev.b1 ht5 (Ev.b1 ht6 (Ev.b1 ht12 (Ev.b1 ht13 r1))))
theorem mkl_ok (l : List S41) (h : GL l) (m : Int) (h0 : 0 ≤ m) (h1 : m ≤ 1000000000) : ∃ r, Ev (fun k => Fbq.f k l m) r ∧ 0 ≤ r := by
 have hl := Nat.mul_le_mul_right 2199029547020 h.1
 obtain ⟨r, r1, r2, _⟩ := mkE_ok l h.1 h.2 l.length 0 m (by omega) h0 (by omega)
 unfold Fbq.f mkES.f
 exact ⟨r, r1, by omega⟩
end Go.Proofs.YtmafmhgmdegplaaGreatDoor.P
