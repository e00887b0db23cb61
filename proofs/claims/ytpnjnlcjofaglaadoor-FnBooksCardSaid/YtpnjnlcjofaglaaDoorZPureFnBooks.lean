/- For every draw, the law FnBooks answers true: a ten-digit identifier is recovered from the thirteen-digit one, and the other way. No conditions beyond the given statement's. -/
import Derived.Test.YtpnjnlcjofaglaaDoorZPx3
import Derived.Test.YtpnjnlcjofaglaaDoorZPx4
import Derived.Test.YtpnjnlcjofaglaaDoorZPx5
import Derived.Test.YtpnjnlcjofaglaaDoorZPx6
import Derived.Test.YtpnjnlcjofaglaaDoorZLBook
import Derived.Test.YtpnjnlcjofaglaaDoorZLDraw
import Derived.Test.YtpnjnlcjofaglaaDoorZLIdDraw2
import Derived.Test.YtpnjnlcjofaglaaDoorZLIdDraw3
import Derived.Test.YtpnjnlcjofaglaaDoorZLIdent
namespace Go.Proofs.YtpnjnlcjofaglaaDoor.Pure
open Go.RowKit Go.Proofs.YtpnjnlcjofaglaaDoorW.PrintWords Go.Proofs.YtpnjnlcjofaglaaDoorW.PrintLast Go.Proofs.YtpnjnlcjofaglaaDoorW.PrintMore Go.Proofs.YtpnjnlcjofaglaaDoor.P
set_option linter.unusedVariables false
set_option linter.unusedSimpArgs false
theorem checkBoth (s : ByteArray) (hs : s.size ≤ 100) (k : Nat) (hk : 300 < k) : ∃ a b, impl_CheckIdentifier.f k s = some (a, b) ∧ spec_CheckIdentifier.f k s = some (a, b) := by
 unfold spec_CheckIdentifier.f impl_CheckIdentifier.f
 rw [specKind s (by omega) _ (by omega), implKind s (by omega) _ (by omega)]
 exact ⟨_, _, rfl, rfl⟩
theorem books_j3 {l : List Int} (hb : Byt l) (k : Nat) (hk : 400 < k) : laws_FnBooks.j3 (k + 1) l false = some true := by
 obtain ⟨t, ht, hz⟩ := drawCheck_t hb k (by omega)
 obtain ⟨a, b, e1, e2⟩ := checkBoth t hz k (by omega)
 rw [laws_FnBooks.j3, if_neg Bool.false_ne_true, ht, Option.bind_some, e1, Option.bind_some, e2, Option.bind_some, if_pos rfl]
 simp
theorem books_j2 {l : List Int} (hb : Byt l) (k : Nat) (hk : 400 < k) (u v : ByteArray) (ok : Bool) (h : ok = true → ∃ q, impl_ToBook13.f (k + 1) v = some (u, q) ∧ q = true) : laws_FnBooks.j2 (k + 2) l u v ok false = some true := by
 rw [laws_FnBooks.j2, if_neg Bool.false_ne_true]
 by_cases hok : ok = true
 ·obtain ⟨q, e1, e2⟩ := h hok
  subst e2
  have hn : (u.toList != u.toList) = false := by simp
  rw [if_pos hok, e1, Option.bind_some, if_pos rfl, hn]
  exact books_j3 hb k hk
 ·obtain ⟨t, ht, hz⟩ := drawCheck_t hb (k + 1) (by omega)
  obtain ⟨a, b, e1, e2⟩ := checkBoth t hz (k + 1) (by omega)
  rw [if_neg hok, ht, Option.bind_some, e1, Option.bind_some, e2, Option.bind_some, if_pos rfl]
  simp
theorem books_j1 {l : List Int} (hb : Byt l) (k : Nat) (hk : 400 < k) : laws_FnBooks.j1 (k + 3) l = some true := by
 obtain ⟨u, hu, hz⟩ := draw10_t hb (k + 2) (by omega)
 obtain ⟨v, ok, e, vz, c1, c2⟩ := to10 u (by omega)
 obtain ⟨e1, e2⟩ := e (k + 2) (by omega)
 have hn : (ok != ok) = false := by simp
 rw [laws_FnBooks.j1, hu, Option.bind_some, e1, Option.bind_some, e2, Option.bind_some, if_pos rfl, hn]
 refine books_j2 hb k hk u v ok (fun hok => ?_)
 obtain ⟨a1, a2, a3⟩ := c1 hok
 obtain ⟨b1, b2⟩ := back10 a1 a2 a3
 obtain ⟨t, q, f, _, d1, d2⟩ := to13 v (by omega)
 obtain ⟨f1, _⟩ := f (k + 1) (by omega)
 have hq := d2 b1
 obtain ⟨_, d3⟩ := d1 hq
 rw [b2] at d3
 obtain rfl := Option.some.inj d3
 exact ⟨q, f1, hq⟩
theorem books_j0 {l : List Int} (hb : Byt l) (k : Nat) (hk : 400 < k) (s t : ByteArray) (ok : Bool) (h : ok = true → ∃ q, impl_ToBook10.f (k + 3) t = some (s, q) ∧ q = true) : laws_FnBooks.j0 (k + 4) l s t ok false = some true := by
 rw [laws_FnBooks.j0, if_neg Bool.false_ne_true]
 by_cases hok : ok = true
 ·obtain ⟨q, e1, e2⟩ := h hok
  subst e2
  rw [if_pos hok, e1, Option.bind_some, if_pos rfl, if_pos rfl]
  exact books_j1 hb k hk
 ·rw [if_neg hok]
  exact books_j1 hb k hk
theorem FnBooks : laws_FnBooks.Pure := by
 intro l hB
 obtain ⟨_, _, hw⟩ := hB
 have hb := byt_of hw
 obtain ⟨K, hK⟩ : ∃ K, 1000 < K := ⟨_, Nat.lt_succ_self _⟩
 refine ⟨K + 4, ?_⟩
 have hv : laws_rBig.f l = some (decide ((l.length : Int) > 65536)) := rfl
 unfold laws_FnBooks.f
 rw [hv, Option.bind_some]
 generalize decide ((l.length : Int) > 65536) = b
 by_cases hbt : b = true
 ·rw [if_pos hbt]
 ·obtain ⟨s, hs, hz⟩ := draw13_t hb (K + 4) (by omega)
  obtain ⟨t, ok, e, tz, c1, c2⟩ := to13 s (by omega)
  obtain ⟨e1, e2⟩ := e (K + 4) (by omega)
  have hn : (ok != ok) = false := by simp
  rw [if_neg hbt, hs, Option.bind_some, e1, Option.bind_some, e2, Option.bind_some, if_pos rfl, hn]
  refine books_j0 hb K (by omega) s t ok (fun hok => ?_)
  obtain ⟨a1, a2⟩ := c1 hok
  obtain ⟨b1, b2, b3⟩ := back13 a1 a2
  obtain ⟨v, q, f, _, d1, d2⟩ := to10 t (by omega)
  obtain ⟨f1, _⟩ := f (K + 3) (by omega)
  have hq := d2 b1 b2
  obtain ⟨_, _, d3⟩ := d1 hq
  rw [b3] at d3
  obtain rfl := Option.some.inj d3
  exact ⟨q, f1, hq⟩
end Go.Proofs.YtpnjnlcjofaglaaDoor.Pure
