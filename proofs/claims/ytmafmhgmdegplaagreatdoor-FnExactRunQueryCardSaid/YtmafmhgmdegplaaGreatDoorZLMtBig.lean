/- A mark's text, for marks below a thousand million. -/
import Derived.Test.YtmafmhgmdegplaaGreatDoorZPx29
import Derived.Test.YtmafmhgmdegplaaGreatDoorZLBase
namespace Go.Proofs.YtmafmhgmdegplaaGreatDoor.P
open Go.RowKit Go.Proofs.YtmafmhgmdegplaaGreatDoorW.PrintWords Go.Proofs.YtmafmhgmdegplaaGreatDoorW.PrintLast Go.Proofs.YtmafmhgmdegplaaGreatDoorW.PrintMore
set_option linter.unusedVariables false
set_option linter.unusedSimpArgs false
def mtL2 : Nat → Nat → ByteArray → ByteArray
 | 0, _, s => (⟨#[109]⟩ : ByteArray) ++ s
 | d + 1, x, s => if x = 0 then (⟨#[109]⟩ : ByteArray) ++ s else mtL2 d (x / 10) (strOfNums [(wrap64 (48 + (Int.tmod (x : Int) 10))) % 256] ++ s)
def mt2 (x : Nat) : ByteArray := if x = 0 then (⟨#[109, 48]⟩ : ByteArray) else mtL2 9 x (⟨#[]⟩ : ByteArray)
theorem markText2_l0 (d : Nat) : ∀ (x k : Nat) (s : ByteArray), x < 10 ^ d → x ≤ 1000000000 → d < k → s.size + d ≤ 1000 → Fah.l0 k (x : Int) s = some (mtL2 d x s) := by
 induction d with
 | zero =>
  intro x k s hx _ hk hs
  have h0 : x = 0 := by simpa using hx
  subst h0
  obtain ⟨k, rfl⟩ := succ_of hk
  rw [Fah.l0, if_neg (by omega), if_pos (by omega)]
  rfl
 | succ d ih =>
  intro x k s hx hm hk hs
  obtain ⟨k, rfl⟩ := succ_of hk
  unfold mtL2
  by_cases h0 : x = 0
  ·subst h0
   rw [Fah.l0, if_neg (by omega), if_pos (by omega), if_pos rfl]
  ·have hz : ∀ y : Int, (strOfNums [y]).size = 1 := fun y => rfl
   have hd : Int.tdiv (x : Int) 10 = ((x / 10 : Nat) : Int) := rfl
   have hx2 : x / 10 < 10 ^ d := by rw [Nat.pow_succ] at hx; omega
   rw [Fah.l0, if_pos (by omega), if_neg h0]
   simp only [Option.bind_some]
   rw [if_pos (by rw [hz]; omega), hd, w64 (by omega) (by omega), ih (x / 10) k _ hx2 (by omega) (by omega) (by rw [ByteArray.size_append, hz]; omega)]
theorem markText2_f (x : Nat) (hx : x < 1000000000) (k : Nat) (hk : 9 < k) : Fah.f k (x : Int) = some (mt2 x) := by
 unfold Fah.f mt2
 by_cases h0 : x = 0
 ·rw [if_pos (by omega), if_pos h0]
 ·rw [if_neg (by omega), if_neg h0, markText2_l0 9 x k _ (by omega) (by omega) hk (by decide)]
end Go.Proofs.YtmafmhgmdegplaaGreatDoor.P
