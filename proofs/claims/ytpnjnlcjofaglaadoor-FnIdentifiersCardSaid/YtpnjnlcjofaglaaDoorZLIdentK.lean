/- The kind of an identifier, by the program and by the reference: one plain function, for strings of at most 2097152 bytes. -/
import Derived.Test.YtpnjnlcjofaglaaDoorZPx2
import Derived.Test.YtpnjnlcjofaglaaDoorZPx3
import Derived.Test.YtpnjnlcjofaglaaDoorZLBase
import Derived.Test.YtpnjnlcjofaglaaDoorZLIdent
namespace Go.Proofs.YtpnjnlcjofaglaaDoor.P
open Go.RowKit Go.Proofs.YtpnjnlcjofaglaaDoorW.PrintWords Go.Proofs.YtpnjnlcjofaglaaDoorW.PrintLast Go.Proofs.YtpnjnlcjofaglaaDoorW.PrintMore
set_option linter.unusedVariables false
set_option linter.unusedSimpArgs false
def idKindFrom (s : ByteArray) : Int → Nat → Int
 | _, 0 => 0
 | i, d + 1 => if isId i s = true then i else idKindFrom s (i + 1) d
theorem specKind_l0 (s : ByteArray) (hs : s.size ≤ 2097152) (d : Nat) : ∀ (k : Nat) (i : Int), 1 ≤ i → 5 - i = d → s.size + d + 20 < k → spec_l24Kind.l0 k s i = some (idKindFrom s i d) := by
 induction d with
 | zero =>
  intro k i h0 hd hk
  obtain ⟨k, rfl⟩ := succ_of hk
  simp only [spec_l24Kind.l0]
  rw [if_neg (by omega)]
  rfl
 | succ d ih =>
  intro k i h0 hd hk
  obtain ⟨k, rfl⟩ := succ_of hk
  simp only [spec_l24Kind.l0]
  rw [if_pos (by omega), specIs i s hs k (by omega), w64 (x := i + 1) (by omega) (by omega), ih k (i + 1) (by omega) (by omega) (by omega)]
  simp only [Option.bind_some, idKindFrom]
  cases isId i s <;> simp
theorem implKind_l0 (s : ByteArray) (hs : s.size ≤ 2097152) (d : Nat) : ∀ (k : Nat) (i : Int), 1 ≤ i → 5 - i = d → s.size + d + 20 < k → impl_idKind.l0 k s i = some (idKindFrom s i d) := by
 induction d with
 | zero =>
  intro k i h0 hd hk
  obtain ⟨k, rfl⟩ := succ_of hk
  simp only [impl_idKind.l0]
  rw [if_neg (by omega)]
  rfl
 | succ d ih =>
  intro k i h0 hd hk
  obtain ⟨k, rfl⟩ := succ_of hk
  simp only [impl_idKind.l0]
  rw [if_pos (by omega), implIs i s hs (by omega) (by omega) k (by omega), w64 (x := i + 1) (by omega) (by omega), ih k (i + 1) (by omega) (by omega) (by omega)]
  simp only [Option.bind_some, idKindFrom]
  cases isId i s <;> simp
def kindOf (s : ByteArray) : Int := idKindFrom s 1 4
theorem specKind (s : ByteArray) (hs : s.size ≤ 2097152) (k : Nat) (hk : s.size + 30 < k) : spec_l24Kind.f k s = some (kindOf s) :=
 specKind_l0 s hs 4 k 1 (by omega) (by omega) (by omega)
theorem implKind (s : ByteArray) (hs : s.size ≤ 2097152) (k : Nat) (hk : s.size + 30 < k) : impl_idKind.f k s = some (kindOf s) :=
 implKind_l0 s hs 4 k 1 (by omega) (by omega) (by omega)
theorem kindOf_cases (s : ByteArray) : (kindOf s = 0) ∨ (1 ≤ kindOf s ∧ kindOf s ≤ 4 ∧ isId (kindOf s) s = true) := by
 unfold kindOf
 simp only [idKindFrom]
 split
 ·rename_i h; exact .inr ⟨by omega, by omega, h⟩
 ·split
  ·rename_i h; exact .inr ⟨by omega, by omega, h⟩
  ·split
   ·rename_i h; exact .inr ⟨by omega, by omega, h⟩
   ·split
    ·rename_i h; exact .inr ⟨by omega, by omega, h⟩
    ·exact .inl rfl
end Go.Proofs.YtpnjnlcjofaglaaDoor.P
