/- Written by a program in this session: each theorem here says that a Go function computes the Lean function beside it, or that a law's row holds, under the conditions that the theorem itself states. -/
import Derived.Test.YtpnjnlcjofaglaaDoorProg
import Derived.Below
import Derived.Deep.Draws
import Derived.Deep.AppendLies
import Derived.Maps.AppendAt
import Derived.OwnWalk
import Derived.Laws.BytesArg
import Derived.Laws.MakeOwn
import Derived.Laws.OwnMore
import Derived.Deep.OwnRows
import Derived.Tactics
import Derived.Lib.ConvBytes
import Derived.Laws.Slices
import Derived.WalkKit
import Derived.KernelRfl
import Derived.RowKit3
import Derived.Deep.LoopGhost
import Derived.Deep.QuietTactic
import Derived.BigQuiet
import Derived.WideLaws
import Derived.Deep.DeepCutAuto
import Derived.Deep.CutBlock
import Derived.Deep.RegionHeld3
import Derived.Laws.Rows
import Derived.Lib.AppendStr
import Derived.ArgAppend
import Derived.Laws.IdiomCopy
import Derived.OrdersHeld
import Derived.Laws.BitsLemmas
import Derived.RowKit
import Derived.Test.YtpnjnlcjofaglaaDoorZWWords
import Derived.Test.YtpnjnlcjofaglaaDoorZWLast
import Derived.Test.YtpnjnlcjofaglaaDoorZWApart
import Derived.Test.YtpnjnlcjofaglaaDoorZWFoot
import Derived.Test.YtpnjnlcjofaglaaDoorZWKept
import Derived.Test.YtpnjnlcjofaglaaDoorZWShare
import Derived.Test.YtpnjnlcjofaglaaDoorZWN
import Derived.Laws.StructEq
import Derived.Test.YtpnjnlcjofaglaaDoorZWRepsOne
import Derived.Test.YtpnjnlcjofaglaaDoorZWMore
import Derived.Lib.ItoaNum
import Derived.Lib.LaidTab
namespace Go.Proofs.YtpnjnlcjofaglaaDoor.P
open Go.RowKit Go.Proofs.YtpnjnlcjofaglaaDoorW.PrintWords Go.Proofs.YtpnjnlcjofaglaaDoorW.PrintLast Go.Proofs.YtpnjnlcjofaglaaDoorW.PrintMore
attribute [local go_sem] max2_int min2_int max_two min_two max_three min_three max_four min_four   -- for this text's walks alone
set_option linter.unusedVariables false
set_option linter.unusedSimpArgs false
def errW : Option Int → Value
 | none => .nilIface
 | some c => .iface 0 (.int .i64 c)
theorem errW_none : errW none = .nilIface := rfl
theorem errW_some (c : Int) : errW (some c) = .iface 0 (.int .i64 c) := rfl
theorem my_isEmpty (l : List UInt8) : (l != []) = !l.isEmpty := by cases l <;> rfl
structure BRow (w W : World) (g : Nat) (xs : List Int) : Prop where
 below : Below w.heap.size w W
 new : w.heap.size ≤ g
 cell : ∀ j, j < xs.length → W.cell? ⟨g, j, none⟩ = some (.int .u8 (xs.getD j 0))
 free : ∀ j, j < xs.length → W.frozen? ⟨g, j, none⟩ = false
theorem BRow.drewN {w W : World} {g : Nat} {xs : List Int} (h : BRow w W g xs) (n : Nat) : BRow w (W.drewN n) g xs :=
 ⟨pw_below_drewN h.below n, h.new, h.cell, h.free⟩
structure Gw (w : World) : Prop where
 tab : Lib.TabIs Tryd.prog w "internal/strconv.uint64pow10" .u64 Lib.pow10Tab
structure Gm (w : World) : Prop where
 max : ∃ m : Int, w.cell? ⟨0, 0, none⟩ = some (.int .i64 m)
structure Gb (w : World) : Prop where
 tab : Lib.TabIs Tryd.prog w "internal/strconv.uint64pow10" .u64 Lib.pow10Tab
 max : ∃ m : Int, w.cell? ⟨0, 0, none⟩ = some (.int .i64 m)
theorem var_below {P : Program} {w W : World} (hb : Below w.heap.size w W) {n : String} {cs : Array Value} (h : w.var? P n = some cs) : W.var? P n = some cs := by
 unfold World.var? at h ⊢
 cases hg : P.globalNamed n with
 | none => simp [hg] at h
 | some g =>
  simp only [hg, Option.bind_some] at h ⊢
  have hlt : g < w.heap.size := by
   rcases Nat.lt_or_ge g w.heap.size with h' | h'
   ·exact h'
   ·simp [Array.getElem?_eq_none h'] at h
  rw [hb.block g hlt]
  exact h
theorem max_below {w W : World} (hb : Below w.heap.size w W) (h : ∃ m : Int, w.cell? ⟨0, 0, none⟩ = some (.int .i64 m)) : ∃ m : Int, W.cell? ⟨0, 0, none⟩ = some (.int .i64 m) := by
 obtain ⟨m, h⟩ := h
 exact ⟨m, (hb.cell (p := ⟨0, 0, none⟩) (World.block_lt_of_cell? w ⟨0, 0, none⟩ h)).trans h⟩
theorem Gw.below {w W : World} (h : Gw w) (hb : Below w.heap.size w W) : Gw W := ⟨var_below hb h.tab⟩
theorem Gw.drewN {w : World} (h : Gw w) (n : Nat) : Gw (w.drewN n) := ⟨var_below (pw_below_drewN (Below.refl _ _) n) h.tab⟩
theorem Gm.below {w W : World} (h : Gm w) (hb : Below w.heap.size w W) : Gm W := ⟨max_below hb h.max⟩
theorem Gm.drewN {w : World} (h : Gm w) (n : Nat) : Gm (w.drewN n) := ⟨max_below (pw_below_drewN (Below.refl _ _) n) h.max⟩
theorem Gb.below {w W : World} (h : Gb w) (hb : Below w.heap.size w W) : Gb W := ⟨var_below hb h.tab, max_below hb h.max⟩
theorem Gb.drewN {w : World} (h : Gb w) (n : Nat) : Gb (w.drewN n) := ⟨var_below (pw_below_drewN (Below.refl _ _) n) h.tab, max_below (pw_below_drewN (Below.refl _ _) n) h.max⟩
abbrev lA := @below_alloc
abbrev lN := @pw_below_drewN
abbrev lD := @below_drew1
end Go.Proofs.YtpnjnlcjofaglaaDoor.P
