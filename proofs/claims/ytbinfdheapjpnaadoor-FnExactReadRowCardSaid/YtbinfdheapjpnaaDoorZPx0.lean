/- Written by a program in this session: each theorem here says that a Go function computes the Lean function beside it, or that a law's row holds, under the conditions that the theorem itself states. -/
import Derived.Test.YtbinfdheapjpnaaDoorProg
import Derived.Below
import Derived.Deep.Draws
import Derived.Deep.AppendLies
import Derived.Maps.AppendAt
import Derived.OwnWalk
import Derived.Laws.BytesArg
import Derived.Laws.MakeOwn
import Derived.Laws.OwnMore
import Derived.Deep.OwnRows
import Derived.Tactics
import Derived.Lib.ConvBytes
import Derived.Laws.Slices
import Derived.WalkKit
import Derived.KernelRfl
import Derived.RowKit3
import Derived.Deep.LoopGhost
import Derived.Deep.QuietTactic
import Derived.BigQuiet
import Derived.WideLaws
import Derived.Deep.DeepCutAuto
import Derived.Deep.CutBlock
import Derived.Deep.RegionHeld3
import Derived.Laws.Rows
import Derived.Lib.AppendStr
import Derived.ArgAppend
import Derived.Laws.IdiomCopy
import Derived.OrdersHeld
import Derived.Laws.BitsLemmas
import Derived.RowKit
import Derived.Test.YtbinfdheapjpnaaDoorZWWords
import Derived.Test.YtbinfdheapjpnaaDoorZWLast
import Derived.Test.YtbinfdheapjpnaaDoorZWApart
import Derived.Test.YtbinfdheapjpnaaDoorZWFoot
import Derived.Test.YtbinfdheapjpnaaDoorZWKept
import Derived.Test.YtbinfdheapjpnaaDoorZWShare
import Derived.Test.YtbinfdheapjpnaaDoorZWN
import Derived.Laws.StructEq
import Derived.Test.YtbinfdheapjpnaaDoorZWRepsOne
import Derived.Test.YtbinfdheapjpnaaDoorZWGuard
import Derived.Test.YtbinfdheapjpnaaDoorZWMore
import Derived.Lib.ItoaNum
import Derived.Lib.LaidTab
namespace Go.Proofs.YtbinfdheapjpnaaDoor.P
open Go.RowKit Go.Proofs.YtbinfdheapjpnaaDoorW.PrintWords Go.Proofs.YtbinfdheapjpnaaDoorW.PrintLast Go.Proofs.YtbinfdheapjpnaaDoorW.PrintMore
attribute [local go_sem] max2_int min2_int max_two min_two max_three min_three max_four min_four   -- for this text's walks alone
set_option linter.unusedVariables false
set_option linter.unusedSimpArgs false
def errW : Option Int → Value
 | none => .nilIface
 | some c => .iface 0 (.int .i64 c)
theorem errW_none : errW none = .nilIface := rfl
theorem errW_some (c : Int) : errW (some c) = .iface 0 (.int .i64 c) := rfl
theorem my_isEmpty (l : List UInt8) : (l != []) = !l.isEmpty := by cases l <;> rfl
structure BRow (w W : World) (g : Nat) (xs : List Int) : Prop where
 below : Below w.heap.size w W
 new : w.heap.size ≤ g
 cell : ∀ j, j < xs.length → W.cell? ⟨g, j, none⟩ = some (.int .u8 (xs.getD j 0))
 free : ∀ j, j < xs.length → W.frozen? ⟨g, j, none⟩ = false
theorem BRow.set {w W : World} {g : Nat} {xs : List Int} (h : BRow w W g xs) (i : Nat) (x : Int) : BRow w (W.setCell ⟨g, i, none⟩ (.int .u8 x)) g (xs.set i x) := by
 refine ⟨h.below.setCell h.new _, h.new, fun j hj => ?_, fun j hj => ?_⟩
 ·rw [List.length_set] at hj
  by_cases e : i = j
  ·subst e
   rw [World.cell?_setCell_same _ _ _ (h.cell i hj)]
   simp [List.getD_eq_getElem?_getD, List.getElem?_set, hj]
  ·rw [World.cell?_setCell_other _ _ _ _ (by simp [e]), h.cell j hj]
   simp [List.getD_eq_getElem?_getD, List.getElem?_set, e]
 ·rw [List.length_set] at hj
  rw [World.frozen?_setCell, h.free j hj]
theorem BRow.drewN {w W : World} {g : Nat} {xs : List Int} (h : BRow w W g xs) (n : Nat) : BRow w (W.drewN n) g xs :=
 ⟨pw_below_drewN h.below n, h.new, h.cell, h.free⟩
structure Gw (w : World) : Prop where
 tab : Lib.TabIs Tryd.prog w "internal/strconv.uint64pow10" .u64 Lib.pow10Tab
structure Gm (w : World) : Prop where
 max : ∃ m : Int, w.cell? ⟨0, 0, none⟩ = some (.int .i64 m)
structure Gb (w : World) : Prop where
 tab : Lib.TabIs Tryd.prog w "internal/strconv.uint64pow10" .u64 Lib.pow10Tab
 max : ∃ m : Int, w.cell? ⟨0, 0, none⟩ = some (.int .i64 m)
structure Ge (w : World) : Prop where
 tab : Lib.TabIs Tryd.prog w "internal/strconv.uint64pow10" .u64 Lib.pow10Tab
 syn : ∃ ev : Value, w.var? Tryd.prog "strconv.ErrSyntax" = some #[ev] ∧ (ev = .nilIface ∨ ∃ te pe, ev = .iface te pe)
theorem var_below {P : Program} {w W : World} (hb : Below w.heap.size w W) {n : String} {cs : Array Value} (h : w.var? P n = some cs) : W.var? P n = some cs := by
 unfold World.var? at h ⊢
 cases hg : P.globalNamed n with
 | none => simp [hg] at h
 | some g =>
  simp only [hg, Option.bind_some] at h ⊢
  have hlt : g < w.heap.size := by
   rcases Nat.lt_or_ge g w.heap.size with h' | h'
   ·exact h'
   ·simp [Array.getElem?_eq_none h'] at h
  rw [hb.block g hlt]
  exact h
theorem max_below {w W : World} (hb : Below w.heap.size w W) (h : ∃ m : Int, w.cell? ⟨0, 0, none⟩ = some (.int .i64 m)) : ∃ m : Int, W.cell? ⟨0, 0, none⟩ = some (.int .i64 m) := by
 obtain ⟨m, h⟩ := h
 exact ⟨m, (hb.cell (p := ⟨0, 0, none⟩) (World.block_lt_of_cell? w ⟨0, 0, none⟩ h)).trans h⟩
theorem Gw.below {w W : World} (h : Gw w) (hb : Below w.heap.size w W) : Gw W := ⟨var_below hb h.tab⟩
theorem Gw.drewN {w : World} (h : Gw w) (n : Nat) : Gw (w.drewN n) := ⟨var_below (pw_below_drewN (Below.refl _ _) n) h.tab⟩
theorem Gm.below {w W : World} (h : Gm w) (hb : Below w.heap.size w W) : Gm W := ⟨max_below hb h.max⟩
theorem Gm.drewN {w : World} (h : Gm w) (n : Nat) : Gm (w.drewN n) := ⟨max_below (pw_below_drewN (Below.refl _ _) n) h.max⟩
theorem Gb.below {w W : World} (h : Gb w) (hb : Below w.heap.size w W) : Gb W := ⟨var_below hb h.tab, max_below hb h.max⟩
theorem Gb.drewN {w : World} (h : Gb w) (n : Nat) : Gb (w.drewN n) := ⟨var_below (pw_below_drewN (Below.refl _ _) n) h.tab, max_below (pw_below_drewN (Below.refl _ _) n) h.max⟩
theorem Ge.below {w W : World} (h : Ge w) (hb : Below w.heap.size w W) : Ge W := ⟨var_below hb h.tab, h.syn.imp fun _ ⟨h1, h2⟩ => ⟨var_below hb h1, h2⟩⟩
theorem Ge.drewN {w : World} (h : Ge w) (n : Nat) : Ge (w.drewN n) := h.below (pw_below_drewN (Below.refl _ _) n)
theorem info5 : (Tryd.prog.info? 5).map (fun i => (i.zero, i.size, i.bytes)) = some (some (.int .u8 0), 1, 1) := by kernel_rfl
theorem info9 : (Tryd.prog.info? 9).map (fun i => (i.zero, i.size, i.bytes)) = some (some (.string ⟨#[]⟩), 1, 16) := by kernel_rfl
abbrev lA := @below_alloc
abbrev lN := @pw_below_drewN
abbrev lD := @below_drew1
abbrev aM := @Aside0.mk
abbrev lS := @below_set
abbrev lZ := @below_size
abbrev lT := @below_step
abbrev rN := @Kd.R_drewN
abbrev rA := @Kd.R_alloc
abbrev rD := @Kd.R_drew
abbrev cA := @Kd.C_alloc
abbrev cN := @Kd.C_drewN
abbrev cD := @Kd.C_drew
abbrev rR := @Kd.R_reads'
abbrev rB := @Kd.R_below
abbrev cB := @Kd.C_below
abbrev wB := @World.block_lt_of_cell?
abbrev lI := @List.setIfInBounds_toArray
abbrev sZ := @List.set_cons_zero
abbrev sS := @List.set_cons_succ
abbrev oD := @of_decide_eq_true
abbrev dT := @decide_eq_true
abbrev dF := @decide_eq_false
abbrev eS := @Option.some.injEq
abbrev eP := @Prod.mk.injEq
abbrev mT := @List.map_toArray
abbrev mC := @List.map_cons
abbrev mN := @List.map_nil
abbrev xD := @List.length_drop
abbrev xT := @List.length_take
def mk_ (n b : Nat) : Array Bool := ((List.range n).map b.testBit).toArray
theorem bE_ {α β : Type} {x : Option α} {f : α → Option β} {r : β} (h : x.bind f = some r) : ∃ t, Aside0 (x = some t) ∧ f t = some r := by
 obtain ⟨t, h1, h2⟩ := Option.bind_eq_some_iff.mp h
 exact ⟨t, ⟨h1⟩, h2⟩
end Go.Proofs.YtbinfdheapjpnaaDoor.P
