/- Written by a program in this session: each theorem here says that a Go function computes the Lean function beside it, or that a law's row holds, under the conditions that the theorem itself states. -/
import Derived.Test.YtmkkcpdpfelalaaProg
import Derived.Below
import Derived.Deep.Draws
import Derived.Deep.AppendLies
import Derived.Maps.AppendAt
import Derived.OwnWalk
import Derived.Laws.BytesArg
import Derived.Laws.MakeOwn
import Derived.Laws.OwnMore
import Derived.Deep.OwnRows
import Derived.Tactics
import Derived.Lib.ConvBytes
import Derived.Laws.Slices
import Derived.WalkKit
import Derived.KernelRfl
import Derived.RowKit3
import Derived.Deep.LoopGhost
import Derived.Deep.QuietTactic
import Derived.BigQuiet
import Derived.WideLaws
import Derived.Deep.DeepCutAuto
import Derived.Deep.CutBlock
import Derived.Deep.RegionHeld3
import Derived.Laws.Rows
import Derived.Lib.AppendStr
import Derived.ArgAppend
import Derived.Laws.IdiomCopy
import Derived.OrdersHeld
import Derived.Laws.BitsLemmas
import Derived.RowKit
import Derived.Test.YtmkkcpdpfelalaaZWWords
import Derived.Test.YtmkkcpdpfelalaaZWLast
import Derived.Test.YtmkkcpdpfelalaaZWTab
import Derived.Test.YtmkkcpdpfelalaaZWApart
import Derived.Test.YtmkkcpdpfelalaaZWFoot
import Derived.Test.YtmkkcpdpfelalaaZWKept
import Derived.Test.YtmkkcpdpfelalaaZWShare
import Derived.Test.YtmkkcpdpfelalaaZWN
import Derived.Test.YtmkkcpdpfelalaaZWAt
import Derived.Laws.StructEq
import Derived.Test.YtmkkcpdpfelalaaZWRepsOne
import Derived.Test.YtmkkcpdpfelalaaZWGuard
import Derived.Test.YtmkkcpdpfelalaaZWMore
import Derived.Lib.ItoaNum
import Derived.Lib.LaidTab
namespace Go.Proofs.Ytmkkcpdpfelalaa.P
open Go.RowKit Go.Proofs.YtmkkcpdpfelalaaW.PrintWords Go.Proofs.YtmkkcpdpfelalaaW.PrintLast Go.Proofs.YtmkkcpdpfelalaaW.PrintMore
attribute [local go_sem] max2_int min2_int max_two min_two max_three min_three max_four min_four   -- for this text's walks alone
set_option linter.unusedVariables false
set_option linter.unusedSimpArgs false
def errW : Option Int → Value
 | none => .nilIface
 | some c => .iface 0 (.int .i64 c)
theorem errW_none : errW none = .nilIface := rfl
theorem errW_some (c : Int) : errW (some c) = .iface 0 (.int .i64 c) := rfl
theorem my_isEmpty (l : List UInt8) : (l != []) = !l.isEmpty := by cases l <;> rfl
theorem geqStr (P : Program) (t : TypeId) (a b : ByteArray) (w : World) : Sem.run P (binOp BinOp.geq t (Value.string a) (Value.string b)) w = .ok (.bool (!Op.bytesLess a.toList b.toList)) w := rfl
structure BRow (w W : World) (g : Nat) (xs : List Int) : Prop where
 below : Below w.heap.size w W
 new : w.heap.size ≤ g
 cell : ∀ j, j < xs.length → W.cell? ⟨g, j, none⟩ = some (.int .u8 (xs.getD j 0))
 free : ∀ j, j < xs.length → W.frozen? ⟨g, j, none⟩ = false
theorem BRow.set {w W : World} {g : Nat} {xs : List Int} (h : BRow w W g xs) (i : Nat) (x : Int) : BRow w (W.setCell ⟨g, i, none⟩ (.int .u8 x)) g (xs.set i x) := by
 refine ⟨h.below.setCell h.new _, h.new, fun j hj => ?_, fun j hj => ?_⟩
 ·rw [List.length_set] at hj
  by_cases e : i = j
  ·subst e
   rw [World.cell?_setCell_same _ _ _ (h.cell i hj)]
   simp [List.getD_eq_getElem?_getD, List.getElem?_set, hj]
  ·rw [World.cell?_setCell_other _ _ _ _ (by simp [e]), h.cell j hj]
   simp [List.getD_eq_getElem?_getD, List.getElem?_set, e]
 ·rw [List.length_set] at hj
  rw [World.frozen?_setCell, h.free j hj]
theorem BRow.drewN {w W : World} {g : Nat} {xs : List Int} (h : BRow w W g xs) (n : Nat) : BRow w (W.drewN n) g xs :=
 ⟨pw_below_drewN h.below n, h.new, h.cell, h.free⟩
structure Gw (w : World) : Prop where
 tab : Lib.TabIs Try.prog w "internal/strconv.uint64pow10" .u64 Lib.pow10Tab
structure Gm (w : World) : Prop where
 max : ∃ m : Int, w.cell? ⟨0, 0, none⟩ = some (.int .i64 m)
structure Gb (w : World) : Prop where
 tab : Lib.TabIs Try.prog w "internal/strconv.uint64pow10" .u64 Lib.pow10Tab
 max : ∃ m : Int, w.cell? ⟨0, 0, none⟩ = some (.int .i64 m)
structure Ge (w : World) : Prop where
 tab : Lib.TabIs Try.prog w "internal/strconv.uint64pow10" .u64 Lib.pow10Tab
 syn : ∃ ev : Value, w.var? Try.prog "strconv.ErrSyntax" = some #[ev] ∧ (ev = .nilIface ∨ ∃ te pe, ev = .iface te pe)
theorem var_below {P : Program} {w W : World} (hb : Below w.heap.size w W) {n : String} {cs : Array Value} (h : w.var? P n = some cs) : W.var? P n = some cs := by
 unfold World.var? at h ⊢
 cases hg : P.globalNamed n with
 | none => simp [hg] at h
 | some g =>
  simp only [hg, Option.bind_some] at h ⊢
  have hlt : g < w.heap.size := by
   rcases Nat.lt_or_ge g w.heap.size with h' | h'
   ·exact h'
   ·simp [Array.getElem?_eq_none h'] at h
  rw [hb.block g hlt]
  exact h
theorem max_below {w W : World} (hb : Below w.heap.size w W) (h : ∃ m : Int, w.cell? ⟨0, 0, none⟩ = some (.int .i64 m)) : ∃ m : Int, W.cell? ⟨0, 0, none⟩ = some (.int .i64 m) := by
 obtain ⟨m, h⟩ := h
 exact ⟨m, (hb.cell (p := ⟨0, 0, none⟩) (World.block_lt_of_cell? w ⟨0, 0, none⟩ h)).trans h⟩
theorem Gw.below {w W : World} (h : Gw w) (hb : Below w.heap.size w W) : Gw W := ⟨var_below hb h.tab⟩
theorem Gw.drewN {w : World} (h : Gw w) (n : Nat) : Gw (w.drewN n) := ⟨var_below (pw_below_drewN (Below.refl _ _) n) h.tab⟩
theorem Gm.below {w W : World} (h : Gm w) (hb : Below w.heap.size w W) : Gm W := ⟨max_below hb h.max⟩
theorem Gm.drewN {w : World} (h : Gm w) (n : Nat) : Gm (w.drewN n) := ⟨max_below (pw_below_drewN (Below.refl _ _) n) h.max⟩
theorem Gb.below {w W : World} (h : Gb w) (hb : Below w.heap.size w W) : Gb W := ⟨var_below hb h.tab, max_below hb h.max⟩
theorem Gb.drewN {w : World} (h : Gb w) (n : Nat) : Gb (w.drewN n) := ⟨var_below (pw_below_drewN (Below.refl _ _) n) h.tab, max_below (pw_below_drewN (Below.refl _ _) n) h.max⟩
theorem Ge.below {w W : World} (h : Ge w) (hb : Below w.heap.size w W) : Ge W := ⟨var_below hb h.tab, h.syn.imp fun _ ⟨h1, h2⟩ => ⟨var_below hb h1, h2⟩⟩
theorem Ge.drewN {w : World} (h : Ge w) (n : Nat) : Ge (w.drewN n) := h.below (pw_below_drewN (Below.refl _ _) n)
theorem info61 : (Try.prog.info? 61).map (fun i => (i.zero, i.size, i.bytes)) = some (some (.agg #[(.string ⟨#[]⟩), (.string ⟨#[]⟩), (.string ⟨#[]⟩)]), 3, 48) := by kernel_rfl
theorem info72 : (Try.prog.info? 72).map (fun i => (i.zero, i.size, i.bytes)) = some (some (.agg #[(.int .i64 0), (.int .i64 0), (.string ⟨#[]⟩)]), 3, 32) := by kernel_rfl
structure S57 where
 f0 : ByteArray
 f1 : ByteArray
 f2 : ByteArray
def z57 : S57 := ⟨(⟨#[]⟩ : ByteArray), (⟨#[]⟩ : ByteArray), (⟨#[]⟩ : ByteArray)⟩
def k57 : Kd S57 := Kd.iso (Kd.pair Kd.string (Kd.pair Kd.string Kd.string)) (fun x : S57 => (x.f0, x.f1, x.f2))
theorem k57_open {w : World} {x : S57} {cs : List Value} (h : k57.K w x cs) : cs = [.string x.f0, .string x.f1, .string x.f2] := by
 obtain ⟨_, _, rfl, rfl, ⟨_, _, rfl, rfl, rfl⟩⟩ := h
 exact rfl
def rd_T57 (xs : List S57) (i : Int) : S57 := xs.getD i.toNat z57
theorem at_T57 {w : World} {A : Option Addr} {n : Nat} {xs : List S57} (h : Kd.C k57 w A n xs) (i : Int) (h0 : 0 ≤ i) (h1 : i < n) : ∃ ad , A = some ad ∧ w.cell? (ad.add (i.toNat * 3)) = some (.string (rd_T57 xs i).f0) ∧ w.cell? ⟨(ad.add (i.toNat * 3)).block, (ad.add (i.toNat * 3)).off + 1, none⟩ = some (.string (rd_T57 xs i).f1) ∧ w.cell? ⟨(ad.add (i.toNat * 3)).block, (ad.add (i.toNat * 3)).off + 2, none⟩ = some (.string (rd_T57 xs i).f2) := by
 obtain ⟨ad, c, e, _, hK, hc0⟩ := Kd.C_get h z57 i h0 h1
 have hc : ∀ j u, c[j]? = some u → w.cell? (ad.add (i.toNat * 3 + j)) = some u := hc0
 obtain rfl := k57_open hK
 exact ⟨ad, e, hc 0 _ rfl, by rw [← add_field _ _ 1 (by omega)]; exact hc 1 _ rfl, by rw [← add_field _ _ 2 (by omega)]; exact hc 2 _ rfl⟩
structure S91 where
 f0 : Int
 f1 : Int
 f2 : ByteArray
def z91 : S91 := ⟨(0 : Int), (0 : Int), (⟨#[]⟩ : ByteArray)⟩
def k91 : Kd S91 := Kd.iso (Kd.pair (Kd.int .i64) (Kd.pair (Kd.int .i64) Kd.string)) (fun x : S91 => (x.f0, x.f1, x.f2))
theorem k91_open {w : World} {x : S91} {cs : List Value} (h : k91.K w x cs) : cs = [.int .i64 x.f0, .int .i64 x.f1, .string x.f2] := by
 obtain ⟨_, _, rfl, rfl, ⟨_, _, rfl, rfl, rfl⟩⟩ := h
 exact rfl
def rd_T91 (xs : List S91) (i : Int) : S91 := xs.getD i.toNat z91
theorem at_T91 {w : World} {A : Option Addr} {n : Nat} {xs : List S91} (h : Kd.C k91 w A n xs) (i : Int) (h0 : 0 ≤ i) (h1 : i < n) : ∃ ad , A = some ad ∧ w.cell? (ad.add (i.toNat * 3)) = some (.int .i64 (rd_T91 xs i).f0) ∧ w.cell? ⟨(ad.add (i.toNat * 3)).block, (ad.add (i.toNat * 3)).off + 1, none⟩ = some (.int .i64 (rd_T91 xs i).f1) ∧ w.cell? ⟨(ad.add (i.toNat * 3)).block, (ad.add (i.toNat * 3)).off + 2, none⟩ = some (.string (rd_T91 xs i).f2) := by
 obtain ⟨ad, c, e, _, hK, hc0⟩ := Kd.C_get h z91 i h0 h1
 have hc : ∀ j u, c[j]? = some u → w.cell? (ad.add (i.toNat * 3 + j)) = some u := hc0
 obtain rfl := k91_open hK
 exact ⟨ad, e, hc 0 _ rfl, by rw [← add_field _ _ 1 (by omega)]; exact hc 1 _ rfl, by rw [← add_field _ _ 2 (by omega)]; exact hc 2 _ rfl⟩
structure S61 where
 f0 : ByteArray
 f1 : ByteArray
 f2 : ByteArray
def z61 : S61 := ⟨(⟨#[]⟩ : ByteArray), (⟨#[]⟩ : ByteArray), (⟨#[]⟩ : ByteArray)⟩
def k61 : Kd S61 := Kd.iso (Kd.pair Kd.string (Kd.pair Kd.string Kd.string)) (fun x : S61 => (x.f0, x.f1, x.f2))
theorem k61_open {w : World} {x : S61} {cs : List Value} (h : k61.K w x cs) : cs = [.string x.f0, .string x.f1, .string x.f2] := by
 obtain ⟨_, _, rfl, rfl, ⟨_, _, rfl, rfl, rfl⟩⟩ := h
 exact rfl
theorem k61_openM {w : World} {base : Nat} {ok : Nat → Prop} {x : S61} {cs : List Value} (h : k61.M w base ok x cs) : cs = [.string x.f0, .string x.f1, .string x.f2] := by
 obtain ⟨_, _, rfl, rfl, ⟨_, _, rfl, rfl, rfl⟩⟩ := h
 exact rfl
theorem k61_mkM (w : World) (base : Nat) (ok : Nat → Prop) (x : S61)  : k61.M w base ok x [.string x.f0, .string x.f1, .string x.f2] := ⟨[.string x.f0], [.string x.f1, .string x.f2], rfl, rfl, ⟨[.string x.f1], [.string x.f2], rfl, rfl, rfl⟩⟩
def rd_T61 (xs : List S61) (i : Int) : S61 := xs.getD i.toNat z61
theorem at_T61 {w : World} {A : Option Addr} {n : Nat} {xs : List S61} (h : Kd.C k61 w A n xs) (i : Int) (h0 : 0 ≤ i) (h1 : i < n) : ∃ ad , A = some ad ∧ w.cell? (ad.add (i.toNat * 3)) = some (.string (rd_T61 xs i).f0) ∧ w.cell? ⟨(ad.add (i.toNat * 3)).block, (ad.add (i.toNat * 3)).off + 1, none⟩ = some (.string (rd_T61 xs i).f1) ∧ w.cell? ⟨(ad.add (i.toNat * 3)).block, (ad.add (i.toNat * 3)).off + 2, none⟩ = some (.string (rd_T61 xs i).f2) := by
 obtain ⟨ad, c, e, _, hK, hc0⟩ := Kd.C_get h z61 i h0 h1
 have hc : ∀ j u, c[j]? = some u → w.cell? (ad.add (i.toNat * 3 + j)) = some u := hc0
 obtain rfl := k61_open hK
 exact ⟨ad, e, hc 0 _ rfl, by rw [← add_field _ _ 1 (by omega)]; exact hc 1 _ rfl, by rw [← add_field _ _ 2 (by omega)]; exact hc 2 _ rfl⟩
structure S72 where
 f0 : Int
 f1 : Int
 f2 : ByteArray
def z72 : S72 := ⟨(0 : Int), (0 : Int), (⟨#[]⟩ : ByteArray)⟩
def k72 : Kd S72 := Kd.iso (Kd.pair (Kd.int .i64) (Kd.pair (Kd.int .i64) Kd.string)) (fun x : S72 => (x.f0, x.f1, x.f2))
theorem k72_open {w : World} {x : S72} {cs : List Value} (h : k72.K w x cs) : cs = [.int .i64 x.f0, .int .i64 x.f1, .string x.f2] := by
 obtain ⟨_, _, rfl, rfl, ⟨_, _, rfl, rfl, rfl⟩⟩ := h
 exact rfl
theorem k72_openM {w : World} {base : Nat} {ok : Nat → Prop} {x : S72} {cs : List Value} (h : k72.M w base ok x cs) : cs = [.int .i64 x.f0, .int .i64 x.f1, .string x.f2] := by
 obtain ⟨_, _, rfl, rfl, ⟨_, _, rfl, rfl, rfl⟩⟩ := h
 exact rfl
theorem k72_mkM (w : World) (base : Nat) (ok : Nat → Prop) (x : S72)  : k72.M w base ok x [.int .i64 x.f0, .int .i64 x.f1, .string x.f2] := ⟨[.int .i64 x.f0], [.int .i64 x.f1, .string x.f2], rfl, rfl, ⟨[.int .i64 x.f1], [.string x.f2], rfl, rfl, rfl⟩⟩
def rd_T72 (xs : List S72) (i : Int) : S72 := xs.getD i.toNat z72
theorem at_T72 {w : World} {A : Option Addr} {n : Nat} {xs : List S72} (h : Kd.C k72 w A n xs) (i : Int) (h0 : 0 ≤ i) (h1 : i < n) : ∃ ad , A = some ad ∧ w.cell? (ad.add (i.toNat * 3)) = some (.int .i64 (rd_T72 xs i).f0) ∧ w.cell? ⟨(ad.add (i.toNat * 3)).block, (ad.add (i.toNat * 3)).off + 1, none⟩ = some (.int .i64 (rd_T72 xs i).f1) ∧ w.cell? ⟨(ad.add (i.toNat * 3)).block, (ad.add (i.toNat * 3)).off + 2, none⟩ = some (.string (rd_T72 xs i).f2) := by
 obtain ⟨ad, c, e, _, hK, hc0⟩ := Kd.C_get h z72 i h0 h1
 have hc : ∀ j u, c[j]? = some u → w.cell? (ad.add (i.toNat * 3 + j)) = some u := hc0
 obtain rfl := k72_open hK
 exact ⟨ad, e, hc 0 _ rfl, by rw [← add_field _ _ 1 (by omega)]; exact hc 1 _ rfl, by rw [← add_field _ _ 2 (by omega)]; exact hc 2 _ rfl⟩
structure S25 where
 f0 : ByteArray
 f1 : (List S57)
 f2 : (List S91)
 f3 : ByteArray
 f4 : ByteArray
def k25 : Kd S25 := Kd.iso (Kd.pair Kd.string (Kd.pair (Kd.slice 57 k57) (Kd.pair (Kd.slice 91 k91) (Kd.pair Kd.string Kd.string)))) (fun x : S25 => (x.f0, x.f1, x.f2, x.f3, x.f4))
def B57 (x : S57) : Prop := (fun a_ : ByteArray => a_.size ≤ 140737488351232) x.f0 ∧ (fun a_ : ByteArray => a_.size ≤ 140737488351232) x.f1 ∧ (fun a_ : ByteArray => a_.size ≤ 140737488351232) x.f2
def B91 (x : S91) : Prop := (fun a_ : Int => (Lit.int .i64 a_).wf = true) x.f0 ∧ (fun a_ : Int => (Lit.int .i64 a_).wf = true) x.f1 ∧ (fun a_ : ByteArray => a_.size ≤ 140737488351232) x.f2
def B25 (x : S25) : Prop := (fun a_ : ByteArray => a_.size ≤ 140737488351232) x.f0 ∧ (fun l_ : List (S57) => l_.length * 48 ≤ 140737488351232 ∧ l_.length ≤ maxLen ∧ ∀ a_ ∈ l_, B57 a_) x.f1 ∧ (fun l_ : List (S91) => l_.length * 32 ≤ 140737488351232 ∧ l_.length ≤ maxLen ∧ ∀ a_ ∈ l_, B91 a_) x.f2 ∧ (fun a_ : ByteArray => a_.size ≤ 140737488351232) x.f3 ∧ (fun a_ : ByteArray => a_.size ≤ 140737488351232) x.f4
abbrev bN := @blk_drewN
abbrev bD := @blk_drew
abbrev bA := @blk_alloc
abbrev lA := @below_alloc
abbrev lN := @pw_below_drewN
abbrev lD := @below_drew1
abbrev aM := @Aside0.mk
abbrev bC := @blk_cell
abbrev bF := @blk_frozen
abbrev lS := @below_set
abbrev lZ := @below_size
abbrev lT := @below_step
abbrev rN := @Kd.R_drewN
abbrev rA := @Kd.R_alloc
abbrev rD := @Kd.R_drew
abbrev cA := @Kd.C_alloc
abbrev cN := @Kd.C_drewN
abbrev cD := @Kd.C_drew
abbrev rF := @Kd.R_far
abbrev rR := @Kd.R_reads'
abbrev rB := @Kd.R_below
abbrev cB := @Kd.C_below
abbrev bW := @blk_below
abbrev wB := @World.block_lt_of_cell?
abbrev lI := @List.setIfInBounds_toArray
abbrev sZ := @List.set_cons_zero
abbrev sS := @List.set_cons_succ
abbrev oD := @of_decide_eq_true
abbrev dT := @decide_eq_true
abbrev dF := @decide_eq_false
abbrev eS := @Option.some.injEq
abbrev eP := @Prod.mk.injEq
abbrev mT := @List.map_toArray
abbrev mC := @List.map_cons
abbrev mN := @List.map_nil
abbrev xD := @List.length_drop
abbrev xT := @List.length_take
theorem z3_ {w : World} {g : Nat} {v0 v1 v2 : Value} {t : TypeId} (h : w.heap[g]? = some (.cells #[v0, v1, v2] t (0, 0))) : w.cell? ⟨g, 0, none⟩ = some v0 ∧ w.cell? ⟨g, 1, none⟩ = some v1 ∧ w.cell? ⟨g, 2, none⟩ = some v2 ∧ w.frozen? ⟨g, 0, none⟩ = false ∧ w.frozen? ⟨g, 1, none⟩ = false ∧ w.frozen? ⟨g, 2, none⟩ = false := ⟨(blk_cell h 0).trans rfl, (blk_cell h 1).trans rfl, (blk_cell h 2).trans rfl, blk_frozen h 0, blk_frozen h 1, blk_frozen h 2⟩
theorem z5_ {w : World} {g : Nat} {v0 v1 v2 v3 v4 : Value} {t : TypeId} (h : w.heap[g]? = some (.cells #[v0, v1, v2, v3, v4] t (0, 0))) : w.cell? ⟨g, 0, none⟩ = some v0 ∧ w.cell? ⟨g, 1, none⟩ = some v1 ∧ w.cell? ⟨g, 2, none⟩ = some v2 ∧ w.cell? ⟨g, 3, none⟩ = some v3 ∧ w.cell? ⟨g, 4, none⟩ = some v4 ∧ w.frozen? ⟨g, 0, none⟩ = false ∧ w.frozen? ⟨g, 1, none⟩ = false ∧ w.frozen? ⟨g, 2, none⟩ = false ∧ w.frozen? ⟨g, 3, none⟩ = false ∧ w.frozen? ⟨g, 4, none⟩ = false := ⟨(blk_cell h 0).trans rfl, (blk_cell h 1).trans rfl, (blk_cell h 2).trans rfl, (blk_cell h 3).trans rfl, (blk_cell h 4).trans rfl, blk_frozen h 0, blk_frozen h 1, blk_frozen h 2, blk_frozen h 3, blk_frozen h 4⟩
def mk_ (n b : Nat) : Array Bool := ((List.range n).map b.testBit).toArray
theorem bE_ {α β : Type} {x : Option α} {f : α → Option β} {r : β} (h : x.bind f = some r) : ∃ t, Aside0 (x = some t) ∧ f t = some r := by
 obtain ⟨t, h1, h2⟩ := Option.bind_eq_some_iff.mp h
 exact ⟨t, ⟨h1⟩, h2⟩
theorem bk_ {p q : Prop} (x : q) (h : q → p := by (intro x_;(with_reducible repeat (first|refine bN ?_ _|refine bD ?_|refine bA ?_ _));exact x_)) : p := h x
theorem ho_ {p q : Prop} (x : q) (h : q → p := by (intro x_;(with_reducible repeat (first|apply rA|apply rN|apply rD));exact x_)) : p := h x
theorem hb_ {p : Prop} (h : p := by repeat (first|(with_reducible first|exact HB.out|apply lA|apply lN|apply lD|refine lS ?_ (Aside0.out (by assumption)))|exact HB.out)) : p := h
end Go.Proofs.Ytmkkcpdpfelalaa.P
