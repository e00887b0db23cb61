/- Written by a program in this session: each theorem here says that a Go function computes the Lean function beside it, or that a law's row holds, under the conditions that the theorem itself states. -/
import Derived.Test.YtmkkcpdpfelalaaGreatDoorProg
import Derived.Below
import Derived.Deep.Draws
import Derived.Deep.AppendLies
import Derived.Maps.AppendAt
import Derived.OwnWalk
import Derived.Laws.BytesArg
import Derived.Laws.MakeOwn
import Derived.Laws.OwnMore
import Derived.Deep.OwnRows
import Derived.Tactics
import Derived.Lib.ConvBytes
import Derived.Laws.Slices
import Derived.WalkKit
import Derived.KernelRfl
import Derived.RowKit3
import Derived.Deep.LoopGhost
import Derived.Deep.QuietTactic
import Derived.BigQuiet
import Derived.WideLaws
import Derived.Deep.DeepCutAuto
import Derived.Deep.CutBlock
import Derived.Deep.RegionHeld3
import Derived.Laws.Rows
import Derived.Lib.AppendStr
import Derived.ArgAppend
import Derived.Laws.IdiomCopy
import Derived.OrdersHeld
import Derived.Laws.BitsLemmas
import Derived.RowKit
import Derived.Test.YtmkkcpdpfelalaaGreatDoorZWWords
import Derived.Test.YtmkkcpdpfelalaaGreatDoorZWLast
import Derived.Test.YtmkkcpdpfelalaaGreatDoorZWTab
import Derived.Test.YtmkkcpdpfelalaaGreatDoorZWApart
import Derived.Test.YtmkkcpdpfelalaaGreatDoorZWFoot
import Derived.Test.YtmkkcpdpfelalaaGreatDoorZWKept
import Derived.Test.YtmkkcpdpfelalaaGreatDoorZWShare
import Derived.Test.YtmkkcpdpfelalaaGreatDoorZWN
import Derived.Laws.StructEq
import Derived.Test.YtmkkcpdpfelalaaGreatDoorZWRepsOne
import Derived.Test.YtmkkcpdpfelalaaGreatDoorZWInv
import Derived.Test.YtmkkcpdpfelalaaGreatDoorZWGuard
import Derived.Test.YtmkkcpdpfelalaaGreatDoorZWMore
import Derived.Lib.ItoaNum
import Derived.Lib.LaidTab
namespace Go.Proofs.YtmkkcpdpfelalaaGreatDoor.P
open Go.RowKit Go.Proofs.YtmkkcpdpfelalaaGreatDoorW.PrintWords Go.Proofs.YtmkkcpdpfelalaaGreatDoorW.PrintLast Go.Proofs.YtmkkcpdpfelalaaGreatDoorW.PrintMore
attribute [local go_sem] max2_int min2_int max_two min_two max_three min_three max_four min_four   -- for this text's walks alone
set_option linter.unusedVariables false
set_option linter.unusedSimpArgs false
def errW : Option Int → Value
 | none => .nilIface
 | some c => .iface 0 (.int .i64 c)
theorem errW_none : errW none = .nilIface := rfl
theorem errW_some (c : Int) : errW (some c) = .iface 0 (.int .i64 c) := rfl
theorem my_isEmpty (l : List UInt8) : (l != []) = !l.isEmpty := by cases l <;> rfl
theorem geqStr (P : Program) (t : TypeId) (a b : ByteArray) (w : World) : Sem.run P (binOp BinOp.geq t (Value.string a) (Value.string b)) w = .ok (.bool (!Op.bytesLess a.toList b.toList)) w := rfl
structure BRow (w W : World) (g : Nat) (xs : List Int) : Prop where
 below : Below w.heap.size w W
 new : w.heap.size ≤ g
 cell : ∀ j, j < xs.length → W.cell? ⟨g, j, none⟩ = some (.int .u8 (xs.getD j 0))
 free : ∀ j, j < xs.length → W.frozen? ⟨g, j, none⟩ = false
theorem BRow.made (w : World) (e : TypeId) (s : ByteArray) : BRow w (Lib.bytesWorld w e s) w.heap.size (bytesOf s) := by
 have hs : s.size ≤ (Lib.bytesCells w e s).size := by
  unfold Lib.bytesCells
  rw [Array.size_append, Array.size_map]
  exact Nat.le_add_right _ _
 have hn := Lib.bytesWorld_at_new w e s
 refine ⟨⟨?_, ?_, ?_, by rw [Lib.bytesWorld_size]; omega, fun j hj => Lib.bytesWorld_at_old w e s j hj⟩, Nat.le_refl _, fun j hj => ?_, fun j hj => ?_⟩
 ·simp [Lib.bytesWorld, World.freeze, World.alloc, World.drew, -World.alloc_eq, -World.drew_eq]
 ·simp [Lib.bytesWorld, World.freeze, World.alloc, World.drew, -World.alloc_eq, -World.drew_eq]
 ·simp [Lib.bytesWorld, World.freeze, World.alloc, World.drew, -World.alloc_eq, -World.drew_eq]
 ·rw [bytesOf_length] at hj
  have hj' : j < s.data.toList.length := by rw [data_length]; exact hj
  rw [Lib.bytesWorld_cell w e s j hj]
  simp [bytesOf, List.getD_eq_getElem?_getD, List.getElem?_eq_getElem hj']
 ·rw [bytesOf_length] at hj
  unfold World.frozen?
  rw [hn]
  have : ¬ (Lib.bytesCells w e s).size ≤ j := by omega
  simp [this]
theorem BRow.set {w W : World} {g : Nat} {xs : List Int} (h : BRow w W g xs) (i : Nat) (x : Int) : BRow w (W.setCell ⟨g, i, none⟩ (.int .u8 x)) g (xs.set i x) := by
 refine ⟨h.below.setCell h.new _, h.new, fun j hj => ?_, fun j hj => ?_⟩
 ·rw [List.length_set] at hj
  by_cases e : i = j
  ·subst e
   rw [World.cell?_setCell_same _ _ _ (h.cell i hj)]
   simp [List.getD_eq_getElem?_getD, List.getElem?_set, hj]
  ·rw [World.cell?_setCell_other _ _ _ _ (by simp [e]), h.cell j hj]
   simp [List.getD_eq_getElem?_getD, List.getElem?_set, e]
 ·rw [List.length_set] at hj
  rw [World.frozen?_setCell, h.free j hj]
theorem BRow.drewN {w W : World} {g : Nat} {xs : List Int} (h : BRow w W g xs) (n : Nat) : BRow w (W.drewN n) g xs :=
 ⟨pw_below_drewN h.below n, h.new, h.cell, h.free⟩
theorem BRow.text {P : Program} {w W : World} {g : Nat} {xs : List Int} (h : BRow w W g xs) (src e dst : TypeId) (hs : P.underlying src = some (.slice e)) (he : P.underlying e = some (.int .u8)) (hd : P.underlying dst = some .string) (n cap : Nat) (hn : xs.length = n) :
  (convert src dst (.slice (some ⟨g, 0, none⟩) n cap)).run P W = .ok (.string (strOfNums xs)) W :=
 run_convert_bytes_arg W src e hs he g 0 n cap xs hn (fun i hi => by rw [Nat.zero_add]; exact h.cell i (by omega)) dst hd
structure Gw (w : World) : Prop where
 tab : Lib.TabIs Tryz.prog w "internal/strconv.uint64pow10" .u64 Lib.pow10Tab
structure Gm (w : World) : Prop where
 max : ∃ m : Int, w.cell? ⟨0, 0, none⟩ = some (.int .i64 m)
structure Gb (w : World) : Prop where
 tab : Lib.TabIs Tryz.prog w "internal/strconv.uint64pow10" .u64 Lib.pow10Tab
 max : ∃ m : Int, w.cell? ⟨0, 0, none⟩ = some (.int .i64 m)
structure Ge (w : World) : Prop where
 tab : Lib.TabIs Tryz.prog w "internal/strconv.uint64pow10" .u64 Lib.pow10Tab
 syn : ∃ ev : Value, w.var? Tryz.prog "strconv.ErrSyntax" = some #[ev] ∧ (ev = .nilIface ∨ ∃ te pe, ev = .iface te pe)
theorem var_below {P : Program} {w W : World} (hb : Below w.heap.size w W) {n : String} {cs : Array Value} (h : w.var? P n = some cs) : W.var? P n = some cs := by
 unfold World.var? at h ⊢
 cases hg : P.globalNamed n with
 | none => simp [hg] at h
 | some g =>
  simp only [hg, Option.bind_some] at h ⊢
  have hlt : g < w.heap.size := by
   rcases Nat.lt_or_ge g w.heap.size with h' | h'
   ·exact h'
   ·simp [Array.getElem?_eq_none h'] at h
  rw [hb.block g hlt]
  exact h
theorem max_below {w W : World} (hb : Below w.heap.size w W) (h : ∃ m : Int, w.cell? ⟨0, 0, none⟩ = some (.int .i64 m)) : ∃ m : Int, W.cell? ⟨0, 0, none⟩ = some (.int .i64 m) := by
 obtain ⟨m, h⟩ := h
 exact ⟨m, (hb.cell (p := ⟨0, 0, none⟩) (World.block_lt_of_cell? w ⟨0, 0, none⟩ h)).trans h⟩
theorem Gw.below {w W : World} (h : Gw w) (hb : Below w.heap.size w W) : Gw W := ⟨var_below hb h.tab⟩
theorem Gw.drewN {w : World} (h : Gw w) (n : Nat) : Gw (w.drewN n) := ⟨var_below (pw_below_drewN (Below.refl _ _) n) h.tab⟩
theorem Gm.below {w W : World} (h : Gm w) (hb : Below w.heap.size w W) : Gm W := ⟨max_below hb h.max⟩
theorem Gm.drewN {w : World} (h : Gm w) (n : Nat) : Gm (w.drewN n) := ⟨max_below (pw_below_drewN (Below.refl _ _) n) h.max⟩
theorem Gb.below {w W : World} (h : Gb w) (hb : Below w.heap.size w W) : Gb W := ⟨var_below hb h.tab, max_below hb h.max⟩
theorem Gb.drewN {w : World} (h : Gb w) (n : Nat) : Gb (w.drewN n) := ⟨var_below (pw_below_drewN (Below.refl _ _) n) h.tab, max_below (pw_below_drewN (Below.refl _ _) n) h.max⟩
theorem Gb.toGw {w : World} (h : Gb w) : Gw w := ⟨h.tab⟩
theorem Ge.below {w W : World} (h : Ge w) (hb : Below w.heap.size w W) : Ge W := ⟨var_below hb h.tab, h.syn.imp fun _ ⟨h1, h2⟩ => ⟨var_below hb h1, h2⟩⟩
theorem Ge.drewN {w : World} (h : Ge w) (n : Nat) : Ge (w.drewN n) := h.below (pw_below_drewN (Below.refl _ _) n)
theorem Ge.toGw {w : World} (h : Ge w) : Gw w := ⟨h.tab⟩
theorem info3 : (Tryz.prog.info? 3).map (fun i => (i.zero, i.size, i.bytes)) = some (some (.int .i64 0), 1, 8) := by kernel_rfl
theorem info5 : (Tryz.prog.info? 5).map (fun i => (i.zero, i.size, i.bytes)) = some (some (.int .u8 0), 1, 1) := by kernel_rfl
theorem info9 : (Tryz.prog.info? 9).map (fun i => (i.zero, i.size, i.bytes)) = some (some (.string ⟨#[]⟩), 1, 16) := by kernel_rfl
theorem info65 : (Tryz.prog.info? 65).map (fun i => (i.zero, i.size, i.bytes)) = some (some (.agg #[(.string ⟨#[]⟩), (.string ⟨#[]⟩), (.string ⟨#[]⟩)]), 3, 48) := by kernel_rfl
theorem info67 : (Tryz.prog.info? 67).map (fun i => (i.zero, i.size, i.bytes)) = some (some (.agg #[(.int .i64 0), (.int .i64 0), (.string ⟨#[]⟩)]), 3, 32) := by kernel_rfl
structure S65 where
 f0 : ByteArray
 f1 : ByteArray
 f2 : ByteArray
def z65 : S65 := ⟨(⟨#[]⟩ : ByteArray), (⟨#[]⟩ : ByteArray), (⟨#[]⟩ : ByteArray)⟩
def k65 : Kd S65 := Kd.iso (Kd.pair Kd.string (Kd.pair Kd.string Kd.string)) (fun x : S65 => (x.f0, x.f1, x.f2))
theorem k65_open {w : World} {x : S65} {cs : List Value} (h : k65.K w x cs) : cs = [.string x.f0, .string x.f1, .string x.f2] := by
 obtain ⟨_, _, rfl, rfl, ⟨_, _, rfl, rfl, rfl⟩⟩ := h
 exact rfl
theorem k65_mkM (w : World) (base : Nat) (ok : Nat → Prop) (x : S65)  : k65.M w base ok x [.string x.f0, .string x.f1, .string x.f2] := ⟨[.string x.f0], [.string x.f1, .string x.f2], rfl, rfl, ⟨[.string x.f1], [.string x.f2], rfl, rfl, rfl⟩⟩
def rd_T65 (xs : List S65) (i : Int) : S65 := xs.getD i.toNat z65
theorem at_T65 {w : World} {A : Option Addr} {n : Nat} {xs : List S65} (h : Kd.C k65 w A n xs) (i : Int) (h0 : 0 ≤ i) (h1 : i < n) : ∃ ad , A = some ad ∧ w.cell? (ad.add (i.toNat * 3)) = some (.string (rd_T65 xs i).f0) ∧ w.cell? ⟨(ad.add (i.toNat * 3)).block, (ad.add (i.toNat * 3)).off + 1, none⟩ = some (.string (rd_T65 xs i).f1) ∧ w.cell? ⟨(ad.add (i.toNat * 3)).block, (ad.add (i.toNat * 3)).off + 2, none⟩ = some (.string (rd_T65 xs i).f2) := by
 obtain ⟨ad, c, e, _, hK, hc0⟩ := Kd.C_get h z65 i h0 h1
 have hc : ∀ j u, c[j]? = some u → w.cell? (ad.add (i.toNat * 3 + j)) = some u := hc0
 obtain rfl := k65_open hK
 exact ⟨ad, e, hc 0 _ rfl, by rw [← add_field _ _ 1 (by omega)]; exact hc 1 _ rfl, by rw [← add_field _ _ 2 (by omega)]; exact hc 2 _ rfl⟩
structure S67 where
 f0 : Int
 f1 : Int
 f2 : ByteArray
def z67 : S67 := ⟨(0 : Int), (0 : Int), (⟨#[]⟩ : ByteArray)⟩
def k67 : Kd S67 := Kd.iso (Kd.pair (Kd.int .i64) (Kd.pair (Kd.int .i64) Kd.string)) (fun x : S67 => (x.f0, x.f1, x.f2))
theorem k67_open {w : World} {x : S67} {cs : List Value} (h : k67.K w x cs) : cs = [.int .i64 x.f0, .int .i64 x.f1, .string x.f2] := by
 obtain ⟨_, _, rfl, rfl, ⟨_, _, rfl, rfl, rfl⟩⟩ := h
 exact rfl
theorem k67_mkM (w : World) (base : Nat) (ok : Nat → Prop) (x : S67)  : k67.M w base ok x [.int .i64 x.f0, .int .i64 x.f1, .string x.f2] := ⟨[.int .i64 x.f0], [.int .i64 x.f1, .string x.f2], rfl, rfl, ⟨[.int .i64 x.f1], [.string x.f2], rfl, rfl, rfl⟩⟩
def rd_T67 (xs : List S67) (i : Int) : S67 := xs.getD i.toNat z67
theorem at_T67 {w : World} {A : Option Addr} {n : Nat} {xs : List S67} (h : Kd.C k67 w A n xs) (i : Int) (h0 : 0 ≤ i) (h1 : i < n) : ∃ ad , A = some ad ∧ w.cell? (ad.add (i.toNat * 3)) = some (.int .i64 (rd_T67 xs i).f0) ∧ w.cell? ⟨(ad.add (i.toNat * 3)).block, (ad.add (i.toNat * 3)).off + 1, none⟩ = some (.int .i64 (rd_T67 xs i).f1) ∧ w.cell? ⟨(ad.add (i.toNat * 3)).block, (ad.add (i.toNat * 3)).off + 2, none⟩ = some (.string (rd_T67 xs i).f2) := by
 obtain ⟨ad, c, e, _, hK, hc0⟩ := Kd.C_get h z67 i h0 h1
 have hc : ∀ j u, c[j]? = some u → w.cell? (ad.add (i.toNat * 3 + j)) = some u := hc0
 obtain rfl := k67_open hK
 exact ⟨ad, e, hc 0 _ rfl, by rw [← add_field _ _ 1 (by omega)]; exact hc 1 _ rfl, by rw [← add_field _ _ 2 (by omega)]; exact hc 2 _ rfl⟩
abbrev bN := @blk_drewN
abbrev bD := @blk_drew
abbrev bA := @blk_alloc
abbrev lA := @below_alloc
abbrev lN := @pw_below_drewN
abbrev lD := @below_drew1
abbrev aM := @Aside0.mk
abbrev bC := @blk_cell
abbrev bF := @blk_frozen
abbrev lS := @below_set
abbrev lZ := @below_size
abbrev lT := @below_step
abbrev rN := @Kd.R_drewN
abbrev rA := @Kd.R_alloc
abbrev rD := @Kd.R_drew
abbrev cA := @Kd.C_alloc
abbrev cN := @Kd.C_drewN
abbrev cD := @Kd.C_drew
abbrev rF := @Kd.R_far
abbrev rR := @Kd.R_reads'
abbrev rB := @Kd.R_below
abbrev cB := @Kd.C_below
abbrev bW := @blk_below
abbrev wB := @World.block_lt_of_cell?
abbrev lI := @List.setIfInBounds_toArray
abbrev sZ := @List.set_cons_zero
abbrev sS := @List.set_cons_succ
abbrev oD := @of_decide_eq_true
abbrev dT := @decide_eq_true
abbrev dF := @decide_eq_false
abbrev eS := @Option.some.injEq
abbrev eP := @Prod.mk.injEq
abbrev mT := @List.map_toArray
abbrev mC := @List.map_cons
abbrev mN := @List.map_nil
abbrev xD := @List.length_drop
abbrev xT := @List.length_take
theorem z3_ {w : World} {g : Nat} {v0 v1 v2 : Value} {t : TypeId} (h : w.heap[g]? = some (.cells #[v0, v1, v2] t (0, 0))) : w.cell? ⟨g, 0, none⟩ = some v0 ∧ w.cell? ⟨g, 1, none⟩ = some v1 ∧ w.cell? ⟨g, 2, none⟩ = some v2 ∧ w.frozen? ⟨g, 0, none⟩ = false ∧ w.frozen? ⟨g, 1, none⟩ = false ∧ w.frozen? ⟨g, 2, none⟩ = false := ⟨(blk_cell h 0).trans rfl, (blk_cell h 1).trans rfl, (blk_cell h 2).trans rfl, blk_frozen h 0, blk_frozen h 1, blk_frozen h 2⟩
theorem z5_ {w : World} {g : Nat} {v0 v1 v2 v3 v4 : Value} {t : TypeId} (h : w.heap[g]? = some (.cells #[v0, v1, v2, v3, v4] t (0, 0))) : w.cell? ⟨g, 0, none⟩ = some v0 ∧ w.cell? ⟨g, 1, none⟩ = some v1 ∧ w.cell? ⟨g, 2, none⟩ = some v2 ∧ w.cell? ⟨g, 3, none⟩ = some v3 ∧ w.cell? ⟨g, 4, none⟩ = some v4 ∧ w.frozen? ⟨g, 0, none⟩ = false ∧ w.frozen? ⟨g, 1, none⟩ = false ∧ w.frozen? ⟨g, 2, none⟩ = false ∧ w.frozen? ⟨g, 3, none⟩ = false ∧ w.frozen? ⟨g, 4, none⟩ = false := ⟨(blk_cell h 0).trans rfl, (blk_cell h 1).trans rfl, (blk_cell h 2).trans rfl, (blk_cell h 3).trans rfl, (blk_cell h 4).trans rfl, blk_frozen h 0, blk_frozen h 1, blk_frozen h 2, blk_frozen h 3, blk_frozen h 4⟩
def mk_ (n b : Nat) : Array Bool := ((List.range n).map b.testBit).toArray
theorem bE_ {α β : Type} {x : Option α} {f : α → Option β} {r : β} (h : x.bind f = some r) : ∃ t, Aside0 (x = some t) ∧ f t = some r := by
 obtain ⟨t, h1, h2⟩ := Option.bind_eq_some_iff.mp h
 exact ⟨t, ⟨h1⟩, h2⟩
theorem bk_ {p q : Prop} (x : q) (h : q → p := by (intro x_;(with_reducible repeat (first|refine bN ?_ _|refine bD ?_|refine bA ?_ _));exact x_)) : p := h x
theorem ho_ {p q : Prop} (x : q) (h : q → p := by (intro x_;(with_reducible repeat (first|apply rA|apply rN|apply rD));exact x_)) : p := h x
theorem hb_ {p : Prop} (h : p := by repeat (first|(with_reducible first|exact HB.out|apply lA|apply lN|apply lD|refine lS ?_ (Aside0.out (by assumption)))|exact HB.out)) : p := h
theorem hk_ {p : Prop} (h : p := by repeat (first|(with_reducible first|exact HK.out|apply KeepBut.set_|apply keep_drewN|apply keep_drew|apply keep_alloc|refine keep_far ?_ (Aside0.out (show Aside0 (w.heap.size ≤ _) from by assumption)) _)|exact HK.out)) : p := h
end Go.Proofs.YtmkkcpdpfelalaaGreatDoor.P
