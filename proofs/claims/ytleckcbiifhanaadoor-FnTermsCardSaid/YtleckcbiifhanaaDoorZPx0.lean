/- Written by a program in this session: each theorem here says that a Go function computes the Lean function beside it, or that a law's row holds, under the conditions that the theorem itself states. -/
import Derived.Test.YtleckcbiifhanaaDoorProg
import Derived.Below
import Derived.Deep.Draws
import Derived.Deep.AppendLies
import Derived.Maps.AppendAt
import Derived.OwnWalk
import Derived.Laws.BytesArg
import Derived.Laws.MakeOwn
import Derived.Laws.OwnMore
import Derived.Deep.OwnRows
import Derived.Tactics
import Derived.Lib.ConvBytes
import Derived.Laws.Slices
import Derived.WalkKit
import Derived.KernelRfl
import Derived.RowKit3
import Derived.Deep.LoopGhost
import Derived.Deep.QuietTactic
import Derived.BigQuiet
import Derived.WideLaws
import Derived.Deep.DeepCutAuto
import Derived.Deep.CutBlock
import Derived.Deep.RegionHeld3
import Derived.Laws.Rows
import Derived.Lib.AppendStr
import Derived.ArgAppend
import Derived.Laws.IdiomCopy
import Derived.OrdersHeld
import Derived.Laws.BitsLemmas
import Derived.RowKit
import Derived.Test.YtleckcbiifhanaaDoorZWWords
import Derived.Test.YtleckcbiifhanaaDoorZWLast
import Derived.Test.YtleckcbiifhanaaDoorZWTab
import Derived.Test.YtleckcbiifhanaaDoorZWApart
import Derived.Test.YtleckcbiifhanaaDoorZWFoot
import Derived.Test.YtleckcbiifhanaaDoorZWKept
import Derived.Test.YtleckcbiifhanaaDoorZWShare
import Derived.Test.YtleckcbiifhanaaDoorZWN
import Derived.Laws.StructEq
import Derived.Test.YtleckcbiifhanaaDoorZWRepsOne
import Derived.Test.YtleckcbiifhanaaDoorZWInv
import Derived.Test.YtleckcbiifhanaaDoorZWGuard
import Derived.Test.YtleckcbiifhanaaDoorZWNEv
import Derived.Test.YtleckcbiifhanaaDoorZWMore
import Derived.Lib.ItoaNum
import Derived.Lib.LaidTab
namespace Go.Proofs.YtleckcbiifhanaaDoor.P
open Go.RowKit Go.Proofs.YtleckcbiifhanaaDoorW.PrintWords Go.Proofs.YtleckcbiifhanaaDoorW.PrintLast Go.Proofs.YtleckcbiifhanaaDoorW.PrintMore
attribute [local go_sem] max2_int min2_int max_two min_two max_three min_three max_four min_four   -- for this text's walks alone
set_option linter.unusedVariables false
set_option linter.unusedSimpArgs false
def errW : Option Int → Value
 | none => .nilIface
 | some c => .iface 0 (.int .i64 c)
theorem errW_none : errW none = .nilIface := rfl
theorem errW_some (c : Int) : errW (some c) = .iface 0 (.int .i64 c) := rfl
theorem my_isEmpty (l : List UInt8) : (l != []) = !l.isEmpty := by cases l <;> rfl
theorem geqStr (P : Program) (t : TypeId) (a b : ByteArray) (w : World) : Sem.run P (binOp BinOp.geq t (Value.string a) (Value.string b)) w = .ok (.bool (!Op.bytesLess a.toList b.toList)) w := rfl
structure Gw (w : World) : Prop where
 tab : Lib.TabIs Tryd.prog w "internal/strconv.uint64pow10" .u64 Lib.pow10Tab
theorem var_below {P : Program} {w W : World} (hb : Below w.heap.size w W) {n : String} {cs : Array Value} (h : w.var? P n = some cs) : W.var? P n = some cs := by
 unfold World.var? at h ⊢
 cases hg : P.globalNamed n with
 | none => simp [hg] at h
 | some g =>
  simp only [hg, Option.bind_some] at h ⊢
  have hlt : g < w.heap.size := by
   rcases Nat.lt_or_ge g w.heap.size with h' | h'
   ·exact h'
   ·simp [Array.getElem?_eq_none h'] at h
  rw [hb.block g hlt]
  exact h
theorem Gw.below {w W : World} (h : Gw w) (hb : Below w.heap.size w W) : Gw W := ⟨var_below hb h.tab⟩
theorem info3 : (Tryd.prog.info? 3).map (fun i => (i.zero, i.size, i.bytes)) = some (some (.int .i64 0), 1, 8) := by kernel_rfl
theorem info9 : (Tryd.prog.info? 9).map (fun i => (i.zero, i.size, i.bytes)) = some (some (.string ⟨#[]⟩), 1, 16) := by kernel_rfl
theorem info27 : (Tryd.prog.info? 27).map (fun i => (i.zero, i.size, i.bytes)) = some (some (.agg #[(.string ⟨#[]⟩), (.slice none 0 0), (.slice none 0 0), (.string ⟨#[]⟩), (.string ⟨#[]⟩)]), 5, 96) := by kernel_rfl
theorem info29 : (Tryd.prog.info? 29).map (fun i => (i.zero, i.size, i.bytes)) = some (some (.agg #[(.string ⟨#[]⟩), (.string ⟨#[]⟩), (.string ⟨#[]⟩)]), 3, 48) := by kernel_rfl
theorem info66 : (Tryd.prog.info? 66).map (fun i => (i.zero, i.size, i.bytes)) = some (some (.agg #[(.int .i64 0), (.int .i64 0), (.string ⟨#[]⟩)]), 3, 32) := by kernel_rfl
structure S29 where
 f0 : ByteArray
 f1 : ByteArray
 f2 : ByteArray
def z29 : S29 := ⟨(⟨#[]⟩ : ByteArray), (⟨#[]⟩ : ByteArray), (⟨#[]⟩ : ByteArray)⟩
def k29 : Kd S29 := Kd.iso (Kd.pair Kd.string (Kd.pair Kd.string Kd.string)) (fun x : S29 => (x.f0, x.f1, x.f2))
theorem k29_open {w : World} {x : S29} {cs : List Value} (h : k29.K w x cs) : cs = [.string x.f0, .string x.f1, .string x.f2] := by
 obtain ⟨_, _, rfl, rfl, ⟨_, _, rfl, rfl, rfl⟩⟩ := h
 exact rfl
theorem k29_openM {w : World} {base : Nat} {ok : Nat → Prop} {x : S29} {cs : List Value} (h : k29.M w base ok x cs) : cs = [.string x.f0, .string x.f1, .string x.f2] := by
 obtain ⟨_, _, rfl, rfl, ⟨_, _, rfl, rfl, rfl⟩⟩ := h
 exact rfl
theorem k29_mkM (w : World) (base : Nat) (ok : Nat → Prop) (x : S29)  : k29.M w base ok x [.string x.f0, .string x.f1, .string x.f2] := ⟨[.string x.f0], [.string x.f1, .string x.f2], rfl, rfl, ⟨[.string x.f1], [.string x.f2], rfl, rfl, rfl⟩⟩
def rd_T29 (xs : List S29) (i : Int) : S29 := xs.getD i.toNat z29
theorem at_T29 {w : World} {A : Option Addr} {n : Nat} {xs : List S29} (h : Kd.C k29 w A n xs) (i : Int) (h0 : 0 ≤ i) (h1 : i < n) : ∃ ad , A = some ad ∧ w.cell? (ad.add (i.toNat * 3)) = some (.string (rd_T29 xs i).f0) ∧ w.cell? ⟨(ad.add (i.toNat * 3)).block, (ad.add (i.toNat * 3)).off + 1, none⟩ = some (.string (rd_T29 xs i).f1) ∧ w.cell? ⟨(ad.add (i.toNat * 3)).block, (ad.add (i.toNat * 3)).off + 2, none⟩ = some (.string (rd_T29 xs i).f2) := by
 obtain ⟨ad, c, e, _, hK, hc0⟩ := Kd.C_get h z29 i h0 h1
 have hc : ∀ j u, c[j]? = some u → w.cell? (ad.add (i.toNat * 3 + j)) = some u := hc0
 obtain rfl := k29_open hK
 exact ⟨ad, e, hc 0 _ rfl, by rw [← add_field _ _ 1 (by omega)]; exact hc 1 _ rfl, by rw [← add_field _ _ 2 (by omega)]; exact hc 2 _ rfl⟩
structure S66 where
 f0 : Int
 f1 : Int
 f2 : ByteArray
def z66 : S66 := ⟨(0 : Int), (0 : Int), (⟨#[]⟩ : ByteArray)⟩
def k66 : Kd S66 := Kd.iso (Kd.pair (Kd.int .i64) (Kd.pair (Kd.int .i64) Kd.string)) (fun x : S66 => (x.f0, x.f1, x.f2))
theorem k66_open {w : World} {x : S66} {cs : List Value} (h : k66.K w x cs) : cs = [.int .i64 x.f0, .int .i64 x.f1, .string x.f2] := by
 obtain ⟨_, _, rfl, rfl, ⟨_, _, rfl, rfl, rfl⟩⟩ := h
 exact rfl
theorem k66_mkM (w : World) (base : Nat) (ok : Nat → Prop) (x : S66)  : k66.M w base ok x [.int .i64 x.f0, .int .i64 x.f1, .string x.f2] := ⟨[.int .i64 x.f0], [.int .i64 x.f1, .string x.f2], rfl, rfl, ⟨[.int .i64 x.f1], [.string x.f2], rfl, rfl, rfl⟩⟩
def rd_T66 (xs : List S66) (i : Int) : S66 := xs.getD i.toNat z66
theorem at_T66 {w : World} {A : Option Addr} {n : Nat} {xs : List S66} (h : Kd.C k66 w A n xs) (i : Int) (h0 : 0 ≤ i) (h1 : i < n) : ∃ ad , A = some ad ∧ w.cell? (ad.add (i.toNat * 3)) = some (.int .i64 (rd_T66 xs i).f0) ∧ w.cell? ⟨(ad.add (i.toNat * 3)).block, (ad.add (i.toNat * 3)).off + 1, none⟩ = some (.int .i64 (rd_T66 xs i).f1) ∧ w.cell? ⟨(ad.add (i.toNat * 3)).block, (ad.add (i.toNat * 3)).off + 2, none⟩ = some (.string (rd_T66 xs i).f2) := by
 obtain ⟨ad, c, e, _, hK, hc0⟩ := Kd.C_get h z66 i h0 h1
 have hc : ∀ j u, c[j]? = some u → w.cell? (ad.add (i.toNat * 3 + j)) = some u := hc0
 obtain rfl := k66_open hK
 exact ⟨ad, e, hc 0 _ rfl, by rw [← add_field _ _ 1 (by omega)]; exact hc 1 _ rfl, by rw [← add_field _ _ 2 (by omega)]; exact hc 2 _ rfl⟩
structure S27 where
 f0 : ByteArray
 f1 : (List S29)
 f2 : (List S66)
 f3 : ByteArray
 f4 : ByteArray
def z27 : S27 := ⟨(⟨#[]⟩ : ByteArray), ([] : List S29), ([] : List S66), (⟨#[]⟩ : ByteArray), (⟨#[]⟩ : ByteArray)⟩
def k27 : Kd S27 := Kd.iso (Kd.pair Kd.string (Kd.pair (Kd.slice 29 k29) (Kd.pair (Kd.slice 66 k66) (Kd.pair Kd.string Kd.string)))) (fun x : S27 => (x.f0, x.f1, x.f2, x.f3, x.f4))
theorem k27_open {w : World} {x : S27} {cs : List Value} (h : k27.K w x cs) : ∃ A1 c1 A2 c2, cs = [.string x.f0, .slice A1 x.f1.length c1, .slice A2 x.f2.length c2, .string x.f3, .string x.f4] ∧ x.f1.length ≤ c1 ∧ k29.C w A1 x.f1.length x.f1 ∧ x.f2.length ≤ c2 ∧ k66.C w A2 x.f2.length x.f2 := by
 obtain ⟨_, _, rfl, rfl, ⟨_, _, rfl, ⟨A1, c1, rfl, l1, g1⟩, ⟨_, _, rfl, ⟨A2, c2, rfl, l2, g2⟩, ⟨_, _, rfl, rfl, rfl⟩⟩⟩⟩ := h
 exact ⟨A1, c1, A2, c2, rfl, l1, g1, l2, g2⟩
theorem k27_mk (w : World) (x : S27) {A1 : Option Addr} {c1 : Nat} (l1 : x.f1.length ≤ c1) (g1 : k29.C w A1 x.f1.length x.f1) {A2 : Option Addr} {c2 : Nat} (l2 : x.f2.length ≤ c2) (g2 : k66.C w A2 x.f2.length x.f2) : k27.K w x [.string x.f0, .slice A1 x.f1.length c1, .slice A2 x.f2.length c2, .string x.f3, .string x.f4] := ⟨[.string x.f0], [.slice A1 x.f1.length c1, .slice A2 x.f2.length c2, .string x.f3, .string x.f4], rfl, rfl, ⟨[.slice A1 x.f1.length c1], [.slice A2 x.f2.length c2, .string x.f3, .string x.f4], rfl, ⟨A1, c1, rfl, l1, g1⟩, ⟨[.slice A2 x.f2.length c2], [.string x.f3, .string x.f4], rfl, ⟨A2, c2, rfl, l2, g2⟩, ⟨[.string x.f3], [.string x.f4], rfl, rfl, rfl⟩⟩⟩⟩
theorem k27_mkM (w : World) (base : Nat) (ok : Nat → Prop) (x : S27) {v1 : Value} (g1 : k29.R 29 w base ok v1 x.f1) {v2 : Value} (g2 : k66.R 66 w base ok v2 x.f2) : k27.M w base ok x [.string x.f0, v1, v2, .string x.f3, .string x.f4] := ⟨[.string x.f0], [v1, v2, .string x.f3, .string x.f4], rfl, rfl, ⟨[v1], [v2, .string x.f3, .string x.f4], rfl, ⟨v1, rfl, g1⟩, ⟨[v2], [.string x.f3, .string x.f4], rfl, ⟨v2, rfl, g2⟩, ⟨[.string x.f3], [.string x.f4], rfl, rfl, rfl⟩⟩⟩⟩
theorem k27_openF {W : World} {ok : Nat → Prop} {x : S27} {cs : List Value} (h : Kd.FK k27 W ok x cs) : ∃ A1 c1 A2 c2, cs = [.string x.f0, .slice A1 x.f1.length c1, .slice A2 x.f2.length c2, .string x.f3, .string x.f4] ∧ x.f1.length ≤ c1 ∧ Kd.F k29 W ok A1 x.f1.length x.f1 ∧ x.f2.length ≤ c2 ∧ Kd.F k66 W ok A2 x.f2.length x.f2 := by
 obtain ⟨A1, c1, A2, c2, rfl, l1, _, l2, _⟩ := k27_open (Kd.FK_now h)
 exact ⟨A1, c1, A2, c2, rfl, l1, (fun W' hW => by obtain ⟨A1_, c1_, A2_, c2_, he, l1_, g1_, l2_, g2_⟩ := k27_open (h W' hW); injection (Option.some.inj (show some (Value.slice A1 x.f1.length c1) = some (Value.slice A1_ x.f1.length c1_) from congrArg (fun l => l[1]?) he)) with ha_ _ _; rw [ha_]; exact g1_), l2, (fun W' hW => by obtain ⟨A1_, c1_, A2_, c2_, he, l1_, g1_, l2_, g2_⟩ := k27_open (h W' hW); injection (Option.some.inj (show some (Value.slice A2 x.f2.length c2) = some (Value.slice A2_ x.f2.length c2_) from congrArg (fun l => l[2]?) he)) with ha_ _ _; rw [ha_]; exact g2_)⟩
theorem k27_mkF (W : World) (ok : Nat → Prop) (x : S27) {A1 : Option Addr} {c1 : Nat} (l1 : x.f1.length ≤ c1) (g1 : Kd.F k29 W ok A1 x.f1.length x.f1) {A2 : Option Addr} {c2 : Nat} (l2 : x.f2.length ≤ c2) (g2 : Kd.F k66 W ok A2 x.f2.length x.f2) : Kd.FK k27 W ok x [.string x.f0, .slice A1 x.f1.length c1, .slice A2 x.f2.length c2, .string x.f3, .string x.f4] := fun W2 hW => k27_mk W2 x l1 (g1 W2 hW) l2 (g2 W2 hW)
def rd_T27 (xs : List S27) (i : Int) : S27 := xs.getD i.toNat z27
theorem at_T27 {w : World} {A : Option Addr} {n : Nat} {xs : List S27} (h : Kd.C k27 w A n xs) (i : Int) (h0 : 0 ≤ i) (h1 : i < n) : ∃ ad A1 c1 A2 c2, A = some ad ∧ w.cell? (ad.add (i.toNat * 5)) = some (.string (rd_T27 xs i).f0) ∧ w.cell? ⟨(ad.add (i.toNat * 5)).block, (ad.add (i.toNat * 5)).off + 1, none⟩ = some (.slice A1 (rd_T27 xs i).f1.length c1) ∧ w.cell? ⟨(ad.add (i.toNat * 5)).block, (ad.add (i.toNat * 5)).off + 2, none⟩ = some (.slice A2 (rd_T27 xs i).f2.length c2) ∧ w.cell? ⟨(ad.add (i.toNat * 5)).block, (ad.add (i.toNat * 5)).off + 3, none⟩ = some (.string (rd_T27 xs i).f3) ∧ w.cell? ⟨(ad.add (i.toNat * 5)).block, (ad.add (i.toNat * 5)).off + 4, none⟩ = some (.string (rd_T27 xs i).f4) ∧ (rd_T27 xs i).f1.length ≤ c1 ∧ k29.C w A1 (rd_T27 xs i).f1.length (rd_T27 xs i).f1 ∧ (rd_T27 xs i).f2.length ≤ c2 ∧ k66.C w A2 (rd_T27 xs i).f2.length (rd_T27 xs i).f2 := by
 obtain ⟨ad, c, e, _, hK, hc0⟩ := Kd.C_get h z27 i h0 h1
 have hc : ∀ j u, c[j]? = some u → w.cell? (ad.add (i.toNat * 5 + j)) = some u := hc0
 obtain ⟨A1, c1, A2, c2, rfl, l1, g1, l2, g2⟩ := k27_open hK
 exact ⟨ad, A1, c1, A2, c2, e, hc 0 _ rfl, by rw [← add_field _ _ 1 (by omega)]; exact hc 1 _ rfl, by rw [← add_field _ _ 2 (by omega)]; exact hc 2 _ rfl, by rw [← add_field _ _ 3 (by omega)]; exact hc 3 _ rfl, by rw [← add_field _ _ 4 (by omega)]; exact hc 4 _ rfl, l1, g1, l2, g2⟩
abbrev bN := @blk_drewN
abbrev bD := @blk_drew
abbrev bA := @blk_alloc
abbrev lA := @below_alloc
abbrev lN := @pw_below_drewN
abbrev lD := @below_drew1
abbrev aM := @Aside0.mk
abbrev bC := @blk_cell
abbrev bF := @blk_frozen
abbrev lS := @below_set
abbrev lZ := @below_size
abbrev lT := @below_step
abbrev rN := @Kd.R_drewN
abbrev rD := @Kd.R_drew
abbrev cA := @Kd.C_alloc
abbrev rF := @Kd.R_far
abbrev rR := @Kd.R_reads'
abbrev rB := @Kd.R_below
abbrev cB := @Kd.C_below
abbrev bW := @blk_below
abbrev wB := @World.block_lt_of_cell?
abbrev lI := @List.setIfInBounds_toArray
abbrev sZ := @List.set_cons_zero
abbrev sS := @List.set_cons_succ
abbrev oD := @of_decide_eq_true
abbrev dT := @decide_eq_true
abbrev dF := @decide_eq_false
abbrev eS := @Option.some.injEq
abbrev eP := @Prod.mk.injEq
abbrev mT := @List.map_toArray
abbrev mC := @List.map_cons
abbrev mN := @List.map_nil
abbrev xD := @List.length_drop
abbrev xT := @List.length_take
theorem z3_ {w : World} {g : Nat} {v0 v1 v2 : Value} {t : TypeId} (h : w.heap[g]? = some (.cells #[v0, v1, v2] t (0, 0))) : w.cell? ⟨g, 0, none⟩ = some v0 ∧ w.cell? ⟨g, 1, none⟩ = some v1 ∧ w.cell? ⟨g, 2, none⟩ = some v2 ∧ w.frozen? ⟨g, 0, none⟩ = false ∧ w.frozen? ⟨g, 1, none⟩ = false ∧ w.frozen? ⟨g, 2, none⟩ = false := ⟨(blk_cell h 0).trans rfl, (blk_cell h 1).trans rfl, (blk_cell h 2).trans rfl, blk_frozen h 0, blk_frozen h 1, blk_frozen h 2⟩
theorem z5_ {w : World} {g : Nat} {v0 v1 v2 v3 v4 : Value} {t : TypeId} (h : w.heap[g]? = some (.cells #[v0, v1, v2, v3, v4] t (0, 0))) : w.cell? ⟨g, 0, none⟩ = some v0 ∧ w.cell? ⟨g, 1, none⟩ = some v1 ∧ w.cell? ⟨g, 2, none⟩ = some v2 ∧ w.cell? ⟨g, 3, none⟩ = some v3 ∧ w.cell? ⟨g, 4, none⟩ = some v4 ∧ w.frozen? ⟨g, 0, none⟩ = false ∧ w.frozen? ⟨g, 1, none⟩ = false ∧ w.frozen? ⟨g, 2, none⟩ = false ∧ w.frozen? ⟨g, 3, none⟩ = false ∧ w.frozen? ⟨g, 4, none⟩ = false := ⟨(blk_cell h 0).trans rfl, (blk_cell h 1).trans rfl, (blk_cell h 2).trans rfl, (blk_cell h 3).trans rfl, (blk_cell h 4).trans rfl, blk_frozen h 0, blk_frozen h 1, blk_frozen h 2, blk_frozen h 3, blk_frozen h 4⟩
def mk_ (n b : Nat) : Array Bool := ((List.range n).map b.testBit).toArray
theorem bE_ {α β : Type} {x : Option α} {f : α → Option β} {r : β} (h : x.bind f = some r) : ∃ t, Aside0 (x = some t) ∧ f t = some r := by
 obtain ⟨t, h1, h2⟩ := Option.bind_eq_some_iff.mp h
 exact ⟨t, ⟨h1⟩, h2⟩
theorem wC_ {p q : Prop} (x : q) (h : q → p := by (intro x_;(with_reducible repeat (first|refine bN ?_ _|refine bD ?_|refine bA ?_ _));exact x_)) : p := h x
theorem wO_ {p q : Prop} (x : q) (h : q → p := by (intro x_;(with_reducible repeat (first|apply rA|apply rN|apply rD));exact x_)) : p := h x
theorem wS_ {p q : Prop} (x : q) (h : q → p := by (intro x_;(with_reducible repeat first|apply Kd.S_alloc|apply Kd.S_drewN|apply Kd.S_drew);exact x_)) : p := h x
theorem wB_ {p : Prop} (h : p := by repeat (first|(with_reducible first|exact HB.out|apply lA|apply lN|apply lD|refine lS ?_ (Aside0.out (by assumption)))|exact HB.out)) : p := h
theorem wK_ {p : Prop} (h : p := by repeat (first|(with_reducible first|exact HK.out|apply KeepBut.set_|apply keep_drewN|apply keep_drew|apply keep_alloc|refine keep_far ?_ (Aside0.out (show Aside0 (w.heap.size ≤ _) from by assumption)) _)|exact HK.out)) : p := h
theorem bw_ {W0 W W2 : World} {g : Nat} {o : Obj} (x : W0.heap[g]? = some o) (hb : Below W.heap.size W W2) (h : W0.heap[g]? = some o → W.heap[g]? = some o := by (intro x_;(with_reducible repeat (first|refine bN ?_ _|refine bD ?_|refine bA ?_ _));exact x_)) : W2.heap[g]? = some o := blk_below (h x) hb
theorem bg_ {W0 W W2 : World} {g : Nat} {o : Obj} {row : Option Nat} (x : W0.heap[g]? = some o) (hg : W.grownBy W2 row) (n : some g ≠ row) (h : W0.heap[g]? = some o → W.heap[g]? = some o := by (intro x_;(with_reducible repeat (first|refine bN ?_ _|refine bD ?_|refine bA ?_ _));exact x_)) : W2.heap[g]? = some o := blk_grown (h x) hg n
theorem nl_ {W0 W : World} {g a : Nat} {o : Obj} (hg : a = W.heap.size) (x : W0.heap[g]? = some o) (h : W0.heap[g]? = some o → W.heap[g]? = some o := by (intro x_;(with_reducible repeat (first|refine bN ?_ _|refine bD ?_|refine bA ?_ _));exact x_)) : g ≠ a := by
 rw [hg]
 exact Nat.ne_of_lt (blk_lt (h x))
theorem ng_ {W0 W : World} {g a : Nat} {o : Obj} (hg : a = W.heap.size) (x : W0.heap[g]? = some o) (h : W0.heap[g]? = some o → W.heap[g]? = some o := by (intro x_;(with_reducible repeat (first|refine bN ?_ _|refine bD ?_|refine bA ?_ _));exact x_)) : a ≠ g := by
 rw [hg]
 exact Nat.ne_of_gt (blk_lt (h x))
theorem kb_ {W0 W W2 : World} {g g' : Nat} {o : Obj} (hk : KeepBut W W2 g none) (x : W0.heap[g']? = some o) (n : g' ≠ g) (h : W0.heap[g']? = some o → W.heap[g']? = some o := by (intro x_;(with_reducible repeat (first|refine bN ?_ _|refine bD ?_|refine bA ?_ _));exact x_)) : W2.heap[g']? = some o := KeepBut.blk hk (h x) n (by simp)
theorem bx_ {P : Program} {ops : Array Oper} {rest : List Oper} {o : Oper} {a : Act} {Q : Exit → Act → World → Prop} {W : World} {N : Tmp} {cs : Array Value} {t : TypeId}
 (h : ∀ g, g = W.heap.size → ∀ w1 : World, w1.heap[g]? = some (.cells cs t (0, 0)) → Below W.heap.size W w1 → wpList P ops Q rest (a.put o.dst (.pointer (some ⟨g, 0, none⟩))) w1) (hgd : o.guard = none := by rfl) (hd : o.dst = some N := by rfl)
 (hrun : (execOp a.eval o).run P W = .ok (.value (.pointer (some ⟨W.heap.size, 0, none⟩))) (W.alloc (.cells cs t (0, 0))) := by first|(go_simp;done)|(go_simp;rfl)) : wpList P ops Q (o :: rest) a W := box_event hgd hd hrun h
theorem gl_ {P : Program} {ops : Array Oper} {Q : Exit → Act → World → Prop} {rest : List Oper} {oi : Oper} {a : Act} {w : World} (N : Option Tmp) {f : FuncId} {fn : Func} {ao : Array Operand} {ts : Array TypeId} (hf : P.funcs[f]? = some fn) (args : Array Value)
 (h : Calls P f args w fun e w' => ∃ v, e = .returned v ∧ wpList P ops Q rest (a.put N v) w') (hd : oi.dst = N := by rfl) (hg : oi.guard = none := by rfl) (hname : (fn.name == "runtime.NumGoroutine") = false := by kernel_rfl) (hb : fn.body.isSome = true := by rfl)
 (hop : oi.op = .call { callee := .value (.func f), args := ao, argTypes := ts } := by rfl) (hargs : ao.map a.eval = args := by ((try simp only [mT,mC,mN]);first|done|rfl|(simp only [xD,xT];rfl))) : wpList P ops Q (oi :: rest) a w := goesL_ N hd hg hf hname hb args hop hargs h
theorem gs_ {P : Program} {ops : Array Oper} {Q : Exit → Act → World → Prop} {oi : Oper} {N : Option Tmp} {a : Act} {w : World} {K : Act → World → Prop} {f : FuncId} {fn : Func} {ao : Array Operand} {ts : Array TypeId} (hf : P.funcs[f]? = some fn) (args : Array Value)
 (h : Calls P f args w fun e w' => ∃ v, e = .returned v ∧ K (a.put N v) w') (hname : (fn.name == "runtime.NumGoroutine") = false := by kernel_rfl) (hb : fn.body.isSome = true := by rfl) (hw : Region.wanted oi (yielded ops a.tmps) = true := by rfl) (hN : oi.dst = N := by rfl)
 (hop : oi.op = .call { callee := .value (.func f), args := ao, argTypes := ts } := by rfl) (hargs : ao.map a.eval = args := by ((try simp only [mT,mC,mN]);first|done|rfl|(simp only [xD,xT];rfl))) : if Region.wanted oi (yielded ops a.tmps) = true then Oper.wp P oi a w K Q else K (a.put N undef) w := goes_ hf hname hb args hw hN hop hargs h
theorem bf_ {p q r : Prop} (n : r) (x : q) (h : r → q → p := by (intro n_ x_;(repeat (first|(with_reducible first|refine bN ?_ _|refine bD ?_|refine bA ?_ _)|refine blk_far ?_ n_ _));exact x_)) : p := h n x
theorem wX_ {p q : Prop} (x : q) (h : q → p := by (intro x_;repeat (first|exact (cB x_ HB.out)|(with_reducible first|refine cA ?_ _|refine cN ?_ _|refine cD ?_)))) : p := h x
theorem wY_ {p q : Prop} (x : q) (h : q → p := by (intro x_;repeat (first|exact x_|(with_reducible first|refine cA ?_ _|refine cN ?_ _|refine cD ?_)))) : p := h x
theorem zd3_ {w : World} {g : Nat} {v0 v1 v2 : Value} {t : TypeId} (h : w.heap[g]? = some (.cells #[v0, v1, v2] t (0, 0))) : w.cell? ⟨g, 0, none⟩ = some v0 ∧ w.cell? ⟨g, 1, none⟩ = some v1 ∧ w.cell? ⟨g, 2, none⟩ = some v2 := ⟨(blk_cell h 0).trans rfl, (blk_cell h 1).trans rfl, (blk_cell h 2).trans rfl⟩
theorem zd5_ {w : World} {g : Nat} {v0 v1 v2 v3 v4 : Value} {t : TypeId} (h : w.heap[g]? = some (.cells #[v0, v1, v2, v3, v4] t (0, 0))) : w.cell? ⟨g, 0, none⟩ = some v0 ∧ w.cell? ⟨g, 1, none⟩ = some v1 ∧ w.cell? ⟨g, 2, none⟩ = some v2 ∧ w.cell? ⟨g, 3, none⟩ = some v3 ∧ w.cell? ⟨g, 4, none⟩ = some v4 := ⟨(blk_cell h 0).trans rfl, (blk_cell h 1).trans rfl, (blk_cell h 2).trans rfl, (blk_cell h 3).trans rfl, (blk_cell h 4).trans rfl⟩
theorem bq2_ {W0 W : World} {g : Nat} {t : TypeId} {c0 c1 v0 v1 : Value} (x : W0.heap[g]? = some (.cells #[c0, c1] t (0, 0))) (h : W0.heap[g]? = some (.cells #[c0, c1] t (0, 0)) → W.heap[g]? = some (.cells #[c0, c1] t (0, 0)) := by (intro x_;(with_reducible repeat (first|refine bN ?_ _|refine bD ?_|refine bA ?_ _));exact x_)) : ((W.setCell ⟨g, 0, none⟩ v0).setCell ⟨g, 1, none⟩ v1).heap[g]? = some (.cells #[v0, v1] t (0, 0)) := by
 have h0 := h x
 exact (blk_put (cs' := #[v0, v1]) (blk_put (cs' := #[v0, c1]) h0 0 _ rfl) 1 _ rfl)
theorem bq3_ {W0 W : World} {g : Nat} {t : TypeId} {c0 c1 c2 v0 v1 v2 : Value} (x : W0.heap[g]? = some (.cells #[c0, c1, c2] t (0, 0))) (h : W0.heap[g]? = some (.cells #[c0, c1, c2] t (0, 0)) → W.heap[g]? = some (.cells #[c0, c1, c2] t (0, 0)) := by (intro x_;(with_reducible repeat (first|refine bN ?_ _|refine bD ?_|refine bA ?_ _));exact x_)) : (((W.setCell ⟨g, 0, none⟩ v0).setCell ⟨g, 1, none⟩ v1).setCell ⟨g, 2, none⟩ v2).heap[g]? = some (.cells #[v0, v1, v2] t (0, 0)) := by
 have h0 := h x
 exact (blk_put (cs' := #[v0, v1, v2]) (blk_put (cs' := #[v0, v1, c2]) (blk_put (cs' := #[v0, c1, c2]) h0 0 _ rfl) 1 _ rfl) 2 _ rfl)
theorem bq4_ {W0 W : World} {g : Nat} {t : TypeId} {c0 c1 c2 c3 v0 v1 v2 v3 : Value} (x : W0.heap[g]? = some (.cells #[c0, c1, c2, c3] t (0, 0))) (h : W0.heap[g]? = some (.cells #[c0, c1, c2, c3] t (0, 0)) → W.heap[g]? = some (.cells #[c0, c1, c2, c3] t (0, 0)) := by (intro x_;(with_reducible repeat (first|refine bN ?_ _|refine bD ?_|refine bA ?_ _));exact x_)) : ((((W.setCell ⟨g, 0, none⟩ v0).setCell ⟨g, 1, none⟩ v1).setCell ⟨g, 2, none⟩ v2).setCell ⟨g, 3, none⟩ v3).heap[g]? = some (.cells #[v0, v1, v2, v3] t (0, 0)) := by
 have h0 := h x
 exact (blk_put (cs' := #[v0, v1, v2, v3]) (blk_put (cs' := #[v0, v1, v2, c3]) (blk_put (cs' := #[v0, v1, c2, c3]) (blk_put (cs' := #[v0, c1, c2, c3]) h0 0 _ rfl) 1 _ rfl) 2 _ rfl) 3 _ rfl)
theorem bq5_ {W0 W : World} {g : Nat} {t : TypeId} {c0 c1 c2 c3 c4 v0 v1 v2 v3 v4 : Value} (x : W0.heap[g]? = some (.cells #[c0, c1, c2, c3, c4] t (0, 0))) (h : W0.heap[g]? = some (.cells #[c0, c1, c2, c3, c4] t (0, 0)) → W.heap[g]? = some (.cells #[c0, c1, c2, c3, c4] t (0, 0)) := by (intro x_;(with_reducible repeat (first|refine bN ?_ _|refine bD ?_|refine bA ?_ _));exact x_)) : (((((W.setCell ⟨g, 0, none⟩ v0).setCell ⟨g, 1, none⟩ v1).setCell ⟨g, 2, none⟩ v2).setCell ⟨g, 3, none⟩ v3).setCell ⟨g, 4, none⟩ v4).heap[g]? = some (.cells #[v0, v1, v2, v3, v4] t (0, 0)) := by
 have h0 := h x
 exact (blk_put (cs' := #[v0, v1, v2, v3, v4]) (blk_put (cs' := #[v0, v1, v2, v3, c4]) (blk_put (cs' := #[v0, v1, v2, c3, c4]) (blk_put (cs' := #[v0, v1, c2, c3, c4]) (blk_put (cs' := #[v0, c1, c2, c3, c4]) h0 0 _ rfl) 1 _ rfl) 2 _ rfl) 3 _ rfl) 4 _ rfl)
theorem bq11_ {W0 W : World} {g : Nat} {t : TypeId} {c0 c1 c2 c3 c4 c5 c6 c7 c8 c9 c10 v0 v1 v2 v3 v4 v5 v6 v7 v8 v9 v10 : Value} (x : W0.heap[g]? = some (.cells #[c0, c1, c2, c3, c4, c5, c6, c7, c8, c9, c10] t (0, 0))) (h : W0.heap[g]? = some (.cells #[c0, c1, c2, c3, c4, c5, c6, c7, c8, c9, c10] t (0, 0)) → W.heap[g]? = some (.cells #[c0, c1, c2, c3, c4, c5, c6, c7, c8, c9, c10] t (0, 0)) := by (intro x_;(with_reducible repeat (first|refine bN ?_ _|refine bD ?_|refine bA ?_ _));exact x_)) : (((((((((((W.setCell ⟨g, 0, none⟩ v0).setCell ⟨g, 1, none⟩ v1).setCell ⟨g, 2, none⟩ v2).setCell ⟨g, 3, none⟩ v3).setCell ⟨g, 4, none⟩ v4).setCell ⟨g, 5, none⟩ v5).setCell ⟨g, 6, none⟩ v6).setCell ⟨g, 7, none⟩ v7).setCell ⟨g, 8, none⟩ v8).setCell ⟨g, 9, none⟩ v9).setCell ⟨g, 10, none⟩ v10).heap[g]? = some (.cells #[v0, v1, v2, v3, v4, v5, v6, v7, v8, v9, v10] t (0, 0)) := by
 have h0 := h x
 exact (blk_put (cs' := #[v0, v1, v2, v3, v4, v5, v6, v7, v8, v9, v10]) (blk_put (cs' := #[v0, v1, v2, v3, v4, v5, v6, v7, v8, v9, c10]) (blk_put (cs' := #[v0, v1, v2, v3, v4, v5, v6, v7, v8, c9, c10]) (blk_put (cs' := #[v0, v1, v2, v3, v4, v5, v6, v7, c8, c9, c10]) (blk_put (cs' := #[v0, v1, v2, v3, v4, v5, v6, c7, c8, c9, c10]) (blk_put (cs' := #[v0, v1, v2, v3, v4, v5, c6, c7, c8, c9, c10]) (blk_put (cs' := #[v0, v1, v2, v3, v4, c5, c6, c7, c8, c9, c10]) (blk_put (cs' := #[v0, v1, v2, v3, c4, c5, c6, c7, c8, c9, c10]) (blk_put (cs' := #[v0, v1, v2, c3, c4, c5, c6, c7, c8, c9, c10]) (blk_put (cs' := #[v0, v1, c2, c3, c4, c5, c6, c7, c8, c9, c10]) (blk_put (cs' := #[v0, c1, c2, c3, c4, c5, c6, c7, c8, c9, c10]) h0 0 _ rfl) 1 _ rfl) 2 _ rfl) 3 _ rfl) 4 _ rfl) 5 _ rfl) 6 _ rfl) 7 _ rfl) 8 _ rfl) 9 _ rfl) 10 _ rfl)
end Go.Proofs.YtleckcbiifhanaaDoor.P
