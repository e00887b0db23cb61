/- Walks: each Go function computes the Lean function beside it; conditions: those of each theorem. -/
import Derived.Test.YtmafmhgmdegplaaGreatDoorProg
import Derived.Below
import Derived.Deep.Draws
import Derived.Deep.AppendLies
import Derived.Maps.AppendAt
import Derived.OwnWalk
import Derived.Laws.BytesArg
import Derived.Laws.MakeOwn
import Derived.Laws.OwnMore
import Derived.Deep.OwnRows
import Derived.Tactics
import Derived.Lib.ConvBytes
import Derived.Laws.Slices
import Derived.WalkKit
import Derived.KernelRfl
import Derived.RowKit3
import Derived.Deep.LoopGhost
import Derived.Deep.QuietTactic
import Derived.BigQuiet
import Derived.WideLaws
import Derived.Deep.DeepCutAuto
import Derived.Deep.CutBlock
import Derived.Deep.RegionHeld3
import Derived.Laws.Rows
import Derived.Lib.AppendStr
import Derived.ArgAppend
import Derived.Laws.IdiomCopy
import Derived.OrdersHeld
import Derived.Laws.BitsLemmas
import Derived.RowKit
import Derived.Test.YtmafmhgmdegplaaGreatDoorZWWords
import Derived.Test.YtmafmhgmdegplaaGreatDoorZWLast
import Derived.Test.YtmafmhgmdegplaaGreatDoorZWTab
import Derived.Test.YtmafmhgmdegplaaGreatDoorZWApart
import Derived.Test.YtmafmhgmdegplaaGreatDoorZWFoot
import Derived.Test.YtmafmhgmdegplaaGreatDoorZWKept
import Derived.Test.YtmafmhgmdegplaaGreatDoorZWShare
import Derived.Test.YtmafmhgmdegplaaGreatDoorZWN
import Derived.Test.YtmafmhgmdegplaaGreatDoorZWEqStruct
import Derived.Test.YtmafmhgmdegplaaGreatDoorZWRepsOne
import Derived.Test.YtmafmhgmdegplaaGreatDoorZWMore
import Derived.Lib.ItoaNum
import Derived.Lib.LaidTab
namespace Go.Proofs.YtmafmhgmdegplaaGreatDoor.P
open Go.RowKit Go.Proofs.YtmafmhgmdegplaaGreatDoorW.PrintWords Go.Proofs.YtmafmhgmdegplaaGreatDoorW.PrintLast Go.Proofs.YtmafmhgmdegplaaGreatDoorW.PrintMore
attribute [local go_sem] max2_int min2_int max_two min_two max_three min_three max_four min_four   -- for this text's walks alone
set_option linter.unusedVariables false
set_option linter.unusedSimpArgs false
def errW : Option Int → Value
 | none => .nilIface
 | some c => .iface 0 (.int .i64 c)
theorem errW_none : errW none = .nilIface := rfl
theorem errW_some (c : Int) : errW (some c) = .iface 0 (.int .i64 c) := rfl
theorem my_isEmpty (l : List UInt8) : (l != []) = !l.isEmpty := by cases l <;> rfl
theorem geqStr (P : Program) (t : TypeId) (a b : ByteArray) (w : World) : Sem.run P (binOp BinOp.geq t (Value.string a) (Value.string b)) w = .ok (.bool (!Op.bytesLess a.toList b.toList)) w := rfl
structure BRow (w W : World) (g : Nat) (xs : List Int) : Prop where
 below : Below w.heap.size w W
 new : w.heap.size ≤ g
 cell : ∀ j, j < xs.length → W.cell? ⟨g, j, none⟩ = some (.int .u8 (xs.getD j 0))
 free : ∀ j, j < xs.length → W.frozen? ⟨g, j, none⟩ = false
theorem BRow.made (w : World) (e : TypeId) (s : ByteArray) : BRow w (Lib.bytesWorld w e s) w.heap.size (bytesOf s) := by
 have hs : s.size ≤ (Lib.bytesCells w e s).size := by
  unfold Lib.bytesCells
  rw [Array.size_append, Array.size_map]
  exact Nat.le_add_right _ _
 have hn := Lib.bytesWorld_at_new w e s
 refine ⟨⟨?_, ?_, ?_, by rw [Lib.bytesWorld_size]; omega, fun j hj => Lib.bytesWorld_at_old w e s j hj⟩, Nat.le_refl _, fun j hj => ?_, fun j hj => ?_⟩
 ·simp [Lib.bytesWorld, World.freeze, World.alloc, World.drew, -World.alloc_eq, -World.drew_eq]
 ·simp [Lib.bytesWorld, World.freeze, World.alloc, World.drew, -World.alloc_eq, -World.drew_eq]
 ·simp [Lib.bytesWorld, World.freeze, World.alloc, World.drew, -World.alloc_eq, -World.drew_eq]
 ·rw [bytesOf_length] at hj
  have hj' : j < s.data.toList.length := by rw [data_length]; exact hj
  rw [Lib.bytesWorld_cell w e s j hj]
  simp [bytesOf, List.getD_eq_getElem?_getD, List.getElem?_eq_getElem hj']
 ·rw [bytesOf_length] at hj
  unfold World.frozen?
  rw [hn]
  have : ¬ (Lib.bytesCells w e s).size ≤ j := by omega
  simp [this]
theorem BRow.set {w W : World} {g : Nat} {xs : List Int} (h : BRow w W g xs) (i : Nat) (x : Int) : BRow w (W.setCell ⟨g, i, none⟩ (.int .u8 x)) g (xs.set i x) := by
 refine ⟨h.below.setCell h.new _, h.new, fun j hj => ?_, fun j hj => ?_⟩
 ·rw [List.length_set] at hj
  by_cases e : i = j
  ·subst e
   rw [World.cell?_setCell_same _ _ _ (h.cell i hj)]
   simp [List.getD_eq_getElem?_getD, List.getElem?_set, hj]
  ·rw [World.cell?_setCell_other _ _ _ _ (by simp [e]), h.cell j hj]
   simp [List.getD_eq_getElem?_getD, List.getElem?_set, e]
 ·rw [List.length_set] at hj
  rw [World.frozen?_setCell, h.free j hj]
theorem BRow.drewN {w W : World} {g : Nat} {xs : List Int} (h : BRow w W g xs) (n : Nat) : BRow w (W.drewN n) g xs :=
 ⟨pw_below_drewN h.below n, h.new, h.cell, h.free⟩
theorem BRow.text {P : Program} {w W : World} {g : Nat} {xs : List Int} (h : BRow w W g xs) (src e dst : TypeId) (hs : P.underlying src = some (.slice e)) (he : P.underlying e = some (.int .u8)) (hd : P.underlying dst = some .string) (n cap : Nat) (hn : xs.length = n) :
  (convert src dst (.slice (some ⟨g, 0, none⟩) n cap)).run P W = .ok (.string (strOfNums xs)) W :=
 run_convert_bytes_arg W src e hs he g 0 n cap xs hn (fun i hi => by rw [Nat.zero_add]; exact h.cell i (by omega)) dst hd
structure Gw (w : World) : Prop where
 tab : Lib.TabIs Tryz.prog w "internal/strconv.uint64pow10" .u64 Lib.pow10Tab
structure Gm (w : World) : Prop where
 max : ∃ m : Int, w.cell? ⟨1, 0, none⟩ = some (.int .i64 m)
structure Gb (w : World) : Prop where
 tab : Lib.TabIs Tryz.prog w "internal/strconv.uint64pow10" .u64 Lib.pow10Tab
 max : ∃ m : Int, w.cell? ⟨1, 0, none⟩ = some (.int .i64 m)
structure Ge (w : World) : Prop where
 tab : Lib.TabIs Tryz.prog w "internal/strconv.uint64pow10" .u64 Lib.pow10Tab
 syn : ∃ ev : Value, w.var? Tryz.prog "strconv.ErrSyntax" = some #[ev] ∧ (ev = .nilIface ∨ ∃ te pe, ev = .iface te pe)
theorem var_below {P : Program} {w W : World} (hb : Below w.heap.size w W) {n : String} {cs : Array Value} (h : w.var? P n = some cs) : W.var? P n = some cs := by
 unfold World.var? at h ⊢
 cases hg : P.globalNamed n with
 | none => simp [hg] at h
 | some g =>
  simp only [hg, Option.bind_some] at h ⊢
  have hlt : g < w.heap.size := by
   rcases Nat.lt_or_ge g w.heap.size with h' | h'
   ·exact h'
   ·simp [Array.getElem?_eq_none h'] at h
  rw [hb.block g hlt]
  exact h
theorem max_below {w W : World} (hb : Below w.heap.size w W) (h : ∃ m : Int, w.cell? ⟨1, 0, none⟩ = some (.int .i64 m)) : ∃ m : Int, W.cell? ⟨1, 0, none⟩ = some (.int .i64 m) := by
 obtain ⟨m, h⟩ := h
 exact ⟨m, (hb.cell (p := ⟨1, 0, none⟩) (World.block_lt_of_cell? w ⟨1, 0, none⟩ h)).trans h⟩
theorem Gw.below {w W : World} (h : Gw w) (hb : Below w.heap.size w W) : Gw W := ⟨var_below hb h.tab⟩
theorem Gw.drewN {w : World} (h : Gw w) (n : Nat) : Gw (w.drewN n) := ⟨var_below (pw_below_drewN (Below.refl _ _) n) h.tab⟩
theorem Gm.below {w W : World} (h : Gm w) (hb : Below w.heap.size w W) : Gm W := ⟨max_below hb h.max⟩
theorem Gm.drewN {w : World} (h : Gm w) (n : Nat) : Gm (w.drewN n) := ⟨max_below (pw_below_drewN (Below.refl _ _) n) h.max⟩
theorem Gb.below {w W : World} (h : Gb w) (hb : Below w.heap.size w W) : Gb W := ⟨var_below hb h.tab, max_below hb h.max⟩
theorem Gb.drewN {w : World} (h : Gb w) (n : Nat) : Gb (w.drewN n) := ⟨var_below (pw_below_drewN (Below.refl _ _) n) h.tab, max_below (pw_below_drewN (Below.refl _ _) n) h.max⟩
theorem Gb.toGw {w : World} (h : Gb w) : Gw w := ⟨h.tab⟩
theorem Gb.toGm {w : World} (h : Gb w) : Gm w := ⟨h.max⟩
theorem Ge.below {w W : World} (h : Ge w) (hb : Below w.heap.size w W) : Ge W := ⟨var_below hb h.tab, h.syn.imp fun _ ⟨h1, h2⟩ => ⟨var_below hb h1, h2⟩⟩
theorem Ge.drewN {w : World} (h : Ge w) (n : Nat) : Ge (w.drewN n) := h.below (pw_below_drewN (Below.refl _ _) n)
theorem Ge.toGw {w : World} (h : Ge w) : Gw w := ⟨h.tab⟩
def fieldL : List ByteArray := [⟨#[97, 117, 116, 104, 111, 114, 115]⟩, ⟨#[101, 100, 105, 116, 111, 114, 115]⟩, ⟨#[116, 105, 116, 108, 101]⟩, ⟨#[99, 111, 110, 116, 97, 105, 110, 101, 114]⟩, ⟨#[112, 117, 98, 108, 105, 115, 104, 101, 114]⟩, ⟨#[100, 97, 116, 101]⟩, ⟨#[118, 111, 108, 117, 109, 101]⟩, ⟨#[112, 97, 103, 101, 115]⟩]
def FldIs (P : Program) (w : World) : Prop := w.var? P "loop.example/g00896/impl.fieldWords" = some (fieldL.map Value.string).toArray
structure Gf (w : World) : Prop where
 fld : FldIs Tryz.prog w
structure Gfm (w : World) : Prop where
 fld : FldIs Tryz.prog w
 max : ∃ m : Int, w.cell? ⟨1, 0, none⟩ = some (.int .i64 m)
structure Gfw (w : World) : Prop where
 fld : FldIs Tryz.prog w
 tab : Lib.TabIs Tryz.prog w "internal/strconv.uint64pow10" .u64 Lib.pow10Tab
structure Gfb (w : World) : Prop where
 fld : FldIs Tryz.prog w
 tab : Lib.TabIs Tryz.prog w "internal/strconv.uint64pow10" .u64 Lib.pow10Tab
 max : ∃ m : Int, w.cell? ⟨1, 0, none⟩ = some (.int .i64 m)
theorem Gf.below {w W : World} (h : Gf w) (hb : Below w.heap.size w W) : Gf W := ⟨var_below hb h.fld⟩
theorem Gf.drewN {w : World} (h : Gf w) (n : Nat) : Gf (w.drewN n) := h.below (pw_below_drewN (Below.refl _ _) n)
theorem Gfm.below {w W : World} (h : Gfm w) (hb : Below w.heap.size w W) : Gfm W := ⟨var_below hb h.fld, max_below hb h.max⟩
theorem Gfm.drewN {w : World} (h : Gfm w) (n : Nat) : Gfm (w.drewN n) := h.below (pw_below_drewN (Below.refl _ _) n)
theorem Gfw.below {w W : World} (h : Gfw w) (hb : Below w.heap.size w W) : Gfw W := ⟨var_below hb h.fld, var_below hb h.tab⟩
theorem Gfw.drewN {w : World} (h : Gfw w) (n : Nat) : Gfw (w.drewN n) := h.below (pw_below_drewN (Below.refl _ _) n)
theorem Gfb.below {w W : World} (h : Gfb w) (hb : Below w.heap.size w W) : Gfb W := ⟨var_below hb h.fld, var_below hb h.tab, max_below hb h.max⟩
theorem Gfb.drewN {w : World} (h : Gfb w) (n : Nat) : Gfb (w.drewN n) := h.below (pw_below_drewN (Below.refl _ _) n)
theorem Gfm.toGm {w : World} (h : Gfm w) : Gm w := ⟨h.max⟩
theorem Gfw.toGw {w : World} (h : Gfw w) : Gw w := ⟨h.tab⟩
theorem Gfb.toGm {w : World} (h : Gfb w) : Gm w := ⟨h.max⟩
theorem Gfb.toGw {w : World} (h : Gfb w) : Gw w := ⟨h.tab⟩
theorem FldIs.cell {P : Program} {W : World} {g : Nat} (h : FldIs P W) (hg : P.globalNamed "loop.example/g00896/impl.fieldWords" = some g) (i : Nat) (x : ByteArray) (hi : fieldL[i]? = some x) : W.cell? ⟨g, i, none⟩ = some (.string x) := by
 have := World.var?_cell hg h i
 rw [this]
 simp [hi]
theorem FldIs.cells8 {W : World} (h : FldIs Tryz.prog W) : W.cell? ⟨0, 0, none⟩ = some (.string ⟨#[97, 117, 116, 104, 111, 114, 115]⟩) ∧ W.cell? ⟨0, 1, none⟩ = some (.string ⟨#[101, 100, 105, 116, 111, 114, 115]⟩) ∧ W.cell? ⟨0, 2, none⟩ = some (.string ⟨#[116, 105, 116, 108, 101]⟩) ∧ W.cell? ⟨0, 3, none⟩ = some (.string ⟨#[99, 111, 110, 116, 97, 105, 110, 101, 114]⟩) ∧ W.cell? ⟨0, 4, none⟩ = some (.string ⟨#[112, 117, 98, 108, 105, 115, 104, 101, 114]⟩) ∧ W.cell? ⟨0, 5, none⟩ = some (.string ⟨#[100, 97, 116, 101]⟩) ∧ W.cell? ⟨0, 6, none⟩ = some (.string ⟨#[118, 111, 108, 117, 109, 101]⟩) ∧ W.cell? ⟨0, 7, none⟩ = some (.string ⟨#[112, 97, 103, 101, 115]⟩) := ⟨h.cell (by kernel_rfl) 0 _ rfl, h.cell (by kernel_rfl) 1 _ rfl, h.cell (by kernel_rfl) 2 _ rfl, h.cell (by kernel_rfl) 3 _ rfl, h.cell (by kernel_rfl) 4 _ rfl, h.cell (by kernel_rfl) 5 _ rfl, h.cell (by kernel_rfl) 6 _ rfl, h.cell (by kernel_rfl) 7 _ rfl⟩
set_option maxRecDepth 100000 in
theorem fld_idx (j : Int) (h0 : 0 ≤ j) (h1 : j < 8) : ∀ W, (Instr.index 170 (.agg #[.string ⟨#[97, 117, 116, 104, 111, 114, 115]⟩, .string ⟨#[101, 100, 105, 116, 111, 114, 115]⟩, .string ⟨#[116, 105, 116, 108, 101]⟩, .string ⟨#[99, 111, 110, 116, 97, 105, 110, 101, 114]⟩, .string ⟨#[112, 117, 98, 108, 105, 115, 104, 101, 114]⟩, .string ⟨#[100, 97, 116, 101]⟩, .string ⟨#[118, 111, 108, 117, 109, 101]⟩, .string ⟨#[112, 97, 103, 101, 115]⟩]) (.int .i64 j)).run Tryz.prog W = .ok (.string (rdOf ByteArray.empty fieldL j)) W := by
 have hj : j = 0 ∨ j = 1 ∨ j = 2 ∨ j = 3 ∨ j = 4 ∨ j = 5 ∨ j = 6 ∨ j = 7 := by omega
 rcases hj with rfl | rfl | rfl | rfl | rfl | rfl | rfl | rfl <;> exact fun _ => by kernel_rfl
def VA (v v' : Value) : Prop := ((∃ s, v = .string s) → ∃ s, v' = .string s) ∧ ((∃ n, v = .int .i64 n) → ∃ n, v' = .int .i64 n) ∧ ((∃ b, v = .bool b) → ∃ b, v' = .bool b) ∧ (∀ A n c, v = .slice A n c → v' = v)
theorem VA.refl (v : Value) : VA v v := ⟨id, id, id, fun _ _ _ _ => rfl⟩
theorem VA.trans {a b c : Value} (h : VA a b) (k : VA b c) : VA a c := ⟨fun x => k.1 (h.1 x), fun x => k.2.1 (h.2.1 x), fun x => k.2.2.1 (h.2.2.1 x), fun A n q e => by
 have h1 := h.2.2.2 A n q e
 rw [h1] at k
 exact k.2.2.2 A n q e⟩
theorem VA.str (s t : ByteArray) : VA (.string s) (.string t) := ⟨fun _ => ⟨t, rfl⟩, (fun ⟨_, h⟩ => nomatch h), (fun ⟨_, h⟩ => nomatch h), (fun _ _ _ h => nomatch h)⟩
theorem VA.int (s t : Int) : VA (.int .i64 s) (.int .i64 t) := ⟨(fun ⟨_, h⟩ => nomatch h), (fun _ => ⟨t, rfl⟩), (fun ⟨_, h⟩ => nomatch h), (fun _ _ _ h => nomatch h)⟩
theorem VA.bool (s t : Bool) : VA (.bool s) (.bool t) := ⟨(fun ⟨_, h⟩ => nomatch h), (fun ⟨_, h⟩ => nomatch h), (fun _ => ⟨t, rfl⟩), (fun _ _ _ h => nomatch h)⟩
def Alike (w w1 : World) : Prop := ∀ (b : Nat) (cur : Array Value) (t : TypeId), w.heap[b]? = some (.cells cur t (0, 0)) → ∃ cur' : Array Value, w1.heap[b]? = some (.cells cur' t (0, 0)) ∧ cur'.size = cur.size ∧ ∀ (j : Nat) (v : Value), cur[j]? = some v → ∃ v', cur'[j]? = some v' ∧ VA v v'
theorem Alike.refl (w : World) : Alike w w := fun _ cur _ h => ⟨cur, h, rfl, fun _ v hv => ⟨v, hv, VA.refl v⟩⟩
theorem Alike.trans {a b c : World} (h : Alike a b) (k : Alike b c) : Alike a c := fun g cur t e => by
 obtain ⟨c1, e1, s1, f1⟩ := h g cur t e
 obtain ⟨c2, e2, s2, f2⟩ := k g c1 t e1
 refine ⟨c2, e2, s2.trans s1, fun j v hv => ?_⟩
 obtain ⟨v1, g1, a1⟩ := f1 j v hv
 obtain ⟨v2, g2, a2⟩ := f2 j v1 g1
 exact ⟨v2, g2, a1.trans a2⟩
theorem Alike.below {w w1 : World} (h : Below w.heap.size w w1) : Alike w w1 := fun g cur _ e => ⟨cur, (h.block g (blk_lt e)).trans e, rfl, fun _ v hv => ⟨v, hv, VA.refl v⟩⟩
theorem Alike.set {w : World} {g o : Nat} {v u : Value} (hc : w.cell? ⟨g, o, none⟩ = some v) (h : VA v u) : Alike w (w.setCell ⟨g, o, none⟩ u) := fun b cur t e => by
 by_cases hb : b = g
 ·subst hb
  have hv : cur[o]? = some v := by simpa [World.cell?, e] using hc
  refine ⟨cur.setIfInBounds o u, blk_put e o u rfl, by simp, fun j x hx => ?_⟩
  by_cases hj : o = j
  ·subst hj
   rw [hv] at hx
   cases hx
   have hlt : o < cur.size := (Array.getElem?_eq_some_iff.1 hv).1
   exact ⟨u, by rw [Array.getElem?_setIfInBounds, if_pos rfl, if_pos hlt], h⟩
  ·exact ⟨x, by rw [Array.getElem?_setIfInBounds, if_neg hj]; exact hx, VA.refl x⟩
 ·exact ⟨cur, (Below.heap_setCell w ⟨g, o, none⟩ u b hb).trans e, rfl, fun _ x hx => ⟨x, hx, VA.refl x⟩⟩
def VAl (a b : List Value) : Prop := b.length = a.length ∧ ∀ (j : Nat) (v : Value), a[j]? = some v → ∃ v', b[j]? = some v' ∧ VA v v'
theorem VAl.one {v : Value} {b : List Value} (h : VAl [v] b) : ∃ v', b = [v'] ∧ VA v v' := by
 obtain ⟨h1, h2⟩ := h
 obtain ⟨v', h3, h4⟩ := h2 0 v rfl
 match b, h1, h3 with
 | [x], _, h3 => exact ⟨x, rfl, by cases h3; exact h4⟩
theorem VAl.take {a b : List Value} (h : VAl a b) (n : Nat) : VAl (a.take n) (b.take n) := ⟨by rw [List.length_take, List.length_take, h.1], fun j v hv => by
 rw [List.getElem?_take] at hv
 split at hv
 next hj =>
  obtain ⟨v', h1, h2⟩ := h.2 j v hv
  exact ⟨v', by rw [List.getElem?_take, if_pos hj]; exact h1, h2⟩
 next => cases hv⟩
theorem VAl.drop {a b : List Value} (h : VAl a b) (n : Nat) : VAl (a.drop n) (b.drop n) := ⟨by rw [List.length_drop, List.length_drop, h.1], fun j v hv => by
 rw [List.getElem?_drop] at hv
 obtain ⟨v', h1, h2⟩ := h.2 _ v hv
 exact ⟨v', by rw [List.getElem?_drop]; exact h1, h2⟩⟩
def Rigid {α : Type} (d : Kd α) : Prop := ∀ {w w1 : World} {base : Nat} {ok : Nat → Prop} {x : α} {cs cs' : List Value}, Alike w w1 → d.M w base ok x cs → VAl cs cs' → d.M w1 base ok x cs'
theorem rigid_R {α : Type} {d : Kd α} (hd : Rigid d) {e : Nat} {w w1 : World} {base : Nat} {ok : Nat → Prop} {v : Value} {xs : List α} (ha : Alike w w1) (h : d.R e w base ok v xs) : d.R e w1 base ok v xs := by
 obtain ⟨h0, inner, ho, hr⟩ := h
 refine ⟨h0, ?_⟩
 obtain ⟨hl, ho⟩ := ho
 rcases ho with ⟨hv, hn⟩ | ⟨g, cap, cur, hv, hg, hh, r1, r2, r3, r4⟩
 ·have hx : xs = [] := List.length_eq_zero_iff.1 hn
  subst hx
  exact ⟨inner, ⟨hl, .inl ⟨hv, hn⟩⟩, hr.1, fun j p hp => by simp at hp⟩
 ·obtain ⟨cur', e1, e2, e3⟩ := ha g cur e hh
  have hA : VAl cur.toList cur'.toList := ⟨by rw [Array.length_toList, Array.length_toList, e2], fun j v hv => by
   rw [Array.getElem?_toList] at hv
   obtain ⟨v', h1, h2⟩ := e3 j v hv
   exact ⟨v', by rw [Array.getElem?_toList]; exact h1, h2⟩⟩
  have hI : VAl inner (cur'.toList.take (xs.length * d.sz)) := by rw [← r4]; exact hA.take _
  refine ⟨_, ⟨hI.1.trans hl, .inr ⟨g, cap, cur', hv, hg, e1, r1, r2, e2.trans r3, rfl⟩⟩, hI.1.trans hr.1, fun j p hp => ?_⟩
  exact hd ha (hr.2 j p hp) ((hI.drop _).take _)
theorem rigid_slice {α : Type} {d : Kd α} (e : Nat) (hd : Rigid d) : Rigid (Kd.slice e d) := by
 rintro w w1 base ok x cs cs' ha ⟨v, rfl, h⟩ hc
 obtain ⟨v', rfl, hv⟩ := hc.one
 obtain ⟨A, c, rfl⟩ := Kd.R_slice h
 rw [hv.2.2.2 A _ c rfl]
 exact ⟨_, rfl, rigid_R hd ha h⟩
theorem rigid_pair {α β : Type} {a : Kd α} {b : Kd β} (h1 : Rigid a) (h2 : Rigid b) : Rigid (Kd.pair a b) := by
 rintro w w1 base ok x cs cs' ha ⟨c0, c1, rfl, m0, m1⟩ hc
 have t0 := hc.take c0.length
 have t1 := hc.drop c0.length
 rw [List.take_left' rfl] at t0
 rw [List.drop_left' rfl] at t1
 exact ⟨_, _, (List.take_append_drop c0.length cs').symm, h1 ha m0 t0, h2 ha m1 t1⟩
def anyK (p : Value → Prop) (h1 : ∀ v, p v → v.oneCell' = true) : Kd Unit where
 sz := 1
 E := []
 K := fun _ _ cs => ∃ v, cs = [v] ∧ p v
 M := fun _ _ _ _ cs => ∃ v, cs = [v] ∧ p v
 K_len := by
  rintro w x cs ⟨v, rfl, _⟩
  rfl
 K_one := by
  rintro w x cs ⟨v, rfl, hp⟩ u hu
  rw [List.mem_singleton.1 hu]
  exact h1 _ hp
 K_below := fun _ h => h
 K_of_M := fun h => h
 M_mono := fun _ h => h
 M_bound := fun h => h
 M_move := fun _ h => h
 M_lower := fun _ h => h
def aS : Kd Unit := anyK (fun v => ∃ s, v = .string s) (fun _ ⟨_, h⟩ => by rw [h]; rfl)
def aI : Kd Unit := anyK (fun v => ∃ n, v = .int .i64 n) (fun _ ⟨_, h⟩ => by rw [h]; rfl)
def aB : Kd Unit := anyK (fun v => ∃ b, v = .bool b) (fun _ ⟨_, h⟩ => by rw [h]; rfl)
theorem rigid_S : Rigid aS := by
 rintro w w1 base ok x cs cs' ha ⟨v, rfl, hp⟩ hc
 obtain ⟨v', rfl, hv⟩ := hc.one
 exact ⟨v', rfl, hv.1 hp⟩
theorem rigid_I : Rigid aI := by
 rintro w w1 base ok x cs cs' ha ⟨v, rfl, hp⟩ hc
 obtain ⟨v', rfl, hv⟩ := hc.one
 exact ⟨v', rfl, hv.2.1 hp⟩
theorem rigid_B : Rigid aB := by
 rintro w w1 base ok x cs cs' ha ⟨v, rfl, hp⟩ hc
 obtain ⟨v', rfl, hv⟩ := hc.one
 exact ⟨v', rfl, hv.2.2.1 hp⟩
theorem R_as {α β : Type} {d : Kd α} {d' : Kd β} (φ : α → β) (hs : d'.sz = d.sz) {e : Nat} {w : World} {base : Nat} {ok : Nat → Prop} {v : Value} {xs : List α} (hM : ∀ {ok x cs}, d.M w base ok x cs → d'.M w base ok (φ x) cs) (h : d.R e w base ok v xs) : d'.R e w base ok v (xs.map φ) := by
 obtain ⟨h0, inner, ho, hr⟩ := h
 refine ⟨h0, inner, by rw [List.length_map, hs]; exact ho, by rw [List.length_map, hs]; exact hr.1, fun j p hp => ?_⟩
 rw [List.getElem?_map] at hp
 obtain ⟨q, hq, rfl⟩ := Option.map_eq_some_iff.1 hp
 rw [hs]
 exact hM (hr.2 j q hq)
structure Marked (base : Nat) (P0 : Nat → Prop) (w w' : World) : Prop where
 al : Alike w w'
 kept : Kept w w' P0
 below : ∀ w0 : World, w0.heap.size = base → Below w0.heap.size w0 w → Below w0.heap.size w0 w'
theorem Marked.refl (base : Nat) (P0 : Nat → Prop) (w : World) : Marked base P0 w w := ⟨Alike.refl w, Kept.refl w P0, fun _ _ h => h⟩
theorem Marked.trans {base : Nat} {P0 : Nat → Prop} {a b c : World} (h : Marked base P0 a b) (k : Marked base P0 b c) : Marked base P0 a c := ⟨h.al.trans k.al, h.kept.then_ k.kept (fun _ hk => .inl hk), fun w0 hw hb => k.below w0 hw (h.below w0 hw hb)⟩
theorem Marked.mono {base : Nat} {P0 P1 : Nat → Prop} {a b : World} (h : Marked base P0 a b) (hp : ∀ k, P0 k → P1 k) : Marked base P1 a b := ⟨h.al, h.kept.mono hp, h.below⟩
theorem Marked.step {base : Nat} {P0 : Nat → Prop} {a b c : World} (h : Marked base P0 a b) (k : Below b.heap.size b c) (hs : base ≤ b.heap.size) : Marked base P0 a c := ⟨h.al.trans (Alike.below k), h.kept.below k, fun w0 hw hb => below_step (h.below w0 hw hb) k⟩
theorem Marked.set {base : Nat} {P0 : Nat → Prop} {a w : World} (h : Marked base P0 a w) {g o : Nat} {v u : Value} (hc : w.cell? ⟨g, o, none⟩ = some v) (hv : VA v u) (hg : P0 g) (hb : base ≤ g) : Marked base P0 a (w.setCell ⟨g, o, none⟩ u) :=
 ⟨h.al.trans (Alike.set hc hv), h.kept.setCell (.inl hg) u, fun w0 hw hx => below_set (h.below w0 hw hx) (by rw [hw]; exact hb)⟩
def mAt {α : Type} (z : α) (xs : List α) (i : Int) : α := xs.getD i.toNat z
theorem Marked.le {base : Nat} {P0 : Nat → Prop} {a b : World} (h : Marked base P0 a b) : a.heap.size ≤ b.heap.size := h.kept.1
def TyB (W : World) (E : List Nat) (k : Nat) : Prop := ∃ q, q ∈ E ∧ ∃ cells, W.heap[k]? = some (.cells cells q (0, 0))
theorem R_tyB {α : Type} {d : Kd α} {e : Nat} {w : World} {base : Nat} {ok : Nat → Prop} {v : Value} {xs : List α} (h : d.R e w base ok v xs) : d.R e w base (fun k => ok k ∧ TyB w (e :: d.E) k) v xs := Kd.R_mono (Kd.R_bound h) (fun _ hk => ⟨hk.1, hk.2.2.2⟩)
theorem blk_keptT {w w' : World} {g : Nat} {cs : Array Value} {t : TypeId} {P0 : Nat → Prop} {E : List Nat} (hb : w.heap[g]? = some (.cells cs t (0, 0))) (hk : Kept w w' (fun k => P0 k ∧ TyB w E k)) (ht : E.contains t = false) : w'.heap[g]? = some (.cells cs t (0, 0)) := blk_kept hb hk (fun hs => by
 obtain ⟨_, q, hq, c, hc⟩ := hs
 rw [hb] at hc
 injection hc with hc
 injection hc with _ hc
 subst hc
 simp [hq] at ht)
theorem S_tyB {α : Type} {d : Kd α} {e : Nat} {w : World} {base : Nat} {ok : Nat → Prop} {v : Value} {xs : List α} (h : Kd.S d e w base ok v xs) : Kd.S d e w base (fun k => ok k ∧ TyB w (e :: d.E) k) v xs := Kd.S_mono (Kd.S_bound h) (fun _ hk => ⟨hk.1, hk.2.2.2⟩)
theorem up2 {α β : Type} {d1 : Kd α} {d2 : Kd β} {e1 e2 b0 b1 : Nat} {w w1 : World} {ok1 ok2 : Nat → Prop} {v1 v2 : Value} {xs1 : List α} {xs2 : List β} (h1 : Kd.S d1 e1 w b1 ok1 v1 xs1) (ho : d2.R e2 w1 w.heap.size ok2 v2 xs2) (hb : Below w.heap.size w w1) (hs : b0 ≤ w.heap.size) :
  ∃ m, b0 ≤ m ∧ Kd.S d1 e1 w1 b1 (fun k => k < m) v1 xs1 ∧ d2.R e2 w1 m ok2 v2 xs2 :=
 ⟨w.heap.size, hs, Kd.S_move (w1 := w1) (Kd.S_mono (ok' := fun k => k < w.heap.size) (Kd.S_bound h1) (fun _ hk => hk.2.2.1)) (fun k hk => hb.block k hk), ho⟩
theorem up3 {α β γ : Type} {d1 : Kd α} {d2 : Kd β} {d3 : Kd γ} {e1 e2 e3 b0 b1 b2 : Nat} {w w1 : World} {ok1 ok2 ok3 : Nat → Prop} {v1 v2 v3 : Value} {xs1 : List α} {xs2 : List β} {xs3 : List γ} (h1 : Kd.S d1 e1 w b1 ok1 v1 xs1) (h2 : d2.R e2 w b2 ok2 v2 xs2) (ho : Kd.S d3 e3 w1 w.heap.size ok3 v3 xs3) (hb : Below w.heap.size w w1) (hs : b0 ≤ w.heap.size) :
  ∃ m, b0 ≤ m ∧ Kd.S d1 e1 w1 b1 (fun k => ok1 k ∧ k < m) v1 xs1 ∧ d2.R e2 w1 b2 (fun k => ok2 k ∧ k < m) v2 xs2 ∧ Kd.S d3 e3 w1 m ok3 v3 xs3 :=
 ⟨w.heap.size, hs, Kd.S_move (w1 := w1) (Kd.S_mono (ok' := fun k => ok1 k ∧ k < w.heap.size) (Kd.S_bound h1) (fun _ hk => ⟨hk.1, hk.2.2.1⟩)) (fun k hk => hb.block k hk.2), Kd.R_move (w1 := w1) (Kd.R_mono (ok' := fun k => ok2 k ∧ k < w.heap.size) (Kd.R_bound h2) (fun _ hk => ⟨hk.1, hk.2.2.1⟩)) (fun k hk => hb.block k hk.2), ho⟩
theorem info5 : (Tryz.prog.info? 5).map (fun i => (i.zero, i.size, i.bytes)) = some (some (.int .u8 0), 1, 1) := by kernel_rfl
theorem info9 : (Tryz.prog.info? 9).map (fun i => (i.zero, i.size, i.bytes)) = some (some (.string ⟨#[]⟩), 1, 16) := by kernel_rfl
theorem info41 : (Tryz.prog.info? 41).map (fun i => (i.zero, i.size, i.bytes)) = some (some (.agg #[(.string ⟨#[]⟩), (.int .i64 0), (.slice none 0 0), (.slice none 0 0), (.string ⟨#[]⟩), (.string ⟨#[]⟩), (.string ⟨#[]⟩), (.int .i64 0), (.int .i64 0), (.int .i64 0), (.bool false), (.int .i64 0), (.string ⟨#[]⟩), (.string ⟨#[]⟩)]), 14, 192) := by kernel_rfl
theorem info90 : (Tryz.prog.info? 90).map (fun i => (i.zero, i.size, i.bytes)) = some (some (.agg #[(.string ⟨#[]⟩), (.slice none 0 0)]), 2, 40) := by kernel_rfl
theorem info157 : (Tryz.prog.info? 157).map (fun i => (i.zero, i.size, i.bytes)) = some (some (.agg #[(.slice none 0 0), (.string ⟨#[]⟩), (.string ⟨#[]⟩), (.string ⟨#[]⟩)]), 4, 72) := by kernel_rfl
structure S152 where
 f0 : (List ByteArray)
 f1 : ByteArray
 f2 : ByteArray
 f3 : ByteArray
def z152 : S152 := ⟨([] : List ByteArray), (⟨#[]⟩ : ByteArray), (⟨#[]⟩ : ByteArray), (⟨#[]⟩ : ByteArray)⟩
def k152 : Kd S152 := Kd.iso (Kd.pair (Kd.slice 9 Kd.string) (Kd.pair Kd.string (Kd.pair Kd.string Kd.string))) (fun x : S152 => (x.f0, x.f1, x.f2, x.f3))
theorem k152_open {w : World} {x : S152} {cs : List Value} (h : k152.K w x cs) : ∃ A0 c0, cs = [.slice A0 x.f0.length c0, .string x.f1, .string x.f2, .string x.f3] ∧ x.f0.length ≤ c0 ∧ Kd.string.C w A0 x.f0.length x.f0 := by
 obtain ⟨_, _, rfl, ⟨A0, c0, rfl, l0, g0⟩, ⟨_, _, rfl, rfl, ⟨_, _, rfl, rfl, rfl⟩⟩⟩ := h
 exact ⟨A0, c0, rfl, l0, g0⟩
def Fbu (xs : List S152) (i : Int) : S152 := xs.getD i.toNat z152
theorem Fcj {w : World} {A : Option Addr} {n : Nat} {xs : List S152} (h : Kd.C k152 w A n xs) (i : Int) (h0 : 0 ≤ i) (h1 : i < n) : ∃ ad A0 c0, A = some ad ∧ w.cell? (ad.add (i.toNat * 4)) = some (.slice A0 (Fbu xs i).f0.length c0) ∧ w.cell? ⟨(ad.add (i.toNat * 4)).block, (ad.add (i.toNat * 4)).off + 1, none⟩ = some (.string (Fbu xs i).f1) ∧ w.cell? ⟨(ad.add (i.toNat * 4)).block, (ad.add (i.toNat * 4)).off + 2, none⟩ = some (.string (Fbu xs i).f2) ∧ w.cell? ⟨(ad.add (i.toNat * 4)).block, (ad.add (i.toNat * 4)).off + 3, none⟩ = some (.string (Fbu xs i).f3) ∧ (Fbu xs i).f0.length ≤ c0 ∧ Kd.string.C w A0 (Fbu xs i).f0.length (Fbu xs i).f0 := by
 obtain ⟨ad, c, e, _, hK, hc0⟩ := Kd.C_get h z152 i h0 h1
 have hc : ∀ j u, c[j]? = some u → w.cell? (ad.add (i.toNat * 4 + j)) = some u := hc0
 obtain ⟨A0, c0, rfl, l0, g0⟩ := k152_open hK
 exact ⟨ad, A0, c0, e, hc 0 _ rfl, by rw [← add_field _ _ 1 (by omega)]; exact hc 1 _ rfl, by rw [← add_field _ _ 2 (by omega)]; exact hc 2 _ rfl, by rw [← add_field _ _ 3 (by omega)]; exact hc 3 _ rfl, l0, g0⟩
structure S27 where
 f0 : Int
 f1 : Int
 f2 : Int
 f3 : Bool
def z27 : S27 := ⟨(0 : Int), (0 : Int), (0 : Int), false⟩
def k27 : Kd S27 := Kd.iso (Kd.pair (Kd.int .i64) (Kd.pair (Kd.int .i64) (Kd.pair (Kd.int .i64) Kd.bool))) (fun x : S27 => (x.f0, x.f1, x.f2, x.f3))
theorem k27_open {w : World} {x : S27} {cs : List Value} (h : k27.K w x cs) : cs = [.int .i64 x.f0, .int .i64 x.f1, .int .i64 x.f2, .bool x.f3] := by
 obtain ⟨_, _, rfl, rfl, ⟨_, _, rfl, rfl, ⟨_, _, rfl, rfl, rfl⟩⟩⟩ := h
 exact rfl
structure S29 where
 f0 : ByteArray
 f1 : Int
 f2 : (List S152)
 f3 : (List S152)
 f4 : ByteArray
 f5 : ByteArray
 f6 : ByteArray
 f7 : S27
 f8 : Int
 f9 : ByteArray
 f10 : ByteArray
def z29 : S29 := ⟨(⟨#[]⟩ : ByteArray), (0 : Int), ([] : List S152), ([] : List S152), (⟨#[]⟩ : ByteArray), (⟨#[]⟩ : ByteArray), (⟨#[]⟩ : ByteArray), z27, (0 : Int), (⟨#[]⟩ : ByteArray), (⟨#[]⟩ : ByteArray)⟩
def k29 : Kd S29 := Kd.iso (Kd.pair Kd.string (Kd.pair (Kd.int .i64) (Kd.pair (Kd.slice 152 k152) (Kd.pair (Kd.slice 152 k152) (Kd.pair Kd.string (Kd.pair Kd.string (Kd.pair Kd.string (Kd.pair k27 (Kd.pair (Kd.int .i64) (Kd.pair Kd.string Kd.string)))))))))) (fun x : S29 => (x.f0, x.f1, x.f2, x.f3, x.f4, x.f5, x.f6, x.f7, x.f8, x.f9, x.f10))
theorem k29_open {w : World} {x : S29} {cs : List Value} (h : k29.K w x cs) : ∃ A2 c2 A3 c3, cs = [.string x.f0, .int .i64 x.f1, .slice A2 x.f2.length c2, .slice A3 x.f3.length c3, .string x.f4, .string x.f5, .string x.f6, .int .i64 x.f7.f0, .int .i64 x.f7.f1, .int .i64 x.f7.f2, .bool x.f7.f3, .int .i64 x.f8, .string x.f9, .string x.f10] ∧ x.f2.length ≤ c2 ∧ k152.C w A2 x.f2.length x.f2 ∧ x.f3.length ≤ c3 ∧ k152.C w A3 x.f3.length x.f3 := by
 obtain ⟨_, _, rfl, rfl, ⟨_, _, rfl, rfl, ⟨_, _, rfl, ⟨A2, c2, rfl, l2, g2⟩, ⟨_, _, rfl, ⟨A3, c3, rfl, l3, g3⟩, ⟨_, _, rfl, rfl, ⟨_, _, rfl, rfl, ⟨_, _, rfl, rfl, ⟨_, _, rfl, s7, ⟨_, _, rfl, rfl, ⟨_, _, rfl, rfl, rfl⟩⟩⟩⟩⟩⟩⟩⟩⟩⟩ := h
 obtain rfl := k27_open s7
 exact ⟨A2, c2, A3, c3, rfl, l2, g2, l3, g3⟩
def FaK (xs : List S29) (i : Int) : S29 := xs.getD i.toNat z29
theorem Fck {w : World} {A : Option Addr} {n : Nat} {xs : List S29} (h : Kd.C k29 w A n xs) (i : Int) (h0 : 0 ≤ i) (h1 : i < n) : ∃ ad A2 c2 A3 c3, A = some ad ∧ w.cell? (ad.add (i.toNat * 14)) = some (.string (FaK xs i).f0) ∧ w.cell? ⟨(ad.add (i.toNat * 14)).block, (ad.add (i.toNat * 14)).off + 1, none⟩ = some (.int .i64 (FaK xs i).f1) ∧ w.cell? ⟨(ad.add (i.toNat * 14)).block, (ad.add (i.toNat * 14)).off + 2, none⟩ = some (.slice A2 (FaK xs i).f2.length c2) ∧ w.cell? ⟨(ad.add (i.toNat * 14)).block, (ad.add (i.toNat * 14)).off + 3, none⟩ = some (.slice A3 (FaK xs i).f3.length c3) ∧ w.cell? ⟨(ad.add (i.toNat * 14)).block, (ad.add (i.toNat * 14)).off + 4, none⟩ = some (.string (FaK xs i).f4) ∧ w.cell? ⟨(ad.add (i.toNat * 14)).block, (ad.add (i.toNat * 14)).off + 5, none⟩ = some (.string (FaK xs i).f5) ∧ w.cell? ⟨(ad.add (i.toNat * 14)).block, (ad.add (i.toNat * 14)).off + 6, none⟩ = some (.string (FaK xs i).f6) ∧ w.cell? ⟨(ad.add (i.toNat * 14)).block, (ad.add (i.toNat * 14)).off + 7, none⟩ = some (.int .i64 (FaK xs i).f7.f0) ∧ w.cell? ⟨(ad.add (i.toNat * 14)).block, (ad.add (i.toNat * 14)).off + 8, none⟩ = some (.int .i64 (FaK xs i).f7.f1) ∧ w.cell? ⟨(ad.add (i.toNat * 14)).block, (ad.add (i.toNat * 14)).off + 9, none⟩ = some (.int .i64 (FaK xs i).f7.f2) ∧ w.cell? ⟨(ad.add (i.toNat * 14)).block, (ad.add (i.toNat * 14)).off + 10, none⟩ = some (.bool (FaK xs i).f7.f3) ∧ w.cell? ⟨(ad.add (i.toNat * 14)).block, (ad.add (i.toNat * 14)).off + 11, none⟩ = some (.int .i64 (FaK xs i).f8) ∧ w.cell? ⟨(ad.add (i.toNat * 14)).block, (ad.add (i.toNat * 14)).off + 12, none⟩ = some (.string (FaK xs i).f9) ∧ w.cell? ⟨(ad.add (i.toNat * 14)).block, (ad.add (i.toNat * 14)).off + 13, none⟩ = some (.string (FaK xs i).f10) ∧ (FaK xs i).f2.length ≤ c2 ∧ k152.C w A2 (FaK xs i).f2.length (FaK xs i).f2 ∧ (FaK xs i).f3.length ≤ c3 ∧ k152.C w A3 (FaK xs i).f3.length (FaK xs i).f3 := by
 obtain ⟨ad, c, e, _, hK, hc0⟩ := Kd.C_get h z29 i h0 h1
 have hc : ∀ j u, c[j]? = some u → w.cell? (ad.add (i.toNat * 14 + j)) = some u := hc0
 obtain ⟨A2, c2, A3, c3, rfl, l2, g2, l3, g3⟩ := k29_open hK
 exact ⟨ad, A2, c2, A3, c3, e, hc 0 _ rfl, by rw [← add_field _ _ 1 (by omega)]; exact hc 1 _ rfl, by rw [← add_field _ _ 2 (by omega)]; exact hc 2 _ rfl, by rw [← add_field _ _ 3 (by omega)]; exact hc 3 _ rfl, by rw [← add_field _ _ 4 (by omega)]; exact hc 4 _ rfl, by rw [← add_field _ _ 5 (by omega)]; exact hc 5 _ rfl, by rw [← add_field _ _ 6 (by omega)]; exact hc 6 _ rfl, by rw [← add_field _ _ 7 (by omega)]; exact hc 7 _ rfl, by rw [← add_field _ _ 8 (by omega)]; exact hc 8 _ rfl, by rw [← add_field _ _ 9 (by omega)]; exact hc 9 _ rfl, by rw [← add_field _ _ 10 (by omega)]; exact hc 10 _ rfl, by rw [← add_field _ _ 11 (by omega)]; exact hc 11 _ rfl, by rw [← add_field _ _ 12 (by omega)]; exact hc 12 _ rfl, by rw [← add_field _ _ 13 (by omega)]; exact hc 13 _ rfl, l2, g2, l3, g3⟩
structure S157 where
 f0 : (List ByteArray)
 f1 : ByteArray
 f2 : ByteArray
 f3 : ByteArray
def z157 : S157 := ⟨([] : List ByteArray), (⟨#[]⟩ : ByteArray), (⟨#[]⟩ : ByteArray), (⟨#[]⟩ : ByteArray)⟩
def k157 : Kd S157 := Kd.iso (Kd.pair (Kd.slice 9 Kd.string) (Kd.pair Kd.string (Kd.pair Kd.string Kd.string))) (fun x : S157 => (x.f0, x.f1, x.f2, x.f3))
theorem k157_open {w : World} {x : S157} {cs : List Value} (h : k157.K w x cs) : ∃ A0 c0, cs = [.slice A0 x.f0.length c0, .string x.f1, .string x.f2, .string x.f3] ∧ x.f0.length ≤ c0 ∧ Kd.string.C w A0 x.f0.length x.f0 := by
 obtain ⟨_, _, rfl, ⟨A0, c0, rfl, l0, g0⟩, ⟨_, _, rfl, rfl, ⟨_, _, rfl, rfl, rfl⟩⟩⟩ := h
 exact ⟨A0, c0, rfl, l0, g0⟩
theorem k157_openM {w : World} {base : Nat} {ok : Nat → Prop} {x : S157} {cs : List Value} (h : k157.M w base ok x cs) : ∃ v0, cs = [v0, .string x.f1, .string x.f2, .string x.f3] ∧ Kd.string.R 9 w base ok v0 x.f0 := by
 obtain ⟨_, _, rfl, ⟨v0, rfl, g0⟩, ⟨_, _, rfl, rfl, ⟨_, _, rfl, rfl, rfl⟩⟩⟩ := h
 exact ⟨v0, rfl, g0⟩
theorem k157_mkM (w : World) (base : Nat) (ok : Nat → Prop) (x : S157) {v0 : Value} (g0 : Kd.string.R 9 w base ok v0 x.f0) : k157.M w base ok x [v0, .string x.f1, .string x.f2, .string x.f3] := ⟨[v0], [.string x.f1, .string x.f2, .string x.f3], rfl, ⟨v0, rfl, g0⟩, ⟨[.string x.f1], [.string x.f2, .string x.f3], rfl, rfl, ⟨[.string x.f2], [.string x.f3], rfl, rfl, rfl⟩⟩⟩
def Fas (xs : List S157) (i : Int) : S157 := xs.getD i.toNat z157
theorem Fcf {w : World} {A : Option Addr} {n : Nat} {xs : List S157} (h : Kd.C k157 w A n xs) (i : Int) (h0 : 0 ≤ i) (h1 : i < n) : ∃ ad A0 c0, A = some ad ∧ w.cell? (ad.add (i.toNat * 4)) = some (.slice A0 (Fas xs i).f0.length c0) ∧ w.cell? ⟨(ad.add (i.toNat * 4)).block, (ad.add (i.toNat * 4)).off + 1, none⟩ = some (.string (Fas xs i).f1) ∧ w.cell? ⟨(ad.add (i.toNat * 4)).block, (ad.add (i.toNat * 4)).off + 2, none⟩ = some (.string (Fas xs i).f2) ∧ w.cell? ⟨(ad.add (i.toNat * 4)).block, (ad.add (i.toNat * 4)).off + 3, none⟩ = some (.string (Fas xs i).f3) ∧ (Fas xs i).f0.length ≤ c0 ∧ Kd.string.C w A0 (Fas xs i).f0.length (Fas xs i).f0 := by
 obtain ⟨ad, c, e, _, hK, hc0⟩ := Kd.C_get h z157 i h0 h1
 have hc : ∀ j u, c[j]? = some u → w.cell? (ad.add (i.toNat * 4 + j)) = some u := hc0
 obtain ⟨A0, c0, rfl, l0, g0⟩ := k157_open hK
 exact ⟨ad, A0, c0, e, hc 0 _ rfl, by rw [← add_field _ _ 1 (by omega)]; exact hc 1 _ rfl, by rw [← add_field _ _ 2 (by omega)]; exact hc 2 _ rfl, by rw [← add_field _ _ 3 (by omega)]; exact hc 3 _ rfl, l0, g0⟩
structure S39 where
 f0 : Int
 f1 : Int
 f2 : Int
 f3 : Bool
def z39 : S39 := ⟨(0 : Int), (0 : Int), (0 : Int), false⟩
def k39 : Kd S39 := Kd.iso (Kd.pair (Kd.int .i64) (Kd.pair (Kd.int .i64) (Kd.pair (Kd.int .i64) Kd.bool))) (fun x : S39 => (x.f0, x.f1, x.f2, x.f3))
theorem k39_open {w : World} {x : S39} {cs : List Value} (h : k39.K w x cs) : cs = [.int .i64 x.f0, .int .i64 x.f1, .int .i64 x.f2, .bool x.f3] := by
 obtain ⟨_, _, rfl, rfl, ⟨_, _, rfl, rfl, ⟨_, _, rfl, rfl, rfl⟩⟩⟩ := h
 exact rfl
theorem k39_openM {w : World} {base : Nat} {ok : Nat → Prop} {x : S39} {cs : List Value} (h : k39.M w base ok x cs) : cs = [.int .i64 x.f0, .int .i64 x.f1, .int .i64 x.f2, .bool x.f3] := by
 obtain ⟨_, _, rfl, rfl, ⟨_, _, rfl, rfl, ⟨_, _, rfl, rfl, rfl⟩⟩⟩ := h
 exact rfl
theorem k39_mkM (w : World) (base : Nat) (ok : Nat → Prop) (x : S39)  : k39.M w base ok x [.int .i64 x.f0, .int .i64 x.f1, .int .i64 x.f2, .bool x.f3] := ⟨[.int .i64 x.f0], [.int .i64 x.f1, .int .i64 x.f2, .bool x.f3], rfl, rfl, ⟨[.int .i64 x.f1], [.int .i64 x.f2, .bool x.f3], rfl, rfl, ⟨[.int .i64 x.f2], [.bool x.f3], rfl, rfl, rfl⟩⟩⟩
structure S41 where
 f0 : ByteArray
 f1 : Int
 f2 : (List S157)
 f3 : (List S157)
 f4 : ByteArray
 f5 : ByteArray
 f6 : ByteArray
 f7 : S39
 f8 : Int
 f9 : ByteArray
 f10 : ByteArray
def z41 : S41 := ⟨(⟨#[]⟩ : ByteArray), (0 : Int), ([] : List S157), ([] : List S157), (⟨#[]⟩ : ByteArray), (⟨#[]⟩ : ByteArray), (⟨#[]⟩ : ByteArray), z39, (0 : Int), (⟨#[]⟩ : ByteArray), (⟨#[]⟩ : ByteArray)⟩
def k41 : Kd S41 := Kd.iso (Kd.pair Kd.string (Kd.pair (Kd.int .i64) (Kd.pair (Kd.slice 157 k157) (Kd.pair (Kd.slice 157 k157) (Kd.pair Kd.string (Kd.pair Kd.string (Kd.pair Kd.string (Kd.pair k39 (Kd.pair (Kd.int .i64) (Kd.pair Kd.string Kd.string)))))))))) (fun x : S41 => (x.f0, x.f1, x.f2, x.f3, x.f4, x.f5, x.f6, x.f7, x.f8, x.f9, x.f10))
theorem k41_open {w : World} {x : S41} {cs : List Value} (h : k41.K w x cs) : ∃ A2 c2 A3 c3, cs = [.string x.f0, .int .i64 x.f1, .slice A2 x.f2.length c2, .slice A3 x.f3.length c3, .string x.f4, .string x.f5, .string x.f6, .int .i64 x.f7.f0, .int .i64 x.f7.f1, .int .i64 x.f7.f2, .bool x.f7.f3, .int .i64 x.f8, .string x.f9, .string x.f10] ∧ x.f2.length ≤ c2 ∧ k157.C w A2 x.f2.length x.f2 ∧ x.f3.length ≤ c3 ∧ k157.C w A3 x.f3.length x.f3 := by
 obtain ⟨_, _, rfl, rfl, ⟨_, _, rfl, rfl, ⟨_, _, rfl, ⟨A2, c2, rfl, l2, g2⟩, ⟨_, _, rfl, ⟨A3, c3, rfl, l3, g3⟩, ⟨_, _, rfl, rfl, ⟨_, _, rfl, rfl, ⟨_, _, rfl, rfl, ⟨_, _, rfl, s7, ⟨_, _, rfl, rfl, ⟨_, _, rfl, rfl, rfl⟩⟩⟩⟩⟩⟩⟩⟩⟩⟩ := h
 obtain rfl := k39_open s7
 exact ⟨A2, c2, A3, c3, rfl, l2, g2, l3, g3⟩
theorem k41_openM {w : World} {base : Nat} {ok : Nat → Prop} {x : S41} {cs : List Value} (h : k41.M w base ok x cs) : ∃ v2 v3, cs = [.string x.f0, .int .i64 x.f1, v2, v3, .string x.f4, .string x.f5, .string x.f6, .int .i64 x.f7.f0, .int .i64 x.f7.f1, .int .i64 x.f7.f2, .bool x.f7.f3, .int .i64 x.f8, .string x.f9, .string x.f10] ∧ k157.R 157 w base ok v2 x.f2 ∧ k157.R 157 w base ok v3 x.f3 := by
 obtain ⟨_, _, rfl, rfl, ⟨_, _, rfl, rfl, ⟨_, _, rfl, ⟨v2, rfl, g2⟩, ⟨_, _, rfl, ⟨v3, rfl, g3⟩, ⟨_, _, rfl, rfl, ⟨_, _, rfl, rfl, ⟨_, _, rfl, rfl, ⟨_, _, rfl, s7, ⟨_, _, rfl, rfl, ⟨_, _, rfl, rfl, rfl⟩⟩⟩⟩⟩⟩⟩⟩⟩⟩ := h
 obtain rfl := k39_openM s7
 exact ⟨v2, v3, rfl, g2, g3⟩
theorem k41_mkM (w : World) (base : Nat) (ok : Nat → Prop) (x : S41) {v2 : Value} (g2 : k157.R 157 w base ok v2 x.f2) {v3 : Value} (g3 : k157.R 157 w base ok v3 x.f3) : k41.M w base ok x [.string x.f0, .int .i64 x.f1, v2, v3, .string x.f4, .string x.f5, .string x.f6, .int .i64 x.f7.f0, .int .i64 x.f7.f1, .int .i64 x.f7.f2, .bool x.f7.f3, .int .i64 x.f8, .string x.f9, .string x.f10] := ⟨[.string x.f0], [.int .i64 x.f1, v2, v3, .string x.f4, .string x.f5, .string x.f6, .int .i64 x.f7.f0, .int .i64 x.f7.f1, .int .i64 x.f7.f2, .bool x.f7.f3, .int .i64 x.f8, .string x.f9, .string x.f10], rfl, rfl, ⟨[.int .i64 x.f1], [v2, v3, .string x.f4, .string x.f5, .string x.f6, .int .i64 x.f7.f0, .int .i64 x.f7.f1, .int .i64 x.f7.f2, .bool x.f7.f3, .int .i64 x.f8, .string x.f9, .string x.f10], rfl, rfl, ⟨[v2], [v3, .string x.f4, .string x.f5, .string x.f6, .int .i64 x.f7.f0, .int .i64 x.f7.f1, .int .i64 x.f7.f2, .bool x.f7.f3, .int .i64 x.f8, .string x.f9, .string x.f10], rfl, ⟨v2, rfl, g2⟩, ⟨[v3], [.string x.f4, .string x.f5, .string x.f6, .int .i64 x.f7.f0, .int .i64 x.f7.f1, .int .i64 x.f7.f2, .bool x.f7.f3, .int .i64 x.f8, .string x.f9, .string x.f10], rfl, ⟨v3, rfl, g3⟩, ⟨[.string x.f4], [.string x.f5, .string x.f6, .int .i64 x.f7.f0, .int .i64 x.f7.f1, .int .i64 x.f7.f2, .bool x.f7.f3, .int .i64 x.f8, .string x.f9, .string x.f10], rfl, rfl, ⟨[.string x.f5], [.string x.f6, .int .i64 x.f7.f0, .int .i64 x.f7.f1, .int .i64 x.f7.f2, .bool x.f7.f3, .int .i64 x.f8, .string x.f9, .string x.f10], rfl, rfl, ⟨[.string x.f6], [.int .i64 x.f7.f0, .int .i64 x.f7.f1, .int .i64 x.f7.f2, .bool x.f7.f3, .int .i64 x.f8, .string x.f9, .string x.f10], rfl, rfl, ⟨[.int .i64 x.f7.f0, .int .i64 x.f7.f1, .int .i64 x.f7.f2, .bool x.f7.f3], [.int .i64 x.f8, .string x.f9, .string x.f10], rfl, (k39_mkM w base ok x.f7 ), ⟨[.int .i64 x.f8], [.string x.f9, .string x.f10], rfl, rfl, ⟨[.string x.f9], [.string x.f10], rfl, rfl, rfl⟩⟩⟩⟩⟩⟩⟩⟩⟩⟩
def Faa (xs : List S41) (i : Int) : S41 := xs.getD i.toNat z41
theorem Fb3 {w : World} {A : Option Addr} {n : Nat} {xs : List S41} (h : Kd.C k41 w A n xs) (i : Int) (h0 : 0 ≤ i) (h1 : i < n) : ∃ ad A2 c2 A3 c3, A = some ad ∧ w.cell? (ad.add (i.toNat * 14)) = some (.string (Faa xs i).f0) ∧ w.cell? ⟨(ad.add (i.toNat * 14)).block, (ad.add (i.toNat * 14)).off + 1, none⟩ = some (.int .i64 (Faa xs i).f1) ∧ w.cell? ⟨(ad.add (i.toNat * 14)).block, (ad.add (i.toNat * 14)).off + 2, none⟩ = some (.slice A2 (Faa xs i).f2.length c2) ∧ w.cell? ⟨(ad.add (i.toNat * 14)).block, (ad.add (i.toNat * 14)).off + 3, none⟩ = some (.slice A3 (Faa xs i).f3.length c3) ∧ w.cell? ⟨(ad.add (i.toNat * 14)).block, (ad.add (i.toNat * 14)).off + 4, none⟩ = some (.string (Faa xs i).f4) ∧ w.cell? ⟨(ad.add (i.toNat * 14)).block, (ad.add (i.toNat * 14)).off + 5, none⟩ = some (.string (Faa xs i).f5) ∧ w.cell? ⟨(ad.add (i.toNat * 14)).block, (ad.add (i.toNat * 14)).off + 6, none⟩ = some (.string (Faa xs i).f6) ∧ w.cell? ⟨(ad.add (i.toNat * 14)).block, (ad.add (i.toNat * 14)).off + 7, none⟩ = some (.int .i64 (Faa xs i).f7.f0) ∧ w.cell? ⟨(ad.add (i.toNat * 14)).block, (ad.add (i.toNat * 14)).off + 8, none⟩ = some (.int .i64 (Faa xs i).f7.f1) ∧ w.cell? ⟨(ad.add (i.toNat * 14)).block, (ad.add (i.toNat * 14)).off + 9, none⟩ = some (.int .i64 (Faa xs i).f7.f2) ∧ w.cell? ⟨(ad.add (i.toNat * 14)).block, (ad.add (i.toNat * 14)).off + 10, none⟩ = some (.bool (Faa xs i).f7.f3) ∧ w.cell? ⟨(ad.add (i.toNat * 14)).block, (ad.add (i.toNat * 14)).off + 11, none⟩ = some (.int .i64 (Faa xs i).f8) ∧ w.cell? ⟨(ad.add (i.toNat * 14)).block, (ad.add (i.toNat * 14)).off + 12, none⟩ = some (.string (Faa xs i).f9) ∧ w.cell? ⟨(ad.add (i.toNat * 14)).block, (ad.add (i.toNat * 14)).off + 13, none⟩ = some (.string (Faa xs i).f10) ∧ (Faa xs i).f2.length ≤ c2 ∧ k157.C w A2 (Faa xs i).f2.length (Faa xs i).f2 ∧ (Faa xs i).f3.length ≤ c3 ∧ k157.C w A3 (Faa xs i).f3.length (Faa xs i).f3 := by
 obtain ⟨ad, c, e, _, hK, hc0⟩ := Kd.C_get h z41 i h0 h1
 have hc : ∀ j u, c[j]? = some u → w.cell? (ad.add (i.toNat * 14 + j)) = some u := hc0
 obtain ⟨A2, c2, A3, c3, rfl, l2, g2, l3, g3⟩ := k41_open hK
 exact ⟨ad, A2, c2, A3, c3, e, hc 0 _ rfl, by rw [← add_field _ _ 1 (by omega)]; exact hc 1 _ rfl, by rw [← add_field _ _ 2 (by omega)]; exact hc 2 _ rfl, by rw [← add_field _ _ 3 (by omega)]; exact hc 3 _ rfl, by rw [← add_field _ _ 4 (by omega)]; exact hc 4 _ rfl, by rw [← add_field _ _ 5 (by omega)]; exact hc 5 _ rfl, by rw [← add_field _ _ 6 (by omega)]; exact hc 6 _ rfl, by rw [← add_field _ _ 7 (by omega)]; exact hc 7 _ rfl, by rw [← add_field _ _ 8 (by omega)]; exact hc 8 _ rfl, by rw [← add_field _ _ 9 (by omega)]; exact hc 9 _ rfl, by rw [← add_field _ _ 10 (by omega)]; exact hc 10 _ rfl, by rw [← add_field _ _ 11 (by omega)]; exact hc 11 _ rfl, by rw [← add_field _ _ 12 (by omega)]; exact hc 12 _ rfl, by rw [← add_field _ _ 13 (by omega)]; exact hc 13 _ rfl, l2, g2, l3, g3⟩
structure S90 where
 f0 : ByteArray
 f1 : (List ByteArray)
def z90 : S90 := ⟨(⟨#[]⟩ : ByteArray), ([] : List ByteArray)⟩
def k90 : Kd S90 := Kd.iso (Kd.pair Kd.string (Kd.slice 9 Kd.string)) (fun x : S90 => (x.f0, x.f1))
theorem k90_open {w : World} {x : S90} {cs : List Value} (h : k90.K w x cs) : ∃ A1 c1, cs = [.string x.f0, .slice A1 x.f1.length c1] ∧ x.f1.length ≤ c1 ∧ Kd.string.C w A1 x.f1.length x.f1 := by
 obtain ⟨_, _, rfl, rfl, ⟨A1, c1, rfl, l1, g1⟩⟩ := h
 exact ⟨A1, c1, rfl, l1, g1⟩
theorem k90_openM {w : World} {base : Nat} {ok : Nat → Prop} {x : S90} {cs : List Value} (h : k90.M w base ok x cs) : ∃ v1, cs = [.string x.f0, v1] ∧ Kd.string.R 9 w base ok v1 x.f1 := by
 obtain ⟨_, _, rfl, rfl, ⟨v1, rfl, g1⟩⟩ := h
 exact ⟨v1, rfl, g1⟩
theorem k90_mkM (w : World) (base : Nat) (ok : Nat → Prop) (x : S90) {v1 : Value} (g1 : Kd.string.R 9 w base ok v1 x.f1) : k90.M w base ok x [.string x.f0, v1] := ⟨[.string x.f0], [v1], rfl, rfl, ⟨v1, rfl, g1⟩⟩
def Fbi (xs : List S90) (i : Int) : S90 := xs.getD i.toNat z90
theorem Fci {w : World} {A : Option Addr} {n : Nat} {xs : List S90} (h : Kd.C k90 w A n xs) (i : Int) (h0 : 0 ≤ i) (h1 : i < n) : ∃ ad A1 c1, A = some ad ∧ w.cell? (ad.add (i.toNat * 2)) = some (.string (Fbi xs i).f0) ∧ w.cell? ⟨(ad.add (i.toNat * 2)).block, (ad.add (i.toNat * 2)).off + 1, none⟩ = some (.slice A1 (Fbi xs i).f1.length c1) ∧ (Fbi xs i).f1.length ≤ c1 ∧ Kd.string.C w A1 (Fbi xs i).f1.length (Fbi xs i).f1 := by
 obtain ⟨ad, c, e, _, hK, hc0⟩ := Kd.C_get h z90 i h0 h1
 have hc : ∀ j u, c[j]? = some u → w.cell? (ad.add (i.toNat * 2 + j)) = some u := hc0
 obtain ⟨A1, c1, rfl, l1, g1⟩ := k90_open hK
 exact ⟨ad, A1, c1, e, hc 0 _ rfl, by rw [← add_field _ _ 1 (by omega)]; exact hc 1 _ rfl, l1, g1⟩
structure S48 where
 f0 : (List S29)
def k48 : Kd S48 := Kd.iso (Kd.slice 29 k29) (fun x : S48 => x.f0)
def B152 (x : S152) : Prop := (fun l_ : List ByteArray => l_.length * 16 ≤ 140737488351232 ∧ l_.length ≤ maxLen ∧ ∀ a_ ∈ l_, (fun a_ : ByteArray => a_.size ≤ 140737488351232) a_) x.f0 ∧ (fun a_ : ByteArray => a_.size ≤ 140737488351232) x.f1 ∧ (fun a_ : ByteArray => a_.size ≤ 140737488351232) x.f2 ∧ (fun a_ : ByteArray => a_.size ≤ 140737488351232) x.f3
def B27 (x : S27) : Prop := (fun a_ : Int => (Lit.int .i64 a_).wf = true) x.f0 ∧ (fun a_ : Int => (Lit.int .i64 a_).wf = true) x.f1 ∧ (fun a_ : Int => (Lit.int .i64 a_).wf = true) x.f2 ∧ (fun _ : Bool => True) x.f3
def B29 (x : S29) : Prop := (fun a_ : ByteArray => a_.size ≤ 140737488351232) x.f0 ∧ (fun a_ : Int => (Lit.int .i64 a_).wf = true) x.f1 ∧ (fun l_ : List (S152) => l_.length * 72 ≤ 140737488351232 ∧ l_.length ≤ maxLen ∧ ∀ a_ ∈ l_, B152 a_) x.f2 ∧ (fun l_ : List (S152) => l_.length * 72 ≤ 140737488351232 ∧ l_.length ≤ maxLen ∧ ∀ a_ ∈ l_, B152 a_) x.f3 ∧ (fun a_ : ByteArray => a_.size ≤ 140737488351232) x.f4 ∧ (fun a_ : ByteArray => a_.size ≤ 140737488351232) x.f5 ∧ (fun a_ : ByteArray => a_.size ≤ 140737488351232) x.f6 ∧ B27 x.f7 ∧ (fun a_ : Int => (Lit.int .i64 a_).wf = true) x.f8 ∧ (fun a_ : ByteArray => a_.size ≤ 140737488351232) x.f9 ∧ (fun a_ : ByteArray => a_.size ≤ 140737488351232) x.f10
def B48 (x : S48) : Prop := (fun l_ : List (S29) => l_.length * 192 ≤ 140737488351232 ∧ l_.length ≤ maxLen ∧ ∀ a_ ∈ l_, B29 a_) x.f0
abbrev bN := @blk_drewN
abbrev bD := @blk_drew
abbrev bA := @blk_alloc
abbrev lA := @below_alloc
abbrev lN := @pw_below_drewN
abbrev lD := @below_drew1
abbrev aM := @Aside0.mk
abbrev bC := @blk_cell
abbrev bF := @blk_frozen
abbrev lS := @below_set
abbrev lZ := @below_size
abbrev lT := @below_step
abbrev rN := @Kd.R_drewN
abbrev rA := @Kd.R_alloc
abbrev rD := @Kd.R_drew
abbrev cA := @Kd.C_alloc
abbrev cN := @Kd.C_drewN
abbrev cD := @Kd.C_drew
abbrev rF := @Kd.R_far
abbrev rR := @Kd.R_reads'
abbrev rB := @Kd.R_below
abbrev cB := @Kd.C_below
abbrev bW := @blk_below
abbrev wB := @World.block_lt_of_cell?
abbrev lI := @List.setIfInBounds_toArray
abbrev sZ := @List.set_cons_zero
abbrev sS := @List.set_cons_succ
abbrev oD := @of_decide_eq_true
abbrev dT := @decide_eq_true
abbrev dF := @decide_eq_false
abbrev eS := @Option.some.injEq
abbrev eP := @Prod.mk.injEq
abbrev mT := @List.map_toArray
abbrev mC := @List.map_cons
abbrev mN := @List.map_nil
abbrev xD := @List.length_drop
abbrev xT := @List.length_take
theorem z1_ {w : World} {g : Nat} {v0 : Value} {t : TypeId} (h : w.heap[g]? = some (.cells #[v0] t (0, 0))) : w.cell? ⟨g, 0, none⟩ = some v0 ∧ w.frozen? ⟨g, 0, none⟩ = false := ⟨(blk_cell h 0).trans rfl, blk_frozen h 0⟩
theorem z2_ {w : World} {g : Nat} {v0 v1 : Value} {t : TypeId} (h : w.heap[g]? = some (.cells #[v0, v1] t (0, 0))) : w.cell? ⟨g, 0, none⟩ = some v0 ∧ w.cell? ⟨g, 1, none⟩ = some v1 ∧ w.frozen? ⟨g, 0, none⟩ = false ∧ w.frozen? ⟨g, 1, none⟩ = false := ⟨(blk_cell h 0).trans rfl, (blk_cell h 1).trans rfl, blk_frozen h 0, blk_frozen h 1⟩
theorem z4_ {w : World} {g : Nat} {v0 v1 v2 v3 : Value} {t : TypeId} (h : w.heap[g]? = some (.cells #[v0, v1, v2, v3] t (0, 0))) : w.cell? ⟨g, 0, none⟩ = some v0 ∧ w.cell? ⟨g, 1, none⟩ = some v1 ∧ w.cell? ⟨g, 2, none⟩ = some v2 ∧ w.cell? ⟨g, 3, none⟩ = some v3 ∧ w.frozen? ⟨g, 0, none⟩ = false ∧ w.frozen? ⟨g, 1, none⟩ = false ∧ w.frozen? ⟨g, 2, none⟩ = false ∧ w.frozen? ⟨g, 3, none⟩ = false := ⟨(blk_cell h 0).trans rfl, (blk_cell h 1).trans rfl, (blk_cell h 2).trans rfl, (blk_cell h 3).trans rfl, blk_frozen h 0, blk_frozen h 1, blk_frozen h 2, blk_frozen h 3⟩
theorem z14_ {w : World} {g : Nat} {v0 v1 v2 v3 v4 v5 v6 v7 v8 v9 v10 v11 v12 v13 : Value} {t : TypeId} (h : w.heap[g]? = some (.cells #[v0, v1, v2, v3, v4, v5, v6, v7, v8, v9, v10, v11, v12, v13] t (0, 0))) : w.cell? ⟨g, 0, none⟩ = some v0 ∧ w.cell? ⟨g, 1, none⟩ = some v1 ∧ w.cell? ⟨g, 2, none⟩ = some v2 ∧ w.cell? ⟨g, 3, none⟩ = some v3 ∧ w.cell? ⟨g, 4, none⟩ = some v4 ∧ w.cell? ⟨g, 5, none⟩ = some v5 ∧ w.cell? ⟨g, 6, none⟩ = some v6 ∧ w.cell? ⟨g, 7, none⟩ = some v7 ∧ w.cell? ⟨g, 8, none⟩ = some v8 ∧ w.cell? ⟨g, 9, none⟩ = some v9 ∧ w.cell? ⟨g, 10, none⟩ = some v10 ∧ w.cell? ⟨g, 11, none⟩ = some v11 ∧ w.cell? ⟨g, 12, none⟩ = some v12 ∧ w.cell? ⟨g, 13, none⟩ = some v13 ∧ w.frozen? ⟨g, 0, none⟩ = false ∧ w.frozen? ⟨g, 1, none⟩ = false ∧ w.frozen? ⟨g, 2, none⟩ = false ∧ w.frozen? ⟨g, 3, none⟩ = false ∧ w.frozen? ⟨g, 4, none⟩ = false ∧ w.frozen? ⟨g, 5, none⟩ = false ∧ w.frozen? ⟨g, 6, none⟩ = false ∧ w.frozen? ⟨g, 7, none⟩ = false ∧ w.frozen? ⟨g, 8, none⟩ = false ∧ w.frozen? ⟨g, 9, none⟩ = false ∧ w.frozen? ⟨g, 10, none⟩ = false ∧ w.frozen? ⟨g, 11, none⟩ = false ∧ w.frozen? ⟨g, 12, none⟩ = false ∧ w.frozen? ⟨g, 13, none⟩ = false := ⟨(blk_cell h 0).trans rfl, (blk_cell h 1).trans rfl, (blk_cell h 2).trans rfl, (blk_cell h 3).trans rfl, (blk_cell h 4).trans rfl, (blk_cell h 5).trans rfl, (blk_cell h 6).trans rfl, (blk_cell h 7).trans rfl, (blk_cell h 8).trans rfl, (blk_cell h 9).trans rfl, (blk_cell h 10).trans rfl, (blk_cell h 11).trans rfl, (blk_cell h 12).trans rfl, (blk_cell h 13).trans rfl, blk_frozen h 0, blk_frozen h 1, blk_frozen h 2, blk_frozen h 3, blk_frozen h 4, blk_frozen h 5, blk_frozen h 6, blk_frozen h 7, blk_frozen h 8, blk_frozen h 9, blk_frozen h 10, blk_frozen h 11, blk_frozen h 12, blk_frozen h 13⟩
def mk_ (n b : Nat) : Array Bool := ((List.range n).map b.testBit).toArray
theorem bE_ {α β : Type} {x : Option α} {f : α → Option β} {r : β} (h : x.bind f = some r) : ∃ t, Aside0 (x = some t) ∧ f t = some r := by
 obtain ⟨t, h1, h2⟩ := Option.bind_eq_some_iff.mp h
 exact ⟨t, ⟨h1⟩, h2⟩
theorem dw_ {w w' : World} (h : Drawn0 w w' := by ((repeat (first|exact Drawn0.refl _|apply Drawn0.step));done)) : Drawn0 w w' := h
theorem vR_ {p : Prop} (h : p := by (first|rfl|(simp [*] <;> fail)|(simp [my_isEmpty] <;> fail))) : p := h
theorem wC_ {p q : Prop} (x : q) (h : q → p := by (intro x_;(with_reducible repeat (first|refine bN ?_ _|refine bD ?_|refine bA ?_ _));exact x_)) : p := h x
theorem wO_ {p q : Prop} (x : q) (h : q → p := by (intro x_;(with_reducible repeat (first|apply rA|apply rN|apply rD));exact x_)) : p := h x
theorem wS_ {p q : Prop} (x : q) (h : q → p := by (intro x_;(with_reducible repeat first|apply Kd.S_alloc|apply Kd.S_drewN|apply Kd.S_drew);exact x_)) : p := h x
theorem wB_ {p : Prop} (h : p := by repeat (first|(with_reducible first|exact HB.out|apply lA|apply lN|apply lD|refine lS ?_ (Aside0.out (by assumption)))|exact HB.out)) : p := h
theorem bw_ {W0 W W2 : World} {g : Nat} {o : Obj} (x : W0.heap[g]? = some o) (hb : Below W.heap.size W W2) (h : W0.heap[g]? = some o → W.heap[g]? = some o := by (intro x_;(with_reducible repeat (first|refine bN ?_ _|refine bD ?_|refine bA ?_ _));exact x_)) : W2.heap[g]? = some o := blk_below (h x) hb
theorem bg_ {W0 W W2 : World} {g : Nat} {o : Obj} {row : Option Nat} (x : W0.heap[g]? = some o) (hg : W.grownBy W2 row) (n : some g ≠ row) (h : W0.heap[g]? = some o → W.heap[g]? = some o := by (intro x_;(with_reducible repeat (first|refine bN ?_ _|refine bD ?_|refine bA ?_ _));exact x_)) : W2.heap[g]? = some o := blk_grown (h x) hg n
theorem nl_ {W0 W : World} {g a : Nat} {o : Obj} (hg : a = W.heap.size) (x : W0.heap[g]? = some o) (h : W0.heap[g]? = some o → W.heap[g]? = some o := by (intro x_;(with_reducible repeat (first|refine bN ?_ _|refine bD ?_|refine bA ?_ _));exact x_)) : g ≠ a := by
 rw [hg]
 exact Nat.ne_of_lt (blk_lt (h x))
theorem ng_ {W0 W : World} {g a : Nat} {o : Obj} (hg : a = W.heap.size) (x : W0.heap[g]? = some o) (h : W0.heap[g]? = some o → W.heap[g]? = some o := by (intro x_;(with_reducible repeat (first|refine bN ?_ _|refine bD ?_|refine bA ?_ _));exact x_)) : a ≠ g := by
 rw [hg]
 exact Nat.ne_of_gt (blk_lt (h x))
theorem kb_ {W0 W W2 : World} {g g' : Nat} {o : Obj} (hk : KeepBut W W2 g none) (x : W0.heap[g']? = some o) (n : g' ≠ g) (h : W0.heap[g']? = some o → W.heap[g']? = some o := by (intro x_;(with_reducible repeat (first|refine bN ?_ _|refine bD ?_|refine bA ?_ _));exact x_)) : W2.heap[g']? = some o := KeepBut.blk hk (h x) n (by simp)
theorem bx_ {P : Program} {ops : Array Oper} {rest : List Oper} {o : Oper} {a : Act} {Q : Exit → Act → World → Prop} {W : World} {N : Tmp} {cs : Array Value} {t : TypeId}
 (h : ∀ g, g = W.heap.size → ∀ w1 : World, w1.heap[g]? = some (.cells cs t (0, 0)) → Below W.heap.size W w1 → wpList P ops Q rest (a.put o.dst (.pointer (some ⟨g, 0, none⟩))) w1) (hgd : o.guard = none := by rfl) (hd : o.dst = some N := by rfl)
 (hrun : (execOp a.eval o).run P W = .ok (.value (.pointer (some ⟨W.heap.size, 0, none⟩))) (W.alloc (.cells cs t (0, 0))) := by first|(go_simp;done)|(go_simp;rfl)) : wpList P ops Q (o :: rest) a W := box_event hgd hd hrun h
theorem gl_ {P : Program} {ops : Array Oper} {Q : Exit → Act → World → Prop} {rest : List Oper} {oi : Oper} {a : Act} {w : World} (N : Option Tmp) {f : FuncId} {fn : Func} {ao : Array Operand} {ts : Array TypeId} (hf : P.funcs[f]? = some fn) (args : Array Value)
 (h : Calls P f args w fun e w' => ∃ v, e = .returned v ∧ wpList P ops Q rest (a.put N v) w') (hd : oi.dst = N := by rfl) (hg : oi.guard = none := by rfl) (hname : (fn.name == "runtime.NumGoroutine") = false := by kernel_rfl) (hb : fn.body.isSome = true := by rfl)
 (hop : oi.op = .call { callee := .value (.func f), args := ao, argTypes := ts } := by rfl) (hargs : ao.map a.eval = args := by ((try simp only [mT,mC,mN]);first|done|rfl|(simp only [xD,xT];rfl))) : wpList P ops Q (oi :: rest) a w := goesL_ N hd hg hf hname hb args hop hargs h
theorem gs_ {P : Program} {ops : Array Oper} {Q : Exit → Act → World → Prop} {oi : Oper} {N : Option Tmp} {a : Act} {w : World} {K : Act → World → Prop} {f : FuncId} {fn : Func} {ao : Array Operand} {ts : Array TypeId} (hf : P.funcs[f]? = some fn) (args : Array Value)
 (h : Calls P f args w fun e w' => ∃ v, e = .returned v ∧ K (a.put N v) w') (hname : (fn.name == "runtime.NumGoroutine") = false := by kernel_rfl) (hb : fn.body.isSome = true := by rfl) (hw : Region.wanted oi (yielded ops a.tmps) = true := by rfl) (hN : oi.dst = N := by rfl)
 (hop : oi.op = .call { callee := .value (.func f), args := ao, argTypes := ts } := by rfl) (hargs : ao.map a.eval = args := by ((try simp only [mT,mC,mN]);first|done|rfl|(simp only [xD,xT];rfl))) : if Region.wanted oi (yielded ops a.tmps) = true then Oper.wp P oi a w K Q else K (a.put N undef) w := goes_ hf hname hb args hw hN hop hargs h
theorem bf_ {p q r : Prop} (n : r) (x : q) (h : r → q → p := by (intro n_ x_;(repeat (first|(with_reducible first|refine bN ?_ _|refine bD ?_|refine bA ?_ _)|refine blk_far ?_ n_ _));exact x_)) : p := h n x
theorem wX_ {p q : Prop} (x : q) (h : q → p := by (intro x_;repeat (first|exact (cB x_ HB.out)|(with_reducible first|refine cA ?_ _|refine cN ?_ _|refine cD ?_)))) : p := h x
theorem wY_ {p q : Prop} (x : q) (h : q → p := by (intro x_;repeat (first|exact x_|(with_reducible first|refine cA ?_ _|refine cN ?_ _|refine cD ?_)))) : p := h x
theorem zd3_ {w : World} {g : Nat} {v0 v1 v2 : Value} {t : TypeId} (h : w.heap[g]? = some (.cells #[v0, v1, v2] t (0, 0))) : w.cell? ⟨g, 0, none⟩ = some v0 ∧ w.cell? ⟨g, 1, none⟩ = some v1 ∧ w.cell? ⟨g, 2, none⟩ = some v2 := ⟨(blk_cell h 0).trans rfl, (blk_cell h 1).trans rfl, (blk_cell h 2).trans rfl⟩
theorem zd5_ {w : World} {g : Nat} {v0 v1 v2 v3 v4 : Value} {t : TypeId} (h : w.heap[g]? = some (.cells #[v0, v1, v2, v3, v4] t (0, 0))) : w.cell? ⟨g, 0, none⟩ = some v0 ∧ w.cell? ⟨g, 1, none⟩ = some v1 ∧ w.cell? ⟨g, 2, none⟩ = some v2 ∧ w.cell? ⟨g, 3, none⟩ = some v3 ∧ w.cell? ⟨g, 4, none⟩ = some v4 := ⟨(blk_cell h 0).trans rfl, (blk_cell h 1).trans rfl, (blk_cell h 2).trans rfl, (blk_cell h 3).trans rfl, (blk_cell h 4).trans rfl⟩
theorem bq2_ {W0 W : World} {g : Nat} {t : TypeId} {c0 c1 v0 v1 : Value} (x : W0.heap[g]? = some (.cells #[c0, c1] t (0, 0))) (h : W0.heap[g]? = some (.cells #[c0, c1] t (0, 0)) → W.heap[g]? = some (.cells #[c0, c1] t (0, 0)) := by (intro x_;(with_reducible repeat (first|refine bN ?_ _|refine bD ?_|refine bA ?_ _));exact x_)) : ((W.setCell ⟨g, 0, none⟩ v0).setCell ⟨g, 1, none⟩ v1).heap[g]? = some (.cells #[v0, v1] t (0, 0)) := by
 have h0 := h x
 exact (blk_put (cs' := #[v0, v1]) (blk_put (cs' := #[v0, c1]) h0 0 _ rfl) 1 _ rfl)
theorem bq3_ {W0 W : World} {g : Nat} {t : TypeId} {c0 c1 c2 v0 v1 v2 : Value} (x : W0.heap[g]? = some (.cells #[c0, c1, c2] t (0, 0))) (h : W0.heap[g]? = some (.cells #[c0, c1, c2] t (0, 0)) → W.heap[g]? = some (.cells #[c0, c1, c2] t (0, 0)) := by (intro x_;(with_reducible repeat (first|refine bN ?_ _|refine bD ?_|refine bA ?_ _));exact x_)) : (((W.setCell ⟨g, 0, none⟩ v0).setCell ⟨g, 1, none⟩ v1).setCell ⟨g, 2, none⟩ v2).heap[g]? = some (.cells #[v0, v1, v2] t (0, 0)) := by
 have h0 := h x
 exact (blk_put (cs' := #[v0, v1, v2]) (blk_put (cs' := #[v0, v1, c2]) (blk_put (cs' := #[v0, c1, c2]) h0 0 _ rfl) 1 _ rfl) 2 _ rfl)
theorem bq4_ {W0 W : World} {g : Nat} {t : TypeId} {c0 c1 c2 c3 v0 v1 v2 v3 : Value} (x : W0.heap[g]? = some (.cells #[c0, c1, c2, c3] t (0, 0))) (h : W0.heap[g]? = some (.cells #[c0, c1, c2, c3] t (0, 0)) → W.heap[g]? = some (.cells #[c0, c1, c2, c3] t (0, 0)) := by (intro x_;(with_reducible repeat (first|refine bN ?_ _|refine bD ?_|refine bA ?_ _));exact x_)) : ((((W.setCell ⟨g, 0, none⟩ v0).setCell ⟨g, 1, none⟩ v1).setCell ⟨g, 2, none⟩ v2).setCell ⟨g, 3, none⟩ v3).heap[g]? = some (.cells #[v0, v1, v2, v3] t (0, 0)) := by
 have h0 := h x
 exact (blk_put (cs' := #[v0, v1, v2, v3]) (blk_put (cs' := #[v0, v1, v2, c3]) (blk_put (cs' := #[v0, v1, c2, c3]) (blk_put (cs' := #[v0, c1, c2, c3]) h0 0 _ rfl) 1 _ rfl) 2 _ rfl) 3 _ rfl)
theorem bq5_ {W0 W : World} {g : Nat} {t : TypeId} {c0 c1 c2 c3 c4 v0 v1 v2 v3 v4 : Value} (x : W0.heap[g]? = some (.cells #[c0, c1, c2, c3, c4] t (0, 0))) (h : W0.heap[g]? = some (.cells #[c0, c1, c2, c3, c4] t (0, 0)) → W.heap[g]? = some (.cells #[c0, c1, c2, c3, c4] t (0, 0)) := by (intro x_;(with_reducible repeat (first|refine bN ?_ _|refine bD ?_|refine bA ?_ _));exact x_)) : (((((W.setCell ⟨g, 0, none⟩ v0).setCell ⟨g, 1, none⟩ v1).setCell ⟨g, 2, none⟩ v2).setCell ⟨g, 3, none⟩ v3).setCell ⟨g, 4, none⟩ v4).heap[g]? = some (.cells #[v0, v1, v2, v3, v4] t (0, 0)) := by
 have h0 := h x
 exact (blk_put (cs' := #[v0, v1, v2, v3, v4]) (blk_put (cs' := #[v0, v1, v2, v3, c4]) (blk_put (cs' := #[v0, v1, v2, c3, c4]) (blk_put (cs' := #[v0, v1, c2, c3, c4]) (blk_put (cs' := #[v0, c1, c2, c3, c4]) h0 0 _ rfl) 1 _ rfl) 2 _ rfl) 3 _ rfl) 4 _ rfl)
theorem bq11_ {W0 W : World} {g : Nat} {t : TypeId} {c0 c1 c2 c3 c4 c5 c6 c7 c8 c9 c10 v0 v1 v2 v3 v4 v5 v6 v7 v8 v9 v10 : Value} (x : W0.heap[g]? = some (.cells #[c0, c1, c2, c3, c4, c5, c6, c7, c8, c9, c10] t (0, 0))) (h : W0.heap[g]? = some (.cells #[c0, c1, c2, c3, c4, c5, c6, c7, c8, c9, c10] t (0, 0)) → W.heap[g]? = some (.cells #[c0, c1, c2, c3, c4, c5, c6, c7, c8, c9, c10] t (0, 0)) := by (intro x_;(with_reducible repeat (first|refine bN ?_ _|refine bD ?_|refine bA ?_ _));exact x_)) : (((((((((((W.setCell ⟨g, 0, none⟩ v0).setCell ⟨g, 1, none⟩ v1).setCell ⟨g, 2, none⟩ v2).setCell ⟨g, 3, none⟩ v3).setCell ⟨g, 4, none⟩ v4).setCell ⟨g, 5, none⟩ v5).setCell ⟨g, 6, none⟩ v6).setCell ⟨g, 7, none⟩ v7).setCell ⟨g, 8, none⟩ v8).setCell ⟨g, 9, none⟩ v9).setCell ⟨g, 10, none⟩ v10).heap[g]? = some (.cells #[v0, v1, v2, v3, v4, v5, v6, v7, v8, v9, v10] t (0, 0)) := by
 have h0 := h x
 exact (blk_put (cs' := #[v0, v1, v2, v3, v4, v5, v6, v7, v8, v9, v10]) (blk_put (cs' := #[v0, v1, v2, v3, v4, v5, v6, v7, v8, v9, c10]) (blk_put (cs' := #[v0, v1, v2, v3, v4, v5, v6, v7, v8, c9, c10]) (blk_put (cs' := #[v0, v1, v2, v3, v4, v5, v6, v7, c8, c9, c10]) (blk_put (cs' := #[v0, v1, v2, v3, v4, v5, v6, c7, c8, c9, c10]) (blk_put (cs' := #[v0, v1, v2, v3, v4, v5, c6, c7, c8, c9, c10]) (blk_put (cs' := #[v0, v1, v2, v3, v4, c5, c6, c7, c8, c9, c10]) (blk_put (cs' := #[v0, v1, v2, v3, c4, c5, c6, c7, c8, c9, c10]) (blk_put (cs' := #[v0, v1, v2, c3, c4, c5, c6, c7, c8, c9, c10]) (blk_put (cs' := #[v0, v1, c2, c3, c4, c5, c6, c7, c8, c9, c10]) (blk_put (cs' := #[v0, c1, c2, c3, c4, c5, c6, c7, c8, c9, c10]) h0 0 _ rfl) 1 _ rfl) 2 _ rfl) 3 _ rfl) 4 _ rfl) 5 _ rfl) 6 _ rfl) 7 _ rfl) 8 _ rfl) 9 _ rfl) 10 _ rfl)
theorem bq14_ {W0 W : World} {g : Nat} {t : TypeId} {c0 c1 c2 c3 c4 c5 c6 c7 c8 c9 c10 c11 c12 c13 v0 v1 v2 v3 v4 v5 v6 v7 v8 v9 v10 v11 v12 v13 : Value} (x : W0.heap[g]? = some (.cells #[c0, c1, c2, c3, c4, c5, c6, c7, c8, c9, c10, c11, c12, c13] t (0, 0))) (h : W0.heap[g]? = some (.cells #[c0, c1, c2, c3, c4, c5, c6, c7, c8, c9, c10, c11, c12, c13] t (0, 0)) → W.heap[g]? = some (.cells #[c0, c1, c2, c3, c4, c5, c6, c7, c8, c9, c10, c11, c12, c13] t (0, 0)) := by (intro x_;(with_reducible repeat (first|refine bN ?_ _|refine bD ?_|refine bA ?_ _));exact x_)) : ((((((((((((((W.setCell ⟨g, 0, none⟩ v0).setCell ⟨g, 1, none⟩ v1).setCell ⟨g, 2, none⟩ v2).setCell ⟨g, 3, none⟩ v3).setCell ⟨g, 4, none⟩ v4).setCell ⟨g, 5, none⟩ v5).setCell ⟨g, 6, none⟩ v6).setCell ⟨g, 7, none⟩ v7).setCell ⟨g, 8, none⟩ v8).setCell ⟨g, 9, none⟩ v9).setCell ⟨g, 10, none⟩ v10).setCell ⟨g, 11, none⟩ v11).setCell ⟨g, 12, none⟩ v12).setCell ⟨g, 13, none⟩ v13).heap[g]? = some (.cells #[v0, v1, v2, v3, v4, v5, v6, v7, v8, v9, v10, v11, v12, v13] t (0, 0)) := by
 have h0 := h x
 exact (blk_put (cs' := #[v0, v1, v2, v3, v4, v5, v6, v7, v8, v9, v10, v11, v12, v13]) (blk_put (cs' := #[v0, v1, v2, v3, v4, v5, v6, v7, v8, v9, v10, v11, v12, c13]) (blk_put (cs' := #[v0, v1, v2, v3, v4, v5, v6, v7, v8, v9, v10, v11, c12, c13]) (blk_put (cs' := #[v0, v1, v2, v3, v4, v5, v6, v7, v8, v9, v10, c11, c12, c13]) (blk_put (cs' := #[v0, v1, v2, v3, v4, v5, v6, v7, v8, v9, c10, c11, c12, c13]) (blk_put (cs' := #[v0, v1, v2, v3, v4, v5, v6, v7, v8, c9, c10, c11, c12, c13]) (blk_put (cs' := #[v0, v1, v2, v3, v4, v5, v6, v7, c8, c9, c10, c11, c12, c13]) (blk_put (cs' := #[v0, v1, v2, v3, v4, v5, v6, c7, c8, c9, c10, c11, c12, c13]) (blk_put (cs' := #[v0, v1, v2, v3, v4, v5, c6, c7, c8, c9, c10, c11, c12, c13]) (blk_put (cs' := #[v0, v1, v2, v3, v4, c5, c6, c7, c8, c9, c10, c11, c12, c13]) (blk_put (cs' := #[v0, v1, v2, v3, c4, c5, c6, c7, c8, c9, c10, c11, c12, c13]) (blk_put (cs' := #[v0, v1, v2, c3, c4, c5, c6, c7, c8, c9, c10, c11, c12, c13]) (blk_put (cs' := #[v0, v1, c2, c3, c4, c5, c6, c7, c8, c9, c10, c11, c12, c13]) (blk_put (cs' := #[v0, c1, c2, c3, c4, c5, c6, c7, c8, c9, c10, c11, c12, c13]) h0 0 _ rfl) 1 _ rfl) 2 _ rfl) 3 _ rfl) 4 _ rfl) 5 _ rfl) 6 _ rfl) 7 _ rfl) 8 _ rfl) 9 _ rfl) 10 _ rfl) 11 _ rfl) 12 _ rfl) 13 _ rfl)
abbrev oI := @Option.some.inj
abbrev qO := @Bool.eq_false_iff
abbrev qT := @Bool.false_ne_true
abbrev qE := @beq_iff_eq
abbrev qN := @bne_eq_false_iff_eq
abbrev qF := @beq_eq_false_iff_ne
abbrev qB := @bne_iff_ne
abbrev oB := @Option.bind_eq_some_iff
abbrev wD := @World.drewN_drewN
abbrev oS := @Option.bind_some
theorem pV_ {P : Program} {ops : Array Oper} {Q : Exit → Act → World → Prop} {md : Region.Mode} {S : World → Prop} {ds : List Nat} {T : Bool × List (List Nat × List Nat)} {i : Nat} {N : Option Tmp} {oi : Oper} {fuel : Nat} {l : Array Bool} {a a' : Act} {w : World} {v : Value} (l' : Array Bool) (hi : ops[i]? = some oi) (hN : oi.dst = N) (hT : rtab md ops = T)
 (h : wpAnyLast P md ops Q S ds fuel l' a' w) (hc : anyT T l.toList l'.toList i = true := by kernel_rfl) (hQ : ∀ c a w,Q (.panic c) (a.put oi.dst v) w → Q (.panic c) a w := by exact fun _ _ _ h => h) (h1 : Region.wanted oi (yielded ops a.tmps) = true := by rfl)
 (h2 : ∀ w,(execOp a.eval oi).run P w = .ok (.value v) w := by (intro w';go_simp;(with_reducible rfl))) (ha : a.put N v = a' := by (simp only [Act.put,lI,sZ,sS,i64_w,i32_w];rfl)) : wpAnyLast P md ops Q S ds (fuel + 1) l a w := pure_ l' hi hN (any_of hT hc) hQ (Or.inl ⟨h1,h2⟩) ha h
theorem pU_ {P : Program} {ops : Array Oper} {Q : Exit → Act → World → Prop} {md : Region.Mode} {S : World → Prop} {ds : List Nat} {T : Bool × List (List Nat × List Nat)} {i : Nat} {N : Option Tmp} {oi : Oper} {fuel : Nat} {l : Array Bool} {a a' : Act} {w : World} (l' : Array Bool) (hi : ops[i]? = some oi) (hN : oi.dst = N) (hT : rtab md ops = T)
 (h : wpAnyLast P md ops Q S ds fuel l' a' w) (hc : anyT T l.toList l'.toList i = true := by kernel_rfl) (hQ : ∀ c a w,Q (.panic c) (a.put oi.dst undef) w → Q (.panic c) a w := by exact fun _ _ _ h => h) (h1 : Region.wanted oi (yielded ops a.tmps) = false := by rfl)
 (ha : a.put N undef = a' := by (simp only [Act.put,lI,sZ,sS,i64_w,i32_w];rfl)) : wpAnyLast P md ops Q S ds (fuel + 1) l a w := pure_ l' hi hN (any_of hT hc) hQ (Or.inr ⟨h1,rfl⟩) ha h
theorem tV_ {P : Program} {ops : Array Oper} {Q : Exit → Act → World → Prop} {md : Region.Mode} {S : World → Prop} {ds : List Nat} {T : Bool × List (List Nat × List Nat)} {i : Nat} {N : Option Tmp} {oi : Oper} {fuel : Nat} {l : Array Bool} {a a' : Act} {w : World} {B : List Nat} {v : Value} (l' : Array Bool) (hi : ops[i]? = some oi) (hN : oi.dst = N) (hT : rtab md ops = T) (hB : waitsOk T.2 B = true) (hS : S w)
 (h : wpAnyLast P md ops Q S ds fuel l' a' w) (hc : takeW T B ds l.toList l'.toList i = true := by kernel_rfl) (hQ : ∀ c a w,Q (.panic c) (a.put oi.dst v) w → Q (.panic c) a w := by exact fun _ _ _ h => h) (h1 : Region.wanted oi (yielded ops a.tmps) = true := by rfl)
 (h2 : ∀ w,S w → (execOp a.eval oi).run P w = .ok (.value v) w := by (intro w' s_;(repeat (obtain ⟨t_,s_⟩ := s_));go_simp;(with_reducible rfl))) (ha : a.put N v = a' := by (simp only [Act.put,lI,sZ,sS,i64_w,i32_w];rfl)) : wpAnyLast P md ops Q S ds (fuel + 1) l a w := take_ l' hi hN (take_ofW hT hB hc) hQ (Or.inl ⟨h1,h2⟩) hS ha h
theorem yH_ {p q : Prop} {α : Sort _} {a b : α} (e : a = b) (h : q) (t : a = b → q → p := by (intro e_ H;first|(rw [e_];with_reducible exact H)|(have H2_ := (Option.bind_some _ _).symm.trans H;rw [e_];with_reducible exact H2_)|(have H2_ := (Option.bind_some _ _).symm.trans H;with_reducible exact H2_)|with_reducible exact H|(rw [e_];exact H)|exact H)) : p := t e h
theorem nH_ {p q : Prop} (h : p) (n : ¬ p := by simp) : q := absurd h n
theorem mv_ {w W : World} (hb : Below w.heap.size w W) {a : Addr} {v : Value} (h : w.cell? a = some v) : W.cell? a = some v := (hb.cell (wB w _ h)).trans h
theorem zf14_ {w : World} {g : Nat} {v0 v1 v2 v3 v4 v5 v6 v7 v8 v9 v10 v11 v12 v13 : Value} {t : TypeId} (h : w.heap[g]? = some (.cells #[v0, v1, v2, v3, v4, v5, v6, v7, v8, v9, v10, v11, v12, v13] t (0, 0))) : w.cell? ⟨g, 0, none⟩ = some v0 ∧ w.cell? ⟨g, 1, none⟩ = some v1 ∧ w.cell? ⟨g, 2, none⟩ = some v2 ∧ w.cell? ⟨g, 3, none⟩ = some v3 ∧ w.cell? ⟨g, 4, none⟩ = some v4 ∧ w.cell? ⟨g, 5, none⟩ = some v5 ∧ w.cell? ⟨g, 6, none⟩ = some v6 ∧ w.cell? ⟨g, 7, none⟩ = some v7 ∧ w.cell? ⟨g, 8, none⟩ = some v8 ∧ w.cell? ⟨g, 9, none⟩ = some v9 ∧ w.cell? ⟨g, 10, none⟩ = some v10 ∧ w.cell? ⟨g, 11, none⟩ = some v11 ∧ w.cell? ⟨g, 12, none⟩ = some v12 ∧ w.cell? ⟨g, 13, none⟩ = some v13 := ⟨(bC h 0).trans rfl,(bC h 1).trans rfl,(bC h 2).trans rfl,(bC h 3).trans rfl,(bC h 4).trans rfl,(bC h 5).trans rfl,(bC h 6).trans rfl,(bC h 7).trans rfl,(bC h 8).trans rfl,(bC h 9).trans rfl,(bC h 10).trans rfl,(bC h 11).trans rfl,(bC h 12).trans rfl,(bC h 13).trans rfl⟩
theorem ze14_ {w : World} {g : Nat} {v0 v1 v2 v3 v4 v5 v6 v7 v8 v9 v10 v11 v12 v13 : Value} {t : TypeId} {R : Prop} (h : w.heap[g]? = some (.cells #[v0, v1, v2, v3, v4, v5, v6, v7, v8, v9, v10, v11, v12, v13] t (0, 0))) (r : R) : w.cell? ⟨g, 0, none⟩ = some v0 ∧ w.cell? ⟨g, 1, none⟩ = some v1 ∧ w.cell? ⟨g, 2, none⟩ = some v2 ∧ w.cell? ⟨g, 3, none⟩ = some v3 ∧ w.cell? ⟨g, 4, none⟩ = some v4 ∧ w.cell? ⟨g, 5, none⟩ = some v5 ∧ w.cell? ⟨g, 6, none⟩ = some v6 ∧ w.cell? ⟨g, 7, none⟩ = some v7 ∧ w.cell? ⟨g, 8, none⟩ = some v8 ∧ w.cell? ⟨g, 9, none⟩ = some v9 ∧ w.cell? ⟨g, 10, none⟩ = some v10 ∧ w.cell? ⟨g, 11, none⟩ = some v11 ∧ w.cell? ⟨g, 12, none⟩ = some v12 ∧ w.cell? ⟨g, 13, none⟩ = some v13 ∧ R := ⟨(bC h 0).trans rfl,(bC h 1).trans rfl,(bC h 2).trans rfl,(bC h 3).trans rfl,(bC h 4).trans rfl,(bC h 5).trans rfl,(bC h 6).trans rfl,(bC h 7).trans rfl,(bC h 8).trans rfl,(bC h 9).trans rfl,(bC h 10).trans rfl,(bC h 11).trans rfl,(bC h 12).trans rfl,(bC h 13).trans rfl,r⟩
end Go.Proofs.YtmafmhgmdegplaaGreatDoor.P
