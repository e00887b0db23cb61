/- Written by a program in this session: each theorem here says that a Go function computes the Lean function beside it, or that a law's row holds, under the conditions that the theorem itself states. -/
import Derived.Test.YtmafmhgmdegplaaGreatDoorProg
import Derived.Below
import Derived.Deep.Draws
import Derived.Deep.AppendLies
import Derived.Maps.AppendAt
import Derived.OwnWalk
import Derived.Laws.BytesArg
import Derived.Laws.MakeOwn
import Derived.Laws.OwnMore
import Derived.Deep.OwnRows
import Derived.Tactics
import Derived.Lib.ConvBytes
import Derived.Laws.Slices
import Derived.WalkKit
import Derived.KernelRfl
import Derived.RowKit3
import Derived.Deep.LoopGhost
import Derived.Deep.QuietTactic
import Derived.BigQuiet
import Derived.WideLaws
import Derived.Deep.DeepCutAuto
import Derived.Deep.CutBlock
import Derived.Deep.RegionHeld3
import Derived.Laws.Rows
import Derived.Lib.AppendStr
import Derived.ArgAppend
import Derived.Laws.IdiomCopy
import Derived.OrdersHeld
import Derived.Laws.BitsLemmas
import Derived.RowKit
import Derived.Test.YtmafmhgmdegplaaGreatDoorZWWords
import Derived.Test.YtmafmhgmdegplaaGreatDoorZWLast
import Derived.Test.YtmafmhgmdegplaaGreatDoorZWTab
import Derived.Test.YtmafmhgmdegplaaGreatDoorZWApart
import Derived.Test.YtmafmhgmdegplaaGreatDoorZWFoot
import Derived.Test.YtmafmhgmdegplaaGreatDoorZWKept
import Derived.Test.YtmafmhgmdegplaaGreatDoorZWShare
import Derived.Test.YtmafmhgmdegplaaGreatDoorZWN
import Derived.Test.YtmafmhgmdegplaaGreatDoorZWEqStruct
import Derived.Test.YtmafmhgmdegplaaGreatDoorZWRepsOne
import Derived.Test.YtmafmhgmdegplaaGreatDoorZWGuard
import Derived.Test.YtmafmhgmdegplaaGreatDoorZWMore
import Derived.Lib.ItoaNum
import Derived.Lib.LaidTab
namespace Go.Proofs.YtmafmhgmdegplaaGreatDoor.P
open Go.RowKit Go.Proofs.YtmafmhgmdegplaaGreatDoorW.PrintWords Go.Proofs.YtmafmhgmdegplaaGreatDoorW.PrintLast Go.Proofs.YtmafmhgmdegplaaGreatDoorW.PrintMore
attribute [local go_sem] max2_int min2_int max_two min_two max_three min_three max_four min_four   -- for this text's walks alone
set_option linter.unusedVariables false
set_option linter.unusedSimpArgs false
def errW : Option Int → Value
 | none => .nilIface
 | some c => .iface 0 (.int .i64 c)
theorem errW_none : errW none = .nilIface := rfl
theorem errW_some (c : Int) : errW (some c) = .iface 0 (.int .i64 c) := rfl
theorem my_isEmpty (l : List UInt8) : (l != []) = !l.isEmpty := by cases l <;> rfl
structure BRow (w W : World) (g : Nat) (xs : List Int) : Prop where
 below : Below w.heap.size w W
 new : w.heap.size ≤ g
 cell : ∀ j, j < xs.length → W.cell? ⟨g, j, none⟩ = some (.int .u8 (xs.getD j 0))
 free : ∀ j, j < xs.length → W.frozen? ⟨g, j, none⟩ = false
theorem BRow.made (w : World) (e : TypeId) (s : ByteArray) : BRow w (Lib.bytesWorld w e s) w.heap.size (bytesOf s) := by
 have hs : s.size ≤ (Lib.bytesCells w e s).size := by
  unfold Lib.bytesCells
  rw [Array.size_append, Array.size_map]
  exact Nat.le_add_right _ _
 have hn := Lib.bytesWorld_at_new w e s
 refine ⟨⟨?_, ?_, ?_, by rw [Lib.bytesWorld_size]; omega, fun j hj => Lib.bytesWorld_at_old w e s j hj⟩, Nat.le_refl _, fun j hj => ?_, fun j hj => ?_⟩
 ·simp [Lib.bytesWorld, World.freeze, World.alloc, World.drew, -World.alloc_eq, -World.drew_eq]
 ·simp [Lib.bytesWorld, World.freeze, World.alloc, World.drew, -World.alloc_eq, -World.drew_eq]
 ·simp [Lib.bytesWorld, World.freeze, World.alloc, World.drew, -World.alloc_eq, -World.drew_eq]
 ·rw [bytesOf_length] at hj
  have hj' : j < s.data.toList.length := by rw [data_length]; exact hj
  rw [Lib.bytesWorld_cell w e s j hj]
  simp [bytesOf, List.getD_eq_getElem?_getD, List.getElem?_eq_getElem hj']
 ·rw [bytesOf_length] at hj
  unfold World.frozen?
  rw [hn]
  have : ¬ (Lib.bytesCells w e s).size ≤ j := by omega
  simp [this]
theorem BRow.set {w W : World} {g : Nat} {xs : List Int} (h : BRow w W g xs) (i : Nat) (x : Int) : BRow w (W.setCell ⟨g, i, none⟩ (.int .u8 x)) g (xs.set i x) := by
 refine ⟨h.below.setCell h.new _, h.new, fun j hj => ?_, fun j hj => ?_⟩
 ·rw [List.length_set] at hj
  by_cases e : i = j
  ·subst e
   rw [World.cell?_setCell_same _ _ _ (h.cell i hj)]
   simp [List.getD_eq_getElem?_getD, List.getElem?_set, hj]
  ·rw [World.cell?_setCell_other _ _ _ _ (by simp [e]), h.cell j hj]
   simp [List.getD_eq_getElem?_getD, List.getElem?_set, e]
 ·rw [List.length_set] at hj
  rw [World.frozen?_setCell, h.free j hj]
theorem BRow.drewN {w W : World} {g : Nat} {xs : List Int} (h : BRow w W g xs) (n : Nat) : BRow w (W.drewN n) g xs :=
 ⟨pw_below_drewN h.below n, h.new, h.cell, h.free⟩
theorem BRow.text {P : Program} {w W : World} {g : Nat} {xs : List Int} (h : BRow w W g xs) (src e dst : TypeId) (hs : P.underlying src = some (.slice e)) (he : P.underlying e = some (.int .u8)) (hd : P.underlying dst = some .string) (n cap : Nat) (hn : xs.length = n) :
  (convert src dst (.slice (some ⟨g, 0, none⟩) n cap)).run P W = .ok (.string (strOfNums xs)) W :=
 run_convert_bytes_arg W src e hs he g 0 n cap xs hn (fun i hi => by rw [Nat.zero_add]; exact h.cell i (by omega)) dst hd
structure Gw (w : World) : Prop where
 tab : Lib.TabIs Tryz.prog w "internal/strconv.uint64pow10" .u64 Lib.pow10Tab
structure Gm (w : World) : Prop where
 max : ∃ m : Int, w.cell? ⟨1, 0, none⟩ = some (.int .i64 m)
structure Gb (w : World) : Prop where
 tab : Lib.TabIs Tryz.prog w "internal/strconv.uint64pow10" .u64 Lib.pow10Tab
 max : ∃ m : Int, w.cell? ⟨1, 0, none⟩ = some (.int .i64 m)
structure Ge (w : World) : Prop where
 tab : Lib.TabIs Tryz.prog w "internal/strconv.uint64pow10" .u64 Lib.pow10Tab
 syn : ∃ ev : Value, w.var? Tryz.prog "strconv.ErrSyntax" = some #[ev] ∧ (ev = .nilIface ∨ ∃ te pe, ev = .iface te pe)
theorem var_below {P : Program} {w W : World} (hb : Below w.heap.size w W) {n : String} {cs : Array Value} (h : w.var? P n = some cs) : W.var? P n = some cs := by
 unfold World.var? at h ⊢
 cases hg : P.globalNamed n with
 | none => simp [hg] at h
 | some g =>
  simp only [hg, Option.bind_some] at h ⊢
  have hlt : g < w.heap.size := by
   rcases Nat.lt_or_ge g w.heap.size with h' | h'
   ·exact h'
   ·simp [Array.getElem?_eq_none h'] at h
  rw [hb.block g hlt]
  exact h
theorem max_below {w W : World} (hb : Below w.heap.size w W) (h : ∃ m : Int, w.cell? ⟨1, 0, none⟩ = some (.int .i64 m)) : ∃ m : Int, W.cell? ⟨1, 0, none⟩ = some (.int .i64 m) := by
 obtain ⟨m, h⟩ := h
 exact ⟨m, (hb.cell (p := ⟨1, 0, none⟩) (World.block_lt_of_cell? w ⟨1, 0, none⟩ h)).trans h⟩
theorem Gw.below {w W : World} (h : Gw w) (hb : Below w.heap.size w W) : Gw W := ⟨var_below hb h.tab⟩
theorem Gw.drewN {w : World} (h : Gw w) (n : Nat) : Gw (w.drewN n) := ⟨var_below (pw_below_drewN (Below.refl _ _) n) h.tab⟩
theorem Gm.below {w W : World} (h : Gm w) (hb : Below w.heap.size w W) : Gm W := ⟨max_below hb h.max⟩
theorem Gm.drewN {w : World} (h : Gm w) (n : Nat) : Gm (w.drewN n) := ⟨max_below (pw_below_drewN (Below.refl _ _) n) h.max⟩
theorem Gb.below {w W : World} (h : Gb w) (hb : Below w.heap.size w W) : Gb W := ⟨var_below hb h.tab, max_below hb h.max⟩
theorem Gb.drewN {w : World} (h : Gb w) (n : Nat) : Gb (w.drewN n) := ⟨var_below (pw_below_drewN (Below.refl _ _) n) h.tab, max_below (pw_below_drewN (Below.refl _ _) n) h.max⟩
theorem Gb.toGw {w : World} (h : Gb w) : Gw w := ⟨h.tab⟩
theorem Gb.toGm {w : World} (h : Gb w) : Gm w := ⟨h.max⟩
theorem Ge.below {w W : World} (h : Ge w) (hb : Below w.heap.size w W) : Ge W := ⟨var_below hb h.tab, h.syn.imp fun _ ⟨h1, h2⟩ => ⟨var_below hb h1, h2⟩⟩
theorem Ge.drewN {w : World} (h : Ge w) (n : Nat) : Ge (w.drewN n) := h.below (pw_below_drewN (Below.refl _ _) n)
theorem Ge.toGw {w : World} (h : Ge w) : Gw w := ⟨h.tab⟩
def fieldL : List ByteArray := [⟨#[97, 117, 116, 104, 111, 114, 115]⟩, ⟨#[101, 100, 105, 116, 111, 114, 115]⟩, ⟨#[116, 105, 116, 108, 101]⟩, ⟨#[99, 111, 110, 116, 97, 105, 110, 101, 114]⟩, ⟨#[112, 117, 98, 108, 105, 115, 104, 101, 114]⟩, ⟨#[100, 97, 116, 101]⟩, ⟨#[118, 111, 108, 117, 109, 101]⟩, ⟨#[112, 97, 103, 101, 115]⟩]
def FldIs (P : Program) (w : World) : Prop := w.var? P "loop.example/g00896/impl.fieldWords" = some (fieldL.map Value.string).toArray
structure Gf (w : World) : Prop where
 fld : FldIs Tryz.prog w
structure Gfm (w : World) : Prop where
 fld : FldIs Tryz.prog w
 max : ∃ m : Int, w.cell? ⟨1, 0, none⟩ = some (.int .i64 m)
structure Gfw (w : World) : Prop where
 fld : FldIs Tryz.prog w
 tab : Lib.TabIs Tryz.prog w "internal/strconv.uint64pow10" .u64 Lib.pow10Tab
structure Gfb (w : World) : Prop where
 fld : FldIs Tryz.prog w
 tab : Lib.TabIs Tryz.prog w "internal/strconv.uint64pow10" .u64 Lib.pow10Tab
 max : ∃ m : Int, w.cell? ⟨1, 0, none⟩ = some (.int .i64 m)
theorem Gf.below {w W : World} (h : Gf w) (hb : Below w.heap.size w W) : Gf W := ⟨var_below hb h.fld⟩
theorem Gf.drewN {w : World} (h : Gf w) (n : Nat) : Gf (w.drewN n) := h.below (pw_below_drewN (Below.refl _ _) n)
theorem Gfm.below {w W : World} (h : Gfm w) (hb : Below w.heap.size w W) : Gfm W := ⟨var_below hb h.fld, max_below hb h.max⟩
theorem Gfm.drewN {w : World} (h : Gfm w) (n : Nat) : Gfm (w.drewN n) := h.below (pw_below_drewN (Below.refl _ _) n)
theorem Gfw.below {w W : World} (h : Gfw w) (hb : Below w.heap.size w W) : Gfw W := ⟨var_below hb h.fld, var_below hb h.tab⟩
theorem Gfw.drewN {w : World} (h : Gfw w) (n : Nat) : Gfw (w.drewN n) := h.below (pw_below_drewN (Below.refl _ _) n)
theorem Gfb.below {w W : World} (h : Gfb w) (hb : Below w.heap.size w W) : Gfb W := ⟨var_below hb h.fld, var_below hb h.tab, max_below hb h.max⟩
theorem Gfb.drewN {w : World} (h : Gfb w) (n : Nat) : Gfb (w.drewN n) := h.below (pw_below_drewN (Below.refl _ _) n)
theorem Gfm.toGf {w : World} (h : Gfm w) : Gf w := ⟨h.fld⟩
theorem Gfm.toGm {w : World} (h : Gfm w) : Gm w := ⟨h.max⟩
theorem Gfw.toGf {w : World} (h : Gfw w) : Gf w := ⟨h.fld⟩
theorem Gfw.toGw {w : World} (h : Gfw w) : Gw w := ⟨h.tab⟩
theorem Gfb.toGf {w : World} (h : Gfb w) : Gf w := ⟨h.fld⟩
theorem Gfb.toGm {w : World} (h : Gfb w) : Gm w := ⟨h.max⟩
theorem Gfb.toGw {w : World} (h : Gfb w) : Gw w := ⟨h.tab⟩
theorem Gfb.toGfw {w : World} (h : Gfb w) : Gfw w := ⟨h.fld, h.tab⟩
theorem FldIs.cell {P : Program} {W : World} {g : Nat} (h : FldIs P W) (hg : P.globalNamed "loop.example/g00896/impl.fieldWords" = some g) (i : Nat) (x : ByteArray) (hi : fieldL[i]? = some x) : W.cell? ⟨g, i, none⟩ = some (.string x) := by
 have := World.var?_cell hg h i
 rw [this]
 simp [hi]
theorem FldIs.cells8 {W : World} (h : FldIs Tryz.prog W) : W.cell? ⟨0, 0, none⟩ = some (.string ⟨#[97, 117, 116, 104, 111, 114, 115]⟩) ∧ W.cell? ⟨0, 1, none⟩ = some (.string ⟨#[101, 100, 105, 116, 111, 114, 115]⟩) ∧ W.cell? ⟨0, 2, none⟩ = some (.string ⟨#[116, 105, 116, 108, 101]⟩) ∧ W.cell? ⟨0, 3, none⟩ = some (.string ⟨#[99, 111, 110, 116, 97, 105, 110, 101, 114]⟩) ∧ W.cell? ⟨0, 4, none⟩ = some (.string ⟨#[112, 117, 98, 108, 105, 115, 104, 101, 114]⟩) ∧ W.cell? ⟨0, 5, none⟩ = some (.string ⟨#[100, 97, 116, 101]⟩) ∧ W.cell? ⟨0, 6, none⟩ = some (.string ⟨#[118, 111, 108, 117, 109, 101]⟩) ∧ W.cell? ⟨0, 7, none⟩ = some (.string ⟨#[112, 97, 103, 101, 115]⟩) := ⟨h.cell (by kernel_rfl) 0 _ rfl, h.cell (by kernel_rfl) 1 _ rfl, h.cell (by kernel_rfl) 2 _ rfl, h.cell (by kernel_rfl) 3 _ rfl, h.cell (by kernel_rfl) 4 _ rfl, h.cell (by kernel_rfl) 5 _ rfl, h.cell (by kernel_rfl) 6 _ rfl, h.cell (by kernel_rfl) 7 _ rfl⟩
set_option maxRecDepth 100000 in
theorem fld_idx (j : Int) (h0 : 0 ≤ j) (h1 : j < 8) : ∀ W, (Instr.index 170 (.agg #[.string ⟨#[97, 117, 116, 104, 111, 114, 115]⟩, .string ⟨#[101, 100, 105, 116, 111, 114, 115]⟩, .string ⟨#[116, 105, 116, 108, 101]⟩, .string ⟨#[99, 111, 110, 116, 97, 105, 110, 101, 114]⟩, .string ⟨#[112, 117, 98, 108, 105, 115, 104, 101, 114]⟩, .string ⟨#[100, 97, 116, 101]⟩, .string ⟨#[118, 111, 108, 117, 109, 101]⟩, .string ⟨#[112, 97, 103, 101, 115]⟩]) (.int .i64 j)).run Tryz.prog W = .ok (.string (rdOf ByteArray.empty fieldL j)) W := by
 have hj : j = 0 ∨ j = 1 ∨ j = 2 ∨ j = 3 ∨ j = 4 ∨ j = 5 ∨ j = 6 ∨ j = 7 := by omega
 rcases hj with rfl | rfl | rfl | rfl | rfl | rfl | rfl | rfl <;> exact fun _ => by kernel_rfl
theorem info5 : (Tryz.prog.info? 5).map (fun i => (i.zero, i.size, i.bytes)) = some (some (.int .u8 0), 1, 1) := by kernel_rfl
theorem info9 : (Tryz.prog.info? 9).map (fun i => (i.zero, i.size, i.bytes)) = some (some (.string ⟨#[]⟩), 1, 16) := by kernel_rfl
theorem info36 : (Tryz.prog.info? 36).map (fun i => (i.zero, i.size, i.bytes)) = some (some (.agg #[(.int .i64 0), (.string ⟨#[]⟩), (.string ⟨#[]⟩), (.slice none 0 0)]), 4, 64) := by kernel_rfl
theorem info157 : (Tryz.prog.info? 157).map (fun i => (i.zero, i.size, i.bytes)) = some (some (.agg #[(.slice none 0 0), (.string ⟨#[]⟩), (.string ⟨#[]⟩), (.string ⟨#[]⟩)]), 4, 72) := by kernel_rfl
structure S24 where
 f0 : Int
 f1 : ByteArray
 f2 : ByteArray
 f3 : (List S24)
def z24 : S24 := ⟨(0 : Int), (⟨#[]⟩ : ByteArray), (⟨#[]⟩ : ByteArray), ([] : List S24)⟩
def F24 (d : Kd S24) : Kd S24 := Kd.iso (Kd.pair (Kd.int .i64) (Kd.pair Kd.string (Kd.pair Kd.string (Kd.slice 24 d)))) (fun x : S24 => (x.f0, x.f1, x.f2, x.f3))
theorem mono24 : Kd.Mono F24 := Kd.mono_iso _ (Kd.mono_pair (Kd.mono_const _) (Kd.mono_pair (Kd.mono_const _) (Kd.mono_pair (Kd.mono_const _) (Kd.mono_slice 24 Kd.mono_id))))
theorem sub24 : Kd.Sub F24 [24] := Kd.sub_iso _ (Kd.sub_pair (Kd.sub_const _ (by decide)) (Kd.sub_pair (Kd.sub_const _ (by decide)) (Kd.sub_pair (Kd.sub_const _ (by decide)) (Kd.sub_slice 24 (by decide) Kd.sub_id))))
theorem sz24 : ∀ n, (Kd.upto F24 4 [24] n).sz = 4 := Kd.upto_sz (fun _ => rfl)
def k24 : Kd S24 := Kd.fix F24 4 [24] sz24 (Kd.upto_E sub24)
theorem k24_open {w : World} {x : S24} {cs : List Value} (h : k24.K w x cs) : ∃ A3 c3, cs = [.int .i64 x.f0, .string x.f1, .string x.f2, .slice A3 x.f3.length c3] ∧ x.f3.length ≤ c3 ∧ k24.C w A3 x.f3.length x.f3 := by
 obtain ⟨n, h⟩ := h
 cases n with
 | zero => exact h.elim
 | succ n =>
  obtain ⟨_, _, rfl, rfl, ⟨_, _, rfl, rfl, ⟨_, _, rfl, rfl, ⟨A3, c3, rfl, l3, g3⟩⟩⟩⟩ := h
  exact ⟨A3, c3, rfl, l3, Kd.fix_C g3⟩
theorem k24_mk (w : World) (x : S24) {A3 : Option Addr} {c3 : Nat} (l3 : x.f3.length ≤ c3) (g3 : k24.C w A3 x.f3.length x.f3) : k24.K w x [.int .i64 x.f0, .string x.f1, .string x.f2, .slice A3 x.f3.length c3] := by
 obtain ⟨n3, q3⟩ := Kd.fix_C_back mono24 g3
 have r3 := Kd.upto_C_le mono24 sz24 (show n3 ≤ n3 by omega) q3
 exact ⟨n3 + 1, ⟨[.int .i64 x.f0], [.string x.f1, .string x.f2, .slice A3 x.f3.length c3], rfl, rfl, ⟨[.string x.f1], [.string x.f2, .slice A3 x.f3.length c3], rfl, rfl, ⟨[.string x.f2], [.slice A3 x.f3.length c3], rfl, rfl, ⟨A3, c3, rfl, l3, r3⟩⟩⟩⟩⟩
def rd_T24 (xs : List S24) (i : Int) : S24 := xs.getD i.toNat z24
theorem at_T24 {w : World} {A : Option Addr} {n : Nat} {xs : List S24} (h : Kd.C k24 w A n xs) (i : Int) (h0 : 0 ≤ i) (h1 : i < n) : ∃ ad A3 c3, A = some ad ∧ w.cell? (ad.add (i.toNat * 4)) = some (.int .i64 (rd_T24 xs i).f0) ∧ w.cell? ⟨(ad.add (i.toNat * 4)).block, (ad.add (i.toNat * 4)).off + 1, none⟩ = some (.string (rd_T24 xs i).f1) ∧ w.cell? ⟨(ad.add (i.toNat * 4)).block, (ad.add (i.toNat * 4)).off + 2, none⟩ = some (.string (rd_T24 xs i).f2) ∧ w.cell? ⟨(ad.add (i.toNat * 4)).block, (ad.add (i.toNat * 4)).off + 3, none⟩ = some (.slice A3 (rd_T24 xs i).f3.length c3) ∧ (rd_T24 xs i).f3.length ≤ c3 ∧ k24.C w A3 (rd_T24 xs i).f3.length (rd_T24 xs i).f3 := by
 obtain ⟨ad, c, e, _, hK, hc0⟩ := Kd.C_get h z24 i h0 h1
 have hc : ∀ j u, c[j]? = some u → w.cell? (ad.add (i.toNat * 4 + j)) = some u := hc0
 obtain ⟨A3, c3, rfl, l3, g3⟩ := k24_open hK
 exact ⟨ad, A3, c3, e, hc 0 _ rfl, by rw [← add_field _ _ 1 (by omega)]; exact hc 1 _ rfl, by rw [← add_field _ _ 2 (by omega)]; exact hc 2 _ rfl, by rw [← add_field _ _ 3 (by omega)]; exact hc 3 _ rfl, l3, g3⟩
structure S152 where
 f0 : (List ByteArray)
 f1 : ByteArray
 f2 : ByteArray
 f3 : ByteArray
def z152 : S152 := ⟨([] : List ByteArray), (⟨#[]⟩ : ByteArray), (⟨#[]⟩ : ByteArray), (⟨#[]⟩ : ByteArray)⟩
def k152 : Kd S152 := Kd.iso (Kd.pair (Kd.slice 9 Kd.string) (Kd.pair Kd.string (Kd.pair Kd.string Kd.string))) (fun x : S152 => (x.f0, x.f1, x.f2, x.f3))
theorem k152_open {w : World} {x : S152} {cs : List Value} (h : k152.K w x cs) : ∃ A0 c0, cs = [.slice A0 x.f0.length c0, .string x.f1, .string x.f2, .string x.f3] ∧ x.f0.length ≤ c0 ∧ Kd.string.C w A0 x.f0.length x.f0 := by
 obtain ⟨_, _, rfl, ⟨A0, c0, rfl, l0, g0⟩, ⟨_, _, rfl, rfl, ⟨_, _, rfl, rfl, rfl⟩⟩⟩ := h
 exact ⟨A0, c0, rfl, l0, g0⟩
def rd_T152 (xs : List S152) (i : Int) : S152 := xs.getD i.toNat z152
theorem at_T152 {w : World} {A : Option Addr} {n : Nat} {xs : List S152} (h : Kd.C k152 w A n xs) (i : Int) (h0 : 0 ≤ i) (h1 : i < n) : ∃ ad A0 c0, A = some ad ∧ w.cell? (ad.add (i.toNat * 4)) = some (.slice A0 (rd_T152 xs i).f0.length c0) ∧ w.cell? ⟨(ad.add (i.toNat * 4)).block, (ad.add (i.toNat * 4)).off + 1, none⟩ = some (.string (rd_T152 xs i).f1) ∧ w.cell? ⟨(ad.add (i.toNat * 4)).block, (ad.add (i.toNat * 4)).off + 2, none⟩ = some (.string (rd_T152 xs i).f2) ∧ w.cell? ⟨(ad.add (i.toNat * 4)).block, (ad.add (i.toNat * 4)).off + 3, none⟩ = some (.string (rd_T152 xs i).f3) ∧ (rd_T152 xs i).f0.length ≤ c0 ∧ Kd.string.C w A0 (rd_T152 xs i).f0.length (rd_T152 xs i).f0 := by
 obtain ⟨ad, c, e, _, hK, hc0⟩ := Kd.C_get h z152 i h0 h1
 have hc : ∀ j u, c[j]? = some u → w.cell? (ad.add (i.toNat * 4 + j)) = some u := hc0
 obtain ⟨A0, c0, rfl, l0, g0⟩ := k152_open hK
 exact ⟨ad, A0, c0, e, hc 0 _ rfl, by rw [← add_field _ _ 1 (by omega)]; exact hc 1 _ rfl, by rw [← add_field _ _ 2 (by omega)]; exact hc 2 _ rfl, by rw [← add_field _ _ 3 (by omega)]; exact hc 3 _ rfl, l0, g0⟩
structure S36 where
 f0 : Int
 f1 : ByteArray
 f2 : ByteArray
 f3 : (List S36)
def z36 : S36 := ⟨(0 : Int), (⟨#[]⟩ : ByteArray), (⟨#[]⟩ : ByteArray), ([] : List S36)⟩
def F36 (d : Kd S36) : Kd S36 := Kd.iso (Kd.pair (Kd.int .i64) (Kd.pair Kd.string (Kd.pair Kd.string (Kd.slice 36 d)))) (fun x : S36 => (x.f0, x.f1, x.f2, x.f3))
theorem mono36 : Kd.Mono F36 := Kd.mono_iso _ (Kd.mono_pair (Kd.mono_const _) (Kd.mono_pair (Kd.mono_const _) (Kd.mono_pair (Kd.mono_const _) (Kd.mono_slice 36 Kd.mono_id))))
theorem sub36 : Kd.Sub F36 [36] := Kd.sub_iso _ (Kd.sub_pair (Kd.sub_const _ (by decide)) (Kd.sub_pair (Kd.sub_const _ (by decide)) (Kd.sub_pair (Kd.sub_const _ (by decide)) (Kd.sub_slice 36 (by decide) Kd.sub_id))))
theorem sz36 : ∀ n, (Kd.upto F36 4 [36] n).sz = 4 := Kd.upto_sz (fun _ => rfl)
def k36 : Kd S36 := Kd.fix F36 4 [36] sz36 (Kd.upto_E sub36)
theorem k36_open {w : World} {x : S36} {cs : List Value} (h : k36.K w x cs) : ∃ A3 c3, cs = [.int .i64 x.f0, .string x.f1, .string x.f2, .slice A3 x.f3.length c3] ∧ x.f3.length ≤ c3 ∧ k36.C w A3 x.f3.length x.f3 := by
 obtain ⟨n, h⟩ := h
 cases n with
 | zero => exact h.elim
 | succ n =>
  obtain ⟨_, _, rfl, rfl, ⟨_, _, rfl, rfl, ⟨_, _, rfl, rfl, ⟨A3, c3, rfl, l3, g3⟩⟩⟩⟩ := h
  exact ⟨A3, c3, rfl, l3, Kd.fix_C g3⟩
theorem k36_openM {w : World} {base : Nat} {ok : Nat → Prop} {x : S36} {cs : List Value} (h : k36.M w base ok x cs) : ∃ v3, cs = [.int .i64 x.f0, .string x.f1, .string x.f2, v3] ∧ k36.R 36 w base ok v3 x.f3 := by
 obtain ⟨n, h⟩ := h
 cases n with
 | zero => exact h.elim
 | succ n =>
  obtain ⟨_, _, rfl, rfl, ⟨_, _, rfl, rfl, ⟨_, _, rfl, rfl, ⟨v3, rfl, g3⟩⟩⟩⟩ := h
  exact ⟨v3, rfl, Kd.fix_R g3⟩
theorem k36_mkM (w : World) (base : Nat) (ok : Nat → Prop) (x : S36) {v3 : Value} (g3 : k36.R 36 w base ok v3 x.f3) : k36.M w base ok x [.int .i64 x.f0, .string x.f1, .string x.f2, v3] := by
 obtain ⟨n3, q3⟩ := Kd.fix_R_back mono36 g3
 have r3 := Kd.upto_R_le mono36 sz36 (show n3 ≤ n3 by omega) q3
 exact ⟨n3 + 1, ⟨[.int .i64 x.f0], [.string x.f1, .string x.f2, v3], rfl, rfl, ⟨[.string x.f1], [.string x.f2, v3], rfl, rfl, ⟨[.string x.f2], [v3], rfl, rfl, ⟨v3, rfl, r3⟩⟩⟩⟩⟩
def rd_T36 (xs : List S36) (i : Int) : S36 := xs.getD i.toNat z36
theorem at_T36 {w : World} {A : Option Addr} {n : Nat} {xs : List S36} (h : Kd.C k36 w A n xs) (i : Int) (h0 : 0 ≤ i) (h1 : i < n) : ∃ ad A3 c3, A = some ad ∧ w.cell? (ad.add (i.toNat * 4)) = some (.int .i64 (rd_T36 xs i).f0) ∧ w.cell? ⟨(ad.add (i.toNat * 4)).block, (ad.add (i.toNat * 4)).off + 1, none⟩ = some (.string (rd_T36 xs i).f1) ∧ w.cell? ⟨(ad.add (i.toNat * 4)).block, (ad.add (i.toNat * 4)).off + 2, none⟩ = some (.string (rd_T36 xs i).f2) ∧ w.cell? ⟨(ad.add (i.toNat * 4)).block, (ad.add (i.toNat * 4)).off + 3, none⟩ = some (.slice A3 (rd_T36 xs i).f3.length c3) ∧ (rd_T36 xs i).f3.length ≤ c3 ∧ k36.C w A3 (rd_T36 xs i).f3.length (rd_T36 xs i).f3 := by
 obtain ⟨ad, c, e, _, hK, hc0⟩ := Kd.C_get h z36 i h0 h1
 have hc : ∀ j u, c[j]? = some u → w.cell? (ad.add (i.toNat * 4 + j)) = some u := hc0
 obtain ⟨A3, c3, rfl, l3, g3⟩ := k36_open hK
 exact ⟨ad, A3, c3, e, hc 0 _ rfl, by rw [← add_field _ _ 1 (by omega)]; exact hc 1 _ rfl, by rw [← add_field _ _ 2 (by omega)]; exact hc 2 _ rfl, by rw [← add_field _ _ 3 (by omega)]; exact hc 3 _ rfl, l3, g3⟩
structure S157 where
 f0 : (List ByteArray)
 f1 : ByteArray
 f2 : ByteArray
 f3 : ByteArray
def z157 : S157 := ⟨([] : List ByteArray), (⟨#[]⟩ : ByteArray), (⟨#[]⟩ : ByteArray), (⟨#[]⟩ : ByteArray)⟩
def k157 : Kd S157 := Kd.iso (Kd.pair (Kd.slice 9 Kd.string) (Kd.pair Kd.string (Kd.pair Kd.string Kd.string))) (fun x : S157 => (x.f0, x.f1, x.f2, x.f3))
theorem k157_open {w : World} {x : S157} {cs : List Value} (h : k157.K w x cs) : ∃ A0 c0, cs = [.slice A0 x.f0.length c0, .string x.f1, .string x.f2, .string x.f3] ∧ x.f0.length ≤ c0 ∧ Kd.string.C w A0 x.f0.length x.f0 := by
 obtain ⟨_, _, rfl, ⟨A0, c0, rfl, l0, g0⟩, ⟨_, _, rfl, rfl, ⟨_, _, rfl, rfl, rfl⟩⟩⟩ := h
 exact ⟨A0, c0, rfl, l0, g0⟩
theorem k157_openM {w : World} {base : Nat} {ok : Nat → Prop} {x : S157} {cs : List Value} (h : k157.M w base ok x cs) : ∃ v0, cs = [v0, .string x.f1, .string x.f2, .string x.f3] ∧ Kd.string.R 9 w base ok v0 x.f0 := by
 obtain ⟨_, _, rfl, ⟨v0, rfl, g0⟩, ⟨_, _, rfl, rfl, ⟨_, _, rfl, rfl, rfl⟩⟩⟩ := h
 exact ⟨v0, rfl, g0⟩
theorem k157_mkM (w : World) (base : Nat) (ok : Nat → Prop) (x : S157) {v0 : Value} (g0 : Kd.string.R 9 w base ok v0 x.f0) : k157.M w base ok x [v0, .string x.f1, .string x.f2, .string x.f3] := ⟨[v0], [.string x.f1, .string x.f2, .string x.f3], rfl, ⟨v0, rfl, g0⟩, ⟨[.string x.f1], [.string x.f2, .string x.f3], rfl, rfl, ⟨[.string x.f2], [.string x.f3], rfl, rfl, rfl⟩⟩⟩
def rd_T157 (xs : List S157) (i : Int) : S157 := xs.getD i.toNat z157
theorem at_T157 {w : World} {A : Option Addr} {n : Nat} {xs : List S157} (h : Kd.C k157 w A n xs) (i : Int) (h0 : 0 ≤ i) (h1 : i < n) : ∃ ad A0 c0, A = some ad ∧ w.cell? (ad.add (i.toNat * 4)) = some (.slice A0 (rd_T157 xs i).f0.length c0) ∧ w.cell? ⟨(ad.add (i.toNat * 4)).block, (ad.add (i.toNat * 4)).off + 1, none⟩ = some (.string (rd_T157 xs i).f1) ∧ w.cell? ⟨(ad.add (i.toNat * 4)).block, (ad.add (i.toNat * 4)).off + 2, none⟩ = some (.string (rd_T157 xs i).f2) ∧ w.cell? ⟨(ad.add (i.toNat * 4)).block, (ad.add (i.toNat * 4)).off + 3, none⟩ = some (.string (rd_T157 xs i).f3) ∧ (rd_T157 xs i).f0.length ≤ c0 ∧ Kd.string.C w A0 (rd_T157 xs i).f0.length (rd_T157 xs i).f0 := by
 obtain ⟨ad, c, e, _, hK, hc0⟩ := Kd.C_get h z157 i h0 h1
 have hc : ∀ j u, c[j]? = some u → w.cell? (ad.add (i.toNat * 4 + j)) = some u := hc0
 obtain ⟨A0, c0, rfl, l0, g0⟩ := k157_open hK
 exact ⟨ad, A0, c0, e, hc 0 _ rfl, by rw [← add_field _ _ 1 (by omega)]; exact hc 1 _ rfl, by rw [← add_field _ _ 2 (by omega)]; exact hc 2 _ rfl, by rw [← add_field _ _ 3 (by omega)]; exact hc 3 _ rfl, l0, g0⟩
structure S27 where
 f0 : Int
 f1 : Int
 f2 : Int
 f3 : Bool
def k27 : Kd S27 := Kd.iso (Kd.pair (Kd.int .i64) (Kd.pair (Kd.int .i64) (Kd.pair (Kd.int .i64) Kd.bool))) (fun x : S27 => (x.f0, x.f1, x.f2, x.f3))
structure S29 where
 f0 : ByteArray
 f1 : Int
 f2 : (List S152)
 f3 : (List S152)
 f4 : ByteArray
 f5 : ByteArray
 f6 : ByteArray
 f7 : S27
 f8 : Int
 f9 : ByteArray
 f10 : ByteArray
def k29 : Kd S29 := Kd.iso (Kd.pair Kd.string (Kd.pair (Kd.int .i64) (Kd.pair (Kd.slice 152 k152) (Kd.pair (Kd.slice 152 k152) (Kd.pair Kd.string (Kd.pair Kd.string (Kd.pair Kd.string (Kd.pair k27 (Kd.pair (Kd.int .i64) (Kd.pair Kd.string Kd.string)))))))))) (fun x : S29 => (x.f0, x.f1, x.f2, x.f3, x.f4, x.f5, x.f6, x.f7, x.f8, x.f9, x.f10))
inductive B24 : S24 → Prop
 | mk (x : S24) (h0 : (Lit.int .i64 x.f0).wf = true) (h1 : x.f1.size ≤ 140737488351232) (h2 : x.f2.size ≤ 140737488351232) (h3l : x.f3.length * 64 ≤ 140737488351232) (h3m : x.f3.length ≤ maxLen) (h3 : ∀ a_ ∈ x.f3, B24 a_) : B24 x
def B152 (x : S152) : Prop := (fun l_ : List ByteArray => l_.length * 16 ≤ 140737488351232 ∧ l_.length ≤ maxLen ∧ ∀ a_ ∈ l_, (fun a_ : ByteArray => a_.size ≤ 140737488351232) a_) x.f0 ∧ (fun a_ : ByteArray => a_.size ≤ 140737488351232) x.f1 ∧ (fun a_ : ByteArray => a_.size ≤ 140737488351232) x.f2 ∧ (fun a_ : ByteArray => a_.size ≤ 140737488351232) x.f3
def B27 (x : S27) : Prop := (fun a_ : Int => (Lit.int .i64 a_).wf = true) x.f0 ∧ (fun a_ : Int => (Lit.int .i64 a_).wf = true) x.f1 ∧ (fun a_ : Int => (Lit.int .i64 a_).wf = true) x.f2 ∧ (fun _ : Bool => True) x.f3
def B29 (x : S29) : Prop := (fun a_ : ByteArray => a_.size ≤ 140737488351232) x.f0 ∧ (fun a_ : Int => (Lit.int .i64 a_).wf = true) x.f1 ∧ (fun l_ : List (S152) => l_.length * 72 ≤ 140737488351232 ∧ l_.length ≤ maxLen ∧ ∀ a_ ∈ l_, B152 a_) x.f2 ∧ (fun l_ : List (S152) => l_.length * 72 ≤ 140737488351232 ∧ l_.length ≤ maxLen ∧ ∀ a_ ∈ l_, B152 a_) x.f3 ∧ (fun a_ : ByteArray => a_.size ≤ 140737488351232) x.f4 ∧ (fun a_ : ByteArray => a_.size ≤ 140737488351232) x.f5 ∧ (fun a_ : ByteArray => a_.size ≤ 140737488351232) x.f6 ∧ B27 x.f7 ∧ (fun a_ : Int => (Lit.int .i64 a_).wf = true) x.f8 ∧ (fun a_ : ByteArray => a_.size ≤ 140737488351232) x.f9 ∧ (fun a_ : ByteArray => a_.size ≤ 140737488351232) x.f10
abbrev bN := @blk_drewN
abbrev bD := @blk_drew
abbrev bA := @blk_alloc
abbrev lA := @below_alloc
abbrev lN := @pw_below_drewN
abbrev lD := @below_drew1
abbrev aM := @Aside0.mk
abbrev bC := @blk_cell
abbrev bF := @blk_frozen
abbrev lS := @below_set
abbrev lZ := @below_size
abbrev lT := @below_step
abbrev rN := @Kd.R_drewN
abbrev rA := @Kd.R_alloc
abbrev rD := @Kd.R_drew
abbrev cA := @Kd.C_alloc
abbrev cN := @Kd.C_drewN
abbrev cD := @Kd.C_drew
abbrev rF := @Kd.R_far
abbrev rR := @Kd.R_reads'
abbrev rB := @Kd.R_below
abbrev cB := @Kd.C_below
abbrev bW := @blk_below
abbrev wB := @World.block_lt_of_cell?
abbrev lI := @List.setIfInBounds_toArray
abbrev sZ := @List.set_cons_zero
abbrev sS := @List.set_cons_succ
abbrev oD := @of_decide_eq_true
abbrev dT := @decide_eq_true
abbrev dF := @decide_eq_false
abbrev eS := @Option.some.injEq
abbrev eP := @Prod.mk.injEq
abbrev mT := @List.map_toArray
abbrev mC := @List.map_cons
abbrev mN := @List.map_nil
abbrev xD := @List.length_drop
abbrev xT := @List.length_take
theorem z4_ {w : World} {g : Nat} {v0 v1 v2 v3 : Value} {t : TypeId} (h : w.heap[g]? = some (.cells #[v0, v1, v2, v3] t (0, 0))) : w.cell? ⟨g, 0, none⟩ = some v0 ∧ w.cell? ⟨g, 1, none⟩ = some v1 ∧ w.cell? ⟨g, 2, none⟩ = some v2 ∧ w.cell? ⟨g, 3, none⟩ = some v3 ∧ w.frozen? ⟨g, 0, none⟩ = false ∧ w.frozen? ⟨g, 1, none⟩ = false ∧ w.frozen? ⟨g, 2, none⟩ = false ∧ w.frozen? ⟨g, 3, none⟩ = false := ⟨(blk_cell h 0).trans rfl, (blk_cell h 1).trans rfl, (blk_cell h 2).trans rfl, (blk_cell h 3).trans rfl, blk_frozen h 0, blk_frozen h 1, blk_frozen h 2, blk_frozen h 3⟩
theorem z14_ {w : World} {g : Nat} {v0 v1 v2 v3 v4 v5 v6 v7 v8 v9 v10 v11 v12 v13 : Value} {t : TypeId} (h : w.heap[g]? = some (.cells #[v0, v1, v2, v3, v4, v5, v6, v7, v8, v9, v10, v11, v12, v13] t (0, 0))) : w.cell? ⟨g, 0, none⟩ = some v0 ∧ w.cell? ⟨g, 1, none⟩ = some v1 ∧ w.cell? ⟨g, 2, none⟩ = some v2 ∧ w.cell? ⟨g, 3, none⟩ = some v3 ∧ w.cell? ⟨g, 4, none⟩ = some v4 ∧ w.cell? ⟨g, 5, none⟩ = some v5 ∧ w.cell? ⟨g, 6, none⟩ = some v6 ∧ w.cell? ⟨g, 7, none⟩ = some v7 ∧ w.cell? ⟨g, 8, none⟩ = some v8 ∧ w.cell? ⟨g, 9, none⟩ = some v9 ∧ w.cell? ⟨g, 10, none⟩ = some v10 ∧ w.cell? ⟨g, 11, none⟩ = some v11 ∧ w.cell? ⟨g, 12, none⟩ = some v12 ∧ w.cell? ⟨g, 13, none⟩ = some v13 ∧ w.frozen? ⟨g, 0, none⟩ = false ∧ w.frozen? ⟨g, 1, none⟩ = false ∧ w.frozen? ⟨g, 2, none⟩ = false ∧ w.frozen? ⟨g, 3, none⟩ = false ∧ w.frozen? ⟨g, 4, none⟩ = false ∧ w.frozen? ⟨g, 5, none⟩ = false ∧ w.frozen? ⟨g, 6, none⟩ = false ∧ w.frozen? ⟨g, 7, none⟩ = false ∧ w.frozen? ⟨g, 8, none⟩ = false ∧ w.frozen? ⟨g, 9, none⟩ = false ∧ w.frozen? ⟨g, 10, none⟩ = false ∧ w.frozen? ⟨g, 11, none⟩ = false ∧ w.frozen? ⟨g, 12, none⟩ = false ∧ w.frozen? ⟨g, 13, none⟩ = false := ⟨(blk_cell h 0).trans rfl, (blk_cell h 1).trans rfl, (blk_cell h 2).trans rfl, (blk_cell h 3).trans rfl, (blk_cell h 4).trans rfl, (blk_cell h 5).trans rfl, (blk_cell h 6).trans rfl, (blk_cell h 7).trans rfl, (blk_cell h 8).trans rfl, (blk_cell h 9).trans rfl, (blk_cell h 10).trans rfl, (blk_cell h 11).trans rfl, (blk_cell h 12).trans rfl, (blk_cell h 13).trans rfl, blk_frozen h 0, blk_frozen h 1, blk_frozen h 2, blk_frozen h 3, blk_frozen h 4, blk_frozen h 5, blk_frozen h 6, blk_frozen h 7, blk_frozen h 8, blk_frozen h 9, blk_frozen h 10, blk_frozen h 11, blk_frozen h 12, blk_frozen h 13⟩
def mk_ (n b : Nat) : Array Bool := ((List.range n).map b.testBit).toArray
theorem bE_ {α β : Type} {x : Option α} {f : α → Option β} {r : β} (h : x.bind f = some r) : ∃ t, Aside0 (x = some t) ∧ f t = some r := by
 obtain ⟨t, h1, h2⟩ := Option.bind_eq_some_iff.mp h
 exact ⟨t, ⟨h1⟩, h2⟩
theorem dw_ {w w' : World} (h : Drawn0 w w' := by ((repeat (first|exact Drawn0.refl _|apply Drawn0.step));done)) : Drawn0 w w' := h
theorem vR_ {p : Prop} (h : p := by (first|rfl|(simp [*] <;> fail)|(simp [my_isEmpty] <;> fail))) : p := h
theorem wC_ {p q : Prop} (x : q) (h : q → p := by (intro x_;(with_reducible repeat (first|refine bN ?_ _|refine bD ?_|refine bA ?_ _));exact x_)) : p := h x
theorem wO_ {p q : Prop} (x : q) (h : q → p := by (intro x_;(with_reducible repeat (first|apply rA|apply rN|apply rD));exact x_)) : p := h x
theorem wS_ {p q : Prop} (x : q) (h : q → p := by (intro x_;(with_reducible repeat first|apply Kd.S_alloc|apply Kd.S_drewN|apply Kd.S_drew);exact x_)) : p := h x
theorem wB_ {p : Prop} (h : p := by repeat (first|(with_reducible first|exact HB.out|apply lA|apply lN|apply lD|refine lS ?_ (Aside0.out (by assumption)))|exact HB.out)) : p := h
theorem bw_ {W0 W W2 : World} {g : Nat} {o : Obj} (x : W0.heap[g]? = some o) (hb : Below W.heap.size W W2) (h : W0.heap[g]? = some o → W.heap[g]? = some o := by (intro x_;(with_reducible repeat (first|refine bN ?_ _|refine bD ?_|refine bA ?_ _));exact x_)) : W2.heap[g]? = some o := blk_below (h x) hb
theorem bg_ {W0 W W2 : World} {g : Nat} {o : Obj} {row : Option Nat} (x : W0.heap[g]? = some o) (hg : W.grownBy W2 row) (n : some g ≠ row) (h : W0.heap[g]? = some o → W.heap[g]? = some o := by (intro x_;(with_reducible repeat (first|refine bN ?_ _|refine bD ?_|refine bA ?_ _));exact x_)) : W2.heap[g]? = some o := blk_grown (h x) hg n
theorem nl_ {W0 W : World} {g a : Nat} {o : Obj} (hg : a = W.heap.size) (x : W0.heap[g]? = some o) (h : W0.heap[g]? = some o → W.heap[g]? = some o := by (intro x_;(with_reducible repeat (first|refine bN ?_ _|refine bD ?_|refine bA ?_ _));exact x_)) : g ≠ a := by
 rw [hg]
 exact Nat.ne_of_lt (blk_lt (h x))
theorem ng_ {W0 W : World} {g a : Nat} {o : Obj} (hg : a = W.heap.size) (x : W0.heap[g]? = some o) (h : W0.heap[g]? = some o → W.heap[g]? = some o := by (intro x_;(with_reducible repeat (first|refine bN ?_ _|refine bD ?_|refine bA ?_ _));exact x_)) : a ≠ g := by
 rw [hg]
 exact Nat.ne_of_gt (blk_lt (h x))
theorem kb_ {W0 W W2 : World} {g g' : Nat} {o : Obj} (hk : KeepBut W W2 g none) (x : W0.heap[g']? = some o) (n : g' ≠ g) (h : W0.heap[g']? = some o → W.heap[g']? = some o := by (intro x_;(with_reducible repeat (first|refine bN ?_ _|refine bD ?_|refine bA ?_ _));exact x_)) : W2.heap[g']? = some o := KeepBut.blk hk (h x) n (by simp)
theorem bx_ {P : Program} {ops : Array Oper} {rest : List Oper} {o : Oper} {a : Act} {Q : Exit → Act → World → Prop} {W : World} {N : Tmp} {cs : Array Value} {t : TypeId}
 (h : ∀ g, g = W.heap.size → ∀ w1 : World, w1.heap[g]? = some (.cells cs t (0, 0)) → Below W.heap.size W w1 → wpList P ops Q rest (a.put o.dst (.pointer (some ⟨g, 0, none⟩))) w1) (hgd : o.guard = none := by rfl) (hd : o.dst = some N := by rfl)
 (hrun : (execOp a.eval o).run P W = .ok (.value (.pointer (some ⟨W.heap.size, 0, none⟩))) (W.alloc (.cells cs t (0, 0))) := by first|(go_simp;done)|(go_simp;rfl)) : wpList P ops Q (o :: rest) a W := box_event hgd hd hrun h
theorem gl_ {P : Program} {ops : Array Oper} {Q : Exit → Act → World → Prop} {rest : List Oper} {oi : Oper} {a : Act} {w : World} (N : Option Tmp) {f : FuncId} {fn : Func} {ao : Array Operand} {ts : Array TypeId} (hf : P.funcs[f]? = some fn) (args : Array Value)
 (h : Calls P f args w fun e w' => ∃ v, e = .returned v ∧ wpList P ops Q rest (a.put N v) w') (hd : oi.dst = N := by rfl) (hg : oi.guard = none := by rfl) (hname : (fn.name == "runtime.NumGoroutine") = false := by kernel_rfl) (hb : fn.body.isSome = true := by rfl)
 (hop : oi.op = .call { callee := .value (.func f), args := ao, argTypes := ts } := by rfl) (hargs : ao.map a.eval = args := by ((try simp only [mT,mC,mN]);first|done|rfl|(simp only [xD,xT];rfl))) : wpList P ops Q (oi :: rest) a w := goesL_ N hd hg hf hname hb args hop hargs h
theorem gs_ {P : Program} {ops : Array Oper} {Q : Exit → Act → World → Prop} {oi : Oper} {N : Option Tmp} {a : Act} {w : World} {K : Act → World → Prop} {f : FuncId} {fn : Func} {ao : Array Operand} {ts : Array TypeId} (hf : P.funcs[f]? = some fn) (args : Array Value)
 (h : Calls P f args w fun e w' => ∃ v, e = .returned v ∧ K (a.put N v) w') (hname : (fn.name == "runtime.NumGoroutine") = false := by kernel_rfl) (hb : fn.body.isSome = true := by rfl) (hw : Region.wanted oi (yielded ops a.tmps) = true := by rfl) (hN : oi.dst = N := by rfl)
 (hop : oi.op = .call { callee := .value (.func f), args := ao, argTypes := ts } := by rfl) (hargs : ao.map a.eval = args := by ((try simp only [mT,mC,mN]);first|done|rfl|(simp only [xD,xT];rfl))) : if Region.wanted oi (yielded ops a.tmps) = true then Oper.wp P oi a w K Q else K (a.put N undef) w := goes_ hf hname hb args hw hN hop hargs h
theorem bf_ {p q r : Prop} (n : r) (x : q) (h : r → q → p := by (intro n_ x_;(repeat (first|(with_reducible first|refine bN ?_ _|refine bD ?_|refine bA ?_ _)|refine blk_far ?_ n_ _));exact x_)) : p := h n x
theorem wX_ {p q : Prop} (x : q) (h : q → p := by (intro x_;repeat (first|exact (cB x_ HB.out)|(with_reducible first|refine cA ?_ _|refine cN ?_ _|refine cD ?_)))) : p := h x
theorem wY_ {p q : Prop} (x : q) (h : q → p := by (intro x_;repeat (first|exact x_|(with_reducible first|refine cA ?_ _|refine cN ?_ _|refine cD ?_)))) : p := h x
theorem zd3_ {w : World} {g : Nat} {v0 v1 v2 : Value} {t : TypeId} (h : w.heap[g]? = some (.cells #[v0, v1, v2] t (0, 0))) : w.cell? ⟨g, 0, none⟩ = some v0 ∧ w.cell? ⟨g, 1, none⟩ = some v1 ∧ w.cell? ⟨g, 2, none⟩ = some v2 := ⟨(blk_cell h 0).trans rfl, (blk_cell h 1).trans rfl, (blk_cell h 2).trans rfl⟩
theorem zd5_ {w : World} {g : Nat} {v0 v1 v2 v3 v4 : Value} {t : TypeId} (h : w.heap[g]? = some (.cells #[v0, v1, v2, v3, v4] t (0, 0))) : w.cell? ⟨g, 0, none⟩ = some v0 ∧ w.cell? ⟨g, 1, none⟩ = some v1 ∧ w.cell? ⟨g, 2, none⟩ = some v2 ∧ w.cell? ⟨g, 3, none⟩ = some v3 ∧ w.cell? ⟨g, 4, none⟩ = some v4 := ⟨(blk_cell h 0).trans rfl, (blk_cell h 1).trans rfl, (blk_cell h 2).trans rfl, (blk_cell h 3).trans rfl, (blk_cell h 4).trans rfl⟩
theorem bq2_ {W0 W : World} {g : Nat} {t : TypeId} {c0 c1 v0 v1 : Value} (x : W0.heap[g]? = some (.cells #[c0, c1] t (0, 0))) (h : W0.heap[g]? = some (.cells #[c0, c1] t (0, 0)) → W.heap[g]? = some (.cells #[c0, c1] t (0, 0)) := by (intro x_;(with_reducible repeat (first|refine bN ?_ _|refine bD ?_|refine bA ?_ _));exact x_)) : ((W.setCell ⟨g, 0, none⟩ v0).setCell ⟨g, 1, none⟩ v1).heap[g]? = some (.cells #[v0, v1] t (0, 0)) := by
 have h0 := h x
 exact (blk_put (cs' := #[v0, v1]) (blk_put (cs' := #[v0, c1]) h0 0 _ rfl) 1 _ rfl)
theorem bq3_ {W0 W : World} {g : Nat} {t : TypeId} {c0 c1 c2 v0 v1 v2 : Value} (x : W0.heap[g]? = some (.cells #[c0, c1, c2] t (0, 0))) (h : W0.heap[g]? = some (.cells #[c0, c1, c2] t (0, 0)) → W.heap[g]? = some (.cells #[c0, c1, c2] t (0, 0)) := by (intro x_;(with_reducible repeat (first|refine bN ?_ _|refine bD ?_|refine bA ?_ _));exact x_)) : (((W.setCell ⟨g, 0, none⟩ v0).setCell ⟨g, 1, none⟩ v1).setCell ⟨g, 2, none⟩ v2).heap[g]? = some (.cells #[v0, v1, v2] t (0, 0)) := by
 have h0 := h x
 exact (blk_put (cs' := #[v0, v1, v2]) (blk_put (cs' := #[v0, v1, c2]) (blk_put (cs' := #[v0, c1, c2]) h0 0 _ rfl) 1 _ rfl) 2 _ rfl)
theorem bq4_ {W0 W : World} {g : Nat} {t : TypeId} {c0 c1 c2 c3 v0 v1 v2 v3 : Value} (x : W0.heap[g]? = some (.cells #[c0, c1, c2, c3] t (0, 0))) (h : W0.heap[g]? = some (.cells #[c0, c1, c2, c3] t (0, 0)) → W.heap[g]? = some (.cells #[c0, c1, c2, c3] t (0, 0)) := by (intro x_;(with_reducible repeat (first|refine bN ?_ _|refine bD ?_|refine bA ?_ _));exact x_)) : ((((W.setCell ⟨g, 0, none⟩ v0).setCell ⟨g, 1, none⟩ v1).setCell ⟨g, 2, none⟩ v2).setCell ⟨g, 3, none⟩ v3).heap[g]? = some (.cells #[v0, v1, v2, v3] t (0, 0)) := by
 have h0 := h x
 exact (blk_put (cs' := #[v0, v1, v2, v3]) (blk_put (cs' := #[v0, v1, v2, c3]) (blk_put (cs' := #[v0, v1, c2, c3]) (blk_put (cs' := #[v0, c1, c2, c3]) h0 0 _ rfl) 1 _ rfl) 2 _ rfl) 3 _ rfl)
theorem bq5_ {W0 W : World} {g : Nat} {t : TypeId} {c0 c1 c2 c3 c4 v0 v1 v2 v3 v4 : Value} (x : W0.heap[g]? = some (.cells #[c0, c1, c2, c3, c4] t (0, 0))) (h : W0.heap[g]? = some (.cells #[c0, c1, c2, c3, c4] t (0, 0)) → W.heap[g]? = some (.cells #[c0, c1, c2, c3, c4] t (0, 0)) := by (intro x_;(with_reducible repeat (first|refine bN ?_ _|refine bD ?_|refine bA ?_ _));exact x_)) : (((((W.setCell ⟨g, 0, none⟩ v0).setCell ⟨g, 1, none⟩ v1).setCell ⟨g, 2, none⟩ v2).setCell ⟨g, 3, none⟩ v3).setCell ⟨g, 4, none⟩ v4).heap[g]? = some (.cells #[v0, v1, v2, v3, v4] t (0, 0)) := by
 have h0 := h x
 exact (blk_put (cs' := #[v0, v1, v2, v3, v4]) (blk_put (cs' := #[v0, v1, v2, v3, c4]) (blk_put (cs' := #[v0, v1, v2, c3, c4]) (blk_put (cs' := #[v0, v1, c2, c3, c4]) (blk_put (cs' := #[v0, c1, c2, c3, c4]) h0 0 _ rfl) 1 _ rfl) 2 _ rfl) 3 _ rfl) 4 _ rfl)
theorem bq11_ {W0 W : World} {g : Nat} {t : TypeId} {c0 c1 c2 c3 c4 c5 c6 c7 c8 c9 c10 v0 v1 v2 v3 v4 v5 v6 v7 v8 v9 v10 : Value} (x : W0.heap[g]? = some (.cells #[c0, c1, c2, c3, c4, c5, c6, c7, c8, c9, c10] t (0, 0))) (h : W0.heap[g]? = some (.cells #[c0, c1, c2, c3, c4, c5, c6, c7, c8, c9, c10] t (0, 0)) → W.heap[g]? = some (.cells #[c0, c1, c2, c3, c4, c5, c6, c7, c8, c9, c10] t (0, 0)) := by (intro x_;(with_reducible repeat (first|refine bN ?_ _|refine bD ?_|refine bA ?_ _));exact x_)) : (((((((((((W.setCell ⟨g, 0, none⟩ v0).setCell ⟨g, 1, none⟩ v1).setCell ⟨g, 2, none⟩ v2).setCell ⟨g, 3, none⟩ v3).setCell ⟨g, 4, none⟩ v4).setCell ⟨g, 5, none⟩ v5).setCell ⟨g, 6, none⟩ v6).setCell ⟨g, 7, none⟩ v7).setCell ⟨g, 8, none⟩ v8).setCell ⟨g, 9, none⟩ v9).setCell ⟨g, 10, none⟩ v10).heap[g]? = some (.cells #[v0, v1, v2, v3, v4, v5, v6, v7, v8, v9, v10] t (0, 0)) := by
 have h0 := h x
 exact (blk_put (cs' := #[v0, v1, v2, v3, v4, v5, v6, v7, v8, v9, v10]) (blk_put (cs' := #[v0, v1, v2, v3, v4, v5, v6, v7, v8, v9, c10]) (blk_put (cs' := #[v0, v1, v2, v3, v4, v5, v6, v7, v8, c9, c10]) (blk_put (cs' := #[v0, v1, v2, v3, v4, v5, v6, v7, c8, c9, c10]) (blk_put (cs' := #[v0, v1, v2, v3, v4, v5, v6, c7, c8, c9, c10]) (blk_put (cs' := #[v0, v1, v2, v3, v4, v5, c6, c7, c8, c9, c10]) (blk_put (cs' := #[v0, v1, v2, v3, v4, c5, c6, c7, c8, c9, c10]) (blk_put (cs' := #[v0, v1, v2, v3, c4, c5, c6, c7, c8, c9, c10]) (blk_put (cs' := #[v0, v1, v2, c3, c4, c5, c6, c7, c8, c9, c10]) (blk_put (cs' := #[v0, v1, c2, c3, c4, c5, c6, c7, c8, c9, c10]) (blk_put (cs' := #[v0, c1, c2, c3, c4, c5, c6, c7, c8, c9, c10]) h0 0 _ rfl) 1 _ rfl) 2 _ rfl) 3 _ rfl) 4 _ rfl) 5 _ rfl) 6 _ rfl) 7 _ rfl) 8 _ rfl) 9 _ rfl) 10 _ rfl)
end Go.Proofs.YtmafmhgmdegplaaGreatDoor.P
