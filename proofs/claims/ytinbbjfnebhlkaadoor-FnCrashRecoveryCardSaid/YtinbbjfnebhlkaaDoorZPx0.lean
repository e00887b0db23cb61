/- Written by a program in this session: each theorem here says that a Go function computes the Lean function beside it, or that a law's row holds, under the conditions that the theorem itself states. -/
import Derived.Test.YtinbbjfnebhlkaaDoorProg
import Derived.Below
import Derived.Deep.Draws
import Derived.Deep.AppendLies
import Derived.Maps.AppendAt
import Derived.OwnWalk
import Derived.Laws.BytesArg
import Derived.Laws.MakeOwn
import Derived.Laws.OwnMore
import Derived.Deep.OwnRows
import Derived.Tactics
import Derived.Lib.ConvBytes
import Derived.Laws.Slices
import Derived.WalkKit
import Derived.KernelRfl
import Derived.RowKit3
import Derived.Deep.LoopGhost
import Derived.Deep.QuietTactic
import Derived.BigQuiet
import Derived.WideLaws
import Derived.Deep.DeepCutAuto
import Derived.Deep.CutBlock
import Derived.Deep.RegionHeld3
import Derived.Laws.Rows
import Derived.Lib.AppendStr
import Derived.ArgAppend
import Derived.Laws.IdiomCopy
import Derived.OrdersHeld
import Derived.Laws.BitsLemmas
import Derived.RowKit
import Derived.Test.YtinbbjfnebhlkaaDoorZWWords
import Derived.Test.YtinbbjfnebhlkaaDoorZWLast
import Derived.Test.YtinbbjfnebhlkaaDoorZWTab
import Derived.Test.YtinbbjfnebhlkaaDoorZWApart
import Derived.Test.YtinbbjfnebhlkaaDoorZWFoot
import Derived.Test.YtinbbjfnebhlkaaDoorZWKept
import Derived.Test.YtinbbjfnebhlkaaDoorZWShare
import Derived.Test.YtinbbjfnebhlkaaDoorZWN
import Derived.Test.YtinbbjfnebhlkaaDoorZWEqStruct
import Derived.Test.YtinbbjfnebhlkaaDoorZWRepsOne
import Derived.Test.YtinbbjfnebhlkaaDoorZWGuard
import Derived.Test.YtinbbjfnebhlkaaDoorZWMore
import Derived.Lib.ItoaNum
import Derived.Lib.LaidTab
namespace Go.Proofs.YtinbbjfnebhlkaaDoor.P
open Go.RowKit Go.Proofs.YtinbbjfnebhlkaaDoorW.PrintWords Go.Proofs.YtinbbjfnebhlkaaDoorW.PrintLast Go.Proofs.YtinbbjfnebhlkaaDoorW.PrintMore
attribute [local go_sem] max2_int min2_int max_two min_two max_three min_three max_four min_four   -- for this text's walks alone
set_option linter.unusedVariables false
set_option linter.unusedSimpArgs false
def errW : Option Int → Value
 | none => .nilIface
 | some c => .iface 0 (.int .i64 c)
theorem errW_none : errW none = .nilIface := rfl
theorem errW_some (c : Int) : errW (some c) = .iface 0 (.int .i64 c) := rfl
theorem my_isEmpty (l : List UInt8) : (l != []) = !l.isEmpty := by cases l <;> rfl
structure BRow (w W : World) (g : Nat) (xs : List Int) : Prop where
 below : Below w.heap.size w W
 new : w.heap.size ≤ g
 cell : ∀ j, j < xs.length → W.cell? ⟨g, j, none⟩ = some (.int .u8 (xs.getD j 0))
 free : ∀ j, j < xs.length → W.frozen? ⟨g, j, none⟩ = false
theorem BRow.made (w : World) (e : TypeId) (s : ByteArray) : BRow w (Lib.bytesWorld w e s) w.heap.size (bytesOf s) := by
 have hs : s.size ≤ (Lib.bytesCells w e s).size := by
  unfold Lib.bytesCells
  rw [Array.size_append, Array.size_map]
  exact Nat.le_add_right _ _
 have hn := Lib.bytesWorld_at_new w e s
 refine ⟨⟨?_, ?_, ?_, by rw [Lib.bytesWorld_size]; omega, fun j hj => Lib.bytesWorld_at_old w e s j hj⟩, Nat.le_refl _, fun j hj => ?_, fun j hj => ?_⟩
 ·simp [Lib.bytesWorld, World.freeze, World.alloc, World.drew, -World.alloc_eq, -World.drew_eq]
 ·simp [Lib.bytesWorld, World.freeze, World.alloc, World.drew, -World.alloc_eq, -World.drew_eq]
 ·simp [Lib.bytesWorld, World.freeze, World.alloc, World.drew, -World.alloc_eq, -World.drew_eq]
 ·rw [bytesOf_length] at hj
  have hj' : j < s.data.toList.length := by rw [data_length]; exact hj
  rw [Lib.bytesWorld_cell w e s j hj]
  simp [bytesOf, List.getD_eq_getElem?_getD, List.getElem?_eq_getElem hj']
 ·rw [bytesOf_length] at hj
  unfold World.frozen?
  rw [hn]
  have : ¬ (Lib.bytesCells w e s).size ≤ j := by omega
  simp [this]
theorem BRow.set {w W : World} {g : Nat} {xs : List Int} (h : BRow w W g xs) (i : Nat) (x : Int) : BRow w (W.setCell ⟨g, i, none⟩ (.int .u8 x)) g (xs.set i x) := by
 refine ⟨h.below.setCell h.new _, h.new, fun j hj => ?_, fun j hj => ?_⟩
 ·rw [List.length_set] at hj
  by_cases e : i = j
  ·subst e
   rw [World.cell?_setCell_same _ _ _ (h.cell i hj)]
   simp [List.getD_eq_getElem?_getD, List.getElem?_set, hj]
  ·rw [World.cell?_setCell_other _ _ _ _ (by simp [e]), h.cell j hj]
   simp [List.getD_eq_getElem?_getD, List.getElem?_set, e]
 ·rw [List.length_set] at hj
  rw [World.frozen?_setCell, h.free j hj]
theorem BRow.drewN {w W : World} {g : Nat} {xs : List Int} (h : BRow w W g xs) (n : Nat) : BRow w (W.drewN n) g xs :=
 ⟨pw_below_drewN h.below n, h.new, h.cell, h.free⟩
theorem BRow.keep {w W W' : World} {g : Nat} {xs : List Int} (h : BRow w W g xs) (hb : Below W.heap.size W W') (hl : 0 < xs.length) : BRow w W' g xs := by
 have hg : g < W.heap.size := World.block_lt_of_cell? W ⟨g, 0, none⟩ (h.cell 0 hl)
 exact ⟨h.below.trans ⟨hb.os, hb.tape, hb.output, hb.size, fun k hk => hb.block k (Nat.lt_of_lt_of_le hk h.below.size)⟩, h.new, fun j hj => (hb.cell (p := ⟨g, j, none⟩) hg).trans (h.cell j hj), fun j hj => (hb.frozen (p := ⟨g, j, none⟩) hg).trans (h.free j hj)⟩
theorem BRow.text {P : Program} {w W : World} {g : Nat} {xs : List Int} (h : BRow w W g xs) (src e dst : TypeId) (hs : P.underlying src = some (.slice e)) (he : P.underlying e = some (.int .u8)) (hd : P.underlying dst = some .string) (n cap : Nat) (hn : xs.length = n) :
  (convert src dst (.slice (some ⟨g, 0, none⟩) n cap)).run P W = .ok (.string (strOfNums xs)) W :=
 run_convert_bytes_arg W src e hs he g 0 n cap xs hn (fun i hi => by rw [Nat.zero_add]; exact h.cell i (by omega)) dst hd
theorem conv_ex {P : Program} (w : World) (src dst e : TypeId) (s : ByteArray) {u : TypeDesc} (hs : P.underlying src = some u) (hd : P.underlying dst = some (.slice e)) (he : P.underlying e = some (.int .u8)) :
  ∃ (g cap : Nat) (W : World), (convert src dst (.string s)).run P w = .ok (.slice (some ⟨g, 0, none⟩) s.size cap) W ∧ BRow w W g (bytesOf s) :=
 ⟨_, _, _, Lib.run_convert_string_bytes w src dst e s hs hd he, BRow.made w e s⟩
def tornB (s : ByteArray) (b : Bool) : ByteArray := if b = true ∧ 0 < s.size then strOfNums ((bytesOf s).set (s.size - 1) (255 - (bytesOf s).getD (s.size - 1) 0)) else strOfNums (bytesOf s)
theorem strOfNums_size (l : List Int) : (strOfNums l).size = l.length := by
 unfold strOfNums
 exact List.length_map ..
theorem tornB_size (s : ByteArray) (b : Bool) : (tornB s b).size = s.size := by
 unfold tornB
 split
 ·rw [strOfNums_size, List.length_set, bytesOf_length]
 ·rw [strOfNums_size, bytesOf_length]
theorem bytesOf_range (s : ByteArray) (k : Nat) : 0 ≤ (bytesOf s).getD k 0 ∧ (bytesOf s).getD k 0 ≤ 255 := by
 have := rd_bytesOf s k
 simp only [rd, Int.toNat_natCast] at this
 rw [this]
 exact bt_range _ _
structure Gw (w : World) : Prop where
 tab : Lib.TabIs Tryd.prog w "internal/strconv.uint64pow10" .u64 Lib.pow10Tab
theorem var_below {P : Program} {w W : World} (hb : Below w.heap.size w W) {n : String} {cs : Array Value} (h : w.var? P n = some cs) : W.var? P n = some cs := by
 unfold World.var? at h ⊢
 cases hg : P.globalNamed n with
 | none => simp [hg] at h
 | some g =>
  simp only [hg, Option.bind_some] at h ⊢
  have hlt : g < w.heap.size := by
   rcases Nat.lt_or_ge g w.heap.size with h' | h'
   ·exact h'
   ·simp [Array.getElem?_eq_none h'] at h
  rw [hb.block g hlt]
  exact h
theorem Gw.below {w W : World} (h : Gw w) (hb : Below w.heap.size w W) : Gw W := ⟨var_below hb h.tab⟩
theorem Gw.drewN {w : World} (h : Gw w) (n : Nat) : Gw (w.drewN n) := ⟨var_below (pw_below_drewN (Below.refl _ _) n) h.tab⟩
theorem info3 : (Tryd.prog.info? 3).map (fun i => (i.zero, i.size, i.bytes)) = some (some (.int .i64 0), 1, 8) := by kernel_rfl
theorem info5 : (Tryd.prog.info? 5).map (fun i => (i.zero, i.size, i.bytes)) = some (some (.int .u8 0), 1, 1) := by kernel_rfl
theorem info9 : (Tryd.prog.info? 9).map (fun i => (i.zero, i.size, i.bytes)) = some (some (.string ⟨#[]⟩), 1, 16) := by kernel_rfl
theorem info27 : (Tryd.prog.info? 27).map (fun i => (i.zero, i.size, i.bytes)) = some (some (.agg #[(.string ⟨#[]⟩), (.string ⟨#[]⟩)]), 2, 32) := by kernel_rfl
structure S27 where
 f0 : ByteArray
 f1 : ByteArray
def z27 : S27 := ⟨(⟨#[]⟩ : ByteArray), (⟨#[]⟩ : ByteArray)⟩
def k27 : Kd S27 := Kd.iso (Kd.pair Kd.string Kd.string) (fun x : S27 => (x.f0, x.f1))
theorem k27_open {w : World} {x : S27} {cs : List Value} (h : k27.K w x cs) : cs = [.string x.f0, .string x.f1] := by
 obtain ⟨_, _, rfl, rfl, rfl⟩ := h
 exact rfl
theorem k27_mkM (w : World) (base : Nat) (ok : Nat → Prop) (x : S27)  : k27.M w base ok x [.string x.f0, .string x.f1] := ⟨[.string x.f0], [.string x.f1], rfl, rfl, rfl⟩
def rd_T27 (xs : List S27) (i : Int) : S27 := xs.getD i.toNat z27
theorem at_T27 {w : World} {A : Option Addr} {n : Nat} {xs : List S27} (h : Kd.C k27 w A n xs) (i : Int) (h0 : 0 ≤ i) (h1 : i < n) : ∃ ad , A = some ad ∧ w.cell? (ad.add (i.toNat * 2)) = some (.string (rd_T27 xs i).f0) ∧ w.cell? ⟨(ad.add (i.toNat * 2)).block, (ad.add (i.toNat * 2)).off + 1, none⟩ = some (.string (rd_T27 xs i).f1) := by
 obtain ⟨ad, c, e, _, hK, hc0⟩ := Kd.C_get h z27 i h0 h1
 have hc : ∀ j u, c[j]? = some u → w.cell? (ad.add (i.toNat * 2 + j)) = some u := hc0
 obtain rfl := k27_open hK
 exact ⟨ad, e, hc 0 _ rfl, by rw [← add_field _ _ 1 (by omega)]; exact hc 1 _ rfl⟩
structure S36 where
 f0 : ByteArray
 f1 : ByteArray
 f2 : Int
def B36 (x : S36) : Prop := (fun a_ : ByteArray => a_.size ≤ 140737488351232) x.f0 ∧ (fun a_ : ByteArray => a_.size ≤ 140737488351232) x.f1 ∧ (fun a_ : Int => (Lit.int .i64 a_).wf = true) x.f2
abbrev bN := @blk_drewN
abbrev bD := @blk_drew
abbrev bA := @blk_alloc
abbrev lA := @below_alloc
abbrev lN := @pw_below_drewN
abbrev lD := @below_drew1
end Go.Proofs.YtinbbjfnebhlkaaDoor.P
