/- Written by a program in this session: each theorem here says that a Go function computes the Lean function beside it, or that a law's row holds, under the conditions that the theorem itself states. -/
import Derived.Test.YtpnjnlcjofaglaaProg
import Derived.Below
import Derived.Deep.Draws
import Derived.Deep.AppendLies
import Derived.Maps.AppendAt
import Derived.OwnWalk
import Derived.Laws.BytesArg
import Derived.Laws.MakeOwn
import Derived.Laws.OwnMore
import Derived.Deep.OwnRows
import Derived.Tactics
import Derived.Lib.ConvBytes
import Derived.Laws.Slices
import Derived.WalkKit
import Derived.KernelRfl
import Derived.RowKit3
import Derived.Deep.LoopGhost
import Derived.Deep.QuietTactic
import Derived.BigQuiet
import Derived.WideLaws
import Derived.Deep.DeepCutAuto
import Derived.Deep.CutBlock
import Derived.Deep.RegionHeld3
import Derived.Laws.Rows
import Derived.Lib.AppendStr
import Derived.ArgAppend
import Derived.Laws.IdiomCopy
import Derived.OrdersHeld
import Derived.Laws.BitsLemmas
import Derived.RowKit
import Derived.Test.YtpnjnlcjofaglaaWWords
import Derived.Test.YtpnjnlcjofaglaaWLast
import Derived.Test.YtpnjnlcjofaglaaWTab
import Derived.Test.YtpnjnlcjofaglaaWFour
import Derived.Test.YtpnjnlcjofaglaaWQPut
import Derived.Test.YtpnjnlcjofaglaaWApart
import Derived.Test.YtpnjnlcjofaglaaWArr
import Derived.Test.YtpnjnlcjofaglaaWZeros
import Derived.Test.YtpnjnlcjofaglaaWFoot
import Derived.Test.YtpnjnlcjofaglaaWKept
import Derived.Test.YtpnjnlcjofaglaaWShare
import Derived.Test.YtpnjnlcjofaglaaWN
import Derived.Test.YtpnjnlcjofaglaaWFootNe
import Derived.Test.YtpnjnlcjofaglaaWAt
import Derived.Test.YtpnjnlcjofaglaaWEqStruct
import Derived.Test.YtpnjnlcjofaglaaWRepsOne
import Derived.Test.YtpnjnlcjofaglaaWInv
import Derived.Test.YtpnjnlcjofaglaaWInvWords
import Derived.Test.YtpnjnlcjofaglaaWGuard
import Derived.Test.YtpnjnlcjofaglaaWNEv
import Derived.Test.YtpnjnlcjofaglaaWMore
import Derived.Lib.ItoaNum
import Derived.Lib.LaidTab
namespace Go.Proofs.Ytpnjnlcjofaglaa.P
open Go.RowKit Go.Proofs.YtpnjnlcjofaglaaW.PrintWords Go.Proofs.YtpnjnlcjofaglaaW.PrintLast Go.Proofs.YtpnjnlcjofaglaaW.PrintMore
attribute [local go_sem] max2_int min2_int max_two min_two max_three min_three max_four min_four   -- for this text's walks alone
set_option linter.unusedVariables false
set_option linter.unusedSimpArgs false



def errW : Option Int → Value
  | none => .nilIface
  | some c => .iface 0 (.int .i64 c)
theorem errW_none : errW none = .nilIface := rfl
theorem errW_some (c : Int) : errW (some c) = .iface 0 (.int .i64 c) := rfl

-- small lemmas of this session
theorem my_isEmpty (l : List UInt8) : (l != []) = !l.isEmpty := by cases l <;> rfl

/-- A row that a conversion of a string made: its first bytes, as they now stand; all that was there before is as it was. -/
structure BRow (w W : World) (g : Nat) (xs : List Int) : Prop where
  below : Below w.heap.size w W
  new : w.heap.size ≤ g
  cell : ∀ j, j < xs.length → W.cell? ⟨g, j, none⟩ = some (.int .u8 (xs.getD j 0))
  free : ∀ j, j < xs.length → W.frozen? ⟨g, j, none⟩ = false
theorem BRow.made (w : World) (e : TypeId) (s : ByteArray) : BRow w (Lib.bytesWorld w e s) w.heap.size (bytesOf s) := by
  have hs : s.size ≤ (Lib.bytesCells w e s).size := by
    unfold Lib.bytesCells
    rw [Array.size_append, Array.size_map]
    exact Nat.le_add_right _ _
  have hn := Lib.bytesWorld_at_new w e s
  refine ⟨⟨?_, ?_, ?_, by rw [Lib.bytesWorld_size]; omega, fun j hj => Lib.bytesWorld_at_old w e s j hj⟩, Nat.le_refl _, fun j hj => ?_, fun j hj => ?_⟩
  · simp [Lib.bytesWorld, World.freeze, World.alloc, World.drew, -World.alloc_eq, -World.drew_eq]
  · simp [Lib.bytesWorld, World.freeze, World.alloc, World.drew, -World.alloc_eq, -World.drew_eq]
  · simp [Lib.bytesWorld, World.freeze, World.alloc, World.drew, -World.alloc_eq, -World.drew_eq]
  · rw [bytesOf_length] at hj
    have hj' : j < s.data.toList.length := by rw [data_length]; exact hj
    rw [Lib.bytesWorld_cell w e s j hj]
    simp [bytesOf, List.getD_eq_getElem?_getD, List.getElem?_eq_getElem hj']
  · rw [bytesOf_length] at hj
    unfold World.frozen?
    rw [hn]
    have : ¬ (Lib.bytesCells w e s).size ≤ j := by omega
    simp [this]
theorem BRow.set {w W : World} {g : Nat} {xs : List Int} (h : BRow w W g xs) (i : Nat) (x : Int) : BRow w (W.setCell ⟨g, i, none⟩ (.int .u8 x)) g (xs.set i x) := by
  refine ⟨h.below.setCell h.new _, h.new, fun j hj => ?_, fun j hj => ?_⟩
  · rw [List.length_set] at hj
    by_cases e : i = j
    · subst e
      rw [World.cell?_setCell_same _ _ _ (h.cell i hj)]
      simp [List.getD_eq_getElem?_getD, List.getElem?_set, hj]
    · rw [World.cell?_setCell_other _ _ _ _ (by simp [e]), h.cell j hj]
      simp [List.getD_eq_getElem?_getD, List.getElem?_set, e]
  · rw [List.length_set] at hj
    rw [World.frozen?_setCell, h.free j hj]
theorem BRow.drewN {w W : World} {g : Nat} {xs : List Int} (h : BRow w W g xs) (n : Nat) : BRow w (W.drewN n) g xs :=
  ⟨pw_below_drewN h.below n, h.new, h.cell, h.free⟩
theorem BRow.keep {w W W' : World} {g : Nat} {xs : List Int} (h : BRow w W g xs) (hb : Below W.heap.size W W') (hl : 0 < xs.length) : BRow w W' g xs := by
  have hg : g < W.heap.size := World.block_lt_of_cell? W ⟨g, 0, none⟩ (h.cell 0 hl)
  exact ⟨h.below.trans ⟨hb.os, hb.tape, hb.output, hb.size, fun k hk => hb.block k (Nat.lt_of_lt_of_le hk h.below.size)⟩, h.new, fun j hj => (hb.cell (p := ⟨g, j, none⟩) hg).trans (h.cell j hj), fun j hj => (hb.frozen (p := ⟨g, j, none⟩) hg).trans (h.free j hj)⟩
theorem BRow.text {P : Program} {w W : World} {g : Nat} {xs : List Int} (h : BRow w W g xs) (src e dst : TypeId) (hs : P.underlying src = some (.slice e)) (he : P.underlying e = some (.int .u8)) (hd : P.underlying dst = some .string) (n cap : Nat) (hn : xs.length = n) :
    (convert src dst (.slice (some ⟨g, 0, none⟩) n cap)).run P W = .ok (.string (strOfNums xs)) W :=
  run_convert_bytes_arg W src e hs he g 0 n cap xs hn (fun i hi => by rw [Nat.zero_add]; exact h.cell i (by omega)) dst hd
theorem conv_ex {P : Program} (w : World) (src dst e : TypeId) (s : ByteArray) {u : TypeDesc} (hs : P.underlying src = some u) (hd : P.underlying dst = some (.slice e)) (he : P.underlying e = some (.int .u8)) :
    ∃ (g cap : Nat) (W : World), (convert src dst (.string s)).run P w = .ok (.slice (some ⟨g, 0, none⟩) s.size cap) W ∧ BRow w W g (bytesOf s) :=
  ⟨_, _, _, Lib.run_convert_string_bytes w src dst e s hs hd he, BRow.made w e s⟩
def tornB (s : ByteArray) (b : Bool) : ByteArray := if b = true ∧ 0 < s.size then strOfNums ((bytesOf s).set (s.size - 1) (255 - (bytesOf s).getD (s.size - 1) 0)) else strOfNums (bytesOf s)
theorem strOfNums_size (l : List Int) : (strOfNums l).size = l.length := by
  unfold strOfNums
  exact List.length_map ..
theorem tornB_size (s : ByteArray) (b : Bool) : (tornB s b).size = s.size := by
  unfold tornB
  split
  · rw [strOfNums_size, List.length_set, bytesOf_length]
  · rw [strOfNums_size, bytesOf_length]
theorem bytesOf_range (s : ByteArray) (k : Nat) : 0 ≤ (bytesOf s).getD k 0 ∧ (bytesOf s).getD k 0 ≤ 255 := by
  have := rd_bytesOf s k
  simp only [rd, Int.toNat_natCast] at this
  rw [this]
  exact bt_range _ _

-- a premise on the world: tables of Go's library hold what their text lays
structure Gw (w : World) : Prop where
  tab : Lib.TabIs Try.prog w "internal/strconv.uint64pow10" .u64 Lib.pow10Tab
theorem var_below {P : Program} {w W : World} (hb : Below w.heap.size w W) {n : String} {cs : Array Value} (h : w.var? P n = some cs) : W.var? P n = some cs := by
  unfold World.var? at h ⊢
  cases hg : P.globalNamed n with
  | none => simp [hg] at h
  | some g =>
    simp only [hg, Option.bind_some] at h ⊢
    have hlt : g < w.heap.size := by
      rcases Nat.lt_or_ge g w.heap.size with h' | h'
      · exact h'
      · simp [Array.getElem?_eq_none h'] at h
    rw [hb.block g hlt]
    exact h
theorem Gw.below {w W : World} (h : Gw w) (hb : Below w.heap.size w W) : Gw W := ⟨var_below hb h.tab⟩
theorem Gw.drewN {w : World} (h : Gw w) (n : Nat) : Gw (w.drewN n) := ⟨var_below (pw_below_drewN (Below.refl _ _) n) h.tab⟩

theorem info3 : (Try.prog.info? 3).map (fun i => (i.zero, i.size, i.bytes)) = some (some (.int .i64 0), 1, 8) := by kernel_rfl
-- the values' own types
def rd_L2 (xs : List (List Int)) (i : Int) : (List Int) := xs.getD i.toNat ([] : List Int)
theorem at_L2 {w : World} {A : Option Addr} {n : Nat} {xs : List (List Int)} (h : Kd.C (Kd.slice 3 (Kd.int .i64)) w A n xs) (i : Int) (h0 : 0 ≤ i) (h1 : i < n) : ∃ ad A0 c0, A = some ad ∧ w.cell? (ad.add i.toNat) = some (.slice A0 (rd_L2 xs i).length c0) ∧ (rd_L2 xs i).length ≤ c0 ∧ (Kd.int .i64).C w A0 (rd_L2 xs i).length (rd_L2 xs i) := by
  obtain ⟨ad, c, e, _, hK, hc0⟩ := Kd.C_get h ([] : List Int) i h0 h1
  have hc : ∀ j u, c[j]? = some u → w.cell? (ad.add (i.toNat * 1 + j)) = some u := hc0
  obtain ⟨A0, c0, rfl, l0, g0⟩ := hK
  exact ⟨ad, A0, c0, e, by have hq := hc 0 _ rfl; rwa [Nat.mul_one, Nat.add_zero] at hq, l0, g0⟩


end Go.Proofs.Ytpnjnlcjofaglaa.P
