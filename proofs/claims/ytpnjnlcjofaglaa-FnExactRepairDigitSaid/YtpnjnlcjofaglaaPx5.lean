/- Written by a program in this session: each theorem here says that a Go function computes the Lean function beside it, or that a law's row holds, under the conditions that the theorem itself states. -/
import Derived.Test.YtpnjnlcjofaglaaPx0
import Derived.Test.YtpnjnlcjofaglaaPx2
import Derived.Test.YtpnjnlcjofaglaaPx3
import Derived.Test.YtpnjnlcjofaglaaPx4
import Derived.Lib.SmallJoins
import Derived.RegionTactic
namespace Go.Proofs.Ytpnjnlcjofaglaa.P
open Go.RowKit Go.Proofs.YtpnjnlcjofaglaaW.PrintWords Go.Proofs.YtpnjnlcjofaglaaW.PrintLast Go.Proofs.YtpnjnlcjofaglaaW.PrintMore
attribute [local go_sem] max2_int min2_int max_two min_two max_three min_three max_four min_four   -- for this text's walks alone
set_option linter.unusedVariables false
set_option linter.unusedSimpArgs false

/-! ### impl_RepairDigit: function 15, by hand -/
def dgtB (j : Nat) : Int := if j < 10 then 48 + (j : Int) else 88
def putAt (s : ByteArray) (p j : Nat) : ByteArray := strOfNums ((bytesOf s).set p (dgtB j))
def impl_RepairDigit.l0 : Nat → Int → ByteArray → Nat → Nat → ByteArray → Int → Option (ByteArray × Bool)
  | 0, _, _, _, _, _, _ => none
  | k + 1, a0, s, p, j, fd, c => if j < 11 then (impl_isIdentifier.f k a0 (putAt s p j)).bind fun t => (if t = true then impl_RepairDigit.l0 k a0 s p (j + 1) (putAt s p j) (c + 1) else impl_RepairDigit.l0 k a0 s p (j + 1) fd c) else if c = 1 then some (fd, true) else some ((⟨#[]⟩ : ByteArray), false)
def impl_RepairDigit.f (k : Nat) (a0 : Int) (a1 : ByteArray) (a2 : Int) : Option (ByteArray × Bool) :=
  if a1.size ≤ 140737488351232 then ((impl_isIdKind.f a0).bind fun b => if b = true then ((impl_isIdText.f k a0 a1).bind fun t => (if t = true then (if 0 ≤ a2 ∧ a2 ≤ (a1.size : Int) - 1 then impl_RepairDigit.l0 k a0 a1 a2.toNat 0 (⟨#[]⟩ : ByteArray) 0 else some ((⟨#[]⟩ : ByteArray), false)) else some ((⟨#[]⟩ : ByteArray), false))) else some ((⟨#[]⟩ : ByteArray), false)) else none
theorem impl_RepairDigit.mono_l : ∀ k, (∀ y0 y1 y2 y3 y4 y5, LeO (impl_RepairDigit.l0 k y0 y1 y2 y3 y4 y5) (impl_RepairDigit.l0 (k + 1) y0 y1 y2 y3 y4 y5))
  | 0 => fun _ _ _ _ _ _ r h => by simp [impl_RepairDigit.l0] at h
  | k + 1 => by
    have ih0 := impl_RepairDigit.mono_l k
    intro y0 y1 y2 y3 y4 y5
    unfold impl_RepairDigit.l0
    repeat' first
      | (with_reducible exact ih0 _ _ _ _ _ _)
      | (with_reducible exact impl_isIdentifier.mono _ _ _)
      | (with_reducible exact LeO.refl _)
      | (with_reducible exact LeO.none _)
      | (with_reducible refine LeO.ite ?_ ?_)
      | (with_reducible refine LeO.bind ?_ (fun _ => ?_))
theorem impl_RepairDigit.mono : ∀ a0 a1 a2 k, LeO (impl_RepairDigit.f k a0 a1 a2) (impl_RepairDigit.f (k + 1) a0 a1 a2) := by
  intro a0 a1 a2 k
  have ih0 := impl_RepairDigit.mono_l k
  unfold impl_RepairDigit.f
  repeat' first
      | (with_reducible exact ih0 _ _ _ _ _ _)
      | (with_reducible exact impl_isIdText.mono _ _ _)
      | (with_reducible exact LeO.refl _)
      | (with_reducible exact LeO.none _)
      | (with_reducible refine LeO.ite ?_ ?_)
      | (with_reducible refine LeO.bind ?_ (fun _ => ?_))
theorem dgtB_range (j : Nat) (h : j < 11) : 0 ≤ dgtB j ∧ dgtB j ≤ 255 := by
  unfold dgtB
  split <;> omega
theorem dgt_arr (j : Nat) (hj : j < 11) : (#[.int .u8 48, .int .u8 49, .int .u8 50, .int .u8 51, .int .u8 52, .int .u8 53, .int .u8 54, .int .u8 55, .int .u8 56, .int .u8 57, .int .u8 88] : Array Value)[j]? = some (.int .u8 (dgtB j)) := by
  have : j = 0 ∨ j = 1 ∨ j = 2 ∨ j = 3 ∨ j = 4 ∨ j = 5 ∨ j = 6 ∨ j = 7 ∨ j = 8 ∨ j = 9 ∨ j = 10 := by omega
  rcases this with rfl | rfl | rfl | rfl | rfl | rfl | rfl | rfl | rfl | rfl | rfl <;> rfl
set_option maxHeartbeats 8000000 in
set_option maxRecDepth 100000 in
theorem impl_RepairDigit.calls (k : Nat) (a0 : Int) (a1 : ByteArray) (a2 : Int) (r1 : ByteArray) (r2 : Bool) (w : World) (h : impl_RepairDigit.f k a0 a1 a2 = some (r1, r2)) :
    Calls Try.prog 15 #[.int .i64 a0, .string a1, .int .i64 a2] w fun e w' => e = .returned (.tuple #[.string r1, .bool r2]) ∧ Below w.heap.size w w' := by
  have HB := Aside0.mk (Below.refl w.heap.size w)
  unfold impl_RepairDigit.f at h
  by_cases hs : a1.size ≤ 140737488351232
  case neg => rw [if_neg hs] at h; cases h
  rw [if_pos hs] at h
  have HS := Aside0.mk hs
  clear hs
  obtain ⟨b, hb, h⟩ := Option.bind_eq_some_iff.1 h
  have A1 := Aside0.mk hb
  clear hb
  cases b with
  | false =>
    rw [if_neg Bool.false_ne_true] at h
    simp only [Option.some.injEq, Prod.mk.injEq] at h
    obtain ⟨rfl, rfl⟩ := h
    go_enter Try.func15, Try.ntmps15
    go_wp2_with (first | (go_at_call 29; (with_reducible refine (impl_isIdKind.calls a0 false _ A1.out).mono ?_); rintro e w' ⟨rfl, ⟨nd, rfl⟩⟩))
    go_ret2
    exact ⟨rfl, pw_below_drewN HB.out _⟩
  | true =>
    rw [if_pos rfl] at h
    obtain ⟨t, ht, h⟩ := Option.bind_eq_some_iff.1 h
    have A2 := Aside0.mk ht
    clear ht
    cases t with
    | false =>
      rw [if_neg Bool.false_ne_true] at h
      simp only [Option.some.injEq, Prod.mk.injEq] at h
      obtain ⟨rfl, rfl⟩ := h
      go_enter Try.func15, Try.ntmps15
      go_wp2_with (first | (go_at_call 29; (with_reducible refine (impl_isIdKind.calls a0 true _ A1.out).mono ?_); rintro e w' ⟨rfl, ⟨nd, rfl⟩⟩) | (go_at_call 30; (with_reducible refine (impl_isIdText.calls k a0 a1 false _ A2.out).mono ?_); rintro e w' ⟨rfl, ⟨nd2, rfl⟩⟩))
      go_ret2
      exact ⟨rfl, by repeat (first | (with_reducible first | exact HB.out | apply pw_below_drewN | apply below_drew1) | exact HB.out)⟩
    | true =>
      rw [if_pos rfl] at h
      have hsz : (a1.size : Int) ≤ 140737488351232 := by have := HS.out; omega
      by_cases hk : 0 ≤ a2 ∧ a2 ≤ (a1.size : Int) - 1
      case neg =>
        rw [if_neg hk] at h
        simp only [Option.some.injEq, Prod.mk.injEq] at h
        obtain ⟨rfl, rfl⟩ := h
        have hI : impl_inside.f a2 0 ((a1.size : Int) - 1) = some false := by
          unfold impl_inside.f
          by_cases k0 : a2 ≥ 0
          · rw [if_pos k0]; simp; omega
          · rw [if_neg k0]
        have HI := Aside0.mk hI
        clear hI hk
        go_enter Try.func15, Try.ntmps15
        go_wp2_with (first | (go_at_call 29; (with_reducible refine (impl_isIdKind.calls a0 true _ A1.out).mono ?_); rintro e w' ⟨rfl, ⟨nd, rfl⟩⟩) | (go_at_call 30; (with_reducible refine (impl_isIdText.calls k a0 a1 true _ A2.out).mono ?_); rintro e w' ⟨rfl, ⟨nd2, rfl⟩⟩) | (go_at_call 23; (with_reducible refine (impl_inside.calls a2 0 ((a1.size : Int) - 1) false _ HI.out).mono ?_); rintro e w' ⟨rfl, ⟨nd3, rfl⟩⟩))
        go_ret2
        exact ⟨rfl, by repeat (first | (with_reducible first | exact HB.out | apply pw_below_drewN | apply below_drew1) | exact HB.out)⟩
      rw [if_pos hk] at h
      obtain ⟨p, rfl⟩ : ∃ p : Nat, a2 = (p : Int) := ⟨a2.toNat, by omega⟩
      rw [Int.toNat_natCast] at h
      have hI : impl_inside.f (p : Int) 0 ((a1.size : Int) - 1) = some true := by
        unfold impl_inside.f
        rw [if_pos hk.1]; simp; omega
      have HI := Aside0.mk hI
      have hp : (p : Int) < (a1.size : Int) := by omega
      have HP : Aside0 (p < a1.size) := ⟨by omega⟩
      clear hI hk
      have H' := Aside0.mk h
      clear h
      have kc := fun (n0 : Nat) (C : Array Value) (n c : Nat) => Joins.run_convert_bytes_const_at (P := Try.prog) (w.drewN n0) 39 5 C n c w.heap.size rfl Try.underlying39 Try.underlying5
      go_enter Try.func15, Try.ntmps15
      go_wp2_with (first
        | (go_at_call 29; (with_reducible refine (impl_isIdKind.calls a0 true _ A1.out).mono ?_); rintro e w' ⟨rfl, ⟨nd, rfl⟩⟩)
        | (go_at_call 30; (with_reducible refine (impl_isIdText.calls k a0 a1 true _ A2.out).mono ?_); rintro e w' ⟨rfl, ⟨nd2, rfl⟩⟩)
        | (go_at_call 23; (with_reducible refine (impl_inside.calls (p : Int) 0 ((a1.size : Int) - 1) true _ HI.out).mono ?_); rintro e w' ⟨rfl, ⟨nd3, rfl⟩⟩))
      clear kc
      go_loopg [8, 9, 11, 12, 33] k (fun kq v8 v9 v11 v12 v33 w' => ∃ (fd : ByteArray) (c j : Nat), v8 = .string fd ∧ v9 = .int .i64 c ∧ v33 = .int .i64 j ∧ Aside0 (impl_RepairDigit.l0 kq a0 a1 p j fd c = some (r1, r2)) ∧ Aside0 (kq ≤ k) ∧ Aside0 (j ≤ 11 ∧ c ≤ j) ∧ Aside0 (∀ q, q < 11 → w'.cell? ⟨w.heap.size, q, none⟩ = some (.int .u8 (dgtB q))) ∧ Aside0 (Below w.heap.size w w'))
      case atStart => exact ⟨(⟨#[]⟩ : ByteArray), 0, 0, rfl, rfl, rfl, H', ⟨Nat.le_refl _⟩, ⟨Nat.zero_le _, Nat.le_refl _⟩, ⟨fun q hq => (Joins.cell_alloc_mark_at _ _ _ _ _ _ rfl).trans (dgt_arr q hq)⟩, ⟨by repeat (first | (with_reducible first | exact HB.out | apply below_alloc | apply pw_below_drewN | apply below_drew1) | exact HB.out)⟩⟩
      case round =>
        clear H'
        try clear HB
        obtain ⟨fd, c, j, rfl, rfl, rfl, HA, HK1, HJ, HD, HB⟩ := hrel
        cases gk with
        | zero => exact absurd HA.out (by simp [impl_RepairDigit.l0])
        | succ k1 =>
          have H := HA.out
          clear HA
          rw [impl_RepairDigit.l0] at H
          by_cases hlt : j < 11
          · rw [if_pos hlt] at H
            have hlt' : (j : Int) < 11 := by omega
            have hc11 : (c : Int) ≤ 11 := by have := HJ.out; omega
            obtain ⟨t, A30, H⟩ := Option.bind_eq_some_iff.1 H
            have A3 := Aside0.mk A30
            have HLT := Aside0.mk hlt
            have hdc := HD.out j hlt
            obtain ⟨hd0, hd1⟩ := dgtB_range j hlt
            clear A30
            obtain ⟨g, cap, W1, hcv, HR0⟩ := conv_ex (P := Try.prog) wr 9 39 5 a1 Try.underlying9 Try.underlying39 Try.underlying5
            have hx0 := HR0.cell p (by rw [bytesOf_length]; exact HP.out)
            have hf0 := HR0.free p (by rw [bytesOf_length]; exact HP.out)
            have hS := HR0.set p (dgtB j)
            have ht := hS.text 39 5 9 Try.underlying39 Try.underlying5 Try.underlying9 a1.size cap (by rw [List.length_set, bytesOf_length])
            replace ht : (convert 39 9 (.slice (some ⟨g, 0, none⟩) a1.size cap)).run Try.prog (W1.setCell ⟨g, p, none⟩ (.int .u8 (dgtB j))) = .ok (.string (putAt a1 p j)) (W1.setCell ⟨g, p, none⟩ (.int .u8 (dgtB j))) := ht
            have HS1 := Aside0.mk hS
            clear HR0 hS
            have H' := Aside0.mk H
            clear H hlt
            have hKD : ∀ nd q, q < 11 → ((W1.setCell ⟨g, p, none⟩ (.int .u8 (dgtB j))).drewN nd).cell? ⟨w.heap.size, q, none⟩ = some (.int .u8 (dgtB q)) := fun nd q hq =>
              ((HS1.out.drewN nd).below.cell (p := ⟨w.heap.size, q, none⟩) (World.block_lt_of_cell? wr ⟨w.heap.size, q, none⟩ (HD.out q hq))).trans (HD.out q hq)
            have HKD := Aside0.mk hKD
            have hKB : ∀ nd, Below w.heap.size w ((W1.setCell ⟨g, p, none⟩ (.int .u8 (dgtB j))).drewN nd) := fun nd => below_step HB.out (HS1.out.drewN nd).below
            have HKB := Aside0.mk hKB
            have hht : ∀ nd, (convert 39 9 (.slice (some ⟨g, 0, none⟩) a1.size cap)).run Try.prog ((W1.setCell ⟨g, p, none⟩ (.int .u8 (dgtB j))).drewN nd) = .ok (.string (putAt a1 p j)) ((W1.setCell ⟨g, p, none⟩ (.int .u8 (dgtB j))).drewN nd) := fun nd =>
              (HS1.out.drewN nd).text 39 5 9 Try.underlying39 Try.underlying5 Try.underlying9 a1.size cap (by rw [List.length_set, bytesOf_length])
            have HHT := Aside0.mk hht
            clear hKD hKB hht
            cases t with
            | true =>
              replace H' := H'.out
              rw [if_pos rfl] at H'
              have H := Aside0.mk H'
              clear H'
              go_wp2_with (first
                | (go_at_call 31; (with_reducible refine (impl_isIdentifier.calls k1 a0 (putAt a1 p j) true _ A3.out).mono ?_); rintro e w' ⟨rfl, ⟨nd, rfl⟩⟩; have ht2 := HHT.out nd))
              go_roundg k1
              case measure => have := HK1.out; omega
              case rel => exact ⟨putAt a1 p j, c + 1, j + 1, rfl, by go_num, by go_num, H, ⟨by have := HK1.out; omega⟩, ⟨by have := HLT.out; have := HJ.out; omega⟩, ⟨HKD.out _⟩, ⟨HKB.out _⟩⟩
            | false =>
              replace H' := H'.out
              rw [if_neg Bool.false_ne_true] at H'
              have H := Aside0.mk H'
              clear H'
              go_wp2_with (first
                | (go_at_call 31; (with_reducible refine (impl_isIdentifier.calls k1 a0 (putAt a1 p j) false _ A3.out).mono ?_); rintro e w' ⟨rfl, ⟨nd, rfl⟩⟩))
              go_roundg k1
              case measure => have := HK1.out; omega
              case rel => exact ⟨fd, c, j + 1, rfl, rfl, by go_num, H, ⟨by have := HK1.out; omega⟩, ⟨by have := HLT.out; have := HJ.out; omega⟩, ⟨HKD.out _⟩, ⟨HKB.out _⟩⟩
          · rw [if_neg hlt] at H
            have hj11 : j = 11 := by have := HJ.out; omega
            subst hj11
            clear hlt
            by_cases hc : (c : Int) = 1
            · rw [if_pos hc] at H
              simp only [Option.some.injEq, Prod.mk.injEq] at H
              obtain ⟨rfl, rfl⟩ := H
              have hc1 : c = 1 := by omega
              subst hc1
              clear hc
              go_wp2
              go_ret2
              exact ⟨rfl, HB.out⟩
            · rw [if_neg hc] at H
              simp only [Option.some.injEq, Prod.mk.injEq] at H
              obtain ⟨rfl, rfl⟩ := H
              have hcb : ((c : Int) != 1) = true := bne_iff_ne.2 hc
              have hcb2 : ((c : Int) == 1) = false := beq_eq_false_iff_ne.2 hc
              clear hc
              go_wp2
              go_ret2
              exact ⟨rfl, HB.out⟩

/-! ### laws_FnExactRepairDigit: function 6 -/
def laws_FnExactRepairDigit.f (k : Nat) (a0 : Int) (a1 : ByteArray) (a2 : Int) : Option (Bool) := if (a1.size : Int) > 1048576 then (some true) else ((spec_RepairDigit.f k a0 a1 a2).bind fun bt158 => ((impl_RepairDigit.f k a0 a1 a2).bind fun bt160 => (if bt160.1.toList = bt158.1.toList then (if (bt160.2 != bt158.2) = true then (some false) else (some true)) else (some false))))
theorem laws_FnExactRepairDigit.mono : ∀ a0 a1 a2 k, LeO (laws_FnExactRepairDigit.f k a0 a1 a2) (laws_FnExactRepairDigit.f (k + 1) a0 a1 a2) := by
  intro a0 a1 a2 k
  unfold laws_FnExactRepairDigit.f
  repeat' first
      | (with_reducible exact impl_RepairDigit.mono _ _ _ _)
      | (with_reducible exact spec_RepairDigit.mono _ _ _ _)
      | (with_reducible exact LeO.refl _)
      | (with_reducible exact LeO.none _)
      | (with_reducible refine LeO.ite ?_ ?_)
      | (with_reducible refine LeO.bind ?_ (fun _ => ?_))
      | exact impl_RepairDigit.mono _ _ _ _
      | exact spec_RepairDigit.mono _ _ _ _
      | exact LeO.none _
      | refine LeO.ite ?_ ?_
      | refine LeO.bind ?_ (fun _ => ?_)
set_option maxHeartbeats 8000000 in
set_option maxRecDepth 100000 in
theorem laws_FnExactRepairDigit.calls (k : Nat) (a0 : Int) (a1 : ByteArray) (a2 : Int) (r : Bool) (w : World) (hr_ : r = true) (h : laws_FnExactRepairDigit.f k a0 a1 a2 = some r) :
    Calls Try.prog 6 #[.int .i64 a0, .string a1, .int .i64 a2] w fun e w' => e = .returned (.bool r) ∧ Below w.heap.size w w' := by
  have HB := Aside0.mk (Below.refl w.heap.size w)
  have H : (if (a1.size : Int) > 1048576 then (some true) else ((spec_RepairDigit.f k a0 a1 a2).bind fun bt158 => ((impl_RepairDigit.f k a0 a1 a2).bind fun bt160 => (if bt160.1.toList = bt158.1.toList then (if (bt160.2 != bt158.2) = true then (some false) else (some true)) else (some false))))) = some r := h
  clear h
  by_cases c4 : (a1.size : Int) > 1048576
  · rw [if_pos c4] at H
    have c4b0 : decide (1048576 < (a1.size : Int)) = true := decide_eq_true c4
    have c4b1 : decide (1048576 < a1.size) = true := decide_eq_true (by omega)
    clear c4
    obtain rfl := Option.some.inj H
    try clear hr_
    go_enter Try.func6, Try.ntmps6
    go_wp2
    go_ret
    exact ⟨by first | rfl | (simp [errW_none, errW_some] <;> rfl) | (simp [*, errW_none, errW_some] <;> rfl), by repeat (first | (with_reducible first | exact HB.out | apply below_alloc | apply pw_below_drewN | apply below_drew1) | exact HB.out)⟩
  · rw [if_neg c4] at H
    have c4b0 : decide (1048576 < (a1.size : Int)) = false := decide_eq_false c4
    have c4b1 : decide (1048576 < a1.size) = false := decide_eq_false (by omega)
    clear c4
    replace H := Option.bind_eq_some_iff.mp H
    obtain ⟨⟨t158, t159⟩, A50, H⟩ := H
    replace H : ((impl_RepairDigit.f k a0 a1 a2).bind fun bt160 => (if bt160.1.toList = t158.toList then (if (bt160.2 != t159) = true then (some false) else (some true)) else (some false))) = some r := H
    have A5 := Aside0.mk A50
    clear A50
    replace H := Option.bind_eq_some_iff.mp H
    obtain ⟨⟨t160, t161⟩, A60, H⟩ := H
    replace H : (if t160.toList = t158.toList then (if (t161 != t159) = true then (some false) else (some true)) else (some false)) = some r := H
    have A6 := Aside0.mk A60
    clear A60
    by_cases c7 : t160.toList = t158.toList
    · rw [if_pos c7] at H
      have c7b0 : (t160.toList == t158.toList) = true := beq_iff_eq.mpr c7
      have c7b1 : (t160.toList != t158.toList) = false := bne_eq_false_iff_eq.mpr c7
      clear c7
      by_cases c8 : (t161 != t159) = true
      · rw [if_pos c8] at H
        have c8b0 : (t161 != t159) = true := c8
        (try (have c8b1 : decide (t161 = t159) = false := by simpa using c8))
        (try (have c8b2 : (t161 == t159) = false := by simpa using c8))
        (try (have c8b3 : ¬ (t161 = t159) := by simpa using c8))
        clear c8
        exact absurd ((Option.some.inj H).trans hr_) (by decide)
      · rw [if_neg c8] at H
        have c8b0 : (t161 != t159) = false := by simpa using c8
        (try (have c8b1 : decide (t161 = t159) = true := by simpa using c8))
        (try (have c8b2 : (t161 == t159) = true := by simpa using c8))
        clear c8
        obtain rfl := Option.some.inj H
        try clear hr_
        go_enter Try.func6, Try.ntmps6
        go_wp2_with (first | ((with_reducible refine gate_callee (f := 14) rfl ?_); refine goesL_ (some 18) rfl rfl Try.func14 (by kernel_rfl) rfl #[.int .i64 a0, .string a1, .int .i64 a2] rfl (by (try simp only [List.map_toArray, List.map_cons, List.map_nil]); first | done | rfl | (simp only [List.length_drop, List.length_take]; rfl)) ?_; (with_reducible refine (spec_RepairDigit.calls k a0 a1 a2 t158 t159 _ A5.out).mono ?_); rintro e w' ⟨rfl, ⟨nd, rfl⟩⟩; refine ⟨_, rfl, ?_⟩) | ((with_reducible refine gate_callee (f := 15) rfl ?_); refine goesL_ (some 25) rfl rfl Try.func15 (by kernel_rfl) rfl #[.int .i64 a0, .string a1, .int .i64 a2] rfl (by (try simp only [List.map_toArray, List.map_cons, List.map_nil]); first | done | rfl | (simp only [List.length_drop, List.length_take]; rfl)) ?_; (with_reducible refine (impl_RepairDigit.calls k a0 a1 a2 t160 t161 _ A6.out).mono ?_); rintro e w9 ⟨rfl, hb⟩; refine ⟨_, rfl, ?_⟩; have n0_ := Aside0.mk (below_step (by repeat (first | (with_reducible first | exact HB.out | apply below_alloc | apply pw_below_drewN | apply below_drew1) | exact HB.out)) hb); clear HB; have HB := n0_; clear n0_; (try clear hb); (try clear hb2); (try clear hk); (try clear hi)))
        go_ret
        exact ⟨by first | rfl | (simp [errW_none, errW_some] <;> rfl) | (simp [*, errW_none, errW_some] <;> rfl), by repeat (first | (with_reducible first | exact HB.out | apply below_alloc | apply pw_below_drewN | apply below_drew1) | exact HB.out)⟩
    · rw [if_neg c7] at H
      have c7b0 : (t160.toList == t158.toList) = false := beq_eq_false_iff_ne.mpr c7
      have c7b1 : (t160.toList != t158.toList) = true := bne_iff_ne.mpr c7
      exact absurd ((Option.some.inj H).trans hr_) (by decide)

/-- The one pure statement of laws_FnExactRepairDigit. -/
def laws_FnExactRepairDigit.Pure : Prop := ∀ (a0 : Int) (a1 : ByteArray) (a2 : Int), ((Lit.int .i64 a0).wf = true) → (a1.size ≤ 140737488351232) → ((Lit.int .i64 a2).wf = true) → ∃ k, laws_FnExactRepairDigit.f k a0 a1 a2 = some true

end Go.Proofs.Ytpnjnlcjofaglaa.P
