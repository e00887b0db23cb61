-- by a program of this session (wip/tools) over the kit's print
import Derived.Test.YtpnjnlcjofaglaaPx0
import Derived.Test.YtpnjnlcjofaglaaPx1
import Derived.Test.YtpnjnlcjofaglaaPx2
import Derived.Test.YtpnjnlcjofaglaaPx3
namespace Go.Proofs.Ytpnjnlcjofaglaa.P
open Go.RowKit Go.Proofs.YtpnjnlcjofaglaaW.PrintWords Go.Proofs.YtpnjnlcjofaglaaW.PrintLast Go.Proofs.YtpnjnlcjofaglaaW.PrintMore
attribute [local go_sem] max2_int min2_int max_two min_two max_three min_three max_four min_four   -- for this text's walks alone
set_option linter.unusedVariables false
set_option linter.unusedSimpArgs false

/-! ### spec_WrittenForm: function 12 -/
def spec_WrittenForm.f (k : Nat) (a0 : ByteArray) : Option (ByteArray × Bool) := (spec_l24Kind.f k a0).bind fun t158 => (if t158 = 0 then (some ((⟨#[]⟩ : ByteArray), false)) else (if t158 = 3 then (if 0 ≤ 4 then (if 4 ≤ (a0.size : Int) then (if (a0.extract 0 4).size + 1 ≤ 9223372036854775807 then (if ((a0.extract 0 4) ++ (⟨#[45]⟩ : ByteArray)).size + (a0.extract 4 a0.size).size ≤ 9223372036854775807 then (some (((a0.extract 0 4) ++ (⟨#[45]⟩ : ByteArray)) ++ (a0.extract 4 a0.size), true)) else (none)) else (none)) else (none)) else (none)) else (if t158 = 4 then (if 0 ≤ 4 then (if 4 ≤ (a0.size : Int) then (if (a0.extract 0 4).size + 1 ≤ 9223372036854775807 then (if 4 ≤ 8 then (if 8 ≤ (a0.size : Int) then (if ((a0.extract 0 4) ++ (⟨#[45]⟩ : ByteArray)).size + (a0.extract 4 8).size ≤ 9223372036854775807 then (if (((a0.extract 0 4) ++ (⟨#[45]⟩ : ByteArray)) ++ (a0.extract 4 8)).size + 1 ≤ 9223372036854775807 then (if 8 ≤ 12 then (if 12 ≤ (a0.size : Int) then (if ((((a0.extract 0 4) ++ (⟨#[45]⟩ : ByteArray)) ++ (a0.extract 4 8)) ++ (⟨#[45]⟩ : ByteArray)).size + (a0.extract 8 12).size ≤ 9223372036854775807 then (if (((((a0.extract 0 4) ++ (⟨#[45]⟩ : ByteArray)) ++ (a0.extract 4 8)) ++ (⟨#[45]⟩ : ByteArray)) ++ (a0.extract 8 12)).size + 1 ≤ 9223372036854775807 then (if ((((((a0.extract 0 4) ++ (⟨#[45]⟩ : ByteArray)) ++ (a0.extract 4 8)) ++ (⟨#[45]⟩ : ByteArray)) ++ (a0.extract 8 12)) ++ (⟨#[45]⟩ : ByteArray)).size + (a0.extract 12 a0.size).size ≤ 9223372036854775807 then (some (((((((a0.extract 0 4) ++ (⟨#[45]⟩ : ByteArray)) ++ (a0.extract 4 8)) ++ (⟨#[45]⟩ : ByteArray)) ++ (a0.extract 8 12)) ++ (⟨#[45]⟩ : ByteArray)) ++ (a0.extract 12 a0.size), true)) else (none)) else (none)) else (none)) else (none)) else (none)) else (none)) else (none)) else (none)) else (none)) else (none)) else (none)) else (none)) else (some (a0, true)))))
theorem spec_WrittenForm.mono : ∀ a0 k, LeO (spec_WrittenForm.f k a0) (spec_WrittenForm.f (k + 1) a0) := by
  intro a0 k
  unfold spec_WrittenForm.f
  repeat' first
      | (with_reducible exact spec_l24Kind.mono _ _)
      | (with_reducible exact LeO.refl _)
      | (with_reducible exact LeO.none _)
      | (with_reducible refine LeO.ite ?_ ?_)
      | (with_reducible refine LeO.bind ?_ (fun _ => ?_))
      | exact spec_l24Kind.mono _ _
      | exact LeO.none _
      | refine LeO.ite ?_ ?_
      | refine LeO.bind ?_ (fun _ => ?_)
set_option maxHeartbeats 8000000 in
set_option maxRecDepth 100000 in
theorem spec_WrittenForm.calls (k : Nat) (a0 : ByteArray) (r1 : ByteArray) (r2 : Bool) (w : World) (h : spec_WrittenForm.f k a0 = some (r1, r2)) :
    Calls Try.prog 12 #[.string a0] w fun e w' => e = .returned (.tuple #[.string r1, .bool r2]) ∧ Drawn0 w w' := by
  have H : ((spec_l24Kind.f k a0).bind fun t158 => (if t158 = 0 then (some ((⟨#[]⟩ : ByteArray), false)) else (if t158 = 3 then (if 0 ≤ 4 then (if 4 ≤ (a0.size : Int) then (if (a0.extract 0 4).size + 1 ≤ 9223372036854775807 then (if ((a0.extract 0 4) ++ (⟨#[45]⟩ : ByteArray)).size + (a0.extract 4 a0.size).size ≤ 9223372036854775807 then (some (((a0.extract 0 4) ++ (⟨#[45]⟩ : ByteArray)) ++ (a0.extract 4 a0.size), true)) else (none)) else (none)) else (none)) else (none)) else (if t158 = 4 then (if 0 ≤ 4 then (if 4 ≤ (a0.size : Int) then (if (a0.extract 0 4).size + 1 ≤ 9223372036854775807 then (if 4 ≤ 8 then (if 8 ≤ (a0.size : Int) then (if ((a0.extract 0 4) ++ (⟨#[45]⟩ : ByteArray)).size + (a0.extract 4 8).size ≤ 9223372036854775807 then (if (((a0.extract 0 4) ++ (⟨#[45]⟩ : ByteArray)) ++ (a0.extract 4 8)).size + 1 ≤ 9223372036854775807 then (if 8 ≤ 12 then (if 12 ≤ (a0.size : Int) then (if ((((a0.extract 0 4) ++ (⟨#[45]⟩ : ByteArray)) ++ (a0.extract 4 8)) ++ (⟨#[45]⟩ : ByteArray)).size + (a0.extract 8 12).size ≤ 9223372036854775807 then (if (((((a0.extract 0 4) ++ (⟨#[45]⟩ : ByteArray)) ++ (a0.extract 4 8)) ++ (⟨#[45]⟩ : ByteArray)) ++ (a0.extract 8 12)).size + 1 ≤ 9223372036854775807 then (if ((((((a0.extract 0 4) ++ (⟨#[45]⟩ : ByteArray)) ++ (a0.extract 4 8)) ++ (⟨#[45]⟩ : ByteArray)) ++ (a0.extract 8 12)) ++ (⟨#[45]⟩ : ByteArray)).size + (a0.extract 12 a0.size).size ≤ 9223372036854775807 then (some (((((((a0.extract 0 4) ++ (⟨#[45]⟩ : ByteArray)) ++ (a0.extract 4 8)) ++ (⟨#[45]⟩ : ByteArray)) ++ (a0.extract 8 12)) ++ (⟨#[45]⟩ : ByteArray)) ++ (a0.extract 12 a0.size), true)) else (none)) else (none)) else (none)) else (none)) else (none)) else (none)) else (none)) else (none)) else (none)) else (none)) else (none)) else (none)) else (some (a0, true)))))) = some (r1, r2) := h
  clear h
  replace H := Option.bind_eq_some_iff.mp H
  obtain ⟨t158, A20, H⟩ := H
  replace H : (if t158 = 0 then (some ((⟨#[]⟩ : ByteArray), false)) else (if t158 = 3 then (if 0 ≤ 4 then (if 4 ≤ (a0.size : Int) then (if (a0.extract 0 4).size + 1 ≤ 9223372036854775807 then (if ((a0.extract 0 4) ++ (⟨#[45]⟩ : ByteArray)).size + (a0.extract 4 a0.size).size ≤ 9223372036854775807 then (some (((a0.extract 0 4) ++ (⟨#[45]⟩ : ByteArray)) ++ (a0.extract 4 a0.size), true)) else (none)) else (none)) else (none)) else (none)) else (if t158 = 4 then (if 0 ≤ 4 then (if 4 ≤ (a0.size : Int) then (if (a0.extract 0 4).size + 1 ≤ 9223372036854775807 then (if 4 ≤ 8 then (if 8 ≤ (a0.size : Int) then (if ((a0.extract 0 4) ++ (⟨#[45]⟩ : ByteArray)).size + (a0.extract 4 8).size ≤ 9223372036854775807 then (if (((a0.extract 0 4) ++ (⟨#[45]⟩ : ByteArray)) ++ (a0.extract 4 8)).size + 1 ≤ 9223372036854775807 then (if 8 ≤ 12 then (if 12 ≤ (a0.size : Int) then (if ((((a0.extract 0 4) ++ (⟨#[45]⟩ : ByteArray)) ++ (a0.extract 4 8)) ++ (⟨#[45]⟩ : ByteArray)).size + (a0.extract 8 12).size ≤ 9223372036854775807 then (if (((((a0.extract 0 4) ++ (⟨#[45]⟩ : ByteArray)) ++ (a0.extract 4 8)) ++ (⟨#[45]⟩ : ByteArray)) ++ (a0.extract 8 12)).size + 1 ≤ 9223372036854775807 then (if ((((((a0.extract 0 4) ++ (⟨#[45]⟩ : ByteArray)) ++ (a0.extract 4 8)) ++ (⟨#[45]⟩ : ByteArray)) ++ (a0.extract 8 12)) ++ (⟨#[45]⟩ : ByteArray)).size + (a0.extract 12 a0.size).size ≤ 9223372036854775807 then (some (((((((a0.extract 0 4) ++ (⟨#[45]⟩ : ByteArray)) ++ (a0.extract 4 8)) ++ (⟨#[45]⟩ : ByteArray)) ++ (a0.extract 8 12)) ++ (⟨#[45]⟩ : ByteArray)) ++ (a0.extract 12 a0.size), true)) else (none)) else (none)) else (none)) else (none)) else (none)) else (none)) else (none)) else (none)) else (none)) else (none)) else (none)) else (none)) else (some (a0, true))))) = some (r1, r2) := H
  have A2 := Aside0.mk A20
  clear A20
  by_cases c3 : t158 = 0
  · rw [if_pos c3] at H
    have c3b0 : (t158 == 0) = true := beq_iff_eq.mpr c3
    have c3b1 : (t158 != 0) = false := bne_eq_false_iff_eq.mpr c3
    clear c3
    simp only [Option.some.injEq, Prod.mk.injEq] at H
    obtain ⟨rfl, rfl⟩ := H
    go_enter Try.func12, Try.ntmps12
    go_wp2_with (first | (go_at_call 25; (with_reducible refine (spec_l24Kind.calls k a0 t158 _ A2.out).mono ?_); rintro e w' ⟨rfl, ⟨nd, rfl⟩⟩; (try first | exact ⟨rfl, _, World.drewN_drewN _ _ _⟩ | exact ⟨rfl, _, Eq.trans (World.drewN_drewN _ _ _) (congrArg (World.drewN _) (Nat.add_assoc _ _ _))⟩)))
    repeat (go_quiet (first | (go_at_call 25; (with_reducible refine (spec_l24Kind.calls k a0 t158 _ A2.out).mono ?_); rintro e w' ⟨rfl, ⟨nd, rfl⟩⟩; (try first | exact ⟨rfl, _, World.drewN_drewN _ _ _⟩ | exact ⟨rfl, _, Eq.trans (World.drewN_drewN _ _ _) (congrArg (World.drewN _) (Nat.add_assoc _ _ _))⟩))); try go_wp2_with (first | (go_at_call 25; (with_reducible refine (spec_l24Kind.calls k a0 t158 _ A2.out).mono ?_); rintro e w' ⟨rfl, ⟨nd, rfl⟩⟩; (try first | exact ⟨rfl, _, World.drewN_drewN _ _ _⟩ | exact ⟨rfl, _, Eq.trans (World.drewN_drewN _ _ _) (congrArg (World.drewN _) (Nat.add_assoc _ _ _))⟩))))
    go_ret2
    exact ⟨by first | rfl | (simp; done) | (simp [my_isEmpty]; done) | (simp [*]; done), by repeat (first | exact Drawn0.refl _ | apply Drawn0.step)⟩
  · rw [if_neg c3] at H
    have c3b0 : (t158 == 0) = false := beq_eq_false_iff_ne.mpr c3
    have c3b1 : (t158 != 0) = true := bne_iff_ne.mpr c3
    by_cases c4 : t158 = 3
    · rw [if_pos c4] at H
      have c4b0 : (t158 == 3) = true := beq_iff_eq.mpr c4
      have c4b1 : (t158 != 3) = false := bne_eq_false_iff_eq.mpr c4
      clear c4
      by_cases c5 : 0 ≤ 4
      · rw [if_pos c5] at H
        have c5b0 := eq_true c5
        have c5b1 : decide (0 ≤ 4) = true := decide_eq_true c5
        clear c5
        by_cases c6 : 4 ≤ (a0.size : Int)
        · rw [if_pos c6] at H
          have c6b0 := eq_true c6
          have c6b1 : decide (4 ≤ (a0.size : Int)) = true := decide_eq_true c6
          clear c6
          by_cases c7 : (a0.extract 0 4).size + 1 ≤ 9223372036854775807
          · rw [if_pos c7] at H
            have c7b0 := eq_true c7
            have c7b1 : decide ((a0.extract 0 4).size + 1 ≤ 9223372036854775807) = true := decide_eq_true c7
            try have c7b2 : (9223372036854775807 < (a0.extract 0 4).size + 1) = False := eq_false (Nat.not_lt.2 c7)
            have c8b0 := eq_true (of_decide_eq_true (by first | (with_reducible assumption) | assumption) : 4 ≤ (a0.size : Int))
            by_cases c9 : ((a0.extract 0 4) ++ (⟨#[45]⟩ : ByteArray)).size + (a0.extract 4 a0.size).size ≤ 9223372036854775807
            · rw [if_pos c9] at H
              have c9b0 := eq_true c9
              have c9b1 : decide (((a0.extract 0 4) ++ (⟨#[45]⟩ : ByteArray)).size + (a0.extract 4 a0.size).size ≤ 9223372036854775807) = true := decide_eq_true c9
              try have c9b2 : (9223372036854775807 < ((a0.extract 0 4) ++ (⟨#[45]⟩ : ByteArray)).size + (a0.extract 4 a0.size).size) = False := eq_false (Nat.not_lt.2 c9)
              simp only [Option.some.injEq, Prod.mk.injEq] at H
              obtain ⟨rfl, rfl⟩ := H
              go_enter Try.func12, Try.ntmps12
              go_wp2_with (first | (go_at_call 25; (with_reducible refine (spec_l24Kind.calls k a0 t158 _ A2.out).mono ?_); rintro e w' ⟨rfl, ⟨nd, rfl⟩⟩; (try first | exact ⟨rfl, _, World.drewN_drewN _ _ _⟩ | exact ⟨rfl, _, Eq.trans (World.drewN_drewN _ _ _) (congrArg (World.drewN _) (Nat.add_assoc _ _ _))⟩)))
              repeat (go_quiet (first | (go_at_call 25; (with_reducible refine (spec_l24Kind.calls k a0 t158 _ A2.out).mono ?_); rintro e w' ⟨rfl, ⟨nd, rfl⟩⟩; (try first | exact ⟨rfl, _, World.drewN_drewN _ _ _⟩ | exact ⟨rfl, _, Eq.trans (World.drewN_drewN _ _ _) (congrArg (World.drewN _) (Nat.add_assoc _ _ _))⟩))); try go_wp2_with (first | (go_at_call 25; (with_reducible refine (spec_l24Kind.calls k a0 t158 _ A2.out).mono ?_); rintro e w' ⟨rfl, ⟨nd, rfl⟩⟩; (try first | exact ⟨rfl, _, World.drewN_drewN _ _ _⟩ | exact ⟨rfl, _, Eq.trans (World.drewN_drewN _ _ _) (congrArg (World.drewN _) (Nat.add_assoc _ _ _))⟩))))
              go_ret2
              exact ⟨by first | rfl | (simp; done) | (simp [my_isEmpty]; done) | (simp [*]; done), by repeat (first | exact Drawn0.refl _ | apply Drawn0.step)⟩
            · rw [if_neg c9] at H
              exact absurd H (by simp)
          · rw [if_neg c7] at H
            exact absurd H (by simp)
        · rw [if_neg c6] at H
          exact absurd H (by simp)
      · rw [if_neg c5] at H
        exact absurd H (by simp)
    · rw [if_neg c4] at H
      have c4b0 : (t158 == 3) = false := beq_eq_false_iff_ne.mpr c4
      have c4b1 : (t158 != 3) = true := bne_iff_ne.mpr c4
      by_cases c10 : t158 = 4
      · rw [if_pos c10] at H
        have c10b0 : (t158 == 4) = true := beq_iff_eq.mpr c10
        have c10b1 : (t158 != 4) = false := bne_eq_false_iff_eq.mpr c10
        clear c10
        by_cases c11 : 0 ≤ 4
        · rw [if_pos c11] at H
          have c11b0 := eq_true c11
          have c11b1 : decide (0 ≤ 4) = true := decide_eq_true c11
          clear c11
          by_cases c12 : 4 ≤ (a0.size : Int)
          · rw [if_pos c12] at H
            have c12b0 := eq_true c12
            have c12b1 : decide (4 ≤ (a0.size : Int)) = true := decide_eq_true c12
            clear c12
            by_cases c13 : (a0.extract 0 4).size + 1 ≤ 9223372036854775807
            · rw [if_pos c13] at H
              have c13b0 := eq_true c13
              have c13b1 : decide ((a0.extract 0 4).size + 1 ≤ 9223372036854775807) = true := decide_eq_true c13
              try have c13b2 : (9223372036854775807 < (a0.extract 0 4).size + 1) = False := eq_false (Nat.not_lt.2 c13)
              by_cases c14 : 4 ≤ 8
              · rw [if_pos c14] at H
                have c14b0 := eq_true c14
                have c14b1 : decide (4 ≤ 8) = true := decide_eq_true c14
                clear c14
                by_cases c15 : 8 ≤ (a0.size : Int)
                · rw [if_pos c15] at H
                  have c15b0 := eq_true c15
                  have c15b1 : decide (8 ≤ (a0.size : Int)) = true := decide_eq_true c15
                  clear c15
                  by_cases c16 : ((a0.extract 0 4) ++ (⟨#[45]⟩ : ByteArray)).size + (a0.extract 4 8).size ≤ 9223372036854775807
                  · rw [if_pos c16] at H
                    have c16b0 := eq_true c16
                    have c16b1 : decide (((a0.extract 0 4) ++ (⟨#[45]⟩ : ByteArray)).size + (a0.extract 4 8).size ≤ 9223372036854775807) = true := decide_eq_true c16
                    try have c16b2 : (9223372036854775807 < ((a0.extract 0 4) ++ (⟨#[45]⟩ : ByteArray)).size + (a0.extract 4 8).size) = False := eq_false (Nat.not_lt.2 c16)
                    by_cases c17 : (((a0.extract 0 4) ++ (⟨#[45]⟩ : ByteArray)) ++ (a0.extract 4 8)).size + 1 ≤ 9223372036854775807
                    · rw [if_pos c17] at H
                      have c17b0 := eq_true c17
                      have c17b1 : decide ((((a0.extract 0 4) ++ (⟨#[45]⟩ : ByteArray)) ++ (a0.extract 4 8)).size + 1 ≤ 9223372036854775807) = true := decide_eq_true c17
                      try have c17b2 : (9223372036854775807 < (((a0.extract 0 4) ++ (⟨#[45]⟩ : ByteArray)) ++ (a0.extract 4 8)).size + 1) = False := eq_false (Nat.not_lt.2 c17)
                      by_cases c18 : 8 ≤ 12
                      · rw [if_pos c18] at H
                        have c18b0 := eq_true c18
                        have c18b1 : decide (8 ≤ 12) = true := decide_eq_true c18
                        clear c18
                        by_cases c19 : 12 ≤ (a0.size : Int)
                        · rw [if_pos c19] at H
                          have c19b0 := eq_true c19
                          have c19b1 : decide (12 ≤ (a0.size : Int)) = true := decide_eq_true c19
                          clear c19
                          by_cases c20 : ((((a0.extract 0 4) ++ (⟨#[45]⟩ : ByteArray)) ++ (a0.extract 4 8)) ++ (⟨#[45]⟩ : ByteArray)).size + (a0.extract 8 12).size ≤ 9223372036854775807
                          · rw [if_pos c20] at H
                            have c20b0 := eq_true c20
                            have c20b1 : decide (((((a0.extract 0 4) ++ (⟨#[45]⟩ : ByteArray)) ++ (a0.extract 4 8)) ++ (⟨#[45]⟩ : ByteArray)).size + (a0.extract 8 12).size ≤ 9223372036854775807) = true := decide_eq_true c20
                            try have c20b2 : (9223372036854775807 < ((((a0.extract 0 4) ++ (⟨#[45]⟩ : ByteArray)) ++ (a0.extract 4 8)) ++ (⟨#[45]⟩ : ByteArray)).size + (a0.extract 8 12).size) = False := eq_false (Nat.not_lt.2 c20)
                            by_cases c21 : (((((a0.extract 0 4) ++ (⟨#[45]⟩ : ByteArray)) ++ (a0.extract 4 8)) ++ (⟨#[45]⟩ : ByteArray)) ++ (a0.extract 8 12)).size + 1 ≤ 9223372036854775807
                            · rw [if_pos c21] at H
                              have c21b0 := eq_true c21
                              have c21b1 : decide ((((((a0.extract 0 4) ++ (⟨#[45]⟩ : ByteArray)) ++ (a0.extract 4 8)) ++ (⟨#[45]⟩ : ByteArray)) ++ (a0.extract 8 12)).size + 1 ≤ 9223372036854775807) = true := decide_eq_true c21
                              try have c21b2 : (9223372036854775807 < (((((a0.extract 0 4) ++ (⟨#[45]⟩ : ByteArray)) ++ (a0.extract 4 8)) ++ (⟨#[45]⟩ : ByteArray)) ++ (a0.extract 8 12)).size + 1) = False := eq_false (Nat.not_lt.2 c21)
                              have c22b0 := eq_true (of_decide_eq_true (by first | (with_reducible assumption) | assumption) : 12 ≤ (a0.size : Int))
                              by_cases c23 : ((((((a0.extract 0 4) ++ (⟨#[45]⟩ : ByteArray)) ++ (a0.extract 4 8)) ++ (⟨#[45]⟩ : ByteArray)) ++ (a0.extract 8 12)) ++ (⟨#[45]⟩ : ByteArray)).size + (a0.extract 12 a0.size).size ≤ 9223372036854775807
                              · rw [if_pos c23] at H
                                have c23b0 := eq_true c23
                                have c23b1 : decide (((((((a0.extract 0 4) ++ (⟨#[45]⟩ : ByteArray)) ++ (a0.extract 4 8)) ++ (⟨#[45]⟩ : ByteArray)) ++ (a0.extract 8 12)) ++ (⟨#[45]⟩ : ByteArray)).size + (a0.extract 12 a0.size).size ≤ 9223372036854775807) = true := decide_eq_true c23
                                try have c23b2 : (9223372036854775807 < ((((((a0.extract 0 4) ++ (⟨#[45]⟩ : ByteArray)) ++ (a0.extract 4 8)) ++ (⟨#[45]⟩ : ByteArray)) ++ (a0.extract 8 12)) ++ (⟨#[45]⟩ : ByteArray)).size + (a0.extract 12 a0.size).size) = False := eq_false (Nat.not_lt.2 c23)
                                simp only [Option.some.injEq, Prod.mk.injEq] at H
                                obtain ⟨rfl, rfl⟩ := H
                                go_enter Try.func12, Try.ntmps12
                                go_wp2_with (first | (go_at_call 25; (with_reducible refine (spec_l24Kind.calls k a0 t158 _ A2.out).mono ?_); rintro e w' ⟨rfl, ⟨nd, rfl⟩⟩; (try first | exact ⟨rfl, _, World.drewN_drewN _ _ _⟩ | exact ⟨rfl, _, Eq.trans (World.drewN_drewN _ _ _) (congrArg (World.drewN _) (Nat.add_assoc _ _ _))⟩)))
                                repeat (go_quiet (first | (go_at_call 25; (with_reducible refine (spec_l24Kind.calls k a0 t158 _ A2.out).mono ?_); rintro e w' ⟨rfl, ⟨nd, rfl⟩⟩; (try first | exact ⟨rfl, _, World.drewN_drewN _ _ _⟩ | exact ⟨rfl, _, Eq.trans (World.drewN_drewN _ _ _) (congrArg (World.drewN _) (Nat.add_assoc _ _ _))⟩))); try go_wp2_with (first | (go_at_call 25; (with_reducible refine (spec_l24Kind.calls k a0 t158 _ A2.out).mono ?_); rintro e w' ⟨rfl, ⟨nd, rfl⟩⟩; (try first | exact ⟨rfl, _, World.drewN_drewN _ _ _⟩ | exact ⟨rfl, _, Eq.trans (World.drewN_drewN _ _ _) (congrArg (World.drewN _) (Nat.add_assoc _ _ _))⟩))))
                                go_ret2
                                exact ⟨by first | rfl | (simp; done) | (simp [my_isEmpty]; done) | (simp [*]; done), by repeat (first | exact Drawn0.refl _ | apply Drawn0.step)⟩
                              · rw [if_neg c23] at H
                                exact absurd H (by simp)
                            · rw [if_neg c21] at H
                              exact absurd H (by simp)
                          · rw [if_neg c20] at H
                            exact absurd H (by simp)
                        · rw [if_neg c19] at H
                          exact absurd H (by simp)
                      · rw [if_neg c18] at H
                        exact absurd H (by simp)
                    · rw [if_neg c17] at H
                      exact absurd H (by simp)
                  · rw [if_neg c16] at H
                    exact absurd H (by simp)
                · rw [if_neg c15] at H
                  exact absurd H (by simp)
              · rw [if_neg c14] at H
                exact absurd H (by simp)
            · rw [if_neg c13] at H
              exact absurd H (by simp)
          · rw [if_neg c12] at H
            exact absurd H (by simp)
        · rw [if_neg c11] at H
          exact absurd H (by simp)
      · rw [if_neg c10] at H
        have c10b0 : (t158 == 4) = false := beq_eq_false_iff_ne.mpr c10
        have c10b1 : (t158 != 4) = true := bne_iff_ne.mpr c10
        simp only [Option.some.injEq, Prod.mk.injEq] at H
        obtain ⟨rfl, rfl⟩ := H
        go_enter Try.func12, Try.ntmps12
        go_wp2_with (first | (go_at_call 25; (with_reducible refine (spec_l24Kind.calls k a0 t158 _ A2.out).mono ?_); rintro e w' ⟨rfl, ⟨nd, rfl⟩⟩; (try first | exact ⟨rfl, _, World.drewN_drewN _ _ _⟩ | exact ⟨rfl, _, Eq.trans (World.drewN_drewN _ _ _) (congrArg (World.drewN _) (Nat.add_assoc _ _ _))⟩)))
        repeat (go_quiet (first | (go_at_call 25; (with_reducible refine (spec_l24Kind.calls k a0 t158 _ A2.out).mono ?_); rintro e w' ⟨rfl, ⟨nd, rfl⟩⟩; (try first | exact ⟨rfl, _, World.drewN_drewN _ _ _⟩ | exact ⟨rfl, _, Eq.trans (World.drewN_drewN _ _ _) (congrArg (World.drewN _) (Nat.add_assoc _ _ _))⟩))); try go_wp2_with (first | (go_at_call 25; (with_reducible refine (spec_l24Kind.calls k a0 t158 _ A2.out).mono ?_); rintro e w' ⟨rfl, ⟨nd, rfl⟩⟩; (try first | exact ⟨rfl, _, World.drewN_drewN _ _ _⟩ | exact ⟨rfl, _, Eq.trans (World.drewN_drewN _ _ _) (congrArg (World.drewN _) (Nat.add_assoc _ _ _))⟩))))
        go_ret2
        exact ⟨by first | rfl | (simp; done) | (simp [my_isEmpty]; done) | (simp [*]; done), by repeat (first | exact Drawn0.refl _ | apply Drawn0.step)⟩

/-! ### impl_WrittenForm: function 13 -/
def impl_WrittenForm.f (k : Nat) (a0 : ByteArray) : Option (ByteArray × Bool) := (impl_idKind.f k a0).bind fun t159 => (if t159 = 3 then (if 0 ≤ 4 then (if 4 ≤ (a0.size : Int) then (if (a0.extract 0 4).size + 1 ≤ 9223372036854775807 then (if ((a0.extract 0 4) ++ (⟨#[45]⟩ : ByteArray)).size + (a0.extract 4 a0.size).size ≤ 9223372036854775807 then (some (((a0.extract 0 4) ++ (⟨#[45]⟩ : ByteArray)) ++ (a0.extract 4 a0.size), true)) else (none)) else (none)) else (none)) else (none)) else (if t159 = 4 then (if 0 ≤ 4 then (if 4 ≤ (a0.size : Int) then (if (a0.extract 0 4).size + 1 ≤ 9223372036854775807 then (if 4 ≤ 8 then (if 8 ≤ (a0.size : Int) then (if ((a0.extract 0 4) ++ (⟨#[45]⟩ : ByteArray)).size + (a0.extract 4 8).size ≤ 9223372036854775807 then (if (((a0.extract 0 4) ++ (⟨#[45]⟩ : ByteArray)) ++ (a0.extract 4 8)).size + 1 ≤ 9223372036854775807 then (if 8 ≤ 12 then (if 12 ≤ (a0.size : Int) then (if ((((a0.extract 0 4) ++ (⟨#[45]⟩ : ByteArray)) ++ (a0.extract 4 8)) ++ (⟨#[45]⟩ : ByteArray)).size + (a0.extract 8 12).size ≤ 9223372036854775807 then (if (((((a0.extract 0 4) ++ (⟨#[45]⟩ : ByteArray)) ++ (a0.extract 4 8)) ++ (⟨#[45]⟩ : ByteArray)) ++ (a0.extract 8 12)).size + 1 ≤ 9223372036854775807 then (if ((((((a0.extract 0 4) ++ (⟨#[45]⟩ : ByteArray)) ++ (a0.extract 4 8)) ++ (⟨#[45]⟩ : ByteArray)) ++ (a0.extract 8 12)) ++ (⟨#[45]⟩ : ByteArray)).size + (a0.extract 12 a0.size).size ≤ 9223372036854775807 then (some (((((((a0.extract 0 4) ++ (⟨#[45]⟩ : ByteArray)) ++ (a0.extract 4 8)) ++ (⟨#[45]⟩ : ByteArray)) ++ (a0.extract 8 12)) ++ (⟨#[45]⟩ : ByteArray)) ++ (a0.extract 12 a0.size), true)) else (none)) else (none)) else (none)) else (none)) else (none)) else (none)) else (none)) else (none)) else (none)) else (none)) else (none)) else (none)) else (if t159 = 0 then (some ((⟨#[]⟩ : ByteArray), false)) else (some (a0, true)))))
theorem impl_WrittenForm.mono : ∀ a0 k, LeO (impl_WrittenForm.f k a0) (impl_WrittenForm.f (k + 1) a0) := by
  intro a0 k
  unfold impl_WrittenForm.f
  repeat' first
      | (with_reducible exact impl_idKind.mono _ _)
      | (with_reducible exact LeO.refl _)
      | (with_reducible exact LeO.none _)
      | (with_reducible refine LeO.ite ?_ ?_)
      | (with_reducible refine LeO.bind ?_ (fun _ => ?_))
      | exact impl_idKind.mono _ _
      | exact LeO.none _
      | refine LeO.ite ?_ ?_
      | refine LeO.bind ?_ (fun _ => ?_)
set_option maxHeartbeats 8000000 in
set_option maxRecDepth 100000 in
theorem impl_WrittenForm.calls (k : Nat) (a0 : ByteArray) (r1 : ByteArray) (r2 : Bool) (w : World) (h : impl_WrittenForm.f k a0 = some (r1, r2)) :
    Calls Try.prog 13 #[.string a0] w fun e w' => e = .returned (.tuple #[.string r1, .bool r2]) ∧ Drawn0 w w' := by
  have H : ((impl_idKind.f k a0).bind fun t159 => (if t159 = 3 then (if 0 ≤ 4 then (if 4 ≤ (a0.size : Int) then (if (a0.extract 0 4).size + 1 ≤ 9223372036854775807 then (if ((a0.extract 0 4) ++ (⟨#[45]⟩ : ByteArray)).size + (a0.extract 4 a0.size).size ≤ 9223372036854775807 then (some (((a0.extract 0 4) ++ (⟨#[45]⟩ : ByteArray)) ++ (a0.extract 4 a0.size), true)) else (none)) else (none)) else (none)) else (none)) else (if t159 = 4 then (if 0 ≤ 4 then (if 4 ≤ (a0.size : Int) then (if (a0.extract 0 4).size + 1 ≤ 9223372036854775807 then (if 4 ≤ 8 then (if 8 ≤ (a0.size : Int) then (if ((a0.extract 0 4) ++ (⟨#[45]⟩ : ByteArray)).size + (a0.extract 4 8).size ≤ 9223372036854775807 then (if (((a0.extract 0 4) ++ (⟨#[45]⟩ : ByteArray)) ++ (a0.extract 4 8)).size + 1 ≤ 9223372036854775807 then (if 8 ≤ 12 then (if 12 ≤ (a0.size : Int) then (if ((((a0.extract 0 4) ++ (⟨#[45]⟩ : ByteArray)) ++ (a0.extract 4 8)) ++ (⟨#[45]⟩ : ByteArray)).size + (a0.extract 8 12).size ≤ 9223372036854775807 then (if (((((a0.extract 0 4) ++ (⟨#[45]⟩ : ByteArray)) ++ (a0.extract 4 8)) ++ (⟨#[45]⟩ : ByteArray)) ++ (a0.extract 8 12)).size + 1 ≤ 9223372036854775807 then (if ((((((a0.extract 0 4) ++ (⟨#[45]⟩ : ByteArray)) ++ (a0.extract 4 8)) ++ (⟨#[45]⟩ : ByteArray)) ++ (a0.extract 8 12)) ++ (⟨#[45]⟩ : ByteArray)).size + (a0.extract 12 a0.size).size ≤ 9223372036854775807 then (some (((((((a0.extract 0 4) ++ (⟨#[45]⟩ : ByteArray)) ++ (a0.extract 4 8)) ++ (⟨#[45]⟩ : ByteArray)) ++ (a0.extract 8 12)) ++ (⟨#[45]⟩ : ByteArray)) ++ (a0.extract 12 a0.size), true)) else (none)) else (none)) else (none)) else (none)) else (none)) else (none)) else (none)) else (none)) else (none)) else (none)) else (none)) else (none)) else (if t159 = 0 then (some ((⟨#[]⟩ : ByteArray), false)) else (some (a0, true)))))) = some (r1, r2) := h
  clear h
  replace H := Option.bind_eq_some_iff.mp H
  obtain ⟨t159, A20, H⟩ := H
  replace H : (if t159 = 3 then (if 0 ≤ 4 then (if 4 ≤ (a0.size : Int) then (if (a0.extract 0 4).size + 1 ≤ 9223372036854775807 then (if ((a0.extract 0 4) ++ (⟨#[45]⟩ : ByteArray)).size + (a0.extract 4 a0.size).size ≤ 9223372036854775807 then (some (((a0.extract 0 4) ++ (⟨#[45]⟩ : ByteArray)) ++ (a0.extract 4 a0.size), true)) else (none)) else (none)) else (none)) else (none)) else (if t159 = 4 then (if 0 ≤ 4 then (if 4 ≤ (a0.size : Int) then (if (a0.extract 0 4).size + 1 ≤ 9223372036854775807 then (if 4 ≤ 8 then (if 8 ≤ (a0.size : Int) then (if ((a0.extract 0 4) ++ (⟨#[45]⟩ : ByteArray)).size + (a0.extract 4 8).size ≤ 9223372036854775807 then (if (((a0.extract 0 4) ++ (⟨#[45]⟩ : ByteArray)) ++ (a0.extract 4 8)).size + 1 ≤ 9223372036854775807 then (if 8 ≤ 12 then (if 12 ≤ (a0.size : Int) then (if ((((a0.extract 0 4) ++ (⟨#[45]⟩ : ByteArray)) ++ (a0.extract 4 8)) ++ (⟨#[45]⟩ : ByteArray)).size + (a0.extract 8 12).size ≤ 9223372036854775807 then (if (((((a0.extract 0 4) ++ (⟨#[45]⟩ : ByteArray)) ++ (a0.extract 4 8)) ++ (⟨#[45]⟩ : ByteArray)) ++ (a0.extract 8 12)).size + 1 ≤ 9223372036854775807 then (if ((((((a0.extract 0 4) ++ (⟨#[45]⟩ : ByteArray)) ++ (a0.extract 4 8)) ++ (⟨#[45]⟩ : ByteArray)) ++ (a0.extract 8 12)) ++ (⟨#[45]⟩ : ByteArray)).size + (a0.extract 12 a0.size).size ≤ 9223372036854775807 then (some (((((((a0.extract 0 4) ++ (⟨#[45]⟩ : ByteArray)) ++ (a0.extract 4 8)) ++ (⟨#[45]⟩ : ByteArray)) ++ (a0.extract 8 12)) ++ (⟨#[45]⟩ : ByteArray)) ++ (a0.extract 12 a0.size), true)) else (none)) else (none)) else (none)) else (none)) else (none)) else (none)) else (none)) else (none)) else (none)) else (none)) else (none)) else (none)) else (if t159 = 0 then (some ((⟨#[]⟩ : ByteArray), false)) else (some (a0, true))))) = some (r1, r2) := H
  have A2 := Aside0.mk A20
  clear A20
  by_cases c3 : t159 = 3
  · rw [if_pos c3] at H
    have c3b0 : (t159 == 3) = true := beq_iff_eq.mpr c3
    have c3b1 : (t159 != 3) = false := bne_eq_false_iff_eq.mpr c3
    clear c3
    by_cases c4 : 0 ≤ 4
    · rw [if_pos c4] at H
      have c4b0 := eq_true c4
      have c4b1 : decide (0 ≤ 4) = true := decide_eq_true c4
      clear c4
      by_cases c5 : 4 ≤ (a0.size : Int)
      · rw [if_pos c5] at H
        have c5b0 := eq_true c5
        have c5b1 : decide (4 ≤ (a0.size : Int)) = true := decide_eq_true c5
        clear c5
        by_cases c6 : (a0.extract 0 4).size + 1 ≤ 9223372036854775807
        · rw [if_pos c6] at H
          have c6b0 := eq_true c6
          have c6b1 : decide ((a0.extract 0 4).size + 1 ≤ 9223372036854775807) = true := decide_eq_true c6
          try have c6b2 : (9223372036854775807 < (a0.extract 0 4).size + 1) = False := eq_false (Nat.not_lt.2 c6)
          have c7b0 := eq_true (of_decide_eq_true (by first | (with_reducible assumption) | assumption) : 4 ≤ (a0.size : Int))
          by_cases c8 : ((a0.extract 0 4) ++ (⟨#[45]⟩ : ByteArray)).size + (a0.extract 4 a0.size).size ≤ 9223372036854775807
          · rw [if_pos c8] at H
            have c8b0 := eq_true c8
            have c8b1 : decide (((a0.extract 0 4) ++ (⟨#[45]⟩ : ByteArray)).size + (a0.extract 4 a0.size).size ≤ 9223372036854775807) = true := decide_eq_true c8
            try have c8b2 : (9223372036854775807 < ((a0.extract 0 4) ++ (⟨#[45]⟩ : ByteArray)).size + (a0.extract 4 a0.size).size) = False := eq_false (Nat.not_lt.2 c8)
            simp only [Option.some.injEq, Prod.mk.injEq] at H
            obtain ⟨rfl, rfl⟩ := H
            go_enter Try.func13, Try.ntmps13
            go_wp2_with (first | (go_at_call 26; (with_reducible refine (impl_idKind.calls k a0 t159 _ A2.out).mono ?_); rintro e w' ⟨rfl, ⟨nd, rfl⟩⟩; (try first | exact ⟨rfl, _, World.drewN_drewN _ _ _⟩ | exact ⟨rfl, _, Eq.trans (World.drewN_drewN _ _ _) (congrArg (World.drewN _) (Nat.add_assoc _ _ _))⟩)))
            repeat (go_quiet (first | (go_at_call 26; (with_reducible refine (impl_idKind.calls k a0 t159 _ A2.out).mono ?_); rintro e w' ⟨rfl, ⟨nd, rfl⟩⟩; (try first | exact ⟨rfl, _, World.drewN_drewN _ _ _⟩ | exact ⟨rfl, _, Eq.trans (World.drewN_drewN _ _ _) (congrArg (World.drewN _) (Nat.add_assoc _ _ _))⟩))); try go_wp2_with (first | (go_at_call 26; (with_reducible refine (impl_idKind.calls k a0 t159 _ A2.out).mono ?_); rintro e w' ⟨rfl, ⟨nd, rfl⟩⟩; (try first | exact ⟨rfl, _, World.drewN_drewN _ _ _⟩ | exact ⟨rfl, _, Eq.trans (World.drewN_drewN _ _ _) (congrArg (World.drewN _) (Nat.add_assoc _ _ _))⟩))))
            go_ret2
            exact ⟨by first | rfl | (simp; done) | (simp [my_isEmpty]; done) | (simp [*]; done), by repeat (first | exact Drawn0.refl _ | apply Drawn0.step)⟩
          · rw [if_neg c8] at H
            exact absurd H (by simp)
        · rw [if_neg c6] at H
          exact absurd H (by simp)
      · rw [if_neg c5] at H
        exact absurd H (by simp)
    · rw [if_neg c4] at H
      exact absurd H (by simp)
  · rw [if_neg c3] at H
    have c3b0 : (t159 == 3) = false := beq_eq_false_iff_ne.mpr c3
    have c3b1 : (t159 != 3) = true := bne_iff_ne.mpr c3
    by_cases c9 : t159 = 4
    · rw [if_pos c9] at H
      have c9b0 : (t159 == 4) = true := beq_iff_eq.mpr c9
      have c9b1 : (t159 != 4) = false := bne_eq_false_iff_eq.mpr c9
      clear c9
      by_cases c10 : 0 ≤ 4
      · rw [if_pos c10] at H
        have c10b0 := eq_true c10
        have c10b1 : decide (0 ≤ 4) = true := decide_eq_true c10
        clear c10
        by_cases c11 : 4 ≤ (a0.size : Int)
        · rw [if_pos c11] at H
          have c11b0 := eq_true c11
          have c11b1 : decide (4 ≤ (a0.size : Int)) = true := decide_eq_true c11
          clear c11
          by_cases c12 : (a0.extract 0 4).size + 1 ≤ 9223372036854775807
          · rw [if_pos c12] at H
            have c12b0 := eq_true c12
            have c12b1 : decide ((a0.extract 0 4).size + 1 ≤ 9223372036854775807) = true := decide_eq_true c12
            try have c12b2 : (9223372036854775807 < (a0.extract 0 4).size + 1) = False := eq_false (Nat.not_lt.2 c12)
            by_cases c13 : 4 ≤ 8
            · rw [if_pos c13] at H
              have c13b0 := eq_true c13
              have c13b1 : decide (4 ≤ 8) = true := decide_eq_true c13
              clear c13
              by_cases c14 : 8 ≤ (a0.size : Int)
              · rw [if_pos c14] at H
                have c14b0 := eq_true c14
                have c14b1 : decide (8 ≤ (a0.size : Int)) = true := decide_eq_true c14
                clear c14
                by_cases c15 : ((a0.extract 0 4) ++ (⟨#[45]⟩ : ByteArray)).size + (a0.extract 4 8).size ≤ 9223372036854775807
                · rw [if_pos c15] at H
                  have c15b0 := eq_true c15
                  have c15b1 : decide (((a0.extract 0 4) ++ (⟨#[45]⟩ : ByteArray)).size + (a0.extract 4 8).size ≤ 9223372036854775807) = true := decide_eq_true c15
                  try have c15b2 : (9223372036854775807 < ((a0.extract 0 4) ++ (⟨#[45]⟩ : ByteArray)).size + (a0.extract 4 8).size) = False := eq_false (Nat.not_lt.2 c15)
                  by_cases c16 : (((a0.extract 0 4) ++ (⟨#[45]⟩ : ByteArray)) ++ (a0.extract 4 8)).size + 1 ≤ 9223372036854775807
                  · rw [if_pos c16] at H
                    have c16b0 := eq_true c16
                    have c16b1 : decide ((((a0.extract 0 4) ++ (⟨#[45]⟩ : ByteArray)) ++ (a0.extract 4 8)).size + 1 ≤ 9223372036854775807) = true := decide_eq_true c16
                    try have c16b2 : (9223372036854775807 < (((a0.extract 0 4) ++ (⟨#[45]⟩ : ByteArray)) ++ (a0.extract 4 8)).size + 1) = False := eq_false (Nat.not_lt.2 c16)
                    by_cases c17 : 8 ≤ 12
                    · rw [if_pos c17] at H
                      have c17b0 := eq_true c17
                      have c17b1 : decide (8 ≤ 12) = true := decide_eq_true c17
                      clear c17
                      by_cases c18 : 12 ≤ (a0.size : Int)
                      · rw [if_pos c18] at H
                        have c18b0 := eq_true c18
                        have c18b1 : decide (12 ≤ (a0.size : Int)) = true := decide_eq_true c18
                        clear c18
                        by_cases c19 : ((((a0.extract 0 4) ++ (⟨#[45]⟩ : ByteArray)) ++ (a0.extract 4 8)) ++ (⟨#[45]⟩ : ByteArray)).size + (a0.extract 8 12).size ≤ 9223372036854775807
                        · rw [if_pos c19] at H
                          have c19b0 := eq_true c19
                          have c19b1 : decide (((((a0.extract 0 4) ++ (⟨#[45]⟩ : ByteArray)) ++ (a0.extract 4 8)) ++ (⟨#[45]⟩ : ByteArray)).size + (a0.extract 8 12).size ≤ 9223372036854775807) = true := decide_eq_true c19
                          try have c19b2 : (9223372036854775807 < ((((a0.extract 0 4) ++ (⟨#[45]⟩ : ByteArray)) ++ (a0.extract 4 8)) ++ (⟨#[45]⟩ : ByteArray)).size + (a0.extract 8 12).size) = False := eq_false (Nat.not_lt.2 c19)
                          by_cases c20 : (((((a0.extract 0 4) ++ (⟨#[45]⟩ : ByteArray)) ++ (a0.extract 4 8)) ++ (⟨#[45]⟩ : ByteArray)) ++ (a0.extract 8 12)).size + 1 ≤ 9223372036854775807
                          · rw [if_pos c20] at H
                            have c20b0 := eq_true c20
                            have c20b1 : decide ((((((a0.extract 0 4) ++ (⟨#[45]⟩ : ByteArray)) ++ (a0.extract 4 8)) ++ (⟨#[45]⟩ : ByteArray)) ++ (a0.extract 8 12)).size + 1 ≤ 9223372036854775807) = true := decide_eq_true c20
                            try have c20b2 : (9223372036854775807 < (((((a0.extract 0 4) ++ (⟨#[45]⟩ : ByteArray)) ++ (a0.extract 4 8)) ++ (⟨#[45]⟩ : ByteArray)) ++ (a0.extract 8 12)).size + 1) = False := eq_false (Nat.not_lt.2 c20)
                            have c21b0 := eq_true (of_decide_eq_true (by first | (with_reducible assumption) | assumption) : 12 ≤ (a0.size : Int))
                            by_cases c22 : ((((((a0.extract 0 4) ++ (⟨#[45]⟩ : ByteArray)) ++ (a0.extract 4 8)) ++ (⟨#[45]⟩ : ByteArray)) ++ (a0.extract 8 12)) ++ (⟨#[45]⟩ : ByteArray)).size + (a0.extract 12 a0.size).size ≤ 9223372036854775807
                            · rw [if_pos c22] at H
                              have c22b0 := eq_true c22
                              have c22b1 : decide (((((((a0.extract 0 4) ++ (⟨#[45]⟩ : ByteArray)) ++ (a0.extract 4 8)) ++ (⟨#[45]⟩ : ByteArray)) ++ (a0.extract 8 12)) ++ (⟨#[45]⟩ : ByteArray)).size + (a0.extract 12 a0.size).size ≤ 9223372036854775807) = true := decide_eq_true c22
                              try have c22b2 : (9223372036854775807 < ((((((a0.extract 0 4) ++ (⟨#[45]⟩ : ByteArray)) ++ (a0.extract 4 8)) ++ (⟨#[45]⟩ : ByteArray)) ++ (a0.extract 8 12)) ++ (⟨#[45]⟩ : ByteArray)).size + (a0.extract 12 a0.size).size) = False := eq_false (Nat.not_lt.2 c22)
                              simp only [Option.some.injEq, Prod.mk.injEq] at H
                              obtain ⟨rfl, rfl⟩ := H
                              go_enter Try.func13, Try.ntmps13
                              go_wp2_with (first | (go_at_call 26; (with_reducible refine (impl_idKind.calls k a0 t159 _ A2.out).mono ?_); rintro e w' ⟨rfl, ⟨nd, rfl⟩⟩; (try first | exact ⟨rfl, _, World.drewN_drewN _ _ _⟩ | exact ⟨rfl, _, Eq.trans (World.drewN_drewN _ _ _) (congrArg (World.drewN _) (Nat.add_assoc _ _ _))⟩)))
                              repeat (go_quiet (first | (go_at_call 26; (with_reducible refine (impl_idKind.calls k a0 t159 _ A2.out).mono ?_); rintro e w' ⟨rfl, ⟨nd, rfl⟩⟩; (try first | exact ⟨rfl, _, World.drewN_drewN _ _ _⟩ | exact ⟨rfl, _, Eq.trans (World.drewN_drewN _ _ _) (congrArg (World.drewN _) (Nat.add_assoc _ _ _))⟩))); try go_wp2_with (first | (go_at_call 26; (with_reducible refine (impl_idKind.calls k a0 t159 _ A2.out).mono ?_); rintro e w' ⟨rfl, ⟨nd, rfl⟩⟩; (try first | exact ⟨rfl, _, World.drewN_drewN _ _ _⟩ | exact ⟨rfl, _, Eq.trans (World.drewN_drewN _ _ _) (congrArg (World.drewN _) (Nat.add_assoc _ _ _))⟩))))
                              go_ret2
                              exact ⟨by first | rfl | (simp; done) | (simp [my_isEmpty]; done) | (simp [*]; done), by repeat (first | exact Drawn0.refl _ | apply Drawn0.step)⟩
                            · rw [if_neg c22] at H
                              exact absurd H (by simp)
                          · rw [if_neg c20] at H
                            exact absurd H (by simp)
                        · rw [if_neg c19] at H
                          exact absurd H (by simp)
                      · rw [if_neg c18] at H
                        exact absurd H (by simp)
                    · rw [if_neg c17] at H
                      exact absurd H (by simp)
                  · rw [if_neg c16] at H
                    exact absurd H (by simp)
                · rw [if_neg c15] at H
                  exact absurd H (by simp)
              · rw [if_neg c14] at H
                exact absurd H (by simp)
            · rw [if_neg c13] at H
              exact absurd H (by simp)
          · rw [if_neg c12] at H
            exact absurd H (by simp)
        · rw [if_neg c11] at H
          exact absurd H (by simp)
      · rw [if_neg c10] at H
        exact absurd H (by simp)
    · rw [if_neg c9] at H
      have c9b0 : (t159 == 4) = false := beq_eq_false_iff_ne.mpr c9
      have c9b1 : (t159 != 4) = true := bne_iff_ne.mpr c9
      by_cases c23 : t159 = 0
      · rw [if_pos c23] at H
        have c23b0 : (t159 == 0) = true := beq_iff_eq.mpr c23
        have c23b1 : (t159 != 0) = false := bne_eq_false_iff_eq.mpr c23
        clear c23
        simp only [Option.some.injEq, Prod.mk.injEq] at H
        obtain ⟨rfl, rfl⟩ := H
        go_enter Try.func13, Try.ntmps13
        go_wp2_with (first | (go_at_call 26; (with_reducible refine (impl_idKind.calls k a0 t159 _ A2.out).mono ?_); rintro e w' ⟨rfl, ⟨nd, rfl⟩⟩; (try first | exact ⟨rfl, _, World.drewN_drewN _ _ _⟩ | exact ⟨rfl, _, Eq.trans (World.drewN_drewN _ _ _) (congrArg (World.drewN _) (Nat.add_assoc _ _ _))⟩)))
        repeat (go_quiet (first | (go_at_call 26; (with_reducible refine (impl_idKind.calls k a0 t159 _ A2.out).mono ?_); rintro e w' ⟨rfl, ⟨nd, rfl⟩⟩; (try first | exact ⟨rfl, _, World.drewN_drewN _ _ _⟩ | exact ⟨rfl, _, Eq.trans (World.drewN_drewN _ _ _) (congrArg (World.drewN _) (Nat.add_assoc _ _ _))⟩))); try go_wp2_with (first | (go_at_call 26; (with_reducible refine (impl_idKind.calls k a0 t159 _ A2.out).mono ?_); rintro e w' ⟨rfl, ⟨nd, rfl⟩⟩; (try first | exact ⟨rfl, _, World.drewN_drewN _ _ _⟩ | exact ⟨rfl, _, Eq.trans (World.drewN_drewN _ _ _) (congrArg (World.drewN _) (Nat.add_assoc _ _ _))⟩))))
        go_ret2
        exact ⟨by first | rfl | (simp; done) | (simp [my_isEmpty]; done) | (simp [*]; done), by repeat (first | exact Drawn0.refl _ | apply Drawn0.step)⟩
      · rw [if_neg c23] at H
        have c23b0 : (t159 == 0) = false := beq_eq_false_iff_ne.mpr c23
        have c23b1 : (t159 != 0) = true := bne_iff_ne.mpr c23
        simp only [Option.some.injEq, Prod.mk.injEq] at H
        obtain ⟨rfl, rfl⟩ := H
        go_enter Try.func13, Try.ntmps13
        go_wp2_with (first | (go_at_call 26; (with_reducible refine (impl_idKind.calls k a0 t159 _ A2.out).mono ?_); rintro e w' ⟨rfl, ⟨nd, rfl⟩⟩; (try first | exact ⟨rfl, _, World.drewN_drewN _ _ _⟩ | exact ⟨rfl, _, Eq.trans (World.drewN_drewN _ _ _) (congrArg (World.drewN _) (Nat.add_assoc _ _ _))⟩)))
        repeat (go_quiet (first | (go_at_call 26; (with_reducible refine (impl_idKind.calls k a0 t159 _ A2.out).mono ?_); rintro e w' ⟨rfl, ⟨nd, rfl⟩⟩; (try first | exact ⟨rfl, _, World.drewN_drewN _ _ _⟩ | exact ⟨rfl, _, Eq.trans (World.drewN_drewN _ _ _) (congrArg (World.drewN _) (Nat.add_assoc _ _ _))⟩))); try go_wp2_with (first | (go_at_call 26; (with_reducible refine (impl_idKind.calls k a0 t159 _ A2.out).mono ?_); rintro e w' ⟨rfl, ⟨nd, rfl⟩⟩; (try first | exact ⟨rfl, _, World.drewN_drewN _ _ _⟩ | exact ⟨rfl, _, Eq.trans (World.drewN_drewN _ _ _) (congrArg (World.drewN _) (Nat.add_assoc _ _ _))⟩))))
        go_ret2
        exact ⟨by first | rfl | (simp; done) | (simp [my_isEmpty]; done) | (simp [*]; done), by repeat (first | exact Drawn0.refl _ | apply Drawn0.step)⟩

/-! ### laws_FnExactWrittenForm: function 5 -/
def laws_FnExactWrittenForm.f (k : Nat) (a0 : ByteArray) : Option (Bool) := if (a0.size : Int) > 1048576 then (some true) else ((spec_WrittenForm.f k a0).bind fun bt160 => ((impl_WrittenForm.f k a0).bind fun bt162 => (if bt162.1.toList = bt160.1.toList then (if (bt162.2 != bt160.2) = true then (some false) else (some true)) else (some false))))
theorem laws_FnExactWrittenForm.mono : ∀ a0 k, LeO (laws_FnExactWrittenForm.f k a0) (laws_FnExactWrittenForm.f (k + 1) a0) := by
  intro a0 k
  unfold laws_FnExactWrittenForm.f
  repeat' first
      | (with_reducible exact impl_WrittenForm.mono _ _)
      | (with_reducible exact spec_WrittenForm.mono _ _)
      | (with_reducible exact LeO.refl _)
      | (with_reducible exact LeO.none _)
      | (with_reducible refine LeO.ite ?_ ?_)
      | (with_reducible refine LeO.bind ?_ (fun _ => ?_))
      | exact impl_WrittenForm.mono _ _
      | exact spec_WrittenForm.mono _ _
      | exact LeO.none _
      | refine LeO.ite ?_ ?_
      | refine LeO.bind ?_ (fun _ => ?_)
set_option maxHeartbeats 8000000 in
set_option maxRecDepth 100000 in
theorem laws_FnExactWrittenForm.calls (k : Nat) (a0 : ByteArray) (r : Bool) (w : World) (h : laws_FnExactWrittenForm.f k a0 = some r) :
    Calls Try.prog 5 #[.string a0] w fun e w' => e = .returned (.bool r) ∧ Drawn0 w w' := by
  have H : (if (a0.size : Int) > 1048576 then (some true) else ((spec_WrittenForm.f k a0).bind fun bt160 => ((impl_WrittenForm.f k a0).bind fun bt162 => (if bt162.1.toList = bt160.1.toList then (if (bt162.2 != bt160.2) = true then (some false) else (some true)) else (some false))))) = some r := h
  clear h
  by_cases c2 : (a0.size : Int) > 1048576
  · rw [if_pos c2] at H
    have c2b0 : decide (1048576 < (a0.size : Int)) = true := decide_eq_true c2
    have c2b1 : decide (1048576 < a0.size) = true := decide_eq_true (by omega)
    clear c2
    obtain rfl := Option.some.inj H
    go_enter Try.func5, Try.ntmps5
    go_wp2
    go_ret
    exact ⟨by first | rfl | (simp; done) | (simp [my_isEmpty]; done) | (simp [*]; done), by repeat (first | exact Drawn0.refl _ | apply Drawn0.step)⟩
  · rw [if_neg c2] at H
    have c2b0 : decide (1048576 < (a0.size : Int)) = false := decide_eq_false c2
    have c2b1 : decide (1048576 < a0.size) = false := decide_eq_false (by omega)
    clear c2
    replace H := Option.bind_eq_some_iff.mp H
    obtain ⟨⟨t160, t161⟩, A30, H⟩ := H
    replace H : ((impl_WrittenForm.f k a0).bind fun bt162 => (if bt162.1.toList = t160.toList then (if (bt162.2 != t161) = true then (some false) else (some true)) else (some false))) = some r := H
    have A3 := Aside0.mk A30
    clear A30
    replace H := Option.bind_eq_some_iff.mp H
    obtain ⟨⟨t162, t163⟩, A40, H⟩ := H
    replace H : (if t162.toList = t160.toList then (if (t163 != t161) = true then (some false) else (some true)) else (some false)) = some r := H
    have A4 := Aside0.mk A40
    clear A40
    by_cases c5 : t162.toList = t160.toList
    · rw [if_pos c5] at H
      have c5b0 : (t162.toList == t160.toList) = true := beq_iff_eq.mpr c5
      have c5b1 : (t162.toList != t160.toList) = false := bne_eq_false_iff_eq.mpr c5
      clear c5
      by_cases c6 : (t163 != t161) = true
      · rw [if_pos c6] at H
        have c6b0 : (t163 != t161) = true := c6
        (try (have c6b1 : decide (t163 = t161) = false := by simpa using c6))
        (try (have c6b2 : (t163 == t161) = false := by simpa using c6))
        (try (have c6b3 : ¬ (t163 = t161) := by simpa using c6))
        clear c6
        obtain rfl := Option.some.inj H
        go_enter Try.func5, Try.ntmps5
        go_wp2_with (first | ((with_reducible refine gate_callee (f := 12) rfl ?_); refine goesL_ (some 12) rfl rfl Try.func12 (by kernel_rfl) rfl #[.string a0] rfl (by (try simp only [List.map_toArray, List.map_cons, List.map_nil]); first | done | rfl | (simp only [List.length_drop, List.length_take]; rfl)) ?_; (with_reducible refine (spec_WrittenForm.calls k a0 t160 t161 _ A3.out).mono ?_); rintro e w' ⟨rfl, ⟨nd, rfl⟩⟩; refine ⟨_, rfl, ?_⟩) | ((with_reducible refine gate_callee (f := 13) rfl ?_); refine goesL_ (some 17) rfl rfl Try.func13 (by kernel_rfl) rfl #[.string a0] rfl (by (try simp only [List.map_toArray, List.map_cons, List.map_nil]); first | done | rfl | (simp only [List.length_drop, List.length_take]; rfl)) ?_; (with_reducible refine (impl_WrittenForm.calls k a0 t162 t163 _ A4.out).mono ?_); rintro e w' ⟨rfl, ⟨nd, rfl⟩⟩; refine ⟨_, rfl, ?_⟩))
        go_ret
        exact ⟨by first | rfl | (simp; done) | (simp [my_isEmpty]; done) | (simp [*]; done), by repeat (first | exact Drawn0.refl _ | apply Drawn0.step)⟩
      · rw [if_neg c6] at H
        have c6b0 : (t163 != t161) = false := by simpa using c6
        (try (have c6b1 : decide (t163 = t161) = true := by simpa using c6))
        (try (have c6b2 : (t163 == t161) = true := by simpa using c6))
        clear c6
        obtain rfl := Option.some.inj H
        go_enter Try.func5, Try.ntmps5
        go_wp2_with (first | ((with_reducible refine gate_callee (f := 12) rfl ?_); refine goesL_ (some 12) rfl rfl Try.func12 (by kernel_rfl) rfl #[.string a0] rfl (by (try simp only [List.map_toArray, List.map_cons, List.map_nil]); first | done | rfl | (simp only [List.length_drop, List.length_take]; rfl)) ?_; (with_reducible refine (spec_WrittenForm.calls k a0 t160 t161 _ A3.out).mono ?_); rintro e w' ⟨rfl, ⟨nd, rfl⟩⟩; refine ⟨_, rfl, ?_⟩) | ((with_reducible refine gate_callee (f := 13) rfl ?_); refine goesL_ (some 17) rfl rfl Try.func13 (by kernel_rfl) rfl #[.string a0] rfl (by (try simp only [List.map_toArray, List.map_cons, List.map_nil]); first | done | rfl | (simp only [List.length_drop, List.length_take]; rfl)) ?_; (with_reducible refine (impl_WrittenForm.calls k a0 t162 t163 _ A4.out).mono ?_); rintro e w' ⟨rfl, ⟨nd, rfl⟩⟩; refine ⟨_, rfl, ?_⟩))
        go_ret
        exact ⟨by first | rfl | (simp; done) | (simp [my_isEmpty]; done) | (simp [*]; done), by repeat (first | exact Drawn0.refl _ | apply Drawn0.step)⟩
    · rw [if_neg c5] at H
      have c5b0 : (t162.toList == t160.toList) = false := beq_eq_false_iff_ne.mpr c5
      have c5b1 : (t162.toList != t160.toList) = true := bne_iff_ne.mpr c5
      obtain rfl := Option.some.inj H
      go_enter Try.func5, Try.ntmps5
      go_wp2_with (first | ((with_reducible refine gate_callee (f := 12) rfl ?_); refine goesL_ (some 12) rfl rfl Try.func12 (by kernel_rfl) rfl #[.string a0] rfl (by (try simp only [List.map_toArray, List.map_cons, List.map_nil]); first | done | rfl | (simp only [List.length_drop, List.length_take]; rfl)) ?_; (with_reducible refine (spec_WrittenForm.calls k a0 t160 t161 _ A3.out).mono ?_); rintro e w' ⟨rfl, ⟨nd, rfl⟩⟩; refine ⟨_, rfl, ?_⟩) | ((with_reducible refine gate_callee (f := 13) rfl ?_); refine goesL_ (some 17) rfl rfl Try.func13 (by kernel_rfl) rfl #[.string a0] rfl (by (try simp only [List.map_toArray, List.map_cons, List.map_nil]); first | done | rfl | (simp only [List.length_drop, List.length_take]; rfl)) ?_; (with_reducible refine (impl_WrittenForm.calls k a0 t162 t163 _ A4.out).mono ?_); rintro e w' ⟨rfl, ⟨nd, rfl⟩⟩; refine ⟨_, rfl, ?_⟩))
      go_ret
      exact ⟨by first | rfl | (simp; done) | (simp [my_isEmpty]; done) | (simp [*]; done), by repeat (first | exact Drawn0.refl _ | apply Drawn0.step)⟩

/-- THE ONE PURE STATEMENT of laws_FnExactWrittenForm: yours. -/
def laws_FnExactWrittenForm.Pure : Prop := ∀ (a0 : ByteArray), a0.size ≤ 140737488351232 → ∃ k, laws_FnExactWrittenForm.f k a0 = some true
theorem laws_FnExactWrittenForm.walk (P : laws_FnExactWrittenForm.Pure) (a0 : ByteArray) (w : World) (w0 : a0.size ≤ 140737488351232) :
    Calls Try.prog 5 #[.string a0] w fun e w' => e = .returned (.bool true) ∧ Below w.heap.size w w' := by
  obtain ⟨k, h⟩ := P a0 w0
  refine (laws_FnExactWrittenForm.calls k a0 true w h).mono ?_
  rintro e w' ⟨rfl, hd⟩
  exact ⟨rfl, hd.below⟩

/-! ### spec_RepairDigit: function 14 -/
mutual
def spec_RepairDigit.j0 : Nat → Int → ByteArray → Int → Bool → Option (ByteArray × Bool)
  | 0, _, _, _, _ => none
  | k + 1, x0, x1, x2, x23 => if x23 = true then (some ((⟨#[]⟩ : ByteArray), false)) else (spec_RepairDigit.l0 k x0 x1 x2 (⟨#[]⟩ : ByteArray) 0)
def spec_RepairDigit.l0 : Nat → Int → ByteArray → Int → ByteArray → Int → Option (ByteArray × Bool)
  | 0, _, _, _, _, _ => none
  | k + 1, x0, x1, x2, x8, x10 => if x10 < 11 then (if 0 ≤ x2 then (if x2 ≤ (x1.size : Int) then (if 0 ≤ x10 then (if x10 ≤ (wrap64 (x10 + 1)) then (if (wrap64 (x10 + 1)) ≤ 11 then (if (x1.extract 0 (x2 : Int).toNat).size + ((⟨#[48, 49, 50, 51, 52, 53, 54, 55, 56, 57, 88]⟩ : ByteArray).extract (x10 : Int).toNat ((wrap64 (x10 + 1)) : Int).toNat).size ≤ 9223372036854775807 then (if 0 ≤ (wrap64 (x2 + 1)) then (if (wrap64 (x2 + 1)) ≤ (x1.size : Int) then (if ((x1.extract 0 (x2 : Int).toNat) ++ ((⟨#[48, 49, 50, 51, 52, 53, 54, 55, 56, 57, 88]⟩ : ByteArray).extract (x10 : Int).toNat ((wrap64 (x10 + 1)) : Int).toNat)).size + (x1.extract ((wrap64 (x2 + 1)) : Int).toNat x1.size).size ≤ 9223372036854775807 then ((spec_l24Is.f k x0 (((x1.extract 0 (x2 : Int).toNat) ++ ((⟨#[48, 49, 50, 51, 52, 53, 54, 55, 56, 57, 88]⟩ : ByteArray).extract (x10 : Int).toNat ((wrap64 (x10 + 1)) : Int).toNat)) ++ (x1.extract ((wrap64 (x2 + 1)) : Int).toNat x1.size))).bind fun t166 => (if t166 = true then (if x8.toList = ([] : List UInt8) then (spec_RepairDigit.l0 k x0 x1 x2 (((x1.extract 0 (x2 : Int).toNat) ++ ((⟨#[48, 49, 50, 51, 52, 53, 54, 55, 56, 57, 88]⟩ : ByteArray).extract (x10 : Int).toNat ((wrap64 (x10 + 1)) : Int).toNat)) ++ (x1.extract ((wrap64 (x2 + 1)) : Int).toNat x1.size)) (wrap64 (x10 + 1))) else (some ((⟨#[]⟩ : ByteArray), false))) else (spec_RepairDigit.l0 k x0 x1 x2 x8 (wrap64 (x10 + 1))))) else (none)) else (none)) else (none)) else (none)) else (none)) else (none)) else (none)) else (none)) else (none)) else (some (x8, (x8.toList != ([] : List UInt8))))
end
def spec_RepairDigit.f (k : Nat) (a0 : Int) (a1 : ByteArray) (a2 : Int) : Option (ByteArray × Bool) := (spec_l24Form.f k a0 a1).bind fun t164 => (if t164 = true then ((spec_l1In.f a2 0 (wrap64 ((a1.size : Int) - 1))).bind fun t165 => (spec_RepairDigit.j0 k a0 a1 a2 (!t165))) else (spec_RepairDigit.j0 k a0 a1 a2 true))
theorem spec_RepairDigit.mono_l : ∀ k, (∀ y0 y1 y2 y3, LeO (spec_RepairDigit.j0 k y0 y1 y2 y3) (spec_RepairDigit.j0 (k + 1) y0 y1 y2 y3)) ∧ (∀ y0 y1 y2 y3 y4, LeO (spec_RepairDigit.l0 k y0 y1 y2 y3 y4) (spec_RepairDigit.l0 (k + 1) y0 y1 y2 y3 y4))
  | 0 => ⟨fun _ _ _ _ r h => by simp [spec_RepairDigit.j0] at h, fun _ _ _ _ _ r h => by simp [spec_RepairDigit.l0] at h⟩
  | k + 1 => by
    obtain ⟨ih0, ih1⟩ := spec_RepairDigit.mono_l k
    refine ⟨?_, ?_⟩
    · intro y0 y1 y2 y3
      unfold spec_RepairDigit.j0
      repeat' first
      | (with_reducible exact ih0 _ _ _ _)
      | (with_reducible exact ih1 _ _ _ _ _)
      | (with_reducible exact spec_l24Form.mono _ _ _)
      | (with_reducible exact spec_l24Is.mono _ _ _)
      | (with_reducible exact LeO.refl _)
      | (with_reducible exact LeO.none _)
      | (with_reducible refine LeO.ite ?_ ?_)
      | (with_reducible refine LeO.bind ?_ (fun _ => ?_))
      | exact ih0 _ _ _ _
      | exact ih1 _ _ _ _ _
      | exact spec_l24Form.mono _ _ _
      | exact spec_l24Is.mono _ _ _
      | exact LeO.none _
      | refine LeO.ite ?_ ?_
      | refine LeO.bind ?_ (fun _ => ?_)
    · intro y0 y1 y2 y3 y4
      unfold spec_RepairDigit.l0
      repeat' first
      | (with_reducible exact ih0 _ _ _ _)
      | (with_reducible exact ih1 _ _ _ _ _)
      | (with_reducible exact spec_l24Form.mono _ _ _)
      | (with_reducible exact spec_l24Is.mono _ _ _)
      | (with_reducible exact LeO.refl _)
      | (with_reducible exact LeO.none _)
      | (with_reducible refine LeO.ite ?_ ?_)
      | (with_reducible refine LeO.bind ?_ (fun _ => ?_))
      | exact ih0 _ _ _ _
      | exact ih1 _ _ _ _ _
      | exact spec_l24Form.mono _ _ _
      | exact spec_l24Is.mono _ _ _
      | exact LeO.none _
      | refine LeO.ite ?_ ?_
      | refine LeO.bind ?_ (fun _ => ?_)
theorem spec_RepairDigit.mono : ∀ a0 a1 a2 k, LeO (spec_RepairDigit.f k a0 a1 a2) (spec_RepairDigit.f (k + 1) a0 a1 a2) := by
  intro a0 a1 a2 k
  obtain ⟨ih0, ih1⟩ := spec_RepairDigit.mono_l k
  unfold spec_RepairDigit.f
  repeat' first
      | (with_reducible exact ih0 _ _ _ _)
      | (with_reducible exact ih1 _ _ _ _ _)
      | (with_reducible exact spec_l24Form.mono _ _ _)
      | (with_reducible exact spec_l24Is.mono _ _ _)
      | (with_reducible exact LeO.refl _)
      | (with_reducible exact LeO.none _)
      | (with_reducible refine LeO.ite ?_ ?_)
      | (with_reducible refine LeO.bind ?_ (fun _ => ?_))
      | exact ih0 _ _ _ _
      | exact ih1 _ _ _ _ _
      | exact spec_l24Form.mono _ _ _
      | exact spec_l24Is.mono _ _ _
      | exact LeO.none _
      | refine LeO.ite ?_ ?_
      | refine LeO.bind ?_ (fun _ => ?_)
set_option maxHeartbeats 8000000 in
set_option maxRecDepth 100000 in
theorem spec_RepairDigit.calls (k : Nat) (a0 : Int) (a1 : ByteArray) (a2 : Int) (r1 : ByteArray) (r2 : Bool) (w : World) (h : spec_RepairDigit.f k a0 a1 a2 = some (r1, r2)) :
    Calls Try.prog 14 #[.int .i64 a0, .string a1, .int .i64 a2] w fun e w' => e = .returned (.tuple #[.string r1, .bool r2]) ∧ Drawn0 w w' := by
  have H : ((spec_l24Form.f k a0 a1).bind fun t164 => (if t164 = true then ((spec_l1In.f a2 0 (wrap64 ((a1.size : Int) - 1))).bind fun t165 => (spec_RepairDigit.j0 k a0 a1 a2 (!t165))) else (spec_RepairDigit.j0 k a0 a1 a2 true))) = some (r1, r2) := h
  clear h
  have HC4 := Aside0.mk H
  clear H
  go_enter Try.func14, Try.ntmps14
  go_upto_region 1 with (fail)
  repeat (go_quiet (fail); go_upto_region 1 with (fail))
  go_cut [23] (fun v23 wc => ∃ (kq : Nat) (x23_3 : Bool), v23 = .bool x23_3 ∧ Aside0 (spec_RepairDigit.j0 kq a0 a1 a2 x23_3 = some (r1, r2)) ∧ Aside0 (kq ≤ k) ∧ Drawn0 w wc)
  case first =>
    have H := HC4.out
    clear HC4
    replace H := Option.bind_eq_some_iff.mp H
    obtain ⟨t164, A50, H⟩ := H
    replace H : (if t164 = true then ((spec_l1In.f a2 0 (wrap64 ((a1.size : Int) - 1))).bind fun t165 => (spec_RepairDigit.j0 k a0 a1 a2 (!t165))) else (spec_RepairDigit.j0 k a0 a1 a2 true)) = some (r1, r2) := H
    have A5 := Aside0.mk A50
    clear A50
    by_cases c6 : t164 = true
    · subst c6
      have H1 : ((spec_l1In.f a2 0 (wrap64 ((a1.size : Int) - 1))).bind fun t165 => (spec_RepairDigit.j0 k a0 a1 a2 (!t165))) = some (r1, r2) := by rw [if_pos rfl] at H; exact H
      clear H
      have H := H1
      clear H1
      replace H := Option.bind_eq_some_iff.mp H
      obtain ⟨t165, A70, H⟩ := H
      replace H : (spec_RepairDigit.j0 k a0 a1 a2 (!t165)) = some (r1, r2) := H
      have A7 := Aside0.mk A70
      clear A70
      have H' := Aside0.mk H
      clear H
      go_wp2_with (first | (go_at_call 27; (with_reducible refine (spec_l24Form.calls k a0 a1 true _ A5.out).mono ?_); rintro e w' ⟨rfl, ⟨nd, rfl⟩⟩; (try first | exact ⟨rfl, _, World.drewN_drewN _ _ _⟩ | exact ⟨rfl, _, Eq.trans (World.drewN_drewN _ _ _) (congrArg (World.drewN _) (Nat.add_assoc _ _ _))⟩)) | (go_at_call 21; (with_reducible refine (spec_l1In.calls a2 0 (wrap64 ((a1.size : Int) - 1)) t165 _ A7.out).mono ?_); rintro e w' ⟨rfl, ⟨nd, rfl⟩⟩; (try first | exact ⟨rfl, _, World.drewN_drewN _ _ _⟩ | exact ⟨rfl, _, Eq.trans (World.drewN_drewN _ _ _) (congrArg (World.drewN _) (Nat.add_assoc _ _ _))⟩)))
      repeat (go_quiet (first | (go_at_call 27; (with_reducible refine (spec_l24Form.calls k a0 a1 true _ A5.out).mono ?_); rintro e w' ⟨rfl, ⟨nd, rfl⟩⟩; (try first | exact ⟨rfl, _, World.drewN_drewN _ _ _⟩ | exact ⟨rfl, _, Eq.trans (World.drewN_drewN _ _ _) (congrArg (World.drewN _) (Nat.add_assoc _ _ _))⟩)) | (go_at_call 21; (with_reducible refine (spec_l1In.calls a2 0 (wrap64 ((a1.size : Int) - 1)) t165 _ A7.out).mono ?_); rintro e w' ⟨rfl, ⟨nd, rfl⟩⟩; (try first | exact ⟨rfl, _, World.drewN_drewN _ _ _⟩ | exact ⟨rfl, _, Eq.trans (World.drewN_drewN _ _ _) (congrArg (World.drewN _) (Nat.add_assoc _ _ _))⟩))); try go_wp2_with (first | (go_at_call 27; (with_reducible refine (spec_l24Form.calls k a0 a1 true _ A5.out).mono ?_); rintro e w' ⟨rfl, ⟨nd, rfl⟩⟩; (try first | exact ⟨rfl, _, World.drewN_drewN _ _ _⟩ | exact ⟨rfl, _, Eq.trans (World.drewN_drewN _ _ _) (congrArg (World.drewN _) (Nat.add_assoc _ _ _))⟩)) | (go_at_call 21; (with_reducible refine (spec_l1In.calls a2 0 (wrap64 ((a1.size : Int) - 1)) t165 _ A7.out).mono ?_); rintro e w' ⟨rfl, ⟨nd, rfl⟩⟩; (try first | exact ⟨rfl, _, World.drewN_drewN _ _ _⟩ | exact ⟨rfl, _, Eq.trans (World.drewN_drewN _ _ _) (congrArg (World.drewN _) (Nat.add_assoc _ _ _))⟩))))
      go_meet
      case rel => exact ⟨_, (!t165), (by first | rfl | (simp; done) | (simp [my_isEmpty]; done) | (simp [*]; done)), H', ⟨by first | omega | exact Nat.le_refl _⟩, by repeat (first | exact Drawn0.refl _ | apply Drawn0.step)⟩
    · replace c6 := Bool.eq_false_iff.mpr c6
      subst c6
      have H1 : (spec_RepairDigit.j0 k a0 a1 a2 true) = some (r1, r2) := by rw [if_neg (show ¬ (false = true) by decide)] at H; exact H
      clear H
      have H := H1
      clear H1
      have H' := Aside0.mk H
      clear H
      go_wp2_with (first | (go_at_call 27; (with_reducible refine (spec_l24Form.calls k a0 a1 false _ A5.out).mono ?_); rintro e w' ⟨rfl, ⟨nd, rfl⟩⟩; (try first | exact ⟨rfl, _, World.drewN_drewN _ _ _⟩ | exact ⟨rfl, _, Eq.trans (World.drewN_drewN _ _ _) (congrArg (World.drewN _) (Nat.add_assoc _ _ _))⟩)))
      repeat (go_quiet (first | (go_at_call 27; (with_reducible refine (spec_l24Form.calls k a0 a1 false _ A5.out).mono ?_); rintro e w' ⟨rfl, ⟨nd, rfl⟩⟩; (try first | exact ⟨rfl, _, World.drewN_drewN _ _ _⟩ | exact ⟨rfl, _, Eq.trans (World.drewN_drewN _ _ _) (congrArg (World.drewN _) (Nat.add_assoc _ _ _))⟩))); try go_wp2_with (first | (go_at_call 27; (with_reducible refine (spec_l24Form.calls k a0 a1 false _ A5.out).mono ?_); rintro e w' ⟨rfl, ⟨nd, rfl⟩⟩; (try first | exact ⟨rfl, _, World.drewN_drewN _ _ _⟩ | exact ⟨rfl, _, Eq.trans (World.drewN_drewN _ _ _) (congrArg (World.drewN _) (Nat.add_assoc _ _ _))⟩))))
      go_meet
      case rel => exact ⟨_, (true), (by first | rfl | (simp; done) | (simp [my_isEmpty]; done) | (simp [*]; done)), H', ⟨by first | omega | exact Nat.le_refl _⟩, by repeat (first | exact Drawn0.refl _ | apply Drawn0.step)⟩
  case rest =>
    clear HC4
    try clear c1
    try clear p2
    try clear c6
    try clear p6
    obtain ⟨kq, x23_3, rfl, HA, HJ3, ⟨mc3, rfl⟩⟩ := hcut
    cases kq with
    | zero => exact absurd HA.out (by simp [spec_RepairDigit.j0])
    | succ kj3 =>
      have H := HA.out
      clear HA
      simp only [spec_RepairDigit.j0] at H
      by_cases c8 : x23_3 = true
      · subst c8
        have H1 : (some ((⟨#[]⟩ : ByteArray), false)) = some (r1, r2) := by rw [if_pos rfl] at H; exact H
        clear H
        have H := H1
        clear H1
        simp only [Option.some.injEq, Prod.mk.injEq] at H
        obtain ⟨rfl, rfl⟩ := H
        go_wp2
        repeat (go_quiet (fail); try go_wp2)
        go_ret2
        exact ⟨by first | rfl | (simp; done) | (simp [my_isEmpty]; done) | (simp [*]; done), by repeat (first | exact Drawn0.refl _ | apply Drawn0.step)⟩
      · replace c8 := Bool.eq_false_iff.mpr c8
        subst c8
        have H1 : (spec_RepairDigit.l0 kj3 a0 a1 a2 (⟨#[]⟩ : ByteArray) 0) = some (r1, r2) := by rw [if_neg (show ¬ (false = true) by decide)] at H; exact H
        clear H
        have H := H1
        clear H1
        have H' := Aside0.mk H
        clear H
        go_wp2
        repeat (go_quiet (fail); try go_wp2)
        go_loopg [8, 10] kj3 (fun kq v8 v10 w' => ∃ (x8_2 : ByteArray) (x10_2 : Int), v8 = .string x8_2 ∧ v10 = .int .i64 x10_2 ∧ Aside0 (spec_RepairDigit.l0 kq a0 a1 a2 x8_2 x10_2 = some (r1, r2)) ∧ Aside0 (kq ≤ kj3) ∧ Drawn0 w w')
        case atStart => exact ⟨((⟨#[]⟩ : ByteArray)), (0), (by first | rfl | (simp; done) | (simp [my_isEmpty]; done) | (simp [*]; done)), (by first | rfl | (simp; done) | (simp [my_isEmpty]; done) | (simp [*]; done)), H', ⟨Nat.le_refl _⟩, by repeat (first | exact Drawn0.refl _ | apply Drawn0.step)⟩
        case round =>
          clear H'
          try clear c1
          try clear p2
          try clear c3
          try clear c6
          try clear p6
          try clear c8
          try clear p2
          try clear p6
          obtain ⟨x8_2, x10_2, rfl, rfl, HA, HK2, ⟨m2, rfl⟩⟩ := hrel
          cases gk with
          | zero => exact absurd HA.out (by simp [spec_RepairDigit.l0])
          | succ k2 =>
            have H := HA.out
            clear HA
            simp only [spec_RepairDigit.l0] at H
            by_cases c9 : x10_2 < 11
            · rw [if_pos c9] at H
              have c9b0 : decide (x10_2 < 11) = true := decide_eq_true c9
              clear c9
              by_cases c10 : 0 ≤ a2
              · rw [if_pos c10] at H
                have c10b0 := eq_true c10
                have c10b1 : decide (0 ≤ a2) = true := decide_eq_true c10
                clear c10
                by_cases c11 : a2 ≤ (a1.size : Int)
                · rw [if_pos c11] at H
                  have c11b0 := eq_true c11
                  have c11b1 : decide (a2 ≤ (a1.size : Int)) = true := decide_eq_true c11
                  clear c11
                  by_cases c12 : 0 ≤ x10_2
                  · rw [if_pos c12] at H
                    have c12b0 := eq_true c12
                    have c12b1 : decide (0 ≤ x10_2) = true := decide_eq_true c12
                    clear c12
                    by_cases c13 : x10_2 ≤ (wrap64 (x10_2 + 1))
                    · rw [if_pos c13] at H
                      have c13b0 := eq_true c13
                      have c13b1 : decide (x10_2 ≤ (wrap64 (x10_2 + 1))) = true := decide_eq_true c13
                      by_cases c14 : (wrap64 (x10_2 + 1)) ≤ 11
                      · rw [if_pos c14] at H
                        have c14b0 := eq_true c14
                        have c14b1 : decide ((wrap64 (x10_2 + 1)) ≤ 11) = true := decide_eq_true c14
                        by_cases c15 : (a1.extract 0 (a2 : Int).toNat).size + ((⟨#[48, 49, 50, 51, 52, 53, 54, 55, 56, 57, 88]⟩ : ByteArray).extract (x10_2 : Int).toNat ((wrap64 (x10_2 + 1)) : Int).toNat).size ≤ 9223372036854775807
                        · rw [if_pos c15] at H
                          have c15b0 := eq_true c15
                          have c15b1 : decide ((a1.extract 0 (a2 : Int).toNat).size + ((⟨#[48, 49, 50, 51, 52, 53, 54, 55, 56, 57, 88]⟩ : ByteArray).extract (x10_2 : Int).toNat ((wrap64 (x10_2 + 1)) : Int).toNat).size ≤ 9223372036854775807) = true := decide_eq_true c15
                          try have c15b2 : (9223372036854775807 < (a1.extract 0 (a2 : Int).toNat).size + ((⟨#[48, 49, 50, 51, 52, 53, 54, 55, 56, 57, 88]⟩ : ByteArray).extract (x10_2 : Int).toNat ((wrap64 (x10_2 + 1)) : Int).toNat).size) = False := eq_false (Nat.not_lt.2 c15)
                          obtain ⟨ji16, hji16⟩ : ∃ j_ : Int, (wrap64 (a2 + 1)) = j_ := ⟨_, rfl⟩
                          replace H : (if 0 ≤ (ji16) then (if (ji16) ≤ (a1.size : Int) then (if ((a1.extract 0 (a2 : Int).toNat) ++ ((⟨#[48, 49, 50, 51, 52, 53, 54, 55, 56, 57, 88]⟩ : ByteArray).extract (x10_2 : Int).toNat ((wrap64 (x10_2 + 1)) : Int).toNat)).size + (a1.extract ((ji16) : Int).toNat a1.size).size ≤ 9223372036854775807 then ((spec_l24Is.f k2 a0 (((a1.extract 0 (a2 : Int).toNat) ++ ((⟨#[48, 49, 50, 51, 52, 53, 54, 55, 56, 57, 88]⟩ : ByteArray).extract (x10_2 : Int).toNat ((wrap64 (x10_2 + 1)) : Int).toNat)) ++ (a1.extract ((ji16) : Int).toNat a1.size))).bind fun t166 => (if t166 = true then (if x8_2.toList = ([] : List UInt8) then (spec_RepairDigit.l0 k2 a0 a1 a2 (((a1.extract 0 (a2 : Int).toNat) ++ ((⟨#[48, 49, 50, 51, 52, 53, 54, 55, 56, 57, 88]⟩ : ByteArray).extract (x10_2 : Int).toNat ((wrap64 (x10_2 + 1)) : Int).toNat)) ++ (a1.extract ((ji16) : Int).toNat a1.size)) (wrap64 (x10_2 + 1))) else (some ((⟨#[]⟩ : ByteArray), false))) else (spec_RepairDigit.l0 k2 a0 a1 a2 x8_2 (wrap64 (x10_2 + 1))))) else (none)) else (none)) else (none)) = some (r1, r2) := by first | (rw [hji16] at H; exact H) | (simp only [hji16] at H ⊢; exact H)
                          have hji16w : (IntKind.i64.wrap (a2 + 1)) = ji16 := (i64_w _).trans hji16
                          by_cases c17 : 0 ≤ (ji16)
                          · rw [if_pos c17] at H
                            have c17b0 := eq_true c17
                            have c17b1 : decide (0 ≤ (ji16)) = true := decide_eq_true c17
                            clear c17
                            by_cases c18 : (ji16) ≤ (a1.size : Int)
                            · rw [if_pos c18] at H
                              have c18b0 := eq_true c18
                              have c18b1 : decide ((ji16) ≤ (a1.size : Int)) = true := decide_eq_true c18
                              clear c18
                              by_cases c19 : ((a1.extract 0 (a2 : Int).toNat) ++ ((⟨#[48, 49, 50, 51, 52, 53, 54, 55, 56, 57, 88]⟩ : ByteArray).extract (x10_2 : Int).toNat ((wrap64 (x10_2 + 1)) : Int).toNat)).size + (a1.extract ((ji16) : Int).toNat a1.size).size ≤ 9223372036854775807
                              · rw [if_pos c19] at H
                                have c19b0 := eq_true c19
                                have c19b1 : decide (((a1.extract 0 (a2 : Int).toNat) ++ ((⟨#[48, 49, 50, 51, 52, 53, 54, 55, 56, 57, 88]⟩ : ByteArray).extract (x10_2 : Int).toNat ((wrap64 (x10_2 + 1)) : Int).toNat)).size + (a1.extract ((ji16) : Int).toNat a1.size).size ≤ 9223372036854775807) = true := decide_eq_true c19
                                try have c19b2 : (9223372036854775807 < ((a1.extract 0 (a2 : Int).toNat) ++ ((⟨#[48, 49, 50, 51, 52, 53, 54, 55, 56, 57, 88]⟩ : ByteArray).extract (x10_2 : Int).toNat ((wrap64 (x10_2 + 1)) : Int).toNat)).size + (a1.extract ((ji16) : Int).toNat a1.size).size) = False := eq_false (Nat.not_lt.2 c19)
                                replace H := Option.bind_eq_some_iff.mp H
                                obtain ⟨t166, A200, H⟩ := H
                                replace H : (if t166 = true then (if x8_2.toList = ([] : List UInt8) then (spec_RepairDigit.l0 k2 a0 a1 a2 (((a1.extract 0 (a2 : Int).toNat) ++ ((⟨#[48, 49, 50, 51, 52, 53, 54, 55, 56, 57, 88]⟩ : ByteArray).extract (x10_2 : Int).toNat ((wrap64 (x10_2 + 1)) : Int).toNat)) ++ (a1.extract ((ji16) : Int).toNat a1.size)) (wrap64 (x10_2 + 1))) else (some ((⟨#[]⟩ : ByteArray), false))) else (spec_RepairDigit.l0 k2 a0 a1 a2 x8_2 (wrap64 (x10_2 + 1)))) = some (r1, r2) := H
                                have A20 := Aside0.mk A200
                                clear A200
                                by_cases c21 : t166 = true
                                · subst c21
                                  have H1 : (if x8_2.toList = ([] : List UInt8) then (spec_RepairDigit.l0 k2 a0 a1 a2 (((a1.extract 0 (a2 : Int).toNat) ++ ((⟨#[48, 49, 50, 51, 52, 53, 54, 55, 56, 57, 88]⟩ : ByteArray).extract (x10_2 : Int).toNat ((wrap64 (x10_2 + 1)) : Int).toNat)) ++ (a1.extract ((ji16) : Int).toNat a1.size)) (wrap64 (x10_2 + 1))) else (some ((⟨#[]⟩ : ByteArray), false))) = some (r1, r2) := by rw [if_pos rfl] at H; exact H
                                  clear H
                                  have H := H1
                                  clear H1
                                  by_cases c22 : x8_2.toList = ([] : List UInt8)
                                  · rw [if_pos c22] at H
                                    have c22b0 : (x8_2.toList == ([] : List UInt8)) = true := beq_iff_eq.mpr c22
                                    have c22b1 : (x8_2.toList != ([] : List UInt8)) = false := bne_eq_false_iff_eq.mpr c22
                                    clear c22
                                    have H' := Aside0.mk H
                                    clear H
                                    go_wp2_with (first | (go_at_call 28; (with_reducible refine (spec_l24Is.calls k2 a0 (((a1.extract 0 (a2 : Int).toNat) ++ ((⟨#[48, 49, 50, 51, 52, 53, 54, 55, 56, 57, 88]⟩ : ByteArray).extract (x10_2 : Int).toNat ((wrap64 (x10_2 + 1)) : Int).toNat)) ++ (a1.extract ((ji16) : Int).toNat a1.size)) true _ A20.out).mono ?_); rintro e w' ⟨rfl, ⟨nd, rfl⟩⟩; (try first | exact ⟨rfl, _, World.drewN_drewN _ _ _⟩ | exact ⟨rfl, _, Eq.trans (World.drewN_drewN _ _ _) (congrArg (World.drewN _) (Nat.add_assoc _ _ _))⟩)))
                                    repeat (go_quiet (first | (go_at_call 28; (with_reducible refine (spec_l24Is.calls k2 a0 (((a1.extract 0 (a2 : Int).toNat) ++ ((⟨#[48, 49, 50, 51, 52, 53, 54, 55, 56, 57, 88]⟩ : ByteArray).extract (x10_2 : Int).toNat ((wrap64 (x10_2 + 1)) : Int).toNat)) ++ (a1.extract ((ji16) : Int).toNat a1.size)) true _ A20.out).mono ?_); rintro e w' ⟨rfl, ⟨nd, rfl⟩⟩; (try first | exact ⟨rfl, _, World.drewN_drewN _ _ _⟩ | exact ⟨rfl, _, Eq.trans (World.drewN_drewN _ _ _) (congrArg (World.drewN _) (Nat.add_assoc _ _ _))⟩))); try go_wp2_with (first | (go_at_call 28; (with_reducible refine (spec_l24Is.calls k2 a0 (((a1.extract 0 (a2 : Int).toNat) ++ ((⟨#[48, 49, 50, 51, 52, 53, 54, 55, 56, 57, 88]⟩ : ByteArray).extract (x10_2 : Int).toNat ((wrap64 (x10_2 + 1)) : Int).toNat)) ++ (a1.extract ((ji16) : Int).toNat a1.size)) true _ A20.out).mono ?_); rintro e w' ⟨rfl, ⟨nd, rfl⟩⟩; (try first | exact ⟨rfl, _, World.drewN_drewN _ _ _⟩ | exact ⟨rfl, _, Eq.trans (World.drewN_drewN _ _ _) (congrArg (World.drewN _) (Nat.add_assoc _ _ _))⟩))))
                                    go_roundg k2
                                    case measure => have := HJ3.out; have := HK2.out; omega
                                    case rel => exact ⟨(((a1.extract 0 (a2 : Int).toNat) ++ ((⟨#[48, 49, 50, 51, 52, 53, 54, 55, 56, 57, 88]⟩ : ByteArray).extract (x10_2 : Int).toNat ((wrap64 (x10_2 + 1)) : Int).toNat)) ++ (a1.extract ((ji16) : Int).toNat a1.size)), (wrap64 (x10_2 + 1)), (by first | rfl | (simp; done) | (simp [my_isEmpty]; done) | (simp only [← hji16] <;> (first | rfl | simp)) | (simp [*]; done)), (by first | rfl | (simp; done) | (simp [my_isEmpty]; done) | (simp [*]; done)), H', ⟨by have := HJ3.out; have := HK2.out; omega⟩, by repeat (first | exact Drawn0.refl _ | apply Drawn0.step)⟩
                                  · rw [if_neg c22] at H
                                    have c22b0 : (x8_2.toList == ([] : List UInt8)) = false := beq_eq_false_iff_ne.mpr c22
                                    have c22b1 : (x8_2.toList != ([] : List UInt8)) = true := bne_iff_ne.mpr c22
                                    simp only [Option.some.injEq, Prod.mk.injEq] at H
                                    obtain ⟨rfl, rfl⟩ := H
                                    go_wp2_with (first | (go_at_call 28; (with_reducible refine (spec_l24Is.calls k2 a0 (((a1.extract 0 (a2 : Int).toNat) ++ ((⟨#[48, 49, 50, 51, 52, 53, 54, 55, 56, 57, 88]⟩ : ByteArray).extract (x10_2 : Int).toNat ((wrap64 (x10_2 + 1)) : Int).toNat)) ++ (a1.extract ((ji16) : Int).toNat a1.size)) true _ A20.out).mono ?_); rintro e w' ⟨rfl, ⟨nd, rfl⟩⟩; (try first | exact ⟨rfl, _, World.drewN_drewN _ _ _⟩ | exact ⟨rfl, _, Eq.trans (World.drewN_drewN _ _ _) (congrArg (World.drewN _) (Nat.add_assoc _ _ _))⟩)))
                                    repeat (go_quiet (first | (go_at_call 28; (with_reducible refine (spec_l24Is.calls k2 a0 (((a1.extract 0 (a2 : Int).toNat) ++ ((⟨#[48, 49, 50, 51, 52, 53, 54, 55, 56, 57, 88]⟩ : ByteArray).extract (x10_2 : Int).toNat ((wrap64 (x10_2 + 1)) : Int).toNat)) ++ (a1.extract ((ji16) : Int).toNat a1.size)) true _ A20.out).mono ?_); rintro e w' ⟨rfl, ⟨nd, rfl⟩⟩; (try first | exact ⟨rfl, _, World.drewN_drewN _ _ _⟩ | exact ⟨rfl, _, Eq.trans (World.drewN_drewN _ _ _) (congrArg (World.drewN _) (Nat.add_assoc _ _ _))⟩))); try go_wp2_with (first | (go_at_call 28; (with_reducible refine (spec_l24Is.calls k2 a0 (((a1.extract 0 (a2 : Int).toNat) ++ ((⟨#[48, 49, 50, 51, 52, 53, 54, 55, 56, 57, 88]⟩ : ByteArray).extract (x10_2 : Int).toNat ((wrap64 (x10_2 + 1)) : Int).toNat)) ++ (a1.extract ((ji16) : Int).toNat a1.size)) true _ A20.out).mono ?_); rintro e w' ⟨rfl, ⟨nd, rfl⟩⟩; (try first | exact ⟨rfl, _, World.drewN_drewN _ _ _⟩ | exact ⟨rfl, _, Eq.trans (World.drewN_drewN _ _ _) (congrArg (World.drewN _) (Nat.add_assoc _ _ _))⟩))))
                                    go_ret2
                                    exact ⟨by first | rfl | (simp; done) | (simp [my_isEmpty]; done) | (simp only [← hji16] <;> (first | rfl | simp)) | (simp [*]; done), by repeat (first | exact Drawn0.refl _ | apply Drawn0.step)⟩
                                · replace c21 := Bool.eq_false_iff.mpr c21
                                  subst c21
                                  have H1 : (spec_RepairDigit.l0 k2 a0 a1 a2 x8_2 (wrap64 (x10_2 + 1))) = some (r1, r2) := by rw [if_neg (show ¬ (false = true) by decide)] at H; exact H
                                  clear H
                                  have H := H1
                                  clear H1
                                  have H' := Aside0.mk H
                                  clear H
                                  go_wp2_with (first | (go_at_call 28; (with_reducible refine (spec_l24Is.calls k2 a0 (((a1.extract 0 (a2 : Int).toNat) ++ ((⟨#[48, 49, 50, 51, 52, 53, 54, 55, 56, 57, 88]⟩ : ByteArray).extract (x10_2 : Int).toNat ((wrap64 (x10_2 + 1)) : Int).toNat)) ++ (a1.extract ((ji16) : Int).toNat a1.size)) false _ A20.out).mono ?_); rintro e w' ⟨rfl, ⟨nd, rfl⟩⟩; (try first | exact ⟨rfl, _, World.drewN_drewN _ _ _⟩ | exact ⟨rfl, _, Eq.trans (World.drewN_drewN _ _ _) (congrArg (World.drewN _) (Nat.add_assoc _ _ _))⟩)))
                                  repeat (go_quiet (first | (go_at_call 28; (with_reducible refine (spec_l24Is.calls k2 a0 (((a1.extract 0 (a2 : Int).toNat) ++ ((⟨#[48, 49, 50, 51, 52, 53, 54, 55, 56, 57, 88]⟩ : ByteArray).extract (x10_2 : Int).toNat ((wrap64 (x10_2 + 1)) : Int).toNat)) ++ (a1.extract ((ji16) : Int).toNat a1.size)) false _ A20.out).mono ?_); rintro e w' ⟨rfl, ⟨nd, rfl⟩⟩; (try first | exact ⟨rfl, _, World.drewN_drewN _ _ _⟩ | exact ⟨rfl, _, Eq.trans (World.drewN_drewN _ _ _) (congrArg (World.drewN _) (Nat.add_assoc _ _ _))⟩))); try go_wp2_with (first | (go_at_call 28; (with_reducible refine (spec_l24Is.calls k2 a0 (((a1.extract 0 (a2 : Int).toNat) ++ ((⟨#[48, 49, 50, 51, 52, 53, 54, 55, 56, 57, 88]⟩ : ByteArray).extract (x10_2 : Int).toNat ((wrap64 (x10_2 + 1)) : Int).toNat)) ++ (a1.extract ((ji16) : Int).toNat a1.size)) false _ A20.out).mono ?_); rintro e w' ⟨rfl, ⟨nd, rfl⟩⟩; (try first | exact ⟨rfl, _, World.drewN_drewN _ _ _⟩ | exact ⟨rfl, _, Eq.trans (World.drewN_drewN _ _ _) (congrArg (World.drewN _) (Nat.add_assoc _ _ _))⟩))))
                                  go_roundg k2
                                  case measure => have := HJ3.out; have := HK2.out; omega
                                  case rel => exact ⟨(x8_2), (wrap64 (x10_2 + 1)), (by first | rfl | (simp; done) | (simp [my_isEmpty]; done) | (simp [*]; done)), (by first | rfl | (simp; done) | (simp [my_isEmpty]; done) | (simp [*]; done)), H', ⟨by have := HJ3.out; have := HK2.out; omega⟩, by repeat (first | exact Drawn0.refl _ | apply Drawn0.step)⟩
                              · rw [if_neg c19] at H
                                exact absurd H (by simp)
                            · rw [if_neg c18] at H
                              exact absurd H (by simp)
                          · rw [if_neg c17] at H
                            exact absurd H (by simp)
                        · rw [if_neg c15] at H
                          exact absurd H (by simp)
                      · rw [if_neg c14] at H
                        exact absurd H (by simp)
                    · rw [if_neg c13] at H
                      exact absurd H (by simp)
                  · rw [if_neg c12] at H
                    exact absurd H (by simp)
                · rw [if_neg c11] at H
                  exact absurd H (by simp)
              · rw [if_neg c10] at H
                exact absurd H (by simp)
            · rw [if_neg c9] at H
              have c9b0 : decide (x10_2 < 11) = false := decide_eq_false c9
              clear c9
              simp only [Option.some.injEq, Prod.mk.injEq] at H
              obtain ⟨rfl, rfl⟩ := H
              go_wp2
              repeat (go_quiet (fail); try go_wp2)
              go_ret2
              exact ⟨by first | rfl | (simp; done) | (simp [my_isEmpty]; done) | (simp [*]; done), by repeat (first | exact Drawn0.refl _ | apply Drawn0.step)⟩

/-! ### impl_isIdKind: function 29 -/
def impl_isIdKind.f (a0 : Int) : Option (Bool) := (impl_inside.f a0 1 4).bind fun t167 => (some t167)
set_option maxHeartbeats 8000000 in
set_option maxRecDepth 100000 in
theorem impl_isIdKind.calls (a0 : Int) (r : Bool) (w : World) (h : impl_isIdKind.f a0 = some r) :
    Calls Try.prog 29 #[.int .i64 a0] w fun e w' => e = .returned (.bool r) ∧ Drawn0 w w' := by
  have H : ((impl_inside.f a0 1 4).bind fun t167 => (some t167)) = some r := h
  clear h
  replace H := Option.bind_eq_some_iff.mp H
  obtain ⟨t167, A20, H⟩ := H
  replace H : (some t167) = some r := H
  have A2 := Aside0.mk A20
  clear A20
  obtain rfl := Option.some.inj H
  go_enter Try.func29, Try.ntmps29
  go_wp2_with (first | ((with_reducible refine gate_callee (f := 23) rfl ?_); refine goesL_ (some 4) rfl rfl Try.func23 (by kernel_rfl) rfl #[.int .i64 a0, .int .i64 1, .int .i64 4] rfl (by (try simp only [List.map_toArray, List.map_cons, List.map_nil]); first | done | rfl | (simp only [List.length_drop, List.length_take]; rfl)) ?_; (with_reducible refine (impl_inside.calls a0 1 4 t167 _ A2.out).mono ?_); rintro e w' ⟨rfl, ⟨nd, rfl⟩⟩; refine ⟨_, rfl, ?_⟩))
  go_ret
  exact ⟨by first | rfl | (simp; done) | (simp [my_isEmpty]; done) | (simp [*]; done), by repeat (first | exact Drawn0.refl _ | apply Drawn0.step)⟩

-- NOT PRINTED: function 15 (impl_RepairDigit)

-- NOT PRINTED: function 6 (laws_FnExactRepairDigit)

end Go.Proofs.Ytpnjnlcjofaglaa.P
