/- Which texts are cells: the program's and the reference's tests are one plain function, for strings of at most 2097152 bytes. -/
import Derived.Test.YtbinfdheapjpnaaDoorZPx1
import Derived.Test.YtbinfdheapjpnaaDoorZLBase
import Derived.Test.YtbinfdheapjpnaaDoorZLLocBytes
namespace Go.Proofs.YtbinfdheapjpnaaDoor.P
open Go.RowKit Go.Proofs.YtbinfdheapjpnaaDoorW.PrintWords Go.Proofs.YtbinfdheapjpnaaDoorW.PrintLast Go.Proofs.YtbinfdheapjpnaaDoorW.PrintMore
set_option linter.unusedVariables false
set_option linter.unusedSimpArgs false
theorem all_mem (s : ByteArray) : ∀ (d i : Nat), s.size - i = d → i ≤ s.size → allFrom 32 126 s (i : Int) d = true → ∀ b ∈ s.data.toList.drop i, b.toNat < 128
 | 0, i, hd, hi, _ => by
  rw [drop_end s i (by omega)]
  intro b hb
  cases hb
 | d + 1, i, hd, hi, h => by
  obtain ⟨c, hc, hct⟩ := drop_bt s i (by omega)
  rw [allFrom, hct, Bool.and_eq_true, Bool.and_eq_true, decide_eq_true_eq, decide_eq_true_eq] at h
  rw [hc]
  intro b hb
  rcases List.mem_cons.1 hb with rfl | hb
  ·omega
  ·exact all_mem s d (i + 1) (by omega) (by omega) h.2.2 b hb
theorem bytesOk_small {s : ByteArray} {lo hi : Int} (h : bytesOk s lo hi 32 = true) : (∀ b ∈ s.data.toList, b.toNat < 128) ∧ (s.size : Int) ≤ hi := by
 unfold bytesOk at h
 rw [Bool.and_eq_true] at h
 have h2 := all_mem s s.size 0 (by omega) (by omega) h.1
 rw [List.drop_zero] at h2
 refine ⟨h2, ?_⟩
 have := h.2
 unfold inB at this
 simp at this
 omega
end Go.Proofs.YtbinfdheapjpnaaDoor.P
