/- Encoding a record alone: what the program and the reference compute; and an encoded record is read back at its own place only. Conditions: those of each lemma. -/
import Derived.Test.YtinbbjfnebhlkaaDoorZPx13
import Derived.Test.YtinbbjfnebhlkaaDoorZPx3
import Derived.Test.YtinbbjfnebhlkaaDoorZPx4
import Derived.Test.YtinbbjfnebhlkaaDoorZLBase
import Derived.Test.YtinbbjfnebhlkaaDoorZLLog
import Derived.Test.YtinbbjfnebhlkaaDoorZLLogA
import Derived.Test.YtinbbjfnebhlkaaDoorZLLogCat
import Derived.Test.YtinbbjfnebhlkaaDoorZLLogD
import Derived.Test.YtinbbjfnebhlkaaDoorZLLogOps
import Derived.Test.YtinbbjfnebhlkaaDoorZLNum
import Derived.Test.YtinbbjfnebhlkaaDoorZLRec
import Derived.Test.YtinbbjfnebhlkaaDoorZLSeal
import Derived.Test.YtinbbjfnebhlkaaDoorZLWalk
import Derived.Test.YtinbbjfnebhlkaaDoorZLWalks
namespace Go.Proofs.YtinbbjfnebhlkaaDoor.P
open Go.RowKit Go.Proofs.YtinbbjfnebhlkaaDoorW.PrintWords Go.Proofs.YtinbbjfnebhlkaaDoorW.PrintLast Go.Proofs.YtinbbjfnebhlkaaDoorW.PrintMore
set_option linter.unusedVariables false
set_option linter.unusedSimpArgs false
def encR (n : Int) (c r : ByteArray) : ByteArray × Bool := if 0 ≤ n ∧ n ≤ 59 ∧ goodRec c r = true then (recLine n c r, true) else ((⟨#[]⟩ : ByteArray), false)
theorem encBoth (n : Int) (c r : ByteArray) (hc : c.size ≤ 1000) (hr : r.size ≤ 1000) (k : Nat) (hk : 3000 < k) : spec_EncodeRecord.f k n c r = some (encR n c r) ∧ impl_EncodeRecord.f k n c r = some (encR n c r) := by
 unfold spec_EncodeRecord.f impl_EncodeRecord.f spec_l1In.f impl_inside.f encR
 have gS := specGood c r (by omega) (by omega) k (by omega) (by omega)
 have gI := implGood c r (by omega) (by omega) k (by omega) (by omega)
 by_cases hn : n ≥ 0
 ·rw [if_pos hn, Option.bind_some, Option.bind_some]
  by_cases h59 : n ≤ 59
  ·have e59 : decide (n ≤ 59) = true := decide_eq_true h59
   rw [e59, if_pos rfl, if_pos rfl, gS, gI, Option.bind_some, Option.bind_some]
   by_cases hg : goodRec c r = true
   ·rw [if_pos hg, if_pos hg, if_pos ⟨by omega, h59, hg⟩, specLine n c r (by omega) (by omega) (by omega) (by omega) (by omega) k (by omega), implLine n c r (by omega) (by omega) hg k (by omega)]
    exact ⟨rfl, rfl⟩
   ·rw [if_neg hg, if_neg hg, if_neg (fun h => hg h.2.2)]
    exact ⟨rfl, rfl⟩
  ·have e59 : decide (n ≤ 59) = false := decide_eq_false h59
   rw [e59, if_neg Bool.false_ne_true, if_neg Bool.false_ne_true, if_neg (fun h => h59 h.2.1)]
   exact ⟨rfl, rfl⟩
 ·rw [if_neg hn, if_neg (fun h => hn h.1)]
  exact ⟨rfl, rfl⟩
theorem num_zero (n : Nat) (h : n < 1000000000000000000) (he : numB (n : Int) = numB 0) : n = 0 := by
 have h2 := congrArg (fun s : ByteArray => s.data.toList) he
 unfold numB Lib.itoa at h2
 rw [if_neg (by omega), if_neg (by omega)] at h2
 simp only [toL_ofL, Int.toNat_natCast] at h2
 have e0 : Lib.decDigits (0 : Int).toNat = [UInt8.ofNat (48 + 0)] := dec_small 0 (by omega)
 rw [e0] at h2
 by_cases h10 : n < 10
 ·rw [dec_small n h10] at h2
  have h3 := congrArg (fun l : List UInt8 => (l.headD 0).toNat) h2
  simp only [List.headD_cons] at h3
  rw [UInt8.toNat_ofNat_of_lt' (by show 48 + n < 256; omega), UInt8.toNat_ofNat_of_lt' (by show 48 + 0 < 256; omega)] at h3
  omega
 ·rw [dec_step n h10] at h2
  have h3 := congrArg List.length h2
  rw [List.length_append] at h3
  have hp : 1 ≤ (Lib.decDigits (n / 10)).length := by
   by_cases q : n / 10 < 10
   ·rw [dec_small _ q]; simp
   ·rw [dec_step _ q]; simp
  simp at h3
  rw [h3] at hp
  simp at hp
theorem recText_num {n m : Int} {c r c' r' : ByteArray} (h0 : 0 ≤ n) (h1 : n < 1000000000000000000) (g0 : 0 ≤ m) (g1 : m < 1000000000000000000) (h : recText n c r = recText m c' r') : numB n = numB m := by
 have no32 : ∀ q : Int, 0 ≤ q → q < 1000000000000000000 → (numB q).data.toList.contains 32 = false := by
  intro q q0 q1
  rw [List.contains_eq_mem]
  simp only [decide_eq_false_iff_not]
  intro hm
  have := numB_no q q0 q1 32 hm
  revert this
  decide
 have e1 := cutB_at (s := recText n c r) (x := 32) (a := (numB n).data.toList) (b := c.data.toList ++ 64 :: r.data.toList) (by rw [recText_toL]; simp) (no32 n h0 h1)
 have e2 := cutB_at (s := recText m c' r') (x := 32) (a := (numB m).data.toList) (b := c'.data.toList ++ 64 :: r'.data.toList) (by rw [recText_toL]; simp) (no32 m g0 g1)
 rw [h, e2] at e1
 have e3 := congrArg (fun x : ByteArray × ByteArray × Bool => x.1) e1
 simp only [ofL_toL] at e3
 exact e3.symm
theorem read_other {n : Int} {c r : ByteArray} (h0 : 0 < n) (hn : n < 60) (hg : goodRec c r = true) : readB (recLine n c r) 0 = none := by
 have hc := cutB_at (s := recLine n c r) (x := 10) (a := (sealB (recText n c r)).data.toList) (b := []) (by rw [recLine_toL]) (seal_no10 (by omega) (by omega) hg)
 rw [ofL_toL] at hc
 cases hq : readB (recLine n c r) 0 with
 | none => rfl
 | some x =>
  obtain ⟨c', r'⟩ := x
  obtain ⟨_, _, q3⟩ := readB_some hq
  obtain ⟨g', e'⟩ := recQ_some q3
  rw [hc] at e'
  simp only at e'
  obtain ⟨p1, _⟩ := line_parse (n := n) (c := c) (r := r) (line := sealB (recText n c r)) (by omega) (by omega) hg rfl
  obtain ⟨p2, _⟩ := line_parse (n := 0) (c := c') (r := r') (line := sealB (recText n c r)) (by omega) (by omega) g' e'
  rw [p1] at p2
  have hT : recText n c r = recText 0 c' r' := congrArg (fun x : ByteArray × ByteArray × Bool => x.1) p2
  have hN := recText_num (by omega) (by omega) (by omega) (by omega) hT
  have := num_zero n.toNat (by omega) (by rw [Int.toNat_of_nonneg (by omega)]; exact hN)
  omega
theorem recR_alone {n : Int} {c r : ByteArray} (h0 : 0 ≤ n) (hn : n ≤ 59) (hg : goodRec c r = true) :
  (n = 0 → (recR (recLine n c r)).2.2.1 = 1 ∧ 0 < (recR (recLine n c r)).2.2.2.1) ∧ (n ≠ 0 → (recR (recLine n c r)).2.2.2.1 = 0) := by
 have hz := recLine_size h0 (by omega) hg
 have hz1 : 0 < (recLine n c r).size := by
  have e1 : (⟨#[10]⟩ : ByteArray).size = 1 := rfl
  unfold recLine
  rw [ByteArray.size_append, e1]
  omega
 constructor
 ·intro e
  subst e
  have hw := recR_whole (s := recLine 0 c r) (l := [⟨c, r⟩]) (by intro x hx; obtain rfl := List.mem_singleton.1 hx; exact hg) (by simp) (by rw [catL, catL, List.append_nil]; rfl)
  rw [hw]
  exact ⟨rfl, by simp only; omega⟩
 ·intro e
  have hr : recsB (recLine n c r) = [] := by
   unfold recsB
   rw [walkB]
   have : (recLine n c r).extract 0 (recLine n c r).size = recLine n c r := bytes_eq (by rw [extract_zero_toL, size_data, List.take_length])
   rw [this, Int.natCast_zero, read_other (by omega) (by omega) hg]
  unfold recR
  rw [if_neg (by omega), hr]
  rfl
theorem recR_fix (s : ByteArray) : (recR s).2.1 = (⟨#[]⟩ : ByteArray) ∧ (recR s).1.size ≤ 24120 ∧ ((recR s).2.2.2.2 = true → isLogB (recR s).1 (⟨#[]⟩ : ByteArray) (recR s).2.2.1 = true) := by
 unfold recR
 by_cases h3 : (s.size : Int) > 30000
 ·rw [if_pos h3]
  exact ⟨rfl, Nat.zero_le _, fun h => by simp at h⟩
 ·rw [if_neg h3]
  obtain ⟨l, g1, g2, g3, g4⟩ := recs_inv s
  obtain ⟨b1, b2, _⟩ := recsB_facts s
  have he : endB (recsB s) 0 = (catL l 0).length := by rw [g2, endsL_end, Nat.zero_add]
  have hD : (s.extract 0 (endB (recsB s) 0)).data.toList = catL l 0 := by
   rw [extract_zero_toL, he]
   conv => lhs; rw [g4]
   rw [List.take_left]
  have hl : (recsB s).length = l.length := by rw [g2, endsL_length]
  refine ⟨rfl, ?_, fun _ => ?_⟩
  ·show (s.extract 0 (endB (recsB s) 0)).size ≤ 24120
   rw [ByteArray.size_extract]
   omega
  ·show isLogB (s.extract 0 (endB (recsB s) 0)) (⟨#[]⟩ : ByteArray) (((recsB s).length : Nat) : Int) = true
   rw [hl]
   exact isLog_of g1 g3 (by rw [empty_append]; exact hD) (recs_cat g1 g3 hD).2.1
end Go.Proofs.YtinbbjfnebhlkaaDoor.P
