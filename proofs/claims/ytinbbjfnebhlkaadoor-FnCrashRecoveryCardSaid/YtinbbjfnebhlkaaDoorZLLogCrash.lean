/- A log that a crash leaves: what the program's and the reference's CrashLog return; and what is recovered of it is a beginning of the log's records that holds all durable ones. For logs of at most 1048576 bytes. -/
import Derived.Test.YtinbbjfnebhlkaaDoorZPx0
import Derived.Test.YtinbbjfnebhlkaaDoorZPx5
import Derived.Test.YtinbbjfnebhlkaaDoorZPx7
import Derived.Test.YtinbbjfnebhlkaaDoorZLBase
import Derived.Test.YtinbbjfnebhlkaaDoorZLLog
import Derived.Test.YtinbbjfnebhlkaaDoorZLLogA
import Derived.Test.YtinbbjfnebhlkaaDoorZLLogCat
import Derived.Test.YtinbbjfnebhlkaaDoorZLLogD
import Derived.Test.YtinbbjfnebhlkaaDoorZLLogF
import Derived.Test.YtinbbjfnebhlkaaDoorZLLogOps
import Derived.Test.YtinbbjfnebhlkaaDoorZLNum
import Derived.Test.YtinbbjfnebhlkaaDoorZLRec
import Derived.Test.YtinbbjfnebhlkaaDoorZLSeal
import Derived.Test.YtinbbjfnebhlkaaDoorZLWalk
import Derived.Test.YtinbbjfnebhlkaaDoorZLWalks
namespace Go.Proofs.YtinbbjfnebhlkaaDoor.P
open Go.RowKit Go.Proofs.YtinbbjfnebhlkaaDoorW.PrintWords Go.Proofs.YtinbbjfnebhlkaaDoorW.PrintLast Go.Proofs.YtinbbjfnebhlkaaDoorW.PrintMore
set_option linter.unusedVariables false
set_option linter.unusedSimpArgs false
def crashR (D P : ByteArray) (n keep : Int) (torn : Bool) : ByteArray × Bool := if isLogB D P n = true then (if 0 ≤ keep ∧ keep ≤ (P.size : Int) then (D ++ tornB (P.extract 0 keep.toNat) torn, true) else ((⟨#[]⟩ : ByteArray), false)) else ((⟨#[]⟩ : ByteArray), false)
theorem crashBoth (D P : ByteArray) (n keep : Int) (torn : Bool) (hs : D.size + P.size ≤ 1048576) (k : Nat) (hk : 2 * (D.size + P.size) + 800 < k) : spec_CrashLog.f k D P n keep torn = some (crashR D P n keep torn) ∧ impl_CrashLog.f k D P n keep torn = some (crashR D P n keep torn) := by
 unfold spec_CrashLog.f impl_CrashLog.f crashR
 rw [specLog D P n hs k hk, implLog D P n hs k hk, Option.bind_some]
 cases hl : isLogB D P n with
 | false => exact ⟨rfl, rfl⟩
 | true =>
  rw [if_pos rfl]
  by_cases hc : 0 ≤ keep ∧ keep ≤ (P.size : Int)
  ·have hle : D.size + P.size ≤ 9223372036854775807 := by omega
   simp only [if_pos hc, if_pos hle, if_true, and_self]
  ·simp only [if_neg hc, if_true, and_self]
theorem strOf_toL (xs : List Int) : (strOfNums xs).data.toList = xs.map fun n => UInt8.ofNat n.toNat := rfl
theorem ofNat_toNat8 (b : UInt8) : UInt8.ofNat ((b.toNat : Int)).toNat = b := by
 rw [Int.toNat_natCast]
 simp
theorem bytesOf_back (s : ByteArray) : (strOfNums (bytesOf s)).data.toList = s.data.toList := by
 rw [strOf_toL]
 unfold bytesOf
 rw [List.map_map]
 conv => rhs; rw [← List.map_id s.data.toList]
 exact List.map_congr_left (fun b _ => ofNat_toNat8 b)
theorem torn_toL (s : ByteArray) (b : Bool) (hb : ∀ x ∈ s.data.toList, x.toNat ≤ 126) :
  (tornB s b).data.toList = s.data.toList ∨ ∃ u c, u < s.size ∧ (tornB s b).data.toList = s.data.toList.take u ++ [c] ∧ c ≠ 10 := by
 unfold tornB
 by_cases h : b = true ∧ 0 < s.size
 ·right
  rw [if_pos h]
  have hlt : s.size - 1 < s.data.toList.length := by rw [data_length]; omega
  have hlen : (bytesOf s).length = s.size := bytesOf_length s
  have hg : (bytesOf s).getD (s.size - 1) 0 = (s.data.toList[s.size - 1].toNat : Int) := by
   unfold bytesOf
   rw [List.getD_eq_getElem?_getD, List.getElem?_map, List.getElem?_eq_getElem hlt]
   rfl
  have hx := hb _ (List.getElem_mem hlt)
  refine ⟨s.size - 1, UInt8.ofNat (255 - (bytesOf s).getD (s.size - 1) 0).toNat, by omega, ?_, ?_⟩
  ·rw [strOf_toL, List.map_set]
   have hm : (bytesOf s).map (fun n => UInt8.ofNat n.toNat) = s.data.toList := bytesOf_back s
   rw [hm, List.set_eq_take_append_cons_drop, if_pos hlt, List.drop_of_length_le (by rw [data_length]; omega)]
  ·rw [hg]
   intro e
   have := congrArg UInt8.toNat e
   rw [UInt8.toNat_ofNat_of_lt' (by show (255 - (s.data.toList[s.size - 1].toNat : Int)).toNat < 256; omega)] at this
   have e10 : (10 : UInt8).toNat = 10 := rfl
   omega
 ·left
  rw [if_neg h]
  exact bytesOf_back s
theorem cat_bytes : ∀ (l : List S27) (n : Nat), goodL l → n + l.length ≤ 60 → ∀ x ∈ catL l n, x.toNat ≤ 126
 | [], _, _, _, x, hx => by cases hx
 | y :: l, n, hg, hn, x, hx => by
  rw [catL] at hx
  simp only [List.length_cons] at hn
  rcases List.mem_append.1 hx with hx | hx
  ·have hy := hg y List.mem_cons_self
   obtain ⟨_, _, _, p1, p2, _⟩ := goodRec_parts hy
   have hk := chk_range (recText (n : Int) y.f0 y.f1)
   have pl : ∀ (s : ByteArray), plain s = true → x ∈ s.data.toList → x.toNat ≤ 126 := by
    intro s hs hm
    unfold plain at hs
    have := List.all_eq_true.1 hs x hm
    unfold plainB at this
    simp only [Bool.and_eq_true, decide_eq_true_eq] at this
    omega
   rw [recLine_toL, sealB_toL, recText_toL] at hx
   simp only [List.mem_append, List.mem_cons, List.not_mem_nil, or_false] at hx
   rcases hx with (((hx | hx | hx) | hx | hx) | hx | hx) | hx
   ·have := numB_no _ (by omega) (by omega) x hx; omega
   ·subst hx; decide
   ·exact pl _ p1 hx
   ·subst hx; decide
   ·exact pl _ p2 hx
   ·subst hx; decide
   ·have := numB_no _ hk.1 (by omega) x hx; omega
   ·subst hx; decide
  ·exact cat_bytes l (n + 1) (fun z hz => hg z (List.mem_cons_of_mem _ hz)) (by omega) x hx
theorem cut_cat : ∀ (l : List S27) (n u : Nat), goodL l → n + l.length ≤ 60 → u ≤ (catL l n).length → ∃ j rest, j ≤ l.length ∧ (catL l n).take u = catL (l.take j) n ++ rest ∧ rest.contains 10 = false
 | [], n, u, _, _, h => ⟨0, [], Nat.le_refl _, by simp [catL], rfl⟩
 | y :: l, n, u, hg, hn, h => by
  simp only [List.length_cons] at hn
  have hy := hg y List.mem_cons_self
  have h10 := seal_no10 (n := (n : Int)) (by omega) (by omega) hy
  rw [catL] at h ⊢
  rw [recLine_toL] at h ⊢
  generalize hB : (sealB (recText (n : Int) y.f0 y.f1)).data.toList = B at *
  by_cases hu : u ≤ B.length
  ·refine ⟨0, B.take u, Nat.zero_le _, ?_, ?_⟩
   ·rw [List.take_zero, catL, List.nil_append, List.append_assoc, List.take_append_of_le_length hu]
   ·rw [List.contains_eq_mem, decide_eq_false_iff_not] at h10 ⊢
    exact fun hm => h10 (List.mem_of_mem_take hm)
  ·have hlen : (B ++ [10]).length = B.length + 1 := by simp
   rw [List.length_append, hlen] at h
   obtain ⟨j, rest, j1, j2, j3⟩ := cut_cat l (n + 1) (u - (B.length + 1)) (fun z hz => hg z (List.mem_cons_of_mem _ hz)) (by omega) (by omega)
   refine ⟨j + 1, rest, by simp; omega, ?_, j3⟩
   rw [List.take_append, List.take_of_length_le (by rw [hlen]; omega), hlen, j2, List.take_succ_cons, catL, recLine_toL]
   rw [hB]
   simp only [List.append_assoc]
theorem crash_recs {D P : ByteArray} {n : Int} (hl : isLogB D P n = true) (m : Nat) (hm : m ≤ P.size) (b : Bool) :
  ∃ l l' rest, recsR D P n = (l, true) ∧ goodL l' ∧ l'.length ≤ l.length ∧ l.length ≤ 60 ∧ (∀ i : Nat, i < l'.length → rd_T27 l' (i : Int) = rd_T27 l (i : Int)) ∧ D.size ≤ (catL l' 0).length ∧
   (D ++ tornB (P.extract 0 m) b).data.toList = catL l' 0 ++ rest ∧ rest.contains 10 = false := by
 obtain ⟨l, g1, g2, g3, g4, g5, g6⟩ := isLog_parts hl
 obtain ⟨_, _, _, r0⟩ := recs_cat g1 g2 g3
 obtain ⟨lD, d1, d2, d3, d4⟩ := recs_whole g5
 have hsplit : ∃ l2, l = lD ++ l2 := by
  have hw := walk_cat lD 60 0 0 (D ++ P) P.data.toList d1 d3 (by omega) (by omega) (by rw [List.drop_zero, toL_append, d4])
  have h2 := r0
  unfold recsB at h2
  rw [hw, List.map_append, endsL_fst] at h2
  exact ⟨_, h2.symm⟩
 obtain ⟨l2, rfl⟩ := hsplit
 have hP : P.data.toList = catL l2 lD.length := by
  have h2 := g3
  rw [toL_append, d4, catL_append, Nat.zero_add] at h2
  exact List.append_cancel_left h2
 have hg2 : goodL l2 := fun x hx => g1 x (List.mem_append_right _ hx)
 have hlen : lD.length + l2.length ≤ 60 := by rw [List.length_append] at g2; exact g2
 have hE : (P.extract 0 m).data.toList = P.data.toList.take m := extract_zero_toL P m
 have hEz : (P.extract 0 m).size = m := by rw [ByteArray.size_extract]; omega
 have hPl : (catL l2 lD.length).length = P.size := by rw [← hP, data_length]
 have hby : ∀ x ∈ (P.extract 0 m).data.toList, x.toNat ≤ 126 := by
  intro x hx
  rw [hE, hP] at hx
  exact cat_bytes l2 lD.length hg2 hlen x (List.mem_of_mem_take hx)
 have hcut : ∃ j rest, j ≤ l2.length ∧ (tornB (P.extract 0 m) b).data.toList = catL (l2.take j) lD.length ++ rest ∧ rest.contains 10 = false := by
  rcases torn_toL (P.extract 0 m) b hby with h | ⟨u, c, hu, h, hc⟩
  ·obtain ⟨j, rest, j1, j2, j3⟩ := cut_cat l2 lD.length m hg2 hlen (by omega)
   exact ⟨j, rest, j1, by rw [h, hE, hP, j2], j3⟩
  ·obtain ⟨j, rest, j1, j2, j3⟩ := cut_cat l2 lD.length u hg2 hlen (by omega)
   refine ⟨j, rest ++ [c], j1, ?_, ?_⟩
   ·rw [h, hE, hP, List.take_take, Nat.min_eq_left (by omega), j2, List.append_assoc]
   ·rw [List.contains_eq_mem, decide_eq_false_iff_not] at j3 ⊢
    intro hm2
    rcases List.mem_append.1 hm2 with h3 | h3
    ·exact j3 h3
    ·exact hc (List.mem_singleton.1 h3).symm
 obtain ⟨j, rest, j1, j2, j3⟩ := hcut
 refine ⟨lD ++ l2, lD ++ l2.take j, rest, ?_, ?_, ?_, g2, ?_, ?_, ?_, j3⟩
 ·unfold recsR
  rw [if_pos hl, r0]
 ·intro x hx
  rcases List.mem_append.1 hx with hx | hx
  ·exact d1 x hx
  ·exact hg2 x (List.mem_of_mem_take hx)
 ·rw [List.length_append, List.length_append, List.length_take]
  omega
 ·intro i hi
  unfold rd_T27
  rw [Int.toNat_natCast, List.getD_eq_getElem?_getD, List.getD_eq_getElem?_getD]
  rw [List.length_append, List.length_take] at hi
  by_cases e : i < lD.length
  ·rw [List.getElem?_append_left e, List.getElem?_append_left e]
  ·rw [List.getElem?_append_right (by omega), List.getElem?_append_right (by omega), List.getElem?_take_of_lt (by omega)]
 ·rw [catL_append, List.length_append, ← d4, data_length]
  omega
 ·rw [toL_append, d4, j2, catL_append, Nat.zero_add, List.append_assoc]
theorem tornB_le (s : ByteArray) (b : Bool) : (tornB s b).size = s.size := tornB_size s b
theorem recR_cut {s : ByteArray} {l : List S27} {rest : List UInt8} (hz : s.size ≤ 30000) (hg : goodL l) (hl : l.length ≤ 60) (h : s.data.toList = catL l 0 ++ rest) (hr : rest.contains 10 = false) :
  recR s = (s.extract 0 (catL l 0).length, (⟨#[]⟩ : ByteArray), (l.length : Int), (((catL l 0).length : Nat) : Int), true) ∧ recsR (s.extract 0 (catL l 0).length) (⟨#[]⟩ : ByteArray) (l.length : Int) = (l, true) ∧
   isLogB (s.extract 0 (catL l 0).length) (⟨#[]⟩ : ByteArray) (l.length : Int) = true ∧ (catL l 0).length ≤ s.size := by
 have hR := recs_of hg hl hr h
 have hD : (s.extract 0 (catL l 0).length).data.toList = catL l 0 := by rw [extract_zero_toL, h, List.take_left]
 have hL : isLogB (s.extract 0 (catL l 0).length) (⟨#[]⟩ : ByteArray) (l.length : Int) = true := isLog_of hg hl (by rw [empty_append]; exact hD) (recs_cat hg hl hD).2.1
 refine ⟨?_, ?_, hL, ?_⟩
 ·unfold recR
  rw [if_neg (by omega), hR, endsL_end, endsL_length, Nat.zero_add]
 ·unfold recsR
  rw [if_pos hL, empty_append, (recs_cat hg hl hD).2.2.2]
 ·rw [size_data, h, List.length_append]
  omega
end Go.Proofs.YtinbbjfnebhlkaaDoor.P
