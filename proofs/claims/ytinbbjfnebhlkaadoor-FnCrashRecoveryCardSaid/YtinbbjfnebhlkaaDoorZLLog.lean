/- Reading the records of a log: the program and the reference find the same records and stop at the same place, for texts of at most 1048576 bytes; and the tests of a log agree. -/
import Derived.Test.YtinbbjfnebhlkaaDoorZPx4
import Derived.Test.YtinbbjfnebhlkaaDoorZPx6
import Derived.Test.YtinbbjfnebhlkaaDoorZLBase
import Derived.Test.YtinbbjfnebhlkaaDoorZLCut
import Derived.Test.YtinbbjfnebhlkaaDoorZLNum
import Derived.Test.YtinbbjfnebhlkaaDoorZLRec
import Derived.Test.YtinbbjfnebhlkaaDoorZLSeal
namespace Go.Proofs.YtinbbjfnebhlkaaDoor.P
open Go.RowKit Go.Proofs.YtinbbjfnebhlkaaDoorW.PrintWords Go.Proofs.YtinbbjfnebhlkaaDoorW.PrintLast Go.Proofs.YtinbbjfnebhlkaaDoorW.PrintMore
set_option linter.unusedVariables false
set_option linter.unusedSimpArgs false
theorem posL_append_of {a b : List UInt8} {x : UInt8} (ha : a.contains x = false) : posL (a ++ x :: b) x = a.length := by
 induction a with
 | nil => simp [posL_cons]
 | cons y a ih =>
  simp only [List.contains_cons, Bool.or_eq_false_iff] at ha
  have hne : ¬ y = x := by intro e; subst e; simp at ha
  rw [List.cons_append, posL_cons, if_neg hne, ih ha.2]
  simp
theorem extract_zero_toL (s : ByteArray) (b : Nat) : (s.extract 0 b).data.toList = s.data.toList.take b := by
 rw [Lib.extract_data]; simp
theorem extract_end_toL (s : ByteArray) (a : Nat) : (s.extract a s.size).data.toList = s.data.toList.drop a := by
 rw [Lib.extract_data, size_data]
 exact List.take_of_length_le (by simp)
theorem cutB_at {s : ByteArray} {a b : List UInt8} {x : UInt8} (h : s.data.toList = a ++ x :: b) (ha : a.contains x = false) : cutB s x = (ofL a, ofL b, true) := by
 have hp : posL s.data.toList x = a.length := by rw [h]; exact posL_append_of ha
 have hl : a.length < s.size := by rw [size_data, h]; simp
 unfold cutB
 rw [hp, if_pos hl]
 have e1 : s.extract 0 a.length = ofL a := bytes_eq (by rw [extract_zero_toL, h]; simp [toL_ofL])
 have e2 : s.extract (a.length + 1) s.size = ofL b := bytes_eq (by rw [extract_end_toL, h]; simp [toL_ofL])
 rw [e1, e2]
def lineC (line : ByteArray) : ByteArray := (cutB (cutB (cutB line 35).1 32).2.1 64).1
def lineR (line : ByteArray) : ByteArray := (cutB (cutB (cutB line 35).1 32).2.1 64).2.1
def recQ (line : ByteArray) (n : Int) : Option (ByteArray × ByteArray) :=
 if goodRec (lineC line) (lineR line) = true ∧ (recLine n (lineC line) (lineR line)).toList = (line ++ (⟨#[10]⟩ : ByteArray)).toList then some (lineC line, lineR line) else none
theorem toL_cancel {a b c : ByteArray} (h : a ++ c = b ++ c) : a = b := by
 apply bytes_eq
 have h2 := congrArg (fun s : ByteArray => s.data.toList) h
 simp only [toL_append] at h2
 exact List.append_cancel_right h2
theorem sealB_toL (s : ByteArray) : (sealB s).data.toList = s.data.toList ++ 35 :: (numB (chk s)).data.toList := by
 unfold sealB
 rw [toL_append, toL_append]
 simp
theorem line_parse {n : Int} {c r line : ByteArray} (h0 : 0 ≤ n) (h1 : n < 1000000000000000000) (hg : goodRec c r = true) (h : recLine n c r = line ++ (⟨#[10]⟩ : ByteArray)) :
  cutB line 35 = (recText n c r, numB (chk (recText n c r)), true) ∧ (cutB (recText n c r) 32).2.1.data.toList = c.data.toList ++ 64 :: r.data.toList ∧ lineC line = c ∧ lineR line = r ∧ line = sealB (recText n c r) := by
 have hl : line = sealB (recText n c r) := (toL_cancel h).symm
 obtain ⟨_, _, _, _, _, g6⟩ := goodRec_parts hg
 have e1 : cutB line 35 = (recText n c r, numB (chk (recText n c r)), true) := by
  rw [hl]
  have := cutB_at (sealB_toL (recText n c r)) (recText_no35 h0 h1 hg)
  rw [this, ofL_toL, ofL_toL]
 have hn : (numB n).data.toList.contains 32 = false := by
  rw [List.contains_eq_mem]
  simp only [decide_eq_false_iff_not]
  intro hm
  have := numB_no n h0 h1 32 hm
  revert this
  decide
 have e2 : cutB (recText n c r) 32 = (numB n, ofL (c.data.toList ++ 64 :: r.data.toList), true) := by
  have := cutB_at (s := recText n c r) (x := 32) (a := (numB n).data.toList) (b := c.data.toList ++ 64 :: r.data.toList) (by rw [recText_toL]; simp) hn
  rw [this, ofL_toL]
 have e3 : cutB (ofL (c.data.toList ++ 64 :: r.data.toList)) 64 = (c, r, true) := by
  rw [cutB_at (toL_ofL _) g6, ofL_toL, ofL_toL]
 refine ⟨e1, by rw [e2]; rfl, ?_, ?_, hl⟩
 ·unfold lineC; rw [e1]; simp only; rw [e2]; simp only; rw [e3]
 ·unfold lineR; rw [e1]; simp only; rw [e2]; simp only; rw [e3]
theorem recQ_of {n : Int} {c r line : ByteArray} (h0 : 0 ≤ n) (h1 : n < 1000000000000000000) (hg : goodRec c r = true) (h : recLine n c r = line ++ (⟨#[10]⟩ : ByteArray)) : recQ line n = some (c, r) := by
 obtain ⟨_, _, h3, h4, _⟩ := line_parse h0 h1 hg h
 unfold recQ
 rw [h3, h4, if_pos ⟨hg, by rw [h]⟩]
theorem recQ_some {n : Int} {c r line : ByteArray} (h : recQ line n = some (c, r)) : goodRec c r = true ∧ recLine n c r = line ++ (⟨#[10]⟩ : ByteArray) := by
 unfold recQ at h
 split at h
 ·rename_i hc
  simp only [Option.some.injEq, Prod.mk.injEq] at h
  obtain ⟨rfl, rfl⟩ := h
  exact ⟨hc.1, toList_inj.1 hc.2⟩
 ·cases h
theorem cutB_le (s : ByteArray) (c : UInt8) : (cutB s c).1.size ≤ s.size ∧ (cutB s c).2.1.size ≤ s.size := by
 unfold cutB
 split
 ·refine ⟨?_, ?_⟩
  ·show (s.extract 0 _).size ≤ _
   rw [ByteArray.size_extract]; omega
  ·show (s.extract _ s.size).size ≤ _
   rw [ByteArray.size_extract]; omega
 ·exact ⟨Nat.le_refl _, Nat.zero_le _⟩
def readB (s : ByteArray) (n : Int) : Option (ByteArray × ByteArray) := if (cutB s 10).2.2 = true ∧ n < 60 then recQ (cutB s 10).1 n else none
theorem implRead (s : ByteArray) (n : Int) (hs : s.size ≤ 1048576) (h0 : 0 ≤ n) (k : Nat) (hk : 2 * s.size + 200 < k) :
  impl_readRecord.f k s n = some (match readB s n with | some (c, r) => (c, r, ((cutB s 10).1.size : Int) + 1, true) | none => (⟨#[]⟩, ⟨#[]⟩, 0, false)) := by
 have l1 := cutB_le s 10
 have l2 := cutB_le (cutB s 10).1 35
 have l3 := cutB_le (cutB (cutB s 10).1 35).1 32
 have l4 := cutB_le (cutB (cutB (cutB s 10).1 35).1 32).2.1 64
 unfold impl_readRecord.f
 rw [cut_f s 10 (by omega)]
 simp only [Option.bind_some]
 rw [cut_f _ 35 (by omega)]
 simp only [Option.bind_some]
 rw [cut_f _ 32 (by omega)]
 simp only [Option.bind_some]
 rw [cut_f _ 64 (by omega)]
 simp only [Option.bind_some]
 have eC : (cutB (cutB (cutB (cutB s 10).1 35).1 32).2.1 64).1 = lineC (cutB s 10).1 := rfl
 have eR : (cutB (cutB (cutB (cutB s 10).1 35).1 32).2.1 64).2.1 = lineR (cutB s 10).1 := rfl
 have l5 : (lineC (cutB s 10).1).size + (lineR (cutB s 10).1).size ≤ 2 * s.size ∧ (lineC (cutB s 10).1).size ≤ s.size ∧ (lineR (cutB s 10).1).size ≤ s.size := by rw [← eC, ← eR]; omega
 rw [eC, eR]
 unfold readB
 by_cases hf : (cutB s 10).2.2 = true
 ·rw [if_pos hf]
  by_cases h60 : n < 60
  ·rw [if_neg (by omega), if_pos ⟨hf, h60⟩, implGood _ _ (by omega) (by omega) k (by omega) (by omega)]
   simp only [Option.bind_some]
   unfold recQ
   cases hg : goodRec (lineC (cutB s 10).1) (lineR (cutB s 10).1) with
   | false => simp
   | true =>
    rw [if_pos rfl, implLine n _ _ h0 (by omega) hg k (by omega)]
    simp only [Option.bind_some, true_and]
    rw [if_pos (by omega), w64 (by omega) (by omega)]
    split <;> rfl
  ·rw [if_pos (by omega), if_neg (by omega)]
 ·rw [if_neg hf, if_neg (by simp [hf])]
theorem recLine_size {n : Int} {c r : ByteArray} (h0 : 0 ≤ n) (h1 : n < 1000000000000000000) (hg : goodRec c r = true) : (recLine n c r).size ≤ 402 := by
 obtain ⟨_, g2, g3, _⟩ := goodRec_parts hg
 have hn := numB_size n (by omega) h1
 have e1 : (⟨#[10]⟩ : ByteArray).size = 1 := rfl
 have ht := recText_size n c r
 have hz := sealB_size (recText n c r)
 unfold recLine
 rw [ByteArray.size_append, e1]
 omega
def tailB (line : ByteArray) (n : Int) (Rs : ByteArray) : ByteArray × ByteArray × Bool :=
 if posL Rs.data.toList 64 = Rs.size then (⟨#[]⟩, ⟨#[]⟩, false)
 else (Rs.extract 0 (posL Rs.data.toList 64), Rs.extract (posL Rs.data.toList 64 + 1) Rs.size, goodRec (Rs.extract 0 (posL Rs.data.toList 64)) (Rs.extract (posL Rs.data.toList 64 + 1) Rs.size) && ((recLine n (Rs.extract 0 (posL Rs.data.toList 64)) (Rs.extract (posL Rs.data.toList 64 + 1) Rs.size)).toList == (line ++ (⟨#[10]⟩ : ByteArray)).toList))
theorem specTail (line T A : ByteArray) (n : Int) (hl : line.size ≤ 1000000) (hs : T.size ≤ 1000000) (hA : A.size ≤ T.size) (h0 : 0 ≤ n) (h1 : n < 1000000000000000000) (k : Nat) (hk : 2 * T.size + 299 < k) :
  spec_l26Read.j0 (k + 1) line n A T false = some (tailB line n (T.extract A.size T.size)) := by
 simp only [spec_l26Read.j0]
 rw [if_neg (by simp), if_pos (by omega), if_pos (by omega)]
 simp only [Int.toNat_natCast]
 have hRz : (T.extract A.size T.size).size ≤ T.size := by rw [ByteArray.size_extract]; omega
 generalize T.extract A.size T.size = Rs at *
 clear hA
 obtain ⟨l64, hl64, _⟩ := split_f Rs 64 (by omega) k (by omega)
 have e64 : (((64 : UInt8).toNat : Nat) : Int) = 64 := rfl
 rw [e64] at hl64
 have hp64 := posL_le Rs.data.toList 64
 rw [← size_data] at hp64
 unfold tailB
 generalize posL Rs.data.toList 64 = p at *
 have hCz : (Rs.extract 0 p).size = p := by rw [ByteArray.size_extract]; omega
 rw [hl64]
 simp only [Option.bind_some]
 have hr1 : rdOf ByteArray.empty (Rs.extract 0 p :: l64) 0 = Rs.extract 0 p := rfl
 rw [hr1, if_pos (by simp), hCz]
 by_cases hall : p = Rs.size
 ·rw [if_pos (by omega), if_pos hall]
 ·have hw : wrap64 ((p : Int) + 1) = ((p + 1 : Nat) : Int) := by rw [w64 (by omega) (by omega)]; omega
  rw [if_neg (by omega), if_neg hall, hw, if_pos (by omega), if_pos (by omega)]
  simp only [Int.toNat_natCast]
  have hRR : (Rs.extract (p + 1) Rs.size).size ≤ Rs.size - p := by rw [ByteArray.size_extract]; omega
  generalize Rs.extract (p + 1) Rs.size = R at *
  generalize Rs.extract 0 p = C at *
  rw [specGood C R (by omega) (by omega) k (by omega) (by omega)]
  simp only [Option.bind_some]
  cases hg : goodRec C R with
  | false => simp
  | true =>
   rw [if_pos rfl, specLine n C R (by omega) h1 (by omega) (by omega) (by omega) k (by omega)]
   simp only [Option.bind_some]
   rw [if_pos (by omega)]
   rfl
theorem recQ_parts {line : ByteArray} {n : Int} (h0 : 0 ≤ n) (h1 : n < 1000000000000000000) {c r : ByteArray} (hq : recQ line n = some (c, r)) (T A : ByteArray) (hT : line.extract 0 (posL line.data.toList 35) = T) (hA : numB n ++ (⟨#[32]⟩ : ByteArray) = A) :
  A.size ≤ T.size ∧ T.extract 0 A.size = A ∧ (T.extract A.size T.size).data.toList = c.data.toList ++ 64 :: r.data.toList := by
 obtain ⟨hg, he⟩ := recQ_some hq
 obtain ⟨p1, _, _, _, p5⟩ := line_parse h0 h1 hg he
 have hTt : T = recText n c r := by
  rw [← hT]
  apply bytes_eq
  rw [extract_zero_toL, p5, sealB_toL, posL_append_of (recText_no35 h0 h1 hg)]
  simp
 have hAl : A.data.toList = (numB n).data.toList ++ [32] := by rw [← hA, toL_append]
 have hTl : T.data.toList = A.data.toList ++ (c.data.toList ++ 64 :: r.data.toList) := by rw [hTt, recText_toL, hAl]; simp
 refine ⟨by rw [size_data T, hTl, size_data A]; simp, ?_, ?_⟩
 ·apply bytes_eq
  rw [extract_zero_toL, hTl, size_data A]
  simp
 ·rw [extract_end_toL, hTl, size_data A]
  simp
theorem tailB_read {line : ByteArray} {n : Int} (h0 : 0 ≤ n) (h1 : n < 1000000000000000000) (T A : ByteArray) (hT : line.extract 0 (posL line.data.toList 35) = T) (hA : numB n ++ (⟨#[32]⟩ : ByteArray) = A) :
  ((tailB line n (T.extract A.size T.size)).2.2 = true → recQ line n = some ((tailB line n (T.extract A.size T.size)).1, (tailB line n (T.extract A.size T.size)).2.1)) ∧ ((tailB line n (T.extract A.size T.size)).2.2 = false → recQ line n = none) := by
 have hno : ∀ c r, recQ line n = some (c, r) → (T.extract A.size T.size).data.toList = c.data.toList ++ 64 :: r.data.toList := fun c r hq => (recQ_parts h0 h1 hq T A hT hA).2.2
 generalize T.extract A.size T.size = Rs at *
 unfold tailB
 split
 ·rename_i hall
  refine ⟨(fun h => by cases h), fun _ => ?_⟩
  cases hq : recQ line n with
  | none => rfl
  | some x =>
   have h4 := hno x.1 x.2 hq
   obtain ⟨hg, _⟩ := recQ_some hq
   obtain ⟨_, _, _, _, _, g6⟩ := goodRec_parts hg
   have := posL_append_of (b := x.2.data.toList) g6
   rw [← h4] at this
   have h5 : Rs.size = x.1.data.toList.length + (x.2.data.toList.length + 1) := by rw [size_data, h4]; simp
   omega
 ·have hparse : ∀ c r, recQ line n = some (c, r) → c = Rs.extract 0 (posL Rs.data.toList 64) ∧ r = Rs.extract (posL Rs.data.toList 64 + 1) Rs.size := by
   intro c r hq
   have h4 := hno c r hq
   obtain ⟨hg, _⟩ := recQ_some hq
   obtain ⟨_, _, _, _, _, g6⟩ := goodRec_parts hg
   have hpos := posL_append_of (b := r.data.toList) g6
   rw [← h4] at hpos
   refine ⟨?_, ?_⟩
   ·apply bytes_eq; rw [extract_zero_toL, hpos, h4]; simp
   ·apply bytes_eq
    have e1 : c.data.toList ++ 64 :: r.data.toList = (c.data.toList ++ [64]) ++ r.data.toList := by simp
    rw [extract_end_toL, hpos, h4, e1]
    exact (List.drop_left' (by simp)).symm
  generalize Rs.extract (posL Rs.data.toList 64 + 1) Rs.size = R at *
  generalize Rs.extract 0 (posL Rs.data.toList 64) = C at *
  refine ⟨fun hb => ?_, fun hb => ?_⟩
  ·simp only [Bool.and_eq_true, beq_iff_eq] at hb
   exact recQ_of h0 h1 hb.1 (toList_inj.1 hb.2)
  ·cases hq : recQ line n with
   | none => rfl
   | some x =>
    obtain ⟨e1, e2⟩ := hparse x.1 x.2 hq
    obtain ⟨q1, q2⟩ := recQ_some hq
    rw [e1, e2] at q1 q2
    simp only [q1, q2, Bool.true_and] at hb
    simp at hb
theorem specRead (line : ByteArray) (n : Int) (hs : line.size ≤ 1000000) (h0 : 0 ≤ n) (h1 : n < 1000000000000000000) (k : Nat) (hk : 2 * line.size + 300 < k) :
  ∃ c r b, spec_l26Read.f k line n = some (c, r, b) ∧ (b = true → recQ line n = some (c, r)) ∧ (b = false → recQ line n = none) := by
 have hn := numB_size n (by omega) h1
 have e32 : (⟨#[32]⟩ : ByteArray).size = 1 := rfl
 obtain ⟨l35, hl35, _⟩ := split_f line 35 (by omega) k (by omega)
 have e35 : (((35 : UInt8).toNat : Nat) : Int) = 35 := rfl
 rw [e35] at hl35
 have hp35 := posL_le line.data.toList 35
 rw [← size_data] at hp35
 obtain ⟨T, hT⟩ : ∃ T, line.extract 0 (posL line.data.toList 35) = T := ⟨_, rfl⟩
 have hTz : T.size ≤ line.size := by rw [← hT, ByteArray.size_extract]; omega
 obtain ⟨A, hA⟩ : ∃ A, numB n ++ (⟨#[32]⟩ : ByteArray) = A := ⟨_, rfl⟩
 have hAz : A.size = (numB n).size + 1 := by rw [← hA, ByteArray.size_append, e32]
 obtain ⟨k, rfl⟩ := succ_of hk
 unfold spec_l26Read.f
 rw [specNum n (by omega) h1 (k + 1) (by omega)]
 simp only [Option.bind_some]
 rw [if_pos (by omega), hl35]
 simp only [Option.bind_some]
 have hr0 : rdOf ByteArray.empty (line.extract 0 (posL line.data.toList 35) :: l35) 0 = T := hT
 rw [hr0, hA, if_pos (by simp)]
 have hno : ∀ c r, recQ line n = some (c, r) → A.size ≤ T.size ∧ T.extract 0 A.size = A := fun c r hq => ⟨(recQ_parts h0 h1 hq T A hT hA).1, (recQ_parts h0 h1 hq T A hT hA).2.1⟩
 by_cases hlt : (T.size : Int) < (A.size : Int)
 ·rw [if_pos hlt]
  have hj : spec_l26Read.j0 (k + 1) line n A T true = some ((⟨#[]⟩ : ByteArray), (⟨#[]⟩ : ByteArray), false) := by rw [spec_l26Read.j0, if_pos rfl]
  rw [hj]
  refine ⟨_, _, false, rfl, (fun h => by cases h), fun _ => ?_⟩
  cases hq : recQ line n with
  | none => rfl
  | some x =>
   have := (hno x.1 x.2 hq).1
   omega
 ·rw [if_neg hlt, if_pos (by omega), if_pos (by omega)]
  simp only [Int.toNat_natCast]
  by_cases hne : (T.extract 0 A.size).toList = A.toList
  ·have hb : ((T.extract 0 A.size).toList != A.toList) = false := bne_eq_false_iff_eq.2 hne
   rw [hb, specTail line T A n hs (by omega) (by omega) h0 h1 k (by omega)]
   have ht := tailB_read h0 h1 T A hT hA
   generalize tailB line n (T.extract A.size T.size) = X at *
   exact ⟨X.1, X.2.1, X.2.2, rfl, ht⟩
  ·have hb : ((T.extract 0 A.size).toList != A.toList) = true := bne_iff_ne.2 hne
   rw [hb]
   have hj : spec_l26Read.j0 (k + 1) line n A T true = some ((⟨#[]⟩ : ByteArray), (⟨#[]⟩ : ByteArray), false) := by rw [spec_l26Read.j0, if_pos rfl]
   rw [hj]
   refine ⟨_, _, false, rfl, (fun h => by cases h), fun _ => ?_⟩
   cases hq : recQ line n with
   | none => rfl
   | some x =>
    have h3 := (hno x.1 x.2 hq).2
    rw [h3] at hne
    exact absurd rfl hne
end Go.Proofs.YtinbbjfnebhlkaaDoor.P
