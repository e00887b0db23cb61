/- The fields and the words of an entry, as the program and the reference tell them. -/
import Derived.Lib.Join
import Derived.Test.YtmafmhgmdegplaaGreatDoorZPx0
import Derived.Test.YtmafmhgmdegplaaGreatDoorZPx11
import Derived.Test.YtmafmhgmdegplaaGreatDoorZPx13
import Derived.Test.YtmafmhgmdegplaaGreatDoorZPx14
import Derived.Test.YtmafmhgmdegplaaGreatDoorZPx16
import Derived.Test.YtmafmhgmdegplaaGreatDoorZPx23
import Derived.Test.YtmafmhgmdegplaaGreatDoorZPx24
import Derived.Test.YtmafmhgmdegplaaGreatDoorZLBase
import Derived.Test.YtmafmhgmdegplaaGreatDoorZLEv
import Derived.Test.YtmafmhgmdegplaaGreatDoorZLNum
import Derived.Test.YtmafmhgmdegplaaGreatDoorZLQA
namespace Go.Proofs.YtmafmhgmdegplaaGreatDoor.P
open Go.RowKit Go.Proofs.YtmafmhgmdegplaaGreatDoorW.PrintWords Go.Proofs.YtmafmhgmdegplaaGreatDoorW.PrintLast Go.Proofs.YtmafmhgmdegplaaGreatDoorW.PrintMore
set_option linter.unusedVariables false
set_option linter.unusedSimpArgs false
def lowU (b : UInt8) : UInt8 := UInt8.ofNat (lowI (b.toNat : Int)).toNat
def keepU (b : UInt8) : Bool := keepB (b.toNat : Int)
def flt (L : List UInt8) : List UInt8 := (L.map lowU).filter keepU
def wds (L : List UInt8) : List (List UInt8) := (pcs L).filter (fun w => !w.isEmpty)
def wsB (s : ByteArray) : List ByteArray := (wds (flt s.data.toList)).map ofL
theorem filt_u8 : ∀ L : List UInt8, ((L.map fun b => (b.toNat : Int)).filter keepB).map (fun n => UInt8.ofNat n.toNat) = L.filter keepU
 | [] => rfl
 | b :: l => by
  rw [List.map_cons, List.filter_cons, List.filter_cons]
  have ih := filt_u8 l
  show List.map _ (if keepU b = true then _ else _) = _
  cases keepU b with
  | true => rw [if_pos rfl, if_pos rfl, List.map_cons, u8_back, ih]
  | false => rw [if_neg Bool.false_ne_true, if_neg Bool.false_ne_true, ih]
theorem pcs_no32 : ∀ (L w : List UInt8), w ∈ pcs L → ∀ b ∈ w, b ≠ 32
 | [], w, h => by
  intro b hb
  rw [pcs, List.mem_singleton] at h
  subst h
  exact absurd hb (List.not_mem_nil)
 | c :: l, w, h => by
  intro b hb
  have ih := pcs_no32 l
  rw [pcs] at h
  by_cases hc : c = 32
  ·rw [if_pos hc] at h
   rcases List.mem_cons.1 h with g | g
   ·subst g; exact absurd hb (List.not_mem_nil)
   ·exact ih w g b hb
  ·rw [if_neg hc] at h
   cases hp : pcs l with
   | nil => exact absurd hp (pcs_ne l)
   | cons x r =>
    rw [hp] at h ih
    rcases List.mem_cons.1 h with g | g
    ·subst g
     rcases List.mem_cons.1 hb with e | e
     ·exact e ▸ hc
     ·exact ih x List.mem_cons_self b e
    ·exact ih w (List.mem_cons_of_mem _ g) b hb
theorem pcs_tail : ∀ (r : List (List UInt8)) (x : List UInt8), (∀ b ∈ x, b ≠ 32) → (∀ w ∈ r, ∀ b ∈ w, b ≠ 32) → pcs (x ++ Lib.joinTail [32] r) = x :: r
 | [], x, hx, _ => by
  rw [show Lib.joinTail [32] [] = [] from rfl, List.append_nil]
  exact pcs_none x hx
 | y :: r, x, hx, hr => by
  have e : Lib.joinTail [32] (y :: r) = 32 :: (y ++ Lib.joinTail [32] r) := by simp [Lib.joinTail]
  rw [e, pcs_app x _ hx, pcs_tail r y (hr y List.mem_cons_self) (fun w hw => hr w (List.mem_cons_of_mem _ hw))]
theorem wds_join (W : List (List UInt8)) (h : ∀ w ∈ W, w ≠ [] ∧ ∀ b ∈ w, b ≠ 32) : wds (Lib.join W [32]) = W := by
 cases W with
 | nil => rfl
 | cons x r =>
  unfold wds
  rw [Lib.join_cons, pcs_tail r x (h x List.mem_cons_self).2 (fun w hw => (h w (List.mem_cons_of_mem _ hw)).2)]
  refine List.filter_eq_self.2 (fun w hw => ?_)
  have := (h w hw).1
  cases w with
  | nil => exact absurd rfl this
  | cons _ _ => rfl
theorem wds_ok (L : List UInt8) : ∀ w ∈ wds L, w ≠ [] ∧ ∀ b ∈ w, b ≠ 32 := by
 intro w hw
 unfold wds at hw
 have h := List.mem_filter.1 hw
 refine ⟨fun e => ?_, pcs_no32 L w h.1⟩
 subst e
 exact absurd h.2 (by decide)
theorem wds_len : ∀ L : List UInt8, (pcs L).length ≤ L.length + 1 ∧ Lib.lens (pcs L) ≤ L.length
 | [] => ⟨Nat.le_refl _, Nat.le_refl _⟩
 | c :: l => by
  have ih := wds_len l
  rw [pcs]
  by_cases hc : c = 32
  ·rw [if_pos hc]
   simp [Lib.lens] at ih ⊢
   omega
  ·rw [if_neg hc]
   cases hp : pcs l with
   | nil => exact absurd hp (pcs_ne l)
   | cons x r =>
    rw [hp] at ih
    simp [Lib.lens] at ih ⊢
    omega
theorem filt_map {α β : Type} (f : α → β) (p : β → Bool) (q : α → Bool) (h : ∀ a, p (f a) = q a) : ∀ l : List α, (l.map f).filter p = (l.filter q).map f
 | [] => rfl
 | a :: l => by
  rw [List.map_cons, List.filter_cons, List.filter_cons, h a, filt_map f p q h l]
  cases q a with
  | true => rfl
  | false => rfl
theorem i_wordsOf (s : ByteArray) (hs : s.size ≤ 1073741824) : FbT.f s = some ((wds s.data.toList).map ofL) := by
 unfold FbT.f
 rw [i_split s hs, Option.bind_some]
 unfold Fbj.f
 rw [Option.bind_some]
 refine congrArg some ?_
 unfold spl wds
 refine filt_map ofL _ _ (fun a => ?_) _
 show (!((some ((ofL a).toList == ([] : List UInt8))).getD false)) = !a.isEmpty
 rw [Option.getD_some, Go.ByteArray.toList_eq, toL_ofL]
 cases a <;> rfl
theorem flt_len (L : List UInt8) : (flt L).length ≤ L.length := by
 unfold flt
 exact Nat.le_trans (List.length_filter_le _ _) (by rw [List.length_map]; exact Nat.le_refl _)
theorem lens_filter (p : List UInt8 → Bool) : ∀ W : List (List UInt8), Lib.lens (W.filter p) ≤ Lib.lens W ∧ (W.filter p).length ≤ W.length
 | [] => ⟨Nat.le_refl _, Nat.le_refl _⟩
 | w :: r => by
  have ih := lens_filter p r
  rw [List.filter_cons]
  cases p w with
  | true => simp [Lib.lens] at ih ⊢; omega
  | false => simp [Lib.lens] at ih ⊢; omega
theorem lens_wds (L : List UInt8) : (wds L).length ≤ L.length + 1 ∧ Lib.lens (wds L) ≤ L.length := by
 have h1 := wds_len L
 have h2 := lens_filter (fun w => !w.isEmpty) (pcs L)
 unfold wds
 exact ⟨by omega, by omega⟩
theorem join_len (W : List (List UInt8)) : (Lib.join W [32]).length ≤ W.length + Lib.lens W := by
 cases W with
 | nil => exact Nat.zero_le _
 | cons x r =>
  rw [Lib.join_length]
  simp
theorem toL_map_ofL (W : List (List UInt8)) : (W.map ofL).map (fun x => x.data.toList) = W := by
 rw [List.map_map]
 conv => rhs; rw [← List.map_id W]
 exact List.map_congr_left fun x _ => rfl
def plB (s : ByteArray) : ByteArray := ofL (Lib.join (wds (flt s.data.toList)) [32])
theorem i_plain (s : ByteArray) (hs : s.size ≤ 1000000000) : FbR.f s = some (plB s) := by
 have hl : Fb8.f s = some (strOfNums ((bytesOf s).map lowI)) := by
  unfold Fb8.f
  rw [if_pos (by omega)]
 have ht : (strOfNums ((bytesOf s).map lowI)).data.toList = s.data.toList.map lowU := by
  rw [nums_toL]
  unfold bytesOf
  rw [List.map_map, List.map_map]
  exact List.map_congr_left fun b _ => rfl
 have hz : (strOfNums ((bytesOf s).map lowI)).size = s.size := by
  rw [size_data, ht, List.length_map, ← size_data]
 have hf : strOfNums ((bytesOf (strOfNums ((bytesOf s).map lowI))).filter keepB) = ofL (flt s.data.toList) := by
  refine bytes_eq ?_
  rw [nums_toL, toL_ofL]
  unfold flt
  rw [← ht]
  exact filt_u8 _
 have hn := flt_len s.data.toList
 rw [← size_data] at hn
 unfold FbR.f
 rw [hl, Option.bind_some, if_pos (by rw [hz]; omega), hf, i_wordsOf _ (by rw [ofL_size]; omega), Option.bind_some, toL_ofL]
 have h1 := lens_wds (flt s.data.toList)
 have h2 := join_len (wds (flt s.data.toList))
 unfold Fbs.f
 rw [toL_map_ofL, if_pos ⟨by rw [List.length_map]; omega, by
  show (Lib.join (wds (flt s.data.toList)) [32]).length ≤ _
  omega⟩]
 rfl
theorem i_words (s : ByteArray) (hs : s.size ≤ 400000000) : (FbR.f s).bind FbT.f = some (wsB s) := by
 rw [i_plain s (by omega), Option.bind_some]
 have h1 := lens_wds (flt s.data.toList)
 have h2 := join_len (wds (flt s.data.toList))
 have hn := flt_len s.data.toList
 rw [← size_data] at hn
 rw [i_wordsOf _ (by unfold plB; rw [ofL_size]; omega)]
 unfold plB wsB
 rw [toL_ofL, wds_join _ (wds_ok _)]
theorem s_letter (c : Int) : Fb1.f c = some (leB c) := by
 unfold Fb1.f leB upB loB
 by_cases h1 : 65 ≤ c <;> by_cases h2 : c ≤ 90 <;> by_cases h3 : 97 ≤ c <;> by_cases h4 : c ≤ 122 <;> simp [h1, h2, h3, h4] <;> omega
theorem s_lower (c : Int) (h0 : 0 ≤ c) (h1 : c ≤ 255) : FbI.f c = some (lowI c) := by
 unfold FbI.f lowI
 by_cases h1 : 65 ≤ c
 ·by_cases h2 : c ≤ 90
  ·rw [if_pos h1, if_pos h2, if_pos ⟨h1, h2⟩]
   refine congrArg some (by omega)
  ·rw [if_pos h1, if_neg h2, if_neg (fun g => h2 g.2)]
 ·rw [if_neg h1, if_neg (fun g => h1 g.1)]
theorem lowU_int (b : UInt8) : ((lowU b).toNat : Int) = lowI (b.toNat : Int) := by
 have hb : b.toNat < 256 := b.toNat_lt
 have h : lowI (b.toNat : Int) = if 65 ≤ b.toNat ∧ b.toNat ≤ 90 then (b.toNat : Int) + 32 else (b.toNat : Int) := by
  unfold lowI
  by_cases h : 65 ≤ b.toNat ∧ b.toNat ≤ 90
  ·rw [if_pos h, if_pos ⟨by omega, by omega⟩]
  ·rw [if_neg h, if_neg (by omega)]
 unfold lowU
 rw [UInt8.toNat_ofNat']
 split at h <;> omega
theorem keep_tell (b : UInt8) : keepU (lowU b) = (leB (b.toNat : Int) || (diB (b.toNat : Int) || decide (b = 32))) := by
 have h32 : (b = 32) ↔ (b.toNat : Int) = 32 := by
  constructor
  ·intro h; subst h; rfl
  ·intro h; exact UInt8.toNat_inj.1 (by have : (32 : UInt8).toNat = 32 := rfl; omega)
 unfold keepU keepB leB upB loB diB
 rw [lowU_int]
 unfold lowI
 have hb : b.toNat < 256 := b.toNat_lt
 generalize hc : (b.toNat : Int) = c at *
 by_cases h : 65 ≤ c ∧ c ≤ 90
 ·rw [if_pos h, Bool.eq_iff_iff]
  simp [h32]
  omega
 ·rw [if_neg h, Bool.eq_iff_iff]
  simp [h32]
  omega
theorem flt_cons (b : UInt8) (l : List UInt8) : flt (b :: l) = if keepU (lowU b) = true then lowU b :: flt l else flt l := by
 unfold flt
 rw [List.map_cons, List.filter_cons]
theorem lowU_nsp (b : UInt8) (h : b ≠ 32) : lowU b ≠ 32 := by
 intro e
 have h1 := lowU_int b
 rw [e] at h1
 have hb : b.toNat < 256 := b.toNat_lt
 have h2 : lowI (b.toNat : Int) = if 65 ≤ b.toNat ∧ b.toNat ≤ 90 then (b.toNat : Int) + 32 else (b.toNat : Int) := by
  unfold lowI
  by_cases h : 65 ≤ b.toNat ∧ b.toNat ≤ 90
  ·rw [if_pos h, if_pos ⟨by omega, by omega⟩]
  ·rw [if_neg h, if_neg (by omega)]
 have h3 : ((32 : UInt8).toNat : Int) = 32 := rfl
 have h4 : b.toNat ≠ 32 := fun g => h (UInt8.toNat_inj.1 g)
 split at h2 <;> omega
theorem wds_flush (c l : List UInt8) (h : ∀ b ∈ c, b ≠ 32) : wds (c ++ 32 :: l) = (if c = [] then [] else [c]) ++ wds l := by
 unfold wds
 rw [pcs_app c l h, List.filter_cons]
 cases c with
 | nil => rfl
 | cons x r => rfl
theorem wds_last (c : List UInt8) (h : ∀ b ∈ c, b ≠ 32) : wds c = if c = [] then [] else [c] := by
 unfold wds
 rw [pcs_none c h]
 cases c with
 | nil => rfl
 | cons x r => rfl
theorem simple_l0 (s : ByteArray) (hs : s.size ≤ 1073741824) (d : Nat) : ∀ (out : List ByteArray) (cur : List Int) (i : Nat), i + d = s.size → out.length ≤ i → cur.length ≤ i → (∀ b ∈ cur.map (fun n => UInt8.ofNat n.toNat), b ≠ 32) →
  Ev (fun k => Fal.l0 k s out cur (i : Int)) (out ++ (wds (cur.map (fun n => UInt8.ofNat n.toNat) ++ flt (s.data.toList.drop i))).map ofL) := by
 have flush : ∀ (out : List ByteArray) (cur : List Int) (i : Nat) (R : List ByteArray), i ≤ s.size → out.length ≤ i →
   (∀ o : List ByteArray, o.length ≤ i + 1 → Ev (fun k => Fal.l0 k s o [] ((i + 1 : Nat) : Int)) (o ++ R)) →
   Ev (fun k => Fal.j1 k s out cur (i : Int) true) (out ++ ((if cur.map (fun n => UInt8.ofNat n.toNat) = [] then [] else [cur.map (fun n => UInt8.ofNat n.toNat)]).map ofL ++ R)) := by
  intro out cur i R hi ho hn
  have hw : wrap64 ((i : Int) + 1) = ((i + 1 : Nat) : Int) := by rw [w64 (by omega) (by omega)]; omega
  refine Ev.st (fun k => by rw [Fal.j1]) ?_
  refine Ev.tt rfl ?_
  cases cur with
  | nil =>
   refine Ev.neg (by simp) ?_
   rw [hw]
   exact Ev.eq (hn out (by omega)) rfl
  | cons c r =>
   refine Ev.pos (by simp) ?_
   refine vP ?_
   rw [hw]
   refine Ev.eq (hn (out ++ [strOfNums (c :: r)]) (by rw [List.length_append, List.length_singleton]; omega)) ?_
   rw [List.append_assoc]
   rfl
 induction d with
 | zero =>
  intro out cur i hi ho hc hn
  obtain rfl : i = s.size := by omega
  rw [drop_end s _ (Nat.le_refl _), show flt [] = [] from rfl, List.append_nil, wds_last _ hn]
  refine Ev.st (fun k => by rw [Fal.l0]) ?_
  refine vP ?_
  refine Ev.pos rfl ?_
  refine Ev.eq (flush out cur s.size [] (by omega) ho (fun o _ => ?_)) (by rw [List.append_nil])
  refine Ev.st (fun k => by rw [Fal.l0]) ?_
  exact vN (Ev.val (List.append_nil o).symm)
 | succ d ih =>
  intro out cur i hi ho hc hn
  obtain ⟨b, h1, h2⟩ := drop_bt s i (by omega)
  have hb : b.toNat < 256 := b.toNat_lt
  have hw : wrap64 ((i : Int) + 1) = ((i + 1 : Nat) : Int) := by rw [w64 (by omega) (by omega)]; omega
  rw [h1, flt_cons]
  refine Ev.st (fun k => by rw [Fal.l0]) ?_
  refine vP ?_
  refine vN ?_
  refine vP ?_
  refine vP ?_
  rw [h2]
  by_cases h32 : b = 32
  ·subst h32
   rw [if_pos (by decide), show lowU 32 = 32 from by decide, wds_flush _ _ hn, List.map_append]
   exact flush out cur i _ (by omega) ho (fun o hl => Ev.eq (ih o [] (i + 1) (by omega) hl (by simp) (by simp)) (by simp))
  ·have hne : ((b.toNat : Int) == 32) = false := beq_eq_false_iff_ne.2 (fun e => h32 (UInt8.toNat_inj.1 (by have : (32 : UInt8).toNat = 32 := rfl; omega)))
   rw [hne, keep_tell, decide_eq_false h32, Bool.or_false]
   have add : Ev (fun k => Fal.l0 k s out (cur ++ [lowI (b.toNat : Int)]) ((i + 1 : Nat) : Int)) (out ++ (wds (cur.map (fun n => UInt8.ofNat n.toNat) ++ lowU b :: flt (s.data.toList.drop (i + 1)))).map ofL) := by
    refine Ev.eq (ih out (cur ++ [lowI (b.toNat : Int)]) (i + 1) (by omega) (by omega) (by rw [List.length_append, List.length_singleton]; omega) ?_) ?_
    ·intro x hx
     rw [List.map_append] at hx
     rcases List.mem_append.1 hx with g | g
     ·exact hn x g
     ·rw [List.map_singleton, List.mem_singleton] at g
      subst g
      exact lowU_nsp b h32
    ·rw [List.map_append, List.append_assoc]
     rfl
   refine Ev.st (fun k => by rw [Fal.j1]) ?_
   refine Ev.ff rfl ?_
   refine vP ?_
   refine vP ?_
   rw [h2]
   refine Ev.b0 (s_letter _) ?_
   cases leB (b.toNat : Int) with
   | true =>
    refine Ev.tt rfl ?_
    refine Ev.b0 (s_lower _ (by omega) (by omega)) ?_
    refine vP ?_
    rw [hw, Bool.true_or, if_pos rfl]
    exact add
   | false =>
    refine Ev.ff rfl ?_
    refine Ev.b0 (s_di _) ?_
    rw [Bool.false_or]
    cases diB (b.toNat : Int) with
    | true =>
     refine Ev.tt rfl ?_
     refine Ev.b0 (s_lower _ (by omega) (by omega)) ?_
     refine vP ?_
     rw [hw, if_pos rfl]
     exact add
    | false =>
     refine Ev.ff rfl ?_
     rw [hw, if_neg Bool.false_ne_true]
     exact ih out cur (i + 1) (by omega) (by omega) (by omega) hn
theorem s_simple (s : ByteArray) (hs : s.size ≤ 1073741824) : Ev (fun k => Fal.f k s) (wsB s) := by
 unfold Fal.f wsB
 exact Ev.eq (simple_l0 s hs s.size [] [] 0 (by omega) (by simp) (by simp) (by simp)) (by simp)
theorem empty_iff (s : ByteArray) : s.toList = ([] : List UInt8) ↔ s.data.toList = [] := by rw [Go.ByteArray.toList_eq]
theorem em0 : (⟨#[]⟩ : ByteArray).toList = ([] : List UInt8) := (empty_iff _).2 rfl
theorem lens_map (g : List ByteArray) (h : ∀ x ∈ g, x.size ≤ 1048576) : Lib.lens (g.map (·.data.toList)) ≤ g.length * 1048576 := by
 induction g with
 | nil => exact Nat.le_refl _
 | cons x r ih =>
  have h1 := ih (fun y hy => h y (List.mem_cons_of_mem _ hy))
  have h2 := h x List.mem_cons_self
  have h3 := size_data x
  simp [Lib.lens] at h1 ⊢
  omega
theorem join_le (W : List (List UInt8)) (sep : List UInt8) : (Lib.join W sep).length ≤ sep.length * W.length + Lib.lens W := by
 cases W with
 | nil => exact Nat.zero_le _
 | cons x r =>
  rw [Lib.join_length, List.length_cons]
  exact Nat.add_le_add_right (Nat.mul_le_mul_left _ (Nat.le_succ _)) _
def jnL (g : List ByteArray) : List UInt8 := Lib.join (g.map (·.data.toList)) [32]
theorem jnL_len (g : List ByteArray) (h3 : g.length ≤ 3) (h : ∀ x ∈ g, x.size ≤ 1048576) : (jnL g).length ≤ 3145731 := by
 have h1 := join_le (g.map (·.data.toList)) [32]
 have h2 := lens_map g h
 rw [List.length_map, List.length_singleton] at h1
 unfold jnL
 omega
theorem s_join_tail (g : List ByteArray) (h3 : g.length ≤ 3) (hz : ∀ x ∈ g, x.size ≤ 1048576) (hne : ∀ x ∈ g, x.toList ≠ ([] : List UInt8)) (d : Nat) : ∀ (acc : ByteArray) (i : Nat), i + d = g.length → acc.toList ≠ ([] : List UInt8) → acc.size ≤ i * 2097152 →
  Ev (fun k => FaI.l0 k g acc (i : Int)) (ofL (acc.data.toList ++ Lib.joinTail [32] ((g.drop i).map (·.data.toList)))) := by
 induction d with
 | zero =>
  intro acc i hi ha _
  obtain rfl : i = g.length := by omega
  rw [List.drop_of_length_le (Nat.le_refl _)]
  refine Ev.st (fun k => by rw [FaI.l0]) ?_
  refine vN (Ev.val ?_)
  exact bytes_eq (by rw [toL_ofL]; exact (List.append_nil _).symm)
 | succ d ih =>
  intro acc i hi ha hs
  have hm := rd_mem g i (by omega)
  have hw := hne _ hm
  have hwz := hz _ hm
  have e1 : (⟨#[32]⟩ : ByteArray) = ofL [32] := rfl
  have e2 : (acc ++ (⟨#[32]⟩ : ByteArray)).size = acc.size + 1 := ByteArray.size_append
  refine Ev.st (fun k => by rw [FaI.l0]) ?_
  refine vP ?_
  refine Ev.neg ha ?_
  refine vP ?_
  refine Ev.neg hw ?_
  refine vP ?_
  refine Ev.pos (by rw [e2]; omega) ?_
  rw [nsucc (n := g.length) (by omega) (by omega)]
  refine Ev.eq (ih ((acc ++ (⟨#[32]⟩ : ByteArray)) ++ rdOf ByteArray.empty g (i : Int)) (i + 1) (by omega) ?_ ?_) ?_
  ·intro e
   rw [empty_iff, toL_append] at e
   exact hw ((empty_iff _).2 (List.append_eq_nil_iff.1 e).2)
  ·rw [ByteArray.size_append, e2]
   omega
  ·rw [rdOf_drop g i (by omega), toL_append, toL_append]
   refine congrArg ofL ?_
   simp [Lib.joinTail]
theorem s_join (g : List ByteArray) (h3 : g.length ≤ 3) (hz : ∀ x ∈ g, x.size ≤ 1048576) (hne : ∀ x ∈ g, x.toList ≠ ([] : List UInt8)) : Ev (fun k => FaI.f k g) (ofL (jnL g)) := by
 unfold FaI.f
 refine Ev.st (fun k => by rw [FaI.l0]) ?_
 cases g with
 | nil => exact Ev.neg (by decide) (Ev.now _)
 | cons x r =>
  have hx := hz x List.mem_cons_self
  have hxn := hne x List.mem_cons_self
  have e0 : rdOf ByteArray.empty (x :: r) 0 = x := rfl
  have e1 : (⟨#[]⟩ : ByteArray) ++ x = x := bytes_eq (by rw [toL_append]; rfl)
  refine Ev.pos (by rw [List.length_cons]; omega) ?_
  refine Ev.pos em0 ?_
  refine vP ?_
  rw [e0, e1, show wrap64 (0 + 1) = 1 from w64 (by omega) (by omega)]
  refine Ev.pos (by show 0 + x.size ≤ _; omega) ?_
  refine Ev.eq (s_join_tail (x :: r) h3 hz hne r.length x 1 (by rw [List.length_cons]; omega) hxn (by omega)) ?_
  unfold jnL
  rw [List.map_cons, Lib.join_cons]
  rfl
def spL (p f : ByteArray) : List UInt8 := if p.toList = ([] : List UInt8) then f.data.toList else p.data.toList ++ 32 :: f.data.toList
theorem s_spaced (p f : ByteArray) (hp : p.size ≤ 1048576) (hf : f.size ≤ 1048576) (hn : f.toList ≠ ([] : List UInt8)) : Ev (fun k => FaI.f k [p, f]) (ofL (spL p f)) := by
 unfold spL
 by_cases he : p.toList = ([] : List UInt8)
 ·rw [if_pos he]
  have e0 : rdOf ByteArray.empty [p, f] 0 = p := rfl
  have e1 : rdOf ByteArray.empty [p, f] 1 = f := rfl
  have ep : (⟨#[]⟩ : ByteArray) ++ p = (⟨#[]⟩ : ByteArray) := bytes_eq (by rw [toL_append, (empty_iff p).1 he]; rfl)
  have ef : (⟨#[]⟩ : ByteArray) ++ f = f := bytes_eq (by rw [toL_append]; rfl)
  unfold FaI.f
  refine Ev.st (fun k => by rw [FaI.l0]) ?_
  refine Ev.pos (by show (0 : Int) < ((2 : Nat) : Int); decide) ?_
  refine Ev.pos em0 ?_
  refine vP ?_
  rw [e0, ep]
  refine Ev.pos (by show 0 + p.size ≤ _; omega) ?_
  rw [show wrap64 (0 + 1) = 1 from w64 (by omega) (by omega)]
  refine Ev.st (fun k => by rw [FaI.l0]) ?_
  refine Ev.pos (by show (1 : Int) < ((2 : Nat) : Int); decide) ?_
  refine Ev.pos em0 ?_
  refine vP ?_
  rw [e1, ef]
  refine Ev.pos (by show 0 + f.size ≤ _; omega) ?_
  rw [show wrap64 (1 + 1) = 2 from w64 (by omega) (by omega)]
  refine Ev.st (fun k => by rw [FaI.l0]) ?_
  exact Ev.neg (by show ¬ (2 : Int) < ((2 : Nat) : Int); decide) (Ev.now _)
 ·rw [if_neg he]
  refine Ev.eq (s_join [p, f] (by show 2 ≤ 3; decide) ?_ ?_) ?_
  ·intro x hx
   rcases List.mem_cons.1 hx with e | e
   ·rw [e]; exact hp
   ·rw [List.mem_singleton.1 e]; exact hf
  ·intro x hx
   rcases List.mem_cons.1 hx with e | e
   ·rw [e]; exact he
   ·rw [List.mem_singleton.1 e]; exact hn
  ·unfold jnL
   rw [List.map_cons, Lib.join_cons]
   simp [Lib.joinTail]
theorem join_f (g : List ByteArray) (sep : ByteArray) (hl : g.length ≤ 1000000) (hz : (Lib.join (g.map (·.data.toList)) sep.data.toList).length ≤ 1000000000) : Fbs.f g sep = some (ofL (Lib.join (g.map (·.data.toList)) sep.data.toList)) := by
 unfold Fbs.f
 rw [if_pos ⟨by omega, by omega⟩]
 rfl
theorem i_spaced (p f : ByteArray) (hp : p.size ≤ 1048576) (hf : f.size ≤ 1048576) (hn : f.toList ≠ ([] : List UInt8)) : Fb0.f [p, f] = some (ofL (spL p f)) := by
 have hf' : (f.toList == ([] : List UInt8)) = false := beq_eq_false_iff_ne.2 hn
 have zp := size_data p
 have zf := size_data f
 unfold Fb0.f spL
 unfold Fbk.f
 rw [Option.bind_some, List.filter_cons, List.filter_cons, List.filter_nil]
 unfold FbP.f
 rw [Option.getD_some, Option.getD_some, hf']
 by_cases he : p.toList = ([] : List UInt8)
 ·rw [if_pos he, beq_iff_eq.2 he]
  simp only [Bool.not_false, Bool.not_true, Bool.false_eq_true, if_true, if_false]
  rw [join_f _ _ (by show 1 ≤ 1000000; decide) (by simp [Lib.join_one]; omega)]
  simp [Lib.join_one]
 ·rw [if_neg he, beq_eq_false_iff_ne.2 he]
  simp only [Bool.not_false, if_true]
  rw [join_f _ _ (by show 2 ≤ 1000000; decide) (by
   have := join_le [p.data.toList, f.data.toList] [32]
   simp [Lib.lens] at this
   simp
   omega)]
  rw [List.map_cons, Lib.join_cons]
  simp [Lib.joinTail]
def tlL (s : ByteArray) : List UInt8 := if s.toList = ([] : List UInt8) then [] else 44 :: 32 :: s.data.toList
theorem tlL_no {s : ByteArray} (h : s.toList = ([] : List UInt8)) : tlL s = [] := if_pos h
theorem tlL_yes {s : ByteArray} (h : ¬ s.toList = ([] : List UInt8)) : tlL s = 44 :: 32 :: s.data.toList := if_neg h
def invL (g : List ByteArray) (p f s : ByteArray) : List UInt8 := spL p f ++ (if g.length = 0 ∧ s.toList = ([] : List UInt8) then [] else 44 :: 32 :: (jnL g ++ tlL s))
theorem invL_on {g : List ByteArray} {p f s : ByteArray} (h : ¬ (g.length = 0 ∧ s.toList = ([] : List UInt8))) : invL g p f s = spL p f ++ 44 :: 32 :: (jnL g ++ tlL s) := by
 unfold invL
 rw [if_neg h]
theorem spL_len (p f : ByteArray) (hp : p.size ≤ 1048576) (hf : f.size ≤ 1048576) : (spL p f).length ≤ 2097153 := by
 rw [size_data] at hp hf
 unfold spL
 split
 ·omega
 ·rw [List.length_append, List.length_cons]
  omega
theorem invL_len (g : List ByteArray) (p f s : ByteArray) (h : szN g p f s) (h3 : g.length ≤ 3) : (invL g p f s).length ≤ 8388000 := by
 have h1 := spL_len p f h.2.2.1 h.2.2.2.1
 have h2 := jnL_len g h3 h.2.1
 have h4 := h.2.2.2.2
 rw [size_data] at h4
 unfold invL
 rw [List.length_append]
 split
 ·rw [List.length_nil]; omega
 ·rw [List.length_cons, List.length_cons, List.length_append]
  unfold tlL
  split
  ·rw [List.length_nil]; omega
  ·rw [List.length_cons, List.length_cons]; omega
theorem gw_ne {w : ByteArray} (h : gwB w = true) : w.toList ≠ ([] : List UInt8) := by
 unfold gwB at h
 have h1 := nw_pos (Bool.and_eq_true_iff.1 h).1
 intro e
 rw [empty_iff] at e
 rw [size_data, e] at h1
 exact absurd h1 (by decide)
theorem nm_facts {g : List ByteArray} {p f s : ByteArray} (h : nmB g p f s = true) : g.length ≤ 3 ∧ (∀ x ∈ g, x.toList ≠ ([] : List UInt8)) ∧ f.toList ≠ ([] : List UInt8) := by
 unfold nmB at h
 rw [Bool.and_eq_true_iff, Bool.and_eq_true_iff, Bool.and_eq_true_iff, Bool.and_eq_true_iff] at h
 have h1 := of_decide_eq_true h.1
 exact ⟨by omega, fun x hx => gw_ne (List.all_eq_true.1 h.2.1 x hx), gw_ne h.2.2.2.1⟩
theorem cs_toL : (⟨#[44, 32]⟩ : ByteArray).data.toList = [44, 32] := rfl
theorem i_inv0 (B : List UInt8) (g : List ByteArray) (p f s : ByteArray) (hB : B.length ≤ 2097153) (h : szN g p f s) (h3 : g.length ≤ 3) :
  Ev (fun k => FaB.j0 k (ofL B) true g p f s) (ofL (B ++ 44 :: 32 :: (jnL g ++ tlL s))) := by
 have h2 := jnL_len g h3 h.2.1
 have h4 := h.2.2.2.2
 have hz : (ofL (jnL g)).size = (jnL g).length := rfl
 have hBz : (ofL B).size = B.length := rfl
 refine Ev.st (fun k => by rw [FaB.j0]) ?_
 refine Ev.tt rfl ?_
 refine Ev.b0 (join_f g _ (by omega) (by show (jnL g).length ≤ _; omega)) ?_
 show Ev (fun n => if 2 + (ofL (jnL g)).size ≤ 9223372036854775807 then _ else _) _
 refine vP ?_
 have s1 : ((⟨#[44, 32]⟩ : ByteArray) ++ ofL (jnL g)).size = 2 + (jnL g).length := by rw [ByteArray.size_append]; rfl
 refine Ev.pos (by show (ofL B).size + ((⟨#[44, 32]⟩ : ByteArray) ++ ofL (jnL g)).size ≤ _; omega) ?_
 by_cases he : s.toList = ([] : List UInt8)
 ·rw [tlL_no he]
  refine Ev.pos he (Ev.val (bytes_eq ?_))
  rw [toL_ofL, toL_cat, toL_cat, List.append_nil]
  rfl
 ·rw [tlL_yes he]
  refine Ev.neg he ?_
  refine vP ?_
  refine Ev.pos ?_ (Ev.val (bytes_eq ?_))
  ·have s2 : ((⟨#[44, 32]⟩ : ByteArray) ++ s).size = 2 + s.size := by rw [ByteArray.size_append]; rfl
   have s3 : (ofL B ++ ((⟨#[44, 32]⟩ : ByteArray) ++ ofL (jnL g))).size = B.length + (2 + (jnL g).length) := by rw [ByteArray.size_append, s1]; rfl
   show (ofL B ++ ((⟨#[44, 32]⟩ : ByteArray) ++ ofL (jnL g))).size + ((⟨#[44, 32]⟩ : ByteArray) ++ s).size ≤ _
   omega
  ·rw [toL_ofL, toL_cat, toL_cat, toL_cat, toL_cat, cs_toL]
   show (B ++ ([44, 32] ++ jnL g)) ++ ([44, 32] ++ s.data.toList) = _
   simp
theorem i_inverse (g : List ByteArray) (p f s : ByteArray) (h : szN g p f s) (hv : nmB g p f s = true) : Ev (fun k => FaB.f k g p f s) (ofL (invL g p f s)) := by
 obtain ⟨h3, _, hf⟩ := nm_facts hv
 unfold FaB.f
 refine Ev.b0 (i_spaced p f h.2.2.1 h.2.2.2.1 hf) ?_
 have key := i_inv0 (spL p f) g p f s (spL_len p f h.2.2.1 h.2.2.2.1) h h3
 by_cases h0 : (g.length : Int) > 0
 ·refine Ev.pos h0 (Ev.eq key ?_)
  rw [invL_on (fun e => by omega)]
 ·refine Ev.neg h0 ?_
  by_cases he : s.toList = ([] : List UInt8)
  ·have : (s.toList != ([] : List UInt8)) = false := by rw [he]; rfl
   rw [this]
   refine Ev.st (fun k => by rw [FaB.j0]) ?_
   refine Ev.ff rfl ?_
   refine Ev.pos he (Ev.val ?_)
   unfold invL
   rw [if_pos ⟨by omega, he⟩, List.append_nil]
  ·have : (s.toList != ([] : List UInt8)) = true := bne_iff_ne.2 he
   rw [this]
   refine Ev.eq key ?_
   rw [invL_on (fun e => he e.2)]
theorem s_inv0 (B : List UInt8) (g : List ByteArray) (p f s : ByteArray) (hB : B.length ≤ 2097153) (h : szN g p f s) (h3 : g.length ≤ 3) (hne : ∀ x ∈ g, x.toList ≠ ([] : List UInt8)) :
  Ev (fun k => FaG.j0 k (ofL B) true g p f s) (ofL (B ++ 44 :: 32 :: (jnL g ++ tlL s))) := by
 have h2 := jnL_len g h3 h.2.1
 have h4 := h.2.2.2.2
 have hz : (ofL (jnL g)).size = (jnL g).length := rfl
 have hBz : (ofL B).size = B.length := rfl
 have s1 : (ofL B ++ (⟨#[44, 32]⟩ : ByteArray)).size = B.length + 2 := by rw [ByteArray.size_append]; rfl
 have s2 : ((ofL B ++ (⟨#[44, 32]⟩ : ByteArray)) ++ ofL (jnL g)).size = B.length + 2 + (jnL g).length := by rw [ByteArray.size_append, s1]; rfl
 have s3 : (((ofL B ++ (⟨#[44, 32]⟩ : ByteArray)) ++ ofL (jnL g)) ++ (⟨#[44, 32]⟩ : ByteArray)).size = B.length + 2 + (jnL g).length + 2 := by rw [ByteArray.size_append, s2]; rfl
 refine Ev.st (fun k => by rw [FaG.j0]) ?_
 refine Ev.tt rfl ?_
 refine vP ?_
 refine Ev.b1 (a := ofL (jnL g)) ?_ ?_
 ·unfold FbH.f
  exact Ev.b1 (s_join g h3 h.2.1 hne) (Ev.now _)
 refine Ev.pos (by rw [s1]; omega) ?_
 by_cases he : s.toList = ([] : List UInt8)
 ·rw [tlL_no he]
  refine Ev.pos he (Ev.val (bytes_eq ?_))
  rw [toL_ofL, toL_cat, toL_cat, List.append_nil, cs_toL]
  show (B ++ [44, 32]) ++ jnL g = _
  simp
 ·rw [tlL_yes he]
  refine Ev.neg he ?_
  refine Ev.pos (by rw [s2]; omega) ?_
  refine Ev.pos (by rw [s3]; omega) (Ev.val (bytes_eq ?_))
  rw [toL_ofL, toL_cat, toL_cat, toL_cat, toL_cat, cs_toL]
  show (((B ++ [44, 32]) ++ jnL g) ++ [44, 32]) ++ s.data.toList = _
  simp
theorem s_inverse (g : List ByteArray) (p f s : ByteArray) (h : szN g p f s) (hv : nmB g p f s = true) : Ev (fun k => FaG.f k g p f s) (ofL (invL g p f s)) := by
 obtain ⟨h3, hne, hf⟩ := nm_facts hv
 unfold FaG.f
 refine Ev.b1 (s_spaced p f h.2.2.1 h.2.2.2.1 hf) ?_
 have key := s_inv0 (spL p f) g p f s (spL_len p f h.2.2.1 h.2.2.2.1) h h3 hne
 by_cases h0 : (g.length : Int) > 0
 ·refine Ev.pos h0 (Ev.eq key ?_)
  rw [invL_on (fun e => by omega)]
 ·refine Ev.neg h0 ?_
  by_cases he : s.toList = ([] : List UInt8)
  ·have : (s.toList != ([] : List UInt8)) = false := by rw [he]; rfl
   rw [this]
   refine Ev.st (fun k => by rw [FaG.j0]) ?_
   refine Ev.ff rfl ?_
   refine Ev.pos he (Ev.val ?_)
   unfold invL
   rw [if_pos ⟨by omega, he⟩, List.append_nil]
  ·have : (s.toList != ([] : List UInt8)) = true := bne_iff_ne.2 he
   rw [this]
   refine Ev.eq key ?_
   rw [invL_on (fun e => he e.2)]
def nvL (x : S157) : List UInt8 := invL x.f0 x.f1 x.f2 x.f3
def nsL (l : List S157) : List UInt8 := Lib.join (l.map nvL) [59, 32]
theorem lens_nv (l : List S157) (h : szNs l) (hv : ∀ x ∈ l, nm1 x = true) : Lib.lens (l.map nvL) ≤ l.length * 8388000 := by
 have hz := h.2
 clear h
 induction l with
 | nil => exact Nat.le_refl _
 | cons x r ih =>
  have h1 := ih (fun y hy => hv y (List.mem_cons_of_mem _ hy)) (fun y hy => hz y (List.mem_cons_of_mem _ hy))
  have h2 := invL_len x.f0 x.f1 x.f2 x.f3 (hz x List.mem_cons_self) (nm_facts (hv x List.mem_cons_self)).1
  have h3 : (nvL x).length ≤ 8388000 := h2
  simp [Lib.lens] at h1 ⊢
  omega
theorem nl_facts {l : List S157} (h : nlB l = true) : l.length ≤ 4 ∧ ∀ x ∈ l, nm1 x = true := by
 unfold nlB at h
 have h1 := Bool.and_eq_true_iff.1 h
 have h2 := of_decide_eq_true h1.1
 exact ⟨by omega, List.all_eq_true.1 h1.2⟩
theorem nsL_len (l : List S157) (h : szNs l) (hv : nlB l = true) : (nsL l).length ≤ 33560000 := by
 obtain ⟨h4, hn⟩ := nl_facts hv
 have h1 := join_le (l.map nvL) [59, 32]
 have h2 := lens_nv l h hn
 rw [List.length_map] at h1
 have h3 : ([59, 32] : List UInt8).length = 2 := rfl
 rw [h3] at h1
 unfold nsL
 omega
theorem i_nm_l0 (l : List S157) (h : szNs l) (hv : nlB l = true) (d : Nat) : ∀ (acc : List ByteArray) (i : Nat), i + d = l.length → acc.length = i → acc.map (·.data.toList) = (l.take i).map nvL →
  Ev (fun k => FaH.l0 k acc l (l.length : Int) (i : Int)) (ofL (nsL l)) := by
 obtain ⟨h4, hn⟩ := nl_facts hv
 have hlen := nsL_len l h hv
 induction d with
 | zero =>
  intro acc i hi ha hm
  obtain rfl : i = l.length := by omega
  rw [List.take_of_length_le (Nat.le_refl _)] at hm
  have e : Lib.join (acc.map (·.data.toList)) (⟨#[59, 32]⟩ : ByteArray).data.toList = nsL l := by
   rw [hm]; rfl
  refine Ev.st (fun k => by rw [FaH.l0]) ?_
  refine vN ?_
  refine Ev.b0 (join_f acc _ (by omega) (by rw [e]; omega)) ?_
  exact Ev.val (congrArg ofL e)
 | succ d ih =>
  intro acc i hi ha hm
  have hx := rdN_mem l i (by omega)
  refine Ev.st (fun k => by rw [FaH.l0]) ?_
  refine vP ?_
  refine vP ?_
  refine vP ?_
  refine Ev.b1 (i_inverse _ _ _ _ (h.2 _ hx) (hn _ hx)) ?_
  refine vP ?_
  rw [nsucc (n := l.length) (by omega) (by omega)]
  refine ih _ (i + 1) (by omega) (by rw [List.length_append, List.length_singleton]; omega) ?_
  have e := rdN_drop l i (by omega)
  rw [List.map_append, hm, List.take_add_one, List.map_append]
  congr 1
  have e2 : l[i]? = some (Fas l i) := by
   have := congrArg List.head? e
   rw [List.head?_drop, List.head?_cons] at this
   exact this
  rw [e2]
  rfl
theorem i_nmtext (l : List S157) (h : szNs l) (hv : nlB l = true) : Ev (fun k => FaH.f k l) (ofL (nsL l)) := by
 unfold FaH.f
 exact i_nm_l0 l h hv l.length [] 0 (by omega) rfl rfl
theorem s_nm_tail (l : List S157) (h : szNs l) (hv : nlB l = true) (d : Nat) : ∀ (acc : ByteArray) (i : Nat), i + d = l.length → 0 < i → acc.size ≤ i * 8388010 →
  Ev (fun k => FaW.l0 k l acc (i : Int)) (ofL (acc.data.toList ++ Lib.joinTail [59, 32] ((l.drop i).map nvL))) := by
 obtain ⟨h4, hn⟩ := nl_facts hv
 induction d with
 | zero =>
  intro acc i hi _ _
  obtain rfl : i = l.length := by omega
  rw [List.drop_of_length_le (Nat.le_refl _)]
  refine Ev.st (fun k => by rw [FaW.l0]) ?_
  refine vN (Ev.val ?_)
  exact bytes_eq (by rw [toL_ofL]; exact (List.append_nil _).symm)
 | succ d ih =>
  intro acc i hi h0 hs
  have hx := rdN_mem l i (by omega)
  have hl : (nvL (Fas l i)).length ≤ 8388000 := invL_len _ _ _ _ (h.2 _ hx) (nm_facts (hn _ hx)).1
  have s1 : (acc ++ (⟨#[59, 32]⟩ : ByteArray)).size = acc.size + 2 := ByteArray.size_append
  have s2 : (ofL (nvL (Fas l i))).size = (nvL (Fas l i)).length := rfl
  refine Ev.st (fun k => by rw [FaW.l0]) ?_
  refine vP ?_
  refine vP ?_
  refine vP ?_
  refine vP ?_
  refine Ev.b1 (a := ofL (nvL (Fas l i))) (s_inverse _ _ _ _ (h.2 _ hx) (hn _ hx)) ?_
  refine Ev.pos (by rw [s1, s2]; omega) ?_
  rw [nsucc (n := l.length) (by omega) (by omega)]
  refine Ev.eq (ih _ (i + 1) (by omega) (by omega) (by rw [ByteArray.size_append, s1, s2]; omega)) ?_
  rw [rdN_drop l i (by omega), toL_append, toL_append]
  refine congrArg ofL ?_
  show ((acc.data.toList ++ [59, 32]) ++ nvL (Fas l i)) ++ _ = _
  simp [Lib.joinTail]
theorem s_nmtext (l : List S157) (h : szNs l) (hv : nlB l = true) : Ev (fun k => FaW.f k l) (ofL (nsL l)) := by
 obtain ⟨h4, hn⟩ := nl_facts hv
 unfold FaW.f
 refine Ev.st (fun k => by rw [FaW.l0]) ?_
 cases l with
 | nil => exact Ev.neg (by decide) (Ev.now _)
 | cons x r =>
  have hx : x ∈ x :: r := List.mem_cons_self
  have hl : (nvL x).length ≤ 8388000 := invL_len _ _ _ _ (h.2 _ hx) (nm_facts (hn _ hx)).1
  have e0 : Fas (x :: r) 0 = x := rfl
  have e1 : (⟨#[]⟩ : ByteArray) ++ ofL (nvL x) = ofL (nvL x) := bytes_eq (by rw [toL_append]; rfl)
  refine Ev.pos (by rw [List.length_cons]; omega) ?_
  refine vN ?_
  refine vP ?_
  rw [e0]
  refine Ev.b1 (a := ofL (nvL x)) (s_inverse _ _ _ _ (h.2 _ hx) (hn _ hx)) ?_
  rw [e1, show wrap64 (0 + 1) = ((1 : Nat) : Int) from w64 (by omega) (by omega)]
  refine Ev.pos (by show 0 + (nvL x).length ≤ _; omega) ?_
  refine Ev.eq (s_nm_tail (x :: r) h hv r.length (ofL (nvL x)) 1 (by rw [List.length_cons]; omega) (by omega) (by show (nvL x).length ≤ _; omega)) ?_
  unfold nsL
  rw [List.map_cons, Lib.join_cons]
  rfl
def padB : Nat → Int → ByteArray → ByteArray
 | 0, _, t => t
 | d + 1, w, t => if (t.size : Int) < w then padB d w ((⟨#[48]⟩ : ByteArray) ++ t) else t
theorem pad_gen (L : Nat → ByteArray → Option ByteArray) (w : Int) (hw : w ≤ 100) (hL : ∀ k t, L (k + 1) t = if (t.size : Int) < w then (if 1 + t.size ≤ 9223372036854775807 then L k ((⟨#[48]⟩ : ByteArray) ++ t) else none) else some t) :
  ∀ (d : Nat) (t : ByteArray), w ≤ t.size + d → Ev (fun k => L k t) (padB d w t) := by
 intro d
 induction d with
 | zero =>
  intro t h
  refine Ev.st (fun k => hL k t) ?_
  exact vN (Ev.now _)
 | succ d ih =>
  intro t h
  have s1 : ((⟨#[48]⟩ : ByteArray) ++ t).size = 1 + t.size := by rw [ByteArray.size_append]; rfl
  refine Ev.st (fun k => hL k t) ?_
  by_cases hl : (t.size : Int) < w
  ·refine Ev.pos hl ?_
   refine vP ?_
   refine Ev.eq (ih _ (by rw [s1]; omega)) ?_
   rw [padB, if_pos hl]
  ·refine Ev.neg hl (Ev.val ?_)
   rw [padB, if_neg hl]
theorem padB_size : ∀ (d : Nat) (w : Int) (t : ByteArray), (padB d w t).size ≤ t.size + d
 | 0, _, _ => Nat.le_refl _
 | d + 1, w, t => by
  rw [padB]
  split
  ·have h := padB_size d w ((⟨#[48]⟩ : ByteArray) ++ t)
   have s1 : ((⟨#[48]⟩ : ByteArray) ++ t).size = 1 + t.size := by rw [ByteArray.size_append]; rfl
   omega
  ·omega
def dgB (n w : Int) : ByteArray := padB 4 w (numB n)
theorem i_dg (n w : Int) (h0 : 0 ≤ n) (h1 : n ≤ 1000000) (hw : w ≤ 4) : Ev (fun k => Fa1.f k n w) (dgB n w) := by
 unfold Fa1.f
 refine Ev.b0 (implItoa n (by omega) (by omega)) ?_
 exact pad_gen (fun k t => Fa1.l0 k w t) w (by omega) (fun k t => by rw [Fa1.l0]) 4 _ (by omega)
theorem s_num (n : Int) (h0 : 0 ≤ n) (h1 : n ≤ 1000000) : Ev (fun k => FaS.f k n) (numB n) := ⟨21, fun k hk => specNum n (by omega) (by omega) k (by omega)⟩
theorem s_dg (n w : Int) (h0 : 0 ≤ n) (h1 : n ≤ 1000000) (hw : w ≤ 4) : Ev (fun k => Fa7.f k n w) (dgB n w) := by
 unfold Fa7.f
 refine Ev.b1 (s_num n h0 h1) ?_
 exact pad_gen (fun k t => Fa7.l0 k w t) w (by omega) (fun k t => by rw [Fa7.l0]) 4 _ (by omega)
theorem dg_size (n w : Int) (h0 : 0 ≤ n) (h1 : n ≤ 1000000) : (dgB n w).size ≤ 23 := by
 have h2 := numB_size n (by omega) (by omega)
 have h3 := padB_size 4 w (numB n)
 unfold dgB
 omega
def dpL (n : Int) : List UInt8 := if n > 0 then 45 :: (dgB n 2).data.toList else []
theorem dp_pos {n : Int} (h : n > 0) : dpL n = 45 :: (dgB n 2).data.toList := if_pos h
theorem dp_neg {n : Int} (h : ¬ n > 0) : dpL n = [] := if_neg h
def ciL (c : Bool) : List UInt8 := if c = true then [99] else []
def daL (y m d : Int) (c : Bool) : List UInt8 := ciL c ++ ((dgB y 4).data.toList ++ (dpL m ++ dpL d))
theorem dp_len (n : Int) (h0 : 0 ≤ n) (h1 : n ≤ 1000000) : (dpL n).length ≤ 24 := by
 have h := dg_size n 2 h0 h1
 rw [size_data] at h
 unfold dpL
 split
 ·rw [List.length_cons]; omega
 ·exact Nat.zero_le _
theorem ci_len (c : Bool) : (ciL c).length ≤ 1 := by cases c <;> decide
theorem daL_len (y m d : Int) (c : Bool) (hy : 0 ≤ y) (hy1 : y ≤ 1000000) (hm : 0 ≤ m) (hm1 : m ≤ 1000000) (hd : 0 ≤ d) (hd1 : d ≤ 1000000) : (daL y m d c).length ≤ 72 := by
 have h1 := dg_size y 4 hy hy1
 rw [size_data] at h1
 have h2 := dp_len m hm hm1
 have h3 := dp_len d hd hd1
 have h4 := ci_len c
 unfold daL
 rw [List.length_append, List.length_append, List.length_append]
 omega
theorem dash_toL (t : ByteArray) : ((⟨#[45]⟩ : ByteArray) ++ t).data.toList = 45 :: t.data.toList := by rw [toL_append]; rfl
theorem i_da (y m d : Int) (c : Bool) (hy : 0 < y) (hy1 : y ≤ 1000000) (hm : 0 ≤ m) (hm1 : m ≤ 1000000) (hd : 0 ≤ d) (hd1 : d ≤ 1000000) : Ev (fun k => FaQ.f k y m d c) (ofL (daL y m d c)) := by
 have zy := dg_size y 4 (by omega) hy1
 have zm := dg_size m 2 hm hm1
 have zd := dg_size d 2 hd hd1
 have sz : ∀ t : ByteArray, ((⟨#[45]⟩ : ByteArray) ++ t).size = 1 + t.size := fun t => by rw [ByteArray.size_append]; rfl
 have key : ∀ x3 : ByteArray, x3.size ≤ 1000 → Ev (fun k => FaQ.j0 k x3 y m d c) (ofL (x3.data.toList ++ (dpL m ++ dpL d))) := by
  intro x3 hx
  refine Ev.st (fun k => by rw [FaQ.j0]) ?_
  by_cases h1 : m > 0
  ·refine Ev.pos h1 ?_
   refine Ev.b1 (i_dg m 2 hm hm1 (by omega)) ?_
   refine vP ?_
   refine Ev.pos (by rw [sz]; omega) ?_
   by_cases h2 : d > 0
   ·refine Ev.pos h2 ?_
    refine Ev.b1 (i_dg d 2 hd hd1 (by omega)) ?_
    refine vP ?_
    refine Ev.pos (by rw [sz, ByteArray.size_append, sz]; omega) (Ev.val (bytes_eq ?_))
    rw [toL_ofL, toL_append, toL_append, dash_toL, dash_toL, dp_pos h1, dp_pos h2, List.append_assoc]
   ·refine Ev.neg h2 (Ev.val (bytes_eq ?_))
    rw [toL_ofL, toL_append, dash_toL, dp_pos h1, dp_neg h2, List.append_nil]
  ·refine Ev.neg h1 ?_
   by_cases h2 : d > 0
   ·refine Ev.pos h2 ?_
    refine Ev.b1 (i_dg d 2 hd hd1 (by omega)) ?_
    refine vP ?_
    refine Ev.pos (by rw [sz]; omega) (Ev.val (bytes_eq ?_))
    rw [toL_ofL, toL_append, dash_toL, dp_neg h1, dp_pos h2, List.nil_append]
   ·refine Ev.neg h2 (Ev.val (bytes_eq ?_))
    rw [toL_ofL, dp_neg h1, dp_neg h2, List.append_nil, List.append_nil]
 unfold FaQ.f
 refine vN ?_
 refine Ev.b1 (i_dg y 4 (by omega) hy1 (by omega)) ?_
 unfold daL
 cases c with
 | true =>
  refine Ev.tt rfl ?_
  refine vP ?_
  refine Ev.eq (key _ (by rw [ByteArray.size_append]; show 1 + _ ≤ _; omega)) ?_
  rw [toL_append]
  rfl
 | false => exact Ev.ff rfl (key _ (by omega))
theorem s_da (y m d : Int) (c : Bool) (hy : 0 < y) (hy1 : y ≤ 1000000) (hm : 0 ≤ m) (hm1 : m ≤ 1000000) (hd : 0 ≤ d) (hd1 : d ≤ 1000000) : Ev (fun k => Fbb.f k y m d c) (ofL (daL y m d c)) := by
 have zy := dg_size y 4 (by omega) hy1
 have zm := dg_size m 2 hm hm1
 have zd := dg_size d 2 hd hd1
 have sz : ∀ t : ByteArray, (t ++ (⟨#[45]⟩ : ByteArray)).size = t.size + 1 := fun t => ByteArray.size_append
 have last : ∀ x : ByteArray, x.size ≤ 2000 → Ev (fun _ => if c = true then (if 1 + x.size ≤ 9223372036854775807 then (some ((⟨#[99]⟩ : ByteArray) ++ x)) else (none)) else (some x)) (ofL (ciL c ++ x.data.toList)) := by
  intro x hx
  cases c with
  | true =>
   refine Ev.tt rfl (vP (Ev.val (bytes_eq ?_)))
   rw [toL_append]
   rfl
  | false => exact Ev.ff rfl (Ev.now _)
 have key : ∀ x3 : ByteArray, x3.size ≤ 1000 → Ev (fun k => Fbb.j0 k x3 y m d c) (ofL (ciL c ++ (x3.data.toList ++ dpL d))) := by
  intro x3 hx
  refine Ev.st (fun k => by rw [Fbb.j0]) ?_
  by_cases h2 : d > 0
  ·refine Ev.pos h2 ?_
   refine vP ?_
   refine Ev.b1 (s_dg d 2 hd hd1 (by omega)) ?_
   refine Ev.pos (by rw [sz]; omega) ?_
   refine Ev.eq (last _ (by rw [ByteArray.size_append, sz]; omega)) ?_
   rw [toL_append, toL_append, dp_pos h2, List.append_assoc]
   rfl
  ·refine Ev.neg h2 ?_
   refine Ev.eq (last _ (by omega)) ?_
   rw [dp_neg h2, List.append_nil]
 unfold Fbb.f
 refine vN ?_
 refine Ev.b1 (s_dg y 4 (by omega) hy1 (by omega)) ?_
 unfold daL
 by_cases h1 : m > 0
 ·refine Ev.pos h1 ?_
  refine vP ?_
  refine Ev.b1 (s_dg m 2 hm hm1 (by omega)) ?_
  refine Ev.pos (by rw [sz]; omega) ?_
  refine Ev.eq (key _ (by rw [ByteArray.size_append, sz]; omega)) ?_
  rw [toL_append, toL_append, dp_pos h1]
  show ofL (ciL c ++ (((dgB y 4).data.toList ++ [45] ++ (dgB m 2).data.toList) ++ dpL d)) = _
  simp
 ·refine Ev.neg h1 ?_
  refine Ev.eq (key _ (by omega)) ?_
  rw [dp_neg h1, List.nil_append]
theorem dt_facts {y m d : Int} {c : Bool} (h : dtB y m d c = true) : 0 ≤ y ∧ y ≤ 2999 ∧ 0 ≤ m ∧ m ≤ 12 ∧ 0 ≤ d ∧ d ≤ 31 := by
 unfold dtB at h
 rcases Bool.or_eq_true_iff.1 h with g | g
 ·rw [Bool.and_eq_true_iff, Bool.and_eq_true_iff, Bool.and_eq_true_iff, beq_iff_eq, beq_iff_eq, beq_iff_eq] at g
  omega
 ·rw [Bool.and_eq_true_iff, Bool.and_eq_true_iff] at g
  obtain ⟨g1, g2, g3⟩ := g
  unfold rgB at g1 g2
  rw [Bool.and_eq_true_iff, decide_eq_true_iff, decide_eq_true_iff] at g1 g2
  have hd : 0 ≤ d ∧ d ≤ 31 := by
   split at g3
   ·rw [Bool.and_eq_true_iff, beq_iff_eq, beq_iff_eq] at g3
    omega
   ·split at g3
    ·rw [beq_iff_eq] at g3
     omega
    ·unfold rgB at g3
     rw [Bool.and_eq_true_iff, decide_eq_true_iff, decide_eq_true_iff] at g3
     have : dim y m ≤ 31 := by
      unfold dim
      repeat' split
      all_goals omega
     omega
  omega
theorem tx_size {s : ByteArray} (h : txB s = true) : s.size ≤ 40 := by
 unfold txB at h
 have := of_decide_eq_true (Bool.and_eq_true_iff.1 h).1
 omega
structure EnOk (l2 l3 : List S157) (a4 a5 a6 : ByteArray) (a7 a8 a9 : Int) (a10 : Bool) (a11 : Int) (a12 : ByteArray) : Prop where
 n2 : nlB l2 = true
 n3 : nlB l3 = true
 t4 : a4.size ≤ 40
 t5 : a5.size ≤ 40
 t6 : a6.size ≤ 40
 t12 : a12.size ≤ 40
 d : dtB a7 a8 a9 a10 = true
 v : 0 ≤ a11 ∧ a11 ≤ 9999
theorem en_ok {a0 : ByteArray} {a1 : Int} {l2 l3 : List S157} {a4 a5 a6 : ByteArray} {a7 a8 a9 : Int} {a10 : Bool} {a11 : Int} {a12 a13 : ByteArray} (h : enB a0 a1 l2 l3 a4 a5 a6 a7 a8 a9 a10 a11 a12 a13 = true) : EnOk l2 l3 a4 a5 a6 a7 a8 a9 a10 a11 a12 := by
 unfold enB at h
 simp only [Bool.and_eq_true_iff] at h
 obtain ⟨⟨-, -, h2, h3⟩, ⟨h4, h5, h6, h12⟩, hd, hv, -⟩ := h
 unfold rgB at hv
 rw [Bool.and_eq_true_iff, decide_eq_true_iff, decide_eq_true_iff] at hv
 exact ⟨h2, h3, tx_size h4, tx_size h5, tx_size h6, tx_size h12, hd, hv⟩
def fdB (l2 l3 : List S157) (a4 a5 a6 : ByteArray) (a7 a8 a9 : Int) (a10 : Bool) (a11 : Int) (a12 : ByteArray) (w : ByteArray) : ByteArray :=
 if w.toList = ([97, 117, 116, 104, 111, 114, 115] : List UInt8) then ofL (nsL l2) else
 if w.toList = ([101, 100, 105, 116, 111, 114, 115] : List UInt8) then ofL (nsL l3) else
 if w.toList = ([116, 105, 116, 108, 101] : List UInt8) then a4 else
 if w.toList = ([99, 111, 110, 116, 97, 105, 110, 101, 114] : List UInt8) then a5 else
 if w.toList = ([112, 117, 98, 108, 105, 115, 104, 101, 114] : List UInt8) then a6 else
 if w.toList = ([100, 97, 116, 101] : List UInt8) then (if a7 > 0 then ofL (daL a7 a8 a9 a10) else ofL []) else
 if w.toList = ([118, 111, 108, 117, 109, 101] : List UInt8) then (if a11 > 0 then numB a11 else ofL []) else
 if w.toList = ([112, 97, 103, 101, 115] : List UInt8) then a12 else ofL []
theorem fd_size {l2 l3 : List S157} {a4 a5 a6 : ByteArray} {a7 a8 a9 : Int} {a10 : Bool} {a11 : Int} {a12 : ByteArray} (z2 : szNs l2) (z3 : szNs l3) (h : EnOk l2 l3 a4 a5 a6 a7 a8 a9 a10 a11 a12) (w : ByteArray) : (fdB l2 l3 a4 a5 a6 a7 a8 a9 a10 a11 a12 w).size ≤ 33560000 := by
 have h2 := nsL_len l2 z2 h.n2
 have h3 := nsL_len l3 z3 h.n3
 have hd := dt_facts h.d
 have hda := daL_len a7 a8 a9 a10 (by omega) (by omega) (by omega) (by omega) (by omega) (by omega)
 have hv := h.v
 have hn := numB_size a11 (by omega) (by omega)
 have s4 := h.t4
 have s5 := h.t5
 have s6 := h.t6
 have s12 := h.t12
 have e0 : (ofL []).size = 0 := rfl
 have e2 : (ofL (nsL l2)).size = (nsL l2).length := rfl
 have e3 : (ofL (nsL l3)).size = (nsL l3).length := rfl
 have e7 : (ofL (daL a7 a8 a9 a10)).size = (daL a7 a8 a9 a10).length := rfl
 unfold fdB
 repeat' split
 all_goals omega
theorem i_field (a0 : ByteArray) (a1 : Int) (l2 l3 : List S157) (a4 a5 a6 : ByteArray) (a7 a8 a9 : Int) (a10 : Bool) (a11 : Int) (a12 a13 : ByteArray) (z2 : szNs l2) (z3 : szNs l3) (h : EnOk l2 l3 a4 a5 a6 a7 a8 a9 a10 a11 a12) (w : ByteArray) :
  Ev (fun k => Fbw.f k a0 a1 l2 l3 a4 a5 a6 a7 a8 a9 a10 a11 a12 a13 w) (fdB l2 l3 a4 a5 a6 a7 a8 a9 a10 a11 a12 w) := by
 have hd := dt_facts h.d
 have hv := h.v
 unfold Fbw.f
 by_cases h1 : w.toList = ([97, 117, 116, 104, 111, 114, 115] : List UInt8)
 ·exact Ev.eq (Ev.pos h1 (Ev.b1 (i_nmtext l2 z2 h.n2) (Ev.now _))) (by unfold fdB; rw [if_pos h1])
 refine Ev.neg h1 ?_
 by_cases h2 : w.toList = ([101, 100, 105, 116, 111, 114, 115] : List UInt8)
 ·exact Ev.eq (Ev.pos h2 (Ev.b1 (i_nmtext l3 z3 h.n3) (Ev.now _))) (by unfold fdB; rw [if_neg h1, if_pos h2])
 refine Ev.neg h2 ?_
 by_cases h3 : w.toList = ([116, 105, 116, 108, 101] : List UInt8)
 ·exact Ev.eq (Ev.pos h3 (Ev.now _)) (by unfold fdB; rw [if_neg h1, if_neg h2, if_pos h3])
 refine Ev.neg h3 ?_
 by_cases h4 : w.toList = ([99, 111, 110, 116, 97, 105, 110, 101, 114] : List UInt8)
 ·exact Ev.eq (Ev.pos h4 (Ev.now _)) (by unfold fdB; rw [if_neg h1, if_neg h2, if_neg h3, if_pos h4])
 refine Ev.neg h4 ?_
 by_cases h5 : w.toList = ([112, 117, 98, 108, 105, 115, 104, 101, 114] : List UInt8)
 ·exact Ev.eq (Ev.pos h5 (Ev.now _)) (by unfold fdB; rw [if_neg h1, if_neg h2, if_neg h3, if_neg h4, if_pos h5])
 refine Ev.neg h5 ?_
 by_cases h6 : w.toList = ([100, 97, 116, 101] : List UInt8)
 ·refine Ev.pos h6 ?_
  by_cases hy : a7 > 0
  ·exact Ev.eq (Ev.pos hy (Ev.b1 (i_da a7 a8 a9 a10 (by omega) (by omega) (by omega) (by omega) (by omega) (by omega)) (Ev.now _))) (by unfold fdB; rw [if_neg h1, if_neg h2, if_neg h3, if_neg h4, if_neg h5, if_pos h6, if_pos hy])
  ·exact Ev.eq (Ev.neg hy (Ev.now _)) (by unfold fdB; rw [if_neg h1, if_neg h2, if_neg h3, if_neg h4, if_neg h5, if_pos h6, if_neg hy]; rfl)
 refine Ev.neg h6 ?_
 by_cases h7 : w.toList = ([118, 111, 108, 117, 109, 101] : List UInt8)
 ·refine Ev.pos h7 ?_
  by_cases hy : a11 > 0
  ·exact Ev.eq (Ev.pos hy (Ev.b0 (implItoa a11 (by omega) (by omega)) (Ev.now _))) (by unfold fdB; rw [if_neg h1, if_neg h2, if_neg h3, if_neg h4, if_neg h5, if_neg h6, if_pos h7, if_pos hy])
  ·exact Ev.eq (Ev.neg hy (Ev.now _)) (by unfold fdB; rw [if_neg h1, if_neg h2, if_neg h3, if_neg h4, if_neg h5, if_neg h6, if_pos h7, if_neg hy]; rfl)
 refine Ev.neg h7 ?_
 by_cases h8 : w.toList = ([112, 97, 103, 101, 115] : List UInt8)
 ·exact Ev.eq (Ev.pos h8 (Ev.now _)) (by unfold fdB; rw [if_neg h1, if_neg h2, if_neg h3, if_neg h4, if_neg h5, if_neg h6, if_neg h7, if_pos h8])
 ·exact Ev.eq (Ev.neg h8 (Ev.now _)) (by unfold fdB; rw [if_neg h1, if_neg h2, if_neg h3, if_neg h4, if_neg h5, if_neg h6, if_neg h7, if_neg h8]; rfl)
theorem s_field (a0 : ByteArray) (a1 : Int) (l2 l3 : List S157) (a4 a5 a6 : ByteArray) (a7 a8 a9 : Int) (a10 : Bool) (a11 : Int) (a12 a13 : ByteArray) (z2 : szNs l2) (z3 : szNs l3) (h : EnOk l2 l3 a4 a5 a6 a7 a8 a9 a10 a11 a12) (w : ByteArray) :
  ∃ b, Ev (fun k => FbD.f k a0 a1 l2 l3 a4 a5 a6 a7 a8 a9 a10 a11 a12 a13 w) (fdB l2 l3 a4 a5 a6 a7 a8 a9 a10 a11 a12 w, b) := by
 have hd := dt_facts h.d
 have hv := h.v
 unfold FbD.f
 by_cases h1 : w.toList = ([97, 117, 116, 104, 111, 114, 115] : List UInt8)
 ·exact ⟨true, Ev.eq (Ev.pos h1 (Ev.b1 (s_nmtext l2 z2 h.n2) (Ev.now _))) (by unfold fdB; rw [if_pos h1])⟩
 by_cases h2 : w.toList = ([101, 100, 105, 116, 111, 114, 115] : List UInt8)
 ·exact ⟨true, Ev.eq (Ev.neg h1 (Ev.pos h2 (Ev.b1 (s_nmtext l3 z3 h.n3) (Ev.now _)))) (by unfold fdB; rw [if_neg h1, if_pos h2])⟩
 by_cases h3 : w.toList = ([116, 105, 116, 108, 101] : List UInt8)
 ·exact ⟨true, Ev.eq (Ev.neg h1 (Ev.neg h2 (Ev.pos h3 (Ev.now _)))) (by unfold fdB; rw [if_neg h1, if_neg h2, if_pos h3])⟩
 by_cases h4 : w.toList = ([99, 111, 110, 116, 97, 105, 110, 101, 114] : List UInt8)
 ·exact ⟨true, Ev.eq (Ev.neg h1 (Ev.neg h2 (Ev.neg h3 (Ev.pos h4 (Ev.now _))))) (by unfold fdB; rw [if_neg h1, if_neg h2, if_neg h3, if_pos h4])⟩
 by_cases h5 : w.toList = ([112, 117, 98, 108, 105, 115, 104, 101, 114] : List UInt8)
 ·exact ⟨true, Ev.eq (Ev.neg h1 (Ev.neg h2 (Ev.neg h3 (Ev.neg h4 (Ev.pos h5 (Ev.now _)))))) (by unfold fdB; rw [if_neg h1, if_neg h2, if_neg h3, if_neg h4, if_pos h5])⟩
 by_cases h8 : w.toList = ([112, 97, 103, 101, 115] : List UInt8)
 ·have h6 : ¬ w.toList = ([100, 97, 116, 101] : List UInt8) := by rw [h8]; decide
  have h7 : ¬ w.toList = ([118, 111, 108, 117, 109, 101] : List UInt8) := by rw [h8]; decide
  exact ⟨true, Ev.eq (Ev.neg h1 (Ev.neg h2 (Ev.neg h3 (Ev.neg h4 (Ev.neg h5 (Ev.pos h8 (Ev.now _))))))) (by unfold fdB; rw [if_neg h1, if_neg h2, if_neg h3, if_neg h4, if_neg h5, if_neg h6, if_neg h7, if_pos h8])⟩
 by_cases h6 : w.toList = ([100, 97, 116, 101] : List UInt8)
 ·by_cases hy : a7 > 0
  ·exact ⟨true, Ev.eq (Ev.neg h1 (Ev.neg h2 (Ev.neg h3 (Ev.neg h4 (Ev.neg h5 (Ev.neg h8 (Ev.pos h6 (Ev.neg (show ¬ a7 = 0 by omega) (Ev.b1 (s_da a7 a8 a9 a10 (by omega) (by omega) (by omega) (by omega) (by omega) (by omega)) (Ev.now _)))))))))) (by unfold fdB; rw [if_neg h1, if_neg h2, if_neg h3, if_neg h4, if_neg h5, if_pos h6, if_pos hy])⟩
  ·exact ⟨true, Ev.eq (Ev.neg h1 (Ev.neg h2 (Ev.neg h3 (Ev.neg h4 (Ev.neg h5 (Ev.neg h8 (Ev.pos h6 (Ev.pos (show a7 = 0 by omega) (Ev.now _))))))))) (by unfold fdB; rw [if_neg h1, if_neg h2, if_neg h3, if_neg h4, if_neg h5, if_pos h6, if_neg hy]; rfl)⟩
 by_cases h7 : w.toList = ([118, 111, 108, 117, 109, 101] : List UInt8)
 ·by_cases hy : a11 > 0
  ·exact ⟨true, Ev.eq (Ev.neg h1 (Ev.neg h2 (Ev.neg h3 (Ev.neg h4 (Ev.neg h5 (Ev.neg h8 (Ev.neg h6 (Ev.pos h7 (Ev.neg (show ¬ a11 = 0 by omega) (Ev.b1 (s_num a11 (by omega) (by omega)) (Ev.now _))))))))))) (by unfold fdB; rw [if_neg h1, if_neg h2, if_neg h3, if_neg h4, if_neg h5, if_neg h6, if_pos h7, if_pos hy])⟩
  ·exact ⟨true, Ev.eq (Ev.neg h1 (Ev.neg h2 (Ev.neg h3 (Ev.neg h4 (Ev.neg h5 (Ev.neg h8 (Ev.neg h6 (Ev.pos h7 (Ev.pos (show a11 = 0 by omega) (Ev.now _)))))))))) (by unfold fdB; rw [if_neg h1, if_neg h2, if_neg h3, if_neg h4, if_neg h5, if_neg h6, if_pos h7, if_neg hy]; rfl)⟩
 ·exact ⟨false, Ev.eq (Ev.neg h1 (Ev.neg h2 (Ev.neg h3 (Ev.neg h4 (Ev.neg h5 (Ev.neg h8 (Ev.neg h6 (Ev.neg h7 (Ev.now _))))))))) (by unfold fdB; rw [if_neg h1, if_neg h2, if_neg h3, if_neg h4, if_neg h5, if_neg h6, if_neg h7, if_neg h8]; rfl)⟩
theorem loop_some (L : Nat → Int → Option Bool) (l : List ByteArray) (p : ByteArray → Bool) (fin : Bool)
  (hs : ∀ i : Nat, i < l.length → (p (rdOf ByteArray.empty l i) = false → ∀ r, Ev (fun k => L k ((i + 1 : Nat) : Int)) r → Ev (fun k => L k (i : Int)) r) ∧ (p (rdOf ByteArray.empty l i) = true → Ev (fun k => L k (i : Int)) true))
  (he : Ev (fun k => L k (l.length : Int)) fin) : ∀ (d i : Nat), i + d = l.length → Ev (fun k => L k (i : Int)) ((l.drop i).any p || fin) := by
 intro d
 induction d with
 | zero =>
  intro i hi
  obtain rfl : i = l.length := by omega
  rw [List.drop_of_length_le (Nat.le_refl _)]
  exact he
 | succ d ih =>
  intro i hi
  have h := hs i (by omega)
  rw [rdOf_drop l i (by omega), List.any_cons]
  cases hp : p (rdOf ByteArray.empty l i) with
  | true => rw [Bool.true_or, Bool.true_or]; exact h.2 hp
  | false => rw [Bool.false_or]; exact h.1 hp _ (ih (i + 1) (by omega))
def hasB (l : List ByteArray) (w : ByteArray) : Bool := l.any (fun x => x.toList == w.toList)
theorem i_has (l : List ByteArray) (w : ByteArray) (hl : l.length ≤ 4611686018427387904) : Ev (fun k => Fa6.f k l w) (hasB l w) := by
 have key : ∃ t, Ev (fun k => Fai.l0 k l w (l.length : Int) ((0 : Nat) : Int)) t ∧ decide (t ≥ 0) = (l.drop 0).any (fun x => x.toList == w.toList) := by
  refine loop_find (fun k i => Fai.l0 k l w (l.length : Int) i) l (rdOf ByteArray.empty l) (rdOf_drop l) (fun x => x.toList == w.toList) ?_ ?_ l.length 0 (by omega)
  ·intro i hi
   refine ⟨fun hp r hr => ?_, fun hp => ?_⟩
   ·have hne : ¬ w.toList = (rdOf ByteArray.empty l (i : Int)).toList := fun e => beq_eq_false_iff_ne.1 hp e.symm
    refine Ev.st (fun k => by rw [Fai.l0]) ?_
    refine vP ?_
    refine vP ?_
    refine vP ?_
    refine Ev.neg hne ?_
    rw [nsucc hi hl]
    exact hr
   ·refine Ev.st (fun k => by rw [Fai.l0]) ?_
    refine vP ?_
    refine vP ?_
    refine vP ?_
    exact Ev.pos (beq_iff_eq.1 hp).symm (Ev.now _)
  ·refine Ev.st (fun k => by rw [Fai.l0]) ?_
   exact vN (Ev.now _)
 obtain ⟨t, h1, h2⟩ := key
 unfold Fa6.f Fai.f hasB
 exact Ev.b1 h1 (Ev.val h2)
theorem s_has (l : List ByteArray) (w : ByteArray) (hl : l.length ≤ 4611686018427387904) : Ev (fun k => Fa9.f k l w) (hasB l w) := by
 unfold Fa9.f hasB
 refine Ev.eq (loop_some (fun k i => Fa9.l0 k l w i) l (fun x => x.toList == w.toList) false ?_ ?_ l.length 0 (by omega)) (by rw [List.drop_zero, Bool.or_false])
 ·intro i hi
  refine ⟨fun hp r hr => ?_, fun hp => ?_⟩
  ·refine Ev.st (fun k => by rw [Fa9.l0]) ?_
   refine vP ?_
   refine vP ?_
   refine Ev.neg (beq_eq_false_iff_ne.1 hp) ?_
   rw [nsucc hi hl]
   exact hr
  ·refine Ev.st (fun k => by rw [Fa9.l0]) ?_
   refine vP ?_
   refine vP ?_
   exact Ev.pos (beq_iff_eq.1 hp) (Ev.now _)
 ·refine Ev.st (fun k => by rw [Fa9.l0]) ?_
  exact vN (Ev.now _)
def fqB (q : ByteArray) : Bool := hasB fieldL q || (q.toList == ([] : List UInt8))
def selB (q x : ByteArray) : Bool := decide (q.toList = ([] : List UInt8)) || (q.toList == x.toList)
def ewL (fd : ByteArray → ByteArray) (q : ByteArray) (l : List ByteArray) : List ByteArray := (l.filter (selB q)).flatMap (fun x => wsB (fd x))
theorem ws_len (s : ByteArray) : (wsB s).length ≤ s.size + 1 := by
 have h1 := lens_wds (flt s.data.toList)
 have hn := flt_len s.data.toList
 rw [← size_data] at hn
 unfold wsB
 rw [List.length_map]
 omega
theorem i_ew (a0 : ByteArray) (a1 : Int) (l2 l3 : List S157) (a4 a5 a6 : ByteArray) (a7 a8 a9 : Int) (a10 : Bool) (a11 : Int) (a12 a13 : ByteArray) (z2 : szNs l2) (z3 : szNs l3) (h : EnOk l2 l3 a4 a5 a6 a7 a8 a9 a10 a11 a12) (q : ByteArray) (d : Nat) : ∀ (acc : List ByteArray) (i : Nat), i + d = fieldL.length → acc.length ≤ i * 33560001 →
  Ev (fun k => Fak.l0 k q acc (i : Int) a0 a1 l2 l3 a4 a5 a6 a7 a8 a9 a10 a11 a12 a13) (acc ++ ewL (fdB l2 l3 a4 a5 a6 a7 a8 a9 a10 a11 a12) q (fieldL.drop i)) := by
 have h8 : fieldL.length = 8 := rfl
 have stp : ∀ (acc : List ByteArray) (x : ByteArray) (i : Nat) (b : Bool) (R : List ByteArray), i < 8 → acc.length ≤ i * 33560001 → (∀ o : List ByteArray, o.length ≤ (i + 1) * 33560001 → Ev (fun k => Fak.l0 k q o ((i + 1 : Nat) : Int) a0 a1 l2 l3 a4 a5 a6 a7 a8 a9 a10 a11 a12 a13) (o ++ R)) →
   Ev (fun k => Fak.j1 k q acc x (i : Int) b a0 a1 l2 l3 a4 a5 a6 a7 a8 a9 a10 a11 a12 a13) (acc ++ ((if b = true then wsB (fdB l2 l3 a4 a5 a6 a7 a8 a9 a10 a11 a12 x) else []) ++ R)) := by
  intro acc x i b R hi ha hn
  have hm : (i + 1) * 33560001 = i * 33560001 + 33560001 := Nat.succ_mul _ _
  refine Ev.st (fun k => by rw [Fak.j1]) ?_
  cases b with
  | false =>
   refine Ev.ff rfl ?_
   rw [nsucc (n := 8) hi (by omega)]
   refine Ev.eq (hn acc (by rw [hm]; exact Nat.le_trans ha (Nat.le_add_right _ _))) ?_
   rw [if_neg Bool.false_ne_true, List.nil_append]
  | true =>
   have hz := fd_size z2 z3 h x
   have hw := i_words (fdB l2 l3 a4 a5 a6 a7 a8 a9 a10 a11 a12 x) (by omega)
   rw [i_plain _ (by omega), Option.bind_some] at hw
   have hwl := ws_len (fdB l2 l3 a4 a5 a6 a7 a8 a9 a10 a11 a12 x)
   refine Ev.tt rfl ?_
   refine Ev.b1 (i_field a0 a1 l2 l3 a4 a5 a6 a7 a8 a9 a10 a11 a12 a13 z2 z3 h x) ?_
   refine Ev.b0 (i_plain _ (by omega)) ?_
   refine Ev.b0 hw ?_
   refine vP ?_
   rw [nsucc (n := 8) hi (by omega)]
   refine Ev.eq (hn _ (by rw [List.length_append, hm]; exact Nat.add_le_add ha (by omega))) ?_
   rw [List.append_assoc, if_pos rfl]
 induction d with
 | zero =>
  intro acc i hi ha
  obtain rfl : i = fieldL.length := by omega
  rw [List.drop_of_length_le (Nat.le_refl _)]
  refine Ev.st (fun k => by rw [Fak.l0]) ?_
  refine vN (Ev.val ?_)
  exact (List.append_nil _).symm
 | succ d ih =>
  intro acc i hi ha
  have e : ewL (fdB l2 l3 a4 a5 a6 a7 a8 a9 a10 a11 a12) q (fieldL.drop i) = (if selB q (rdOf ByteArray.empty fieldL (i : Int)) = true then wsB (fdB l2 l3 a4 a5 a6 a7 a8 a9 a10 a11 a12 (rdOf ByteArray.empty fieldL (i : Int))) else []) ++ ewL (fdB l2 l3 a4 a5 a6 a7 a8 a9 a10 a11 a12) q (fieldL.drop (i + 1)) := by
   rw [rdOf_drop fieldL i (by omega)]
   unfold ewL
   rw [List.filter_cons]
   split
   ·rw [List.flatMap_cons]
   ·rfl
  rw [e]
  have nx := stp acc (rdOf ByteArray.empty fieldL (i : Int)) i (selB q (rdOf ByteArray.empty fieldL (i : Int))) (ewL (fdB l2 l3 a4 a5 a6 a7 a8 a9 a10 a11 a12) q (fieldL.drop (i + 1))) (by omega) ha (fun o ho => ih o (i + 1) (by omega) ho)
  refine Ev.st (fun k => by rw [Fak.l0]) ?_
  refine vP ?_
  refine vP ?_
  unfold selB at nx ⊢
  by_cases hq : q.toList = ([] : List UInt8)
  ·rw [decide_eq_true hq, Bool.true_or] at nx ⊢
   exact Ev.pos hq nx
  ·rw [decide_eq_false hq, Bool.false_or] at nx ⊢
   exact Ev.neg hq nx
theorem ewL_cons (fd : ByteArray → ByteArray) (q x : ByteArray) (r : List ByteArray) : ewL fd q (x :: r) = (if selB q x = true then wsB (fd x) else []) ++ ewL fd q r := by
 unfold ewL
 rw [List.filter_cons]
 split
 ·rw [List.flatMap_cons]
 ·rfl
theorem ewL_len (fd : ByteArray → ByteArray) (hf : ∀ x, (fd x).size ≤ 33560000) (q : ByteArray) : ∀ l : List ByteArray, (ewL fd q l).length ≤ l.length * 33560001
 | [] => Nat.zero_le _
 | x :: r => by
  have ih := ewL_len fd hf q r
  have h1 := ws_len (fd x)
  have h2 := hf x
  have hm : (r.length + 1) * 33560001 = r.length * 33560001 + 33560001 := Nat.succ_mul _ _
  rw [ewL_cons, List.length_append, List.length_cons, hm, Nat.add_comm]
  refine Nat.add_le_add ih ?_
  split
  ·omega
  ·exact Nat.zero_le _
theorem s_ew1 (a0 : ByteArray) (a1 : Int) (l2 l3 : List S157) (a4 a5 a6 : ByteArray) (a7 a8 a9 : Int) (a10 : Bool) (a11 : Int) (a12 a13 : ByteArray) (z2 : szNs l2) (z3 : szNs l3) (h : EnOk l2 l3 a4 a5 a6 a7 a8 a9 a10 a11 a12) (q : ByteArray) (hq : ¬ q.toList = ([] : List UInt8)) :
  Ev (fun k => Fau.f k a0 a1 l2 l3 a4 a5 a6 a7 a8 a9 a10 a11 a12 a13 q) (wsB (fdB l2 l3 a4 a5 a6 a7 a8 a9 a10 a11 a12 q)) := by
 have hz := fd_size z2 z3 h q
 obtain ⟨b, hb⟩ := s_field a0 a1 l2 l3 a4 a5 a6 a7 a8 a9 a10 a11 a12 a13 z2 z3 h q
 refine Ev.st (fun k => by rw [Fau.f]) ?_
 refine Ev.neg hq ?_
 refine Ev.b1 hb ?_
 exact Ev.b1 (s_simple (fdB l2 l3 a4 a5 a6 a7 a8 a9 a10 a11 a12 q) (by omega)) (Ev.now _)
theorem fieldL_ne (x : ByteArray) (h : x ∈ fieldL) : ¬ x.toList = ([] : List UInt8) := by
 rw [empty_iff]
 revert x
 unfold fieldL
 simp
theorem s_ew (a0 : ByteArray) (a1 : Int) (l2 l3 : List S157) (a4 a5 a6 : ByteArray) (a7 a8 a9 : Int) (a10 : Bool) (a11 : Int) (a12 a13 : ByteArray) (z2 : szNs l2) (z3 : szNs l3) (h : EnOk l2 l3 a4 a5 a6 a7 a8 a9 a10 a11 a12) (q : ByteArray) (hq : q.toList = ([] : List UInt8)) (d : Nat) : ∀ (acc : List ByteArray) (i : Nat), i + d = fieldL.length → acc.length ≤ i * 33560001 →
  Ev (fun k => Fau.l0 k acc fieldL (i : Int) a0 a1 l2 l3 a4 a5 a6 a7 a8 a9 a10 a11 a12 a13) (acc ++ ewL (fdB l2 l3 a4 a5 a6 a7 a8 a9 a10 a11 a12) q (fieldL.drop i)) := by
 have h8 : fieldL.length = 8 := rfl
 induction d with
 | zero =>
  intro acc i hi ha
  obtain rfl : i = fieldL.length := by omega
  rw [List.drop_of_length_le (Nat.le_refl _)]
  refine Ev.st (fun k => by rw [Fau.l0]) ?_
  refine vN (Ev.val ?_)
  exact (List.append_nil _).symm
 | succ d ih =>
  intro acc i hi ha
  have hm : (i + 1) * 33560001 = i * 33560001 + 33560001 := Nat.succ_mul _ _
  have hx := rd_mem fieldL i (by omega)
  have hz := fd_size z2 z3 h (rdOf ByteArray.empty fieldL (i : Int))
  have hwl := ws_len (fdB l2 l3 a4 a5 a6 a7 a8 a9 a10 a11 a12 (rdOf ByteArray.empty fieldL (i : Int)))
  have e : selB q (rdOf ByteArray.empty fieldL (i : Int)) = true := by
   unfold selB
   rw [decide_eq_true hq, Bool.true_or]
  rw [rdOf_drop fieldL i (by omega), ewL_cons, if_pos e, ← List.append_assoc]
  refine Ev.st (fun k => by rw [Fau.l0]) ?_
  refine vP ?_
  refine vP ?_
  refine Ev.b1 (s_ew1 a0 a1 l2 l3 a4 a5 a6 a7 a8 a9 a10 a11 a12 a13 z2 z3 h _ (fieldL_ne _ hx)) ?_
  refine vP ?_
  rw [nsucc (n := 8) (by omega) (by omega)]
  exact ih _ (i + 1) (by omega) (by rw [List.length_append, hm]; exact Nat.add_le_add ha (by omega))
theorem field_one (q : ByteArray) (h : hasB fieldL q = true) : fieldL.filter (selB q) = [q] := by
 unfold hasB at h
 obtain ⟨x, hx, he⟩ := List.any_eq_true.1 h
 have e : x = q := toList_inj.1 (beq_iff_eq.1 he)
 subst e
 clear h he
 have hs : ∀ y : ByteArray, selB x y = decide (x.data.toList = y.data.toList) := by
  intro y
  unfold selB
  rw [decide_eq_false (fieldL_ne x hx), Bool.false_or, Go.ByteArray.toList_eq, Go.ByteArray.toList_eq]
  rw [Bool.eq_iff_iff]
  simp
 rw [show selB x = fun y => decide (x.data.toList = y.data.toList) from funext hs]
 clear hs
 revert x
 unfold fieldL
 simp
theorem s_words (a0 : ByteArray) (a1 : Int) (l2 l3 : List S157) (a4 a5 a6 : ByteArray) (a7 a8 a9 : Int) (a10 : Bool) (a11 : Int) (a12 a13 : ByteArray) (z2 : szNs l2) (z3 : szNs l3) (h : EnOk l2 l3 a4 a5 a6 a7 a8 a9 a10 a11 a12) (q : ByteArray) (hq : fqB q = true) :
  Ev (fun k => Fau.f k a0 a1 l2 l3 a4 a5 a6 a7 a8 a9 a10 a11 a12 a13 q) (ewL (fdB l2 l3 a4 a5 a6 a7 a8 a9 a10 a11 a12) q fieldL) := by
 by_cases he : q.toList = ([] : List UInt8)
 ·refine Ev.st (fun k => by rw [Fau.f]) ?_
  refine Ev.pos he ?_
  refine Ev.b0 (a := fieldL) (by unfold FbZ.f fieldL; rfl) ?_
  exact s_ew a0 a1 l2 l3 a4 a5 a6 a7 a8 a9 a10 a11 a12 a13 z2 z3 h q he fieldL.length [] 0 (by omega) (by exact Nat.zero_le _)
 ·have h1 : hasB fieldL q = true := by
   unfold fqB at hq
   rw [beq_eq_false_iff_ne.2 he, Bool.or_false] at hq
   exact hq
  refine Ev.eq (s_ew1 a0 a1 l2 l3 a4 a5 a6 a7 a8 a9 a10 a11 a12 a13 z2 z3 h q he) ?_
  unfold ewL
  rw [field_one q h1, List.flatMap_cons, List.flatMap_nil, List.append_nil]
theorem i_ewords (a0 : ByteArray) (a1 : Int) (l2 l3 : List S157) (a4 a5 a6 : ByteArray) (a7 a8 a9 : Int) (a10 : Bool) (a11 : Int) (a12 a13 : ByteArray) (z2 : szNs l2) (z3 : szNs l3) (h : EnOk l2 l3 a4 a5 a6 a7 a8 a9 a10 a11 a12) (q : ByteArray) :
  Ev (fun k => Fak.f k a0 a1 l2 l3 a4 a5 a6 a7 a8 a9 a10 a11 a12 a13 q) (ewL (fdB l2 l3 a4 a5 a6 a7 a8 a9 a10 a11 a12) q fieldL) := by
 unfold Fak.f
 exact i_ew a0 a1 l2 l3 a4 a5 a6 a7 a8 a9 a10 a11 a12 a13 z2 z3 h q fieldL.length [] 0 (by omega) (by exact Nat.zero_le _)
end Go.Proofs.YtmafmhgmdegplaaGreatDoor.P
