/- Draws of ordinals' texts, of lists and of Roman numbers come to something, within bounds. Conditions: those of each lemma. -/
import Derived.Test.YtmkkcpdpfelalaaGreatDoorZPx0
import Derived.Test.YtmkkcpdpfelalaaGreatDoorZPx10
import Derived.Test.YtmkkcpdpfelalaaGreatDoorZPx11
import Derived.Test.YtmkkcpdpfelalaaGreatDoorZPx13
import Derived.Test.YtmkkcpdpfelalaaGreatDoorZPx15
import Derived.Test.YtmkkcpdpfelalaaGreatDoorZLBase
import Derived.Test.YtmkkcpdpfelalaaGreatDoorZLDraw
import Derived.Test.YtmkkcpdpfelalaaGreatDoorZLDraw2
import Derived.Test.YtmkkcpdpfelalaaGreatDoorZLDrawLoc
import Derived.Test.YtmkkcpdpfelalaaGreatDoorZLLocGood
import Derived.Test.YtmkkcpdpfelalaaGreatDoorZLLocOrd
import Derived.Test.YtmkkcpdpfelalaaGreatDoorZLLocParse
import Derived.Test.YtmkkcpdpfelalaaGreatDoorZLNum
namespace Go.Proofs.YtmkkcpdpfelalaaGreatDoor.P
open Go.RowKit Go.Proofs.YtmkkcpdpfelalaaGreatDoorW.PrintWords Go.Proofs.YtmkkcpdpfelalaaGreatDoorW.PrintLast Go.Proofs.YtmkkcpdpfelalaaGreatDoorW.PrintMore
set_option linter.unusedVariables false
set_option linter.unusedSimpArgs false
theorem SmallL.ok {m : Nat} {n : ByteArray} {ts : List S65} {rs : List S67} {la tw : ByteArray} (h : SmallL m n ts rs la tw) : n.size ≤ 1048576 ∧ la.size ≤ 1048576 ∧ tw.size ≤ 1048576 := by
 have h1 := h.n
 have h2 := h.la
 have h3 := h.tw
 omega
theorem ordEmpty (v : Int) (h0 : 0 ≤ v) (h1 : v ≤ 1000000) (k : Nat) (hk : 100 < k) (e : ByteArray) : spec_l23Ordinal.f k e ([] : List S65) ([] : List S67) e e v = some (numB v) := by
 obtain ⟨k, rfl⟩ := succ_of hk
 rw [spec_l23Ordinal.f, spec_l23Ordinal.l0, if_neg (by simp), specNum v (by omega) (by omega) k (by omega), Option.bind_some]
def LocS (q : ByteArray × (List S65) × (List S67) × ByteArray × ByteArray × ByteArray) : Prop := SmallL 8 q.1 q.2.1 q.2.2.1 q.2.2.2.1 q.2.2.2.2.1 ∧ q.2.2.2.2.2.size ≤ 1000
theorem drawPO_j {l : List Int} (hb : Byt l) (k : Nat) (hk : 2000 < k) (s : ByteArray) (hs : s.size ≤ 1000) (x : Bool) (a sd : Int) (h0 : 0 ≤ a) (h1 : a ≤ 1000000) (n : ByteArray) (ts : List S65) (rs : List S67) (la tw : ByteArray) (hS : SmallL 8 n ts rs la tw) (hx : x = true → goodL n ts rs la tw = true) :
  Tot (spec_DrawParseOrdinal.j0 k s x l a sd n ts rs la tw) LocS := by
 obtain ⟨k, rfl⟩ := succ_of hk
 rw [spec_DrawParseOrdinal.j0]
 refine Tot.ite (fun g => ?_) fun _ => Tot.some ⟨hS, hs⟩
 obtain ⟨h6, hru⟩ := goodL_rules (hx g)
 refine Tot.bind (pick_t hb a sd 1000 h0 (by omega)) fun p hp => ?_
 obtain ⟨M, hM⟩ : ∃ M : Nat, p.1 = (M : Int) := ⟨p.1.toNat, by omega⟩
 rw [hM, spec_l23Ordinal.f, specOrd_l0 n ts rs la tw (M : Int) (by omega) (by omega) h6 rs.length k 0 (by omega) (by omega) hru (by omega), Option.bind_some]
 have hz := ordTxt_size rs M (by omega) rs.length 0 hru
 exact Tot.some ⟨hS, by show (ordTxt rs (M : Int) 0 rs.length).size ≤ 1000; omega⟩
theorem drawPO_t {l : List Int} (hb : Byt l) (k : Nat) (hk : 2000000 < k) : Tot (spec_DrawParseOrdinal.f k l) LocS := by
 unfold spec_DrawParseOrdinal.f
 refine Tot.bind (any_t hb 0 0 k (by omega) (by omega) (by omega)) fun m hm => ?_
 obtain ⟨hS, m1, m2⟩ := hm
 refine Tot.bind (num_t hb _ _ (by omega) (by omega)) fun p hp => ?_
 have hmost : Tot (spec_l1Most.f p.1 0) (fun v => 0 ≤ v ∧ v ≤ 1000000) := by
  unfold spec_l1Most.f
  exact Tot.ite (fun h => Tot.some ⟨by omega, by omega⟩) fun h => Tot.some ⟨by omega, by omega⟩
 refine Tot.bind hmost fun v hv => ?_
 rw [ordEmpty v hv.1 hv.2 k (by omega), Option.bind_some]
 have hz := numB_size v (by omega) (by omega)
 refine Tot.bind (of_t hb p.2.1 p.2.2 _ (by decide) (by omega) (by omega)) fun o ho => ?_
 have z1 : o.1.size ≤ 100 := sz_of ho.1 (by decide)
 obtain ⟨k1, k2, k3⟩ := hS.ok
 have hcat : (numB v ++ o.1).size ≤ 1000 := by rw [ByteArray.size_append]; omega
 rw [if_pos (by omega), specGood _ _ _ _ _ k1 hS.t hS.r k2 k3 k (by omega), Option.bind_some]
 refine Tot.ite (fun g => ?_) fun _ => ?_
 ·refine Tot.bind (one_t hb o.2.1 o.2.2 2 (by omega) (by omega)) fun q hq => ?_
  exact drawPO_j hb k (by omega) _ hcat _ _ _ (by omega) (by omega) _ _ _ _ _ hS (fun _ => g)
 ·exact drawPO_j hb k (by omega) _ hcat _ _ _ (by omega) (by omega) _ _ _ _ _ hS (fun h => by cases h)
def LocL (q : ByteArray × (List S65) × (List S67) × ByteArray × ByteArray × List ByteArray) : Prop := SmallL 8 q.1 q.2.1 q.2.2.1 q.2.2.2.1 q.2.2.2.2.1 ∧ q.2.2.2.2.2.length ≤ 100 ∧ ∀ x ∈ q.2.2.2.2.2, x.size ≤ 1048576
theorem shortL {L : List ByteArray} {x : ByteArray} (h : ∀ y ∈ L, y.size ≤ 1048576) (hx : x.size ≤ 100) : ∀ y ∈ L ++ [x], y.size ≤ 1048576 := by
 intro y hy
 rcases List.mem_append.1 hy with hy | hy
 ·exact h y hy
 ·rw [List.mem_singleton.1 hy]; omega
theorem drawLT_l1 {l : List Int} (hb : Byt l) (d : Nat) : ∀ (k : Nat) (a sd : Int) (L : List ByteArray), 20 ≤ L.length + d → L.length ≤ 20 → d + 200 < k → 0 ≤ a → a + 2 * d ≤ 500 → (∀ y ∈ L, y.size ≤ 1048576) →
  Tot (spec_DrawListText.l1 k L l a sd) LocL := by
 induction d with
 | zero =>
  intro k a sd L hd hl hk h0 h1 hL
  obtain ⟨k, rfl⟩ := succ_of hk
  rw [spec_DrawListText.l1]
  refine Tot.bind (pick_t hb a sd 2 h0 (by omega)) fun p hp => ?_
  have e : wrap64 (10 + p.1) = 10 + p.1 := w64 (by omega) (by omega)
  rw [e, if_neg (by omega)]
  refine Tot.bind (any_t hb p.2.1 p.2.2 k (by omega) (by omega) (by omega)) fun m hm => ?_
  exact Tot.some ⟨hm.1, by dsimp only; omega, hL⟩
 | succ d ih =>
  intro k a sd L hd hl hk h0 h1 hL
  obtain ⟨k, rfl⟩ := succ_of hk
  rw [spec_DrawListText.l1]
  refine Tot.bind (pick_t hb a sd 2 h0 (by omega)) fun p hp => ?_
  have e : wrap64 (10 + p.1) = 10 + p.1 := w64 (by omega) (by omega)
  rw [e]
  refine Tot.ite (fun g => ?_) fun _ => ?_
  ·rw [if_pos (by omega)]
   have hlen : (L ++ [(⟨#[113]⟩ : ByteArray)]).length = L.length + 1 := by rw [List.length_append]; rfl
   exact ih k p.2.1 p.2.2 _ (by rw [hlen]; omega) (by rw [hlen]; omega) (by omega) (by omega) (by omega) (shortL hL (by decide))
  ·refine Tot.bind (any_t hb p.2.1 p.2.2 k (by omega) (by omega) (by omega)) fun m hm => ?_
   exact Tot.some ⟨hm.1, by dsimp only; omega, hL⟩
theorem drawLT_l0 {l : List Int} (hb : Byt l) (d : Nat) : ∀ (k : Nat) (a sd : Int) (L : List ByteArray), L.length + d ≤ 5 → d + 300 < k → 0 ≤ a → a + 2 * d ≤ 100 → (∀ y ∈ L, y.size ≤ 1048576) →
  Tot (spec_DrawListText.l0 k L (d : Int) l a sd) LocL := by
 induction d with
 | zero =>
  intro k a sd L hl hk h0 h1 hL
  obtain ⟨k, rfl⟩ := succ_of hk
  rw [spec_DrawListText.l0, if_neg (by omega)]
  refine Tot.bind (pick_t hb a sd 40 h0 (by omega)) fun p hp => ?_
  refine Tot.ite (fun _ => ?_) fun _ => ?_
  ·refine Tot.bind (of_t hb p.2.1 p.2.2 _ (by decide) (by omega) (by omega)) fun o ho => ?_
   have z1 : o.1.size ≤ 100 := sz_of ho.1 (by decide)
   rw [if_pos (by omega)]
   refine Tot.bind (any_t hb o.2.1 o.2.2 k (by omega) (by omega) (by omega)) fun m hm => ?_
   refine Tot.some ⟨hm.1, ?_, shortL hL z1⟩
   show (L ++ [o.1]).length ≤ 100
   rw [List.length_append, List.length_singleton]
   omega
  refine Tot.ite (fun _ => ?_) fun _ => ?_
  ·exact drawLT_l1 hb 20 k p.2.1 p.2.2 L (by omega) (by omega) (by omega) (by omega) (by omega) hL
  ·refine Tot.bind (any_t hb p.2.1 p.2.2 k (by omega) (by omega) (by omega)) fun m hm => ?_
   exact Tot.some ⟨hm.1, by dsimp only; omega, hL⟩
 | succ d ih =>
  intro k a sd L hl hk h0 h1 hL
  obtain ⟨k, rfl⟩ := succ_of hk
  rw [spec_DrawListText.l0, if_pos (by omega)]
  refine Tot.bind (of_t hb a sd _ (by decide) h0 (by omega)) fun o ho => ?_
  have z1 : o.1.size ≤ 100 := sz_of ho.1 (by decide)
  rw [if_pos (by omega), show wrap64 (((d + 1 : Nat) : Int) - 1) = (d : Int) by rw [w64 (by omega) (by omega)]; omega]
  exact ih k o.2.1 o.2.2 _ (by rw [List.length_append, List.length_singleton]; omega) (by omega) (by omega) (by omega) (shortL hL z1)
theorem drawLT_t {l : List Int} (hb : Byt l) (k : Nat) (hk : 1000 < k) : Tot (spec_DrawListText.f k l) LocL := by
 unfold spec_DrawListText.f
 refine Tot.bind (pick_t hb 0 0 5 (by omega) (by omega)) fun p hp => ?_
 obtain ⟨c, hc⟩ : ∃ c : Nat, p.1 = (c : Int) := ⟨p.1.toNat, by omega⟩
 rw [hc]
 exact drawLT_l0 hb c k p.2.1 p.2.2 [] (by show 0 + c ≤ 5; omega) (by omega) (by omega) (by omega) (fun y hy => absurd hy (List.not_mem_nil))
theorem drawRT_t {l : List Int} (hb : Byt l) : Tot (spec_DrawRomanText.f l) (fun _ => True) := by
 unfold spec_DrawRomanText.f
 refine Tot.bind (pick_t hb 0 0 4000 (by omega) (by omega)) fun p hp => ?_
 refine Tot.bind (among_t hb p.2.1 p.2.2 _ (by simp) (by omega) (by omega)) fun q hq => ?_
 refine Tot.bind (one_t hb q.2.1 q.2.2 2 (by omega) (by omega)) fun r hr => ?_
 exact Tot.some trivial
end Go.Proofs.YtmkkcpdpfelalaaGreatDoor.P
