/- Draws of terms and of lists of locales come to something, within bounds. Conditions: those of each lemma. -/
import Derived.Test.YtleckcbiifhanaaDoorZPx0
import Derived.Test.YtleckcbiifhanaaDoorZPx1
import Derived.Test.YtleckcbiifhanaaDoorZPx14
import Derived.Test.YtleckcbiifhanaaDoorZPx15
import Derived.Test.YtleckcbiifhanaaDoorZPx16
import Derived.Test.YtleckcbiifhanaaDoorZPx17
import Derived.Test.YtleckcbiifhanaaDoorZPx5
import Derived.Test.YtleckcbiifhanaaDoorZLBase
import Derived.Test.YtleckcbiifhanaaDoorZLDraw
import Derived.Test.YtleckcbiifhanaaDoorZLDrawLoc
import Derived.Test.YtleckcbiifhanaaDoorZLLocFall
namespace Go.Proofs.YtleckcbiifhanaaDoor.P
open Go.RowKit Go.Proofs.YtleckcbiifhanaaDoorW.PrintWords Go.Proofs.YtleckcbiifhanaaDoorW.PrintLast Go.Proofs.YtleckcbiifhanaaDoorW.PrintMore
set_option linter.unusedVariables false
set_option linter.unusedSimpArgs false
def LocT (q : ByteArray × (List S29) × (List S66) × ByteArray × ByteArray × ByteArray × ByteArray × ByteArray) : Prop := SmallL 8 q.1 q.2.1 q.2.2.1 q.2.2.2.1 q.2.2.2.2.1 ∧ q.2.2.2.2.2.1.size ≤ 100 ∧ q.2.2.2.2.2.2.1.size ≤ 100 ∧ q.2.2.2.2.2.2.2.size ≤ 100
theorem drawAT_t {l : List Int} (hb : Byt l) (k : Nat) (hk : 1000 < k) : Tot (spec_DrawAddTerm.f k l) LocT := by
 unfold spec_DrawAddTerm.f
 refine Tot.bind (any_t hb 0 0 k (by omega) (by omega) (by omega)) fun m hm => ?_
 obtain ⟨hs, m1, m2⟩ := hm
 refine Tot.bind (of_t hb _ _ _ (by decide) (by omega) (by omega)) fun o ho => ?_
 refine Tot.bind (of_t hb _ _ _ (by decide) (by omega) (by omega)) fun p hp => ?_
 refine Tot.bind (of_t hb _ _ _ (by decide) (by omega) (by omega)) fun r hr => ?_
 exact Tot.some ⟨hs, sz_of ho.1 (by decide), sz_of hp.1 (by decide), sz_of hr.1 (by decide)⟩
def LocN (q : ByteArray × (List S29) × (List S66) × ByteArray × ByteArray × ByteArray × Int) : Prop := SmallL 8 q.1 q.2.1 q.2.2.1 q.2.2.2.1 q.2.2.2.2.1 ∧ q.2.2.2.2.2.1.size ≤ 100
theorem drawTF_t {l : List Int} (hb : Byt l) (k : Nat) (hk : 1000 < k) : Tot (spec_DrawTermFor.f k l) LocN := by
 unfold spec_DrawTermFor.f
 refine Tot.bind (any_t hb 0 0 k (by omega) (by omega) (by omega)) fun m hm => ?_
 obtain ⟨hs, m1, m2⟩ := hm
 refine Tot.bind (of_t hb _ _ _ (by decide) (by omega) (by omega)) fun o ho => ?_
 refine Tot.bind (num_t hb _ _ (by omega) (by omega)) fun p hp => ?_
 exact Tot.some ⟨hs, sz_of ho.1 (by decide)⟩
theorem drawCT_t {l : List Int} (hb : Byt l) (k : Nat) (hk : 1000 < k) : Tot (spec_DrawCountText.f k l) LocN := by
 unfold spec_DrawCountText.f
 refine Tot.bind (drawTF_t hb k hk) fun p hp => ?_
 exact Tot.some hp
def LocM (q : ByteArray × (List S29) × (List S66) × ByteArray × ByteArray × ByteArray × (List S29) × (List S66) × ByteArray × ByteArray) : Prop := SmallL 8 q.1 q.2.1 q.2.2.1 q.2.2.2.1 q.2.2.2.2.1 ∧ SmallL 8 q.2.2.2.2.2.1 q.2.2.2.2.2.2.1 q.2.2.2.2.2.2.2.1 q.2.2.2.2.2.2.2.2.1 q.2.2.2.2.2.2.2.2.2
theorem drawMT_t {l : List Int} (hb : Byt l) (k : Nat) (hk : 1000 < k) : Tot (spec_DrawMissingTerms.f k l) LocM := by
 unfold spec_DrawMissingTerms.f
 refine Tot.bind (any_t hb 0 0 k (by omega) (by omega) (by omega)) fun m hm => ?_
 obtain ⟨hs, m1, m2⟩ := hm
 refine Tot.bind (any_t hb _ _ k (by omega) (by omega) (by omega)) fun p hp => ?_
 exact Tot.some ⟨hs, hp.1⟩
theorem SmallL.ok1 {m : Nat} {n : ByteArray} {ts : List S29} {rs : List S66} {la tw : ByteArray} (h : SmallL m n ts rs la tw) (hm : m ≤ 1000) : okL1 (⟨n, ts, rs, la, tw⟩ : S27) := by
 obtain ⟨k1, k2, k3⟩ := h.ok
 have h1 := h.tl
 have h2 := h.rl
 exact ⟨k1, ⟨by show ts.length ≤ _; omega, h.t⟩, ⟨by show rs.length ≤ _; omega, h.r⟩, k2, k3⟩
def LocF (q : (List S27) × ByteArray × Int) : Prop := ∀ x ∈ q.1, okL1 x
theorem okL_add {L : List S27} {x : S27} (h : ∀ y ∈ L, okL1 y) (hx : okL1 x) : ∀ y ∈ L ++ [x], okL1 y := by
 intro y hy
 rcases List.mem_append.1 hy with hy | hy
 ·exact h y hy
 ·rw [List.mem_singleton.1 hy]; exact hx
theorem drawFT_end {l : List Int} (hb : Byt l) (L : List S27) (h : ∀ y ∈ L, okL1 y) (a sd : Int) (h0 : 0 ≤ a) (h1 : a ≤ 10000) (W : List ByteArray) (hW : 0 < W.length) :
  Tot ((spec_l1Cur_of.f l a sd W).bind fun o => ((spec_l1Cur_number23.f l o.2.1 o.2.2).bind fun p => (some (L, o.1, p.1)))) LocF := by
 refine Tot.bind (of_t hb _ _ _ hW (by omega) (by omega)) fun o ho => ?_
 refine Tot.bind (num_t hb _ _ (by omega) (by omega)) fun p hp => ?_
 exact Tot.some h
theorem drawFT_l1 {l : List Int} (hb : Byt l) (d : Nat) : ∀ (k : Nat) (a sd : Int) (L : List S27), 7 ≤ L.length + d → L.length ≤ 7 → d + 200 < k → 0 ≤ a → a + 60 * d ≤ 900 → (∀ y ∈ L, okL1 y) →
  Tot (spec_DrawFallbackTerm.l1 k L l a sd) LocF := by
 induction d with
 | zero =>
  intro k a sd L hd hl hk h0 h1 hL
  obtain ⟨k, rfl⟩ := succ_of hk
  rw [spec_DrawFallbackTerm.l1]
  refine Tot.bind (pick_t hb a sd 2 h0 (by omega)) fun p hp => ?_
  rw [w64 (x := 5 + p.1) (by omega) (by omega), if_neg (by omega)]
  exact drawFT_end hb L hL _ _ (by omega) (by omega) _ (by decide)
 | succ d ih =>
  intro k a sd L hd hl hk h0 h1 hL
  obtain ⟨k, rfl⟩ := succ_of hk
  rw [spec_DrawFallbackTerm.l1]
  refine Tot.bind (pick_t hb a sd 2 h0 (by omega)) fun p hp => ?_
  rw [w64 (x := 5 + p.1) (by omega) (by omega)]
  refine Tot.ite (fun g => ?_) fun _ => ?_
  ·refine Tot.bind (loc_t hb p.2.1 p.2.2 k (by omega) (by omega) (by omega)) fun m hm => ?_
   obtain ⟨hs, m1, m2⟩ := hm
   rw [if_pos (by omega)]
   have hlen : (L ++ [(⟨m.1, m.2.1, m.2.2.1, m.2.2.2.1, m.2.2.2.2.1⟩ : S27)]).length = L.length + 1 := by rw [List.length_append]; rfl
   exact ih k _ _ _ (by rw [hlen]; omega) (by rw [hlen]; omega) (by omega) (by omega) (by omega) (okL_add hL (hs.ok1 (by omega)))
  ·exact drawFT_end hb L hL _ _ (by omega) (by omega) _ (by decide)
theorem drawFT_l0 {l : List Int} (hb : Byt l) (d : Nat) : ∀ (k : Nat) (a sd : Int) (L : List S27), L.length + d ≤ 4 → d + 300 < k → 0 ≤ a → a + 110 * d ≤ 450 → (∀ y ∈ L, okL1 y) →
  Tot (spec_DrawFallbackTerm.l0 k L (d : Int) l a sd) LocF := by
 induction d with
 | zero =>
  intro k a sd L hl hk h0 h1 hL
  obtain ⟨k, rfl⟩ := succ_of hk
  rw [spec_DrawFallbackTerm.l0, if_neg (by omega)]
  refine Tot.bind (one_t hb a sd 40 h0 (by omega)) fun p hp => ?_
  refine Tot.ite (fun _ => ?_) fun _ => ?_
  ·exact drawFT_l1 hb 7 k _ _ L (by omega) (by omega) (by omega) (by omega) (by omega) hL
  ·exact drawFT_end hb L hL _ _ (by omega) (by omega) _ (by decide)
 | succ d ih =>
  intro k a sd L hl hk h0 h1 hL
  obtain ⟨k, rfl⟩ := succ_of hk
  rw [spec_DrawFallbackTerm.l0, if_pos (by omega)]
  refine Tot.bind (any_t hb a sd k (by omega) (by omega) (by omega)) fun m hm => ?_
  obtain ⟨hs, m1, m2⟩ := hm
  rw [if_pos (by omega), show wrap64 (((d + 1 : Nat) : Int) - 1) = (d : Int) by rw [w64 (by omega) (by omega)]; omega]
  have hlen : (L ++ [(⟨m.1, m.2.1, m.2.2.1, m.2.2.2.1, m.2.2.2.2.1⟩ : S27)]).length = L.length + 1 := by rw [List.length_append]; rfl
  exact ih k _ _ _ (by rw [hlen]; omega) (by omega) (by omega) (by omega) (okL_add hL (hs.ok1 (by omega)))
theorem drawFT_t {l : List Int} (hb : Byt l) (k : Nat) (hk : 1000 < k) : Tot (spec_DrawFallbackTerm.f k l) LocF := by
 unfold spec_DrawFallbackTerm.f
 refine Tot.bind (pick_t hb 0 0 4 (by omega) (by omega)) fun p hp => ?_
 obtain ⟨c, hc⟩ : ∃ c : Nat, p.1 = (c : Int) := ⟨p.1.toNat, by omega⟩
 rw [hc]
 exact drawFT_l0 hb c k p.2.1 p.2.2 [] (by show 0 + c ≤ 4; omega) (by omega) (by omega) (by omega) (fun y hy => absurd hy List.not_mem_nil)
end Go.Proofs.YtleckcbiifhanaaDoor.P
