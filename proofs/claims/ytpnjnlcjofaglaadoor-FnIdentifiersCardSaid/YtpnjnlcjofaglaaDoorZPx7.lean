/- Written by a program in this session: each theorem here says that a Go function computes the Lean function beside it, or that a law's row holds, under the conditions that the theorem itself states. -/
import Derived.Test.YtpnjnlcjofaglaaDoorZPx0
import Derived.Test.YtpnjnlcjofaglaaDoorZPx4
import Derived.Test.YtpnjnlcjofaglaaDoorZPx5
import Derived.Test.YtpnjnlcjofaglaaDoorZPx6
namespace Go.Proofs.YtpnjnlcjofaglaaDoor.P
open Go.RowKit Go.Proofs.YtpnjnlcjofaglaaDoorW.PrintWords Go.Proofs.YtpnjnlcjofaglaaDoorW.PrintLast Go.Proofs.YtpnjnlcjofaglaaDoorW.PrintMore
attribute [local go_sem] max2_int min2_int max_two min_two max_three min_three max_four min_four   -- for this text's walks alone
set_option linter.unusedVariables false
set_option linter.unusedSimpArgs false
mutual
def spec_DrawCompactForm.j0 : Nat → ByteArray → ByteArray → Bool → List Int → Int → Int → Option (ByteArray)
 | 0,_,_,_,_,_,_ => none
 | k + 1,x4,x5,x23,x223000,x223001,x223002 => if x23 = true then (spec_DrawCompactForm.j1 k x5 x223000 x223001 x223002) else (spec_DrawCompactForm.j1 k x4 x223000 x223001 x223002)
def spec_DrawCompactForm.j1 : Nat → ByteArray → List Int → Int → Int → Option (ByteArray)
 | 0,_,_,_,_ => none
 | k + 1,x4,x223000,x223001,x223002 => (spec_l1Cur_one.f x223000 x223001 x223002 3).bind fun bt234 => (if bt234.1 = true then ((spec_l1Cur_spoilt.f x223000 bt234.2.1 bt234.2.2 x4 (⟨#[48,88,45]⟩ : ByteArray)).bind fun bt237 => (some bt237.1)) else (some x4))
end
def spec_DrawCompactForm.f (k : Nat) (l0 : List Int) : Option (ByteArray) := (spec_l1Cur_kind24.f l0 0 0).bind fun bt223 => ((spec_l1Cur_id24.f k l0 bt223.2.1 bt223.2.2 bt223.1).bind fun bt226 => ((spec_WrittenForm.f k bt226.1).bind fun bt229 => (if bt229.2 = true then ((spec_l1Cur_one.f l0 bt226.2.1 bt226.2.2 2).bind fun bt231 => (spec_DrawCompactForm.j0 k bt226.1 bt229.1 bt231.1 l0 bt231.2.1 bt231.2.2)) else (spec_DrawCompactForm.j0 k bt226.1 bt229.1 false l0 bt226.2.1 bt226.2.2))))
theorem spec_DrawCompactForm.mono_l : ∀ k,(∀ y0 y1 y2 y3 y4 y5,LeO (spec_DrawCompactForm.j0 k y0 y1 y2 y3 y4 y5) (spec_DrawCompactForm.j0 (k + 1) y0 y1 y2 y3 y4 y5)) ∧ (∀ y0 y1 y2 y3,LeO (spec_DrawCompactForm.j1 k y0 y1 y2 y3) (spec_DrawCompactForm.j1 (k + 1) y0 y1 y2 y3))
 | 0 => ⟨fun _ _ _ _ _ _ r h => by simp [spec_DrawCompactForm.j0] at h,fun _ _ _ _ r h => by simp [spec_DrawCompactForm.j1] at h⟩
 | k + 1 => by
  obtain ⟨ih0,ih1⟩ := spec_DrawCompactForm.mono_l k
  refine ⟨?_,?_⟩
  ·intro y0 y1 y2 y3 y4 y5
   unfold spec_DrawCompactForm.j0
   repeat' first
   | (with_reducible exact ih0 _ _ _ _ _ _)
   | (with_reducible exact ih1 _ _ _ _)
   | (with_reducible exact spec_WrittenForm.mono _ _)
   | (with_reducible exact spec_l1Cur_id24.mono _ _ _ _ _)
   | (with_reducible exact LeO.refl _)
   | (with_reducible exact LeO.none _)
   | (with_reducible refine LeO.ite ?_ ?_)
   | (with_reducible refine LeO.bind ?_ (fun _ => ?_))
   | exact ih0 _ _ _ _ _ _
   | exact ih1 _ _ _ _
   | exact spec_WrittenForm.mono _ _
   | exact spec_l1Cur_id24.mono _ _ _ _ _
   | exact LeO.none _
   | refine LeO.ite ?_ ?_
   | refine LeO.bind ?_ (fun _ => ?_)
  ·intro y0 y1 y2 y3
   unfold spec_DrawCompactForm.j1
   repeat' first
   | (with_reducible exact ih0 _ _ _ _ _ _)
   | (with_reducible exact ih1 _ _ _ _)
   | (with_reducible exact spec_WrittenForm.mono _ _)
   | (with_reducible exact spec_l1Cur_id24.mono _ _ _ _ _)
   | (with_reducible exact LeO.refl _)
   | (with_reducible exact LeO.none _)
   | (with_reducible refine LeO.ite ?_ ?_)
   | (with_reducible refine LeO.bind ?_ (fun _ => ?_))
   | exact ih0 _ _ _ _ _ _
   | exact ih1 _ _ _ _
   | exact spec_WrittenForm.mono _ _
   | exact spec_l1Cur_id24.mono _ _ _ _ _
   | exact LeO.none _
   | refine LeO.ite ?_ ?_
   | refine LeO.bind ?_ (fun _ => ?_)
theorem spec_DrawCompactForm.mono : ∀ a0 k,LeO (spec_DrawCompactForm.f k a0) (spec_DrawCompactForm.f (k + 1) a0) := by
 intro a0 k
 obtain ⟨ih0,ih1⟩ := spec_DrawCompactForm.mono_l k
 unfold spec_DrawCompactForm.f
 repeat' first
   | (with_reducible exact ih0 _ _ _ _ _ _)
   | (with_reducible exact ih1 _ _ _ _)
   | (with_reducible exact spec_WrittenForm.mono _ _)
   | (with_reducible exact spec_l1Cur_id24.mono _ _ _ _ _)
   | (with_reducible exact LeO.refl _)
   | (with_reducible exact LeO.none _)
   | (with_reducible refine LeO.ite ?_ ?_)
   | (with_reducible refine LeO.bind ?_ (fun _ => ?_))
   | exact ih0 _ _ _ _ _ _
   | exact ih1 _ _ _ _
   | exact spec_WrittenForm.mono _ _
   | exact spec_l1Cur_id24.mono _ _ _ _ _
   | exact LeO.none _
   | refine LeO.ite ?_ ?_
   | refine LeO.bind ?_ (fun _ => ?_)
set_option maxHeartbeats 8000000 in
set_option maxRecDepth 100000 in
theorem spec_DrawCompactForm.calls (k : Nat) (A0 : Option Addr) (c0 : Nat) (l0 : List Int) (r : ByteArray) (w : World) (hr0 : Kd.C (Kd.int .u8) w A0 l0.length l0) (hc0 : l0.length ≤ c0) (h : spec_DrawCompactForm.f k l0 = some r) :
  Calls Tryd.prog 26 #[.slice A0 l0.length c0] w fun e w' => e = .returned (.string r) ∧ Below w.heap.size w w' := by
 have hu56 := Tryd.underlying56
 have HR0 := Aside0.mk hr0
 have HC0 := Aside0.mk hc0
 clear hr0 hc0
 have HB := Aside0.mk (Below.refl w.heap.size w)
 have H : ((spec_l1Cur_kind24.f l0 0 0).bind fun bt223 => ((spec_l1Cur_id24.f k l0 bt223.2.1 bt223.2.2 bt223.1).bind fun bt226 => ((spec_WrittenForm.f k bt226.1).bind fun bt229 => (if bt229.2 = true then ((spec_l1Cur_one.f l0 bt226.2.1 bt226.2.2 2).bind fun bt231 => (spec_DrawCompactForm.j0 k bt226.1 bt229.1 bt231.1 l0 bt231.2.1 bt231.2.2)) else (spec_DrawCompactForm.j0 k bt226.1 bt229.1 false l0 bt226.2.1 bt226.2.2))))) = some r := h
 clear h
 replace H := Option.bind_eq_some_iff.mp H
 obtain ⟨⟨t223,t224,t225⟩,A20,H⟩ := H
 replace H : ((spec_l1Cur_id24.f k l0 t224 t225 t223).bind fun bt226 => ((spec_WrittenForm.f k bt226.1).bind fun bt229 => (if bt229.2 = true then ((spec_l1Cur_one.f l0 bt226.2.1 bt226.2.2 2).bind fun bt231 => (spec_DrawCompactForm.j0 k bt226.1 bt229.1 bt231.1 l0 bt231.2.1 bt231.2.2)) else (spec_DrawCompactForm.j0 k bt226.1 bt229.1 false l0 bt226.2.1 bt226.2.2)))) = some r := H
 have A2 := Aside0.mk A20
 clear A20
 replace H := Option.bind_eq_some_iff.mp H
 obtain ⟨⟨t226,t227,t228⟩,A30,H⟩ := H
 replace H : ((spec_WrittenForm.f k t226).bind fun bt229 => (if bt229.2 = true then ((spec_l1Cur_one.f l0 t227 t228 2).bind fun bt231 => (spec_DrawCompactForm.j0 k t226 bt229.1 bt231.1 l0 bt231.2.1 bt231.2.2)) else (spec_DrawCompactForm.j0 k t226 bt229.1 false l0 t227 t228))) = some r := H
 have A3 := Aside0.mk A30
 clear A30
 replace H := Option.bind_eq_some_iff.mp H
 obtain ⟨⟨t229,t230⟩,A40,H⟩ := H
 replace H : (if t230 = true then ((spec_l1Cur_one.f l0 t227 t228 2).bind fun bt231 => (spec_DrawCompactForm.j0 k t226 t229 bt231.1 l0 bt231.2.1 bt231.2.2)) else (spec_DrawCompactForm.j0 k t226 t229 false l0 t227 t228)) = some r := H
 have A4 := Aside0.mk A40
 clear A40
 have HC5 := Aside0.mk H
 clear H
 go_enter Tryd.func26,Tryd.ntmps26
 go_upto_region 4 with (first|((with_reducible refine gate_dst (N := 9) rfl ?_);refine box_event ?hg (N := 9) ?hd (cs := #[.slice A0 l0.length c0,.int .i64 0,.int .u64 0]) (t := 56) ?hr ?_;(case hd => rfl);(case hg => rfl);(case hr => first|(go_simp;done)|(go_simp;rfl));intro gb222 hg w6 hbox hb;have n0_ := Aside0.mk (below_step (by repeat (first|(with_reducible first|exact HB.out|apply lA|apply lN|apply lD)|exact HB.out)) hb);have n1_ := Aside0.mk ((show IsS56 w w6 gb222 l0 0 0 from ⟨_,_,hbox,(by rw [hg];exact (below_size (by repeat (first|(with_reducible first|exact HB.out|apply lA|apply lN|apply lD)|exact HB.out))) : w.heap.size ≤ gb222),HR0.out⟩));clear HB;have HB := n0_;have HI222 := n1_;clear n0_ n1_;clear hb hbox hg)|((with_reducible refine gate_callee (f := 48) rfl ?_);refine goesL_ (some 12) rfl rfl Tryd.func48 (by kernel_rfl) rfl #[.pointer (some ⟨gb222,0,none⟩)] rfl (by (try simp only [List.map_toArray,List.map_cons,List.map_nil]);first|done|rfl|(simp only [List.length_drop,List.length_take];rfl)) ?_;(with_reducible refine (spec_l1Cur_kind24.calls gb222 l0 0 0 t223 t224 t225 w _ ?side1 ?side2 A2.out).mono ?_);(case side1 => repeat (first|(with_reducible first|exact HI222.out|apply IsS56.alloc|apply IsS56.drewN|apply IsS56.drew|apply IsS56.set_1|apply IsS56.set_2)|exact HI222.out));(case side2 => repeat (first|(with_reducible first|exact HB.out|apply lA|apply lN|apply lD|refine below_set ?_ (IsS56.ge HI222.out))|exact HB.out));rintro e w7 ⟨rfl,hi,hb,hk⟩;refine ⟨_,rfl,?_⟩;have n0_ := Aside0.mk (hb);have n1_ := Aside0.mk (hi);clear HB;clear HI222;have HB := n0_;have HI222 := n1_;clear n0_ n1_;(try clear hb);(try clear hb2);(try clear hk);(try clear hi))|((with_reducible refine gate_callee (f := 47) rfl ?_);refine goesL_ (some 13) rfl rfl Tryd.func47 (by kernel_rfl) rfl #[.pointer (some ⟨gb222,0,none⟩),.int .i64 t223] rfl (by (try simp only [List.map_toArray,List.map_cons,List.map_nil]);first|done|rfl|(simp only [List.length_drop,List.length_take];rfl)) ?_;(with_reducible refine (spec_l1Cur_id24.calls k gb222 l0 t224 t225 t223 t226 t227 t228 w _ ?side1 ?side2 A3.out).mono ?_);(case side1 => repeat (first|(with_reducible first|exact HI222.out|apply IsS56.alloc|apply IsS56.drewN|apply IsS56.drew|apply IsS56.set_1|apply IsS56.set_2)|exact HI222.out));(case side2 => repeat (first|(with_reducible first|exact HB.out|apply lA|apply lN|apply lD|refine below_set ?_ (IsS56.ge HI222.out))|exact HB.out));rintro e w8 ⟨rfl,hi,hb,hk⟩;refine ⟨_,rfl,?_⟩;have n0_ := Aside0.mk (hb);have n1_ := Aside0.mk (hi);clear HB;clear HI222;have HB := n0_;have HI222 := n1_;clear n0_ n1_;(try clear hb);(try clear hb2);(try clear hk);(try clear hi))|((with_reducible refine gate_callee (f := 55) rfl ?_);refine goesL_ (some 16) rfl rfl Tryd.func55 (by kernel_rfl) rfl #[.string t226] rfl (by (try simp only [List.map_toArray,List.map_cons,List.map_nil]);first|done|rfl|(simp only [List.length_drop,List.length_take];rfl)) ?_;(with_reducible refine (spec_WrittenForm.calls k t226 t229 t230 _ A4.out).mono ?_);rintro e w' ⟨rfl,⟨nd,rfl⟩⟩;refine ⟨_,rfl,?_⟩))
 (try simp only [Act.put,List.setIfInBounds_toArray,List.set_cons_zero,List.set_cons_succ])
 go_cut [23] (fun v23 wc => ∃ (kq : Nat) (x23_4 : Bool) (x223001_4 : Int) (x223002_4 : Int),v23 = .bool x23_4 ∧ Aside0 (spec_DrawCompactForm.j0 kq t226 t229 x23_4 l0 x223001_4 x223002_4 = some r) ∧ Aside0 (kq ≤ k) ∧ Aside0 (IsS56 w wc gb222 l0 x223001_4 x223002_4) ∧ Aside0 (Below w.heap.size w wc))
 case first =>
  have H := HC5.out
  clear HC5
  by_cases c9 : t230 = true
  ·subst c9
   have H1 : ((spec_l1Cur_one.f l0 t227 t228 2).bind fun bt231 => (spec_DrawCompactForm.j0 k t226 t229 bt231.1 l0 bt231.2.1 bt231.2.2)) = some r := by rw [if_pos rfl] at H;exact H
   clear H
   have H := H1
   clear H1
   replace H := Option.bind_eq_some_iff.mp H
   obtain ⟨⟨t231,t232,t233⟩,A100,H⟩ := H
   replace H : (spec_DrawCompactForm.j0 k t226 t229 t231 l0 t232 t233) = some r := H
   have A10 := Aside0.mk A100
   clear A100
   have H' := Aside0.mk H
   clear H
   go_wp2_with (first|(go_at_call 46;(with_reducible refine (spec_l1Cur_one.calls gb222 l0 t227 t228 2 t231 t232 t233 w _ ?side1 ?side2 A10.out).mono ?_);(case side1 => repeat (first|(with_reducible first|exact HI222.out|apply IsS56.alloc|apply IsS56.drewN|apply IsS56.drew|apply IsS56.set_1|apply IsS56.set_2)|exact HI222.out));(case side2 => repeat (first|(with_reducible first|exact HB.out|apply lA|apply lN|apply lD|refine below_set ?_ (IsS56.ge HI222.out))|exact HB.out));rintro e w11 ⟨rfl,hi,hb,hk⟩;have n0_ := Aside0.mk (hb);have n1_ := Aside0.mk (hi);clear HB;clear HI222;have HB := n0_;have HI222 := n1_;clear n0_ n1_;(try clear hb);(try clear hb2);(try clear hk);(try clear hi)))
   go_meet
   case rel => exact ⟨_,(t231),(t232),(t233),(by first|rfl|(simp;done)|(simp [my_isEmpty];done)|(simp [*];done)),H',⟨by first|omega|exact Nat.le_refl _⟩,⟨by repeat (first|(with_reducible first|exact HI222.out|apply IsS56.alloc|apply IsS56.drewN|apply IsS56.drew|apply IsS56.set_1|apply IsS56.set_2)|exact HI222.out)⟩,⟨by repeat (first|(with_reducible first|exact HB.out|apply lA|apply lN|apply lD|refine below_set ?_ (IsS56.ge HI222.out))|exact HB.out)⟩⟩
  ·replace c9 := Bool.eq_false_iff.mpr c9
   subst c9
   have H1 : (spec_DrawCompactForm.j0 k t226 t229 false l0 t227 t228) = some r := by rw [if_neg (show ¬ (false = true) by decide)] at H;exact H
   clear H
   have H := H1
   clear H1
   have H' := Aside0.mk H
   clear H
   go_wp2
   go_meet
   case rel => exact ⟨_,(false),(t227),(t228),(by first|rfl|(simp;done)|(simp [my_isEmpty];done)|(simp [*];done)),H',⟨by first|omega|exact Nat.le_refl _⟩,⟨by repeat (first|(with_reducible first|exact HI222.out|apply IsS56.alloc|apply IsS56.drewN|apply IsS56.drew|apply IsS56.set_1|apply IsS56.set_2)|exact HI222.out)⟩,⟨by repeat (first|(with_reducible first|exact HB.out|apply lA|apply lN|apply lD|refine below_set ?_ (IsS56.ge HI222.out))|exact HB.out)⟩⟩
 case rest =>
  clear HC5
  try clear c2
  try clear p2
  try clear c4
  try clear c5
  try clear c9
  obtain ⟨kq,x23_4,x223001_4,x223002_4,rfl,HA,HJ4,HI222,HB⟩ := hcut
  cases kq with
  | zero => exact absurd HA.out (by simp [spec_DrawCompactForm.j0])
  | succ kj4 =>
   have H := HA.out
   clear HA
   simp only [spec_DrawCompactForm.j0] at H
   have HC12 := Aside0.mk H
   clear H
   go_upto_if 23 with (fail)
   go_cut [4] (fun v4 wc => ∃ (kq : Nat) (x4_11 : ByteArray),v4 = .string x4_11 ∧ Aside0 (spec_DrawCompactForm.j1 kq x4_11 l0 x223001_4 x223002_4 = some r) ∧ Aside0 (kq ≤ kj4) ∧ Aside0 (IsS56 w wc gb222 l0 x223001_4 x223002_4) ∧ Aside0 (Below w.heap.size w wc))
   case first =>
    have H := HC12.out
    clear HC12
    by_cases c13 : x23_4 = true
    ·subst c13
     have H1 : (spec_DrawCompactForm.j1 kj4 t229 l0 x223001_4 x223002_4) = some r := by rw [if_pos rfl] at H;exact H
     clear H
     have H := H1
     clear H1
     have H' := Aside0.mk H
     clear H
     go_wp2
     go_meet
     case rel => exact ⟨_,(t229),(by first|rfl|(simp;done)|(simp [my_isEmpty];done)|(simp [*];done)),H',⟨by have := HJ4.out;first|omega|exact Nat.le_refl _⟩,⟨by repeat (first|(with_reducible first|exact HI222.out|apply IsS56.alloc|apply IsS56.drewN|apply IsS56.drew|apply IsS56.set_1|apply IsS56.set_2)|exact HI222.out)⟩,⟨by repeat (first|(with_reducible first|exact HB.out|apply lA|apply lN|apply lD|refine below_set ?_ (IsS56.ge HI222.out))|exact HB.out)⟩⟩
    ·replace c13 := Bool.eq_false_iff.mpr c13
     subst c13
     have H1 : (spec_DrawCompactForm.j1 kj4 t226 l0 x223001_4 x223002_4) = some r := by rw [if_neg (show ¬ (false = true) by decide)] at H;exact H
     clear H
     have H := H1
     clear H1
     have H' := Aside0.mk H
     clear H
     go_wp2
     go_meet
     case rel => exact ⟨_,(t226),(by first|rfl|(simp;done)|(simp [my_isEmpty];done)|(simp [*];done)),H',⟨by have := HJ4.out;first|omega|exact Nat.le_refl _⟩,⟨by repeat (first|(with_reducible first|exact HI222.out|apply IsS56.alloc|apply IsS56.drewN|apply IsS56.drew|apply IsS56.set_1|apply IsS56.set_2)|exact HI222.out)⟩,⟨by repeat (first|(with_reducible first|exact HB.out|apply lA|apply lN|apply lD|refine below_set ?_ (IsS56.ge HI222.out))|exact HB.out)⟩⟩
   case rest =>
    clear HC12
    try clear c1
    try clear c2
    try clear p2
    try clear c4
    try clear c5
    try clear c9
    try clear c13
    try clear p2
    obtain ⟨kq,x4_11,rfl,HA,HJ11,HI222,HB⟩ := hcut
    cases kq with
    | zero => exact absurd HA.out (by simp [spec_DrawCompactForm.j1])
    | succ kj11 =>
     have H := HA.out
     clear HA
     simp only [spec_DrawCompactForm.j1] at H
     replace H := Option.bind_eq_some_iff.mp H
     obtain ⟨⟨t234,t235,t236⟩,A140,H⟩ := H
     replace H : (if t234 = true then ((spec_l1Cur_spoilt.f l0 t235 t236 x4_11 (⟨#[48,88,45]⟩ : ByteArray)).bind fun bt237 => (some bt237.1)) else (some x4_11)) = some r := H
     have A14 := Aside0.mk A140
     clear A140
     by_cases c15 : t234 = true
     ·subst c15
      have H1 : ((spec_l1Cur_spoilt.f l0 t235 t236 x4_11 (⟨#[48,88,45]⟩ : ByteArray)).bind fun bt237 => (some bt237.1)) = some r := by rw [if_pos rfl] at H;exact H
      clear H
      have H := H1
      clear H1
      replace H := Option.bind_eq_some_iff.mp H
      obtain ⟨⟨t237,t238,t239⟩,A160,H⟩ := H
      replace H : (some t237) = some r := H
      have A16 := Aside0.mk A160
      clear A160
      obtain rfl := Option.some.inj H
      simp only [Option.some.injEq,Prod.mk.injEq] at H
      obtain ⟨rfl⟩ := H
      go_wp2_with (first|((with_reducible refine gate_callee (f := 46) rfl ?_);refine goesL_ (some 26) rfl rfl Tryd.func46 (by kernel_rfl) rfl #[.pointer (some ⟨gb222,0,none⟩),.int .i64 3] rfl (by (try simp only [List.map_toArray,List.map_cons,List.map_nil]);first|done|rfl|(simp only [List.length_drop,List.length_take];rfl)) ?_;(with_reducible refine (spec_l1Cur_one.calls gb222 l0 x223001_4 x223002_4 3 true t235 t236 w _ ?side1 ?side2 A14.out).mono ?_);(case side1 => repeat (first|(with_reducible first|exact HI222.out|apply IsS56.alloc|apply IsS56.drewN|apply IsS56.drew|apply IsS56.set_1|apply IsS56.set_2)|exact HI222.out));(case side2 => repeat (first|(with_reducible first|exact HB.out|apply lA|apply lN|apply lD|refine below_set ?_ (IsS56.ge HI222.out))|exact HB.out));rintro e w17 ⟨rfl,hi,hb,hk⟩;refine ⟨_,rfl,?_⟩;have n0_ := Aside0.mk (hb);have n1_ := Aside0.mk (hi);clear HB;clear HI222;have HB := n0_;have HI222 := n1_;clear n0_ n1_;(try clear hb);(try clear hb2);(try clear hk);(try clear hi))|((with_reducible refine gate_callee (f := 50) rfl ?_);refine goesL_ (some 29) rfl rfl Tryd.func50 (by kernel_rfl) rfl #[.pointer (some ⟨gb222,0,none⟩),.string x4_11,.string (⟨#[48,88,45]⟩ : ByteArray)] rfl (by (try simp only [List.map_toArray,List.map_cons,List.map_nil]);first|done|rfl|(simp only [List.length_drop,List.length_take];rfl)) ?_;(with_reducible refine (spec_l1Cur_spoilt.calls gb222 l0 t235 t236 x4_11 (⟨#[48,88,45]⟩ : ByteArray) t237 t238 t239 w _ ?side1 ?side2 A16.out).mono ?_);(case side1 => repeat (first|(with_reducible first|exact HI222.out|apply IsS56.alloc|apply IsS56.drewN|apply IsS56.drew|apply IsS56.set_1|apply IsS56.set_2)|exact HI222.out));(case side2 => repeat (first|(with_reducible first|exact HB.out|apply lA|apply lN|apply lD|refine below_set ?_ (IsS56.ge HI222.out))|exact HB.out));rintro e w18 ⟨rfl,hi,hb,hk⟩;refine ⟨_,rfl,?_⟩;have n0_ := Aside0.mk (hb);have n1_ := Aside0.mk (hi);clear HB;clear HI222;have HB := n0_;have HI222 := n1_;clear n0_ n1_;(try clear hb);(try clear hb2);(try clear hk);(try clear hi)))
      go_ret
      exact ⟨by first|rfl|(simp [errW_none,errW_some] <;> rfl)|(simp [*,errW_none,errW_some] <;> rfl),by repeat (first|(with_reducible first|exact HB.out|apply lA|apply lN|apply lD|refine below_set ?_ (IsS56.ge HI222.out))|exact HB.out)⟩
     ·replace c15 := Bool.eq_false_iff.mpr c15
      subst c15
      have H1 : (some x4_11) = some r := by rw [if_neg (show ¬ (false = true) by decide)] at H;exact H
      clear H
      have H := H1
      clear H1
      obtain rfl := Option.some.inj H
      simp only [Option.some.injEq,Prod.mk.injEq] at H
      obtain ⟨rfl⟩ := H
      go_wp2_with (first|((with_reducible refine gate_callee (f := 46) rfl ?_);refine goesL_ (some 26) rfl rfl Tryd.func46 (by kernel_rfl) rfl #[.pointer (some ⟨gb222,0,none⟩),.int .i64 3] rfl (by (try simp only [List.map_toArray,List.map_cons,List.map_nil]);first|done|rfl|(simp only [List.length_drop,List.length_take];rfl)) ?_;(with_reducible refine (spec_l1Cur_one.calls gb222 l0 x223001_4 x223002_4 3 false t235 t236 w _ ?side1 ?side2 A14.out).mono ?_);(case side1 => repeat (first|(with_reducible first|exact HI222.out|apply IsS56.alloc|apply IsS56.drewN|apply IsS56.drew|apply IsS56.set_1|apply IsS56.set_2)|exact HI222.out));(case side2 => repeat (first|(with_reducible first|exact HB.out|apply lA|apply lN|apply lD|refine below_set ?_ (IsS56.ge HI222.out))|exact HB.out));rintro e w19 ⟨rfl,hi,hb,hk⟩;refine ⟨_,rfl,?_⟩;have n0_ := Aside0.mk (hb);have n1_ := Aside0.mk (hi);clear HB;clear HI222;have HB := n0_;have HI222 := n1_;clear n0_ n1_;(try clear hb);(try clear hb2);(try clear hk);(try clear hi)))
      go_ret
      exact ⟨by first|rfl|(simp [errW_none,errW_some] <;> rfl)|(simp [*,errW_none,errW_some] <;> rfl),by repeat (first|(with_reducible first|exact HB.out|apply lA|apply lN|apply lD|refine below_set ?_ (IsS56.ge HI222.out))|exact HB.out)⟩
def spec_DrawSwapsOf.j0 : Nat → Int → ByteArray → List Int → Int → Int → Option (Int × ByteArray)
 | 0,_,_,_,_,_ => none
 | k + 1,x5,x6,x241000,x241001,x241002 => (spec_l1Cur_pick.f x241000 x241001 x241002 24).bind fun bt256 => (if bt256.1 = 0 then ((spec_l1Cur_among.f x241000 bt256.2.1 bt256.2.2 (([0,5,1] : List Int))).bind fun bt262 => (some (bt262.1,x6))) else (if bt256.1 = 1 then ((spec_l1Cur_spoilt.f x241000 bt256.2.1 bt256.2.2 x6 (⟨#[48,88]⟩ : ByteArray)).bind fun bt265 => (some (x5,bt265.1))) else (some (x5,x6))))
def spec_DrawSwapsOf.f (k : Nat) (l0 : List Int) : Option (Int × ByteArray) := (spec_l1Cur_kind24.f l0 0 0).bind fun bt241 => ((spec_l1Cur_id24.f k l0 bt241.2.1 bt241.2.2 bt241.1).bind fun bt244 => ((spec_l1Cur_pick.f l0 bt244.2.1 bt244.2.2 4).bind fun bt247 => (if bt247.1 = 0 then ((spec_l1Cur_pick.f l0 bt247.2.1 bt247.2.2 (wrap64 ((bt244.1.size : Int) - 1))).bind fun bt250 => (if 0 ≤ bt250.1 then (if bt250.1 ≤ (bt244.1.size : Int) then (if 0 ≤ (wrap64 (bt250.1 + 1)) then (if (wrap64 (bt250.1 + 1)) ≤ (wrap64 (bt250.1 + 2)) then (if (wrap64 (bt250.1 + 2)) ≤ (bt244.1.size : Int) then (if (bt244.1.extract 0 (bt250.1 : Int).toNat).size + (bt244.1.extract ((wrap64 (bt250.1 + 1)) : Int).toNat ((wrap64 (bt250.1 + 2)) : Int).toNat).size ≤ 9223372036854775807 then (if bt250.1 ≤ (wrap64 (bt250.1 + 1)) then (if (wrap64 (bt250.1 + 1)) ≤ (bt244.1.size : Int) then (if ((bt244.1.extract 0 (bt250.1 : Int).toNat) ++ (bt244.1.extract ((wrap64 (bt250.1 + 1)) : Int).toNat ((wrap64 (bt250.1 + 2)) : Int).toNat)).size + (bt244.1.extract (bt250.1 : Int).toNat ((wrap64 (bt250.1 + 1)) : Int).toNat).size ≤ 9223372036854775807 then (if 0 ≤ (wrap64 (bt250.1 + 2)) then (if (((bt244.1.extract 0 (bt250.1 : Int).toNat) ++ (bt244.1.extract ((wrap64 (bt250.1 + 1)) : Int).toNat ((wrap64 (bt250.1 + 2)) : Int).toNat)) ++ (bt244.1.extract (bt250.1 : Int).toNat ((wrap64 (bt250.1 + 1)) : Int).toNat)).size + (bt244.1.extract ((wrap64 (bt250.1 + 2)) : Int).toNat bt244.1.size).size ≤ 9223372036854775807 then (spec_DrawSwapsOf.j0 k bt241.1 ((((bt244.1.extract 0 (bt250.1 : Int).toNat) ++ (bt244.1.extract ((wrap64 (bt250.1 + 1)) : Int).toNat ((wrap64 (bt250.1 + 2)) : Int).toNat)) ++ (bt244.1.extract (bt250.1 : Int).toNat ((wrap64 (bt250.1 + 1)) : Int).toNat)) ++ (bt244.1.extract ((wrap64 (bt250.1 + 2)) : Int).toNat bt244.1.size)) l0 bt250.2.1 bt250.2.2) else (none)) else (none)) else (none)) else (none)) else (none)) else (none)) else (none)) else (none)) else (none)) else (none)) else (none))) else (if bt247.1 = 1 then ((spec_l1Cur_digits24.f k l0 bt247.2.1 bt247.2.2 (bt244.1.size : Int)).bind fun bt253 => (spec_DrawSwapsOf.j0 k bt241.1 bt253.1 l0 bt253.2.1 bt253.2.2)) else (spec_DrawSwapsOf.j0 k bt241.1 bt244.1 l0 bt247.2.1 bt247.2.2)))))
theorem spec_DrawSwapsOf.mono_l : ∀ k,(∀ y0 y1 y2 y3 y4,LeO (spec_DrawSwapsOf.j0 k y0 y1 y2 y3 y4) (spec_DrawSwapsOf.j0 (k + 1) y0 y1 y2 y3 y4))
 | 0 => fun _ _ _ _ _ r h => by simp [spec_DrawSwapsOf.j0] at h
 | k + 1 => by
  have ih0 := spec_DrawSwapsOf.mono_l k
  ·intro y0 y1 y2 y3 y4
   unfold spec_DrawSwapsOf.j0
   repeat' first
   | (with_reducible exact ih0 _ _ _ _ _)
   | (with_reducible exact spec_l1Cur_digits24.mono _ _ _ _ _)
   | (with_reducible exact spec_l1Cur_id24.mono _ _ _ _ _)
   | (with_reducible exact LeO.refl _)
   | (with_reducible exact LeO.none _)
   | (with_reducible refine LeO.ite ?_ ?_)
   | (with_reducible refine LeO.bind ?_ (fun _ => ?_))
   | exact ih0 _ _ _ _ _
   | exact spec_l1Cur_digits24.mono _ _ _ _ _
   | exact spec_l1Cur_id24.mono _ _ _ _ _
   | exact LeO.none _
   | refine LeO.ite ?_ ?_
   | refine LeO.bind ?_ (fun _ => ?_)
theorem spec_DrawSwapsOf.mono : ∀ a0 k,LeO (spec_DrawSwapsOf.f k a0) (spec_DrawSwapsOf.f (k + 1) a0) := by
 intro a0 k
 have ih0 := spec_DrawSwapsOf.mono_l k
 unfold spec_DrawSwapsOf.f
 repeat' first
   | (with_reducible exact ih0 _ _ _ _ _)
   | (with_reducible exact spec_l1Cur_digits24.mono _ _ _ _ _)
   | (with_reducible exact spec_l1Cur_id24.mono _ _ _ _ _)
   | (with_reducible exact LeO.refl _)
   | (with_reducible exact LeO.none _)
   | (with_reducible refine LeO.ite ?_ ?_)
   | (with_reducible refine LeO.bind ?_ (fun _ => ?_))
   | exact ih0 _ _ _ _ _
   | exact spec_l1Cur_digits24.mono _ _ _ _ _
   | exact spec_l1Cur_id24.mono _ _ _ _ _
   | exact LeO.none _
   | refine LeO.ite ?_ ?_
   | refine LeO.bind ?_ (fun _ => ?_)
set_option maxHeartbeats 8000000 in
set_option maxRecDepth 100000 in
theorem spec_DrawSwapsOf.calls (k : Nat) (A0 : Option Addr) (c0 : Nat) (l0 : List Int) (r1 : Int) (r2 : ByteArray) (w : World) (hr0 : Kd.C (Kd.int .u8) w A0 l0.length l0) (hc0 : l0.length ≤ c0) (h : spec_DrawSwapsOf.f k l0 = some (r1,r2)) :
  Calls Tryd.prog 29 #[.slice A0 l0.length c0] w fun e w' => e = .returned (.tuple #[.int .i64 r1,.string r2]) ∧ Below w.heap.size w w' := by
 have hu56 := Tryd.underlying56
 have HR0 := Aside0.mk hr0
 have HC0 := Aside0.mk hc0
 clear hr0 hc0
 have HB := Aside0.mk (Below.refl w.heap.size w)
 have H : ((spec_l1Cur_kind24.f l0 0 0).bind fun bt241 => ((spec_l1Cur_id24.f k l0 bt241.2.1 bt241.2.2 bt241.1).bind fun bt244 => ((spec_l1Cur_pick.f l0 bt244.2.1 bt244.2.2 4).bind fun bt247 => (if bt247.1 = 0 then ((spec_l1Cur_pick.f l0 bt247.2.1 bt247.2.2 (wrap64 ((bt244.1.size : Int) - 1))).bind fun bt250 => (if 0 ≤ bt250.1 then (if bt250.1 ≤ (bt244.1.size : Int) then (if 0 ≤ (wrap64 (bt250.1 + 1)) then (if (wrap64 (bt250.1 + 1)) ≤ (wrap64 (bt250.1 + 2)) then (if (wrap64 (bt250.1 + 2)) ≤ (bt244.1.size : Int) then (if (bt244.1.extract 0 (bt250.1 : Int).toNat).size + (bt244.1.extract ((wrap64 (bt250.1 + 1)) : Int).toNat ((wrap64 (bt250.1 + 2)) : Int).toNat).size ≤ 9223372036854775807 then (if bt250.1 ≤ (wrap64 (bt250.1 + 1)) then (if (wrap64 (bt250.1 + 1)) ≤ (bt244.1.size : Int) then (if ((bt244.1.extract 0 (bt250.1 : Int).toNat) ++ (bt244.1.extract ((wrap64 (bt250.1 + 1)) : Int).toNat ((wrap64 (bt250.1 + 2)) : Int).toNat)).size + (bt244.1.extract (bt250.1 : Int).toNat ((wrap64 (bt250.1 + 1)) : Int).toNat).size ≤ 9223372036854775807 then (if 0 ≤ (wrap64 (bt250.1 + 2)) then (if (((bt244.1.extract 0 (bt250.1 : Int).toNat) ++ (bt244.1.extract ((wrap64 (bt250.1 + 1)) : Int).toNat ((wrap64 (bt250.1 + 2)) : Int).toNat)) ++ (bt244.1.extract (bt250.1 : Int).toNat ((wrap64 (bt250.1 + 1)) : Int).toNat)).size + (bt244.1.extract ((wrap64 (bt250.1 + 2)) : Int).toNat bt244.1.size).size ≤ 9223372036854775807 then (spec_DrawSwapsOf.j0 k bt241.1 ((((bt244.1.extract 0 (bt250.1 : Int).toNat) ++ (bt244.1.extract ((wrap64 (bt250.1 + 1)) : Int).toNat ((wrap64 (bt250.1 + 2)) : Int).toNat)) ++ (bt244.1.extract (bt250.1 : Int).toNat ((wrap64 (bt250.1 + 1)) : Int).toNat)) ++ (bt244.1.extract ((wrap64 (bt250.1 + 2)) : Int).toNat bt244.1.size)) l0 bt250.2.1 bt250.2.2) else (none)) else (none)) else (none)) else (none)) else (none)) else (none)) else (none)) else (none)) else (none)) else (none)) else (none))) else (if bt247.1 = 1 then ((spec_l1Cur_digits24.f k l0 bt247.2.1 bt247.2.2 (bt244.1.size : Int)).bind fun bt253 => (spec_DrawSwapsOf.j0 k bt241.1 bt253.1 l0 bt253.2.1 bt253.2.2)) else (spec_DrawSwapsOf.j0 k bt241.1 bt244.1 l0 bt247.2.1 bt247.2.2)))))) = some (r1,r2) := h
 clear h
 replace H := Option.bind_eq_some_iff.mp H
 obtain ⟨⟨t241,t242,t243⟩,A20,H⟩ := H
 replace H : ((spec_l1Cur_id24.f k l0 t242 t243 t241).bind fun bt244 => ((spec_l1Cur_pick.f l0 bt244.2.1 bt244.2.2 4).bind fun bt247 => (if bt247.1 = 0 then ((spec_l1Cur_pick.f l0 bt247.2.1 bt247.2.2 (wrap64 ((bt244.1.size : Int) - 1))).bind fun bt250 => (if 0 ≤ bt250.1 then (if bt250.1 ≤ (bt244.1.size : Int) then (if 0 ≤ (wrap64 (bt250.1 + 1)) then (if (wrap64 (bt250.1 + 1)) ≤ (wrap64 (bt250.1 + 2)) then (if (wrap64 (bt250.1 + 2)) ≤ (bt244.1.size : Int) then (if (bt244.1.extract 0 (bt250.1 : Int).toNat).size + (bt244.1.extract ((wrap64 (bt250.1 + 1)) : Int).toNat ((wrap64 (bt250.1 + 2)) : Int).toNat).size ≤ 9223372036854775807 then (if bt250.1 ≤ (wrap64 (bt250.1 + 1)) then (if (wrap64 (bt250.1 + 1)) ≤ (bt244.1.size : Int) then (if ((bt244.1.extract 0 (bt250.1 : Int).toNat) ++ (bt244.1.extract ((wrap64 (bt250.1 + 1)) : Int).toNat ((wrap64 (bt250.1 + 2)) : Int).toNat)).size + (bt244.1.extract (bt250.1 : Int).toNat ((wrap64 (bt250.1 + 1)) : Int).toNat).size ≤ 9223372036854775807 then (if 0 ≤ (wrap64 (bt250.1 + 2)) then (if (((bt244.1.extract 0 (bt250.1 : Int).toNat) ++ (bt244.1.extract ((wrap64 (bt250.1 + 1)) : Int).toNat ((wrap64 (bt250.1 + 2)) : Int).toNat)) ++ (bt244.1.extract (bt250.1 : Int).toNat ((wrap64 (bt250.1 + 1)) : Int).toNat)).size + (bt244.1.extract ((wrap64 (bt250.1 + 2)) : Int).toNat bt244.1.size).size ≤ 9223372036854775807 then (spec_DrawSwapsOf.j0 k t241 ((((bt244.1.extract 0 (bt250.1 : Int).toNat) ++ (bt244.1.extract ((wrap64 (bt250.1 + 1)) : Int).toNat ((wrap64 (bt250.1 + 2)) : Int).toNat)) ++ (bt244.1.extract (bt250.1 : Int).toNat ((wrap64 (bt250.1 + 1)) : Int).toNat)) ++ (bt244.1.extract ((wrap64 (bt250.1 + 2)) : Int).toNat bt244.1.size)) l0 bt250.2.1 bt250.2.2) else (none)) else (none)) else (none)) else (none)) else (none)) else (none)) else (none)) else (none)) else (none)) else (none)) else (none))) else (if bt247.1 = 1 then ((spec_l1Cur_digits24.f k l0 bt247.2.1 bt247.2.2 (bt244.1.size : Int)).bind fun bt253 => (spec_DrawSwapsOf.j0 k t241 bt253.1 l0 bt253.2.1 bt253.2.2)) else (spec_DrawSwapsOf.j0 k t241 bt244.1 l0 bt247.2.1 bt247.2.2))))) = some (r1,r2) := H
 have A2 := Aside0.mk A20
 clear A20
 replace H := Option.bind_eq_some_iff.mp H
 obtain ⟨⟨t244,t245,t246⟩,A30,H⟩ := H
 replace H : ((spec_l1Cur_pick.f l0 t245 t246 4).bind fun bt247 => (if bt247.1 = 0 then ((spec_l1Cur_pick.f l0 bt247.2.1 bt247.2.2 (wrap64 ((t244.size : Int) - 1))).bind fun bt250 => (if 0 ≤ bt250.1 then (if bt250.1 ≤ (t244.size : Int) then (if 0 ≤ (wrap64 (bt250.1 + 1)) then (if (wrap64 (bt250.1 + 1)) ≤ (wrap64 (bt250.1 + 2)) then (if (wrap64 (bt250.1 + 2)) ≤ (t244.size : Int) then (if (t244.extract 0 (bt250.1 : Int).toNat).size + (t244.extract ((wrap64 (bt250.1 + 1)) : Int).toNat ((wrap64 (bt250.1 + 2)) : Int).toNat).size ≤ 9223372036854775807 then (if bt250.1 ≤ (wrap64 (bt250.1 + 1)) then (if (wrap64 (bt250.1 + 1)) ≤ (t244.size : Int) then (if ((t244.extract 0 (bt250.1 : Int).toNat) ++ (t244.extract ((wrap64 (bt250.1 + 1)) : Int).toNat ((wrap64 (bt250.1 + 2)) : Int).toNat)).size + (t244.extract (bt250.1 : Int).toNat ((wrap64 (bt250.1 + 1)) : Int).toNat).size ≤ 9223372036854775807 then (if 0 ≤ (wrap64 (bt250.1 + 2)) then (if (((t244.extract 0 (bt250.1 : Int).toNat) ++ (t244.extract ((wrap64 (bt250.1 + 1)) : Int).toNat ((wrap64 (bt250.1 + 2)) : Int).toNat)) ++ (t244.extract (bt250.1 : Int).toNat ((wrap64 (bt250.1 + 1)) : Int).toNat)).size + (t244.extract ((wrap64 (bt250.1 + 2)) : Int).toNat t244.size).size ≤ 9223372036854775807 then (spec_DrawSwapsOf.j0 k t241 ((((t244.extract 0 (bt250.1 : Int).toNat) ++ (t244.extract ((wrap64 (bt250.1 + 1)) : Int).toNat ((wrap64 (bt250.1 + 2)) : Int).toNat)) ++ (t244.extract (bt250.1 : Int).toNat ((wrap64 (bt250.1 + 1)) : Int).toNat)) ++ (t244.extract ((wrap64 (bt250.1 + 2)) : Int).toNat t244.size)) l0 bt250.2.1 bt250.2.2) else (none)) else (none)) else (none)) else (none)) else (none)) else (none)) else (none)) else (none)) else (none)) else (none)) else (none))) else (if bt247.1 = 1 then ((spec_l1Cur_digits24.f k l0 bt247.2.1 bt247.2.2 (t244.size : Int)).bind fun bt253 => (spec_DrawSwapsOf.j0 k t241 bt253.1 l0 bt253.2.1 bt253.2.2)) else (spec_DrawSwapsOf.j0 k t241 t244 l0 bt247.2.1 bt247.2.2)))) = some (r1,r2) := H
 have A3 := Aside0.mk A30
 clear A30
 replace H := Option.bind_eq_some_iff.mp H
 obtain ⟨⟨t247,t248,t249⟩,A40,H⟩ := H
 replace H : (if t247 = 0 then ((spec_l1Cur_pick.f l0 t248 t249 (wrap64 ((t244.size : Int) - 1))).bind fun bt250 => (if 0 ≤ bt250.1 then (if bt250.1 ≤ (t244.size : Int) then (if 0 ≤ (wrap64 (bt250.1 + 1)) then (if (wrap64 (bt250.1 + 1)) ≤ (wrap64 (bt250.1 + 2)) then (if (wrap64 (bt250.1 + 2)) ≤ (t244.size : Int) then (if (t244.extract 0 (bt250.1 : Int).toNat).size + (t244.extract ((wrap64 (bt250.1 + 1)) : Int).toNat ((wrap64 (bt250.1 + 2)) : Int).toNat).size ≤ 9223372036854775807 then (if bt250.1 ≤ (wrap64 (bt250.1 + 1)) then (if (wrap64 (bt250.1 + 1)) ≤ (t244.size : Int) then (if ((t244.extract 0 (bt250.1 : Int).toNat) ++ (t244.extract ((wrap64 (bt250.1 + 1)) : Int).toNat ((wrap64 (bt250.1 + 2)) : Int).toNat)).size + (t244.extract (bt250.1 : Int).toNat ((wrap64 (bt250.1 + 1)) : Int).toNat).size ≤ 9223372036854775807 then (if 0 ≤ (wrap64 (bt250.1 + 2)) then (if (((t244.extract 0 (bt250.1 : Int).toNat) ++ (t244.extract ((wrap64 (bt250.1 + 1)) : Int).toNat ((wrap64 (bt250.1 + 2)) : Int).toNat)) ++ (t244.extract (bt250.1 : Int).toNat ((wrap64 (bt250.1 + 1)) : Int).toNat)).size + (t244.extract ((wrap64 (bt250.1 + 2)) : Int).toNat t244.size).size ≤ 9223372036854775807 then (spec_DrawSwapsOf.j0 k t241 ((((t244.extract 0 (bt250.1 : Int).toNat) ++ (t244.extract ((wrap64 (bt250.1 + 1)) : Int).toNat ((wrap64 (bt250.1 + 2)) : Int).toNat)) ++ (t244.extract (bt250.1 : Int).toNat ((wrap64 (bt250.1 + 1)) : Int).toNat)) ++ (t244.extract ((wrap64 (bt250.1 + 2)) : Int).toNat t244.size)) l0 bt250.2.1 bt250.2.2) else (none)) else (none)) else (none)) else (none)) else (none)) else (none)) else (none)) else (none)) else (none)) else (none)) else (none))) else (if t247 = 1 then ((spec_l1Cur_digits24.f k l0 t248 t249 (t244.size : Int)).bind fun bt253 => (spec_DrawSwapsOf.j0 k t241 bt253.1 l0 bt253.2.1 bt253.2.2)) else (spec_DrawSwapsOf.j0 k t241 t244 l0 t248 t249))) = some (r1,r2) := H
 have A4 := Aside0.mk A40
 clear A40
 have HC5 := Aside0.mk H
 clear H
 go_enter Tryd.func29,Tryd.ntmps29
 go_upto_block 0 with (first|((with_reducible refine gate_dst (N := 10) rfl ?_);refine box_event ?hg (N := 10) ?hd (cs := #[.slice A0 l0.length c0,.int .i64 0,.int .u64 0]) (t := 56) ?hr ?_;(case hd => rfl);(case hg => rfl);(case hr => first|(go_simp;done)|(go_simp;rfl));intro gb240 hg w6 hbox hb;have n0_ := Aside0.mk (below_step (by repeat (first|(with_reducible first|exact HB.out|apply lA|apply lN|apply lD)|exact HB.out)) hb);have n1_ := Aside0.mk ((show IsS56 w w6 gb240 l0 0 0 from ⟨_,_,hbox,(by rw [hg];exact (below_size (by repeat (first|(with_reducible first|exact HB.out|apply lA|apply lN|apply lD)|exact HB.out))) : w.heap.size ≤ gb240),HR0.out⟩));clear HB;have HB := n0_;have HI240 := n1_;clear n0_ n1_;clear hb hbox hg)|(go_at_call 48;(with_reducible refine (spec_l1Cur_kind24.calls gb240 l0 0 0 t241 t242 t243 w _ ?side1 ?side2 A2.out).mono ?_);(case side1 => repeat (first|(with_reducible first|exact HI240.out|apply IsS56.alloc|apply IsS56.drewN|apply IsS56.drew|apply IsS56.set_1|apply IsS56.set_2)|exact HI240.out));(case side2 => repeat (first|(with_reducible first|exact HB.out|apply lA|apply lN|apply lD|refine below_set ?_ (IsS56.ge HI240.out))|exact HB.out));rintro e w7 ⟨rfl,hi,hb,hk⟩;have n0_ := Aside0.mk (hb);have n1_ := Aside0.mk (hi);clear HB;clear HI240;have HB := n0_;have HI240 := n1_;clear n0_ n1_;(try clear hb);(try clear hb2);(try clear hk);(try clear hi))|(go_at_call 47;(with_reducible refine (spec_l1Cur_id24.calls k gb240 l0 t242 t243 t241 t244 t245 t246 w _ ?side1 ?side2 A3.out).mono ?_);(case side1 => repeat (first|(with_reducible first|exact HI240.out|apply IsS56.alloc|apply IsS56.drewN|apply IsS56.drew|apply IsS56.set_1|apply IsS56.set_2)|exact HI240.out));(case side2 => repeat (first|(with_reducible first|exact HB.out|apply lA|apply lN|apply lD|refine below_set ?_ (IsS56.ge HI240.out))|exact HB.out));rintro e w8 ⟨rfl,hi,hb,hk⟩;have n0_ := Aside0.mk (hb);have n1_ := Aside0.mk (hi);clear HB;clear HI240;have HB := n0_;have HI240 := n1_;clear n0_ n1_;(try clear hb);(try clear hb2);(try clear hk);(try clear hi))|(go_at_call 49;(with_reducible refine (spec_l1Cur_pick.calls gb240 l0 t245 t246 4 t247 t248 t249 w _ ?side1 ?side2 A4.out).mono ?_);(case side1 => repeat (first|(with_reducible first|exact HI240.out|apply IsS56.alloc|apply IsS56.drewN|apply IsS56.drew|apply IsS56.set_1|apply IsS56.set_2)|exact HI240.out));(case side2 => repeat (first|(with_reducible first|exact HB.out|apply lA|apply lN|apply lD|refine below_set ?_ (IsS56.ge HI240.out))|exact HB.out));rintro e w9 ⟨rfl,hi,hb,hk⟩;have n0_ := Aside0.mk (hb);have n1_ := Aside0.mk (hi);clear HB;clear HI240;have HB := n0_;have HI240 := n1_;clear n0_ n1_;(try clear hb);(try clear hb2);(try clear hk);(try clear hi)))
 repeat (go_quiet (first|((with_reducible refine gate_dst (N := 10) rfl ?_);refine box_event ?hg (N := 10) ?hd (cs := #[.slice A0 l0.length c0,.int .i64 0,.int .u64 0]) (t := 56) ?hr ?_;(case hd => rfl);(case hg => rfl);(case hr => first|(go_simp;done)|(go_simp;rfl));intro gb240 hg w6 hbox hb;have n0_ := Aside0.mk (below_step (by repeat (first|(with_reducible first|exact HB.out|apply lA|apply lN|apply lD)|exact HB.out)) hb);have n1_ := Aside0.mk ((show IsS56 w w6 gb240 l0 0 0 from ⟨_,_,hbox,(by rw [hg];exact (below_size (by repeat (first|(with_reducible first|exact HB.out|apply lA|apply lN|apply lD)|exact HB.out))) : w.heap.size ≤ gb240),HR0.out⟩));clear HB;have HB := n0_;have HI240 := n1_;clear n0_ n1_;clear hb hbox hg)|(go_at_call 48;(with_reducible refine (spec_l1Cur_kind24.calls gb240 l0 0 0 t241 t242 t243 w _ ?side1 ?side2 A2.out).mono ?_);(case side1 => repeat (first|(with_reducible first|exact HI240.out|apply IsS56.alloc|apply IsS56.drewN|apply IsS56.drew|apply IsS56.set_1|apply IsS56.set_2)|exact HI240.out));(case side2 => repeat (first|(with_reducible first|exact HB.out|apply lA|apply lN|apply lD|refine below_set ?_ (IsS56.ge HI240.out))|exact HB.out));rintro e w7 ⟨rfl,hi,hb,hk⟩;have n0_ := Aside0.mk (hb);have n1_ := Aside0.mk (hi);clear HB;clear HI240;have HB := n0_;have HI240 := n1_;clear n0_ n1_;(try clear hb);(try clear hb2);(try clear hk);(try clear hi))|(go_at_call 47;(with_reducible refine (spec_l1Cur_id24.calls k gb240 l0 t242 t243 t241 t244 t245 t246 w _ ?side1 ?side2 A3.out).mono ?_);(case side1 => repeat (first|(with_reducible first|exact HI240.out|apply IsS56.alloc|apply IsS56.drewN|apply IsS56.drew|apply IsS56.set_1|apply IsS56.set_2)|exact HI240.out));(case side2 => repeat (first|(with_reducible first|exact HB.out|apply lA|apply lN|apply lD|refine below_set ?_ (IsS56.ge HI240.out))|exact HB.out));rintro e w8 ⟨rfl,hi,hb,hk⟩;have n0_ := Aside0.mk (hb);have n1_ := Aside0.mk (hi);clear HB;clear HI240;have HB := n0_;have HI240 := n1_;clear n0_ n1_;(try clear hb);(try clear hb2);(try clear hk);(try clear hi))|(go_at_call 49;(with_reducible refine (spec_l1Cur_pick.calls gb240 l0 t245 t246 4 t247 t248 t249 w _ ?side1 ?side2 A4.out).mono ?_);(case side1 => repeat (first|(with_reducible first|exact HI240.out|apply IsS56.alloc|apply IsS56.drewN|apply IsS56.drew|apply IsS56.set_1|apply IsS56.set_2)|exact HI240.out));(case side2 => repeat (first|(with_reducible first|exact HB.out|apply lA|apply lN|apply lD|refine below_set ?_ (IsS56.ge HI240.out))|exact HB.out));rintro e w9 ⟨rfl,hi,hb,hk⟩;have n0_ := Aside0.mk (hb);have n1_ := Aside0.mk (hi);clear HB;clear HI240;have HB := n0_;have HI240 := n1_;clear n0_ n1_;(try clear hb);(try clear hb2);(try clear hk);(try clear hi)));go_upto_block 0 with (first|((with_reducible refine gate_dst (N := 10) rfl ?_);refine box_event ?hg (N := 10) ?hd (cs := #[.slice A0 l0.length c0,.int .i64 0,.int .u64 0]) (t := 56) ?hr ?_;(case hd => rfl);(case hg => rfl);(case hr => first|(go_simp;done)|(go_simp;rfl));intro gb240 hg w6 hbox hb;have n0_ := Aside0.mk (below_step (by repeat (first|(with_reducible first|exact HB.out|apply lA|apply lN|apply lD)|exact HB.out)) hb);have n1_ := Aside0.mk ((show IsS56 w w6 gb240 l0 0 0 from ⟨_,_,hbox,(by rw [hg];exact (below_size (by repeat (first|(with_reducible first|exact HB.out|apply lA|apply lN|apply lD)|exact HB.out))) : w.heap.size ≤ gb240),HR0.out⟩));clear HB;have HB := n0_;have HI240 := n1_;clear n0_ n1_;clear hb hbox hg)|(go_at_call 48;(with_reducible refine (spec_l1Cur_kind24.calls gb240 l0 0 0 t241 t242 t243 w _ ?side1 ?side2 A2.out).mono ?_);(case side1 => repeat (first|(with_reducible first|exact HI240.out|apply IsS56.alloc|apply IsS56.drewN|apply IsS56.drew|apply IsS56.set_1|apply IsS56.set_2)|exact HI240.out));(case side2 => repeat (first|(with_reducible first|exact HB.out|apply lA|apply lN|apply lD|refine below_set ?_ (IsS56.ge HI240.out))|exact HB.out));rintro e w7 ⟨rfl,hi,hb,hk⟩;have n0_ := Aside0.mk (hb);have n1_ := Aside0.mk (hi);clear HB;clear HI240;have HB := n0_;have HI240 := n1_;clear n0_ n1_;(try clear hb);(try clear hb2);(try clear hk);(try clear hi))|(go_at_call 47;(with_reducible refine (spec_l1Cur_id24.calls k gb240 l0 t242 t243 t241 t244 t245 t246 w _ ?side1 ?side2 A3.out).mono ?_);(case side1 => repeat (first|(with_reducible first|exact HI240.out|apply IsS56.alloc|apply IsS56.drewN|apply IsS56.drew|apply IsS56.set_1|apply IsS56.set_2)|exact HI240.out));(case side2 => repeat (first|(with_reducible first|exact HB.out|apply lA|apply lN|apply lD|refine below_set ?_ (IsS56.ge HI240.out))|exact HB.out));rintro e w8 ⟨rfl,hi,hb,hk⟩;have n0_ := Aside0.mk (hb);have n1_ := Aside0.mk (hi);clear HB;clear HI240;have HB := n0_;have HI240 := n1_;clear n0_ n1_;(try clear hb);(try clear hb2);(try clear hk);(try clear hi))|(go_at_call 49;(with_reducible refine (spec_l1Cur_pick.calls gb240 l0 t245 t246 4 t247 t248 t249 w _ ?side1 ?side2 A4.out).mono ?_);(case side1 => repeat (first|(with_reducible first|exact HI240.out|apply IsS56.alloc|apply IsS56.drewN|apply IsS56.drew|apply IsS56.set_1|apply IsS56.set_2)|exact HI240.out));(case side2 => repeat (first|(with_reducible first|exact HB.out|apply lA|apply lN|apply lD|refine below_set ?_ (IsS56.ge HI240.out))|exact HB.out));rintro e w9 ⟨rfl,hi,hb,hk⟩;have n0_ := Aside0.mk (hb);have n1_ := Aside0.mk (hi);clear HB;clear HI240;have HB := n0_;have HI240 := n1_;clear n0_ n1_;(try clear hb);(try clear hb2);(try clear hk);(try clear hi))))
 (try simp only [Act.put,List.setIfInBounds_toArray,List.set_cons_zero,List.set_cons_succ])
 go_cut [6] (fun v6 wc => ∃ (kq : Nat) (x6_4 : ByteArray) (x241001_4 : Int) (x241002_4 : Int),v6 = .string x6_4 ∧ Aside0 (spec_DrawSwapsOf.j0 kq t241 x6_4 l0 x241001_4 x241002_4 = some (r1,r2)) ∧ Aside0 (kq ≤ k) ∧ Aside0 (IsS56 w wc gb240 l0 x241001_4 x241002_4) ∧ Aside0 (Below w.heap.size w wc))
 case first =>
  have H := HC5.out
  clear HC5
  by_cases c10 : t247 = 0
  ·rw [if_pos c10] at H
   have c10b0 : (t247 == 0) = true := beq_iff_eq.mpr c10
   have c10b1 : (t247 != 0) = false := bne_eq_false_iff_eq.mpr c10
   clear c10
   (first|rw [c10b0]|(simp only [i64_w,i32_w];rw [c10b0])|skip)
   replace H := Option.bind_eq_some_iff.mp H
   obtain ⟨⟨t250,t251,t252⟩,A110,H⟩ := H
   replace H : (if 0 ≤ t250 then (if t250 ≤ (t244.size : Int) then (if 0 ≤ (wrap64 (t250 + 1)) then (if (wrap64 (t250 + 1)) ≤ (wrap64 (t250 + 2)) then (if (wrap64 (t250 + 2)) ≤ (t244.size : Int) then (if (t244.extract 0 (t250 : Int).toNat).size + (t244.extract ((wrap64 (t250 + 1)) : Int).toNat ((wrap64 (t250 + 2)) : Int).toNat).size ≤ 9223372036854775807 then (if t250 ≤ (wrap64 (t250 + 1)) then (if (wrap64 (t250 + 1)) ≤ (t244.size : Int) then (if ((t244.extract 0 (t250 : Int).toNat) ++ (t244.extract ((wrap64 (t250 + 1)) : Int).toNat ((wrap64 (t250 + 2)) : Int).toNat)).size + (t244.extract (t250 : Int).toNat ((wrap64 (t250 + 1)) : Int).toNat).size ≤ 9223372036854775807 then (if 0 ≤ (wrap64 (t250 + 2)) then (if (((t244.extract 0 (t250 : Int).toNat) ++ (t244.extract ((wrap64 (t250 + 1)) : Int).toNat ((wrap64 (t250 + 2)) : Int).toNat)) ++ (t244.extract (t250 : Int).toNat ((wrap64 (t250 + 1)) : Int).toNat)).size + (t244.extract ((wrap64 (t250 + 2)) : Int).toNat t244.size).size ≤ 9223372036854775807 then (spec_DrawSwapsOf.j0 k t241 ((((t244.extract 0 (t250 : Int).toNat) ++ (t244.extract ((wrap64 (t250 + 1)) : Int).toNat ((wrap64 (t250 + 2)) : Int).toNat)) ++ (t244.extract (t250 : Int).toNat ((wrap64 (t250 + 1)) : Int).toNat)) ++ (t244.extract ((wrap64 (t250 + 2)) : Int).toNat t244.size)) l0 t251 t252) else (none)) else (none)) else (none)) else (none)) else (none)) else (none)) else (none)) else (none)) else (none)) else (none)) else (none)) = some (r1,r2) := H
   have A11 := Aside0.mk A110
   clear A110
   by_cases c12 : 0 ≤ t250
   ·rw [if_pos c12] at H
    have c12b0 := eq_true c12
    have c12b1 : decide (0 ≤ t250) = true := decide_eq_true c12
    clear c12
    by_cases c13 : t250 ≤ (t244.size : Int)
    ·rw [if_pos c13] at H
     have c13b0 := eq_true c13
     have c13b1 : decide (t250 ≤ (t244.size : Int)) = true := decide_eq_true c13
     clear c13
     obtain ⟨ji14,hji14⟩ : ∃ j_ : Int,(wrap64 (t250 + 1)) = j_ := ⟨_,rfl⟩
     replace H : (if 0 ≤ (ji14) then (if (ji14) ≤ (wrap64 (t250 + 2)) then (if (wrap64 (t250 + 2)) ≤ (t244.size : Int) then (if (t244.extract 0 (t250 : Int).toNat).size + (t244.extract ((ji14) : Int).toNat ((wrap64 (t250 + 2)) : Int).toNat).size ≤ 9223372036854775807 then (if t250 ≤ (ji14) then (if (ji14) ≤ (t244.size : Int) then (if ((t244.extract 0 (t250 : Int).toNat) ++ (t244.extract ((ji14) : Int).toNat ((wrap64 (t250 + 2)) : Int).toNat)).size + (t244.extract (t250 : Int).toNat ((ji14) : Int).toNat).size ≤ 9223372036854775807 then (if 0 ≤ (wrap64 (t250 + 2)) then (if (((t244.extract 0 (t250 : Int).toNat) ++ (t244.extract ((ji14) : Int).toNat ((wrap64 (t250 + 2)) : Int).toNat)) ++ (t244.extract (t250 : Int).toNat ((ji14) : Int).toNat)).size + (t244.extract ((wrap64 (t250 + 2)) : Int).toNat t244.size).size ≤ 9223372036854775807 then (spec_DrawSwapsOf.j0 k t241 ((((t244.extract 0 (t250 : Int).toNat) ++ (t244.extract ((ji14) : Int).toNat ((wrap64 (t250 + 2)) : Int).toNat)) ++ (t244.extract (t250 : Int).toNat ((ji14) : Int).toNat)) ++ (t244.extract ((wrap64 (t250 + 2)) : Int).toNat t244.size)) l0 t251 t252) else (none)) else (none)) else (none)) else (none)) else (none)) else (none)) else (none)) else (none)) else (none)) = some (r1,r2) := by first|(rw [hji14] at H;exact H)|(simp only [hji14] at H ⊢;exact H)
     (try rw [hji14] at A11)
     have hji14w : (IntKind.i64.wrap (t250 + 1)) = ji14 := (i64_w _).trans hji14
     by_cases c15 : 0 ≤ (ji14)
     ·rw [if_pos c15] at H
      have c15b0 := eq_true c15
      have c15b1 : decide (0 ≤ (ji14)) = true := decide_eq_true c15
      clear c15
      by_cases c16 : (ji14) ≤ (wrap64 (t250 + 2))
      ·rw [if_pos c16] at H
       have c16b0 := eq_true c16
       have c16b1 : decide ((ji14) ≤ (wrap64 (t250 + 2))) = true := decide_eq_true c16
       by_cases c17 : (wrap64 (t250 + 2)) ≤ (t244.size : Int)
       ·rw [if_pos c17] at H
        have c17b0 := eq_true c17
        have c17b1 : decide ((wrap64 (t250 + 2)) ≤ (t244.size : Int)) = true := decide_eq_true c17
        obtain ⟨sj18,hsj18⟩ : ∃ s_ : ByteArray,(t244.extract ((wrap64 (t250 + 2)) : Int).toNat t244.size) = s_ := ⟨_,rfl⟩
        replace H : (if (t244.extract 0 (t250 : Int).toNat).size + (t244.extract ((ji14) : Int).toNat ((wrap64 (t250 + 2)) : Int).toNat).size ≤ 9223372036854775807 then (if t250 ≤ (ji14) then (if (ji14) ≤ (t244.size : Int) then (if ((t244.extract 0 (t250 : Int).toNat) ++ (t244.extract ((ji14) : Int).toNat ((wrap64 (t250 + 2)) : Int).toNat)).size + (t244.extract (t250 : Int).toNat ((ji14) : Int).toNat).size ≤ 9223372036854775807 then (if 0 ≤ (wrap64 (t250 + 2)) then (if (((t244.extract 0 (t250 : Int).toNat) ++ (t244.extract ((ji14) : Int).toNat ((wrap64 (t250 + 2)) : Int).toNat)) ++ (t244.extract (t250 : Int).toNat ((ji14) : Int).toNat)).size + sj18.size ≤ 9223372036854775807 then (spec_DrawSwapsOf.j0 k t241 ((((t244.extract 0 (t250 : Int).toNat) ++ (t244.extract ((ji14) : Int).toNat ((wrap64 (t250 + 2)) : Int).toNat)) ++ (t244.extract (t250 : Int).toNat ((ji14) : Int).toNat)) ++ sj18) l0 t251 t252) else (none)) else (none)) else (none)) else (none)) else (none)) else (none)) = some (r1,r2) := by (have he_ : (t244.extract ((wrap64 (t250 + 2)) : Int).toNat t244.size) = sj18 := hsj18);first|(rw [he_] at H;exact H)|(simp only [he_] at H ⊢;exact H)
        (try rw [hsj18] at A11)
        by_cases c19 : (t244.extract 0 (t250 : Int).toNat).size + (t244.extract ((ji14) : Int).toNat ((wrap64 (t250 + 2)) : Int).toNat).size ≤ 9223372036854775807
        ·rw [if_pos c19] at H
         have c19b0 := eq_true c19
         have c19b1 : decide ((t244.extract 0 (t250 : Int).toNat).size + (t244.extract ((ji14) : Int).toNat ((wrap64 (t250 + 2)) : Int).toNat).size ≤ 9223372036854775807) = true := decide_eq_true c19
         try have c19b3 : (9223372036854775807 < (t244.extract 0 (t250 : Int).toNat).size + ((t244.extract ((ji14) : Int).toNat ((wrap64 (t250 + 2)) : Int).toNat).size)) = False := eq_false (by have h_ := c19;simp only [ByteArray.size_append,ByteArray.size_extract] at h_;omega)
         try have c19b4 : (9223372036854775807 < min (t250 : Int).toNat t244.size + ((min ((wrap64 (t250 + 2)) : Int).toNat t244.size - ((ji14) : Int).toNat))) = False := eq_false (by have h_ := c19;simp only [ByteArray.size_append,ByteArray.size_extract] at h_;omega)
         try have c19b2 : (9223372036854775807 < (t244.extract 0 (t250 : Int).toNat).size + (t244.extract ((ji14) : Int).toNat ((wrap64 (t250 + 2)) : Int).toNat).size) = False := eq_false (Nat.not_lt.2 c19)
         have c20b0 := eq_true (of_decide_eq_true (by first|(with_reducible assumption)|assumption) : 0 ≤ t250)
         by_cases c21 : t250 ≤ (ji14)
         ·rw [if_pos c21] at H
          have c21b0 := eq_true c21
          have c21b1 : decide (t250 ≤ (ji14)) = true := decide_eq_true c21
          clear c21
          by_cases c22 : (ji14) ≤ (t244.size : Int)
          ·rw [if_pos c22] at H
           have c22b0 := eq_true c22
           have c22b1 : decide ((ji14) ≤ (t244.size : Int)) = true := decide_eq_true c22
           clear c22
           by_cases c23 : ((t244.extract 0 (t250 : Int).toNat) ++ (t244.extract ((ji14) : Int).toNat ((wrap64 (t250 + 2)) : Int).toNat)).size + (t244.extract (t250 : Int).toNat ((ji14) : Int).toNat).size ≤ 9223372036854775807
           ·rw [if_pos c23] at H
            have c23b0 := eq_true c23
            have c23b1 : decide (((t244.extract 0 (t250 : Int).toNat) ++ (t244.extract ((ji14) : Int).toNat ((wrap64 (t250 + 2)) : Int).toNat)).size + (t244.extract (t250 : Int).toNat ((ji14) : Int).toNat).size ≤ 9223372036854775807) = true := decide_eq_true c23
            try have c23b3 : (9223372036854775807 < (t244.extract 0 (t250 : Int).toNat).size + ((t244.extract ((ji14) : Int).toNat ((wrap64 (t250 + 2)) : Int).toNat).size) + (t244.extract (t250 : Int).toNat ((ji14) : Int).toNat).size) = False := eq_false (by have h_ := c23;simp only [ByteArray.size_append,ByteArray.size_extract] at h_;omega)
            try have c23b4 : (9223372036854775807 < min (t250 : Int).toNat t244.size + ((min ((wrap64 (t250 + 2)) : Int).toNat t244.size - ((ji14) : Int).toNat)) + (min ((ji14) : Int).toNat t244.size - (t250 : Int).toNat)) = False := eq_false (by have h_ := c23;simp only [ByteArray.size_append,ByteArray.size_extract] at h_;omega)
            try have c23b2 : (9223372036854775807 < ((t244.extract 0 (t250 : Int).toNat) ++ (t244.extract ((ji14) : Int).toNat ((wrap64 (t250 + 2)) : Int).toNat)).size + (t244.extract (t250 : Int).toNat ((ji14) : Int).toNat).size) = False := eq_false (Nat.not_lt.2 c23)
            obtain ⟨ji24,hji24⟩ : ∃ j_ : Int,(wrap64 (t250 + 2)) = j_ := ⟨_,rfl⟩
            (try rw [hji24] at hsj18)
            replace H : (if 0 ≤ (ji24) then (if (((t244.extract 0 (t250 : Int).toNat) ++ (t244.extract ((ji14) : Int).toNat ((ji24) : Int).toNat)) ++ (t244.extract (t250 : Int).toNat ((ji14) : Int).toNat)).size + sj18.size ≤ 9223372036854775807 then (spec_DrawSwapsOf.j0 k t241 ((((t244.extract 0 (t250 : Int).toNat) ++ (t244.extract ((ji14) : Int).toNat ((ji24) : Int).toNat)) ++ (t244.extract (t250 : Int).toNat ((ji14) : Int).toNat)) ++ sj18) l0 t251 t252) else (none)) else (none)) = some (r1,r2) := by first|(rw [hji24] at H;exact H)|(simp only [hji24] at H ⊢;exact H)
            (try rw [hji24] at c16b0)
            (try rw [hji24] at c16b1)
            (try rw [hji24] at c16)
            (try rw [hji24] at c17b0)
            (try rw [hji24] at c17b1)
            (try rw [hji24] at c17)
            (try rw [hji24] at c19b0)
            (try rw [hji24] at c19b1)
            (try rw [hji24] at c19)
            (try rw [hji24] at c23b0)
            (try rw [hji24] at c23b1)
            (try rw [hji24] at c23)
            (try rw [hji24] at A11)
            have hji24w : (IntKind.i64.wrap (t250 + 2)) = ji24 := (i64_w _).trans hji24
            by_cases c25 : 0 ≤ (ji24)
            ·rw [if_pos c25] at H
             have c25b0 := eq_true c25
             have c25b1 : decide (0 ≤ (ji24)) = true := decide_eq_true c25
             clear c25
             have c26b0 := eq_true (of_decide_eq_true (by first|(with_reducible assumption)|assumption) : (ji24) ≤ (t244.size : Int))
             by_cases c27 : (((t244.extract 0 (t250 : Int).toNat) ++ (t244.extract ((ji14) : Int).toNat ((ji24) : Int).toNat)) ++ (t244.extract (t250 : Int).toNat ((ji14) : Int).toNat)).size + sj18.size ≤ 9223372036854775807
             ·rw [if_pos c27] at H
              have c27b0 := eq_true c27
              have c27b1 : decide ((((t244.extract 0 (t250 : Int).toNat) ++ (t244.extract ((ji14) : Int).toNat ((ji24) : Int).toNat)) ++ (t244.extract (t250 : Int).toNat ((ji14) : Int).toNat)).size + sj18.size ≤ 9223372036854775807) = true := decide_eq_true c27
              try have c27b3 : (9223372036854775807 < (t244.extract 0 (t250 : Int).toNat).size + (t244.extract ((ji14) : Int).toNat ((ji24) : Int).toNat).size + (t244.extract (t250 : Int).toNat ((ji14) : Int).toNat).size + sj18.size) = False := eq_false (by have h_ := c27;simp only [ByteArray.size_append,ByteArray.size_extract] at h_;omega)
              try have c27b4 : (9223372036854775807 < min (t250 : Int).toNat t244.size + (min ((ji24) : Int).toNat t244.size - ((ji14) : Int).toNat) + (min ((ji14) : Int).toNat t244.size - (t250 : Int).toNat) + sj18.size) = False := eq_false (by have h_ := c27;simp only [ByteArray.size_append,ByteArray.size_extract] at h_;omega)
              try have c27b2 : (9223372036854775807 < (((t244.extract 0 (t250 : Int).toNat) ++ (t244.extract ((ji14) : Int).toNat ((ji24) : Int).toNat)) ++ (t244.extract (t250 : Int).toNat ((ji14) : Int).toNat)).size + sj18.size) = False := eq_false (Nat.not_lt.2 c27)
              have H' := Aside0.mk H
              clear H
              go_wp2_with (first|(go_at_call 49;(with_reducible refine (spec_l1Cur_pick.calls gb240 l0 t248 t249 (wrap64 ((t244.size : Int) - 1)) t250 t251 t252 w _ ?side1 ?side2 A11.out).mono ?_);(case side1 => repeat (first|(with_reducible first|exact HI240.out|apply IsS56.alloc|apply IsS56.drewN|apply IsS56.drew|apply IsS56.set_1|apply IsS56.set_2)|exact HI240.out));(case side2 => repeat (first|(with_reducible first|exact HB.out|apply lA|apply lN|apply lD|refine below_set ?_ (IsS56.ge HI240.out))|exact HB.out));rintro e w28 ⟨rfl,hi,hb,hk⟩;have n0_ := Aside0.mk (hb);have n1_ := Aside0.mk (hi);clear HB;clear HI240;have HB := n0_;have HI240 := n1_;clear n0_ n1_;(try clear hb);(try clear hb2);(try clear hk);(try clear hi)))
              repeat (go_quiet (first|(go_at_call 49;(with_reducible refine (spec_l1Cur_pick.calls gb240 l0 t248 t249 (wrap64 ((t244.size : Int) - 1)) t250 t251 t252 w _ ?side1 ?side2 A11.out).mono ?_);(case side1 => repeat (first|(with_reducible first|exact HI240.out|apply IsS56.alloc|apply IsS56.drewN|apply IsS56.drew|apply IsS56.set_1|apply IsS56.set_2)|exact HI240.out));(case side2 => repeat (first|(with_reducible first|exact HB.out|apply lA|apply lN|apply lD|refine below_set ?_ (IsS56.ge HI240.out))|exact HB.out));rintro e w28 ⟨rfl,hi,hb,hk⟩;have n0_ := Aside0.mk (hb);have n1_ := Aside0.mk (hi);clear HB;clear HI240;have HB := n0_;have HI240 := n1_;clear n0_ n1_;(try clear hb);(try clear hb2);(try clear hk);(try clear hi)));try go_wp2_with (first|(go_at_call 49;(with_reducible refine (spec_l1Cur_pick.calls gb240 l0 t248 t249 (wrap64 ((t244.size : Int) - 1)) t250 t251 t252 w _ ?side1 ?side2 A11.out).mono ?_);(case side1 => repeat (first|(with_reducible first|exact HI240.out|apply IsS56.alloc|apply IsS56.drewN|apply IsS56.drew|apply IsS56.set_1|apply IsS56.set_2)|exact HI240.out));(case side2 => repeat (first|(with_reducible first|exact HB.out|apply lA|apply lN|apply lD|refine below_set ?_ (IsS56.ge HI240.out))|exact HB.out));rintro e w28 ⟨rfl,hi,hb,hk⟩;have n0_ := Aside0.mk (hb);have n1_ := Aside0.mk (hi);clear HB;clear HI240;have HB := n0_;have HI240 := n1_;clear n0_ n1_;(try clear hb);(try clear hb2);(try clear hk);(try clear hi))))
              go_meet
              case rel => exact ⟨_,((((t244.extract 0 (t250 : Int).toNat) ++ (t244.extract ((ji14) : Int).toNat ((ji24) : Int).toNat)) ++ (t244.extract (t250 : Int).toNat ((ji14) : Int).toNat)) ++ sj18),(t251),(t252),(by first|rfl|(simp;done)|(simp [my_isEmpty];done)|(simp only [← hji14,← hsj18,← hji24] <;> (first|rfl|simp))|(simp [*];done)),H',⟨by first|omega|exact Nat.le_refl _⟩,⟨by repeat (first|(with_reducible first|exact HI240.out|apply IsS56.alloc|apply IsS56.drewN|apply IsS56.drew|apply IsS56.set_1|apply IsS56.set_2)|exact HI240.out)⟩,⟨by repeat (first|(with_reducible first|exact HB.out|apply lA|apply lN|apply lD|refine below_set ?_ (IsS56.ge HI240.out))|exact HB.out)⟩⟩
             ·rw [if_neg c27] at H
              exact absurd H (by simp)
            ·rw [if_neg c25] at H
             exact absurd H (by simp)
           ·rw [if_neg c23] at H
            exact absurd H (by simp)
          ·rw [if_neg c22] at H
           exact absurd H (by simp)
         ·rw [if_neg c21] at H
          exact absurd H (by simp)
        ·rw [if_neg c19] at H
         exact absurd H (by simp)
       ·rw [if_neg c17] at H
        exact absurd H (by simp)
      ·rw [if_neg c16] at H
       exact absurd H (by simp)
     ·rw [if_neg c15] at H
      exact absurd H (by simp)
    ·rw [if_neg c13] at H
     exact absurd H (by simp)
   ·rw [if_neg c12] at H
    exact absurd H (by simp)
  ·rw [if_neg c10] at H
   have c10b0 : (t247 == 0) = false := beq_eq_false_iff_ne.mpr c10
   have c10b1 : (t247 != 0) = true := bne_iff_ne.mpr c10
   (first|rw [c10b0]|(simp only [i64_w,i32_w];rw [c10b0])|skip)
   by_cases c29 : t247 = 1
   ·rw [if_pos c29] at H
    have c29b0 : (t247 == 1) = true := beq_iff_eq.mpr c29
    have c29b1 : (t247 != 1) = false := bne_eq_false_iff_eq.mpr c29
    clear c29
    replace H := Option.bind_eq_some_iff.mp H
    obtain ⟨⟨t253,t254,t255⟩,A300,H⟩ := H
    replace H : (spec_DrawSwapsOf.j0 k t241 t253 l0 t254 t255) = some (r1,r2) := H
    have A30 := Aside0.mk A300
    clear A300
    have H' := Aside0.mk H
    clear H
    go_wp2_with (first|(go_at_call 51;(with_reducible refine (spec_l1Cur_digits24.calls k gb240 l0 t248 t249 (t244.size : Int) t253 t254 t255 w _ ?side1 ?side2 A30.out).mono ?_);(case side1 => repeat (first|(with_reducible first|exact HI240.out|apply IsS56.alloc|apply IsS56.drewN|apply IsS56.drew|apply IsS56.set_1|apply IsS56.set_2)|exact HI240.out));(case side2 => repeat (first|(with_reducible first|exact HB.out|apply lA|apply lN|apply lD|refine below_set ?_ (IsS56.ge HI240.out))|exact HB.out));rintro e w31 ⟨rfl,hi,hb,hk⟩;have n0_ := Aside0.mk (hb);have n1_ := Aside0.mk (hi);clear HB;clear HI240;have HB := n0_;have HI240 := n1_;clear n0_ n1_;(try clear hb);(try clear hb2);(try clear hk);(try clear hi)))
    repeat (go_quiet (first|(go_at_call 51;(with_reducible refine (spec_l1Cur_digits24.calls k gb240 l0 t248 t249 (t244.size : Int) t253 t254 t255 w _ ?side1 ?side2 A30.out).mono ?_);(case side1 => repeat (first|(with_reducible first|exact HI240.out|apply IsS56.alloc|apply IsS56.drewN|apply IsS56.drew|apply IsS56.set_1|apply IsS56.set_2)|exact HI240.out));(case side2 => repeat (first|(with_reducible first|exact HB.out|apply lA|apply lN|apply lD|refine below_set ?_ (IsS56.ge HI240.out))|exact HB.out));rintro e w31 ⟨rfl,hi,hb,hk⟩;have n0_ := Aside0.mk (hb);have n1_ := Aside0.mk (hi);clear HB;clear HI240;have HB := n0_;have HI240 := n1_;clear n0_ n1_;(try clear hb);(try clear hb2);(try clear hk);(try clear hi)));try go_wp2_with (first|(go_at_call 51;(with_reducible refine (spec_l1Cur_digits24.calls k gb240 l0 t248 t249 (t244.size : Int) t253 t254 t255 w _ ?side1 ?side2 A30.out).mono ?_);(case side1 => repeat (first|(with_reducible first|exact HI240.out|apply IsS56.alloc|apply IsS56.drewN|apply IsS56.drew|apply IsS56.set_1|apply IsS56.set_2)|exact HI240.out));(case side2 => repeat (first|(with_reducible first|exact HB.out|apply lA|apply lN|apply lD|refine below_set ?_ (IsS56.ge HI240.out))|exact HB.out));rintro e w31 ⟨rfl,hi,hb,hk⟩;have n0_ := Aside0.mk (hb);have n1_ := Aside0.mk (hi);clear HB;clear HI240;have HB := n0_;have HI240 := n1_;clear n0_ n1_;(try clear hb);(try clear hb2);(try clear hk);(try clear hi))))
    go_meet
    case rel => exact ⟨_,(t253),(t254),(t255),(by first|rfl|(simp;done)|(simp [my_isEmpty];done)|(simp [*];done)),H',⟨by first|omega|exact Nat.le_refl _⟩,⟨by repeat (first|(with_reducible first|exact HI240.out|apply IsS56.alloc|apply IsS56.drewN|apply IsS56.drew|apply IsS56.set_1|apply IsS56.set_2)|exact HI240.out)⟩,⟨by repeat (first|(with_reducible first|exact HB.out|apply lA|apply lN|apply lD|refine below_set ?_ (IsS56.ge HI240.out))|exact HB.out)⟩⟩
   ·rw [if_neg c29] at H
    have c29b0 : (t247 == 1) = false := beq_eq_false_iff_ne.mpr c29
    have c29b1 : (t247 != 1) = true := bne_iff_ne.mpr c29
    have H' := Aside0.mk H
    clear H
    go_wp2
    repeat (go_quiet (fail);try go_wp2)
    go_meet
    case rel => exact ⟨_,(t244),(t248),(t249),(by first|rfl|(simp;done)|(simp [my_isEmpty];done)|(simp [*];done)),H',⟨by first|omega|exact Nat.le_refl _⟩,⟨by repeat (first|(with_reducible first|exact HI240.out|apply IsS56.alloc|apply IsS56.drewN|apply IsS56.drew|apply IsS56.set_1|apply IsS56.set_2)|exact HI240.out)⟩,⟨by repeat (first|(with_reducible first|exact HB.out|apply lA|apply lN|apply lD|refine below_set ?_ (IsS56.ge HI240.out))|exact HB.out)⟩⟩
 case rest =>
  clear HC5
  try clear c1
  try clear c2
  try clear p2
  try clear p6
  try clear c10
  try clear c10b0
  try clear c10b1
  try clear c12
  try clear c12b0
  try clear c12b1
  try clear c13
  try clear c13b0
  try clear c13b1
  try clear c15
  try clear c15b0
  try clear c15b1
  try clear c16
  try clear c16b0
  try clear c16b1
  try clear c17
  try clear c17b0
  try clear c17b1
  try clear c19
  try clear c19b0
  try clear c19b1
  try clear c19b2
  try clear c20
  try clear c20b0
  try clear c21
  try clear c21b0
  try clear c21b1
  try clear c22
  try clear c22b0
  try clear c22b1
  try clear c23
  try clear c23b0
  try clear c23b1
  try clear c23b2
  try clear c25
  try clear c25b0
  try clear c25b1
  try clear c26
  try clear c26b0
  try clear c27
  try clear c27b0
  try clear c27b1
  try clear c27b2
  try clear c29
  try clear c29b0
  try clear c29b1
  obtain ⟨kq,x6_4,x241001_4,x241002_4,rfl,HA,HJ4,HI240,HB⟩ := hcut
  cases kq with
  | zero => exact absurd HA.out (by simp [spec_DrawSwapsOf.j0])
  | succ kj4 =>
   have H := HA.out
   clear HA
   simp only [spec_DrawSwapsOf.j0] at H
   replace H := Option.bind_eq_some_iff.mp H
   obtain ⟨⟨t256,t257,t258⟩,A320,H⟩ := H
   replace H : (if t256 = 0 then ((spec_l1Cur_among.f l0 t257 t258 (([0,5,1] : List Int))).bind fun bt262 => (some (bt262.1,x6_4))) else (if t256 = 1 then ((spec_l1Cur_spoilt.f l0 t257 t258 x6_4 (⟨#[48,88]⟩ : ByteArray)).bind fun bt265 => (some (t241,bt265.1))) else (some (t241,x6_4)))) = some (r1,r2) := H
   have A32 := Aside0.mk A320
   clear A320
   by_cases c33 : t256 = 0
   ·rw [if_pos c33] at H
    have c33b0 : (t256 == 0) = true := beq_iff_eq.mpr c33
    have c33b1 : (t256 != 0) = false := bne_eq_false_iff_eq.mpr c33
    clear c33
    obtain ⟨y259,hy259⟩ : ∃ y_ : List Int,y_ = (([0,5,1] : List Int)) := ⟨_,rfl⟩
    replace H : ((spec_l1Cur_among.f l0 t257 t258 y259).bind fun bt262 => (some (bt262.1,x6_4))) = some (r1,r2) := by first|(rw [hy259];with_reducible exact H)|(have H2_ := (Option.bind_some _ _).symm.trans H;rw [hy259];with_reducible exact H2_)|(have H2_ := (Option.bind_some _ _).symm.trans H;with_reducible exact H2_)|with_reducible exact H|(rw [hy259];exact H)|exact H
    have Ny259 := Aside0.mk hy259
    clear hy259
    replace H := Option.bind_eq_some_iff.mp H
    obtain ⟨⟨t262,t263,t264⟩,A340,H⟩ := H
    replace H : (some (t262,x6_4)) = some (r1,r2) := H
    have A34 := Aside0.mk A340
    clear A340
    simp only [Option.some.injEq,Prod.mk.injEq] at H
    obtain ⟨rfl,rfl⟩ := H
    go_wp2_with (first|(go_at_call 49;(with_reducible refine (spec_l1Cur_pick.calls gb240 l0 x241001_4 x241002_4 24 t256 t257 t258 w _ ?side1 ?side2 A32.out).mono ?_);(case side1 => repeat (first|(with_reducible first|exact HI240.out|apply IsS56.alloc|apply IsS56.drewN|apply IsS56.drew|apply IsS56.set_1|apply IsS56.set_2)|exact HI240.out));(case side2 => repeat (first|(with_reducible first|exact HB.out|apply lA|apply lN|apply lD|refine below_set ?_ (IsS56.ge HI240.out))|exact HB.out));rintro e w35 ⟨rfl,hi,hb,hk⟩;have n0_ := Aside0.mk (hb);have n1_ := Aside0.mk (hi);clear HB;clear HI240;have HB := n0_;have HI240 := n1_;clear n0_ n1_;(try clear hb);(try clear hb2);(try clear hk);(try clear hi))|((with_reducible refine gate_dst (N := 57) rfl ?_);refine Kd.R_lit (Kd.int .i64) _ 3 ?hg (N := 57) ?hd (xs := ([0,5,1] : List Int)) (inner := [.int .i64 0,.int .i64 5,.int .i64 1]) (ok := fun _ => True) (okp := fun _ => True) ?hr ?hp (fun _ hk => hk) trivial (Below.refl _ _) (Nat.le_refl _) (by simp) ?_;(case hd => rfl);(case hg => rfl);(case hr => first|(go_simp;done)|(go_simp;rfl));(case hp => exact (Reps.one (show Kd.M (Kd.int .i64) _ _ _ 0 [.int .i64 0] from rfl) (Reps.one (show Kd.M (Kd.int .i64) _ _ _ 5 [.int .i64 5] from rfl) (Reps.one (show Kd.M (Kd.int .i64) _ _ _ 1 [.int .i64 1] from rfl) (Reps.none _ _)))));intro v260 w36 ho37 hb hg_ hnew_;clear hg_ hnew_;(first|rw [← Ny259.out] at ho37|(simp only [Int.reduceToNat] at ho37;rw [← Ny259.out] at ho37));have n0_ := Aside0.mk (Kd.R_lower ho37 (below_size (by repeat (first|(with_reducible first|exact HB.out|apply lA|apply lN|apply lD|refine below_set ?_ (IsS56.ge HI240.out))|exact HB.out))));have n1_ := Aside0.mk (IsS56.below (by repeat (first|(with_reducible first|exact HI240.out|apply IsS56.alloc|apply IsS56.drewN|apply IsS56.drew|apply IsS56.set_1|apply IsS56.set_2)|exact HI240.out)) hb);have n2_ := Aside0.mk (below_step (by repeat (first|(with_reducible first|exact HB.out|apply lA|apply lN|apply lD|refine below_set ?_ (IsS56.ge HI240.out))|exact HB.out)) hb);clear HI240;clear HB;have HO261 := n0_;have HI240 := n1_;have HB := n2_;clear n0_ n1_ n2_;clear hb ho37;obtain ⟨Ao38,co38,eo38⟩ := Kd.R_slice HO261.out;subst eo38)|(go_at_call 52;(with_reducible refine (spec_l1Cur_among.calls gb240 l0 t257 t258 _ _ y259 t262 t263 t264 w _ ?side1 ?side2 ?side3 ?side4 ?side5 A34.out).mono ?_);(case side1 => repeat (first|(with_reducible first|exact HI240.out|apply IsS56.alloc|apply IsS56.drewN|apply IsS56.drew|apply IsS56.set_1|apply IsS56.set_2)|exact HI240.out));(case side2 => repeat (first|(with_reducible first|exact HB.out|apply lA|apply lN|apply lD|refine below_set ?_ (IsS56.ge HI240.out))|exact HB.out));(case side3 => repeat (first|exact (Kd.R_reads' HO261.out).2.2|(with_reducible refine Kd.C_alloc ?_ _)|(with_reducible refine Kd.C_drewN ?_ _)|(with_reducible refine Kd.C_drew ?_)));(case side4 => exact (Kd.R_reads' HO261.out).2.1);(case side5 => exact far_slice (IsS56.own_ne HI240.out HO261.out (by decide)));rintro e w39 ⟨rfl,hi,hb,hk⟩;have n0_ := Aside0.mk (Kd.R_mono (Kd.R_keep (IsS56.apart (show IsS56 w _ gb240 l0 t257 t258 from by repeat (first|(with_reducible first|exact HI240.out|apply IsS56.alloc|apply IsS56.drewN|apply IsS56.drew|apply IsS56.set_1|apply IsS56.set_2)|exact HI240.out)) (by (with_reducible repeat (first|apply Kd.R_alloc|apply Kd.R_drewN|apply Kd.R_drew));exact HO261.out) (by decide)) hk (fun _ h => h.2)) (fun _ h => h.1));have n1_ := Aside0.mk (hb);have n2_ := Aside0.mk (hi);clear HO261;clear HB;clear HI240;have HO261 := n0_;have HB := n1_;have HI240 := n2_;clear n0_ n1_ n2_;(try clear hb);(try clear hb2);(try clear hk);(try clear hi)))
    repeat (go_quiet (first|(go_at_call 49;(with_reducible refine (spec_l1Cur_pick.calls gb240 l0 x241001_4 x241002_4 24 t256 t257 t258 w _ ?side1 ?side2 A32.out).mono ?_);(case side1 => repeat (first|(with_reducible first|exact HI240.out|apply IsS56.alloc|apply IsS56.drewN|apply IsS56.drew|apply IsS56.set_1|apply IsS56.set_2)|exact HI240.out));(case side2 => repeat (first|(with_reducible first|exact HB.out|apply lA|apply lN|apply lD|refine below_set ?_ (IsS56.ge HI240.out))|exact HB.out));rintro e w35 ⟨rfl,hi,hb,hk⟩;have n0_ := Aside0.mk (hb);have n1_ := Aside0.mk (hi);clear HB;clear HI240;have HB := n0_;have HI240 := n1_;clear n0_ n1_;(try clear hb);(try clear hb2);(try clear hk);(try clear hi))|((with_reducible refine gate_dst (N := 57) rfl ?_);refine Kd.R_lit (Kd.int .i64) _ 3 ?hg (N := 57) ?hd (xs := ([0,5,1] : List Int)) (inner := [.int .i64 0,.int .i64 5,.int .i64 1]) (ok := fun _ => True) (okp := fun _ => True) ?hr ?hp (fun _ hk => hk) trivial (Below.refl _ _) (Nat.le_refl _) (by simp) ?_;(case hd => rfl);(case hg => rfl);(case hr => first|(go_simp;done)|(go_simp;rfl));(case hp => exact (Reps.one (show Kd.M (Kd.int .i64) _ _ _ 0 [.int .i64 0] from rfl) (Reps.one (show Kd.M (Kd.int .i64) _ _ _ 5 [.int .i64 5] from rfl) (Reps.one (show Kd.M (Kd.int .i64) _ _ _ 1 [.int .i64 1] from rfl) (Reps.none _ _)))));intro v260 w36 ho37 hb hg_ hnew_;clear hg_ hnew_;(first|rw [← Ny259.out] at ho37|(simp only [Int.reduceToNat] at ho37;rw [← Ny259.out] at ho37));have n0_ := Aside0.mk (Kd.R_lower ho37 (below_size (by repeat (first|(with_reducible first|exact HB.out|apply lA|apply lN|apply lD|refine below_set ?_ (IsS56.ge HI240.out))|exact HB.out))));have n1_ := Aside0.mk (IsS56.below (by repeat (first|(with_reducible first|exact HI240.out|apply IsS56.alloc|apply IsS56.drewN|apply IsS56.drew|apply IsS56.set_1|apply IsS56.set_2)|exact HI240.out)) hb);have n2_ := Aside0.mk (below_step (by repeat (first|(with_reducible first|exact HB.out|apply lA|apply lN|apply lD|refine below_set ?_ (IsS56.ge HI240.out))|exact HB.out)) hb);clear HI240;clear HB;have HO261 := n0_;have HI240 := n1_;have HB := n2_;clear n0_ n1_ n2_;clear hb ho37;obtain ⟨Ao38,co38,eo38⟩ := Kd.R_slice HO261.out;subst eo38)|(go_at_call 52;(with_reducible refine (spec_l1Cur_among.calls gb240 l0 t257 t258 _ _ y259 t262 t263 t264 w _ ?side1 ?side2 ?side3 ?side4 ?side5 A34.out).mono ?_);(case side1 => repeat (first|(with_reducible first|exact HI240.out|apply IsS56.alloc|apply IsS56.drewN|apply IsS56.drew|apply IsS56.set_1|apply IsS56.set_2)|exact HI240.out));(case side2 => repeat (first|(with_reducible first|exact HB.out|apply lA|apply lN|apply lD|refine below_set ?_ (IsS56.ge HI240.out))|exact HB.out));(case side3 => repeat (first|exact (Kd.R_reads' HO261.out).2.2|(with_reducible refine Kd.C_alloc ?_ _)|(with_reducible refine Kd.C_drewN ?_ _)|(with_reducible refine Kd.C_drew ?_)));(case side4 => exact (Kd.R_reads' HO261.out).2.1);(case side5 => exact far_slice (IsS56.own_ne HI240.out HO261.out (by decide)));rintro e w39 ⟨rfl,hi,hb,hk⟩;have n0_ := Aside0.mk (Kd.R_mono (Kd.R_keep (IsS56.apart (show IsS56 w _ gb240 l0 t257 t258 from by repeat (first|(with_reducible first|exact HI240.out|apply IsS56.alloc|apply IsS56.drewN|apply IsS56.drew|apply IsS56.set_1|apply IsS56.set_2)|exact HI240.out)) (by (with_reducible repeat (first|apply Kd.R_alloc|apply Kd.R_drewN|apply Kd.R_drew));exact HO261.out) (by decide)) hk (fun _ h => h.2)) (fun _ h => h.1));have n1_ := Aside0.mk (hb);have n2_ := Aside0.mk (hi);clear HO261;clear HB;clear HI240;have HO261 := n0_;have HB := n1_;have HI240 := n2_;clear n0_ n1_ n2_;(try clear hb);(try clear hb2);(try clear hk);(try clear hi)));try go_wp2_with (first|(go_at_call 49;(with_reducible refine (spec_l1Cur_pick.calls gb240 l0 x241001_4 x241002_4 24 t256 t257 t258 w _ ?side1 ?side2 A32.out).mono ?_);(case side1 => repeat (first|(with_reducible first|exact HI240.out|apply IsS56.alloc|apply IsS56.drewN|apply IsS56.drew|apply IsS56.set_1|apply IsS56.set_2)|exact HI240.out));(case side2 => repeat (first|(with_reducible first|exact HB.out|apply lA|apply lN|apply lD|refine below_set ?_ (IsS56.ge HI240.out))|exact HB.out));rintro e w35 ⟨rfl,hi,hb,hk⟩;have n0_ := Aside0.mk (hb);have n1_ := Aside0.mk (hi);clear HB;clear HI240;have HB := n0_;have HI240 := n1_;clear n0_ n1_;(try clear hb);(try clear hb2);(try clear hk);(try clear hi))|((with_reducible refine gate_dst (N := 57) rfl ?_);refine Kd.R_lit (Kd.int .i64) _ 3 ?hg (N := 57) ?hd (xs := ([0,5,1] : List Int)) (inner := [.int .i64 0,.int .i64 5,.int .i64 1]) (ok := fun _ => True) (okp := fun _ => True) ?hr ?hp (fun _ hk => hk) trivial (Below.refl _ _) (Nat.le_refl _) (by simp) ?_;(case hd => rfl);(case hg => rfl);(case hr => first|(go_simp;done)|(go_simp;rfl));(case hp => exact (Reps.one (show Kd.M (Kd.int .i64) _ _ _ 0 [.int .i64 0] from rfl) (Reps.one (show Kd.M (Kd.int .i64) _ _ _ 5 [.int .i64 5] from rfl) (Reps.one (show Kd.M (Kd.int .i64) _ _ _ 1 [.int .i64 1] from rfl) (Reps.none _ _)))));intro v260 w36 ho37 hb hg_ hnew_;clear hg_ hnew_;(first|rw [← Ny259.out] at ho37|(simp only [Int.reduceToNat] at ho37;rw [← Ny259.out] at ho37));have n0_ := Aside0.mk (Kd.R_lower ho37 (below_size (by repeat (first|(with_reducible first|exact HB.out|apply lA|apply lN|apply lD|refine below_set ?_ (IsS56.ge HI240.out))|exact HB.out))));have n1_ := Aside0.mk (IsS56.below (by repeat (first|(with_reducible first|exact HI240.out|apply IsS56.alloc|apply IsS56.drewN|apply IsS56.drew|apply IsS56.set_1|apply IsS56.set_2)|exact HI240.out)) hb);have n2_ := Aside0.mk (below_step (by repeat (first|(with_reducible first|exact HB.out|apply lA|apply lN|apply lD|refine below_set ?_ (IsS56.ge HI240.out))|exact HB.out)) hb);clear HI240;clear HB;have HO261 := n0_;have HI240 := n1_;have HB := n2_;clear n0_ n1_ n2_;clear hb ho37;obtain ⟨Ao38,co38,eo38⟩ := Kd.R_slice HO261.out;subst eo38)|(go_at_call 52;(with_reducible refine (spec_l1Cur_among.calls gb240 l0 t257 t258 _ _ y259 t262 t263 t264 w _ ?side1 ?side2 ?side3 ?side4 ?side5 A34.out).mono ?_);(case side1 => repeat (first|(with_reducible first|exact HI240.out|apply IsS56.alloc|apply IsS56.drewN|apply IsS56.drew|apply IsS56.set_1|apply IsS56.set_2)|exact HI240.out));(case side2 => repeat (first|(with_reducible first|exact HB.out|apply lA|apply lN|apply lD|refine below_set ?_ (IsS56.ge HI240.out))|exact HB.out));(case side3 => repeat (first|exact (Kd.R_reads' HO261.out).2.2|(with_reducible refine Kd.C_alloc ?_ _)|(with_reducible refine Kd.C_drewN ?_ _)|(with_reducible refine Kd.C_drew ?_)));(case side4 => exact (Kd.R_reads' HO261.out).2.1);(case side5 => exact far_slice (IsS56.own_ne HI240.out HO261.out (by decide)));rintro e w39 ⟨rfl,hi,hb,hk⟩;have n0_ := Aside0.mk (Kd.R_mono (Kd.R_keep (IsS56.apart (show IsS56 w _ gb240 l0 t257 t258 from by repeat (first|(with_reducible first|exact HI240.out|apply IsS56.alloc|apply IsS56.drewN|apply IsS56.drew|apply IsS56.set_1|apply IsS56.set_2)|exact HI240.out)) (by (with_reducible repeat (first|apply Kd.R_alloc|apply Kd.R_drewN|apply Kd.R_drew));exact HO261.out) (by decide)) hk (fun _ h => h.2)) (fun _ h => h.1));have n1_ := Aside0.mk (hb);have n2_ := Aside0.mk (hi);clear HO261;clear HB;clear HI240;have HO261 := n0_;have HB := n1_;have HI240 := n2_;clear n0_ n1_ n2_;(try clear hb);(try clear hb2);(try clear hk);(try clear hi))))
    go_ret2
    exact ⟨by first|rfl|(simp [errW_none,errW_some] <;> rfl)|(simp [*,errW_none,errW_some] <;> rfl),by repeat (first|(with_reducible first|exact HB.out|apply lA|apply lN|apply lD|refine below_set ?_ (IsS56.ge HI240.out))|exact HB.out)⟩
   ·rw [if_neg c33] at H
    have c33b0 : (t256 == 0) = false := beq_eq_false_iff_ne.mpr c33
    have c33b1 : (t256 != 0) = true := bne_iff_ne.mpr c33
    by_cases c40 : t256 = 1
    ·rw [if_pos c40] at H
     have c40b0 : (t256 == 1) = true := beq_iff_eq.mpr c40
     have c40b1 : (t256 != 1) = false := bne_eq_false_iff_eq.mpr c40
     clear c40
     replace H := Option.bind_eq_some_iff.mp H
     obtain ⟨⟨t265,t266,t267⟩,A410,H⟩ := H
     replace H : (some (t241,t265)) = some (r1,r2) := H
     have A41 := Aside0.mk A410
     clear A410
     simp only [Option.some.injEq,Prod.mk.injEq] at H
     obtain ⟨rfl,rfl⟩ := H
     go_wp2_with (first|(go_at_call 49;(with_reducible refine (spec_l1Cur_pick.calls gb240 l0 x241001_4 x241002_4 24 t256 t257 t258 w _ ?side1 ?side2 A32.out).mono ?_);(case side1 => repeat (first|(with_reducible first|exact HI240.out|apply IsS56.alloc|apply IsS56.drewN|apply IsS56.drew|apply IsS56.set_1|apply IsS56.set_2)|exact HI240.out));(case side2 => repeat (first|(with_reducible first|exact HB.out|apply lA|apply lN|apply lD|refine below_set ?_ (IsS56.ge HI240.out))|exact HB.out));rintro e w42 ⟨rfl,hi,hb,hk⟩;have n0_ := Aside0.mk (hb);have n1_ := Aside0.mk (hi);clear HB;clear HI240;have HB := n0_;have HI240 := n1_;clear n0_ n1_;(try clear hb);(try clear hb2);(try clear hk);(try clear hi))|(go_at_call 50;(with_reducible refine (spec_l1Cur_spoilt.calls gb240 l0 t257 t258 x6_4 (⟨#[48,88]⟩ : ByteArray) t265 t266 t267 w _ ?side1 ?side2 A41.out).mono ?_);(case side1 => repeat (first|(with_reducible first|exact HI240.out|apply IsS56.alloc|apply IsS56.drewN|apply IsS56.drew|apply IsS56.set_1|apply IsS56.set_2)|exact HI240.out));(case side2 => repeat (first|(with_reducible first|exact HB.out|apply lA|apply lN|apply lD|refine below_set ?_ (IsS56.ge HI240.out))|exact HB.out));rintro e w43 ⟨rfl,hi,hb,hk⟩;have n0_ := Aside0.mk (hb);have n1_ := Aside0.mk (hi);clear HB;clear HI240;have HB := n0_;have HI240 := n1_;clear n0_ n1_;(try clear hb);(try clear hb2);(try clear hk);(try clear hi)))
     repeat (go_quiet (first|(go_at_call 49;(with_reducible refine (spec_l1Cur_pick.calls gb240 l0 x241001_4 x241002_4 24 t256 t257 t258 w _ ?side1 ?side2 A32.out).mono ?_);(case side1 => repeat (first|(with_reducible first|exact HI240.out|apply IsS56.alloc|apply IsS56.drewN|apply IsS56.drew|apply IsS56.set_1|apply IsS56.set_2)|exact HI240.out));(case side2 => repeat (first|(with_reducible first|exact HB.out|apply lA|apply lN|apply lD|refine below_set ?_ (IsS56.ge HI240.out))|exact HB.out));rintro e w42 ⟨rfl,hi,hb,hk⟩;have n0_ := Aside0.mk (hb);have n1_ := Aside0.mk (hi);clear HB;clear HI240;have HB := n0_;have HI240 := n1_;clear n0_ n1_;(try clear hb);(try clear hb2);(try clear hk);(try clear hi))|(go_at_call 50;(with_reducible refine (spec_l1Cur_spoilt.calls gb240 l0 t257 t258 x6_4 (⟨#[48,88]⟩ : ByteArray) t265 t266 t267 w _ ?side1 ?side2 A41.out).mono ?_);(case side1 => repeat (first|(with_reducible first|exact HI240.out|apply IsS56.alloc|apply IsS56.drewN|apply IsS56.drew|apply IsS56.set_1|apply IsS56.set_2)|exact HI240.out));(case side2 => repeat (first|(with_reducible first|exact HB.out|apply lA|apply lN|apply lD|refine below_set ?_ (IsS56.ge HI240.out))|exact HB.out));rintro e w43 ⟨rfl,hi,hb,hk⟩;have n0_ := Aside0.mk (hb);have n1_ := Aside0.mk (hi);clear HB;clear HI240;have HB := n0_;have HI240 := n1_;clear n0_ n1_;(try clear hb);(try clear hb2);(try clear hk);(try clear hi)));try go_wp2_with (first|(go_at_call 49;(with_reducible refine (spec_l1Cur_pick.calls gb240 l0 x241001_4 x241002_4 24 t256 t257 t258 w _ ?side1 ?side2 A32.out).mono ?_);(case side1 => repeat (first|(with_reducible first|exact HI240.out|apply IsS56.alloc|apply IsS56.drewN|apply IsS56.drew|apply IsS56.set_1|apply IsS56.set_2)|exact HI240.out));(case side2 => repeat (first|(with_reducible first|exact HB.out|apply lA|apply lN|apply lD|refine below_set ?_ (IsS56.ge HI240.out))|exact HB.out));rintro e w42 ⟨rfl,hi,hb,hk⟩;have n0_ := Aside0.mk (hb);have n1_ := Aside0.mk (hi);clear HB;clear HI240;have HB := n0_;have HI240 := n1_;clear n0_ n1_;(try clear hb);(try clear hb2);(try clear hk);(try clear hi))|(go_at_call 50;(with_reducible refine (spec_l1Cur_spoilt.calls gb240 l0 t257 t258 x6_4 (⟨#[48,88]⟩ : ByteArray) t265 t266 t267 w _ ?side1 ?side2 A41.out).mono ?_);(case side1 => repeat (first|(with_reducible first|exact HI240.out|apply IsS56.alloc|apply IsS56.drewN|apply IsS56.drew|apply IsS56.set_1|apply IsS56.set_2)|exact HI240.out));(case side2 => repeat (first|(with_reducible first|exact HB.out|apply lA|apply lN|apply lD|refine below_set ?_ (IsS56.ge HI240.out))|exact HB.out));rintro e w43 ⟨rfl,hi,hb,hk⟩;have n0_ := Aside0.mk (hb);have n1_ := Aside0.mk (hi);clear HB;clear HI240;have HB := n0_;have HI240 := n1_;clear n0_ n1_;(try clear hb);(try clear hb2);(try clear hk);(try clear hi))))
     go_ret2
     exact ⟨by first|rfl|(simp [errW_none,errW_some] <;> rfl)|(simp [*,errW_none,errW_some] <;> rfl),by repeat (first|(with_reducible first|exact HB.out|apply lA|apply lN|apply lD|refine below_set ?_ (IsS56.ge HI240.out))|exact HB.out)⟩
    ·rw [if_neg c40] at H
     have c40b0 : (t256 == 1) = false := beq_eq_false_iff_ne.mpr c40
     have c40b1 : (t256 != 1) = true := bne_iff_ne.mpr c40
     simp only [Option.some.injEq,Prod.mk.injEq] at H
     obtain ⟨rfl,rfl⟩ := H
     go_wp2_with (first|(go_at_call 49;(with_reducible refine (spec_l1Cur_pick.calls gb240 l0 x241001_4 x241002_4 24 t256 t257 t258 w _ ?side1 ?side2 A32.out).mono ?_);(case side1 => repeat (first|(with_reducible first|exact HI240.out|apply IsS56.alloc|apply IsS56.drewN|apply IsS56.drew|apply IsS56.set_1|apply IsS56.set_2)|exact HI240.out));(case side2 => repeat (first|(with_reducible first|exact HB.out|apply lA|apply lN|apply lD|refine below_set ?_ (IsS56.ge HI240.out))|exact HB.out));rintro e w44 ⟨rfl,hi,hb,hk⟩;have n0_ := Aside0.mk (hb);have n1_ := Aside0.mk (hi);clear HB;clear HI240;have HB := n0_;have HI240 := n1_;clear n0_ n1_;(try clear hb);(try clear hb2);(try clear hk);(try clear hi)))
     repeat (go_quiet (first|(go_at_call 49;(with_reducible refine (spec_l1Cur_pick.calls gb240 l0 x241001_4 x241002_4 24 t256 t257 t258 w _ ?side1 ?side2 A32.out).mono ?_);(case side1 => repeat (first|(with_reducible first|exact HI240.out|apply IsS56.alloc|apply IsS56.drewN|apply IsS56.drew|apply IsS56.set_1|apply IsS56.set_2)|exact HI240.out));(case side2 => repeat (first|(with_reducible first|exact HB.out|apply lA|apply lN|apply lD|refine below_set ?_ (IsS56.ge HI240.out))|exact HB.out));rintro e w44 ⟨rfl,hi,hb,hk⟩;have n0_ := Aside0.mk (hb);have n1_ := Aside0.mk (hi);clear HB;clear HI240;have HB := n0_;have HI240 := n1_;clear n0_ n1_;(try clear hb);(try clear hb2);(try clear hk);(try clear hi)));try go_wp2_with (first|(go_at_call 49;(with_reducible refine (spec_l1Cur_pick.calls gb240 l0 x241001_4 x241002_4 24 t256 t257 t258 w _ ?side1 ?side2 A32.out).mono ?_);(case side1 => repeat (first|(with_reducible first|exact HI240.out|apply IsS56.alloc|apply IsS56.drewN|apply IsS56.drew|apply IsS56.set_1|apply IsS56.set_2)|exact HI240.out));(case side2 => repeat (first|(with_reducible first|exact HB.out|apply lA|apply lN|apply lD|refine below_set ?_ (IsS56.ge HI240.out))|exact HB.out));rintro e w44 ⟨rfl,hi,hb,hk⟩;have n0_ := Aside0.mk (hb);have n1_ := Aside0.mk (hi);clear HB;clear HI240;have HB := n0_;have HI240 := n1_;clear n0_ n1_;(try clear hb);(try clear hb2);(try clear hk);(try clear hi))))
     go_ret2
     exact ⟨by first|rfl|(simp [errW_none,errW_some] <;> rfl)|(simp [*,errW_none,errW_some] <;> rfl),by repeat (first|(with_reducible first|exact HB.out|apply lA|apply lN|apply lD|refine below_set ?_ (IsS56.ge HI240.out))|exact HB.out)⟩
def spec_l1Least.f (a0 : Int) (a1 : Int) : Option (Int) := if a0 < a1 then (some a0) else (some a1)
set_option maxHeartbeats 8000000 in
set_option maxRecDepth 100000 in
theorem spec_l1Least.calls (a0 : Int) (a1 : Int) (r : Int) (w : World) (h : spec_l1Least.f a0 a1 = some r) :
  Calls Tryd.prog 56 #[.int .i64 a0,.int .i64 a1] w fun e w' => e = .returned (.int .i64 r) ∧ Drawn0 w w' := by
 have H : (if a0 < a1 then (some a0) else (some a1)) = some r := h
 clear h
 by_cases c3 : a0 < a1
 ·rw [if_pos c3] at H
  have c3b0 : decide (a0 < a1) = true := decide_eq_true c3
  clear c3
  obtain rfl := Option.some.inj H
  simp only [Option.some.injEq,Prod.mk.injEq] at H
  obtain ⟨rfl⟩ := H
  go_enter Tryd.func56,Tryd.ntmps56
  go_wp2
  go_ret
  exact ⟨by first|rfl|(simp;done)|(simp [my_isEmpty];done)|(simp [*];done),by repeat (first|exact Drawn0.refl _|apply Drawn0.step)⟩
 ·rw [if_neg c3] at H
  have c3b0 : decide (a0 < a1) = false := decide_eq_false c3
  clear c3
  obtain rfl := Option.some.inj H
  simp only [Option.some.injEq,Prod.mk.injEq] at H
  obtain ⟨rfl⟩ := H
  go_enter Tryd.func56,Tryd.ntmps56
  go_wp2
  go_ret
  exact ⟨by first|rfl|(simp;done)|(simp [my_isEmpty];done)|(simp [*];done),by repeat (first|exact Drawn0.refl _|apply Drawn0.step)⟩
def spec_DrawRepairDigit.f (k : Nat) (l0 : List Int) : Option (Int × ByteArray × Int) := (spec_l1Least.f (l0.length : Int) 5).bind fun t268 => (if 0 ≤ t268 then (if t268 ≤ (l0.length : Int) then ((spec_DrawSwapsOf.f k l0).bind fun bt271 => ((spec_l1Cur_pick.f (l0.drop (t268 : Int).toNat) 0 0 (wrap64 ((bt271.2.size : Int) + 1))).bind fun bt273 => ((spec_l1Cur_pick.f (l0.drop (t268 : Int).toNat) bt273.2.1 bt273.2.2 12).bind fun bt276 => (some (bt271.1,bt271.2,wrap64 (bt273.1 - (wrap64 (Int.tdiv bt276.1 11)))))))) else (none)) else (none))
theorem spec_DrawRepairDigit.mono : ∀ a0 k,LeO (spec_DrawRepairDigit.f k a0) (spec_DrawRepairDigit.f (k + 1) a0) := by
 intro a0 k
 unfold spec_DrawRepairDigit.f
 repeat' first
   | (with_reducible exact spec_DrawSwapsOf.mono _ _)
   | (with_reducible exact LeO.refl _)
   | (with_reducible exact LeO.none _)
   | (with_reducible refine LeO.ite ?_ ?_)
   | (with_reducible refine LeO.bind ?_ (fun _ => ?_))
   | exact spec_DrawSwapsOf.mono _ _
   | exact LeO.none _
   | refine LeO.ite ?_ ?_
   | refine LeO.bind ?_ (fun _ => ?_)
set_option maxHeartbeats 8000000 in
set_option maxRecDepth 100000 in
theorem spec_DrawRepairDigit.calls (k : Nat) (A0 : Option Addr) (c0 : Nat) (l0 : List Int) (r1 : Int) (r2 : ByteArray) (r3 : Int) (w : World) (hr0 : Kd.C (Kd.int .u8) w A0 l0.length l0) (hc0 : l0.length ≤ c0) (h : spec_DrawRepairDigit.f k l0 = some (r1,r2,r3)) :
  Calls Tryd.prog 27 #[.slice A0 l0.length c0] w fun e w' => e = .returned (.tuple #[.int .i64 r1,.string r2,.int .i64 r3]) ∧ Below w.heap.size w w' := by
 have hu56 := Tryd.underlying56
 have HR0 := Aside0.mk hr0
 have HC0 := Aside0.mk hc0
 clear hr0 hc0
 have HB := Aside0.mk (Below.refl w.heap.size w)
 have H : ((spec_l1Least.f (l0.length : Int) 5).bind fun t268 => (if 0 ≤ t268 then (if t268 ≤ (l0.length : Int) then ((spec_DrawSwapsOf.f k l0).bind fun bt271 => ((spec_l1Cur_pick.f (l0.drop (t268 : Int).toNat) 0 0 (wrap64 ((bt271.2.size : Int) + 1))).bind fun bt273 => ((spec_l1Cur_pick.f (l0.drop (t268 : Int).toNat) bt273.2.1 bt273.2.2 12).bind fun bt276 => (some (bt271.1,bt271.2,wrap64 (bt273.1 - (wrap64 (Int.tdiv bt276.1 11)))))))) else (none)) else (none))) = some (r1,r2,r3) := h
 clear h
 replace H := Option.bind_eq_some_iff.mp H
 obtain ⟨t268,A20,H⟩ := H
 replace H : (if 0 ≤ t268 then (if t268 ≤ (l0.length : Int) then ((spec_DrawSwapsOf.f k l0).bind fun bt271 => ((spec_l1Cur_pick.f (l0.drop (t268 : Int).toNat) 0 0 (wrap64 ((bt271.2.size : Int) + 1))).bind fun bt273 => ((spec_l1Cur_pick.f (l0.drop (t268 : Int).toNat) bt273.2.1 bt273.2.2 12).bind fun bt276 => (some (bt271.1,bt271.2,wrap64 (bt273.1 - (wrap64 (Int.tdiv bt276.1 11)))))))) else (none)) else (none)) = some (r1,r2,r3) := H
 have A2 := Aside0.mk A20
 clear A20
 by_cases c3 : 0 ≤ t268
 ·rw [if_pos c3] at H
  have c3b0 := eq_true c3
  have c3b1 : decide (0 ≤ t268) = true := decide_eq_true c3
  clear c3
  by_cases c4 : t268 ≤ (l0.length : Int)
  ·rw [if_pos c4] at H
   have c4b0 := eq_true c4
   have c4b1 : decide (t268 ≤ (l0.length : Int)) = true := decide_eq_true c4
   clear c4
   replace H := Option.bind_eq_some_iff.mp H
   obtain ⟨⟨t271,t272⟩,A50,H⟩ := H
   replace H : ((spec_l1Cur_pick.f (l0.drop (t268 : Int).toNat) 0 0 (wrap64 ((t272.size : Int) + 1))).bind fun bt273 => ((spec_l1Cur_pick.f (l0.drop (t268 : Int).toNat) bt273.2.1 bt273.2.2 12).bind fun bt276 => (some (t271,t272,wrap64 (bt273.1 - (wrap64 (Int.tdiv bt276.1 11))))))) = some (r1,r2,r3) := H
   have A5 := Aside0.mk A50
   clear A50
   replace H := Option.bind_eq_some_iff.mp H
   obtain ⟨⟨t273,t274,t275⟩,A60,H⟩ := H
   replace H : ((spec_l1Cur_pick.f (l0.drop (t268 : Int).toNat) t274 t275 12).bind fun bt276 => (some (t271,t272,wrap64 (t273 - (wrap64 (Int.tdiv bt276.1 11)))))) = some (r1,r2,r3) := H
   have A6 := Aside0.mk A60
   clear A60
   replace H := Option.bind_eq_some_iff.mp H
   obtain ⟨⟨t276,t277,t278⟩,A70,H⟩ := H
   replace H : (some (t271,t272,wrap64 (t273 - (wrap64 (Int.tdiv t276 11))))) = some (r1,r2,r3) := H
   have A7 := Aside0.mk A70
   clear A70
   simp only [Option.some.injEq,Prod.mk.injEq] at H
   obtain ⟨rfl,rfl,rfl⟩ := H
   go_enter Tryd.func27,Tryd.ntmps27
   go_wp2_with (first|((with_reducible refine gate_callee (f := 56) rfl ?_);refine goesL_ (some 11) rfl rfl Tryd.func56 (by kernel_rfl) rfl #[.int .i64 (l0.length : Int),.int .i64 5] rfl (by (try simp only [List.map_toArray,List.map_cons,List.map_nil]);first|done|rfl|(simp only [List.length_drop,List.length_take];rfl)) ?_;(with_reducible refine (spec_l1Least.calls (l0.length : Int) 5 t268 _ A2.out).mono ?_);rintro e w' ⟨rfl,⟨nd,rfl⟩⟩;refine ⟨_,rfl,?_⟩;obtain ⟨i08,hi08,_,hsz8,_⟩ := info_parts info5;obtain ⟨A8,hcut8,hA8,hC8⟩ := print_drop_of (P := Tryd.prog) (Value.int .u8) 0 29 5 .i64 Tryd.underlying29 hi08 hsz8 A0 c0 l0 t268 (of_decide_eq_true (by first|(with_reducible assumption)|assumption)) (of_decide_eq_true (by first|(with_reducible assumption)|assumption)) HC0.out;have HR269 := Aside0.mk (Kd.C_of_reads (h1 := fun _ => rfl) (hA8 _ (Kd.reads_of_C HR0.out)));have HC269 := Aside0.mk hC8;clear hA8 hC8 hi08 hsz8)|((with_reducible refine gate_dst (N := 14) rfl ?_);refine box_event ?hg (N := 14) ?hd (cs := #[.slice A8 (l0.drop (t268 : Int).toNat).length (c0 - t268.toNat),.int .i64 0,.int .u64 0]) (t := 56) ?hr ?_;(case hd => rfl);(case hg => rfl);(case hr => first|(go_simp;done)|(go_simp;rfl));intro gb270 hg w9 hbox hb;have n0_ := Aside0.mk (below_step (by repeat (first|(with_reducible first|exact HB.out|apply lA|apply lN|apply lD)|exact HB.out)) hb);have n1_ := Aside0.mk ((show IsS56 w w9 gb270 (l0.drop (t268 : Int).toNat) 0 0 from ⟨_,_,hbox,(by rw [hg];exact (below_size (by repeat (first|(with_reducible first|exact HB.out|apply lA|apply lN|apply lD)|exact HB.out))) : w.heap.size ≤ gb270),HR269.out⟩));clear HB;have HB := n0_;have HI270 := n1_;clear n0_ n1_;clear hb hbox hg)|((with_reducible refine gate_callee (f := 29) rfl ?_);refine goesL_ (some 17) rfl rfl Tryd.func29 (by kernel_rfl) rfl #[.slice A0 l0.length c0] rfl (by (try simp only [List.map_toArray,List.map_cons,List.map_nil]);first|done|rfl|(simp only [List.length_drop,List.length_take];rfl)) ?_;(with_reducible refine (spec_DrawSwapsOf.calls k _ _ l0 t271 t272 _ ?side1 ?side2 A5.out).mono ?_);(case side1 => repeat (first|exact (Kd.C_below HR0.out HB.out)|(with_reducible refine Kd.C_alloc ?_ _)|(with_reducible refine Kd.C_drewN ?_ _)|(with_reducible refine Kd.C_drew ?_)));(case side2 => exact HC0.out);rintro e w10 ⟨rfl,hb⟩;refine ⟨_,rfl,?_⟩;have n0_ := Aside0.mk (IsS56.below (by repeat (first|(with_reducible first|exact HI270.out|apply IsS56.alloc|apply IsS56.drewN|apply IsS56.drew|apply IsS56.set_1|apply IsS56.set_2)|exact HI270.out)) hb);have n1_ := Aside0.mk (below_step (by repeat (first|(with_reducible first|exact HB.out|apply lA|apply lN|apply lD|refine below_set ?_ (IsS56.ge HI270.out))|exact HB.out)) hb);clear HI270;clear HB;have HI270 := n0_;have HB := n1_;clear n0_ n1_;(try clear hb);(try clear hb2);(try clear hk);(try clear hi))|((with_reducible refine gate_callee (f := 49) rfl ?_);refine goesL_ (some 26) rfl rfl Tryd.func49 (by kernel_rfl) rfl #[.pointer (some ⟨gb270,0,none⟩),.int .i64 (wrap64 ((t272.size : Int) + 1))] rfl (by (try simp only [List.map_toArray,List.map_cons,List.map_nil]);first|done|rfl|(simp only [List.length_drop,List.length_take];rfl)) ?_;(with_reducible refine (spec_l1Cur_pick.calls gb270 (l0.drop (t268 : Int).toNat) 0 0 (wrap64 ((t272.size : Int) + 1)) t273 t274 t275 w _ ?side1 ?side2 A6.out).mono ?_);(case side1 => repeat (first|(with_reducible first|exact HI270.out|apply IsS56.alloc|apply IsS56.drewN|apply IsS56.drew|apply IsS56.set_1|apply IsS56.set_2)|exact HI270.out));(case side2 => repeat (first|(with_reducible first|exact HB.out|apply lA|apply lN|apply lD|refine below_set ?_ (IsS56.ge HI270.out))|exact HB.out));rintro e w11 ⟨rfl,hi,hb,hk⟩;refine ⟨_,rfl,?_⟩;have n0_ := Aside0.mk (hb);have n1_ := Aside0.mk (hi);clear HB;clear HI270;have HB := n0_;have HI270 := n1_;clear n0_ n1_;(try clear hb);(try clear hb2);(try clear hk);(try clear hi))|((with_reducible refine gate_callee (f := 49) rfl ?_);refine goesL_ (some 28) rfl rfl Tryd.func49 (by kernel_rfl) rfl #[.pointer (some ⟨gb270,0,none⟩),.int .i64 12] rfl (by (try simp only [List.map_toArray,List.map_cons,List.map_nil]);first|done|rfl|(simp only [List.length_drop,List.length_take];rfl)) ?_;(with_reducible refine (spec_l1Cur_pick.calls gb270 (l0.drop (t268 : Int).toNat) t274 t275 12 t276 t277 t278 w _ ?side1 ?side2 A7.out).mono ?_);(case side1 => repeat (first|(with_reducible first|exact HI270.out|apply IsS56.alloc|apply IsS56.drewN|apply IsS56.drew|apply IsS56.set_1|apply IsS56.set_2)|exact HI270.out));(case side2 => repeat (first|(with_reducible first|exact HB.out|apply lA|apply lN|apply lD|refine below_set ?_ (IsS56.ge HI270.out))|exact HB.out));rintro e w12 ⟨rfl,hi,hb,hk⟩;refine ⟨_,rfl,?_⟩;have n0_ := Aside0.mk (hb);have n1_ := Aside0.mk (hi);clear HB;clear HI270;have HB := n0_;have HI270 := n1_;clear n0_ n1_;(try clear hb);(try clear hb2);(try clear hk);(try clear hi)))
   go_ret3
   exact ⟨by first|rfl|(simp [errW_none,errW_some] <;> rfl)|(simp [*,errW_none,errW_some] <;> rfl),by repeat (first|(with_reducible first|exact HB.out|apply lA|apply lN|apply lD|refine below_set ?_ (IsS56.ge HI270.out))|exact HB.out)⟩
  ·rw [if_neg c4] at H
   exact absurd H (by simp)
 ·rw [if_neg c3] at H
  exact absurd H (by simp)
def spec_l1In.f (a0 : Int) (a1 : Int) (a2 : Int) : Option (Bool) := if a0 ≥ a1 then (some (decide (a0 ≤ a2))) else (some false)
set_option maxHeartbeats 8000000 in
set_option maxRecDepth 100000 in
theorem spec_l1In.calls (a0 : Int) (a1 : Int) (a2 : Int) (r : Bool) (w : World) (h : spec_l1In.f a0 a1 a2 = some r) :
  Calls Tryd.prog 58 #[.int .i64 a0,.int .i64 a1,.int .i64 a2] w fun e w' => e = .returned (.bool r) ∧ Drawn0 w w' := by
 have H : (if a0 ≥ a1 then (some (decide (a0 ≤ a2))) else (some false)) = some r := h
 clear h
 by_cases c4 : a0 ≥ a1
 ·rw [if_pos c4] at H
  have c4b0 : decide (a1 ≤ a0) = true := decide_eq_true c4
  clear c4
  obtain rfl := Option.some.inj H
  simp only [Option.some.injEq,Prod.mk.injEq] at H
  obtain ⟨rfl⟩ := H
  go_enter Tryd.func58,Tryd.ntmps58
  go_wp2
  go_ret
  exact ⟨by first|rfl|(simp;done)|(simp [my_isEmpty];done)|(simp [*];done),by repeat (first|exact Drawn0.refl _|apply Drawn0.step)⟩
 ·rw [if_neg c4] at H
  have c4b0 : decide (a1 ≤ a0) = false := decide_eq_false c4
  clear c4
  obtain rfl := Option.some.inj H
  simp only [Option.some.injEq,Prod.mk.injEq] at H
  obtain ⟨rfl⟩ := H
  go_enter Tryd.func58,Tryd.ntmps58
  go_wp2
  go_ret
  exact ⟨by first|rfl|(simp;done)|(simp [my_isEmpty];done)|(simp [*];done),by repeat (first|exact Drawn0.refl _|apply Drawn0.step)⟩
end Go.Proofs.YtpnjnlcjofaglaaDoor.P
