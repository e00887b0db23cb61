/- Written by a program in this session: each theorem here says that a Go function computes the Lean function beside it, or that a law's row holds, under the conditions that the theorem itself states. -/
import Derived.Test.YtinbbjfnebhlkaaDoorZPx0
import Derived.Test.YtinbbjfnebhlkaaDoorZPx8
namespace Go.Proofs.YtinbbjfnebhlkaaDoor.P
open Go.RowKit Go.Proofs.YtinbbjfnebhlkaaDoorW.PrintWords Go.Proofs.YtinbbjfnebhlkaaDoorW.PrintLast Go.Proofs.YtinbbjfnebhlkaaDoorW.PrintMore
attribute [local go_sem] max2_int min2_int max_two min_two max_three min_three max_four min_four   -- for this text's walks alone
set_option linter.unusedVariables false
set_option linter.unusedSimpArgs false
def spec_l1Cur_log.l0 : Nat → Int → List Int → Int → Int → ByteArray → ByteArray → Int → Option (ByteArray × ByteArray × Int × Int × Int)
 | 0,_,_,_,_,_,_,_ => none
 | k + 1,x4,x1000,x1001,x1002,x317000,x317001,x317002 => if x4 > 0 then ((spec_l1Cur_logRecord.f x1000 x1001 x1002).bind fun bt320 => ((spec_AppendRecord.f k x317000 x317001 x317002 bt320.1 bt320.2.1).bind fun bt324 => ((spec_l1Cur_one.f x1000 bt320.2.2.1 bt320.2.2.2 4).bind fun bt328 => (if bt328.1 = true then ((spec_SyncLog.f k bt324.1 bt324.2.1 bt324.2.2.1).bind fun bt331 => (spec_l1Cur_log.l0 k (wrap64 (x4 - 1)) x1000 bt328.2.1 bt328.2.2 bt331.1 bt331.2.1 bt331.2.2.1)) else (spec_l1Cur_log.l0 k (wrap64 (x4 - 1)) x1000 bt328.2.1 bt328.2.2 bt324.1 bt324.2.1 bt324.2.2.1))))) else (some (x317000,x317001,x317002,x1001,x1002))
def spec_l1Cur_log.f (k : Nat) (s0_0 : List Int) (s0_1 : Int) (s0_2 : Int) : Option (ByteArray × ByteArray × Int × Int × Int) := (spec_l1Cur_pick.f s0_0 s0_1 s0_2 7).bind fun bt317 => (spec_l1Cur_log.l0 k bt317.1 s0_0 bt317.2.1 bt317.2.2 (⟨#[]⟩ : ByteArray) (⟨#[]⟩ : ByteArray) 0)
theorem spec_l1Cur_log.mono_l : ∀ k,(∀ y0 y1 y2 y3 y4 y5 y6,LeO (spec_l1Cur_log.l0 k y0 y1 y2 y3 y4 y5 y6) (spec_l1Cur_log.l0 (k + 1) y0 y1 y2 y3 y4 y5 y6))
 | 0 => fun _ _ _ _ _ _ _ r h => by simp [spec_l1Cur_log.l0] at h
 | k + 1 => by
  have ih0 := spec_l1Cur_log.mono_l k
  ·intro y0 y1 y2 y3 y4 y5 y6
   unfold spec_l1Cur_log.l0
   repeat' first
   | (with_reducible exact ih0 _ _ _ _ _ _ _)
   | (with_reducible exact spec_AppendRecord.mono _ _ _ _ _ _)
   | (with_reducible exact spec_SyncLog.mono _ _ _ _)
   | (with_reducible exact LeO.refl _)
   | (with_reducible exact LeO.none _)
   | (with_reducible refine LeO.ite ?_ ?_)
   | (with_reducible refine LeO.bind ?_ (fun _ => ?_))
   | exact ih0 _ _ _ _ _ _ _
   | exact spec_AppendRecord.mono _ _ _ _ _ _
   | exact spec_SyncLog.mono _ _ _ _
   | exact LeO.none _
   | refine LeO.ite ?_ ?_
   | refine LeO.bind ?_ (fun _ => ?_)
theorem spec_l1Cur_log.mono : ∀ a0 a1 a2 k,LeO (spec_l1Cur_log.f k a0 a1 a2) (spec_l1Cur_log.f (k + 1) a0 a1 a2) := by
 intro a0 a1 a2 k
 have ih0 := spec_l1Cur_log.mono_l k
 unfold spec_l1Cur_log.f
 repeat' first
   | (with_reducible exact ih0 _ _ _ _ _ _ _)
   | (with_reducible exact spec_AppendRecord.mono _ _ _ _ _ _)
   | (with_reducible exact spec_SyncLog.mono _ _ _ _)
   | (with_reducible exact LeO.refl _)
   | (with_reducible exact LeO.none _)
   | (with_reducible refine LeO.ite ?_ ?_)
   | (with_reducible refine LeO.bind ?_ (fun _ => ?_))
   | exact ih0 _ _ _ _ _ _ _
   | exact spec_AppendRecord.mono _ _ _ _ _ _
   | exact spec_SyncLog.mono _ _ _ _
   | exact LeO.none _
   | refine LeO.ite ?_ ?_
   | refine LeO.bind ?_ (fun _ => ?_)
def spec_l1Cur_log.T5 : Bool × List (List Nat × List Nat) := (true,[([],[]),([],[]),([1],[1]),([0,2,2],[0,2]),([3],[3]),([4],[4]),([4],[4]),([5,3,0,1,2,3,4,5],[5])])
def spec_l1Cur_log.B5 : List Nat := [0,0,2,7,15,31,31,63]
theorem spec_l1Cur_log.tab5 : rtab .any (opsOf Tryd.f59 5) = spec_l1Cur_log.T5 := by kernel_rfl
theorem spec_l1Cur_log.bits5 : waitsOk spec_l1Cur_log.T5.2 spec_l1Cur_log.B5 = true := by kernel_rfl
set_option maxHeartbeats 8000000 in
set_option maxRecDepth 100000 in
theorem spec_l1Cur_log.calls (k : Nat) (g : Nat) (s0_0 : List Int) (s0_1 : Int) (s0_2 : Int) (r1 : ByteArray) (r2 : ByteArray) (r3 : Int) (r4 : Int) (r5 : Int) (w0 w : World) (hI : IsS74 w0 w g s0_0 s0_1 s0_2) (hB : Below w0.heap.size w0 w) (h : spec_l1Cur_log.f k s0_0 s0_1 s0_2 = some (r1,r2,r3,r4,r5)) :
  Calls Tryd.prog 59 #[.pointer (some ⟨g,0,none⟩)] w fun e w' => e = .returned (.agg #[.string r1,.string r2,.int .i64 r3]) ∧ IsS74 w0 w' g s0_0 r4 r5 ∧ Below w0.heap.size w0 w' ∧ KeepBut w w' g none := by
 have hu31 := Tryd.underlying31
 have HI0 := Aside0.mk hI
 have HK := Aside0.mk (KeepBut.refl w g none)
 have HL := Aside0.mk hB.size
 clear hI
 have HW0 := Aside0.mk hB.size
 have HB := Aside0.mk hB
 clear hB
 have H : ((spec_l1Cur_pick.f s0_0 s0_1 s0_2 7).bind fun bt317 => (spec_l1Cur_log.l0 k bt317.1 s0_0 bt317.2.1 bt317.2.2 (⟨#[]⟩ : ByteArray) (⟨#[]⟩ : ByteArray) 0)) = some (r1,r2,r3,r4,r5) := h
 clear h
 replace H := Option.bind_eq_some_iff.mp H
 obtain ⟨⟨t317,t318,t319⟩,A20,H⟩ := H
 replace H : (spec_l1Cur_log.l0 k t317 s0_0 t318 t319 (⟨#[]⟩ : ByteArray) (⟨#[]⟩ : ByteArray) 0) = some (r1,r2,r3,r4,r5) := H
 have A2 := Aside0.mk A20
 clear A20
 have H' := Aside0.mk H
 clear H
 go_enter Tryd.func59,Tryd.ntmps59
 go_wp2_with (first|((with_reducible refine gate_dst (N := 2) rfl ?_);refine box_event ?hg (N := 2) ?hd (cs := #[.string (⟨#[]⟩ : ByteArray),.string (⟨#[]⟩ : ByteArray),.int .i64 0]) (t := 31) ?hr ?_;(case hd => rfl);(case hg => rfl);(case hr => first|(go_simp;done)|(go_simp;rfl));intro gb315 hg w3 hbox hb;have n0_ := Aside0.mk (IsS74.below (by repeat (first|(with_reducible first|exact HI0.out|apply IsS74.alloc|apply IsS74.drewN|apply IsS74.drew|apply IsS74.set_1|apply IsS74.set_2)|exact HI0.out)) hb);have n1_ := Aside0.mk (KeepBut.trans (by repeat (first|(with_reducible first|exact HK.out|apply KeepBut.set_|apply keep_drewN|apply keep_drew|apply keep_alloc)|exact HK.out)) (KeepBut.of_below hb g none) (.inl rfl));have n2_ := Aside0.mk (below_step (by repeat (first|(with_reducible first|exact HB.out|apply lA|apply lN|apply lD|refine below_set ?_ (IsS74.ge HI0.out))|exact HB.out)) hb);have n3_ := Aside0.mk (hbox);have n4_ := Aside0.mk ((by rw [hg];exact (keep_size (w := w) (g := g) (row := none) (by repeat (first|(with_reducible first|exact HK.out|apply KeepBut.set_|apply keep_drewN|apply keep_drew|apply keep_alloc)|exact HK.out))) : w.heap.size ≤ gb315));have n5_ := Aside0.mk ((Nat.le_trans HW0.out (by rw [hg];exact (keep_size (w := w) (g := g) (row := none) (by repeat (first|(with_reducible first|exact HK.out|apply KeepBut.set_|apply keep_drewN|apply keep_drew|apply keep_alloc)|exact HK.out))) : w.heap.size ≤ gb315) : w0.heap.size ≤ gb315));have n6_ := Aside0.mk ((by rw [hg];exact Nat.ne_of_lt (IsS74.lt (show IsS74 w0 _ g s0_0 s0_1 s0_2 from by repeat (first|(with_reducible first|exact HI0.out|apply IsS74.alloc|apply IsS74.drewN|apply IsS74.drew|apply IsS74.set_1|apply IsS74.set_2)|exact HI0.out))) : g ≠ gb315));have n7_ := Aside0.mk ((by rw [hg];exact Nat.ne_of_gt (IsS74.lt (show IsS74 w0 _ g s0_0 s0_1 s0_2 from by repeat (first|(with_reducible first|exact HI0.out|apply IsS74.alloc|apply IsS74.drewN|apply IsS74.drew|apply IsS74.set_1|apply IsS74.set_2)|exact HI0.out))) : gb315 ≠ g));clear HI0;clear HK;clear HB;have HI0 := n0_;have HK := n1_;have HB := n2_;have BK315 := n3_;have GW315 := n4_;have GE315 := n5_;have NB0_315 := n6_;have NB315_0 := n7_;clear n0_ n1_ n2_ n3_ n4_ n5_ n6_ n7_;clear hb hbox hg)|((with_reducible refine gate_dst (N := 3) rfl ?_);refine box_event ?hg (N := 3) ?hd (cs := #[.string (⟨#[]⟩ : ByteArray),.string (⟨#[]⟩ : ByteArray),.int .i64 0]) (t := 31) ?hr ?_;(case hd => rfl);(case hg => rfl);(case hr => first|(go_simp;done)|(go_simp;rfl));intro gb316 hg w4 hbox hb;have n0_ := Aside0.mk (IsS74.below (by repeat (first|(with_reducible first|exact HI0.out|apply IsS74.alloc|apply IsS74.drewN|apply IsS74.drew|apply IsS74.set_1|apply IsS74.set_2|refine IsS74.far ?_ NB0_315.out _)|exact HI0.out)) hb);have n1_ := Aside0.mk (blk_below (g := gb315) (o := .cells #[.string (⟨#[]⟩ : ByteArray),.string (⟨#[]⟩ : ByteArray),.int .i64 0] 31 (0,0)) (by (with_reducible repeat (first|refine bN ?_ _|refine bD ?_|refine bA ?_ _));exact BK315.out) hb);have n2_ := Aside0.mk (KeepBut.trans (by repeat (first|(with_reducible first|exact HK.out|apply KeepBut.set_|apply keep_drewN|apply keep_drew|apply keep_alloc|refine keep_far ?_ GW315.out _)|exact HK.out)) (KeepBut.of_below hb g none) (.inl rfl));have n3_ := Aside0.mk (below_step (by repeat (first|(with_reducible first|exact HB.out|apply lA|apply lN|apply lD|refine below_set ?_ (IsS74.ge HI0.out)|refine below_set ?_ GE315.out)|exact HB.out)) hb);have n4_ := Aside0.mk (hbox);have n5_ := Aside0.mk ((by rw [hg];exact (keep_size (w := w) (g := g) (row := none) (by repeat (first|(with_reducible first|exact HK.out|apply KeepBut.set_|apply keep_drewN|apply keep_drew|apply keep_alloc|refine keep_far ?_ GW315.out _)|exact HK.out))) : w.heap.size ≤ gb316));have n6_ := Aside0.mk ((Nat.le_trans HW0.out (by rw [hg];exact (keep_size (w := w) (g := g) (row := none) (by repeat (first|(with_reducible first|exact HK.out|apply KeepBut.set_|apply keep_drewN|apply keep_drew|apply keep_alloc|refine keep_far ?_ GW315.out _)|exact HK.out))) : w.heap.size ≤ gb316) : w0.heap.size ≤ gb316));have n7_ := Aside0.mk ((by rw [hg];exact Nat.ne_of_lt (blk_lt (g := gb315) (o := .cells #[.string (⟨#[]⟩ : ByteArray),.string (⟨#[]⟩ : ByteArray),.int .i64 0] 31 (0,0)) (by (with_reducible repeat (first|refine bN ?_ _|refine bD ?_|refine bA ?_ _));exact BK315.out)) : gb315 ≠ gb316));have n8_ := Aside0.mk ((by rw [hg];exact Nat.ne_of_gt (blk_lt (g := gb315) (o := .cells #[.string (⟨#[]⟩ : ByteArray),.string (⟨#[]⟩ : ByteArray),.int .i64 0] 31 (0,0)) (by (with_reducible repeat (first|refine bN ?_ _|refine bD ?_|refine bA ?_ _));exact BK315.out)) : gb316 ≠ gb315));have n9_ := Aside0.mk ((by rw [hg];exact Nat.ne_of_lt (IsS74.lt (show IsS74 w0 _ g s0_0 s0_1 s0_2 from by repeat (first|(with_reducible first|exact HI0.out|apply IsS74.alloc|apply IsS74.drewN|apply IsS74.drew|apply IsS74.set_1|apply IsS74.set_2|refine IsS74.far ?_ NB0_315.out _)|exact HI0.out))) : g ≠ gb316));have n10_ := Aside0.mk ((by rw [hg];exact Nat.ne_of_gt (IsS74.lt (show IsS74 w0 _ g s0_0 s0_1 s0_2 from by repeat (first|(with_reducible first|exact HI0.out|apply IsS74.alloc|apply IsS74.drewN|apply IsS74.drew|apply IsS74.set_1|apply IsS74.set_2|refine IsS74.far ?_ NB0_315.out _)|exact HI0.out))) : gb316 ≠ g));clear HI0;clear BK315;clear HK;clear HB;have HI0 := n0_;have BK315 := n1_;have HK := n2_;have HB := n3_;have BK316 := n4_;have GW316 := n5_;have GE316 := n6_;have NB315_316 := n7_;have NB316_315 := n8_;have NB0_316 := n9_;have NB316_0 := n10_;clear n0_ n1_ n2_ n3_ n4_ n5_ n6_ n7_ n8_ n9_ n10_;clear hb hbox hg;have hnb5 := NB316_315.out;have hnc5 := NB315_316.out;have hnb6 := NB316_0.out;have hnc6 := NB0_316.out;have hcz7_0 : w4.cell? ⟨gb316,0,none⟩ = some (.string (⟨#[]⟩ : ByteArray)) := (blk_cell BK316.out 0).trans rfl;have hcz7_1 : w4.cell? ⟨gb316,1,none⟩ = some (.string (⟨#[]⟩ : ByteArray)) := (blk_cell BK316.out 1).trans rfl;have hcz7_2 : w4.cell? ⟨gb316,2,none⟩ = some (.int .i64 0) := (blk_cell BK316.out 2).trans rfl;have hfz7_0 := blk_frozen BK316.out 0;have hfz7_1 := blk_frozen BK316.out 1;have hfz7_2 := blk_frozen BK316.out 2)|((with_reducible refine gate_callee (f := 54) rfl ?_);refine goesL_ (some 7) rfl rfl Tryd.func54 (by kernel_rfl) rfl #[.pointer (some ⟨g,0,none⟩),.int .i64 7] rfl (by (try simp only [List.map_toArray,List.map_cons,List.map_nil]);first|done|rfl|(simp only [List.length_drop,List.length_take];rfl)) ?_;(with_reducible refine (spec_l1Cur_pick.calls g s0_0 s0_1 s0_2 7 t317 t318 t319 w0 _ ?side1 ?side2 A2.out).mono ?_);(case side1 => repeat (first|(with_reducible first|exact HI0.out|apply IsS74.alloc|apply IsS74.drewN|apply IsS74.drew|apply IsS74.set_1|apply IsS74.set_2|refine IsS74.far ?_ NB0_315.out _|refine IsS74.far ?_ NB0_316.out _)|exact HI0.out));(case side2 => repeat (first|(with_reducible first|exact HB.out|apply lA|apply lN|apply lD|refine below_set ?_ (IsS74.ge HI0.out)|refine below_set ?_ GE315.out|refine below_set ?_ GE316.out)|exact HB.out));rintro e w8 ⟨rfl,hi,hb,hk⟩;refine ⟨_,rfl,?_⟩;have n0_ := Aside0.mk (KeepBut.blk hk (g' := gb315) (o := .cells #[.string (⟨#[]⟩ : ByteArray),.string (⟨#[]⟩ : ByteArray),.int .i64 0] 31 (0,0)) (by (with_reducible repeat (first|refine bN ?_ _|refine bD ?_|refine bA ?_ _));refine blk_far ?_ NB315_316.out _;(with_reducible repeat (first|refine bN ?_ _|refine bD ?_|refine bA ?_ _));refine blk_far ?_ NB315_316.out _;(with_reducible repeat (first|refine bN ?_ _|refine bD ?_|refine bA ?_ _));refine blk_far ?_ NB315_316.out _;(with_reducible repeat (first|refine bN ?_ _|refine bD ?_|refine bA ?_ _));exact BK315.out) NB315_0.out (by simp));have n1_ := Aside0.mk (KeepBut.blk hk (g' := gb316) (o := .cells #[.string (⟨#[]⟩ : ByteArray),.string (⟨#[]⟩ : ByteArray),.int .i64 0] 31 (0,0)) (by (with_reducible repeat (first|refine bN ?_ _|refine bD ?_|refine bA ?_ _));refine blk_put (cs := #[.string (⟨#[]⟩ : ByteArray),.string (⟨#[]⟩ : ByteArray),.int .i64 0]) ?_ 2 _ rfl;(with_reducible repeat (first|refine bN ?_ _|refine bD ?_|refine bA ?_ _));refine blk_put (cs := #[.string (⟨#[]⟩ : ByteArray),.string (⟨#[]⟩ : ByteArray),.int .i64 0]) ?_ 1 _ rfl;(with_reducible repeat (first|refine bN ?_ _|refine bD ?_|refine bA ?_ _));refine blk_put (cs := #[.string (⟨#[]⟩ : ByteArray),.string (⟨#[]⟩ : ByteArray),.int .i64 0]) ?_ 0 _ rfl;(with_reducible repeat (first|refine bN ?_ _|refine bD ?_|refine bA ?_ _));exact BK316.out) NB316_0.out (by simp));have n2_ := Aside0.mk (KeepBut.trans (by repeat (first|(with_reducible first|exact HK.out|apply KeepBut.set_|apply keep_drewN|apply keep_drew|apply keep_alloc|refine keep_far ?_ GW315.out _|refine keep_far ?_ GW316.out _)|exact HK.out)) hk (.inl rfl));have n3_ := Aside0.mk (hb);have n4_ := Aside0.mk (hi);clear BK315;clear BK316;clear HK;clear HB;clear HI0;have BK315 := n0_;have BK316 := n1_;have HK := n2_;have HB := n3_;have HI0 := n4_;clear n0_ n1_ n2_ n3_ n4_;(try clear hb);(try clear hb2);(try clear hk);(try clear hi)))
 go_loopg [4] k (fun kq v4 w' => ∃ (x4_1 : Int) (x1001_1 : Int) (x1002_1 : Int) (x317000_1 : ByteArray) (x317001_1 : ByteArray) (x317002_1 : Int),v4 = .int .i64 x4_1 ∧ Aside0 (spec_l1Cur_log.l0 kq x4_1 s0_0 x1001_1 x1002_1 x317000_1 x317001_1 x317002_1 = some (r1,r2,r3,r4,r5)) ∧ Aside0 (kq ≤ k) ∧ Aside0 (w'.heap[gb315]? = some (.cells #[.string (⟨#[]⟩ : ByteArray),.string (⟨#[]⟩ : ByteArray),.int .i64 0] 31 (0,0))) ∧ Aside0 (w'.heap[gb316]? = some (.cells #[.string x317000_1,.string x317001_1,.int .i64 x317002_1] 31 (0,0))) ∧ Aside0 (IsS74 w0 w' g s0_0 x1001_1 x1002_1) ∧ Aside0 (KeepBut w w' g none) ∧ Aside0 (Below w0.heap.size w0 w'))
 case atStart => exact ⟨(t317),(t318),(t319),((⟨#[]⟩ : ByteArray)),((⟨#[]⟩ : ByteArray)),(0),(by first|rfl|(simp;done)|(simp [my_isEmpty];done)|(simp [*];done)),H',⟨Nat.le_refl _⟩,⟨by (with_reducible repeat (first|refine bN ?_ _|refine bD ?_|refine bA ?_ _));exact BK315.out⟩,⟨by (with_reducible repeat (first|refine bN ?_ _|refine bD ?_|refine bA ?_ _));exact BK316.out⟩,⟨by repeat (first|(with_reducible first|exact HI0.out|apply IsS74.alloc|apply IsS74.drewN|apply IsS74.drew|apply IsS74.set_1|apply IsS74.set_2|refine IsS74.far ?_ NB0_315.out _|refine IsS74.far ?_ NB0_316.out _)|exact HI0.out)⟩,⟨by repeat (first|(with_reducible first|exact HK.out|apply KeepBut.set_|apply keep_drewN|apply keep_drew|apply keep_alloc|refine keep_far ?_ GW315.out _|refine keep_far ?_ GW316.out _)|exact HK.out)⟩,⟨by repeat (first|(with_reducible first|exact HB.out|apply lA|apply lN|apply lD|refine below_set ?_ (IsS74.ge HI0.out)|refine below_set ?_ GE315.out|refine below_set ?_ GE316.out)|exact HB.out)⟩⟩
 case round =>
  clear H'
  try clear p2
  try clear c5
  try clear c6
  try clear hcz7_0
  try clear hcz7_1
  try clear hcz7_2
  try clear hfz7_0
  try clear hfz7_1
  try clear hfz7_2
  obtain ⟨x4_1,x1001_1,x1002_1,x317000_1,x317001_1,x317002_1,rfl,HA,HK1,BK315,BK316,HI0,HK,HB⟩ := hrel
  cases gk with
  | zero => exact absurd HA.out (by simp [spec_l1Cur_log.l0])
  | succ k1 =>
   have H := HA.out
   clear HA
   simp only [spec_l1Cur_log.l0] at H
   by_cases c9 : x4_1 > 0
   ·rw [if_pos c9] at H
    have c9b0 : decide (0 < x4_1) = true := decide_eq_true c9
    clear c9
    replace H := Option.bind_eq_some_iff.mp H
    obtain ⟨⟨t320,t321,t322,t323⟩,A100,H⟩ := H
    replace H : ((spec_AppendRecord.f k1 x317000_1 x317001_1 x317002_1 t320 t321).bind fun bt324 => ((spec_l1Cur_one.f s0_0 t322 t323 4).bind fun bt328 => (if bt328.1 = true then ((spec_SyncLog.f k1 bt324.1 bt324.2.1 bt324.2.2.1).bind fun bt331 => (spec_l1Cur_log.l0 k1 (wrap64 (x4_1 - 1)) s0_0 bt328.2.1 bt328.2.2 bt331.1 bt331.2.1 bt331.2.2.1)) else (spec_l1Cur_log.l0 k1 (wrap64 (x4_1 - 1)) s0_0 bt328.2.1 bt328.2.2 bt324.1 bt324.2.1 bt324.2.2.1)))) = some (r1,r2,r3,r4,r5) := H
    have A10 := Aside0.mk A100
    clear A100
    replace H := Option.bind_eq_some_iff.mp H
    obtain ⟨⟨t324,t325,t326,t327⟩,A110,H⟩ := H
    replace H : ((spec_l1Cur_one.f s0_0 t322 t323 4).bind fun bt328 => (if bt328.1 = true then ((spec_SyncLog.f k1 t324 t325 t326).bind fun bt331 => (spec_l1Cur_log.l0 k1 (wrap64 (x4_1 - 1)) s0_0 bt328.2.1 bt328.2.2 bt331.1 bt331.2.1 bt331.2.2.1)) else (spec_l1Cur_log.l0 k1 (wrap64 (x4_1 - 1)) s0_0 bt328.2.1 bt328.2.2 t324 t325 t326))) = some (r1,r2,r3,r4,r5) := H
    have A11 := Aside0.mk A110
    clear A110
    replace H := Option.bind_eq_some_iff.mp H
    obtain ⟨⟨t328,t329,t330⟩,A120,H⟩ := H
    replace H : (if t328 = true then ((spec_SyncLog.f k1 t324 t325 t326).bind fun bt331 => (spec_l1Cur_log.l0 k1 (wrap64 (x4_1 - 1)) s0_0 t329 t330 bt331.1 bt331.2.1 bt331.2.2.1)) else (spec_l1Cur_log.l0 k1 (wrap64 (x4_1 - 1)) s0_0 t329 t330 t324 t325 t326)) = some (r1,r2,r3,r4,r5) := H
    have A12 := Aside0.mk A120
    clear A120
    by_cases c13 : t328 = true
    ·subst c13
     have H1 : ((spec_SyncLog.f k1 t324 t325 t326).bind fun bt331 => (spec_l1Cur_log.l0 k1 (wrap64 (x4_1 - 1)) s0_0 t329 t330 bt331.1 bt331.2.1 bt331.2.2.1)) = some (r1,r2,r3,r4,r5) := by rw [if_pos rfl] at H;exact H
     clear H
     have H := H1
     clear H1
     replace H := Option.bind_eq_some_iff.mp H
     obtain ⟨⟨t331,t332,t333,t334⟩,A140,H⟩ := H
     replace H : (spec_l1Cur_log.l0 k1 (wrap64 (x4_1 - 1)) s0_0 t329 t330 t331 t332 t333) = some (r1,r2,r3,r4,r5) := H
     have A14 := Aside0.mk A140
     clear A140
     have H' := Aside0.mk H
     clear H
     try go_wp2
     have n0_ := Aside0.mk (bD BK315.out)
     have n1_ := Aside0.mk (bD BK316.out)
     have n2_ := Aside0.mk (IsS74.drew HI0.out)
     have n3_ := Aside0.mk (keep_drew HK.out)
     have n4_ := Aside0.mk (lD HB.out)
     clear BK315
     clear BK316
     clear HI0
     clear HK
     clear HB
     have BK315 := n0_
     have BK316 := n1_
     have HI0 := n2_
     have HK := n3_
     have HB := n4_
     clear n0_ n1_ n2_ n3_ n4_
     refine start_ (n := 8) (S := fun w' => w'.cell? ⟨gb316,0,none⟩ = some (.string x317000_1) ∧ w'.cell? ⟨gb316,1,none⟩ = some (.string x317001_1) ∧ w'.cell? ⟨gb316,2,none⟩ = some (.int .i64 x317002_1)) (ds := [7]) #[false,false,false,false,false,false,false,false] (by kernel_rfl) rfl rfl ⟨(blk_cell BK316.out 0).trans rfl,(blk_cell BK316.out 1).trans rfl,(blk_cell BK316.out 2).trans rfl⟩ (fun hHeld => ?_);refine with_tabW spec_l1Cur_log.tab5 spec_l1Cur_log.bits5 (fun HT_ HW_ => ?_)
     generalize wr.drew = w15 at BK315 BK316 HI0 HK HB hHeld ⊢
     refine pure_ (i := 1) (N := some 14) (v := ?_) (a' := ?_) #[false,true,false,false,false,false,false,false] rfl rfl (any_of HT_.out (by kernel_rfl)) (fun _ _ _ h => h) (Or.inl ⟨by rfl,?_⟩) ?_ ?_
     rotate_left
     ·intro w'
      go_simp
      with_reducible rfl
     rotate_left
     ·simp only [Act.put,List.setIfInBounds_toArray,List.set_cons_zero,List.set_cons_succ,i64_w,i32_w]
      rfl
     refine take_ (i := 0) (N := some 13) (v := ?_) (a' := ?_) #[true,true,false,false,false,false,false,false] rfl rfl (take_ofW HT_.out HW_.out (by kernel_rfl)) (fun _ _ _ h => h) (Or.inl ⟨by rfl,?_⟩) hHeld ?_ ?_
     rotate_left
     ·rintro w' ⟨s0,s1,s2⟩
      go_simp
      with_reducible rfl
     rotate_left
     ·simp only [Act.put,List.setIfInBounds_toArray,List.set_cons_zero,List.set_cons_succ,i64_w,i32_w]
      rfl
     refine one_ (i := 2) (N := some 15) #[true,true,true,false,false,false,false,false] rfl rfl (one_of HT_.out (by kernel_rfl)) (by decide) (fun K hK => ?_)
     refine goes_ Tryd.func55 (by kernel_rfl) rfl #[.pointer (some ⟨g,0,none⟩)] (by rfl) rfl rfl (by (try simp only [List.map_toArray,List.map_cons,List.map_nil]);first|done|rfl|(simp only [List.length_drop,List.length_take];rfl)) ?_
     with_reducible refine (spec_l1Cur_logRecord.calls g s0_0 x1001_1 x1002_1 t320 t321 t322 t323 w0 _ ?side1 ?side2 A10.out).mono ?_
     (case side1 => repeat (first|(with_reducible first|exact HI0.out|apply IsS74.alloc|apply IsS74.drewN|apply IsS74.drew|apply IsS74.set_1|apply IsS74.set_2|refine IsS74.far ?_ NB0_315.out _|refine IsS74.far ?_ NB0_316.out _)|exact HI0.out))
     (case side2 => repeat (first|(with_reducible first|exact HB.out|apply lA|apply lN|apply lD|refine below_set ?_ (IsS74.ge HI0.out)|refine below_set ?_ GE315.out|refine below_set ?_ GE316.out)|exact HB.out))
     rintro e w16 ⟨rfl,hi,hb,hk⟩
     refine ⟨_,rfl,?_⟩
     have n0_ := Aside0.mk (KeepBut.blk hk (g' := gb315) (o := .cells #[.string (⟨#[]⟩ : ByteArray),.string (⟨#[]⟩ : ByteArray),.int .i64 0] 31 (0,0)) (by (with_reducible repeat (first|refine bN ?_ _|refine bD ?_|refine bA ?_ _));exact BK315.out) NB315_0.out (by simp))
     have n1_ := Aside0.mk (KeepBut.blk hk (g' := gb316) (o := .cells #[.string x317000_1,.string x317001_1,.int .i64 x317002_1] 31 (0,0)) (by (with_reducible repeat (first|refine bN ?_ _|refine bD ?_|refine bA ?_ _));exact BK316.out) NB316_0.out (by simp))
     have n2_ := Aside0.mk (KeepBut.trans (by repeat (first|(with_reducible first|exact HK.out|apply KeepBut.set_|apply keep_drewN|apply keep_drew|apply keep_alloc|refine keep_far ?_ GW315.out _|refine keep_far ?_ GW316.out _)|exact HK.out)) hk (.inl rfl))
     have n3_ := Aside0.mk (hb)
     have n4_ := Aside0.mk (hi)
     clear BK315
     clear BK316
     clear HK
     clear HB
     clear HI0
     have BK315 := n0_
     have BK316 := n1_
     have HK := n2_
     have HB := n3_
     have HI0 := n4_
     clear n0_ n1_ n2_ n3_ n4_
     (try clear hb)
     (try clear hb2)
     (try clear hk)
     (try clear hi)
     refine hK.out _ _ ⟨(blk_cell BK316.out 0).trans rfl,(blk_cell BK316.out 1).trans rfl,(blk_cell BK316.out 2).trans rfl⟩ (fun hHeld => ?_)
     clear hK K
     refine norm_ (a' := ?_) ?_ ?_
     rotate_left
     ·show Act.put _ (some 15) _ = _
      simp only [Act.put,List.setIfInBounds_toArray,List.set_cons_zero,List.set_cons_succ,i64_w,i32_w]
      rfl
     refine one_ (i := 3) (N := some 16) #[true,true,true,true,false,false,false,false] rfl rfl (one_of HT_.out (by kernel_rfl)) (by decide) (fun K hK => ?_)
     refine goes_ Tryd.func28 (by kernel_rfl) rfl #[.agg #[.string x317000_1,.string x317001_1,.int .i64 x317002_1],.agg #[.string t320,.string t321]] (by rfl) rfl rfl (by (try simp only [List.map_toArray,List.map_cons,List.map_nil]);first|done|rfl|(simp only [List.length_drop,List.length_take];rfl)) ?_
     with_reducible refine (spec_AppendRecord.calls k1 x317000_1 x317001_1 x317002_1 t320 t321 t324 t325 t326 t327 _ A11.out).mono ?_
     rintro e w17 ⟨rfl,hb⟩
     refine ⟨_,rfl,?_⟩
     have n0_ := Aside0.mk (blk_below (g := gb315) (o := .cells #[.string (⟨#[]⟩ : ByteArray),.string (⟨#[]⟩ : ByteArray),.int .i64 0] 31 (0,0)) (by (with_reducible repeat (first|refine bN ?_ _|refine bD ?_|refine bA ?_ _));exact BK315.out) hb)
     have n1_ := Aside0.mk (blk_below (g := gb316) (o := .cells #[.string x317000_1,.string x317001_1,.int .i64 x317002_1] 31 (0,0)) (by (with_reducible repeat (first|refine bN ?_ _|refine bD ?_|refine bA ?_ _));exact BK316.out) hb)
     have n2_ := Aside0.mk (IsS74.below (by repeat (first|(with_reducible first|exact HI0.out|apply IsS74.alloc|apply IsS74.drewN|apply IsS74.drew|apply IsS74.set_1|apply IsS74.set_2|refine IsS74.far ?_ NB0_315.out _|refine IsS74.far ?_ NB0_316.out _)|exact HI0.out)) hb)
     have n3_ := Aside0.mk (KeepBut.trans (by repeat (first|(with_reducible first|exact HK.out|apply KeepBut.set_|apply keep_drewN|apply keep_drew|apply keep_alloc|refine keep_far ?_ GW315.out _|refine keep_far ?_ GW316.out _)|exact HK.out)) (KeepBut.of_below hb g none) (.inl rfl))
     have n4_ := Aside0.mk (below_step (by repeat (first|(with_reducible first|exact HB.out|apply lA|apply lN|apply lD|refine below_set ?_ (IsS74.ge HI0.out)|refine below_set ?_ GE315.out|refine below_set ?_ GE316.out)|exact HB.out)) hb)
     clear BK315
     clear BK316
     clear HI0
     clear HK
     clear HB
     have BK315 := n0_
     have BK316 := n1_
     have HI0 := n2_
     have HK := n3_
     have HB := n4_
     clear n0_ n1_ n2_ n3_ n4_
     (try clear hb)
     (try clear hb2)
     (try clear hk)
     (try clear hi)
     refine hK.out _ _ ⟨(blk_cell BK316.out 0).trans rfl,(blk_cell BK316.out 1).trans rfl,(blk_cell BK316.out 2).trans rfl⟩ (fun hHeld => ?_)
     clear hK K
     refine norm_ (a' := ?_) ?_ ?_
     rotate_left
     ·show Act.put _ (some 16) _ = _
      simp only [Act.put,List.setIfInBounds_toArray,List.set_cons_zero,List.set_cons_succ,i64_w,i32_w]
      rfl
     refine pure_ (i := 4) (N := some 12) (v := ?_) (a' := ?_) #[true,true,true,true,true,false,false,false] rfl rfl (any_of HT_.out (by kernel_rfl)) (fun _ _ _ h => h) (Or.inl ⟨by rfl,?_⟩) ?_ ?_
     rotate_left
     ·intro w'
      go_simp
      with_reducible rfl
     rotate_left
     ·simp only [Act.put,List.setIfInBounds_toArray,List.set_cons_zero,List.set_cons_succ,i64_w,i32_w]
      rfl
     refine pure_ (i := 5) (N := some 17) (v := ?_) (a' := ?_) #[true,true,true,true,true,true,false,false] rfl rfl (any_of HT_.out (by kernel_rfl)) (fun _ _ _ h => h) (Or.inl ⟨by rfl,?_⟩) ?_ ?_
     rotate_left
     ·intro w'
      go_simp
      with_reducible rfl
     rotate_left
     ·simp only [Act.put,List.setIfInBounds_toArray,List.set_cons_zero,List.set_cons_succ,i64_w,i32_w]
      rfl
     refine pure_ (i := 6) (N := some 18) (v := ?_) (a' := ?_) #[true,true,true,true,true,true,true,false] rfl rfl (any_of HT_.out (by kernel_rfl)) (fun _ _ _ h => h) (Or.inl ⟨by rfl,?_⟩) ?_ ?_
     rotate_left
     ·intro w'
      go_simp
      with_reducible rfl
     rotate_left
     ·simp only [Act.put,List.setIfInBounds_toArray,List.set_cons_zero,List.set_cons_succ,i64_w,i32_w]
      rfl
     refine last_ (i := 7) (N := none) #[true,true,true,true,true,true,true,true] rfl rfl (one_of HT_.out (by kernel_rfl)) (by decide) (fun K hK => ?_)
     have hs18 : w17.cell? ⟨gb316,0,none⟩ = some (.string x317000_1) := (blk_cell BK316.out 0).trans rfl
     have hfs18 := blk_frozen BK316.out 0
     have hns18_0 := NB315_316.out
     have hms18_0 := NB316_315.out
     have hs19 : w17.cell? ⟨gb316,1,none⟩ = some (.string x317001_1) := (blk_cell BK316.out 1).trans rfl
     have hfs19 := blk_frozen BK316.out 1
     have hns19_0 := NB315_316.out
     have hms19_0 := NB316_315.out
     have hs20 : w17.cell? ⟨gb316,2,none⟩ = some (.int .i64 x317002_1) := (blk_cell BK316.out 2).trans rfl
     have hfs20 := blk_frozen BK316.out 2
     have hns20_0 := NB315_316.out
     have hms20_0 := NB316_315.out
     refine skip_ (w1 := ?_) (by rfl) rfl ?_ ?_
     rotate_left
     ·go_simp
      rfl
     refine hK.out _ _ ?_
     clear hK K
     refine done_ (done_of HT_.out (by kernel_rfl)) ?_
     try go_wp2_with (first|((with_reducible refine gate_callee (f := 53) rfl ?_);refine goesL_ (some 20) rfl rfl Tryd.func53 (by kernel_rfl) rfl #[.pointer (some ⟨g,0,none⟩),.int .i64 4] rfl (by (try simp only [List.map_toArray,List.map_cons,List.map_nil]);first|done|rfl|(simp only [List.length_drop,List.length_take];rfl)) ?_;(with_reducible refine (spec_l1Cur_one.calls g s0_0 t322 t323 4 true t329 t330 w0 _ ?side1 ?side2 A12.out).mono ?_);(case side1 => repeat (first|(with_reducible first|exact HI0.out|apply IsS74.alloc|apply IsS74.drewN|apply IsS74.drew|apply IsS74.set_1|apply IsS74.set_2|refine IsS74.far ?_ NB0_315.out _|refine IsS74.far ?_ NB0_316.out _)|exact HI0.out));(case side2 => repeat (first|(with_reducible first|exact HB.out|apply lA|apply lN|apply lD|refine below_set ?_ (IsS74.ge HI0.out)|refine below_set ?_ GE315.out|refine below_set ?_ GE316.out)|exact HB.out));rintro e w21 ⟨rfl,hi,hb,hk⟩;refine ⟨_,rfl,?_⟩;have n0_ := Aside0.mk (KeepBut.blk hk (g' := gb315) (o := .cells #[.string (⟨#[]⟩ : ByteArray),.string (⟨#[]⟩ : ByteArray),.int .i64 0] 31 (0,0)) (by (with_reducible repeat (first|refine bN ?_ _|refine bD ?_|refine bA ?_ _));refine blk_far ?_ NB315_316.out _;(with_reducible repeat (first|refine bN ?_ _|refine bD ?_|refine bA ?_ _));refine blk_far ?_ NB315_316.out _;(with_reducible repeat (first|refine bN ?_ _|refine bD ?_|refine bA ?_ _));refine blk_far ?_ NB315_316.out _;(with_reducible repeat (first|refine bN ?_ _|refine bD ?_|refine bA ?_ _));exact BK315.out) NB315_0.out (by simp));have n1_ := Aside0.mk (KeepBut.blk hk (g' := gb316) (o := .cells #[.string t324,.string t325,.int .i64 t326] 31 (0,0)) (by (with_reducible repeat (first|refine bN ?_ _|refine bD ?_|refine bA ?_ _));refine blk_put (cs := #[.string t324,.string t325,.int .i64 x317002_1]) ?_ 2 _ rfl;(with_reducible repeat (first|refine bN ?_ _|refine bD ?_|refine bA ?_ _));refine blk_put (cs := #[.string t324,.string x317001_1,.int .i64 x317002_1]) ?_ 1 _ rfl;(with_reducible repeat (first|refine bN ?_ _|refine bD ?_|refine bA ?_ _));refine blk_put (cs := #[.string x317000_1,.string x317001_1,.int .i64 x317002_1]) ?_ 0 _ rfl;(with_reducible repeat (first|refine bN ?_ _|refine bD ?_|refine bA ?_ _));exact BK316.out) NB316_0.out (by simp));have n2_ := Aside0.mk (KeepBut.trans (by repeat (first|(with_reducible first|exact HK.out|apply KeepBut.set_|apply keep_drewN|apply keep_drew|apply keep_alloc|refine keep_far ?_ GW315.out _|refine keep_far ?_ GW316.out _)|exact HK.out)) hk (.inl rfl));have n3_ := Aside0.mk (hb);have n4_ := Aside0.mk (hi);clear BK315;clear BK316;clear HK;clear HB;clear HI0;have BK315 := n0_;have BK316 := n1_;have HK := n2_;have HB := n3_;have HI0 := n4_;clear n0_ n1_ n2_ n3_ n4_;(try clear hb);(try clear hb2);(try clear hk);(try clear hi);have hnb22 := NB316_315.out;have hnc22 := NB315_316.out;have hnb23 := NB316_0.out;have hnc23 := NB0_316.out;have hcz24_0 : w21.cell? ⟨gb316,0,none⟩ = some (.string t324) := (blk_cell BK316.out 0).trans rfl;have hcz24_1 : w21.cell? ⟨gb316,1,none⟩ = some (.string t325) := (blk_cell BK316.out 1).trans rfl;have hcz24_2 : w21.cell? ⟨gb316,2,none⟩ = some (.int .i64 t326) := (blk_cell BK316.out 2).trans rfl;have hfz24_0 := blk_frozen BK316.out 0;have hfz24_1 := blk_frozen BK316.out 1;have hfz24_2 := blk_frozen BK316.out 2)|((with_reducible refine gate_callee (f := 26) rfl ?_);refine goesL_ (some 23) rfl rfl Tryd.func26 (by kernel_rfl) rfl #[.agg #[.string t324,.string t325,.int .i64 t326]] rfl (by (try simp only [List.map_toArray,List.map_cons,List.map_nil]);first|done|rfl|(simp only [List.length_drop,List.length_take];rfl)) ?_;(with_reducible refine (spec_SyncLog.calls k1 t324 t325 t326 t331 t332 t333 t334 _ A14.out).mono ?_);rintro e w25 ⟨rfl,hb⟩;refine ⟨_,rfl,?_⟩;have n0_ := Aside0.mk (blk_below (g := gb315) (o := .cells #[.string (⟨#[]⟩ : ByteArray),.string (⟨#[]⟩ : ByteArray),.int .i64 0] 31 (0,0)) (by (with_reducible repeat (first|refine bN ?_ _|refine bD ?_|refine bA ?_ _));exact BK315.out) hb);have n1_ := Aside0.mk (blk_below (g := gb316) (o := .cells #[.string t324,.string t325,.int .i64 t326] 31 (0,0)) (by (with_reducible repeat (first|refine bN ?_ _|refine bD ?_|refine bA ?_ _));exact BK316.out) hb);have n2_ := Aside0.mk (IsS74.below (by repeat (first|(with_reducible first|exact HI0.out|apply IsS74.alloc|apply IsS74.drewN|apply IsS74.drew|apply IsS74.set_1|apply IsS74.set_2|refine IsS74.far ?_ NB0_315.out _|refine IsS74.far ?_ NB0_316.out _)|exact HI0.out)) hb);have n3_ := Aside0.mk (KeepBut.trans (by repeat (first|(with_reducible first|exact HK.out|apply KeepBut.set_|apply keep_drewN|apply keep_drew|apply keep_alloc|refine keep_far ?_ GW315.out _|refine keep_far ?_ GW316.out _)|exact HK.out)) (KeepBut.of_below hb g none) (.inl rfl));have n4_ := Aside0.mk (below_step (by repeat (first|(with_reducible first|exact HB.out|apply lA|apply lN|apply lD|refine below_set ?_ (IsS74.ge HI0.out)|refine below_set ?_ GE315.out|refine below_set ?_ GE316.out)|exact HB.out)) hb);clear BK315;clear BK316;clear HI0;clear HK;clear HB;have BK315 := n0_;have BK316 := n1_;have HI0 := n2_;have HK := n3_;have HB := n4_;clear n0_ n1_ n2_ n3_ n4_;(try clear hb);(try clear hb2);(try clear hk);(try clear hi);have hcz26_0 : w25.cell? ⟨gb316,0,none⟩ = some (.string t324) := (blk_cell BK316.out 0).trans rfl;have hcz26_1 : w25.cell? ⟨gb316,1,none⟩ = some (.string t325) := (blk_cell BK316.out 1).trans rfl;have hcz26_2 : w25.cell? ⟨gb316,2,none⟩ = some (.int .i64 t326) := (blk_cell BK316.out 2).trans rfl;have hfz26_0 := blk_frozen BK316.out 0;have hfz26_1 := blk_frozen BK316.out 1;have hfz26_2 := blk_frozen BK316.out 2))
     go_roundg k1
     case measure => have := HK1.out;omega
     case rel => exact ⟨(wrap64 (x4_1 - 1)),(t329),(t330),(t331),(t332),(t333),(by first|rfl|(simp;done)|(simp [my_isEmpty];done)|(simp [*];done)),H',⟨by have := HK1.out;omega⟩,⟨by (with_reducible repeat (first|refine bN ?_ _|refine bD ?_|refine bA ?_ _));refine blk_far ?_ NB315_316.out _;(with_reducible repeat (first|refine bN ?_ _|refine bD ?_|refine bA ?_ _));refine blk_far ?_ NB315_316.out _;(with_reducible repeat (first|refine bN ?_ _|refine bD ?_|refine bA ?_ _));refine blk_far ?_ NB315_316.out _;(with_reducible repeat (first|refine bN ?_ _|refine bD ?_|refine bA ?_ _));exact BK315.out⟩,⟨by (with_reducible repeat (first|refine bN ?_ _|refine bD ?_|refine bA ?_ _));refine blk_put (cs := #[.string t331,.string t332,.int .i64 t326]) ?_ 2 _ rfl;(with_reducible repeat (first|refine bN ?_ _|refine bD ?_|refine bA ?_ _));refine blk_put (cs := #[.string t331,.string t325,.int .i64 t326]) ?_ 1 _ rfl;(with_reducible repeat (first|refine bN ?_ _|refine bD ?_|refine bA ?_ _));refine blk_put (cs := #[.string t324,.string t325,.int .i64 t326]) ?_ 0 _ rfl;(with_reducible repeat (first|refine bN ?_ _|refine bD ?_|refine bA ?_ _));exact BK316.out⟩,⟨by repeat (first|(with_reducible first|exact HI0.out|apply IsS74.alloc|apply IsS74.drewN|apply IsS74.drew|apply IsS74.set_1|apply IsS74.set_2|refine IsS74.far ?_ NB0_315.out _|refine IsS74.far ?_ NB0_316.out _)|exact HI0.out)⟩,⟨by repeat (first|(with_reducible first|exact HK.out|apply KeepBut.set_|apply keep_drewN|apply keep_drew|apply keep_alloc|refine keep_far ?_ GW315.out _|refine keep_far ?_ GW316.out _)|exact HK.out)⟩,⟨by repeat (first|(with_reducible first|exact HB.out|apply lA|apply lN|apply lD|refine below_set ?_ (IsS74.ge HI0.out)|refine below_set ?_ GE315.out|refine below_set ?_ GE316.out)|exact HB.out)⟩⟩
    ·replace c13 := Bool.eq_false_iff.mpr c13
     subst c13
     have H1 : (spec_l1Cur_log.l0 k1 (wrap64 (x4_1 - 1)) s0_0 t329 t330 t324 t325 t326) = some (r1,r2,r3,r4,r5) := by rw [if_neg (show ¬ (false = true) by decide)] at H;exact H
     clear H
     have H := H1
     clear H1
     have H' := Aside0.mk H
     clear H
     try go_wp2
     have n0_ := Aside0.mk (bD BK315.out)
     have n1_ := Aside0.mk (bD BK316.out)
     have n2_ := Aside0.mk (IsS74.drew HI0.out)
     have n3_ := Aside0.mk (keep_drew HK.out)
     have n4_ := Aside0.mk (lD HB.out)
     clear BK315
     clear BK316
     clear HI0
     clear HK
     clear HB
     have BK315 := n0_
     have BK316 := n1_
     have HI0 := n2_
     have HK := n3_
     have HB := n4_
     clear n0_ n1_ n2_ n3_ n4_
     refine start_ (n := 8) (S := fun w' => w'.cell? ⟨gb316,0,none⟩ = some (.string x317000_1) ∧ w'.cell? ⟨gb316,1,none⟩ = some (.string x317001_1) ∧ w'.cell? ⟨gb316,2,none⟩ = some (.int .i64 x317002_1)) (ds := [7]) #[false,false,false,false,false,false,false,false] (by kernel_rfl) rfl rfl ⟨(blk_cell BK316.out 0).trans rfl,(blk_cell BK316.out 1).trans rfl,(blk_cell BK316.out 2).trans rfl⟩ (fun hHeld => ?_);refine with_tabW spec_l1Cur_log.tab5 spec_l1Cur_log.bits5 (fun HT_ HW_ => ?_)
     generalize wr.drew = w27 at BK315 BK316 HI0 HK HB hHeld ⊢
     refine pure_ (i := 1) (N := some 14) (v := ?_) (a' := ?_) #[false,true,false,false,false,false,false,false] rfl rfl (any_of HT_.out (by kernel_rfl)) (fun _ _ _ h => h) (Or.inl ⟨by rfl,?_⟩) ?_ ?_
     rotate_left
     ·intro w'
      go_simp
      with_reducible rfl
     rotate_left
     ·simp only [Act.put,List.setIfInBounds_toArray,List.set_cons_zero,List.set_cons_succ,i64_w,i32_w]
      rfl
     refine take_ (i := 0) (N := some 13) (v := ?_) (a' := ?_) #[true,true,false,false,false,false,false,false] rfl rfl (take_ofW HT_.out HW_.out (by kernel_rfl)) (fun _ _ _ h => h) (Or.inl ⟨by rfl,?_⟩) hHeld ?_ ?_
     rotate_left
     ·rintro w' ⟨s0,s1,s2⟩
      go_simp
      with_reducible rfl
     rotate_left
     ·simp only [Act.put,List.setIfInBounds_toArray,List.set_cons_zero,List.set_cons_succ,i64_w,i32_w]
      rfl
     refine one_ (i := 2) (N := some 15) #[true,true,true,false,false,false,false,false] rfl rfl (one_of HT_.out (by kernel_rfl)) (by decide) (fun K hK => ?_)
     refine goes_ Tryd.func55 (by kernel_rfl) rfl #[.pointer (some ⟨g,0,none⟩)] (by rfl) rfl rfl (by (try simp only [List.map_toArray,List.map_cons,List.map_nil]);first|done|rfl|(simp only [List.length_drop,List.length_take];rfl)) ?_
     with_reducible refine (spec_l1Cur_logRecord.calls g s0_0 x1001_1 x1002_1 t320 t321 t322 t323 w0 _ ?side1 ?side2 A10.out).mono ?_
     (case side1 => repeat (first|(with_reducible first|exact HI0.out|apply IsS74.alloc|apply IsS74.drewN|apply IsS74.drew|apply IsS74.set_1|apply IsS74.set_2|refine IsS74.far ?_ NB0_315.out _|refine IsS74.far ?_ NB0_316.out _)|exact HI0.out))
     (case side2 => repeat (first|(with_reducible first|exact HB.out|apply lA|apply lN|apply lD|refine below_set ?_ (IsS74.ge HI0.out)|refine below_set ?_ GE315.out|refine below_set ?_ GE316.out)|exact HB.out))
     rintro e w28 ⟨rfl,hi,hb,hk⟩
     refine ⟨_,rfl,?_⟩
     have n0_ := Aside0.mk (KeepBut.blk hk (g' := gb315) (o := .cells #[.string (⟨#[]⟩ : ByteArray),.string (⟨#[]⟩ : ByteArray),.int .i64 0] 31 (0,0)) (by (with_reducible repeat (first|refine bN ?_ _|refine bD ?_|refine bA ?_ _));exact BK315.out) NB315_0.out (by simp))
     have n1_ := Aside0.mk (KeepBut.blk hk (g' := gb316) (o := .cells #[.string x317000_1,.string x317001_1,.int .i64 x317002_1] 31 (0,0)) (by (with_reducible repeat (first|refine bN ?_ _|refine bD ?_|refine bA ?_ _));exact BK316.out) NB316_0.out (by simp))
     have n2_ := Aside0.mk (KeepBut.trans (by repeat (first|(with_reducible first|exact HK.out|apply KeepBut.set_|apply keep_drewN|apply keep_drew|apply keep_alloc|refine keep_far ?_ GW315.out _|refine keep_far ?_ GW316.out _)|exact HK.out)) hk (.inl rfl))
     have n3_ := Aside0.mk (hb)
     have n4_ := Aside0.mk (hi)
     clear BK315
     clear BK316
     clear HK
     clear HB
     clear HI0
     have BK315 := n0_
     have BK316 := n1_
     have HK := n2_
     have HB := n3_
     have HI0 := n4_
     clear n0_ n1_ n2_ n3_ n4_
     (try clear hb)
     (try clear hb2)
     (try clear hk)
     (try clear hi)
     refine hK.out _ _ ⟨(blk_cell BK316.out 0).trans rfl,(blk_cell BK316.out 1).trans rfl,(blk_cell BK316.out 2).trans rfl⟩ (fun hHeld => ?_)
     clear hK K
     refine norm_ (a' := ?_) ?_ ?_
     rotate_left
     ·show Act.put _ (some 15) _ = _
      simp only [Act.put,List.setIfInBounds_toArray,List.set_cons_zero,List.set_cons_succ,i64_w,i32_w]
      rfl
     refine one_ (i := 3) (N := some 16) #[true,true,true,true,false,false,false,false] rfl rfl (one_of HT_.out (by kernel_rfl)) (by decide) (fun K hK => ?_)
     refine goes_ Tryd.func28 (by kernel_rfl) rfl #[.agg #[.string x317000_1,.string x317001_1,.int .i64 x317002_1],.agg #[.string t320,.string t321]] (by rfl) rfl rfl (by (try simp only [List.map_toArray,List.map_cons,List.map_nil]);first|done|rfl|(simp only [List.length_drop,List.length_take];rfl)) ?_
     with_reducible refine (spec_AppendRecord.calls k1 x317000_1 x317001_1 x317002_1 t320 t321 t324 t325 t326 t327 _ A11.out).mono ?_
     rintro e w29 ⟨rfl,hb⟩
     refine ⟨_,rfl,?_⟩
     have n0_ := Aside0.mk (blk_below (g := gb315) (o := .cells #[.string (⟨#[]⟩ : ByteArray),.string (⟨#[]⟩ : ByteArray),.int .i64 0] 31 (0,0)) (by (with_reducible repeat (first|refine bN ?_ _|refine bD ?_|refine bA ?_ _));exact BK315.out) hb)
     have n1_ := Aside0.mk (blk_below (g := gb316) (o := .cells #[.string x317000_1,.string x317001_1,.int .i64 x317002_1] 31 (0,0)) (by (with_reducible repeat (first|refine bN ?_ _|refine bD ?_|refine bA ?_ _));exact BK316.out) hb)
     have n2_ := Aside0.mk (IsS74.below (by repeat (first|(with_reducible first|exact HI0.out|apply IsS74.alloc|apply IsS74.drewN|apply IsS74.drew|apply IsS74.set_1|apply IsS74.set_2|refine IsS74.far ?_ NB0_315.out _|refine IsS74.far ?_ NB0_316.out _)|exact HI0.out)) hb)
     have n3_ := Aside0.mk (KeepBut.trans (by repeat (first|(with_reducible first|exact HK.out|apply KeepBut.set_|apply keep_drewN|apply keep_drew|apply keep_alloc|refine keep_far ?_ GW315.out _|refine keep_far ?_ GW316.out _)|exact HK.out)) (KeepBut.of_below hb g none) (.inl rfl))
     have n4_ := Aside0.mk (below_step (by repeat (first|(with_reducible first|exact HB.out|apply lA|apply lN|apply lD|refine below_set ?_ (IsS74.ge HI0.out)|refine below_set ?_ GE315.out|refine below_set ?_ GE316.out)|exact HB.out)) hb)
     clear BK315
     clear BK316
     clear HI0
     clear HK
     clear HB
     have BK315 := n0_
     have BK316 := n1_
     have HI0 := n2_
     have HK := n3_
     have HB := n4_
     clear n0_ n1_ n2_ n3_ n4_
     (try clear hb)
     (try clear hb2)
     (try clear hk)
     (try clear hi)
     refine hK.out _ _ ⟨(blk_cell BK316.out 0).trans rfl,(blk_cell BK316.out 1).trans rfl,(blk_cell BK316.out 2).trans rfl⟩ (fun hHeld => ?_)
     clear hK K
     refine norm_ (a' := ?_) ?_ ?_
     rotate_left
     ·show Act.put _ (some 16) _ = _
      simp only [Act.put,List.setIfInBounds_toArray,List.set_cons_zero,List.set_cons_succ,i64_w,i32_w]
      rfl
     refine pure_ (i := 4) (N := some 12) (v := ?_) (a' := ?_) #[true,true,true,true,true,false,false,false] rfl rfl (any_of HT_.out (by kernel_rfl)) (fun _ _ _ h => h) (Or.inl ⟨by rfl,?_⟩) ?_ ?_
     rotate_left
     ·intro w'
      go_simp
      with_reducible rfl
     rotate_left
     ·simp only [Act.put,List.setIfInBounds_toArray,List.set_cons_zero,List.set_cons_succ,i64_w,i32_w]
      rfl
     refine pure_ (i := 5) (N := some 17) (v := ?_) (a' := ?_) #[true,true,true,true,true,true,false,false] rfl rfl (any_of HT_.out (by kernel_rfl)) (fun _ _ _ h => h) (Or.inl ⟨by rfl,?_⟩) ?_ ?_
     rotate_left
     ·intro w'
      go_simp
      with_reducible rfl
     rotate_left
     ·simp only [Act.put,List.setIfInBounds_toArray,List.set_cons_zero,List.set_cons_succ,i64_w,i32_w]
      rfl
     refine pure_ (i := 6) (N := some 18) (v := ?_) (a' := ?_) #[true,true,true,true,true,true,true,false] rfl rfl (any_of HT_.out (by kernel_rfl)) (fun _ _ _ h => h) (Or.inl ⟨by rfl,?_⟩) ?_ ?_
     rotate_left
     ·intro w'
      go_simp
      with_reducible rfl
     rotate_left
     ·simp only [Act.put,List.setIfInBounds_toArray,List.set_cons_zero,List.set_cons_succ,i64_w,i32_w]
      rfl
     refine last_ (i := 7) (N := none) #[true,true,true,true,true,true,true,true] rfl rfl (one_of HT_.out (by kernel_rfl)) (by decide) (fun K hK => ?_)
     have hs30 : w29.cell? ⟨gb316,0,none⟩ = some (.string x317000_1) := (blk_cell BK316.out 0).trans rfl
     have hfs30 := blk_frozen BK316.out 0
     have hns30_0 := NB315_316.out
     have hms30_0 := NB316_315.out
     have hs31 : w29.cell? ⟨gb316,1,none⟩ = some (.string x317001_1) := (blk_cell BK316.out 1).trans rfl
     have hfs31 := blk_frozen BK316.out 1
     have hns31_0 := NB315_316.out
     have hms31_0 := NB316_315.out
     have hs32 : w29.cell? ⟨gb316,2,none⟩ = some (.int .i64 x317002_1) := (blk_cell BK316.out 2).trans rfl
     have hfs32 := blk_frozen BK316.out 2
     have hns32_0 := NB315_316.out
     have hms32_0 := NB316_315.out
     refine skip_ (w1 := ?_) (by rfl) rfl ?_ ?_
     rotate_left
     ·go_simp
      rfl
     refine hK.out _ _ ?_
     clear hK K
     refine done_ (done_of HT_.out (by kernel_rfl)) ?_
     try go_wp2_with (first|((with_reducible refine gate_callee (f := 53) rfl ?_);refine goesL_ (some 20) rfl rfl Tryd.func53 (by kernel_rfl) rfl #[.pointer (some ⟨g,0,none⟩),.int .i64 4] rfl (by (try simp only [List.map_toArray,List.map_cons,List.map_nil]);first|done|rfl|(simp only [List.length_drop,List.length_take];rfl)) ?_;(with_reducible refine (spec_l1Cur_one.calls g s0_0 t322 t323 4 false t329 t330 w0 _ ?side1 ?side2 A12.out).mono ?_);(case side1 => repeat (first|(with_reducible first|exact HI0.out|apply IsS74.alloc|apply IsS74.drewN|apply IsS74.drew|apply IsS74.set_1|apply IsS74.set_2|refine IsS74.far ?_ NB0_315.out _|refine IsS74.far ?_ NB0_316.out _)|exact HI0.out));(case side2 => repeat (first|(with_reducible first|exact HB.out|apply lA|apply lN|apply lD|refine below_set ?_ (IsS74.ge HI0.out)|refine below_set ?_ GE315.out|refine below_set ?_ GE316.out)|exact HB.out));rintro e w33 ⟨rfl,hi,hb,hk⟩;refine ⟨_,rfl,?_⟩;have n0_ := Aside0.mk (KeepBut.blk hk (g' := gb315) (o := .cells #[.string (⟨#[]⟩ : ByteArray),.string (⟨#[]⟩ : ByteArray),.int .i64 0] 31 (0,0)) (by (with_reducible repeat (first|refine bN ?_ _|refine bD ?_|refine bA ?_ _));refine blk_far ?_ NB315_316.out _;(with_reducible repeat (first|refine bN ?_ _|refine bD ?_|refine bA ?_ _));refine blk_far ?_ NB315_316.out _;(with_reducible repeat (first|refine bN ?_ _|refine bD ?_|refine bA ?_ _));refine blk_far ?_ NB315_316.out _;(with_reducible repeat (first|refine bN ?_ _|refine bD ?_|refine bA ?_ _));exact BK315.out) NB315_0.out (by simp));have n1_ := Aside0.mk (KeepBut.blk hk (g' := gb316) (o := .cells #[.string t324,.string t325,.int .i64 t326] 31 (0,0)) (by (with_reducible repeat (first|refine bN ?_ _|refine bD ?_|refine bA ?_ _));refine blk_put (cs := #[.string t324,.string t325,.int .i64 x317002_1]) ?_ 2 _ rfl;(with_reducible repeat (first|refine bN ?_ _|refine bD ?_|refine bA ?_ _));refine blk_put (cs := #[.string t324,.string x317001_1,.int .i64 x317002_1]) ?_ 1 _ rfl;(with_reducible repeat (first|refine bN ?_ _|refine bD ?_|refine bA ?_ _));refine blk_put (cs := #[.string x317000_1,.string x317001_1,.int .i64 x317002_1]) ?_ 0 _ rfl;(with_reducible repeat (first|refine bN ?_ _|refine bD ?_|refine bA ?_ _));exact BK316.out) NB316_0.out (by simp));have n2_ := Aside0.mk (KeepBut.trans (by repeat (first|(with_reducible first|exact HK.out|apply KeepBut.set_|apply keep_drewN|apply keep_drew|apply keep_alloc|refine keep_far ?_ GW315.out _|refine keep_far ?_ GW316.out _)|exact HK.out)) hk (.inl rfl));have n3_ := Aside0.mk (hb);have n4_ := Aside0.mk (hi);clear BK315;clear BK316;clear HK;clear HB;clear HI0;have BK315 := n0_;have BK316 := n1_;have HK := n2_;have HB := n3_;have HI0 := n4_;clear n0_ n1_ n2_ n3_ n4_;(try clear hb);(try clear hb2);(try clear hk);(try clear hi)))
     go_roundg k1
     case measure => have := HK1.out;omega
     case rel => exact ⟨(wrap64 (x4_1 - 1)),(t329),(t330),(t324),(t325),(t326),(by first|rfl|(simp;done)|(simp [my_isEmpty];done)|(simp [*];done)),H',⟨by have := HK1.out;omega⟩,⟨by (with_reducible repeat (first|refine bN ?_ _|refine bD ?_|refine bA ?_ _));exact BK315.out⟩,⟨by (with_reducible repeat (first|refine bN ?_ _|refine bD ?_|refine bA ?_ _));exact BK316.out⟩,⟨by repeat (first|(with_reducible first|exact HI0.out|apply IsS74.alloc|apply IsS74.drewN|apply IsS74.drew|apply IsS74.set_1|apply IsS74.set_2|refine IsS74.far ?_ NB0_315.out _|refine IsS74.far ?_ NB0_316.out _)|exact HI0.out)⟩,⟨by repeat (first|(with_reducible first|exact HK.out|apply KeepBut.set_|apply keep_drewN|apply keep_drew|apply keep_alloc|refine keep_far ?_ GW315.out _|refine keep_far ?_ GW316.out _)|exact HK.out)⟩,⟨by repeat (first|(with_reducible first|exact HB.out|apply lA|apply lN|apply lD|refine below_set ?_ (IsS74.ge HI0.out)|refine below_set ?_ GE315.out|refine below_set ?_ GE316.out)|exact HB.out)⟩⟩
   ·rw [if_neg c9] at H
    have c9b0 : decide (0 < x4_1) = false := decide_eq_false c9
    clear c9
    simp only [Option.some.injEq,Prod.mk.injEq] at H
    obtain ⟨rfl,rfl,rfl,rfl,rfl⟩ := H
    have hnb34 := NB316_315.out
    have hnc34 := NB315_316.out
    have hnb35 := NB316_0.out
    have hnc35 := NB0_316.out
    have hcz36_0 : wr.cell? ⟨gb316,0,none⟩ = some (.string x317000_1) := (blk_cell BK316.out 0).trans rfl
    have hcz36_1 : wr.cell? ⟨gb316,1,none⟩ = some (.string x317001_1) := (blk_cell BK316.out 1).trans rfl
    have hcz36_2 : wr.cell? ⟨gb316,2,none⟩ = some (.int .i64 x317002_1) := (blk_cell BK316.out 2).trans rfl
    have hfz36_0 := blk_frozen BK316.out 0
    have hfz36_1 := blk_frozen BK316.out 1
    have hfz36_2 := blk_frozen BK316.out 2
    have hnb37 := NB315_0.out
    have hnc37 := NB0_315.out
    have hcz38_0 : wr.cell? ⟨gb315,0,none⟩ = some (.string (⟨#[]⟩ : ByteArray)) := (blk_cell BK315.out 0).trans rfl
    have hcz38_1 : wr.cell? ⟨gb315,1,none⟩ = some (.string (⟨#[]⟩ : ByteArray)) := (blk_cell BK315.out 1).trans rfl
    have hcz38_2 : wr.cell? ⟨gb315,2,none⟩ = some (.int .i64 0) := (blk_cell BK315.out 2).trans rfl
    have hfz38_0 := blk_frozen BK315.out 0
    have hfz38_1 := blk_frozen BK315.out 1
    have hfz38_2 := blk_frozen BK315.out 2
    go_wp2
    refine bodyPost_ret (results_cell_row rfl _ _ gb315 31 #[.string x317000_1,.string x317001_1,.int .i64 x317002_1] (0,0) _ rfl (by (with_reducible repeat (first|refine bN ?_ _|refine bD ?_|refine bA ?_ _));refine blk_put (cs := #[.string x317000_1,.string x317001_1,.int .i64 0]) ?_ 2 _ rfl;(with_reducible repeat (first|refine bN ?_ _|refine bD ?_|refine bA ?_ _));refine blk_put (cs := #[.string x317000_1,.string (⟨#[]⟩ : ByteArray),.int .i64 0]) ?_ 1 _ rfl;(with_reducible repeat (first|refine bN ?_ _|refine bD ?_|refine bA ?_ _));refine blk_put (cs := #[.string (⟨#[]⟩ : ByteArray),.string (⟨#[]⟩ : ByteArray),.int .i64 0]) ?_ 0 _ rfl;(with_reducible repeat (first|refine bN ?_ _|refine bD ?_|refine bA ?_ _));exact BK315.out) Tryd.underlying31 rfl (by kernel_rfl)) rfl ?_
    exact ⟨by first|rfl|(simp [errW_none,errW_some] <;> rfl)|(simp [*,errW_none,errW_some] <;> rfl),by repeat (first|(with_reducible first|exact HI0.out|apply IsS74.alloc|apply IsS74.drewN|apply IsS74.drew|apply IsS74.set_1|apply IsS74.set_2|refine IsS74.far ?_ NB0_315.out _|refine IsS74.far ?_ NB0_316.out _)|exact HI0.out),by repeat (first|(with_reducible first|exact HB.out|apply lA|apply lN|apply lD|refine below_set ?_ (IsS74.ge HI0.out)|refine below_set ?_ GE315.out|refine below_set ?_ GE316.out)|exact HB.out),by repeat (first|(with_reducible first|exact HK.out|apply KeepBut.set_|apply keep_drewN|apply keep_drew|apply keep_alloc|refine keep_far ?_ GW315.out _|refine keep_far ?_ GW316.out _)|exact HK.out)⟩
def spec_l1Cur_spoilt.f (s0_0 : List Int) (s0_1 : Int) (s0_2 : Int) (a1 : ByteArray) (a2 : ByteArray) : Option (ByteArray × Int × Int) := if a1.toList = ([] : List UInt8) then (if 0 ≤ 1 then (if 1 ≤ (a2.size : Int) then (some (a2.extract 0 1,s0_1,s0_2)) else (none)) else (none)) else ((spec_l1Cur_pick.f s0_0 s0_1 s0_2 (a1.size : Int)).bind fun bt335 => ((spec_l1Cur_pick.f s0_0 bt335.2.1 bt335.2.2 (a2.size : Int)).bind fun bt338 => (if 0 ≤ bt338.1 then (if bt338.1 ≤ (a2.size : Int) then (if 0 ≤ 1 then (if 1 ≤ ((a2.extract (bt338.1 : Int).toNat a2.size).size : Int) then ((spec_l1Cur_pick.f s0_0 bt338.2.1 bt338.2.2 3).bind fun bt341 => (if bt341.1 = 0 then (if 0 ≤ bt335.1 then (if bt335.1 ≤ (a1.size : Int) then (if (a1.extract 0 (bt335.1 : Int).toNat).size + ((a2.extract (bt338.1 : Int).toNat a2.size).extract 0 1).size ≤ 9223372036854775807 then (if ((a1.extract 0 (bt335.1 : Int).toNat) ++ ((a2.extract (bt338.1 : Int).toNat a2.size).extract 0 1)).size + (a1.extract (bt335.1 : Int).toNat a1.size).size ≤ 9223372036854775807 then (some (((a1.extract 0 (bt335.1 : Int).toNat) ++ ((a2.extract (bt338.1 : Int).toNat a2.size).extract 0 1)) ++ (a1.extract (bt335.1 : Int).toNat a1.size),bt341.2.1,bt341.2.2)) else (none)) else (none)) else (none)) else (none)) else (if bt341.1 = 1 then (if 0 ≤ bt335.1 then (if bt335.1 ≤ (a1.size : Int) then (if (a1.extract 0 (bt335.1 : Int).toNat).size + ((a2.extract (bt338.1 : Int).toNat a2.size).extract 0 1).size ≤ 9223372036854775807 then (if 0 ≤ (wrap64 (bt335.1 + 1)) then (if (wrap64 (bt335.1 + 1)) ≤ (a1.size : Int) then (if ((a1.extract 0 (bt335.1 : Int).toNat) ++ ((a2.extract (bt338.1 : Int).toNat a2.size).extract 0 1)).size + (a1.extract ((wrap64 (bt335.1 + 1)) : Int).toNat a1.size).size ≤ 9223372036854775807 then (some (((a1.extract 0 (bt335.1 : Int).toNat) ++ ((a2.extract (bt338.1 : Int).toNat a2.size).extract 0 1)) ++ (a1.extract ((wrap64 (bt335.1 + 1)) : Int).toNat a1.size),bt341.2.1,bt341.2.2)) else (none)) else (none)) else (none)) else (none)) else (none)) else (none)) else (if 0 ≤ bt335.1 then (if bt335.1 ≤ (a1.size : Int) then (if 0 ≤ (wrap64 (bt335.1 + 1)) then (if (wrap64 (bt335.1 + 1)) ≤ (a1.size : Int) then (if (a1.extract 0 (bt335.1 : Int).toNat).size + (a1.extract ((wrap64 (bt335.1 + 1)) : Int).toNat a1.size).size ≤ 9223372036854775807 then (some ((a1.extract 0 (bt335.1 : Int).toNat) ++ (a1.extract ((wrap64 (bt335.1 + 1)) : Int).toNat a1.size),bt341.2.1,bt341.2.2)) else (none)) else (none)) else (none)) else (none)) else (none))))) else (none)) else (none)) else (none)) else (none))))
set_option maxHeartbeats 8000000 in
set_option maxRecDepth 100000 in
theorem spec_l1Cur_spoilt.calls (g : Nat) (s0_0 : List Int) (s0_1 : Int) (s0_2 : Int) (a1 : ByteArray) (a2 : ByteArray) (r1 : ByteArray) (r2 : Int) (r3 : Int) (w0 w : World) (hI : IsS74 w0 w g s0_0 s0_1 s0_2) (hB : Below w0.heap.size w0 w) (h : spec_l1Cur_spoilt.f s0_0 s0_1 s0_2 a1 a2 = some (r1,r2,r3)) :
  Calls Tryd.prog 60 #[.pointer (some ⟨g,0,none⟩),.string a1,.string a2] w fun e w' => e = .returned (.string r1) ∧ IsS74 w0 w' g s0_0 r2 r3 ∧ Below w0.heap.size w0 w' ∧ KeepBut w w' g none := by
 have HI0 := Aside0.mk hI
 have HK := Aside0.mk (KeepBut.refl w g none)
 have HL := Aside0.mk hB.size
 clear hI
 have HW0 := Aside0.mk hB.size
 have HB := Aside0.mk hB
 clear hB
 have H : (if a1.toList = ([] : List UInt8) then (if 0 ≤ 1 then (if 1 ≤ (a2.size : Int) then (some (a2.extract 0 1,s0_1,s0_2)) else (none)) else (none)) else ((spec_l1Cur_pick.f s0_0 s0_1 s0_2 (a1.size : Int)).bind fun bt335 => ((spec_l1Cur_pick.f s0_0 bt335.2.1 bt335.2.2 (a2.size : Int)).bind fun bt338 => (if 0 ≤ bt338.1 then (if bt338.1 ≤ (a2.size : Int) then (if 0 ≤ 1 then (if 1 ≤ ((a2.extract (bt338.1 : Int).toNat a2.size).size : Int) then ((spec_l1Cur_pick.f s0_0 bt338.2.1 bt338.2.2 3).bind fun bt341 => (if bt341.1 = 0 then (if 0 ≤ bt335.1 then (if bt335.1 ≤ (a1.size : Int) then (if (a1.extract 0 (bt335.1 : Int).toNat).size + ((a2.extract (bt338.1 : Int).toNat a2.size).extract 0 1).size ≤ 9223372036854775807 then (if ((a1.extract 0 (bt335.1 : Int).toNat) ++ ((a2.extract (bt338.1 : Int).toNat a2.size).extract 0 1)).size + (a1.extract (bt335.1 : Int).toNat a1.size).size ≤ 9223372036854775807 then (some (((a1.extract 0 (bt335.1 : Int).toNat) ++ ((a2.extract (bt338.1 : Int).toNat a2.size).extract 0 1)) ++ (a1.extract (bt335.1 : Int).toNat a1.size),bt341.2.1,bt341.2.2)) else (none)) else (none)) else (none)) else (none)) else (if bt341.1 = 1 then (if 0 ≤ bt335.1 then (if bt335.1 ≤ (a1.size : Int) then (if (a1.extract 0 (bt335.1 : Int).toNat).size + ((a2.extract (bt338.1 : Int).toNat a2.size).extract 0 1).size ≤ 9223372036854775807 then (if 0 ≤ (wrap64 (bt335.1 + 1)) then (if (wrap64 (bt335.1 + 1)) ≤ (a1.size : Int) then (if ((a1.extract 0 (bt335.1 : Int).toNat) ++ ((a2.extract (bt338.1 : Int).toNat a2.size).extract 0 1)).size + (a1.extract ((wrap64 (bt335.1 + 1)) : Int).toNat a1.size).size ≤ 9223372036854775807 then (some (((a1.extract 0 (bt335.1 : Int).toNat) ++ ((a2.extract (bt338.1 : Int).toNat a2.size).extract 0 1)) ++ (a1.extract ((wrap64 (bt335.1 + 1)) : Int).toNat a1.size),bt341.2.1,bt341.2.2)) else (none)) else (none)) else (none)) else (none)) else (none)) else (none)) else (if 0 ≤ bt335.1 then (if bt335.1 ≤ (a1.size : Int) then (if 0 ≤ (wrap64 (bt335.1 + 1)) then (if (wrap64 (bt335.1 + 1)) ≤ (a1.size : Int) then (if (a1.extract 0 (bt335.1 : Int).toNat).size + (a1.extract ((wrap64 (bt335.1 + 1)) : Int).toNat a1.size).size ≤ 9223372036854775807 then (some ((a1.extract 0 (bt335.1 : Int).toNat) ++ (a1.extract ((wrap64 (bt335.1 + 1)) : Int).toNat a1.size),bt341.2.1,bt341.2.2)) else (none)) else (none)) else (none)) else (none)) else (none))))) else (none)) else (none)) else (none)) else (none))))) = some (r1,r2,r3) := h
 clear h
 by_cases c4 : a1.toList = ([] : List UInt8)
 ·rw [if_pos c4] at H
  have c4b0 : (a1.toList == ([] : List UInt8)) = true := beq_iff_eq.mpr c4
  have c4b1 : (a1.toList != ([] : List UInt8)) = false := bne_eq_false_iff_eq.mpr c4
  clear c4
  by_cases c5 : 0 ≤ 1
  ·rw [if_pos c5] at H
   have c5b0 := eq_true c5
   have c5b1 : decide (0 ≤ 1) = true := decide_eq_true c5
   clear c5
   by_cases c6 : 1 ≤ (a2.size : Int)
   ·rw [if_pos c6] at H
    have c6b0 := eq_true c6
    have c6b1 : decide (1 ≤ (a2.size : Int)) = true := decide_eq_true c6
    clear c6
    simp only [Option.some.injEq,Prod.mk.injEq] at H
    obtain ⟨rfl,rfl,rfl⟩ := H
    go_enter Tryd.func60,Tryd.ntmps60
    go_wp2
    repeat (go_quiet (fail);try go_wp2)
    go_ret
    exact ⟨by first|rfl|(simp [errW_none,errW_some] <;> rfl)|(simp [*,errW_none,errW_some] <;> rfl),by repeat (first|(with_reducible first|exact HI0.out|apply IsS74.alloc|apply IsS74.drewN|apply IsS74.drew|apply IsS74.set_1|apply IsS74.set_2)|exact HI0.out),by repeat (first|(with_reducible first|exact HB.out|apply lA|apply lN|apply lD|refine below_set ?_ (IsS74.ge HI0.out))|exact HB.out),by repeat (first|(with_reducible first|exact HK.out|apply KeepBut.set_|apply keep_drewN|apply keep_drew|apply keep_alloc)|exact HK.out)⟩
   ·rw [if_neg c6] at H
    exact absurd H (by simp)
  ·rw [if_neg c5] at H
   exact absurd H (by simp)
 ·rw [if_neg c4] at H
  have c4b0 : (a1.toList == ([] : List UInt8)) = false := beq_eq_false_iff_ne.mpr c4
  have c4b1 : (a1.toList != ([] : List UInt8)) = true := bne_iff_ne.mpr c4
  replace H := Option.bind_eq_some_iff.mp H
  obtain ⟨⟨t335,t336,t337⟩,A70,H⟩ := H
  replace H : ((spec_l1Cur_pick.f s0_0 t336 t337 (a2.size : Int)).bind fun bt338 => (if 0 ≤ bt338.1 then (if bt338.1 ≤ (a2.size : Int) then (if 0 ≤ 1 then (if 1 ≤ ((a2.extract (bt338.1 : Int).toNat a2.size).size : Int) then ((spec_l1Cur_pick.f s0_0 bt338.2.1 bt338.2.2 3).bind fun bt341 => (if bt341.1 = 0 then (if 0 ≤ t335 then (if t335 ≤ (a1.size : Int) then (if (a1.extract 0 (t335 : Int).toNat).size + ((a2.extract (bt338.1 : Int).toNat a2.size).extract 0 1).size ≤ 9223372036854775807 then (if ((a1.extract 0 (t335 : Int).toNat) ++ ((a2.extract (bt338.1 : Int).toNat a2.size).extract 0 1)).size + (a1.extract (t335 : Int).toNat a1.size).size ≤ 9223372036854775807 then (some (((a1.extract 0 (t335 : Int).toNat) ++ ((a2.extract (bt338.1 : Int).toNat a2.size).extract 0 1)) ++ (a1.extract (t335 : Int).toNat a1.size),bt341.2.1,bt341.2.2)) else (none)) else (none)) else (none)) else (none)) else (if bt341.1 = 1 then (if 0 ≤ t335 then (if t335 ≤ (a1.size : Int) then (if (a1.extract 0 (t335 : Int).toNat).size + ((a2.extract (bt338.1 : Int).toNat a2.size).extract 0 1).size ≤ 9223372036854775807 then (if 0 ≤ (wrap64 (t335 + 1)) then (if (wrap64 (t335 + 1)) ≤ (a1.size : Int) then (if ((a1.extract 0 (t335 : Int).toNat) ++ ((a2.extract (bt338.1 : Int).toNat a2.size).extract 0 1)).size + (a1.extract ((wrap64 (t335 + 1)) : Int).toNat a1.size).size ≤ 9223372036854775807 then (some (((a1.extract 0 (t335 : Int).toNat) ++ ((a2.extract (bt338.1 : Int).toNat a2.size).extract 0 1)) ++ (a1.extract ((wrap64 (t335 + 1)) : Int).toNat a1.size),bt341.2.1,bt341.2.2)) else (none)) else (none)) else (none)) else (none)) else (none)) else (none)) else (if 0 ≤ t335 then (if t335 ≤ (a1.size : Int) then (if 0 ≤ (wrap64 (t335 + 1)) then (if (wrap64 (t335 + 1)) ≤ (a1.size : Int) then (if (a1.extract 0 (t335 : Int).toNat).size + (a1.extract ((wrap64 (t335 + 1)) : Int).toNat a1.size).size ≤ 9223372036854775807 then (some ((a1.extract 0 (t335 : Int).toNat) ++ (a1.extract ((wrap64 (t335 + 1)) : Int).toNat a1.size),bt341.2.1,bt341.2.2)) else (none)) else (none)) else (none)) else (none)) else (none))))) else (none)) else (none)) else (none)) else (none))) = some (r1,r2,r3) := H
  have A7 := Aside0.mk A70
  clear A70
  replace H := Option.bind_eq_some_iff.mp H
  obtain ⟨⟨t338,t339,t340⟩,A80,H⟩ := H
  replace H : (if 0 ≤ t338 then (if t338 ≤ (a2.size : Int) then (if 0 ≤ 1 then (if 1 ≤ ((a2.extract (t338 : Int).toNat a2.size).size : Int) then ((spec_l1Cur_pick.f s0_0 t339 t340 3).bind fun bt341 => (if bt341.1 = 0 then (if 0 ≤ t335 then (if t335 ≤ (a1.size : Int) then (if (a1.extract 0 (t335 : Int).toNat).size + ((a2.extract (t338 : Int).toNat a2.size).extract 0 1).size ≤ 9223372036854775807 then (if ((a1.extract 0 (t335 : Int).toNat) ++ ((a2.extract (t338 : Int).toNat a2.size).extract 0 1)).size + (a1.extract (t335 : Int).toNat a1.size).size ≤ 9223372036854775807 then (some (((a1.extract 0 (t335 : Int).toNat) ++ ((a2.extract (t338 : Int).toNat a2.size).extract 0 1)) ++ (a1.extract (t335 : Int).toNat a1.size),bt341.2.1,bt341.2.2)) else (none)) else (none)) else (none)) else (none)) else (if bt341.1 = 1 then (if 0 ≤ t335 then (if t335 ≤ (a1.size : Int) then (if (a1.extract 0 (t335 : Int).toNat).size + ((a2.extract (t338 : Int).toNat a2.size).extract 0 1).size ≤ 9223372036854775807 then (if 0 ≤ (wrap64 (t335 + 1)) then (if (wrap64 (t335 + 1)) ≤ (a1.size : Int) then (if ((a1.extract 0 (t335 : Int).toNat) ++ ((a2.extract (t338 : Int).toNat a2.size).extract 0 1)).size + (a1.extract ((wrap64 (t335 + 1)) : Int).toNat a1.size).size ≤ 9223372036854775807 then (some (((a1.extract 0 (t335 : Int).toNat) ++ ((a2.extract (t338 : Int).toNat a2.size).extract 0 1)) ++ (a1.extract ((wrap64 (t335 + 1)) : Int).toNat a1.size),bt341.2.1,bt341.2.2)) else (none)) else (none)) else (none)) else (none)) else (none)) else (none)) else (if 0 ≤ t335 then (if t335 ≤ (a1.size : Int) then (if 0 ≤ (wrap64 (t335 + 1)) then (if (wrap64 (t335 + 1)) ≤ (a1.size : Int) then (if (a1.extract 0 (t335 : Int).toNat).size + (a1.extract ((wrap64 (t335 + 1)) : Int).toNat a1.size).size ≤ 9223372036854775807 then (some ((a1.extract 0 (t335 : Int).toNat) ++ (a1.extract ((wrap64 (t335 + 1)) : Int).toNat a1.size),bt341.2.1,bt341.2.2)) else (none)) else (none)) else (none)) else (none)) else (none))))) else (none)) else (none)) else (none)) else (none)) = some (r1,r2,r3) := H
  have A8 := Aside0.mk A80
  clear A80
  by_cases c9 : 0 ≤ t338
  ·rw [if_pos c9] at H
   have c9b0 := eq_true c9
   have c9b1 : decide (0 ≤ t338) = true := decide_eq_true c9
   clear c9
   by_cases c10 : t338 ≤ (a2.size : Int)
   ·rw [if_pos c10] at H
    have c10b0 := eq_true c10
    have c10b1 : decide (t338 ≤ (a2.size : Int)) = true := decide_eq_true c10
    clear c10
    obtain ⟨sj11,hsj11⟩ : ∃ s_ : ByteArray,(a2.extract (t338 : Int).toNat a2.size) = s_ := ⟨_,rfl⟩
    replace H : (if 0 ≤ 1 then (if 1 ≤ (sj11.size : Int) then ((spec_l1Cur_pick.f s0_0 t339 t340 3).bind fun bt341 => (if bt341.1 = 0 then (if 0 ≤ t335 then (if t335 ≤ (a1.size : Int) then (if (a1.extract 0 (t335 : Int).toNat).size + (sj11.extract 0 1).size ≤ 9223372036854775807 then (if ((a1.extract 0 (t335 : Int).toNat) ++ (sj11.extract 0 1)).size + (a1.extract (t335 : Int).toNat a1.size).size ≤ 9223372036854775807 then (some (((a1.extract 0 (t335 : Int).toNat) ++ (sj11.extract 0 1)) ++ (a1.extract (t335 : Int).toNat a1.size),bt341.2.1,bt341.2.2)) else (none)) else (none)) else (none)) else (none)) else (if bt341.1 = 1 then (if 0 ≤ t335 then (if t335 ≤ (a1.size : Int) then (if (a1.extract 0 (t335 : Int).toNat).size + (sj11.extract 0 1).size ≤ 9223372036854775807 then (if 0 ≤ (wrap64 (t335 + 1)) then (if (wrap64 (t335 + 1)) ≤ (a1.size : Int) then (if ((a1.extract 0 (t335 : Int).toNat) ++ (sj11.extract 0 1)).size + (a1.extract ((wrap64 (t335 + 1)) : Int).toNat a1.size).size ≤ 9223372036854775807 then (some (((a1.extract 0 (t335 : Int).toNat) ++ (sj11.extract 0 1)) ++ (a1.extract ((wrap64 (t335 + 1)) : Int).toNat a1.size),bt341.2.1,bt341.2.2)) else (none)) else (none)) else (none)) else (none)) else (none)) else (none)) else (if 0 ≤ t335 then (if t335 ≤ (a1.size : Int) then (if 0 ≤ (wrap64 (t335 + 1)) then (if (wrap64 (t335 + 1)) ≤ (a1.size : Int) then (if (a1.extract 0 (t335 : Int).toNat).size + (a1.extract ((wrap64 (t335 + 1)) : Int).toNat a1.size).size ≤ 9223372036854775807 then (some ((a1.extract 0 (t335 : Int).toNat) ++ (a1.extract ((wrap64 (t335 + 1)) : Int).toNat a1.size),bt341.2.1,bt341.2.2)) else (none)) else (none)) else (none)) else (none)) else (none))))) else (none)) else (none)) = some (r1,r2,r3) := by (have he_ : (a2.extract (t338 : Int).toNat a2.size) = sj11 := hsj11);first|(rw [he_] at H;exact H)|(simp only [he_] at H ⊢;exact H)
    (try rw [hsj11] at A7)
    (try rw [hsj11] at A8)
    by_cases c12 : 0 ≤ 1
    ·rw [if_pos c12] at H
     have c12b0 := eq_true c12
     have c12b1 : decide (0 ≤ 1) = true := decide_eq_true c12
     clear c12
     by_cases c13 : 1 ≤ (sj11.size : Int)
     ·rw [if_pos c13] at H
      have c13b0 := eq_true c13
      have c13b1 : decide (1 ≤ (sj11.size : Int)) = true := decide_eq_true c13
      clear c13
      replace H := Option.bind_eq_some_iff.mp H
      obtain ⟨⟨t341,t342,t343⟩,A140,H⟩ := H
      replace H : (if t341 = 0 then (if 0 ≤ t335 then (if t335 ≤ (a1.size : Int) then (if (a1.extract 0 (t335 : Int).toNat).size + (sj11.extract 0 1).size ≤ 9223372036854775807 then (if ((a1.extract 0 (t335 : Int).toNat) ++ (sj11.extract 0 1)).size + (a1.extract (t335 : Int).toNat a1.size).size ≤ 9223372036854775807 then (some (((a1.extract 0 (t335 : Int).toNat) ++ (sj11.extract 0 1)) ++ (a1.extract (t335 : Int).toNat a1.size),t342,t343)) else (none)) else (none)) else (none)) else (none)) else (if t341 = 1 then (if 0 ≤ t335 then (if t335 ≤ (a1.size : Int) then (if (a1.extract 0 (t335 : Int).toNat).size + (sj11.extract 0 1).size ≤ 9223372036854775807 then (if 0 ≤ (wrap64 (t335 + 1)) then (if (wrap64 (t335 + 1)) ≤ (a1.size : Int) then (if ((a1.extract 0 (t335 : Int).toNat) ++ (sj11.extract 0 1)).size + (a1.extract ((wrap64 (t335 + 1)) : Int).toNat a1.size).size ≤ 9223372036854775807 then (some (((a1.extract 0 (t335 : Int).toNat) ++ (sj11.extract 0 1)) ++ (a1.extract ((wrap64 (t335 + 1)) : Int).toNat a1.size),t342,t343)) else (none)) else (none)) else (none)) else (none)) else (none)) else (none)) else (if 0 ≤ t335 then (if t335 ≤ (a1.size : Int) then (if 0 ≤ (wrap64 (t335 + 1)) then (if (wrap64 (t335 + 1)) ≤ (a1.size : Int) then (if (a1.extract 0 (t335 : Int).toNat).size + (a1.extract ((wrap64 (t335 + 1)) : Int).toNat a1.size).size ≤ 9223372036854775807 then (some ((a1.extract 0 (t335 : Int).toNat) ++ (a1.extract ((wrap64 (t335 + 1)) : Int).toNat a1.size),t342,t343)) else (none)) else (none)) else (none)) else (none)) else (none)))) = some (r1,r2,r3) := H
      have A14 := Aside0.mk A140
      clear A140
      by_cases c15 : t341 = 0
      ·rw [if_pos c15] at H
       have c15b0 : (t341 == 0) = true := beq_iff_eq.mpr c15
       have c15b1 : (t341 != 0) = false := bne_eq_false_iff_eq.mpr c15
       clear c15
       by_cases c16 : 0 ≤ t335
       ·rw [if_pos c16] at H
        have c16b0 := eq_true c16
        have c16b1 : decide (0 ≤ t335) = true := decide_eq_true c16
        clear c16
        by_cases c17 : t335 ≤ (a1.size : Int)
        ·rw [if_pos c17] at H
         have c17b0 := eq_true c17
         have c17b1 : decide (t335 ≤ (a1.size : Int)) = true := decide_eq_true c17
         clear c17
         obtain ⟨sj18,hsj18⟩ : ∃ s_ : ByteArray,(a1.extract (t335 : Int).toNat a1.size) = s_ := ⟨_,rfl⟩
         replace H : (if (a1.extract 0 (t335 : Int).toNat).size + (sj11.extract 0 1).size ≤ 9223372036854775807 then (if ((a1.extract 0 (t335 : Int).toNat) ++ (sj11.extract 0 1)).size + sj18.size ≤ 9223372036854775807 then (some (((a1.extract 0 (t335 : Int).toNat) ++ (sj11.extract 0 1)) ++ sj18,t342,t343)) else (none)) else (none)) = some (r1,r2,r3) := by (have he_ : (a1.extract (t335 : Int).toNat a1.size) = sj18 := hsj18);first|(rw [he_] at H;exact H)|(simp only [he_] at H ⊢;exact H)
         (try rw [hsj18] at A7)
         (try rw [hsj18] at A8)
         (try rw [hsj18] at A14)
         by_cases c19 : (a1.extract 0 (t335 : Int).toNat).size + (sj11.extract 0 1).size ≤ 9223372036854775807
         ·rw [if_pos c19] at H
          have c19b0 := eq_true c19
          have c19b1 : decide ((a1.extract 0 (t335 : Int).toNat).size + (sj11.extract 0 1).size ≤ 9223372036854775807) = true := decide_eq_true c19
          try have c19b3 : (9223372036854775807 < min (t335 : Int).toNat a1.size + min 1 sj11.size) = False := eq_false (by have h_ := c19;simp only [ByteArray.size_append,ByteArray.size_extract] at h_;omega)
          try have c19b2 : (9223372036854775807 < (a1.extract 0 (t335 : Int).toNat).size + (sj11.extract 0 1).size) = False := eq_false (Nat.not_lt.2 c19)
          have c20b0 := eq_true (of_decide_eq_true (by first|(with_reducible assumption)|assumption) : 0 ≤ t335)
          have c21b0 := eq_true (of_decide_eq_true (by first|(with_reducible assumption)|assumption) : t335 ≤ (a1.size : Int))
          by_cases c22 : ((a1.extract 0 (t335 : Int).toNat) ++ (sj11.extract 0 1)).size + sj18.size ≤ 9223372036854775807
          ·rw [if_pos c22] at H
           have c22b0 := eq_true c22
           have c22b1 : decide (((a1.extract 0 (t335 : Int).toNat) ++ (sj11.extract 0 1)).size + sj18.size ≤ 9223372036854775807) = true := decide_eq_true c22
           try have c22b3 : (9223372036854775807 < (a1.extract 0 (t335 : Int).toNat).size + (sj11.extract 0 1).size + sj18.size) = False := eq_false (by have h_ := c22;simp only [ByteArray.size_append,ByteArray.size_extract] at h_;omega)
           try have c22b4 : (9223372036854775807 < min (t335 : Int).toNat a1.size + min 1 sj11.size + sj18.size) = False := eq_false (by have h_ := c22;simp only [ByteArray.size_append,ByteArray.size_extract] at h_;omega)
           try have c22b2 : (9223372036854775807 < ((a1.extract 0 (t335 : Int).toNat) ++ (sj11.extract 0 1)).size + sj18.size) = False := eq_false (Nat.not_lt.2 c22)
           simp only [Option.some.injEq,Prod.mk.injEq] at H
           obtain ⟨rfl,rfl,rfl⟩ := H
           go_enter Tryd.func60,Tryd.ntmps60
           go_wp2_with (first|(go_at_call 54;(with_reducible refine (spec_l1Cur_pick.calls g s0_0 s0_1 s0_2 (a1.size : Int) t335 t336 t337 w0 _ ?side1 ?side2 A7.out).mono ?_);(case side1 => repeat (first|(with_reducible first|exact HI0.out|apply IsS74.alloc|apply IsS74.drewN|apply IsS74.drew|apply IsS74.set_1|apply IsS74.set_2)|exact HI0.out));(case side2 => repeat (first|(with_reducible first|exact HB.out|apply lA|apply lN|apply lD|refine below_set ?_ (IsS74.ge HI0.out))|exact HB.out));rintro e w23 ⟨rfl,hi,hb,hk⟩;have n0_ := Aside0.mk (KeepBut.trans (by repeat (first|(with_reducible first|exact HK.out|apply KeepBut.set_|apply keep_drewN|apply keep_drew|apply keep_alloc)|exact HK.out)) hk (.inl rfl));have n1_ := Aside0.mk (hb);have n2_ := Aside0.mk (hi);clear HK;clear HB;clear HI0;have HK := n0_;have HB := n1_;have HI0 := n2_;clear n0_ n1_ n2_;(try clear hb);(try clear hb2);(try clear hk);(try clear hi))|(go_at_call 54;(with_reducible refine (spec_l1Cur_pick.calls g s0_0 t336 t337 (a2.size : Int) t338 t339 t340 w0 _ ?side1 ?side2 A8.out).mono ?_);(case side1 => repeat (first|(with_reducible first|exact HI0.out|apply IsS74.alloc|apply IsS74.drewN|apply IsS74.drew|apply IsS74.set_1|apply IsS74.set_2)|exact HI0.out));(case side2 => repeat (first|(with_reducible first|exact HB.out|apply lA|apply lN|apply lD|refine below_set ?_ (IsS74.ge HI0.out))|exact HB.out));rintro e w24 ⟨rfl,hi,hb,hk⟩;have n0_ := Aside0.mk (KeepBut.trans (by repeat (first|(with_reducible first|exact HK.out|apply KeepBut.set_|apply keep_drewN|apply keep_drew|apply keep_alloc)|exact HK.out)) hk (.inl rfl));have n1_ := Aside0.mk (hb);have n2_ := Aside0.mk (hi);clear HK;clear HB;clear HI0;have HK := n0_;have HB := n1_;have HI0 := n2_;clear n0_ n1_ n2_;(try clear hb);(try clear hb2);(try clear hk);(try clear hi))|(go_at_call 54;(with_reducible refine (spec_l1Cur_pick.calls g s0_0 t339 t340 3 t341 t342 t343 w0 _ ?side1 ?side2 A14.out).mono ?_);(case side1 => repeat (first|(with_reducible first|exact HI0.out|apply IsS74.alloc|apply IsS74.drewN|apply IsS74.drew|apply IsS74.set_1|apply IsS74.set_2)|exact HI0.out));(case side2 => repeat (first|(with_reducible first|exact HB.out|apply lA|apply lN|apply lD|refine below_set ?_ (IsS74.ge HI0.out))|exact HB.out));rintro e w25 ⟨rfl,hi,hb,hk⟩;have n0_ := Aside0.mk (KeepBut.trans (by repeat (first|(with_reducible first|exact HK.out|apply KeepBut.set_|apply keep_drewN|apply keep_drew|apply keep_alloc)|exact HK.out)) hk (.inl rfl));have n1_ := Aside0.mk (hb);have n2_ := Aside0.mk (hi);clear HK;clear HB;clear HI0;have HK := n0_;have HB := n1_;have HI0 := n2_;clear n0_ n1_ n2_;(try clear hb);(try clear hb2);(try clear hk);(try clear hi)))
           repeat (go_quiet (first|(go_at_call 54;(with_reducible refine (spec_l1Cur_pick.calls g s0_0 s0_1 s0_2 (a1.size : Int) t335 t336 t337 w0 _ ?side1 ?side2 A7.out).mono ?_);(case side1 => repeat (first|(with_reducible first|exact HI0.out|apply IsS74.alloc|apply IsS74.drewN|apply IsS74.drew|apply IsS74.set_1|apply IsS74.set_2)|exact HI0.out));(case side2 => repeat (first|(with_reducible first|exact HB.out|apply lA|apply lN|apply lD|refine below_set ?_ (IsS74.ge HI0.out))|exact HB.out));rintro e w23 ⟨rfl,hi,hb,hk⟩;have n0_ := Aside0.mk (KeepBut.trans (by repeat (first|(with_reducible first|exact HK.out|apply KeepBut.set_|apply keep_drewN|apply keep_drew|apply keep_alloc)|exact HK.out)) hk (.inl rfl));have n1_ := Aside0.mk (hb);have n2_ := Aside0.mk (hi);clear HK;clear HB;clear HI0;have HK := n0_;have HB := n1_;have HI0 := n2_;clear n0_ n1_ n2_;(try clear hb);(try clear hb2);(try clear hk);(try clear hi))|(go_at_call 54;(with_reducible refine (spec_l1Cur_pick.calls g s0_0 t336 t337 (a2.size : Int) t338 t339 t340 w0 _ ?side1 ?side2 A8.out).mono ?_);(case side1 => repeat (first|(with_reducible first|exact HI0.out|apply IsS74.alloc|apply IsS74.drewN|apply IsS74.drew|apply IsS74.set_1|apply IsS74.set_2)|exact HI0.out));(case side2 => repeat (first|(with_reducible first|exact HB.out|apply lA|apply lN|apply lD|refine below_set ?_ (IsS74.ge HI0.out))|exact HB.out));rintro e w24 ⟨rfl,hi,hb,hk⟩;have n0_ := Aside0.mk (KeepBut.trans (by repeat (first|(with_reducible first|exact HK.out|apply KeepBut.set_|apply keep_drewN|apply keep_drew|apply keep_alloc)|exact HK.out)) hk (.inl rfl));have n1_ := Aside0.mk (hb);have n2_ := Aside0.mk (hi);clear HK;clear HB;clear HI0;have HK := n0_;have HB := n1_;have HI0 := n2_;clear n0_ n1_ n2_;(try clear hb);(try clear hb2);(try clear hk);(try clear hi))|(go_at_call 54;(with_reducible refine (spec_l1Cur_pick.calls g s0_0 t339 t340 3 t341 t342 t343 w0 _ ?side1 ?side2 A14.out).mono ?_);(case side1 => repeat (first|(with_reducible first|exact HI0.out|apply IsS74.alloc|apply IsS74.drewN|apply IsS74.drew|apply IsS74.set_1|apply IsS74.set_2)|exact HI0.out));(case side2 => repeat (first|(with_reducible first|exact HB.out|apply lA|apply lN|apply lD|refine below_set ?_ (IsS74.ge HI0.out))|exact HB.out));rintro e w25 ⟨rfl,hi,hb,hk⟩;have n0_ := Aside0.mk (KeepBut.trans (by repeat (first|(with_reducible first|exact HK.out|apply KeepBut.set_|apply keep_drewN|apply keep_drew|apply keep_alloc)|exact HK.out)) hk (.inl rfl));have n1_ := Aside0.mk (hb);have n2_ := Aside0.mk (hi);clear HK;clear HB;clear HI0;have HK := n0_;have HB := n1_;have HI0 := n2_;clear n0_ n1_ n2_;(try clear hb);(try clear hb2);(try clear hk);(try clear hi)));try go_wp2_with (first|(go_at_call 54;(with_reducible refine (spec_l1Cur_pick.calls g s0_0 s0_1 s0_2 (a1.size : Int) t335 t336 t337 w0 _ ?side1 ?side2 A7.out).mono ?_);(case side1 => repeat (first|(with_reducible first|exact HI0.out|apply IsS74.alloc|apply IsS74.drewN|apply IsS74.drew|apply IsS74.set_1|apply IsS74.set_2)|exact HI0.out));(case side2 => repeat (first|(with_reducible first|exact HB.out|apply lA|apply lN|apply lD|refine below_set ?_ (IsS74.ge HI0.out))|exact HB.out));rintro e w23 ⟨rfl,hi,hb,hk⟩;have n0_ := Aside0.mk (KeepBut.trans (by repeat (first|(with_reducible first|exact HK.out|apply KeepBut.set_|apply keep_drewN|apply keep_drew|apply keep_alloc)|exact HK.out)) hk (.inl rfl));have n1_ := Aside0.mk (hb);have n2_ := Aside0.mk (hi);clear HK;clear HB;clear HI0;have HK := n0_;have HB := n1_;have HI0 := n2_;clear n0_ n1_ n2_;(try clear hb);(try clear hb2);(try clear hk);(try clear hi))|(go_at_call 54;(with_reducible refine (spec_l1Cur_pick.calls g s0_0 t336 t337 (a2.size : Int) t338 t339 t340 w0 _ ?side1 ?side2 A8.out).mono ?_);(case side1 => repeat (first|(with_reducible first|exact HI0.out|apply IsS74.alloc|apply IsS74.drewN|apply IsS74.drew|apply IsS74.set_1|apply IsS74.set_2)|exact HI0.out));(case side2 => repeat (first|(with_reducible first|exact HB.out|apply lA|apply lN|apply lD|refine below_set ?_ (IsS74.ge HI0.out))|exact HB.out));rintro e w24 ⟨rfl,hi,hb,hk⟩;have n0_ := Aside0.mk (KeepBut.trans (by repeat (first|(with_reducible first|exact HK.out|apply KeepBut.set_|apply keep_drewN|apply keep_drew|apply keep_alloc)|exact HK.out)) hk (.inl rfl));have n1_ := Aside0.mk (hb);have n2_ := Aside0.mk (hi);clear HK;clear HB;clear HI0;have HK := n0_;have HB := n1_;have HI0 := n2_;clear n0_ n1_ n2_;(try clear hb);(try clear hb2);(try clear hk);(try clear hi))|(go_at_call 54;(with_reducible refine (spec_l1Cur_pick.calls g s0_0 t339 t340 3 t341 t342 t343 w0 _ ?side1 ?side2 A14.out).mono ?_);(case side1 => repeat (first|(with_reducible first|exact HI0.out|apply IsS74.alloc|apply IsS74.drewN|apply IsS74.drew|apply IsS74.set_1|apply IsS74.set_2)|exact HI0.out));(case side2 => repeat (first|(with_reducible first|exact HB.out|apply lA|apply lN|apply lD|refine below_set ?_ (IsS74.ge HI0.out))|exact HB.out));rintro e w25 ⟨rfl,hi,hb,hk⟩;have n0_ := Aside0.mk (KeepBut.trans (by repeat (first|(with_reducible first|exact HK.out|apply KeepBut.set_|apply keep_drewN|apply keep_drew|apply keep_alloc)|exact HK.out)) hk (.inl rfl));have n1_ := Aside0.mk (hb);have n2_ := Aside0.mk (hi);clear HK;clear HB;clear HI0;have HK := n0_;have HB := n1_;have HI0 := n2_;clear n0_ n1_ n2_;(try clear hb);(try clear hb2);(try clear hk);(try clear hi))))
           go_ret
           exact ⟨by first|rfl|(simp [errW_none,errW_some] <;> rfl)|(simp only [← hsj11,← hsj18];first|rfl|(simp [errW_none,errW_some] <;> rfl))|(simp [*,errW_none,errW_some] <;> rfl),by repeat (first|(with_reducible first|exact HI0.out|apply IsS74.alloc|apply IsS74.drewN|apply IsS74.drew|apply IsS74.set_1|apply IsS74.set_2)|exact HI0.out),by repeat (first|(with_reducible first|exact HB.out|apply lA|apply lN|apply lD|refine below_set ?_ (IsS74.ge HI0.out))|exact HB.out),by repeat (first|(with_reducible first|exact HK.out|apply KeepBut.set_|apply keep_drewN|apply keep_drew|apply keep_alloc)|exact HK.out)⟩
          ·rw [if_neg c22] at H
           exact absurd H (by simp)
         ·rw [if_neg c19] at H
          exact absurd H (by simp)
        ·rw [if_neg c17] at H
         exact absurd H (by simp)
       ·rw [if_neg c16] at H
        exact absurd H (by simp)
      ·rw [if_neg c15] at H
       have c15b0 : (t341 == 0) = false := beq_eq_false_iff_ne.mpr c15
       have c15b1 : (t341 != 0) = true := bne_iff_ne.mpr c15
       by_cases c26 : t341 = 1
       ·rw [if_pos c26] at H
        have c26b0 : (t341 == 1) = true := beq_iff_eq.mpr c26
        have c26b1 : (t341 != 1) = false := bne_eq_false_iff_eq.mpr c26
        clear c26
        by_cases c27 : 0 ≤ t335
        ·rw [if_pos c27] at H
         have c27b0 := eq_true c27
         have c27b1 : decide (0 ≤ t335) = true := decide_eq_true c27
         clear c27
         by_cases c28 : t335 ≤ (a1.size : Int)
         ·rw [if_pos c28] at H
          have c28b0 := eq_true c28
          have c28b1 : decide (t335 ≤ (a1.size : Int)) = true := decide_eq_true c28
          clear c28
          by_cases c29 : (a1.extract 0 (t335 : Int).toNat).size + (sj11.extract 0 1).size ≤ 9223372036854775807
          ·rw [if_pos c29] at H
           have c29b0 := eq_true c29
           have c29b1 : decide ((a1.extract 0 (t335 : Int).toNat).size + (sj11.extract 0 1).size ≤ 9223372036854775807) = true := decide_eq_true c29
           try have c29b3 : (9223372036854775807 < min (t335 : Int).toNat a1.size + min 1 sj11.size) = False := eq_false (by have h_ := c29;simp only [ByteArray.size_append,ByteArray.size_extract] at h_;omega)
           try have c29b2 : (9223372036854775807 < (a1.extract 0 (t335 : Int).toNat).size + (sj11.extract 0 1).size) = False := eq_false (Nat.not_lt.2 c29)
           obtain ⟨ji30,hji30⟩ : ∃ j_ : Int,(wrap64 (t335 + 1)) = j_ := ⟨_,rfl⟩
           (try rw [hji30] at hsj11)
           (try rw [hji30] at hsj18)
           replace H : (if 0 ≤ (ji30) then (if (ji30) ≤ (a1.size : Int) then (if ((a1.extract 0 (t335 : Int).toNat) ++ (sj11.extract 0 1)).size + (a1.extract ((ji30) : Int).toNat a1.size).size ≤ 9223372036854775807 then (some (((a1.extract 0 (t335 : Int).toNat) ++ (sj11.extract 0 1)) ++ (a1.extract ((ji30) : Int).toNat a1.size),t342,t343)) else (none)) else (none)) else (none)) = some (r1,r2,r3) := by first|(rw [hji30] at H;exact H)|(simp only [hji30] at H ⊢;exact H)
           (try rw [hji30] at A7)
           (try rw [hji30] at A8)
           (try rw [hji30] at A14)
           have hji30w : (IntKind.i64.wrap (t335 + 1)) = ji30 := (i64_w _).trans hji30
           by_cases c31 : 0 ≤ (ji30)
           ·rw [if_pos c31] at H
            have c31b0 := eq_true c31
            have c31b1 : decide (0 ≤ (ji30)) = true := decide_eq_true c31
            clear c31
            by_cases c32 : (ji30) ≤ (a1.size : Int)
            ·rw [if_pos c32] at H
             have c32b0 := eq_true c32
             have c32b1 : decide ((ji30) ≤ (a1.size : Int)) = true := decide_eq_true c32
             clear c32
             obtain ⟨sj33,hsj33⟩ : ∃ s_ : ByteArray,(a1.extract ((ji30) : Int).toNat a1.size) = s_ := ⟨_,rfl⟩
             replace H : (if ((a1.extract 0 (t335 : Int).toNat) ++ (sj11.extract 0 1)).size + sj33.size ≤ 9223372036854775807 then (some (((a1.extract 0 (t335 : Int).toNat) ++ (sj11.extract 0 1)) ++ sj33,t342,t343)) else (none)) = some (r1,r2,r3) := by (have he_ : (a1.extract ((ji30) : Int).toNat a1.size) = sj33 := hsj33);first|(rw [he_] at H;exact H)|(simp only [he_] at H ⊢;exact H)
             (try rw [hsj33] at A7)
             (try rw [hsj33] at A8)
             (try rw [hsj33] at A14)
             by_cases c34 : ((a1.extract 0 (t335 : Int).toNat) ++ (sj11.extract 0 1)).size + sj33.size ≤ 9223372036854775807
             ·rw [if_pos c34] at H
              have c34b0 := eq_true c34
              have c34b1 : decide (((a1.extract 0 (t335 : Int).toNat) ++ (sj11.extract 0 1)).size + sj33.size ≤ 9223372036854775807) = true := decide_eq_true c34
              try have c34b3 : (9223372036854775807 < (a1.extract 0 (t335 : Int).toNat).size + (sj11.extract 0 1).size + sj33.size) = False := eq_false (by have h_ := c34;simp only [ByteArray.size_append,ByteArray.size_extract] at h_;omega)
              try have c34b4 : (9223372036854775807 < min (t335 : Int).toNat a1.size + min 1 sj11.size + sj33.size) = False := eq_false (by have h_ := c34;simp only [ByteArray.size_append,ByteArray.size_extract] at h_;omega)
              try have c34b2 : (9223372036854775807 < ((a1.extract 0 (t335 : Int).toNat) ++ (sj11.extract 0 1)).size + sj33.size) = False := eq_false (Nat.not_lt.2 c34)
              simp only [Option.some.injEq,Prod.mk.injEq] at H
              obtain ⟨rfl,rfl,rfl⟩ := H
              go_enter Tryd.func60,Tryd.ntmps60
              go_wp2_with (first|(go_at_call 54;(with_reducible refine (spec_l1Cur_pick.calls g s0_0 s0_1 s0_2 (a1.size : Int) t335 t336 t337 w0 _ ?side1 ?side2 A7.out).mono ?_);(case side1 => repeat (first|(with_reducible first|exact HI0.out|apply IsS74.alloc|apply IsS74.drewN|apply IsS74.drew|apply IsS74.set_1|apply IsS74.set_2)|exact HI0.out));(case side2 => repeat (first|(with_reducible first|exact HB.out|apply lA|apply lN|apply lD|refine below_set ?_ (IsS74.ge HI0.out))|exact HB.out));rintro e w35 ⟨rfl,hi,hb,hk⟩;have n0_ := Aside0.mk (KeepBut.trans (by repeat (first|(with_reducible first|exact HK.out|apply KeepBut.set_|apply keep_drewN|apply keep_drew|apply keep_alloc)|exact HK.out)) hk (.inl rfl));have n1_ := Aside0.mk (hb);have n2_ := Aside0.mk (hi);clear HK;clear HB;clear HI0;have HK := n0_;have HB := n1_;have HI0 := n2_;clear n0_ n1_ n2_;(try clear hb);(try clear hb2);(try clear hk);(try clear hi))|(go_at_call 54;(with_reducible refine (spec_l1Cur_pick.calls g s0_0 t336 t337 (a2.size : Int) t338 t339 t340 w0 _ ?side1 ?side2 A8.out).mono ?_);(case side1 => repeat (first|(with_reducible first|exact HI0.out|apply IsS74.alloc|apply IsS74.drewN|apply IsS74.drew|apply IsS74.set_1|apply IsS74.set_2)|exact HI0.out));(case side2 => repeat (first|(with_reducible first|exact HB.out|apply lA|apply lN|apply lD|refine below_set ?_ (IsS74.ge HI0.out))|exact HB.out));rintro e w36 ⟨rfl,hi,hb,hk⟩;have n0_ := Aside0.mk (KeepBut.trans (by repeat (first|(with_reducible first|exact HK.out|apply KeepBut.set_|apply keep_drewN|apply keep_drew|apply keep_alloc)|exact HK.out)) hk (.inl rfl));have n1_ := Aside0.mk (hb);have n2_ := Aside0.mk (hi);clear HK;clear HB;clear HI0;have HK := n0_;have HB := n1_;have HI0 := n2_;clear n0_ n1_ n2_;(try clear hb);(try clear hb2);(try clear hk);(try clear hi))|(go_at_call 54;(with_reducible refine (spec_l1Cur_pick.calls g s0_0 t339 t340 3 t341 t342 t343 w0 _ ?side1 ?side2 A14.out).mono ?_);(case side1 => repeat (first|(with_reducible first|exact HI0.out|apply IsS74.alloc|apply IsS74.drewN|apply IsS74.drew|apply IsS74.set_1|apply IsS74.set_2)|exact HI0.out));(case side2 => repeat (first|(with_reducible first|exact HB.out|apply lA|apply lN|apply lD|refine below_set ?_ (IsS74.ge HI0.out))|exact HB.out));rintro e w37 ⟨rfl,hi,hb,hk⟩;have n0_ := Aside0.mk (KeepBut.trans (by repeat (first|(with_reducible first|exact HK.out|apply KeepBut.set_|apply keep_drewN|apply keep_drew|apply keep_alloc)|exact HK.out)) hk (.inl rfl));have n1_ := Aside0.mk (hb);have n2_ := Aside0.mk (hi);clear HK;clear HB;clear HI0;have HK := n0_;have HB := n1_;have HI0 := n2_;clear n0_ n1_ n2_;(try clear hb);(try clear hb2);(try clear hk);(try clear hi)))
              repeat (go_quiet (first|(go_at_call 54;(with_reducible refine (spec_l1Cur_pick.calls g s0_0 s0_1 s0_2 (a1.size : Int) t335 t336 t337 w0 _ ?side1 ?side2 A7.out).mono ?_);(case side1 => repeat (first|(with_reducible first|exact HI0.out|apply IsS74.alloc|apply IsS74.drewN|apply IsS74.drew|apply IsS74.set_1|apply IsS74.set_2)|exact HI0.out));(case side2 => repeat (first|(with_reducible first|exact HB.out|apply lA|apply lN|apply lD|refine below_set ?_ (IsS74.ge HI0.out))|exact HB.out));rintro e w35 ⟨rfl,hi,hb,hk⟩;have n0_ := Aside0.mk (KeepBut.trans (by repeat (first|(with_reducible first|exact HK.out|apply KeepBut.set_|apply keep_drewN|apply keep_drew|apply keep_alloc)|exact HK.out)) hk (.inl rfl));have n1_ := Aside0.mk (hb);have n2_ := Aside0.mk (hi);clear HK;clear HB;clear HI0;have HK := n0_;have HB := n1_;have HI0 := n2_;clear n0_ n1_ n2_;(try clear hb);(try clear hb2);(try clear hk);(try clear hi))|(go_at_call 54;(with_reducible refine (spec_l1Cur_pick.calls g s0_0 t336 t337 (a2.size : Int) t338 t339 t340 w0 _ ?side1 ?side2 A8.out).mono ?_);(case side1 => repeat (first|(with_reducible first|exact HI0.out|apply IsS74.alloc|apply IsS74.drewN|apply IsS74.drew|apply IsS74.set_1|apply IsS74.set_2)|exact HI0.out));(case side2 => repeat (first|(with_reducible first|exact HB.out|apply lA|apply lN|apply lD|refine below_set ?_ (IsS74.ge HI0.out))|exact HB.out));rintro e w36 ⟨rfl,hi,hb,hk⟩;have n0_ := Aside0.mk (KeepBut.trans (by repeat (first|(with_reducible first|exact HK.out|apply KeepBut.set_|apply keep_drewN|apply keep_drew|apply keep_alloc)|exact HK.out)) hk (.inl rfl));have n1_ := Aside0.mk (hb);have n2_ := Aside0.mk (hi);clear HK;clear HB;clear HI0;have HK := n0_;have HB := n1_;have HI0 := n2_;clear n0_ n1_ n2_;(try clear hb);(try clear hb2);(try clear hk);(try clear hi))|(go_at_call 54;(with_reducible refine (spec_l1Cur_pick.calls g s0_0 t339 t340 3 t341 t342 t343 w0 _ ?side1 ?side2 A14.out).mono ?_);(case side1 => repeat (first|(with_reducible first|exact HI0.out|apply IsS74.alloc|apply IsS74.drewN|apply IsS74.drew|apply IsS74.set_1|apply IsS74.set_2)|exact HI0.out));(case side2 => repeat (first|(with_reducible first|exact HB.out|apply lA|apply lN|apply lD|refine below_set ?_ (IsS74.ge HI0.out))|exact HB.out));rintro e w37 ⟨rfl,hi,hb,hk⟩;have n0_ := Aside0.mk (KeepBut.trans (by repeat (first|(with_reducible first|exact HK.out|apply KeepBut.set_|apply keep_drewN|apply keep_drew|apply keep_alloc)|exact HK.out)) hk (.inl rfl));have n1_ := Aside0.mk (hb);have n2_ := Aside0.mk (hi);clear HK;clear HB;clear HI0;have HK := n0_;have HB := n1_;have HI0 := n2_;clear n0_ n1_ n2_;(try clear hb);(try clear hb2);(try clear hk);(try clear hi)));try go_wp2_with (first|(go_at_call 54;(with_reducible refine (spec_l1Cur_pick.calls g s0_0 s0_1 s0_2 (a1.size : Int) t335 t336 t337 w0 _ ?side1 ?side2 A7.out).mono ?_);(case side1 => repeat (first|(with_reducible first|exact HI0.out|apply IsS74.alloc|apply IsS74.drewN|apply IsS74.drew|apply IsS74.set_1|apply IsS74.set_2)|exact HI0.out));(case side2 => repeat (first|(with_reducible first|exact HB.out|apply lA|apply lN|apply lD|refine below_set ?_ (IsS74.ge HI0.out))|exact HB.out));rintro e w35 ⟨rfl,hi,hb,hk⟩;have n0_ := Aside0.mk (KeepBut.trans (by repeat (first|(with_reducible first|exact HK.out|apply KeepBut.set_|apply keep_drewN|apply keep_drew|apply keep_alloc)|exact HK.out)) hk (.inl rfl));have n1_ := Aside0.mk (hb);have n2_ := Aside0.mk (hi);clear HK;clear HB;clear HI0;have HK := n0_;have HB := n1_;have HI0 := n2_;clear n0_ n1_ n2_;(try clear hb);(try clear hb2);(try clear hk);(try clear hi))|(go_at_call 54;(with_reducible refine (spec_l1Cur_pick.calls g s0_0 t336 t337 (a2.size : Int) t338 t339 t340 w0 _ ?side1 ?side2 A8.out).mono ?_);(case side1 => repeat (first|(with_reducible first|exact HI0.out|apply IsS74.alloc|apply IsS74.drewN|apply IsS74.drew|apply IsS74.set_1|apply IsS74.set_2)|exact HI0.out));(case side2 => repeat (first|(with_reducible first|exact HB.out|apply lA|apply lN|apply lD|refine below_set ?_ (IsS74.ge HI0.out))|exact HB.out));rintro e w36 ⟨rfl,hi,hb,hk⟩;have n0_ := Aside0.mk (KeepBut.trans (by repeat (first|(with_reducible first|exact HK.out|apply KeepBut.set_|apply keep_drewN|apply keep_drew|apply keep_alloc)|exact HK.out)) hk (.inl rfl));have n1_ := Aside0.mk (hb);have n2_ := Aside0.mk (hi);clear HK;clear HB;clear HI0;have HK := n0_;have HB := n1_;have HI0 := n2_;clear n0_ n1_ n2_;(try clear hb);(try clear hb2);(try clear hk);(try clear hi))|(go_at_call 54;(with_reducible refine (spec_l1Cur_pick.calls g s0_0 t339 t340 3 t341 t342 t343 w0 _ ?side1 ?side2 A14.out).mono ?_);(case side1 => repeat (first|(with_reducible first|exact HI0.out|apply IsS74.alloc|apply IsS74.drewN|apply IsS74.drew|apply IsS74.set_1|apply IsS74.set_2)|exact HI0.out));(case side2 => repeat (first|(with_reducible first|exact HB.out|apply lA|apply lN|apply lD|refine below_set ?_ (IsS74.ge HI0.out))|exact HB.out));rintro e w37 ⟨rfl,hi,hb,hk⟩;have n0_ := Aside0.mk (KeepBut.trans (by repeat (first|(with_reducible first|exact HK.out|apply KeepBut.set_|apply keep_drewN|apply keep_drew|apply keep_alloc)|exact HK.out)) hk (.inl rfl));have n1_ := Aside0.mk (hb);have n2_ := Aside0.mk (hi);clear HK;clear HB;clear HI0;have HK := n0_;have HB := n1_;have HI0 := n2_;clear n0_ n1_ n2_;(try clear hb);(try clear hb2);(try clear hk);(try clear hi))))
              go_ret
              exact ⟨by first|rfl|(simp [errW_none,errW_some] <;> rfl)|(simp only [← hsj11,← hji30,← hsj33];first|rfl|(simp [errW_none,errW_some] <;> rfl))|(simp [*,errW_none,errW_some] <;> rfl),by repeat (first|(with_reducible first|exact HI0.out|apply IsS74.alloc|apply IsS74.drewN|apply IsS74.drew|apply IsS74.set_1|apply IsS74.set_2)|exact HI0.out),by repeat (first|(with_reducible first|exact HB.out|apply lA|apply lN|apply lD|refine below_set ?_ (IsS74.ge HI0.out))|exact HB.out),by repeat (first|(with_reducible first|exact HK.out|apply KeepBut.set_|apply keep_drewN|apply keep_drew|apply keep_alloc)|exact HK.out)⟩
             ·rw [if_neg c34] at H
              exact absurd H (by simp)
            ·rw [if_neg c32] at H
             exact absurd H (by simp)
           ·rw [if_neg c31] at H
            exact absurd H (by simp)
          ·rw [if_neg c29] at H
           exact absurd H (by simp)
         ·rw [if_neg c28] at H
          exact absurd H (by simp)
        ·rw [if_neg c27] at H
         exact absurd H (by simp)
       ·rw [if_neg c26] at H
        have c26b0 : (t341 == 1) = false := beq_eq_false_iff_ne.mpr c26
        have c26b1 : (t341 != 1) = true := bne_iff_ne.mpr c26
        by_cases c38 : 0 ≤ t335
        ·rw [if_pos c38] at H
         have c38b0 := eq_true c38
         have c38b1 : decide (0 ≤ t335) = true := decide_eq_true c38
         clear c38
         by_cases c39 : t335 ≤ (a1.size : Int)
         ·rw [if_pos c39] at H
          have c39b0 := eq_true c39
          have c39b1 : decide (t335 ≤ (a1.size : Int)) = true := decide_eq_true c39
          clear c39
          obtain ⟨ji40,hji40⟩ : ∃ j_ : Int,(wrap64 (t335 + 1)) = j_ := ⟨_,rfl⟩
          (try rw [hji40] at hsj11)
          (try rw [hji40] at hsj18)
          (try rw [hji40] at hsj33)
          replace H : (if 0 ≤ (ji40) then (if (ji40) ≤ (a1.size : Int) then (if (a1.extract 0 (t335 : Int).toNat).size + (a1.extract ((ji40) : Int).toNat a1.size).size ≤ 9223372036854775807 then (some ((a1.extract 0 (t335 : Int).toNat) ++ (a1.extract ((ji40) : Int).toNat a1.size),t342,t343)) else (none)) else (none)) else (none)) = some (r1,r2,r3) := by first|(rw [hji40] at H;exact H)|(simp only [hji40] at H ⊢;exact H)
          (try rw [hji40] at A7)
          (try rw [hji40] at A8)
          (try rw [hji40] at A14)
          have hji40w : (IntKind.i64.wrap (t335 + 1)) = ji40 := (i64_w _).trans hji40
          by_cases c41 : 0 ≤ (ji40)
          ·rw [if_pos c41] at H
           have c41b0 := eq_true c41
           have c41b1 : decide (0 ≤ (ji40)) = true := decide_eq_true c41
           clear c41
           by_cases c42 : (ji40) ≤ (a1.size : Int)
           ·rw [if_pos c42] at H
            have c42b0 := eq_true c42
            have c42b1 : decide ((ji40) ≤ (a1.size : Int)) = true := decide_eq_true c42
            clear c42
            obtain ⟨sj43,hsj43⟩ : ∃ s_ : ByteArray,(a1.extract ((ji40) : Int).toNat a1.size) = s_ := ⟨_,rfl⟩
            replace H : (if (a1.extract 0 (t335 : Int).toNat).size + sj43.size ≤ 9223372036854775807 then (some ((a1.extract 0 (t335 : Int).toNat) ++ sj43,t342,t343)) else (none)) = some (r1,r2,r3) := by (have he_ : (a1.extract ((ji40) : Int).toNat a1.size) = sj43 := hsj43);first|(rw [he_] at H;exact H)|(simp only [he_] at H ⊢;exact H)
            (try rw [hsj43] at A7)
            (try rw [hsj43] at A8)
            (try rw [hsj43] at A14)
            by_cases c44 : (a1.extract 0 (t335 : Int).toNat).size + sj43.size ≤ 9223372036854775807
            ·rw [if_pos c44] at H
             have c44b0 := eq_true c44
             have c44b1 : decide ((a1.extract 0 (t335 : Int).toNat).size + sj43.size ≤ 9223372036854775807) = true := decide_eq_true c44
             try have c44b3 : (9223372036854775807 < min (t335 : Int).toNat a1.size + sj43.size) = False := eq_false (by have h_ := c44;simp only [ByteArray.size_append,ByteArray.size_extract] at h_;omega)
             try have c44b2 : (9223372036854775807 < (a1.extract 0 (t335 : Int).toNat).size + sj43.size) = False := eq_false (Nat.not_lt.2 c44)
             simp only [Option.some.injEq,Prod.mk.injEq] at H
             obtain ⟨rfl,rfl,rfl⟩ := H
             go_enter Tryd.func60,Tryd.ntmps60
             go_wp2_with (first|(go_at_call 54;(with_reducible refine (spec_l1Cur_pick.calls g s0_0 s0_1 s0_2 (a1.size : Int) t335 t336 t337 w0 _ ?side1 ?side2 A7.out).mono ?_);(case side1 => repeat (first|(with_reducible first|exact HI0.out|apply IsS74.alloc|apply IsS74.drewN|apply IsS74.drew|apply IsS74.set_1|apply IsS74.set_2)|exact HI0.out));(case side2 => repeat (first|(with_reducible first|exact HB.out|apply lA|apply lN|apply lD|refine below_set ?_ (IsS74.ge HI0.out))|exact HB.out));rintro e w45 ⟨rfl,hi,hb,hk⟩;have n0_ := Aside0.mk (KeepBut.trans (by repeat (first|(with_reducible first|exact HK.out|apply KeepBut.set_|apply keep_drewN|apply keep_drew|apply keep_alloc)|exact HK.out)) hk (.inl rfl));have n1_ := Aside0.mk (hb);have n2_ := Aside0.mk (hi);clear HK;clear HB;clear HI0;have HK := n0_;have HB := n1_;have HI0 := n2_;clear n0_ n1_ n2_;(try clear hb);(try clear hb2);(try clear hk);(try clear hi))|(go_at_call 54;(with_reducible refine (spec_l1Cur_pick.calls g s0_0 t336 t337 (a2.size : Int) t338 t339 t340 w0 _ ?side1 ?side2 A8.out).mono ?_);(case side1 => repeat (first|(with_reducible first|exact HI0.out|apply IsS74.alloc|apply IsS74.drewN|apply IsS74.drew|apply IsS74.set_1|apply IsS74.set_2)|exact HI0.out));(case side2 => repeat (first|(with_reducible first|exact HB.out|apply lA|apply lN|apply lD|refine below_set ?_ (IsS74.ge HI0.out))|exact HB.out));rintro e w46 ⟨rfl,hi,hb,hk⟩;have n0_ := Aside0.mk (KeepBut.trans (by repeat (first|(with_reducible first|exact HK.out|apply KeepBut.set_|apply keep_drewN|apply keep_drew|apply keep_alloc)|exact HK.out)) hk (.inl rfl));have n1_ := Aside0.mk (hb);have n2_ := Aside0.mk (hi);clear HK;clear HB;clear HI0;have HK := n0_;have HB := n1_;have HI0 := n2_;clear n0_ n1_ n2_;(try clear hb);(try clear hb2);(try clear hk);(try clear hi))|(go_at_call 54;(with_reducible refine (spec_l1Cur_pick.calls g s0_0 t339 t340 3 t341 t342 t343 w0 _ ?side1 ?side2 A14.out).mono ?_);(case side1 => repeat (first|(with_reducible first|exact HI0.out|apply IsS74.alloc|apply IsS74.drewN|apply IsS74.drew|apply IsS74.set_1|apply IsS74.set_2)|exact HI0.out));(case side2 => repeat (first|(with_reducible first|exact HB.out|apply lA|apply lN|apply lD|refine below_set ?_ (IsS74.ge HI0.out))|exact HB.out));rintro e w47 ⟨rfl,hi,hb,hk⟩;have n0_ := Aside0.mk (KeepBut.trans (by repeat (first|(with_reducible first|exact HK.out|apply KeepBut.set_|apply keep_drewN|apply keep_drew|apply keep_alloc)|exact HK.out)) hk (.inl rfl));have n1_ := Aside0.mk (hb);have n2_ := Aside0.mk (hi);clear HK;clear HB;clear HI0;have HK := n0_;have HB := n1_;have HI0 := n2_;clear n0_ n1_ n2_;(try clear hb);(try clear hb2);(try clear hk);(try clear hi)))
             repeat (go_quiet (first|(go_at_call 54;(with_reducible refine (spec_l1Cur_pick.calls g s0_0 s0_1 s0_2 (a1.size : Int) t335 t336 t337 w0 _ ?side1 ?side2 A7.out).mono ?_);(case side1 => repeat (first|(with_reducible first|exact HI0.out|apply IsS74.alloc|apply IsS74.drewN|apply IsS74.drew|apply IsS74.set_1|apply IsS74.set_2)|exact HI0.out));(case side2 => repeat (first|(with_reducible first|exact HB.out|apply lA|apply lN|apply lD|refine below_set ?_ (IsS74.ge HI0.out))|exact HB.out));rintro e w45 ⟨rfl,hi,hb,hk⟩;have n0_ := Aside0.mk (KeepBut.trans (by repeat (first|(with_reducible first|exact HK.out|apply KeepBut.set_|apply keep_drewN|apply keep_drew|apply keep_alloc)|exact HK.out)) hk (.inl rfl));have n1_ := Aside0.mk (hb);have n2_ := Aside0.mk (hi);clear HK;clear HB;clear HI0;have HK := n0_;have HB := n1_;have HI0 := n2_;clear n0_ n1_ n2_;(try clear hb);(try clear hb2);(try clear hk);(try clear hi))|(go_at_call 54;(with_reducible refine (spec_l1Cur_pick.calls g s0_0 t336 t337 (a2.size : Int) t338 t339 t340 w0 _ ?side1 ?side2 A8.out).mono ?_);(case side1 => repeat (first|(with_reducible first|exact HI0.out|apply IsS74.alloc|apply IsS74.drewN|apply IsS74.drew|apply IsS74.set_1|apply IsS74.set_2)|exact HI0.out));(case side2 => repeat (first|(with_reducible first|exact HB.out|apply lA|apply lN|apply lD|refine below_set ?_ (IsS74.ge HI0.out))|exact HB.out));rintro e w46 ⟨rfl,hi,hb,hk⟩;have n0_ := Aside0.mk (KeepBut.trans (by repeat (first|(with_reducible first|exact HK.out|apply KeepBut.set_|apply keep_drewN|apply keep_drew|apply keep_alloc)|exact HK.out)) hk (.inl rfl));have n1_ := Aside0.mk (hb);have n2_ := Aside0.mk (hi);clear HK;clear HB;clear HI0;have HK := n0_;have HB := n1_;have HI0 := n2_;clear n0_ n1_ n2_;(try clear hb);(try clear hb2);(try clear hk);(try clear hi))|(go_at_call 54;(with_reducible refine (spec_l1Cur_pick.calls g s0_0 t339 t340 3 t341 t342 t343 w0 _ ?side1 ?side2 A14.out).mono ?_);(case side1 => repeat (first|(with_reducible first|exact HI0.out|apply IsS74.alloc|apply IsS74.drewN|apply IsS74.drew|apply IsS74.set_1|apply IsS74.set_2)|exact HI0.out));(case side2 => repeat (first|(with_reducible first|exact HB.out|apply lA|apply lN|apply lD|refine below_set ?_ (IsS74.ge HI0.out))|exact HB.out));rintro e w47 ⟨rfl,hi,hb,hk⟩;have n0_ := Aside0.mk (KeepBut.trans (by repeat (first|(with_reducible first|exact HK.out|apply KeepBut.set_|apply keep_drewN|apply keep_drew|apply keep_alloc)|exact HK.out)) hk (.inl rfl));have n1_ := Aside0.mk (hb);have n2_ := Aside0.mk (hi);clear HK;clear HB;clear HI0;have HK := n0_;have HB := n1_;have HI0 := n2_;clear n0_ n1_ n2_;(try clear hb);(try clear hb2);(try clear hk);(try clear hi)));try go_wp2_with (first|(go_at_call 54;(with_reducible refine (spec_l1Cur_pick.calls g s0_0 s0_1 s0_2 (a1.size : Int) t335 t336 t337 w0 _ ?side1 ?side2 A7.out).mono ?_);(case side1 => repeat (first|(with_reducible first|exact HI0.out|apply IsS74.alloc|apply IsS74.drewN|apply IsS74.drew|apply IsS74.set_1|apply IsS74.set_2)|exact HI0.out));(case side2 => repeat (first|(with_reducible first|exact HB.out|apply lA|apply lN|apply lD|refine below_set ?_ (IsS74.ge HI0.out))|exact HB.out));rintro e w45 ⟨rfl,hi,hb,hk⟩;have n0_ := Aside0.mk (KeepBut.trans (by repeat (first|(with_reducible first|exact HK.out|apply KeepBut.set_|apply keep_drewN|apply keep_drew|apply keep_alloc)|exact HK.out)) hk (.inl rfl));have n1_ := Aside0.mk (hb);have n2_ := Aside0.mk (hi);clear HK;clear HB;clear HI0;have HK := n0_;have HB := n1_;have HI0 := n2_;clear n0_ n1_ n2_;(try clear hb);(try clear hb2);(try clear hk);(try clear hi))|(go_at_call 54;(with_reducible refine (spec_l1Cur_pick.calls g s0_0 t336 t337 (a2.size : Int) t338 t339 t340 w0 _ ?side1 ?side2 A8.out).mono ?_);(case side1 => repeat (first|(with_reducible first|exact HI0.out|apply IsS74.alloc|apply IsS74.drewN|apply IsS74.drew|apply IsS74.set_1|apply IsS74.set_2)|exact HI0.out));(case side2 => repeat (first|(with_reducible first|exact HB.out|apply lA|apply lN|apply lD|refine below_set ?_ (IsS74.ge HI0.out))|exact HB.out));rintro e w46 ⟨rfl,hi,hb,hk⟩;have n0_ := Aside0.mk (KeepBut.trans (by repeat (first|(with_reducible first|exact HK.out|apply KeepBut.set_|apply keep_drewN|apply keep_drew|apply keep_alloc)|exact HK.out)) hk (.inl rfl));have n1_ := Aside0.mk (hb);have n2_ := Aside0.mk (hi);clear HK;clear HB;clear HI0;have HK := n0_;have HB := n1_;have HI0 := n2_;clear n0_ n1_ n2_;(try clear hb);(try clear hb2);(try clear hk);(try clear hi))|(go_at_call 54;(with_reducible refine (spec_l1Cur_pick.calls g s0_0 t339 t340 3 t341 t342 t343 w0 _ ?side1 ?side2 A14.out).mono ?_);(case side1 => repeat (first|(with_reducible first|exact HI0.out|apply IsS74.alloc|apply IsS74.drewN|apply IsS74.drew|apply IsS74.set_1|apply IsS74.set_2)|exact HI0.out));(case side2 => repeat (first|(with_reducible first|exact HB.out|apply lA|apply lN|apply lD|refine below_set ?_ (IsS74.ge HI0.out))|exact HB.out));rintro e w47 ⟨rfl,hi,hb,hk⟩;have n0_ := Aside0.mk (KeepBut.trans (by repeat (first|(with_reducible first|exact HK.out|apply KeepBut.set_|apply keep_drewN|apply keep_drew|apply keep_alloc)|exact HK.out)) hk (.inl rfl));have n1_ := Aside0.mk (hb);have n2_ := Aside0.mk (hi);clear HK;clear HB;clear HI0;have HK := n0_;have HB := n1_;have HI0 := n2_;clear n0_ n1_ n2_;(try clear hb);(try clear hb2);(try clear hk);(try clear hi))))
             go_ret
             exact ⟨by first|rfl|(simp [errW_none,errW_some] <;> rfl)|(simp only [← hsj11,← hji40,← hsj43];first|rfl|(simp [errW_none,errW_some] <;> rfl))|(simp [*,errW_none,errW_some] <;> rfl),by repeat (first|(with_reducible first|exact HI0.out|apply IsS74.alloc|apply IsS74.drewN|apply IsS74.drew|apply IsS74.set_1|apply IsS74.set_2)|exact HI0.out),by repeat (first|(with_reducible first|exact HB.out|apply lA|apply lN|apply lD|refine below_set ?_ (IsS74.ge HI0.out))|exact HB.out),by repeat (first|(with_reducible first|exact HK.out|apply KeepBut.set_|apply keep_drewN|apply keep_drew|apply keep_alloc)|exact HK.out)⟩
            ·rw [if_neg c44] at H
             exact absurd H (by simp)
           ·rw [if_neg c42] at H
            exact absurd H (by simp)
          ·rw [if_neg c41] at H
           exact absurd H (by simp)
         ·rw [if_neg c39] at H
          exact absurd H (by simp)
        ·rw [if_neg c38] at H
         exact absurd H (by simp)
     ·rw [if_neg c13] at H
      exact absurd H (by simp)
    ·rw [if_neg c12] at H
     exact absurd H (by simp)
   ·rw [if_neg c10] at H
    exact absurd H (by simp)
  ·rw [if_neg c9] at H
   exact absurd H (by simp)
def spec_l1Cur_anyLog.f (k : Nat) (s0_0 : List Int) (s0_1 : Int) (s0_2 : Int) : Option (ByteArray × ByteArray × Int × Int × Int) := (spec_l1Cur_log.f k s0_0 s0_1 s0_2).bind fun bt345 => ((spec_l1Cur_pick.f s0_0 bt345.2.2.2.1 bt345.2.2.2.2 24).bind fun bt351 => (if bt351.1 = 0 then (some (bt345.1,bt345.2.1,wrap64 (bt345.2.2.1 + 1),bt351.2.1,bt351.2.2)) else (if bt351.1 = 1 then ((spec_l1Cur_spoilt.f s0_0 bt351.2.1 bt351.2.2 bt345.2.1 (⟨#[35,64,10,48,49]⟩ : ByteArray)).bind fun bt354 => (some (bt345.1,bt354.1,bt345.2.2.1,bt354.2.1,bt354.2.2))) else (if bt351.1 = 2 then (if bt345.1.size + bt345.2.1.size ≤ 9223372036854775807 then (some (bt345.1 ++ bt345.2.1,bt345.2.1,bt345.2.2.1,bt351.2.1,bt351.2.2)) else (none)) else (some (bt345.1,bt345.2.1,bt345.2.2.1,bt351.2.1,bt351.2.2))))))
theorem spec_l1Cur_anyLog.mono : ∀ a0 a1 a2 k,LeO (spec_l1Cur_anyLog.f k a0 a1 a2) (spec_l1Cur_anyLog.f (k + 1) a0 a1 a2) := by
 intro a0 a1 a2 k
 unfold spec_l1Cur_anyLog.f
 repeat' first
   | (with_reducible exact spec_l1Cur_log.mono _ _ _ _)
   | (with_reducible exact LeO.refl _)
   | (with_reducible exact LeO.none _)
   | (with_reducible refine LeO.ite ?_ ?_)
   | (with_reducible refine LeO.bind ?_ (fun _ => ?_))
   | exact spec_l1Cur_log.mono _ _ _ _
   | exact LeO.none _
   | refine LeO.ite ?_ ?_
   | refine LeO.bind ?_ (fun _ => ?_)
set_option maxHeartbeats 8000000 in
set_option maxRecDepth 100000 in
theorem spec_l1Cur_anyLog.calls (k : Nat) (g : Nat) (s0_0 : List Int) (s0_1 : Int) (s0_2 : Int) (r1 : ByteArray) (r2 : ByteArray) (r3 : Int) (r4 : Int) (r5 : Int) (w0 w : World) (hI : IsS74 w0 w g s0_0 s0_1 s0_2) (hB : Below w0.heap.size w0 w) (h : spec_l1Cur_anyLog.f k s0_0 s0_1 s0_2 = some (r1,r2,r3,r4,r5)) :
  Calls Tryd.prog 52 #[.pointer (some ⟨g,0,none⟩)] w fun e w' => e = .returned (.agg #[.string r1,.string r2,.int .i64 r3]) ∧ IsS74 w0 w' g s0_0 r4 r5 ∧ Below w0.heap.size w0 w' ∧ KeepBut w w' g none := by
 have hu31 := Tryd.underlying31
 have HI0 := Aside0.mk hI
 have HK := Aside0.mk (KeepBut.refl w g none)
 have HL := Aside0.mk hB.size
 clear hI
 have HW0 := Aside0.mk hB.size
 have HB := Aside0.mk hB
 clear hB
 have H : ((spec_l1Cur_log.f k s0_0 s0_1 s0_2).bind fun bt345 => ((spec_l1Cur_pick.f s0_0 bt345.2.2.2.1 bt345.2.2.2.2 24).bind fun bt351 => (if bt351.1 = 0 then (some (bt345.1,bt345.2.1,wrap64 (bt345.2.2.1 + 1),bt351.2.1,bt351.2.2)) else (if bt351.1 = 1 then ((spec_l1Cur_spoilt.f s0_0 bt351.2.1 bt351.2.2 bt345.2.1 (⟨#[35,64,10,48,49]⟩ : ByteArray)).bind fun bt354 => (some (bt345.1,bt354.1,bt345.2.2.1,bt354.2.1,bt354.2.2))) else (if bt351.1 = 2 then (if bt345.1.size + bt345.2.1.size ≤ 9223372036854775807 then (some (bt345.1 ++ bt345.2.1,bt345.2.1,bt345.2.2.1,bt351.2.1,bt351.2.2)) else (none)) else (some (bt345.1,bt345.2.1,bt345.2.2.1,bt351.2.1,bt351.2.2))))))) = some (r1,r2,r3,r4,r5) := h
 clear h
 replace H := Option.bind_eq_some_iff.mp H
 obtain ⟨⟨t345,t346,t347,t348,t349⟩,A20,H⟩ := H
 replace H : ((spec_l1Cur_pick.f s0_0 t348 t349 24).bind fun bt351 => (if bt351.1 = 0 then (some (t345,t346,wrap64 (t347 + 1),bt351.2.1,bt351.2.2)) else (if bt351.1 = 1 then ((spec_l1Cur_spoilt.f s0_0 bt351.2.1 bt351.2.2 t346 (⟨#[35,64,10,48,49]⟩ : ByteArray)).bind fun bt354 => (some (t345,bt354.1,t347,bt354.2.1,bt354.2.2))) else (if bt351.1 = 2 then (if t345.size + t346.size ≤ 9223372036854775807 then (some (t345 ++ t346,t346,t347,bt351.2.1,bt351.2.2)) else (none)) else (some (t345,t346,t347,bt351.2.1,bt351.2.2)))))) = some (r1,r2,r3,r4,r5) := H
 have A2 := Aside0.mk A20
 clear A20
 replace H := Option.bind_eq_some_iff.mp H
 obtain ⟨⟨t351,t352,t353⟩,A30,H⟩ := H
 replace H : (if t351 = 0 then (some (t345,t346,wrap64 (t347 + 1),t352,t353)) else (if t351 = 1 then ((spec_l1Cur_spoilt.f s0_0 t352 t353 t346 (⟨#[35,64,10,48,49]⟩ : ByteArray)).bind fun bt354 => (some (t345,bt354.1,t347,bt354.2.1,bt354.2.2))) else (if t351 = 2 then (if t345.size + t346.size ≤ 9223372036854775807 then (some (t345 ++ t346,t346,t347,t352,t353)) else (none)) else (some (t345,t346,t347,t352,t353))))) = some (r1,r2,r3,r4,r5) := H
 have A3 := Aside0.mk A30
 clear A30
 by_cases c4 : t351 = 0
 ·rw [if_pos c4] at H
  have c4b0 : (t351 == 0) = true := beq_iff_eq.mpr c4
  have c4b1 : (t351 != 0) = false := bne_eq_false_iff_eq.mpr c4
  clear c4
  simp only [Option.some.injEq,Prod.mk.injEq] at H
  obtain ⟨rfl,rfl,rfl,rfl,rfl⟩ := H
  go_enter Tryd.func52,Tryd.ntmps52
  go_wp2_with (first|((with_reducible refine gate_dst (N := 2) rfl ?_);refine box_event ?hg (N := 2) ?hd (cs := #[.string (⟨#[]⟩ : ByteArray),.string (⟨#[]⟩ : ByteArray),.int .i64 0]) (t := 31) ?hr ?_;(case hd => rfl);(case hg => rfl);(case hr => first|(go_simp;done)|(go_simp;rfl));intro gb344 hg w5 hbox hb;have n0_ := Aside0.mk (IsS74.below (by repeat (first|(with_reducible first|exact HI0.out|apply IsS74.alloc|apply IsS74.drewN|apply IsS74.drew|apply IsS74.set_1|apply IsS74.set_2)|exact HI0.out)) hb);have n1_ := Aside0.mk (KeepBut.trans (by repeat (first|(with_reducible first|exact HK.out|apply KeepBut.set_|apply keep_drewN|apply keep_drew|apply keep_alloc)|exact HK.out)) (KeepBut.of_below hb g none) (.inl rfl));have n2_ := Aside0.mk (below_step (by repeat (first|(with_reducible first|exact HB.out|apply lA|apply lN|apply lD|refine below_set ?_ (IsS74.ge HI0.out))|exact HB.out)) hb);have n3_ := Aside0.mk (hbox);have n4_ := Aside0.mk ((by rw [hg];exact (keep_size (w := w) (g := g) (row := none) (by repeat (first|(with_reducible first|exact HK.out|apply KeepBut.set_|apply keep_drewN|apply keep_drew|apply keep_alloc)|exact HK.out))) : w.heap.size ≤ gb344));have n5_ := Aside0.mk ((Nat.le_trans HW0.out (by rw [hg];exact (keep_size (w := w) (g := g) (row := none) (by repeat (first|(with_reducible first|exact HK.out|apply KeepBut.set_|apply keep_drewN|apply keep_drew|apply keep_alloc)|exact HK.out))) : w.heap.size ≤ gb344) : w0.heap.size ≤ gb344));have n6_ := Aside0.mk ((by rw [hg];exact Nat.ne_of_lt (IsS74.lt (show IsS74 w0 _ g s0_0 s0_1 s0_2 from by repeat (first|(with_reducible first|exact HI0.out|apply IsS74.alloc|apply IsS74.drewN|apply IsS74.drew|apply IsS74.set_1|apply IsS74.set_2)|exact HI0.out))) : g ≠ gb344));have n7_ := Aside0.mk ((by rw [hg];exact Nat.ne_of_gt (IsS74.lt (show IsS74 w0 _ g s0_0 s0_1 s0_2 from by repeat (first|(with_reducible first|exact HI0.out|apply IsS74.alloc|apply IsS74.drewN|apply IsS74.drew|apply IsS74.set_1|apply IsS74.set_2)|exact HI0.out))) : gb344 ≠ g));clear HI0;clear HK;clear HB;have HI0 := n0_;have HK := n1_;have HB := n2_;have BK344 := n3_;have GW344 := n4_;have GE344 := n5_;have NB0_344 := n6_;have NB344_0 := n7_;clear n0_ n1_ n2_ n3_ n4_ n5_ n6_ n7_;clear hb hbox hg)|((with_reducible refine gate_callee (f := 59) rfl ?_);refine goesL_ (some 5) rfl rfl Tryd.func59 (by kernel_rfl) rfl #[.pointer (some ⟨g,0,none⟩)] rfl (by (try simp only [List.map_toArray,List.map_cons,List.map_nil]);first|done|rfl|(simp only [List.length_drop,List.length_take];rfl)) ?_;(with_reducible refine (spec_l1Cur_log.calls k g s0_0 s0_1 s0_2 t345 t346 t347 t348 t349 w0 _ ?side1 ?side2 A2.out).mono ?_);(case side1 => repeat (first|(with_reducible first|exact HI0.out|apply IsS74.alloc|apply IsS74.drewN|apply IsS74.drew|apply IsS74.set_1|apply IsS74.set_2|refine IsS74.far ?_ NB0_344.out _)|exact HI0.out));(case side2 => repeat (first|(with_reducible first|exact HB.out|apply lA|apply lN|apply lD|refine below_set ?_ (IsS74.ge HI0.out)|refine below_set ?_ GE344.out)|exact HB.out));rintro e w6 ⟨rfl,hi,hb,hk⟩;refine ⟨_,rfl,?_⟩;have n0_ := Aside0.mk (KeepBut.blk hk (g' := gb344) (o := .cells #[.string (⟨#[]⟩ : ByteArray),.string (⟨#[]⟩ : ByteArray),.int .i64 0] 31 (0,0)) (by (with_reducible repeat (first|refine bN ?_ _|refine bD ?_|refine bA ?_ _));exact BK344.out) NB344_0.out (by simp));have n1_ := Aside0.mk (KeepBut.trans (by repeat (first|(with_reducible first|exact HK.out|apply KeepBut.set_|apply keep_drewN|apply keep_drew|apply keep_alloc|refine keep_far ?_ GW344.out _)|exact HK.out)) hk (.inl rfl));have n2_ := Aside0.mk (hb);have n3_ := Aside0.mk (hi);clear BK344;clear HK;clear HB;clear HI0;have BK344 := n0_;have HK := n1_;have HB := n2_;have HI0 := n3_;clear n0_ n1_ n2_ n3_;(try clear hb);(try clear hb2);(try clear hk);(try clear hi))|((with_reducible refine gate_dst (N := 3) rfl ?_);refine box_event ?hg (N := 3) ?hd (cs := #[.string (⟨#[]⟩ : ByteArray),.string (⟨#[]⟩ : ByteArray),.int .i64 0]) (t := 31) ?hr ?_;(case hd => rfl);(case hg => rfl);(case hr => first|(go_simp;done)|(go_simp;rfl));intro gb350 hg w7 hbox hb;have n0_ := Aside0.mk (IsS74.below (by repeat (first|(with_reducible first|exact HI0.out|apply IsS74.alloc|apply IsS74.drewN|apply IsS74.drew|apply IsS74.set_1|apply IsS74.set_2|refine IsS74.far ?_ NB0_344.out _)|exact HI0.out)) hb);have n1_ := Aside0.mk (blk_below (g := gb344) (o := .cells #[.string (⟨#[]⟩ : ByteArray),.string (⟨#[]⟩ : ByteArray),.int .i64 0] 31 (0,0)) (by (with_reducible repeat (first|refine bN ?_ _|refine bD ?_|refine bA ?_ _));exact BK344.out) hb);have n2_ := Aside0.mk (KeepBut.trans (by repeat (first|(with_reducible first|exact HK.out|apply KeepBut.set_|apply keep_drewN|apply keep_drew|apply keep_alloc|refine keep_far ?_ GW344.out _)|exact HK.out)) (KeepBut.of_below hb g none) (.inl rfl));have n3_ := Aside0.mk (below_step (by repeat (first|(with_reducible first|exact HB.out|apply lA|apply lN|apply lD|refine below_set ?_ (IsS74.ge HI0.out)|refine below_set ?_ GE344.out)|exact HB.out)) hb);have n4_ := Aside0.mk (hbox);have n5_ := Aside0.mk ((by rw [hg];exact (keep_size (w := w) (g := g) (row := none) (by repeat (first|(with_reducible first|exact HK.out|apply KeepBut.set_|apply keep_drewN|apply keep_drew|apply keep_alloc|refine keep_far ?_ GW344.out _)|exact HK.out))) : w.heap.size ≤ gb350));have n6_ := Aside0.mk ((Nat.le_trans HW0.out (by rw [hg];exact (keep_size (w := w) (g := g) (row := none) (by repeat (first|(with_reducible first|exact HK.out|apply KeepBut.set_|apply keep_drewN|apply keep_drew|apply keep_alloc|refine keep_far ?_ GW344.out _)|exact HK.out))) : w.heap.size ≤ gb350) : w0.heap.size ≤ gb350));have n7_ := Aside0.mk ((by rw [hg];exact Nat.ne_of_lt (blk_lt (g := gb344) (o := .cells #[.string (⟨#[]⟩ : ByteArray),.string (⟨#[]⟩ : ByteArray),.int .i64 0] 31 (0,0)) (by (with_reducible repeat (first|refine bN ?_ _|refine bD ?_|refine bA ?_ _));exact BK344.out)) : gb344 ≠ gb350));have n8_ := Aside0.mk ((by rw [hg];exact Nat.ne_of_gt (blk_lt (g := gb344) (o := .cells #[.string (⟨#[]⟩ : ByteArray),.string (⟨#[]⟩ : ByteArray),.int .i64 0] 31 (0,0)) (by (with_reducible repeat (first|refine bN ?_ _|refine bD ?_|refine bA ?_ _));exact BK344.out)) : gb350 ≠ gb344));have n9_ := Aside0.mk ((by rw [hg];exact Nat.ne_of_lt (IsS74.lt (show IsS74 w0 _ g s0_0 t348 t349 from by repeat (first|(with_reducible first|exact HI0.out|apply IsS74.alloc|apply IsS74.drewN|apply IsS74.drew|apply IsS74.set_1|apply IsS74.set_2|refine IsS74.far ?_ NB0_344.out _)|exact HI0.out))) : g ≠ gb350));have n10_ := Aside0.mk ((by rw [hg];exact Nat.ne_of_gt (IsS74.lt (show IsS74 w0 _ g s0_0 t348 t349 from by repeat (first|(with_reducible first|exact HI0.out|apply IsS74.alloc|apply IsS74.drewN|apply IsS74.drew|apply IsS74.set_1|apply IsS74.set_2|refine IsS74.far ?_ NB0_344.out _)|exact HI0.out))) : gb350 ≠ g));clear HI0;clear BK344;clear HK;clear HB;have HI0 := n0_;have BK344 := n1_;have HK := n2_;have HB := n3_;have BK350 := n4_;have GW350 := n5_;have GE350 := n6_;have NB344_350 := n7_;have NB350_344 := n8_;have NB0_350 := n9_;have NB350_0 := n10_;clear n0_ n1_ n2_ n3_ n4_ n5_ n6_ n7_ n8_ n9_ n10_;clear hb hbox hg;have hnb8 := NB350_344.out;have hnc8 := NB344_350.out;have hnb9 := NB350_0.out;have hnc9 := NB0_350.out;have hcz10_0 : w7.cell? ⟨gb350,0,none⟩ = some (.string (⟨#[]⟩ : ByteArray)) := (blk_cell BK350.out 0).trans rfl;have hcz10_1 : w7.cell? ⟨gb350,1,none⟩ = some (.string (⟨#[]⟩ : ByteArray)) := (blk_cell BK350.out 1).trans rfl;have hcz10_2 : w7.cell? ⟨gb350,2,none⟩ = some (.int .i64 0) := (blk_cell BK350.out 2).trans rfl;have hfz10_0 := blk_frozen BK350.out 0;have hfz10_1 := blk_frozen BK350.out 1;have hfz10_2 := blk_frozen BK350.out 2)|((with_reducible refine gate_callee (f := 54) rfl ?_);refine goesL_ (some 7) rfl rfl Tryd.func54 (by kernel_rfl) rfl #[.pointer (some ⟨g,0,none⟩),.int .i64 24] rfl (by (try simp only [List.map_toArray,List.map_cons,List.map_nil]);first|done|rfl|(simp only [List.length_drop,List.length_take];rfl)) ?_;(with_reducible refine (spec_l1Cur_pick.calls g s0_0 t348 t349 24 t351 t352 t353 w0 _ ?side1 ?side2 A3.out).mono ?_);(case side1 => repeat (first|(with_reducible first|exact HI0.out|apply IsS74.alloc|apply IsS74.drewN|apply IsS74.drew|apply IsS74.set_1|apply IsS74.set_2|refine IsS74.far ?_ NB0_344.out _|refine IsS74.far ?_ NB0_350.out _)|exact HI0.out));(case side2 => repeat (first|(with_reducible first|exact HB.out|apply lA|apply lN|apply lD|refine below_set ?_ (IsS74.ge HI0.out)|refine below_set ?_ GE344.out|refine below_set ?_ GE350.out)|exact HB.out));rintro e w11 ⟨rfl,hi,hb,hk⟩;refine ⟨_,rfl,?_⟩;have n0_ := Aside0.mk (KeepBut.blk hk (g' := gb344) (o := .cells #[.string (⟨#[]⟩ : ByteArray),.string (⟨#[]⟩ : ByteArray),.int .i64 0] 31 (0,0)) (by (with_reducible repeat (first|refine bN ?_ _|refine bD ?_|refine bA ?_ _));refine blk_far ?_ NB344_350.out _;(with_reducible repeat (first|refine bN ?_ _|refine bD ?_|refine bA ?_ _));refine blk_far ?_ NB344_350.out _;(with_reducible repeat (first|refine bN ?_ _|refine bD ?_|refine bA ?_ _));refine blk_far ?_ NB344_350.out _;(with_reducible repeat (first|refine bN ?_ _|refine bD ?_|refine bA ?_ _));exact BK344.out) NB344_0.out (by simp));have n1_ := Aside0.mk (KeepBut.blk hk (g' := gb350) (o := .cells #[.string t345,.string t346,.int .i64 t347] 31 (0,0)) (by (with_reducible repeat (first|refine bN ?_ _|refine bD ?_|refine bA ?_ _));refine blk_put (cs := #[.string t345,.string t346,.int .i64 0]) ?_ 2 _ rfl;(with_reducible repeat (first|refine bN ?_ _|refine bD ?_|refine bA ?_ _));refine blk_put (cs := #[.string t345,.string (⟨#[]⟩ : ByteArray),.int .i64 0]) ?_ 1 _ rfl;(with_reducible repeat (first|refine bN ?_ _|refine bD ?_|refine bA ?_ _));refine blk_put (cs := #[.string (⟨#[]⟩ : ByteArray),.string (⟨#[]⟩ : ByteArray),.int .i64 0]) ?_ 0 _ rfl;(with_reducible repeat (first|refine bN ?_ _|refine bD ?_|refine bA ?_ _));exact BK350.out) NB350_0.out (by simp));have n2_ := Aside0.mk (KeepBut.trans (by repeat (first|(with_reducible first|exact HK.out|apply KeepBut.set_|apply keep_drewN|apply keep_drew|apply keep_alloc|refine keep_far ?_ GW344.out _|refine keep_far ?_ GW350.out _)|exact HK.out)) hk (.inl rfl));have n3_ := Aside0.mk (hb);have n4_ := Aside0.mk (hi);clear BK344;clear BK350;clear HK;clear HB;clear HI0;have BK344 := n0_;have BK350 := n1_;have HK := n2_;have HB := n3_;have HI0 := n4_;clear n0_ n1_ n2_ n3_ n4_;(try clear hb);(try clear hb2);(try clear hk);(try clear hi);have hcz12_0 : w11.cell? ⟨gb350,0,none⟩ = some (.string t345) := (blk_cell BK350.out 0).trans rfl;have hcz12_1 : w11.cell? ⟨gb350,1,none⟩ = some (.string t346) := (blk_cell BK350.out 1).trans rfl;have hcz12_2 : w11.cell? ⟨gb350,2,none⟩ = some (.int .i64 t347) := (blk_cell BK350.out 2).trans rfl;have hfz12_0 := blk_frozen BK350.out 0;have hfz12_1 := blk_frozen BK350.out 1;have hfz12_2 := blk_frozen BK350.out 2;have hnb13 := NB344_0.out;have hnc13 := NB0_344.out;have hcz14_0 : w11.cell? ⟨gb344,0,none⟩ = some (.string (⟨#[]⟩ : ByteArray)) := (blk_cell BK344.out 0).trans rfl;have hcz14_1 : w11.cell? ⟨gb344,1,none⟩ = some (.string (⟨#[]⟩ : ByteArray)) := (blk_cell BK344.out 1).trans rfl;have hcz14_2 : w11.cell? ⟨gb344,2,none⟩ = some (.int .i64 0) := (blk_cell BK344.out 2).trans rfl;have hfz14_0 := blk_frozen BK344.out 0;have hfz14_1 := blk_frozen BK344.out 1;have hfz14_2 := blk_frozen BK344.out 2))
  refine bodyPost_ret (results_cell_row rfl _ _ gb344 31 #[.string t345,.string t346,.int .i64 (wrap64 (t347 + 1))] (0,0) _ rfl (by (with_reducible repeat (first|refine bN ?_ _|refine bD ?_|refine bA ?_ _));refine blk_put (cs := #[.string t345,.string t346,.int .i64 0]) ?_ 2 _ rfl;(with_reducible repeat (first|refine bN ?_ _|refine bD ?_|refine bA ?_ _));refine blk_put (cs := #[.string t345,.string (⟨#[]⟩ : ByteArray),.int .i64 0]) ?_ 1 _ rfl;(with_reducible repeat (first|refine bN ?_ _|refine bD ?_|refine bA ?_ _));refine blk_put (cs := #[.string (⟨#[]⟩ : ByteArray),.string (⟨#[]⟩ : ByteArray),.int .i64 0]) ?_ 0 _ rfl;(with_reducible repeat (first|refine bN ?_ _|refine bD ?_|refine bA ?_ _));refine blk_far ?_ NB344_350.out _;(with_reducible repeat (first|refine bN ?_ _|refine bD ?_|refine bA ?_ _));exact BK344.out) Tryd.underlying31 rfl (by kernel_rfl)) rfl ?_
  exact ⟨by first|rfl|(simp [errW_none,errW_some] <;> rfl)|(simp [*,errW_none,errW_some] <;> rfl),by repeat (first|(with_reducible first|exact HI0.out|apply IsS74.alloc|apply IsS74.drewN|apply IsS74.drew|apply IsS74.set_1|apply IsS74.set_2|refine IsS74.far ?_ NB0_344.out _|refine IsS74.far ?_ NB0_350.out _)|exact HI0.out),by repeat (first|(with_reducible first|exact HB.out|apply lA|apply lN|apply lD|refine below_set ?_ (IsS74.ge HI0.out)|refine below_set ?_ GE344.out|refine below_set ?_ GE350.out)|exact HB.out),by repeat (first|(with_reducible first|exact HK.out|apply KeepBut.set_|apply keep_drewN|apply keep_drew|apply keep_alloc|refine keep_far ?_ GW344.out _|refine keep_far ?_ GW350.out _)|exact HK.out)⟩
 ·rw [if_neg c4] at H
  have c4b0 : (t351 == 0) = false := beq_eq_false_iff_ne.mpr c4
  have c4b1 : (t351 != 0) = true := bne_iff_ne.mpr c4
  by_cases c15 : t351 = 1
  ·rw [if_pos c15] at H
   have c15b0 : (t351 == 1) = true := beq_iff_eq.mpr c15
   have c15b1 : (t351 != 1) = false := bne_eq_false_iff_eq.mpr c15
   clear c15
   replace H := Option.bind_eq_some_iff.mp H
   obtain ⟨⟨t354,t355,t356⟩,A160,H⟩ := H
   replace H : (some (t345,t354,t347,t355,t356)) = some (r1,r2,r3,r4,r5) := H
   have A16 := Aside0.mk A160
   clear A160
   simp only [Option.some.injEq,Prod.mk.injEq] at H
   obtain ⟨rfl,rfl,rfl,rfl,rfl⟩ := H
   go_enter Tryd.func52,Tryd.ntmps52
   go_wp2_with (first|((with_reducible refine gate_dst (N := 2) rfl ?_);refine box_event ?hg (N := 2) ?hd (cs := #[.string (⟨#[]⟩ : ByteArray),.string (⟨#[]⟩ : ByteArray),.int .i64 0]) (t := 31) ?hr ?_;(case hd => rfl);(case hg => rfl);(case hr => first|(go_simp;done)|(go_simp;rfl));intro gb344 hg w17 hbox hb;have n0_ := Aside0.mk (IsS74.below (by repeat (first|(with_reducible first|exact HI0.out|apply IsS74.alloc|apply IsS74.drewN|apply IsS74.drew|apply IsS74.set_1|apply IsS74.set_2)|exact HI0.out)) hb);have n1_ := Aside0.mk (KeepBut.trans (by repeat (first|(with_reducible first|exact HK.out|apply KeepBut.set_|apply keep_drewN|apply keep_drew|apply keep_alloc)|exact HK.out)) (KeepBut.of_below hb g none) (.inl rfl));have n2_ := Aside0.mk (below_step (by repeat (first|(with_reducible first|exact HB.out|apply lA|apply lN|apply lD|refine below_set ?_ (IsS74.ge HI0.out))|exact HB.out)) hb);have n3_ := Aside0.mk (hbox);have n4_ := Aside0.mk ((by rw [hg];exact (keep_size (w := w) (g := g) (row := none) (by repeat (first|(with_reducible first|exact HK.out|apply KeepBut.set_|apply keep_drewN|apply keep_drew|apply keep_alloc)|exact HK.out))) : w.heap.size ≤ gb344));have n5_ := Aside0.mk ((Nat.le_trans HW0.out (by rw [hg];exact (keep_size (w := w) (g := g) (row := none) (by repeat (first|(with_reducible first|exact HK.out|apply KeepBut.set_|apply keep_drewN|apply keep_drew|apply keep_alloc)|exact HK.out))) : w.heap.size ≤ gb344) : w0.heap.size ≤ gb344));have n6_ := Aside0.mk ((by rw [hg];exact Nat.ne_of_lt (IsS74.lt (show IsS74 w0 _ g s0_0 s0_1 s0_2 from by repeat (first|(with_reducible first|exact HI0.out|apply IsS74.alloc|apply IsS74.drewN|apply IsS74.drew|apply IsS74.set_1|apply IsS74.set_2)|exact HI0.out))) : g ≠ gb344));have n7_ := Aside0.mk ((by rw [hg];exact Nat.ne_of_gt (IsS74.lt (show IsS74 w0 _ g s0_0 s0_1 s0_2 from by repeat (first|(with_reducible first|exact HI0.out|apply IsS74.alloc|apply IsS74.drewN|apply IsS74.drew|apply IsS74.set_1|apply IsS74.set_2)|exact HI0.out))) : gb344 ≠ g));clear HI0;clear HK;clear HB;have HI0 := n0_;have HK := n1_;have HB := n2_;have BK344 := n3_;have GW344 := n4_;have GE344 := n5_;have NB0_344 := n6_;have NB344_0 := n7_;clear n0_ n1_ n2_ n3_ n4_ n5_ n6_ n7_;clear hb hbox hg)|((with_reducible refine gate_callee (f := 59) rfl ?_);refine goesL_ (some 5) rfl rfl Tryd.func59 (by kernel_rfl) rfl #[.pointer (some ⟨g,0,none⟩)] rfl (by (try simp only [List.map_toArray,List.map_cons,List.map_nil]);first|done|rfl|(simp only [List.length_drop,List.length_take];rfl)) ?_;(with_reducible refine (spec_l1Cur_log.calls k g s0_0 s0_1 s0_2 t345 t346 t347 t348 t349 w0 _ ?side1 ?side2 A2.out).mono ?_);(case side1 => repeat (first|(with_reducible first|exact HI0.out|apply IsS74.alloc|apply IsS74.drewN|apply IsS74.drew|apply IsS74.set_1|apply IsS74.set_2|refine IsS74.far ?_ NB0_344.out _)|exact HI0.out));(case side2 => repeat (first|(with_reducible first|exact HB.out|apply lA|apply lN|apply lD|refine below_set ?_ (IsS74.ge HI0.out)|refine below_set ?_ GE344.out)|exact HB.out));rintro e w18 ⟨rfl,hi,hb,hk⟩;refine ⟨_,rfl,?_⟩;have n0_ := Aside0.mk (KeepBut.blk hk (g' := gb344) (o := .cells #[.string (⟨#[]⟩ : ByteArray),.string (⟨#[]⟩ : ByteArray),.int .i64 0] 31 (0,0)) (by (with_reducible repeat (first|refine bN ?_ _|refine bD ?_|refine bA ?_ _));exact BK344.out) NB344_0.out (by simp));have n1_ := Aside0.mk (KeepBut.trans (by repeat (first|(with_reducible first|exact HK.out|apply KeepBut.set_|apply keep_drewN|apply keep_drew|apply keep_alloc|refine keep_far ?_ GW344.out _)|exact HK.out)) hk (.inl rfl));have n2_ := Aside0.mk (hb);have n3_ := Aside0.mk (hi);clear BK344;clear HK;clear HB;clear HI0;have BK344 := n0_;have HK := n1_;have HB := n2_;have HI0 := n3_;clear n0_ n1_ n2_ n3_;(try clear hb);(try clear hb2);(try clear hk);(try clear hi))|((with_reducible refine gate_dst (N := 3) rfl ?_);refine box_event ?hg (N := 3) ?hd (cs := #[.string (⟨#[]⟩ : ByteArray),.string (⟨#[]⟩ : ByteArray),.int .i64 0]) (t := 31) ?hr ?_;(case hd => rfl);(case hg => rfl);(case hr => first|(go_simp;done)|(go_simp;rfl));intro gb350 hg w19 hbox hb;have n0_ := Aside0.mk (IsS74.below (by repeat (first|(with_reducible first|exact HI0.out|apply IsS74.alloc|apply IsS74.drewN|apply IsS74.drew|apply IsS74.set_1|apply IsS74.set_2|refine IsS74.far ?_ NB0_344.out _)|exact HI0.out)) hb);have n1_ := Aside0.mk (blk_below (g := gb344) (o := .cells #[.string (⟨#[]⟩ : ByteArray),.string (⟨#[]⟩ : ByteArray),.int .i64 0] 31 (0,0)) (by (with_reducible repeat (first|refine bN ?_ _|refine bD ?_|refine bA ?_ _));exact BK344.out) hb);have n2_ := Aside0.mk (KeepBut.trans (by repeat (first|(with_reducible first|exact HK.out|apply KeepBut.set_|apply keep_drewN|apply keep_drew|apply keep_alloc|refine keep_far ?_ GW344.out _)|exact HK.out)) (KeepBut.of_below hb g none) (.inl rfl));have n3_ := Aside0.mk (below_step (by repeat (first|(with_reducible first|exact HB.out|apply lA|apply lN|apply lD|refine below_set ?_ (IsS74.ge HI0.out)|refine below_set ?_ GE344.out)|exact HB.out)) hb);have n4_ := Aside0.mk (hbox);have n5_ := Aside0.mk ((by rw [hg];exact (keep_size (w := w) (g := g) (row := none) (by repeat (first|(with_reducible first|exact HK.out|apply KeepBut.set_|apply keep_drewN|apply keep_drew|apply keep_alloc|refine keep_far ?_ GW344.out _)|exact HK.out))) : w.heap.size ≤ gb350));have n6_ := Aside0.mk ((Nat.le_trans HW0.out (by rw [hg];exact (keep_size (w := w) (g := g) (row := none) (by repeat (first|(with_reducible first|exact HK.out|apply KeepBut.set_|apply keep_drewN|apply keep_drew|apply keep_alloc|refine keep_far ?_ GW344.out _)|exact HK.out))) : w.heap.size ≤ gb350) : w0.heap.size ≤ gb350));have n7_ := Aside0.mk ((by rw [hg];exact Nat.ne_of_lt (blk_lt (g := gb344) (o := .cells #[.string (⟨#[]⟩ : ByteArray),.string (⟨#[]⟩ : ByteArray),.int .i64 0] 31 (0,0)) (by (with_reducible repeat (first|refine bN ?_ _|refine bD ?_|refine bA ?_ _));exact BK344.out)) : gb344 ≠ gb350));have n8_ := Aside0.mk ((by rw [hg];exact Nat.ne_of_gt (blk_lt (g := gb344) (o := .cells #[.string (⟨#[]⟩ : ByteArray),.string (⟨#[]⟩ : ByteArray),.int .i64 0] 31 (0,0)) (by (with_reducible repeat (first|refine bN ?_ _|refine bD ?_|refine bA ?_ _));exact BK344.out)) : gb350 ≠ gb344));have n9_ := Aside0.mk ((by rw [hg];exact Nat.ne_of_lt (IsS74.lt (show IsS74 w0 _ g s0_0 t348 t349 from by repeat (first|(with_reducible first|exact HI0.out|apply IsS74.alloc|apply IsS74.drewN|apply IsS74.drew|apply IsS74.set_1|apply IsS74.set_2|refine IsS74.far ?_ NB0_344.out _)|exact HI0.out))) : g ≠ gb350));have n10_ := Aside0.mk ((by rw [hg];exact Nat.ne_of_gt (IsS74.lt (show IsS74 w0 _ g s0_0 t348 t349 from by repeat (first|(with_reducible first|exact HI0.out|apply IsS74.alloc|apply IsS74.drewN|apply IsS74.drew|apply IsS74.set_1|apply IsS74.set_2|refine IsS74.far ?_ NB0_344.out _)|exact HI0.out))) : gb350 ≠ g));clear HI0;clear BK344;clear HK;clear HB;have HI0 := n0_;have BK344 := n1_;have HK := n2_;have HB := n3_;have BK350 := n4_;have GW350 := n5_;have GE350 := n6_;have NB344_350 := n7_;have NB350_344 := n8_;have NB0_350 := n9_;have NB350_0 := n10_;clear n0_ n1_ n2_ n3_ n4_ n5_ n6_ n7_ n8_ n9_ n10_;clear hb hbox hg;have hnb20 := NB350_344.out;have hnc20 := NB344_350.out;have hnb21 := NB350_0.out;have hnc21 := NB0_350.out;have hcz22_0 : w19.cell? ⟨gb350,0,none⟩ = some (.string (⟨#[]⟩ : ByteArray)) := (blk_cell BK350.out 0).trans rfl;have hcz22_1 : w19.cell? ⟨gb350,1,none⟩ = some (.string (⟨#[]⟩ : ByteArray)) := (blk_cell BK350.out 1).trans rfl;have hcz22_2 : w19.cell? ⟨gb350,2,none⟩ = some (.int .i64 0) := (blk_cell BK350.out 2).trans rfl;have hfz22_0 := blk_frozen BK350.out 0;have hfz22_1 := blk_frozen BK350.out 1;have hfz22_2 := blk_frozen BK350.out 2)|((with_reducible refine gate_callee (f := 54) rfl ?_);refine goesL_ (some 7) rfl rfl Tryd.func54 (by kernel_rfl) rfl #[.pointer (some ⟨g,0,none⟩),.int .i64 24] rfl (by (try simp only [List.map_toArray,List.map_cons,List.map_nil]);first|done|rfl|(simp only [List.length_drop,List.length_take];rfl)) ?_;(with_reducible refine (spec_l1Cur_pick.calls g s0_0 t348 t349 24 t351 t352 t353 w0 _ ?side1 ?side2 A3.out).mono ?_);(case side1 => repeat (first|(with_reducible first|exact HI0.out|apply IsS74.alloc|apply IsS74.drewN|apply IsS74.drew|apply IsS74.set_1|apply IsS74.set_2|refine IsS74.far ?_ NB0_344.out _|refine IsS74.far ?_ NB0_350.out _)|exact HI0.out));(case side2 => repeat (first|(with_reducible first|exact HB.out|apply lA|apply lN|apply lD|refine below_set ?_ (IsS74.ge HI0.out)|refine below_set ?_ GE344.out|refine below_set ?_ GE350.out)|exact HB.out));rintro e w23 ⟨rfl,hi,hb,hk⟩;refine ⟨_,rfl,?_⟩;have n0_ := Aside0.mk (KeepBut.blk hk (g' := gb344) (o := .cells #[.string (⟨#[]⟩ : ByteArray),.string (⟨#[]⟩ : ByteArray),.int .i64 0] 31 (0,0)) (by (with_reducible repeat (first|refine bN ?_ _|refine bD ?_|refine bA ?_ _));refine blk_far ?_ NB344_350.out _;(with_reducible repeat (first|refine bN ?_ _|refine bD ?_|refine bA ?_ _));refine blk_far ?_ NB344_350.out _;(with_reducible repeat (first|refine bN ?_ _|refine bD ?_|refine bA ?_ _));refine blk_far ?_ NB344_350.out _;(with_reducible repeat (first|refine bN ?_ _|refine bD ?_|refine bA ?_ _));exact BK344.out) NB344_0.out (by simp));have n1_ := Aside0.mk (KeepBut.blk hk (g' := gb350) (o := .cells #[.string t345,.string t346,.int .i64 t347] 31 (0,0)) (by (with_reducible repeat (first|refine bN ?_ _|refine bD ?_|refine bA ?_ _));refine blk_put (cs := #[.string t345,.string t346,.int .i64 0]) ?_ 2 _ rfl;(with_reducible repeat (first|refine bN ?_ _|refine bD ?_|refine bA ?_ _));refine blk_put (cs := #[.string t345,.string (⟨#[]⟩ : ByteArray),.int .i64 0]) ?_ 1 _ rfl;(with_reducible repeat (first|refine bN ?_ _|refine bD ?_|refine bA ?_ _));refine blk_put (cs := #[.string (⟨#[]⟩ : ByteArray),.string (⟨#[]⟩ : ByteArray),.int .i64 0]) ?_ 0 _ rfl;(with_reducible repeat (first|refine bN ?_ _|refine bD ?_|refine bA ?_ _));exact BK350.out) NB350_0.out (by simp));have n2_ := Aside0.mk (KeepBut.trans (by repeat (first|(with_reducible first|exact HK.out|apply KeepBut.set_|apply keep_drewN|apply keep_drew|apply keep_alloc|refine keep_far ?_ GW344.out _|refine keep_far ?_ GW350.out _)|exact HK.out)) hk (.inl rfl));have n3_ := Aside0.mk (hb);have n4_ := Aside0.mk (hi);clear BK344;clear BK350;clear HK;clear HB;clear HI0;have BK344 := n0_;have BK350 := n1_;have HK := n2_;have HB := n3_;have HI0 := n4_;clear n0_ n1_ n2_ n3_ n4_;(try clear hb);(try clear hb2);(try clear hk);(try clear hi);have hcz24_0 : w23.cell? ⟨gb350,0,none⟩ = some (.string t345) := (blk_cell BK350.out 0).trans rfl;have hcz24_1 : w23.cell? ⟨gb350,1,none⟩ = some (.string t346) := (blk_cell BK350.out 1).trans rfl;have hcz24_2 : w23.cell? ⟨gb350,2,none⟩ = some (.int .i64 t347) := (blk_cell BK350.out 2).trans rfl;have hfz24_0 := blk_frozen BK350.out 0;have hfz24_1 := blk_frozen BK350.out 1;have hfz24_2 := blk_frozen BK350.out 2)|((with_reducible refine gate_callee (f := 60) rfl ?_);refine goesL_ (some 19) rfl rfl Tryd.func60 (by kernel_rfl) rfl #[.pointer (some ⟨g,0,none⟩),.string t346,.string (⟨#[35,64,10,48,49]⟩ : ByteArray)] rfl (by (try simp only [List.map_toArray,List.map_cons,List.map_nil]);first|done|rfl|(simp only [List.length_drop,List.length_take];rfl)) ?_;(with_reducible refine (spec_l1Cur_spoilt.calls g s0_0 t352 t353 t346 (⟨#[35,64,10,48,49]⟩ : ByteArray) t354 t355 t356 w0 _ ?side1 ?side2 A16.out).mono ?_);(case side1 => repeat (first|(with_reducible first|exact HI0.out|apply IsS74.alloc|apply IsS74.drewN|apply IsS74.drew|apply IsS74.set_1|apply IsS74.set_2|refine IsS74.far ?_ NB0_344.out _|refine IsS74.far ?_ NB0_350.out _)|exact HI0.out));(case side2 => repeat (first|(with_reducible first|exact HB.out|apply lA|apply lN|apply lD|refine below_set ?_ (IsS74.ge HI0.out)|refine below_set ?_ GE344.out|refine below_set ?_ GE350.out)|exact HB.out));rintro e w25 ⟨rfl,hi,hb,hk⟩;refine ⟨_,rfl,?_⟩;have n0_ := Aside0.mk (KeepBut.blk hk (g' := gb344) (o := .cells #[.string (⟨#[]⟩ : ByteArray),.string (⟨#[]⟩ : ByteArray),.int .i64 0] 31 (0,0)) (by (with_reducible repeat (first|refine bN ?_ _|refine bD ?_|refine bA ?_ _));exact BK344.out) NB344_0.out (by simp));have n1_ := Aside0.mk (KeepBut.blk hk (g' := gb350) (o := .cells #[.string t345,.string t346,.int .i64 t347] 31 (0,0)) (by (with_reducible repeat (first|refine bN ?_ _|refine bD ?_|refine bA ?_ _));exact BK350.out) NB350_0.out (by simp));have n2_ := Aside0.mk (KeepBut.trans (by repeat (first|(with_reducible first|exact HK.out|apply KeepBut.set_|apply keep_drewN|apply keep_drew|apply keep_alloc|refine keep_far ?_ GW344.out _|refine keep_far ?_ GW350.out _)|exact HK.out)) hk (.inl rfl));have n3_ := Aside0.mk (hb);have n4_ := Aside0.mk (hi);clear BK344;clear BK350;clear HK;clear HB;clear HI0;have BK344 := n0_;have BK350 := n1_;have HK := n2_;have HB := n3_;have HI0 := n4_;clear n0_ n1_ n2_ n3_ n4_;(try clear hb);(try clear hb2);(try clear hk);(try clear hi);have hcz26_0 : w25.cell? ⟨gb350,0,none⟩ = some (.string t345) := (blk_cell BK350.out 0).trans rfl;have hcz26_1 : w25.cell? ⟨gb350,1,none⟩ = some (.string t346) := (blk_cell BK350.out 1).trans rfl;have hcz26_2 : w25.cell? ⟨gb350,2,none⟩ = some (.int .i64 t347) := (blk_cell BK350.out 2).trans rfl;have hfz26_0 := blk_frozen BK350.out 0;have hfz26_1 := blk_frozen BK350.out 1;have hfz26_2 := blk_frozen BK350.out 2;have hnb27 := NB344_0.out;have hnc27 := NB0_344.out;have hcz28_0 : w25.cell? ⟨gb344,0,none⟩ = some (.string (⟨#[]⟩ : ByteArray)) := (blk_cell BK344.out 0).trans rfl;have hcz28_1 : w25.cell? ⟨gb344,1,none⟩ = some (.string (⟨#[]⟩ : ByteArray)) := (blk_cell BK344.out 1).trans rfl;have hcz28_2 : w25.cell? ⟨gb344,2,none⟩ = some (.int .i64 0) := (blk_cell BK344.out 2).trans rfl;have hfz28_0 := blk_frozen BK344.out 0;have hfz28_1 := blk_frozen BK344.out 1;have hfz28_2 := blk_frozen BK344.out 2))
   refine bodyPost_ret (results_cell_row rfl _ _ gb344 31 #[.string t345,.string t354,.int .i64 t347] (0,0) _ rfl (by (with_reducible repeat (first|refine bN ?_ _|refine bD ?_|refine bA ?_ _));refine blk_put (cs := #[.string t345,.string t354,.int .i64 0]) ?_ 2 _ rfl;(with_reducible repeat (first|refine bN ?_ _|refine bD ?_|refine bA ?_ _));refine blk_put (cs := #[.string t345,.string (⟨#[]⟩ : ByteArray),.int .i64 0]) ?_ 1 _ rfl;(with_reducible repeat (first|refine bN ?_ _|refine bD ?_|refine bA ?_ _));refine blk_put (cs := #[.string (⟨#[]⟩ : ByteArray),.string (⟨#[]⟩ : ByteArray),.int .i64 0]) ?_ 0 _ rfl;(with_reducible repeat (first|refine bN ?_ _|refine bD ?_|refine bA ?_ _));refine blk_far ?_ NB344_350.out _;(with_reducible repeat (first|refine bN ?_ _|refine bD ?_|refine bA ?_ _));exact BK344.out) Tryd.underlying31 rfl (by kernel_rfl)) rfl ?_
   exact ⟨by first|rfl|(simp [errW_none,errW_some] <;> rfl)|(simp [*,errW_none,errW_some] <;> rfl),by repeat (first|(with_reducible first|exact HI0.out|apply IsS74.alloc|apply IsS74.drewN|apply IsS74.drew|apply IsS74.set_1|apply IsS74.set_2|refine IsS74.far ?_ NB0_344.out _|refine IsS74.far ?_ NB0_350.out _)|exact HI0.out),by repeat (first|(with_reducible first|exact HB.out|apply lA|apply lN|apply lD|refine below_set ?_ (IsS74.ge HI0.out)|refine below_set ?_ GE344.out|refine below_set ?_ GE350.out)|exact HB.out),by repeat (first|(with_reducible first|exact HK.out|apply KeepBut.set_|apply keep_drewN|apply keep_drew|apply keep_alloc|refine keep_far ?_ GW344.out _|refine keep_far ?_ GW350.out _)|exact HK.out)⟩
  ·rw [if_neg c15] at H
   have c15b0 : (t351 == 1) = false := beq_eq_false_iff_ne.mpr c15
   have c15b1 : (t351 != 1) = true := bne_iff_ne.mpr c15
   by_cases c29 : t351 = 2
   ·rw [if_pos c29] at H
    have c29b0 : (t351 == 2) = true := beq_iff_eq.mpr c29
    have c29b1 : (t351 != 2) = false := bne_eq_false_iff_eq.mpr c29
    clear c29
    by_cases c30 : t345.size + t346.size ≤ 9223372036854775807
    ·rw [if_pos c30] at H
     have c30b0 := eq_true c30
     have c30b1 : decide (t345.size + t346.size ≤ 9223372036854775807) = true := decide_eq_true c30
     try have c30b2 : (9223372036854775807 < t345.size + t346.size) = False := eq_false (Nat.not_lt.2 c30)
     simp only [Option.some.injEq,Prod.mk.injEq] at H
     obtain ⟨rfl,rfl,rfl,rfl,rfl⟩ := H
     go_enter Tryd.func52,Tryd.ntmps52
     go_wp2_with (first|((with_reducible refine gate_dst (N := 2) rfl ?_);refine box_event ?hg (N := 2) ?hd (cs := #[.string (⟨#[]⟩ : ByteArray),.string (⟨#[]⟩ : ByteArray),.int .i64 0]) (t := 31) ?hr ?_;(case hd => rfl);(case hg => rfl);(case hr => first|(go_simp;done)|(go_simp;rfl));intro gb344 hg w31 hbox hb;have n0_ := Aside0.mk (IsS74.below (by repeat (first|(with_reducible first|exact HI0.out|apply IsS74.alloc|apply IsS74.drewN|apply IsS74.drew|apply IsS74.set_1|apply IsS74.set_2)|exact HI0.out)) hb);have n1_ := Aside0.mk (KeepBut.trans (by repeat (first|(with_reducible first|exact HK.out|apply KeepBut.set_|apply keep_drewN|apply keep_drew|apply keep_alloc)|exact HK.out)) (KeepBut.of_below hb g none) (.inl rfl));have n2_ := Aside0.mk (below_step (by repeat (first|(with_reducible first|exact HB.out|apply lA|apply lN|apply lD|refine below_set ?_ (IsS74.ge HI0.out))|exact HB.out)) hb);have n3_ := Aside0.mk (hbox);have n4_ := Aside0.mk ((by rw [hg];exact (keep_size (w := w) (g := g) (row := none) (by repeat (first|(with_reducible first|exact HK.out|apply KeepBut.set_|apply keep_drewN|apply keep_drew|apply keep_alloc)|exact HK.out))) : w.heap.size ≤ gb344));have n5_ := Aside0.mk ((Nat.le_trans HW0.out (by rw [hg];exact (keep_size (w := w) (g := g) (row := none) (by repeat (first|(with_reducible first|exact HK.out|apply KeepBut.set_|apply keep_drewN|apply keep_drew|apply keep_alloc)|exact HK.out))) : w.heap.size ≤ gb344) : w0.heap.size ≤ gb344));have n6_ := Aside0.mk ((by rw [hg];exact Nat.ne_of_lt (IsS74.lt (show IsS74 w0 _ g s0_0 s0_1 s0_2 from by repeat (first|(with_reducible first|exact HI0.out|apply IsS74.alloc|apply IsS74.drewN|apply IsS74.drew|apply IsS74.set_1|apply IsS74.set_2)|exact HI0.out))) : g ≠ gb344));have n7_ := Aside0.mk ((by rw [hg];exact Nat.ne_of_gt (IsS74.lt (show IsS74 w0 _ g s0_0 s0_1 s0_2 from by repeat (first|(with_reducible first|exact HI0.out|apply IsS74.alloc|apply IsS74.drewN|apply IsS74.drew|apply IsS74.set_1|apply IsS74.set_2)|exact HI0.out))) : gb344 ≠ g));clear HI0;clear HK;clear HB;have HI0 := n0_;have HK := n1_;have HB := n2_;have BK344 := n3_;have GW344 := n4_;have GE344 := n5_;have NB0_344 := n6_;have NB344_0 := n7_;clear n0_ n1_ n2_ n3_ n4_ n5_ n6_ n7_;clear hb hbox hg)|((with_reducible refine gate_callee (f := 59) rfl ?_);refine goesL_ (some 5) rfl rfl Tryd.func59 (by kernel_rfl) rfl #[.pointer (some ⟨g,0,none⟩)] rfl (by (try simp only [List.map_toArray,List.map_cons,List.map_nil]);first|done|rfl|(simp only [List.length_drop,List.length_take];rfl)) ?_;(with_reducible refine (spec_l1Cur_log.calls k g s0_0 s0_1 s0_2 t345 t346 t347 t348 t349 w0 _ ?side1 ?side2 A2.out).mono ?_);(case side1 => repeat (first|(with_reducible first|exact HI0.out|apply IsS74.alloc|apply IsS74.drewN|apply IsS74.drew|apply IsS74.set_1|apply IsS74.set_2|refine IsS74.far ?_ NB0_344.out _)|exact HI0.out));(case side2 => repeat (first|(with_reducible first|exact HB.out|apply lA|apply lN|apply lD|refine below_set ?_ (IsS74.ge HI0.out)|refine below_set ?_ GE344.out)|exact HB.out));rintro e w32 ⟨rfl,hi,hb,hk⟩;refine ⟨_,rfl,?_⟩;have n0_ := Aside0.mk (KeepBut.blk hk (g' := gb344) (o := .cells #[.string (⟨#[]⟩ : ByteArray),.string (⟨#[]⟩ : ByteArray),.int .i64 0] 31 (0,0)) (by (with_reducible repeat (first|refine bN ?_ _|refine bD ?_|refine bA ?_ _));exact BK344.out) NB344_0.out (by simp));have n1_ := Aside0.mk (KeepBut.trans (by repeat (first|(with_reducible first|exact HK.out|apply KeepBut.set_|apply keep_drewN|apply keep_drew|apply keep_alloc|refine keep_far ?_ GW344.out _)|exact HK.out)) hk (.inl rfl));have n2_ := Aside0.mk (hb);have n3_ := Aside0.mk (hi);clear BK344;clear HK;clear HB;clear HI0;have BK344 := n0_;have HK := n1_;have HB := n2_;have HI0 := n3_;clear n0_ n1_ n2_ n3_;(try clear hb);(try clear hb2);(try clear hk);(try clear hi))|((with_reducible refine gate_dst (N := 3) rfl ?_);refine box_event ?hg (N := 3) ?hd (cs := #[.string (⟨#[]⟩ : ByteArray),.string (⟨#[]⟩ : ByteArray),.int .i64 0]) (t := 31) ?hr ?_;(case hd => rfl);(case hg => rfl);(case hr => first|(go_simp;done)|(go_simp;rfl));intro gb350 hg w33 hbox hb;have n0_ := Aside0.mk (IsS74.below (by repeat (first|(with_reducible first|exact HI0.out|apply IsS74.alloc|apply IsS74.drewN|apply IsS74.drew|apply IsS74.set_1|apply IsS74.set_2|refine IsS74.far ?_ NB0_344.out _)|exact HI0.out)) hb);have n1_ := Aside0.mk (blk_below (g := gb344) (o := .cells #[.string (⟨#[]⟩ : ByteArray),.string (⟨#[]⟩ : ByteArray),.int .i64 0] 31 (0,0)) (by (with_reducible repeat (first|refine bN ?_ _|refine bD ?_|refine bA ?_ _));exact BK344.out) hb);have n2_ := Aside0.mk (KeepBut.trans (by repeat (first|(with_reducible first|exact HK.out|apply KeepBut.set_|apply keep_drewN|apply keep_drew|apply keep_alloc|refine keep_far ?_ GW344.out _)|exact HK.out)) (KeepBut.of_below hb g none) (.inl rfl));have n3_ := Aside0.mk (below_step (by repeat (first|(with_reducible first|exact HB.out|apply lA|apply lN|apply lD|refine below_set ?_ (IsS74.ge HI0.out)|refine below_set ?_ GE344.out)|exact HB.out)) hb);have n4_ := Aside0.mk (hbox);have n5_ := Aside0.mk ((by rw [hg];exact (keep_size (w := w) (g := g) (row := none) (by repeat (first|(with_reducible first|exact HK.out|apply KeepBut.set_|apply keep_drewN|apply keep_drew|apply keep_alloc|refine keep_far ?_ GW344.out _)|exact HK.out))) : w.heap.size ≤ gb350));have n6_ := Aside0.mk ((Nat.le_trans HW0.out (by rw [hg];exact (keep_size (w := w) (g := g) (row := none) (by repeat (first|(with_reducible first|exact HK.out|apply KeepBut.set_|apply keep_drewN|apply keep_drew|apply keep_alloc|refine keep_far ?_ GW344.out _)|exact HK.out))) : w.heap.size ≤ gb350) : w0.heap.size ≤ gb350));have n7_ := Aside0.mk ((by rw [hg];exact Nat.ne_of_lt (blk_lt (g := gb344) (o := .cells #[.string (⟨#[]⟩ : ByteArray),.string (⟨#[]⟩ : ByteArray),.int .i64 0] 31 (0,0)) (by (with_reducible repeat (first|refine bN ?_ _|refine bD ?_|refine bA ?_ _));exact BK344.out)) : gb344 ≠ gb350));have n8_ := Aside0.mk ((by rw [hg];exact Nat.ne_of_gt (blk_lt (g := gb344) (o := .cells #[.string (⟨#[]⟩ : ByteArray),.string (⟨#[]⟩ : ByteArray),.int .i64 0] 31 (0,0)) (by (with_reducible repeat (first|refine bN ?_ _|refine bD ?_|refine bA ?_ _));exact BK344.out)) : gb350 ≠ gb344));have n9_ := Aside0.mk ((by rw [hg];exact Nat.ne_of_lt (IsS74.lt (show IsS74 w0 _ g s0_0 t348 t349 from by repeat (first|(with_reducible first|exact HI0.out|apply IsS74.alloc|apply IsS74.drewN|apply IsS74.drew|apply IsS74.set_1|apply IsS74.set_2|refine IsS74.far ?_ NB0_344.out _)|exact HI0.out))) : g ≠ gb350));have n10_ := Aside0.mk ((by rw [hg];exact Nat.ne_of_gt (IsS74.lt (show IsS74 w0 _ g s0_0 t348 t349 from by repeat (first|(with_reducible first|exact HI0.out|apply IsS74.alloc|apply IsS74.drewN|apply IsS74.drew|apply IsS74.set_1|apply IsS74.set_2|refine IsS74.far ?_ NB0_344.out _)|exact HI0.out))) : gb350 ≠ g));clear HI0;clear BK344;clear HK;clear HB;have HI0 := n0_;have BK344 := n1_;have HK := n2_;have HB := n3_;have BK350 := n4_;have GW350 := n5_;have GE350 := n6_;have NB344_350 := n7_;have NB350_344 := n8_;have NB0_350 := n9_;have NB350_0 := n10_;clear n0_ n1_ n2_ n3_ n4_ n5_ n6_ n7_ n8_ n9_ n10_;clear hb hbox hg;have hnb34 := NB350_344.out;have hnc34 := NB344_350.out;have hnb35 := NB350_0.out;have hnc35 := NB0_350.out;have hcz36_0 : w33.cell? ⟨gb350,0,none⟩ = some (.string (⟨#[]⟩ : ByteArray)) := (blk_cell BK350.out 0).trans rfl;have hcz36_1 : w33.cell? ⟨gb350,1,none⟩ = some (.string (⟨#[]⟩ : ByteArray)) := (blk_cell BK350.out 1).trans rfl;have hcz36_2 : w33.cell? ⟨gb350,2,none⟩ = some (.int .i64 0) := (blk_cell BK350.out 2).trans rfl;have hfz36_0 := blk_frozen BK350.out 0;have hfz36_1 := blk_frozen BK350.out 1;have hfz36_2 := blk_frozen BK350.out 2)|((with_reducible refine gate_callee (f := 54) rfl ?_);refine goesL_ (some 7) rfl rfl Tryd.func54 (by kernel_rfl) rfl #[.pointer (some ⟨g,0,none⟩),.int .i64 24] rfl (by (try simp only [List.map_toArray,List.map_cons,List.map_nil]);first|done|rfl|(simp only [List.length_drop,List.length_take];rfl)) ?_;(with_reducible refine (spec_l1Cur_pick.calls g s0_0 t348 t349 24 t351 t352 t353 w0 _ ?side1 ?side2 A3.out).mono ?_);(case side1 => repeat (first|(with_reducible first|exact HI0.out|apply IsS74.alloc|apply IsS74.drewN|apply IsS74.drew|apply IsS74.set_1|apply IsS74.set_2|refine IsS74.far ?_ NB0_344.out _|refine IsS74.far ?_ NB0_350.out _)|exact HI0.out));(case side2 => repeat (first|(with_reducible first|exact HB.out|apply lA|apply lN|apply lD|refine below_set ?_ (IsS74.ge HI0.out)|refine below_set ?_ GE344.out|refine below_set ?_ GE350.out)|exact HB.out));rintro e w37 ⟨rfl,hi,hb,hk⟩;refine ⟨_,rfl,?_⟩;have n0_ := Aside0.mk (KeepBut.blk hk (g' := gb344) (o := .cells #[.string (⟨#[]⟩ : ByteArray),.string (⟨#[]⟩ : ByteArray),.int .i64 0] 31 (0,0)) (by (with_reducible repeat (first|refine bN ?_ _|refine bD ?_|refine bA ?_ _));refine blk_far ?_ NB344_350.out _;(with_reducible repeat (first|refine bN ?_ _|refine bD ?_|refine bA ?_ _));refine blk_far ?_ NB344_350.out _;(with_reducible repeat (first|refine bN ?_ _|refine bD ?_|refine bA ?_ _));refine blk_far ?_ NB344_350.out _;(with_reducible repeat (first|refine bN ?_ _|refine bD ?_|refine bA ?_ _));exact BK344.out) NB344_0.out (by simp));have n1_ := Aside0.mk (KeepBut.blk hk (g' := gb350) (o := .cells #[.string t345,.string t346,.int .i64 t347] 31 (0,0)) (by (with_reducible repeat (first|refine bN ?_ _|refine bD ?_|refine bA ?_ _));refine blk_put (cs := #[.string t345,.string t346,.int .i64 0]) ?_ 2 _ rfl;(with_reducible repeat (first|refine bN ?_ _|refine bD ?_|refine bA ?_ _));refine blk_put (cs := #[.string t345,.string (⟨#[]⟩ : ByteArray),.int .i64 0]) ?_ 1 _ rfl;(with_reducible repeat (first|refine bN ?_ _|refine bD ?_|refine bA ?_ _));refine blk_put (cs := #[.string (⟨#[]⟩ : ByteArray),.string (⟨#[]⟩ : ByteArray),.int .i64 0]) ?_ 0 _ rfl;(with_reducible repeat (first|refine bN ?_ _|refine bD ?_|refine bA ?_ _));exact BK350.out) NB350_0.out (by simp));have n2_ := Aside0.mk (KeepBut.trans (by repeat (first|(with_reducible first|exact HK.out|apply KeepBut.set_|apply keep_drewN|apply keep_drew|apply keep_alloc|refine keep_far ?_ GW344.out _|refine keep_far ?_ GW350.out _)|exact HK.out)) hk (.inl rfl));have n3_ := Aside0.mk (hb);have n4_ := Aside0.mk (hi);clear BK344;clear BK350;clear HK;clear HB;clear HI0;have BK344 := n0_;have BK350 := n1_;have HK := n2_;have HB := n3_;have HI0 := n4_;clear n0_ n1_ n2_ n3_ n4_;(try clear hb);(try clear hb2);(try clear hk);(try clear hi);have hcz38_0 : w37.cell? ⟨gb350,0,none⟩ = some (.string t345) := (blk_cell BK350.out 0).trans rfl;have hcz38_1 : w37.cell? ⟨gb350,1,none⟩ = some (.string t346) := (blk_cell BK350.out 1).trans rfl;have hcz38_2 : w37.cell? ⟨gb350,2,none⟩ = some (.int .i64 t347) := (blk_cell BK350.out 2).trans rfl;have hfz38_0 := blk_frozen BK350.out 0;have hfz38_1 := blk_frozen BK350.out 1;have hfz38_2 := blk_frozen BK350.out 2;have hnb39 := NB344_0.out;have hnc39 := NB0_344.out;have hcz40_0 : w37.cell? ⟨gb344,0,none⟩ = some (.string (⟨#[]⟩ : ByteArray)) := (blk_cell BK344.out 0).trans rfl;have hcz40_1 : w37.cell? ⟨gb344,1,none⟩ = some (.string (⟨#[]⟩ : ByteArray)) := (blk_cell BK344.out 1).trans rfl;have hcz40_2 : w37.cell? ⟨gb344,2,none⟩ = some (.int .i64 0) := (blk_cell BK344.out 2).trans rfl;have hfz40_0 := blk_frozen BK344.out 0;have hfz40_1 := blk_frozen BK344.out 1;have hfz40_2 := blk_frozen BK344.out 2))
     refine bodyPost_ret (results_cell_row rfl _ _ gb344 31 #[.string (t345 ++ t346),.string t346,.int .i64 t347] (0,0) _ rfl (by (with_reducible repeat (first|refine bN ?_ _|refine bD ?_|refine bA ?_ _));refine blk_put (cs := #[.string (t345 ++ t346),.string t346,.int .i64 0]) ?_ 2 _ rfl;(with_reducible repeat (first|refine bN ?_ _|refine bD ?_|refine bA ?_ _));refine blk_put (cs := #[.string (t345 ++ t346),.string (⟨#[]⟩ : ByteArray),.int .i64 0]) ?_ 1 _ rfl;(with_reducible repeat (first|refine bN ?_ _|refine bD ?_|refine bA ?_ _));refine blk_put (cs := #[.string (⟨#[]⟩ : ByteArray),.string (⟨#[]⟩ : ByteArray),.int .i64 0]) ?_ 0 _ rfl;(with_reducible repeat (first|refine bN ?_ _|refine bD ?_|refine bA ?_ _));refine blk_far ?_ NB344_350.out _;(with_reducible repeat (first|refine bN ?_ _|refine bD ?_|refine bA ?_ _));exact BK344.out) Tryd.underlying31 rfl (by kernel_rfl)) rfl ?_
     exact ⟨by first|rfl|(simp [errW_none,errW_some] <;> rfl)|(simp [*,errW_none,errW_some] <;> rfl),by repeat (first|(with_reducible first|exact HI0.out|apply IsS74.alloc|apply IsS74.drewN|apply IsS74.drew|apply IsS74.set_1|apply IsS74.set_2|refine IsS74.far ?_ NB0_344.out _|refine IsS74.far ?_ NB0_350.out _)|exact HI0.out),by repeat (first|(with_reducible first|exact HB.out|apply lA|apply lN|apply lD|refine below_set ?_ (IsS74.ge HI0.out)|refine below_set ?_ GE344.out|refine below_set ?_ GE350.out)|exact HB.out),by repeat (first|(with_reducible first|exact HK.out|apply KeepBut.set_|apply keep_drewN|apply keep_drew|apply keep_alloc|refine keep_far ?_ GW344.out _|refine keep_far ?_ GW350.out _)|exact HK.out)⟩
    ·rw [if_neg c30] at H
     exact absurd H (by simp)
   ·rw [if_neg c29] at H
    have c29b0 : (t351 == 2) = false := beq_eq_false_iff_ne.mpr c29
    have c29b1 : (t351 != 2) = true := bne_iff_ne.mpr c29
    simp only [Option.some.injEq,Prod.mk.injEq] at H
    obtain ⟨rfl,rfl,rfl,rfl,rfl⟩ := H
    go_enter Tryd.func52,Tryd.ntmps52
    go_wp2_with (first|((with_reducible refine gate_dst (N := 2) rfl ?_);refine box_event ?hg (N := 2) ?hd (cs := #[.string (⟨#[]⟩ : ByteArray),.string (⟨#[]⟩ : ByteArray),.int .i64 0]) (t := 31) ?hr ?_;(case hd => rfl);(case hg => rfl);(case hr => first|(go_simp;done)|(go_simp;rfl));intro gb344 hg w41 hbox hb;have n0_ := Aside0.mk (IsS74.below (by repeat (first|(with_reducible first|exact HI0.out|apply IsS74.alloc|apply IsS74.drewN|apply IsS74.drew|apply IsS74.set_1|apply IsS74.set_2)|exact HI0.out)) hb);have n1_ := Aside0.mk (KeepBut.trans (by repeat (first|(with_reducible first|exact HK.out|apply KeepBut.set_|apply keep_drewN|apply keep_drew|apply keep_alloc)|exact HK.out)) (KeepBut.of_below hb g none) (.inl rfl));have n2_ := Aside0.mk (below_step (by repeat (first|(with_reducible first|exact HB.out|apply lA|apply lN|apply lD|refine below_set ?_ (IsS74.ge HI0.out))|exact HB.out)) hb);have n3_ := Aside0.mk (hbox);have n4_ := Aside0.mk ((by rw [hg];exact (keep_size (w := w) (g := g) (row := none) (by repeat (first|(with_reducible first|exact HK.out|apply KeepBut.set_|apply keep_drewN|apply keep_drew|apply keep_alloc)|exact HK.out))) : w.heap.size ≤ gb344));have n5_ := Aside0.mk ((Nat.le_trans HW0.out (by rw [hg];exact (keep_size (w := w) (g := g) (row := none) (by repeat (first|(with_reducible first|exact HK.out|apply KeepBut.set_|apply keep_drewN|apply keep_drew|apply keep_alloc)|exact HK.out))) : w.heap.size ≤ gb344) : w0.heap.size ≤ gb344));have n6_ := Aside0.mk ((by rw [hg];exact Nat.ne_of_lt (IsS74.lt (show IsS74 w0 _ g s0_0 s0_1 s0_2 from by repeat (first|(with_reducible first|exact HI0.out|apply IsS74.alloc|apply IsS74.drewN|apply IsS74.drew|apply IsS74.set_1|apply IsS74.set_2)|exact HI0.out))) : g ≠ gb344));have n7_ := Aside0.mk ((by rw [hg];exact Nat.ne_of_gt (IsS74.lt (show IsS74 w0 _ g s0_0 s0_1 s0_2 from by repeat (first|(with_reducible first|exact HI0.out|apply IsS74.alloc|apply IsS74.drewN|apply IsS74.drew|apply IsS74.set_1|apply IsS74.set_2)|exact HI0.out))) : gb344 ≠ g));clear HI0;clear HK;clear HB;have HI0 := n0_;have HK := n1_;have HB := n2_;have BK344 := n3_;have GW344 := n4_;have GE344 := n5_;have NB0_344 := n6_;have NB344_0 := n7_;clear n0_ n1_ n2_ n3_ n4_ n5_ n6_ n7_;clear hb hbox hg)|((with_reducible refine gate_callee (f := 59) rfl ?_);refine goesL_ (some 5) rfl rfl Tryd.func59 (by kernel_rfl) rfl #[.pointer (some ⟨g,0,none⟩)] rfl (by (try simp only [List.map_toArray,List.map_cons,List.map_nil]);first|done|rfl|(simp only [List.length_drop,List.length_take];rfl)) ?_;(with_reducible refine (spec_l1Cur_log.calls k g s0_0 s0_1 s0_2 t345 t346 t347 t348 t349 w0 _ ?side1 ?side2 A2.out).mono ?_);(case side1 => repeat (first|(with_reducible first|exact HI0.out|apply IsS74.alloc|apply IsS74.drewN|apply IsS74.drew|apply IsS74.set_1|apply IsS74.set_2|refine IsS74.far ?_ NB0_344.out _)|exact HI0.out));(case side2 => repeat (first|(with_reducible first|exact HB.out|apply lA|apply lN|apply lD|refine below_set ?_ (IsS74.ge HI0.out)|refine below_set ?_ GE344.out)|exact HB.out));rintro e w42 ⟨rfl,hi,hb,hk⟩;refine ⟨_,rfl,?_⟩;have n0_ := Aside0.mk (KeepBut.blk hk (g' := gb344) (o := .cells #[.string (⟨#[]⟩ : ByteArray),.string (⟨#[]⟩ : ByteArray),.int .i64 0] 31 (0,0)) (by (with_reducible repeat (first|refine bN ?_ _|refine bD ?_|refine bA ?_ _));exact BK344.out) NB344_0.out (by simp));have n1_ := Aside0.mk (KeepBut.trans (by repeat (first|(with_reducible first|exact HK.out|apply KeepBut.set_|apply keep_drewN|apply keep_drew|apply keep_alloc|refine keep_far ?_ GW344.out _)|exact HK.out)) hk (.inl rfl));have n2_ := Aside0.mk (hb);have n3_ := Aside0.mk (hi);clear BK344;clear HK;clear HB;clear HI0;have BK344 := n0_;have HK := n1_;have HB := n2_;have HI0 := n3_;clear n0_ n1_ n2_ n3_;(try clear hb);(try clear hb2);(try clear hk);(try clear hi))|((with_reducible refine gate_dst (N := 3) rfl ?_);refine box_event ?hg (N := 3) ?hd (cs := #[.string (⟨#[]⟩ : ByteArray),.string (⟨#[]⟩ : ByteArray),.int .i64 0]) (t := 31) ?hr ?_;(case hd => rfl);(case hg => rfl);(case hr => first|(go_simp;done)|(go_simp;rfl));intro gb350 hg w43 hbox hb;have n0_ := Aside0.mk (IsS74.below (by repeat (first|(with_reducible first|exact HI0.out|apply IsS74.alloc|apply IsS74.drewN|apply IsS74.drew|apply IsS74.set_1|apply IsS74.set_2|refine IsS74.far ?_ NB0_344.out _)|exact HI0.out)) hb);have n1_ := Aside0.mk (blk_below (g := gb344) (o := .cells #[.string (⟨#[]⟩ : ByteArray),.string (⟨#[]⟩ : ByteArray),.int .i64 0] 31 (0,0)) (by (with_reducible repeat (first|refine bN ?_ _|refine bD ?_|refine bA ?_ _));exact BK344.out) hb);have n2_ := Aside0.mk (KeepBut.trans (by repeat (first|(with_reducible first|exact HK.out|apply KeepBut.set_|apply keep_drewN|apply keep_drew|apply keep_alloc|refine keep_far ?_ GW344.out _)|exact HK.out)) (KeepBut.of_below hb g none) (.inl rfl));have n3_ := Aside0.mk (below_step (by repeat (first|(with_reducible first|exact HB.out|apply lA|apply lN|apply lD|refine below_set ?_ (IsS74.ge HI0.out)|refine below_set ?_ GE344.out)|exact HB.out)) hb);have n4_ := Aside0.mk (hbox);have n5_ := Aside0.mk ((by rw [hg];exact (keep_size (w := w) (g := g) (row := none) (by repeat (first|(with_reducible first|exact HK.out|apply KeepBut.set_|apply keep_drewN|apply keep_drew|apply keep_alloc|refine keep_far ?_ GW344.out _)|exact HK.out))) : w.heap.size ≤ gb350));have n6_ := Aside0.mk ((Nat.le_trans HW0.out (by rw [hg];exact (keep_size (w := w) (g := g) (row := none) (by repeat (first|(with_reducible first|exact HK.out|apply KeepBut.set_|apply keep_drewN|apply keep_drew|apply keep_alloc|refine keep_far ?_ GW344.out _)|exact HK.out))) : w.heap.size ≤ gb350) : w0.heap.size ≤ gb350));have n7_ := Aside0.mk ((by rw [hg];exact Nat.ne_of_lt (blk_lt (g := gb344) (o := .cells #[.string (⟨#[]⟩ : ByteArray),.string (⟨#[]⟩ : ByteArray),.int .i64 0] 31 (0,0)) (by (with_reducible repeat (first|refine bN ?_ _|refine bD ?_|refine bA ?_ _));exact BK344.out)) : gb344 ≠ gb350));have n8_ := Aside0.mk ((by rw [hg];exact Nat.ne_of_gt (blk_lt (g := gb344) (o := .cells #[.string (⟨#[]⟩ : ByteArray),.string (⟨#[]⟩ : ByteArray),.int .i64 0] 31 (0,0)) (by (with_reducible repeat (first|refine bN ?_ _|refine bD ?_|refine bA ?_ _));exact BK344.out)) : gb350 ≠ gb344));have n9_ := Aside0.mk ((by rw [hg];exact Nat.ne_of_lt (IsS74.lt (show IsS74 w0 _ g s0_0 t348 t349 from by repeat (first|(with_reducible first|exact HI0.out|apply IsS74.alloc|apply IsS74.drewN|apply IsS74.drew|apply IsS74.set_1|apply IsS74.set_2|refine IsS74.far ?_ NB0_344.out _)|exact HI0.out))) : g ≠ gb350));have n10_ := Aside0.mk ((by rw [hg];exact Nat.ne_of_gt (IsS74.lt (show IsS74 w0 _ g s0_0 t348 t349 from by repeat (first|(with_reducible first|exact HI0.out|apply IsS74.alloc|apply IsS74.drewN|apply IsS74.drew|apply IsS74.set_1|apply IsS74.set_2|refine IsS74.far ?_ NB0_344.out _)|exact HI0.out))) : gb350 ≠ g));clear HI0;clear BK344;clear HK;clear HB;have HI0 := n0_;have BK344 := n1_;have HK := n2_;have HB := n3_;have BK350 := n4_;have GW350 := n5_;have GE350 := n6_;have NB344_350 := n7_;have NB350_344 := n8_;have NB0_350 := n9_;have NB350_0 := n10_;clear n0_ n1_ n2_ n3_ n4_ n5_ n6_ n7_ n8_ n9_ n10_;clear hb hbox hg;have hnb44 := NB350_344.out;have hnc44 := NB344_350.out;have hnb45 := NB350_0.out;have hnc45 := NB0_350.out;have hcz46_0 : w43.cell? ⟨gb350,0,none⟩ = some (.string (⟨#[]⟩ : ByteArray)) := (blk_cell BK350.out 0).trans rfl;have hcz46_1 : w43.cell? ⟨gb350,1,none⟩ = some (.string (⟨#[]⟩ : ByteArray)) := (blk_cell BK350.out 1).trans rfl;have hcz46_2 : w43.cell? ⟨gb350,2,none⟩ = some (.int .i64 0) := (blk_cell BK350.out 2).trans rfl;have hfz46_0 := blk_frozen BK350.out 0;have hfz46_1 := blk_frozen BK350.out 1;have hfz46_2 := blk_frozen BK350.out 2)|((with_reducible refine gate_callee (f := 54) rfl ?_);refine goesL_ (some 7) rfl rfl Tryd.func54 (by kernel_rfl) rfl #[.pointer (some ⟨g,0,none⟩),.int .i64 24] rfl (by (try simp only [List.map_toArray,List.map_cons,List.map_nil]);first|done|rfl|(simp only [List.length_drop,List.length_take];rfl)) ?_;(with_reducible refine (spec_l1Cur_pick.calls g s0_0 t348 t349 24 t351 t352 t353 w0 _ ?side1 ?side2 A3.out).mono ?_);(case side1 => repeat (first|(with_reducible first|exact HI0.out|apply IsS74.alloc|apply IsS74.drewN|apply IsS74.drew|apply IsS74.set_1|apply IsS74.set_2|refine IsS74.far ?_ NB0_344.out _|refine IsS74.far ?_ NB0_350.out _)|exact HI0.out));(case side2 => repeat (first|(with_reducible first|exact HB.out|apply lA|apply lN|apply lD|refine below_set ?_ (IsS74.ge HI0.out)|refine below_set ?_ GE344.out|refine below_set ?_ GE350.out)|exact HB.out));rintro e w47 ⟨rfl,hi,hb,hk⟩;refine ⟨_,rfl,?_⟩;have n0_ := Aside0.mk (KeepBut.blk hk (g' := gb344) (o := .cells #[.string (⟨#[]⟩ : ByteArray),.string (⟨#[]⟩ : ByteArray),.int .i64 0] 31 (0,0)) (by (with_reducible repeat (first|refine bN ?_ _|refine bD ?_|refine bA ?_ _));refine blk_far ?_ NB344_350.out _;(with_reducible repeat (first|refine bN ?_ _|refine bD ?_|refine bA ?_ _));refine blk_far ?_ NB344_350.out _;(with_reducible repeat (first|refine bN ?_ _|refine bD ?_|refine bA ?_ _));refine blk_far ?_ NB344_350.out _;(with_reducible repeat (first|refine bN ?_ _|refine bD ?_|refine bA ?_ _));exact BK344.out) NB344_0.out (by simp));have n1_ := Aside0.mk (KeepBut.blk hk (g' := gb350) (o := .cells #[.string t345,.string t346,.int .i64 t347] 31 (0,0)) (by (with_reducible repeat (first|refine bN ?_ _|refine bD ?_|refine bA ?_ _));refine blk_put (cs := #[.string t345,.string t346,.int .i64 0]) ?_ 2 _ rfl;(with_reducible repeat (first|refine bN ?_ _|refine bD ?_|refine bA ?_ _));refine blk_put (cs := #[.string t345,.string (⟨#[]⟩ : ByteArray),.int .i64 0]) ?_ 1 _ rfl;(with_reducible repeat (first|refine bN ?_ _|refine bD ?_|refine bA ?_ _));refine blk_put (cs := #[.string (⟨#[]⟩ : ByteArray),.string (⟨#[]⟩ : ByteArray),.int .i64 0]) ?_ 0 _ rfl;(with_reducible repeat (first|refine bN ?_ _|refine bD ?_|refine bA ?_ _));exact BK350.out) NB350_0.out (by simp));have n2_ := Aside0.mk (KeepBut.trans (by repeat (first|(with_reducible first|exact HK.out|apply KeepBut.set_|apply keep_drewN|apply keep_drew|apply keep_alloc|refine keep_far ?_ GW344.out _|refine keep_far ?_ GW350.out _)|exact HK.out)) hk (.inl rfl));have n3_ := Aside0.mk (hb);have n4_ := Aside0.mk (hi);clear BK344;clear BK350;clear HK;clear HB;clear HI0;have BK344 := n0_;have BK350 := n1_;have HK := n2_;have HB := n3_;have HI0 := n4_;clear n0_ n1_ n2_ n3_ n4_;(try clear hb);(try clear hb2);(try clear hk);(try clear hi);have hcz48_0 : w47.cell? ⟨gb350,0,none⟩ = some (.string t345) := (blk_cell BK350.out 0).trans rfl;have hcz48_1 : w47.cell? ⟨gb350,1,none⟩ = some (.string t346) := (blk_cell BK350.out 1).trans rfl;have hcz48_2 : w47.cell? ⟨gb350,2,none⟩ = some (.int .i64 t347) := (blk_cell BK350.out 2).trans rfl;have hfz48_0 := blk_frozen BK350.out 0;have hfz48_1 := blk_frozen BK350.out 1;have hfz48_2 := blk_frozen BK350.out 2;have hnb49 := NB344_0.out;have hnc49 := NB0_344.out;have hcz50_0 : w47.cell? ⟨gb344,0,none⟩ = some (.string (⟨#[]⟩ : ByteArray)) := (blk_cell BK344.out 0).trans rfl;have hcz50_1 : w47.cell? ⟨gb344,1,none⟩ = some (.string (⟨#[]⟩ : ByteArray)) := (blk_cell BK344.out 1).trans rfl;have hcz50_2 : w47.cell? ⟨gb344,2,none⟩ = some (.int .i64 0) := (blk_cell BK344.out 2).trans rfl;have hfz50_0 := blk_frozen BK344.out 0;have hfz50_1 := blk_frozen BK344.out 1;have hfz50_2 := blk_frozen BK344.out 2))
    refine bodyPost_ret (results_cell_row rfl _ _ gb344 31 #[.string t345,.string t346,.int .i64 t347] (0,0) _ rfl (by (with_reducible repeat (first|refine bN ?_ _|refine bD ?_|refine bA ?_ _));refine blk_put (cs := #[.string t345,.string t346,.int .i64 0]) ?_ 2 _ rfl;(with_reducible repeat (first|refine bN ?_ _|refine bD ?_|refine bA ?_ _));refine blk_put (cs := #[.string t345,.string (⟨#[]⟩ : ByteArray),.int .i64 0]) ?_ 1 _ rfl;(with_reducible repeat (first|refine bN ?_ _|refine bD ?_|refine bA ?_ _));refine blk_put (cs := #[.string (⟨#[]⟩ : ByteArray),.string (⟨#[]⟩ : ByteArray),.int .i64 0]) ?_ 0 _ rfl;(with_reducible repeat (first|refine bN ?_ _|refine bD ?_|refine bA ?_ _));exact BK344.out) Tryd.underlying31 rfl (by kernel_rfl)) rfl ?_
    exact ⟨by first|rfl|(simp [errW_none,errW_some] <;> rfl)|(simp [*,errW_none,errW_some] <;> rfl),by repeat (first|(with_reducible first|exact HI0.out|apply IsS74.alloc|apply IsS74.drewN|apply IsS74.drew|apply IsS74.set_1|apply IsS74.set_2|refine IsS74.far ?_ NB0_344.out _|refine IsS74.far ?_ NB0_350.out _)|exact HI0.out),by repeat (first|(with_reducible first|exact HB.out|apply lA|apply lN|apply lD|refine below_set ?_ (IsS74.ge HI0.out)|refine below_set ?_ GE344.out|refine below_set ?_ GE350.out)|exact HB.out),by repeat (first|(with_reducible first|exact HK.out|apply KeepBut.set_|apply keep_drewN|apply keep_drew|apply keep_alloc|refine keep_far ?_ GW344.out _|refine keep_far ?_ GW350.out _)|exact HK.out)⟩
end Go.Proofs.YtinbbjfnebhlkaaDoor.P
