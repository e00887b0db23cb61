/- Written by a program in this session: each theorem here says that a Go function computes the Lean function beside it, or that a law's row holds, under the conditions that the theorem itself states. -/
import Derived.Test.YtinbbjfnebhlkaaDoorZPx0
import Derived.Test.YtinbbjfnebhlkaaDoorZPx1
import Derived.Test.YtinbbjfnebhlkaaDoorZPx2
import Derived.Test.YtinbbjfnebhlkaaDoorZPx3
import Derived.Test.YtinbbjfnebhlkaaDoorZPx4
import Derived.Test.YtinbbjfnebhlkaaDoorZPx7
import Derived.Test.YtinbbjfnebhlkaaDoorZPx8
import Derived.Test.YtinbbjfnebhlkaaDoorZPx11
namespace Go.Proofs.YtinbbjfnebhlkaaDoor.P
open Go.RowKit Go.Proofs.YtinbbjfnebhlkaaDoorW.PrintWords Go.Proofs.YtinbbjfnebhlkaaDoorW.PrintLast Go.Proofs.YtinbbjfnebhlkaaDoorW.PrintMore
attribute [local go_sem] max2_int min2_int max_two min_two max_three min_three max_four min_four   -- for this text's walks alone
set_option linter.unusedVariables false
set_option linter.unusedSimpArgs false
attribute [local go_sem high] eqA27 eqA31
mutual
def laws_FnLog.j0 : Nat → Int → Bool → ByteArray → ByteArray → Int → ByteArray → ByteArray → ByteArray → ByteArray → Int → Option (Bool)
 | 0,_,_,_,_,_,_,_,_,_,_ => none
 | k + 1,x6,x59,x379000,x379001,x379002,x380000,x380001,x385000,x385001,x385002 => if x59 = true then (some false) else (if x6 = 0 then ((impl_LogRecords.f k x385000 x385001 x385002).bind fun bt394 => ((impl_LogRecords.f k x379000 x379001 x379002).bind fun bt398 => (if x385000.size + x385001.size ≤ 9223372036854775807 then ((impl_RecoverLog.f k (x385000 ++ x385001)).bind fun bt402 => ((impl_SyncLog.f k x385000 x385001 x385002).bind fun bt408 => (if bt394.2 = true then (if (bt394.1.length : Int) = (wrap64 ((bt398.1.length : Int) + 1)) then (laws_FnLog.j1 k bt394.1 bt398.1 bt402.2.2.2.1 bt402.2.2.2.2 bt408.2.2.2 (x385002 != (bt394.1.length : Int)) x380000 x380001 x385000 x385001 x385002 bt402.1 bt402.2.1 bt402.2.2.1 bt408.1 bt408.2.1 bt408.2.2.1) else (laws_FnLog.j1 k bt394.1 bt398.1 bt402.2.2.2.1 bt402.2.2.2.2 bt408.2.2.2 true x380000 x380001 x385000 x385001 x385002 bt402.1 bt402.2.1 bt402.2.2.1 bt408.1 bt408.2.1 bt408.2.2.1)) else (laws_FnLog.j1 k bt394.1 bt398.1 bt402.2.2.2.1 bt402.2.2.2.2 bt408.2.2.2 true x380000 x380001 x385000 x385001 x385002 bt402.1 bt402.2.1 bt402.2.2.1 bt408.1 bt408.2.1 bt408.2.2.1)))) else (none)))) else (some (x385000.toList == x379000.toList && (x385001.toList == x379001.toList && (x385002 == x379002)))))
def laws_FnLog.j1 : Nat → List (S27) → List (S27) → Int → Bool → Bool → Bool → ByteArray → ByteArray → ByteArray → ByteArray → Int → ByteArray → ByteArray → Int → ByteArray → ByteArray → Int → Option (Bool)
 | 0,_,_,_,_,_,_,_,_,_,_,_,_,_,_,_,_,_ => none
 | k + 1,x9,x11,x14,x15,x17,x106,x380000,x380001,x385000,x385001,x385002,x408000,x408001,x408002,x413000,x413001,x413002 => if x106 = true then (some false) else (laws_FnLog.l0 k x9 x11 x14 x15 x17 0 x380000 x380001 x385000 x385001 x385002 x408000 x408001 x408002 x413000 x413001 x413002)
def laws_FnLog.l0 : Nat → List (S27) → List (S27) → Int → Bool → Bool → Int → ByteArray → ByteArray → ByteArray → ByteArray → Int → ByteArray → ByteArray → Int → ByteArray → ByteArray → Int → Option (Bool)
 | 0,_,_,_,_,_,_,_,_,_,_,_,_,_,_,_,_,_ => none
 | k + 1,x9,x11,x14,x15,x17,x18,x380000,x380001,x385000,x385001,x385002,x408000,x408001,x408002,x413000,x413001,x413002 => if x18 < (x11.length : Int) then (if 0 ≤ x18 then (if x18 < (x9.length : Int) then (if (!((((rd_T27 x9 x18).f0).toList) == (((rd_T27 x11 x18).f0).toList)) || (!((((rd_T27 x9 x18).f1).toList) == (((rd_T27 x11 x18).f1).toList)))) = true then (some false) else (laws_FnLog.l0 k x9 x11 x14 x15 x17 (wrap64 (x18 + 1)) x380000 x380001 x385000 x385001 x385002 x408000 x408001 x408002 x413000 x413001 x413002)) else (none)) else (none)) else (if 0 ≤ (x11.length : Int) then (if (x11.length : Int) < (x9.length : Int) then (if ((((rd_T27 x9 (x11.length : Int)).f0).toList) == x380000.toList && ((((rd_T27 x9 (x11.length : Int)).f1).toList) == x380001.toList)) = true then (if x15 = true then (if x385000.size + x385001.size ≤ 9223372036854775807 then (if x14 = ((x385000 ++ x385001).size : Int) then (if x17 = true then (if (x413000.toList == x408000.toList && (x413001.toList == x408001.toList && (x413002 == x408002))) = true then ((impl_IsValidLog.f k x385000 x385001 x385002).bind fun t416 => (some t416)) else (some false)) else (some false)) else (some false)) else (none)) else (some false)) else (some false)) else (none)) else (none))
end
def laws_FnLog.f (k : Nat) (l0 : List Int) : Option (Bool) := (laws_vBig.f l0).bind fun t372 => (if t372 = true then (some true) else ((spec_DrawAppendRecord.f k l0).bind fun bt373 => ((impl_AppendRecord.f k bt373.1 bt373.2.1 bt373.2.2.1 bt373.2.2.2.1 bt373.2.2.2.2).bind fun bt380 => ((spec_AppendRecord.f k bt373.1 bt373.2.1 bt373.2.2.1 bt373.2.2.2.1 bt373.2.2.2.2).bind fun bt385 => (if (!(bt380.1.toList == bt385.1.toList) || (!(bt380.2.1.toList == bt385.2.1.toList) || (!(bt380.2.2.1 == bt385.2.2.1)))) = true then (laws_FnLog.j0 k bt380.2.2.2 true bt373.1 bt373.2.1 bt373.2.2.1 bt373.2.2.2.1 bt373.2.2.2.2 bt380.1 bt380.2.1 bt380.2.2.1) else (if bt380.2.2.2 = bt385.2.2.2 then ((impl_IsValidLog.f k bt373.1 bt373.2.1 bt373.2.2.1).bind fun t390 => ((spec_IsValidLog.f k bt373.1 bt373.2.1 bt373.2.2.1).bind fun t391 => (if (t390 != t391) = true then (laws_FnLog.j0 k bt380.2.2.2 true bt373.1 bt373.2.1 bt373.2.2.1 bt373.2.2.2.1 bt373.2.2.2.2 bt380.1 bt380.2.1 bt380.2.2.1) else ((impl_IsValidRecord.f k bt373.2.2.2.1 bt373.2.2.2.2).bind fun t392 => ((spec_IsValidRecord.f k bt373.2.2.2.1 bt373.2.2.2.2).bind fun t393 => (laws_FnLog.j0 k bt380.2.2.2 (t392 != t393) bt373.1 bt373.2.1 bt373.2.2.1 bt373.2.2.2.1 bt373.2.2.2.2 bt380.1 bt380.2.1 bt380.2.2.1)))))) else (laws_FnLog.j0 k bt380.2.2.2 true bt373.1 bt373.2.1 bt373.2.2.1 bt373.2.2.2.1 bt373.2.2.2.2 bt380.1 bt380.2.1 bt380.2.2.1)))))))
theorem laws_FnLog.mono_l : ∀ k,(∀ y0 y1 y2 y3 y4 y5 y6 y7 y8 y9,LeO (laws_FnLog.j0 k y0 y1 y2 y3 y4 y5 y6 y7 y8 y9) (laws_FnLog.j0 (k + 1) y0 y1 y2 y3 y4 y5 y6 y7 y8 y9)) ∧ (∀ y0 y1 y2 y3 y4 y5 y6 y7 y8 y9 y10 y11 y12 y13 y14 y15 y16,LeO (laws_FnLog.j1 k y0 y1 y2 y3 y4 y5 y6 y7 y8 y9 y10 y11 y12 y13 y14 y15 y16) (laws_FnLog.j1 (k + 1) y0 y1 y2 y3 y4 y5 y6 y7 y8 y9 y10 y11 y12 y13 y14 y15 y16)) ∧ (∀ y0 y1 y2 y3 y4 y5 y6 y7 y8 y9 y10 y11 y12 y13 y14 y15 y16,LeO (laws_FnLog.l0 k y0 y1 y2 y3 y4 y5 y6 y7 y8 y9 y10 y11 y12 y13 y14 y15 y16) (laws_FnLog.l0 (k + 1) y0 y1 y2 y3 y4 y5 y6 y7 y8 y9 y10 y11 y12 y13 y14 y15 y16))
 | 0 => ⟨fun _ _ _ _ _ _ _ _ _ _ r h => by simp [laws_FnLog.j0] at h,fun _ _ _ _ _ _ _ _ _ _ _ _ _ _ _ _ _ r h => by simp [laws_FnLog.j1] at h,fun _ _ _ _ _ _ _ _ _ _ _ _ _ _ _ _ _ r h => by simp [laws_FnLog.l0] at h⟩
 | k + 1 => by
  obtain ⟨ih0,ih1,ih2⟩ := laws_FnLog.mono_l k
  refine ⟨?_,?_,?_⟩
  ·intro y0 y1 y2 y3 y4 y5 y6 y7 y8 y9
   unfold laws_FnLog.j0
   repeat' first
   | (with_reducible exact ih0 _ _ _ _ _ _ _ _ _ _)
   | (with_reducible exact ih1 _ _ _ _ _ _ _ _ _ _ _ _ _ _ _ _ _)
   | (with_reducible exact ih2 _ _ _ _ _ _ _ _ _ _ _ _ _ _ _ _ _)
   | (with_reducible exact impl_AppendRecord.mono _ _ _ _ _ _)
   | (with_reducible exact impl_IsValidLog.mono _ _ _ _)
   | (with_reducible exact impl_IsValidRecord.mono _ _ _)
   | (with_reducible exact impl_LogRecords.mono _ _ _ _)
   | (with_reducible exact impl_RecoverLog.mono _ _)
   | (with_reducible exact impl_SyncLog.mono _ _ _ _)
   | (with_reducible exact spec_AppendRecord.mono _ _ _ _ _ _)
   | (with_reducible exact spec_DrawAppendRecord.mono _ _)
   | (with_reducible exact spec_IsValidLog.mono _ _ _ _)
   | (with_reducible exact spec_IsValidRecord.mono _ _ _)
   | (with_reducible exact LeO.refl _)
   | (with_reducible exact LeO.none _)
   | (with_reducible refine LeO.ite ?_ ?_)
   | (with_reducible refine LeO.bind ?_ (fun _ => ?_))
   | exact ih0 _ _ _ _ _ _ _ _ _ _
   | exact ih1 _ _ _ _ _ _ _ _ _ _ _ _ _ _ _ _ _
   | exact ih2 _ _ _ _ _ _ _ _ _ _ _ _ _ _ _ _ _
   | exact impl_AppendRecord.mono _ _ _ _ _ _
   | exact impl_IsValidLog.mono _ _ _ _
   | exact impl_IsValidRecord.mono _ _ _
   | exact impl_LogRecords.mono _ _ _ _
   | exact impl_RecoverLog.mono _ _
   | exact impl_SyncLog.mono _ _ _ _
   | exact spec_AppendRecord.mono _ _ _ _ _ _
   | exact spec_DrawAppendRecord.mono _ _
   | exact spec_IsValidLog.mono _ _ _ _
   | exact spec_IsValidRecord.mono _ _ _
   | exact LeO.none _
   | refine LeO.ite ?_ ?_
   | refine LeO.bind ?_ (fun _ => ?_)
  ·intro y0 y1 y2 y3 y4 y5 y6 y7 y8 y9 y10 y11 y12 y13 y14 y15 y16
   unfold laws_FnLog.j1
   repeat' first
   | (with_reducible exact ih0 _ _ _ _ _ _ _ _ _ _)
   | (with_reducible exact ih1 _ _ _ _ _ _ _ _ _ _ _ _ _ _ _ _ _)
   | (with_reducible exact ih2 _ _ _ _ _ _ _ _ _ _ _ _ _ _ _ _ _)
   | (with_reducible exact impl_AppendRecord.mono _ _ _ _ _ _)
   | (with_reducible exact impl_IsValidLog.mono _ _ _ _)
   | (with_reducible exact impl_IsValidRecord.mono _ _ _)
   | (with_reducible exact impl_LogRecords.mono _ _ _ _)
   | (with_reducible exact impl_RecoverLog.mono _ _)
   | (with_reducible exact impl_SyncLog.mono _ _ _ _)
   | (with_reducible exact spec_AppendRecord.mono _ _ _ _ _ _)
   | (with_reducible exact spec_DrawAppendRecord.mono _ _)
   | (with_reducible exact spec_IsValidLog.mono _ _ _ _)
   | (with_reducible exact spec_IsValidRecord.mono _ _ _)
   | (with_reducible exact LeO.refl _)
   | (with_reducible exact LeO.none _)
   | (with_reducible refine LeO.ite ?_ ?_)
   | (with_reducible refine LeO.bind ?_ (fun _ => ?_))
   | exact ih0 _ _ _ _ _ _ _ _ _ _
   | exact ih1 _ _ _ _ _ _ _ _ _ _ _ _ _ _ _ _ _
   | exact ih2 _ _ _ _ _ _ _ _ _ _ _ _ _ _ _ _ _
   | exact impl_AppendRecord.mono _ _ _ _ _ _
   | exact impl_IsValidLog.mono _ _ _ _
   | exact impl_IsValidRecord.mono _ _ _
   | exact impl_LogRecords.mono _ _ _ _
   | exact impl_RecoverLog.mono _ _
   | exact impl_SyncLog.mono _ _ _ _
   | exact spec_AppendRecord.mono _ _ _ _ _ _
   | exact spec_DrawAppendRecord.mono _ _
   | exact spec_IsValidLog.mono _ _ _ _
   | exact spec_IsValidRecord.mono _ _ _
   | exact LeO.none _
   | refine LeO.ite ?_ ?_
   | refine LeO.bind ?_ (fun _ => ?_)
  ·intro y0 y1 y2 y3 y4 y5 y6 y7 y8 y9 y10 y11 y12 y13 y14 y15 y16
   unfold laws_FnLog.l0
   repeat' first
   | (with_reducible exact ih0 _ _ _ _ _ _ _ _ _ _)
   | (with_reducible exact ih1 _ _ _ _ _ _ _ _ _ _ _ _ _ _ _ _ _)
   | (with_reducible exact ih2 _ _ _ _ _ _ _ _ _ _ _ _ _ _ _ _ _)
   | (with_reducible exact impl_AppendRecord.mono _ _ _ _ _ _)
   | (with_reducible exact impl_IsValidLog.mono _ _ _ _)
   | (with_reducible exact impl_IsValidRecord.mono _ _ _)
   | (with_reducible exact impl_LogRecords.mono _ _ _ _)
   | (with_reducible exact impl_RecoverLog.mono _ _)
   | (with_reducible exact impl_SyncLog.mono _ _ _ _)
   | (with_reducible exact spec_AppendRecord.mono _ _ _ _ _ _)
   | (with_reducible exact spec_DrawAppendRecord.mono _ _)
   | (with_reducible exact spec_IsValidLog.mono _ _ _ _)
   | (with_reducible exact spec_IsValidRecord.mono _ _ _)
   | (with_reducible exact LeO.refl _)
   | (with_reducible exact LeO.none _)
   | (with_reducible refine LeO.ite ?_ ?_)
   | (with_reducible refine LeO.bind ?_ (fun _ => ?_))
   | exact ih0 _ _ _ _ _ _ _ _ _ _
   | exact ih1 _ _ _ _ _ _ _ _ _ _ _ _ _ _ _ _ _
   | exact ih2 _ _ _ _ _ _ _ _ _ _ _ _ _ _ _ _ _
   | exact impl_AppendRecord.mono _ _ _ _ _ _
   | exact impl_IsValidLog.mono _ _ _ _
   | exact impl_IsValidRecord.mono _ _ _
   | exact impl_LogRecords.mono _ _ _ _
   | exact impl_RecoverLog.mono _ _
   | exact impl_SyncLog.mono _ _ _ _
   | exact spec_AppendRecord.mono _ _ _ _ _ _
   | exact spec_DrawAppendRecord.mono _ _
   | exact spec_IsValidLog.mono _ _ _ _
   | exact spec_IsValidRecord.mono _ _ _
   | exact LeO.none _
   | refine LeO.ite ?_ ?_
   | refine LeO.bind ?_ (fun _ => ?_)
theorem laws_FnLog.mono : ∀ a0 k,LeO (laws_FnLog.f k a0) (laws_FnLog.f (k + 1) a0) := by
 intro a0 k
 obtain ⟨ih0,ih1,ih2⟩ := laws_FnLog.mono_l k
 unfold laws_FnLog.f
 repeat' first
   | (with_reducible exact ih0 _ _ _ _ _ _ _ _ _ _)
   | (with_reducible exact ih1 _ _ _ _ _ _ _ _ _ _ _ _ _ _ _ _ _)
   | (with_reducible exact ih2 _ _ _ _ _ _ _ _ _ _ _ _ _ _ _ _ _)
   | (with_reducible exact impl_AppendRecord.mono _ _ _ _ _ _)
   | (with_reducible exact impl_IsValidLog.mono _ _ _ _)
   | (with_reducible exact impl_IsValidRecord.mono _ _ _)
   | (with_reducible exact impl_LogRecords.mono _ _ _ _)
   | (with_reducible exact impl_RecoverLog.mono _ _)
   | (with_reducible exact impl_SyncLog.mono _ _ _ _)
   | (with_reducible exact spec_AppendRecord.mono _ _ _ _ _ _)
   | (with_reducible exact spec_DrawAppendRecord.mono _ _)
   | (with_reducible exact spec_IsValidLog.mono _ _ _ _)
   | (with_reducible exact spec_IsValidRecord.mono _ _ _)
   | (with_reducible exact LeO.refl _)
   | (with_reducible exact LeO.none _)
   | (with_reducible refine LeO.ite ?_ ?_)
   | (with_reducible refine LeO.bind ?_ (fun _ => ?_))
   | exact ih0 _ _ _ _ _ _ _ _ _ _
   | exact ih1 _ _ _ _ _ _ _ _ _ _ _ _ _ _ _ _ _
   | exact ih2 _ _ _ _ _ _ _ _ _ _ _ _ _ _ _ _ _
   | exact impl_AppendRecord.mono _ _ _ _ _ _
   | exact impl_IsValidLog.mono _ _ _ _
   | exact impl_IsValidRecord.mono _ _ _
   | exact impl_LogRecords.mono _ _ _ _
   | exact impl_RecoverLog.mono _ _
   | exact impl_SyncLog.mono _ _ _ _
   | exact spec_AppendRecord.mono _ _ _ _ _ _
   | exact spec_DrawAppendRecord.mono _ _
   | exact spec_IsValidLog.mono _ _ _ _
   | exact spec_IsValidRecord.mono _ _ _
   | exact LeO.none _
   | refine LeO.ite ?_ ?_
   | refine LeO.bind ?_ (fun _ => ?_)
def laws_FnLog.T6 : Bool × List (List Nat × List Nat) := (true,[([],[]),([],[]),([0,1],[0,1]),([2],[2]),([3],[3]),([3],[3]),([4,5,3],[3,4,5]),([3,6],[3,6]),([7,3],[7]),([8],[8]),([9,8,8],[8,9]),([8],[8]),([11,10,8],[8,11]),([10,12,8],[8,10,12]),([8,13],[8,13]),([14,12],[14]),([15],[15]),([16,15,15],[15,16]),([15],[15]),([18,17,15],[15,18]),([17,19,15],[15,17,19]),([15,20],[15,20])])
def laws_FnLog.B6 : List Nat := [0,0,3,7,15,15,63,127,255,511,1023,511,4095,8191,16383,32767,65535,131071,65535,524287,1048575,2097151]
theorem laws_FnLog.tab6 : rtab .any (opsOf Tryd.f10 6) = laws_FnLog.T6 := by kernel_rfl
theorem laws_FnLog.bits6 : waitsOk laws_FnLog.T6.2 laws_FnLog.B6 = true := by kernel_rfl
def laws_FnLog.T19 : Bool × List (List Nat × List Nat) := (true,[([],[]),([],[]),([0,1],[0,1]),([2],[2]),([],[]),([],[]),([4,5],[4,5]),([6],[6]),([3,7],[3,7])])
def laws_FnLog.B19 : List Nat := [0,0,3,7,0,0,48,112,255]
theorem laws_FnLog.tab19 : rtab .any (opsOf Tryd.f10 19) = laws_FnLog.T19 := by kernel_rfl
theorem laws_FnLog.bits19 : waitsOk laws_FnLog.T19.2 laws_FnLog.B19 = true := by kernel_rfl
def laws_FnLog.T21 : Bool × List (List Nat × List Nat) := (true,[([],[]),([],[]),([1],[1]),([0,2],[0,2]),([3],[3]),([],[]),([4,5],[4,5]),([6],[6]),([7],[7]),([7,8],[7,8]),([9,7],[9]),([10],[10]),([10],[10]),([12,10],[10,12]),([10],[10]),([14,10],[10,14]),([13,15,10],[10,13,15]),([16,10],[10,16]),([11,17,10],[10,11,17]),([10,18],[10,18]),([19,10],[19]),([20],[20]),([20,21],[20,21]),([22,20],[22]),([23],[23]),([23],[23]),([24,25,23],[23,24,25]),([23,26],[23,26]),([27,23],[27]),([28],[28]),([29,28,28],[28,29]),([28,30],[28,30]),([31,30,0,1,2,3,4,5,6,7,8,9,10,11,12,13,14,15,16,17,18,19,20,21,22,23,24,25,26,27,28,29,30,31],[31])])
def laws_FnLog.B21 : List Nat := [0,0,2,7,15,0,63,127,255,511,1023,2047,2047,6143,2047,18431,63487,129023,262143,524287,1048575,2097151,4194303,8388607,16777215,16777215,67108863,134217727,268435455,536870911,1073741823,2147483647,4294967295]
theorem laws_FnLog.tab21 : rtab .any (opsOf Tryd.f10 21) = laws_FnLog.T21 := by kernel_rfl
theorem laws_FnLog.bits21 : waitsOk laws_FnLog.T21.2 laws_FnLog.B21 = true := by kernel_rfl
set_option maxHeartbeats 8000000 in
set_option maxRecDepth 100000 in
theorem laws_FnLog.calls (k : Nat) (A0 : Option Addr) (c0 : Nat) (l0 : List Int) (r : Bool) (w : World) (hr0 : Kd.C (Kd.int .u8) w A0 l0.length l0) (hc0 : l0.length ≤ c0) (hG : Gw w) (hr_ : r = true) (h : laws_FnLog.f k l0 = some r) :
  Calls Tryd.prog 10 #[.slice A0 l0.length c0] w fun e w' => e = .returned (.bool r) ∧ Below w.heap.size w w' := by
 have hu31 := Tryd.underlying31
 have hu27 := Tryd.underlying27
 have HR0 := Aside0.mk hr0
 have HC0 := Aside0.mk hc0
 clear hr0 hc0
 have HB := Aside0.mk (Below.refl w.heap.size w)
 have HG := Aside0.mk hG
 clear hG
 have H : ((laws_vBig.f l0).bind fun t372 => (if t372 = true then (some true) else ((spec_DrawAppendRecord.f k l0).bind fun bt373 => ((impl_AppendRecord.f k bt373.1 bt373.2.1 bt373.2.2.1 bt373.2.2.2.1 bt373.2.2.2.2).bind fun bt380 => ((spec_AppendRecord.f k bt373.1 bt373.2.1 bt373.2.2.1 bt373.2.2.2.1 bt373.2.2.2.2).bind fun bt385 => (if (!(bt380.1.toList == bt385.1.toList) || (!(bt380.2.1.toList == bt385.2.1.toList) || (!(bt380.2.2.1 == bt385.2.2.1)))) = true then (laws_FnLog.j0 k bt380.2.2.2 true bt373.1 bt373.2.1 bt373.2.2.1 bt373.2.2.2.1 bt373.2.2.2.2 bt380.1 bt380.2.1 bt380.2.2.1) else (if bt380.2.2.2 = bt385.2.2.2 then ((impl_IsValidLog.f k bt373.1 bt373.2.1 bt373.2.2.1).bind fun t390 => ((spec_IsValidLog.f k bt373.1 bt373.2.1 bt373.2.2.1).bind fun t391 => (if (t390 != t391) = true then (laws_FnLog.j0 k bt380.2.2.2 true bt373.1 bt373.2.1 bt373.2.2.1 bt373.2.2.2.1 bt373.2.2.2.2 bt380.1 bt380.2.1 bt380.2.2.1) else ((impl_IsValidRecord.f k bt373.2.2.2.1 bt373.2.2.2.2).bind fun t392 => ((spec_IsValidRecord.f k bt373.2.2.2.1 bt373.2.2.2.2).bind fun t393 => (laws_FnLog.j0 k bt380.2.2.2 (t392 != t393) bt373.1 bt373.2.1 bt373.2.2.1 bt373.2.2.2.1 bt373.2.2.2.2 bt380.1 bt380.2.1 bt380.2.2.1)))))) else (laws_FnLog.j0 k bt380.2.2.2 true bt373.1 bt373.2.1 bt373.2.2.1 bt373.2.2.2.1 bt373.2.2.2.2 bt380.1 bt380.2.1 bt380.2.2.1)))))))) = some r := h
 clear h
 replace H := Option.bind_eq_some_iff.mp H
 obtain ⟨t372,A20,H⟩ := H
 replace H : (if t372 = true then (some true) else ((spec_DrawAppendRecord.f k l0).bind fun bt373 => ((impl_AppendRecord.f k bt373.1 bt373.2.1 bt373.2.2.1 bt373.2.2.2.1 bt373.2.2.2.2).bind fun bt380 => ((spec_AppendRecord.f k bt373.1 bt373.2.1 bt373.2.2.1 bt373.2.2.2.1 bt373.2.2.2.2).bind fun bt385 => (if (!(bt380.1.toList == bt385.1.toList) || (!(bt380.2.1.toList == bt385.2.1.toList) || (!(bt380.2.2.1 == bt385.2.2.1)))) = true then (laws_FnLog.j0 k bt380.2.2.2 true bt373.1 bt373.2.1 bt373.2.2.1 bt373.2.2.2.1 bt373.2.2.2.2 bt380.1 bt380.2.1 bt380.2.2.1) else (if bt380.2.2.2 = bt385.2.2.2 then ((impl_IsValidLog.f k bt373.1 bt373.2.1 bt373.2.2.1).bind fun t390 => ((spec_IsValidLog.f k bt373.1 bt373.2.1 bt373.2.2.1).bind fun t391 => (if (t390 != t391) = true then (laws_FnLog.j0 k bt380.2.2.2 true bt373.1 bt373.2.1 bt373.2.2.1 bt373.2.2.2.1 bt373.2.2.2.2 bt380.1 bt380.2.1 bt380.2.2.1) else ((impl_IsValidRecord.f k bt373.2.2.2.1 bt373.2.2.2.2).bind fun t392 => ((spec_IsValidRecord.f k bt373.2.2.2.1 bt373.2.2.2.2).bind fun t393 => (laws_FnLog.j0 k bt380.2.2.2 (t392 != t393) bt373.1 bt373.2.1 bt373.2.2.1 bt373.2.2.2.1 bt373.2.2.2.2 bt380.1 bt380.2.1 bt380.2.2.1)))))) else (laws_FnLog.j0 k bt380.2.2.2 true bt373.1 bt373.2.1 bt373.2.2.1 bt373.2.2.2.1 bt373.2.2.2.2 bt380.1 bt380.2.1 bt380.2.2.1))))))) = some r := H
 have A2 := Aside0.mk A20
 clear A20
 by_cases c3 : t372 = true
 ·subst c3
  have H1 : (some true) = some r := by rw [if_pos rfl] at H;exact H
  clear H
  have H := H1
  clear H1
  obtain rfl := Option.some.inj H
  try clear hr_
  go_enter Tryd.func10,Tryd.ntmps10
  go_wp2_with (first|((with_reducible refine gate_callee (f := 35) rfl ?_);refine goesL_ (some 20) rfl rfl Tryd.func35 (by kernel_rfl) rfl #[.slice A0 l0.length c0] rfl (by (try simp only [List.map_toArray,List.map_cons,List.map_nil]);first|done|rfl|(simp only [List.length_drop,List.length_take];rfl)) ?_;(with_reducible refine (laws_vBig.calls _ _ l0 true _ ?side1 ?side2 A2.out).mono ?_);(case side1 => repeat (first|exact HR0.out|(with_reducible refine Kd.C_alloc ?_ _)|(with_reducible refine Kd.C_drewN ?_ _)|(with_reducible refine Kd.C_drew ?_)));(case side2 => exact HC0.out);rintro e w' ⟨rfl,⟨nd,rfl⟩⟩;refine ⟨_,rfl,?_⟩))
  go_ret
  exact ⟨by first|rfl|(simp [errW_none,errW_some] <;> rfl)|(simp [*,errW_none,errW_some] <;> rfl),by repeat (first|(with_reducible first|exact HB.out|apply lA|apply lN|apply lD)|exact HB.out)⟩
 ·replace c3 := Bool.eq_false_iff.mpr c3
  subst c3
  have H1 : ((spec_DrawAppendRecord.f k l0).bind fun bt373 => ((impl_AppendRecord.f k bt373.1 bt373.2.1 bt373.2.2.1 bt373.2.2.2.1 bt373.2.2.2.2).bind fun bt380 => ((spec_AppendRecord.f k bt373.1 bt373.2.1 bt373.2.2.1 bt373.2.2.2.1 bt373.2.2.2.2).bind fun bt385 => (if (!(bt380.1.toList == bt385.1.toList) || (!(bt380.2.1.toList == bt385.2.1.toList) || (!(bt380.2.2.1 == bt385.2.2.1)))) = true then (laws_FnLog.j0 k bt380.2.2.2 true bt373.1 bt373.2.1 bt373.2.2.1 bt373.2.2.2.1 bt373.2.2.2.2 bt380.1 bt380.2.1 bt380.2.2.1) else (if bt380.2.2.2 = bt385.2.2.2 then ((impl_IsValidLog.f k bt373.1 bt373.2.1 bt373.2.2.1).bind fun t390 => ((spec_IsValidLog.f k bt373.1 bt373.2.1 bt373.2.2.1).bind fun t391 => (if (t390 != t391) = true then (laws_FnLog.j0 k bt380.2.2.2 true bt373.1 bt373.2.1 bt373.2.2.1 bt373.2.2.2.1 bt373.2.2.2.2 bt380.1 bt380.2.1 bt380.2.2.1) else ((impl_IsValidRecord.f k bt373.2.2.2.1 bt373.2.2.2.2).bind fun t392 => ((spec_IsValidRecord.f k bt373.2.2.2.1 bt373.2.2.2.2).bind fun t393 => (laws_FnLog.j0 k bt380.2.2.2 (t392 != t393) bt373.1 bt373.2.1 bt373.2.2.1 bt373.2.2.2.1 bt373.2.2.2.2 bt380.1 bt380.2.1 bt380.2.2.1)))))) else (laws_FnLog.j0 k bt380.2.2.2 true bt373.1 bt373.2.1 bt373.2.2.1 bt373.2.2.2.1 bt373.2.2.2.2 bt380.1 bt380.2.1 bt380.2.2.1)))))) = some r := by rw [if_neg (show ¬ (false = true) by decide)] at H;exact H
  clear H
  have H := H1
  clear H1
  replace H := Option.bind_eq_some_iff.mp H
  obtain ⟨⟨t373,t374,t375,t376,t377⟩,A40,H⟩ := H
  replace H : ((impl_AppendRecord.f k t373 t374 t375 t376 t377).bind fun bt380 => ((spec_AppendRecord.f k t373 t374 t375 t376 t377).bind fun bt385 => (if (!(bt380.1.toList == bt385.1.toList) || (!(bt380.2.1.toList == bt385.2.1.toList) || (!(bt380.2.2.1 == bt385.2.2.1)))) = true then (laws_FnLog.j0 k bt380.2.2.2 true t373 t374 t375 t376 t377 bt380.1 bt380.2.1 bt380.2.2.1) else (if bt380.2.2.2 = bt385.2.2.2 then ((impl_IsValidLog.f k t373 t374 t375).bind fun t390 => ((spec_IsValidLog.f k t373 t374 t375).bind fun t391 => (if (t390 != t391) = true then (laws_FnLog.j0 k bt380.2.2.2 true t373 t374 t375 t376 t377 bt380.1 bt380.2.1 bt380.2.2.1) else ((impl_IsValidRecord.f k t376 t377).bind fun t392 => ((spec_IsValidRecord.f k t376 t377).bind fun t393 => (laws_FnLog.j0 k bt380.2.2.2 (t392 != t393) t373 t374 t375 t376 t377 bt380.1 bt380.2.1 bt380.2.2.1)))))) else (laws_FnLog.j0 k bt380.2.2.2 true t373 t374 t375 t376 t377 bt380.1 bt380.2.1 bt380.2.2.1))))) = some r := H
  have A4 := Aside0.mk A40
  clear A40
  replace H := Option.bind_eq_some_iff.mp H
  obtain ⟨⟨t380,t381,t382,t383⟩,A50,H⟩ := H
  replace H : ((spec_AppendRecord.f k t373 t374 t375 t376 t377).bind fun bt385 => (if (!(t380.toList == bt385.1.toList) || (!(t381.toList == bt385.2.1.toList) || (!(t382 == bt385.2.2.1)))) = true then (laws_FnLog.j0 k t383 true t373 t374 t375 t376 t377 t380 t381 t382) else (if t383 = bt385.2.2.2 then ((impl_IsValidLog.f k t373 t374 t375).bind fun t390 => ((spec_IsValidLog.f k t373 t374 t375).bind fun t391 => (if (t390 != t391) = true then (laws_FnLog.j0 k t383 true t373 t374 t375 t376 t377 t380 t381 t382) else ((impl_IsValidRecord.f k t376 t377).bind fun t392 => ((spec_IsValidRecord.f k t376 t377).bind fun t393 => (laws_FnLog.j0 k t383 (t392 != t393) t373 t374 t375 t376 t377 t380 t381 t382)))))) else (laws_FnLog.j0 k t383 true t373 t374 t375 t376 t377 t380 t381 t382)))) = some r := H
  have A5 := Aside0.mk A50
  clear A50
  replace H := Option.bind_eq_some_iff.mp H
  obtain ⟨⟨t385,t386,t387,t388⟩,A60,H⟩ := H
  replace H : (if (!(t380.toList == t385.toList) || (!(t381.toList == t386.toList) || (!(t382 == t387)))) = true then (laws_FnLog.j0 k t383 true t373 t374 t375 t376 t377 t380 t381 t382) else (if t383 = t388 then ((impl_IsValidLog.f k t373 t374 t375).bind fun t390 => ((spec_IsValidLog.f k t373 t374 t375).bind fun t391 => (if (t390 != t391) = true then (laws_FnLog.j0 k t383 true t373 t374 t375 t376 t377 t380 t381 t382) else ((impl_IsValidRecord.f k t376 t377).bind fun t392 => ((spec_IsValidRecord.f k t376 t377).bind fun t393 => (laws_FnLog.j0 k t383 (t392 != t393) t373 t374 t375 t376 t377 t380 t381 t382)))))) else (laws_FnLog.j0 k t383 true t373 t374 t375 t376 t377 t380 t381 t382))) = some r := H
  have A6 := Aside0.mk A60
  clear A60
  have HC7 := Aside0.mk H
  clear H
  go_enter Tryd.func10,Tryd.ntmps10
  go_upto_region 6 with (first|((with_reducible refine gate_callee (f := 35) rfl ?_);refine goesL_ (some 20) rfl rfl Tryd.func35 (by kernel_rfl) rfl #[.slice A0 l0.length c0] rfl (by (try simp only [List.map_toArray,List.map_cons,List.map_nil]);first|done|rfl|(simp only [List.length_drop,List.length_take];rfl)) ?_;(with_reducible refine (laws_vBig.calls _ _ l0 false _ ?side1 ?side2 A2.out).mono ?_);(case side1 => repeat (first|exact HR0.out|(with_reducible refine Kd.C_alloc ?_ _)|(with_reducible refine Kd.C_drewN ?_ _)|(with_reducible refine Kd.C_drew ?_)));(case side2 => exact HC0.out);rintro e w' ⟨rfl,⟨nd,rfl⟩⟩;refine ⟨_,rfl,?_⟩)|((with_reducible refine gate_callee (f := 36) rfl ?_);refine goesL_ (some 23) rfl rfl Tryd.func36 (by kernel_rfl) rfl #[.slice A0 l0.length c0] rfl (by (try simp only [List.map_toArray,List.map_cons,List.map_nil]);first|done|rfl|(simp only [List.length_drop,List.length_take];rfl)) ?_;(with_reducible refine (spec_DrawAppendRecord.calls k _ _ l0 t373 t374 t375 t376 t377 _ ?side1 ?side2 A4.out).mono ?_);(case side1 => repeat (first|exact HR0.out|(with_reducible refine Kd.C_alloc ?_ _)|(with_reducible refine Kd.C_drewN ?_ _)|(with_reducible refine Kd.C_drew ?_)));(case side2 => exact HC0.out);rintro e w8 ⟨rfl,hb⟩;refine ⟨_,rfl,?_⟩;have n0_ := Aside0.mk (below_step (by repeat (first|(with_reducible first|exact HB.out|apply lA|apply lN|apply lD)|exact HB.out)) hb);clear HB;have HB := n0_;clear n0_;(try clear hb);(try clear hb2);(try clear hk);(try clear hi))|((with_reducible refine gate_dst (N := 3) rfl ?_);(try (refine gate_guard (by rfl) ?_;dsimp only));refine box_event ?hg (N := 3) ?hd (cs := #[.string (⟨#[]⟩ : ByteArray),.string (⟨#[]⟩ : ByteArray),.int .i64 0]) (t := 31) ?hr ?_;(case hd => rfl);(case hg => rfl);(case hr => first|(go_simp;done)|(go_simp;rfl));intro gb378 hg w9 hbox hb;have n0_ := Aside0.mk (below_step (by repeat (first|(with_reducible first|exact HB.out|apply lA|apply lN|apply lD)|exact HB.out)) hb);have n1_ := Aside0.mk (hbox);have n2_ := Aside0.mk ((by rw [hg];exact (below_size (by repeat (first|(with_reducible first|exact HB.out|apply lA|apply lN|apply lD)|exact HB.out))) : w.heap.size ≤ gb378));have n3_ := Aside0.mk ((by rw [hg];exact (below_size (by repeat (first|(with_reducible first|exact HB.out|apply lA|apply lN|apply lD)|exact HB.out))) : w.heap.size ≤ gb378));clear HB;have HB := n0_;have BK378 := n1_;have GW378 := n2_;have GE378 := n3_;clear n0_ n1_ n2_ n3_;clear hb hbox hg)|((with_reducible refine gate_dst (N := 4) rfl ?_);(try (refine gate_guard (by rfl) ?_;dsimp only));refine box_event ?hg (N := 4) ?hd (cs := #[.string (⟨#[]⟩ : ByteArray),.string (⟨#[]⟩ : ByteArray)]) (t := 27) ?hr ?_;(case hd => rfl);(case hg => rfl);(case hr => first|(go_simp;done)|(go_simp;rfl));intro gb379 hg w10 hbox hb;have n0_ := Aside0.mk (blk_below (g := gb378) (o := .cells #[.string (⟨#[]⟩ : ByteArray),.string (⟨#[]⟩ : ByteArray),.int .i64 0] 31 (0,0)) (by (with_reducible repeat (first|refine bN ?_ _|refine bD ?_|refine bA ?_ _));exact BK378.out) hb);have n1_ := Aside0.mk (below_step (by repeat (first|(with_reducible first|exact HB.out|apply lA|apply lN|apply lD|refine below_set ?_ GE378.out)|exact HB.out)) hb);have n2_ := Aside0.mk (hbox);have n3_ := Aside0.mk ((by rw [hg];exact (below_size (by repeat (first|(with_reducible first|exact HB.out|apply lA|apply lN|apply lD|refine below_set ?_ GE378.out)|exact HB.out))) : w.heap.size ≤ gb379));have n4_ := Aside0.mk ((by rw [hg];exact (below_size (by repeat (first|(with_reducible first|exact HB.out|apply lA|apply lN|apply lD|refine below_set ?_ GE378.out)|exact HB.out))) : w.heap.size ≤ gb379));have n5_ := Aside0.mk ((by rw [hg];exact Nat.ne_of_lt (blk_lt (g := gb378) (o := .cells #[.string (⟨#[]⟩ : ByteArray),.string (⟨#[]⟩ : ByteArray),.int .i64 0] 31 (0,0)) (by (with_reducible repeat (first|refine bN ?_ _|refine bD ?_|refine bA ?_ _));exact BK378.out)) : gb378 ≠ gb379));have n6_ := Aside0.mk ((by rw [hg];exact Nat.ne_of_gt (blk_lt (g := gb378) (o := .cells #[.string (⟨#[]⟩ : ByteArray),.string (⟨#[]⟩ : ByteArray),.int .i64 0] 31 (0,0)) (by (with_reducible repeat (first|refine bN ?_ _|refine bD ?_|refine bA ?_ _));exact BK378.out)) : gb379 ≠ gb378));clear BK378;clear HB;have BK378 := n0_;have HB := n1_;have BK379 := n2_;have GW379 := n3_;have GE379 := n4_;have NB378_379 := n5_;have NB379_378 := n6_;clear n0_ n1_ n2_ n3_ n4_ n5_ n6_;clear hb hbox hg;have hnb11 := NB378_379.out;have hnc11 := NB379_378.out;have hcz12_0 : w10.cell? ⟨gb378,0,none⟩ = some (.string (⟨#[]⟩ : ByteArray)) := (blk_cell BK378.out 0).trans rfl;have hcz12_1 : w10.cell? ⟨gb378,1,none⟩ = some (.string (⟨#[]⟩ : ByteArray)) := (blk_cell BK378.out 1).trans rfl;have hcz12_2 : w10.cell? ⟨gb378,2,none⟩ = some (.int .i64 0) := (blk_cell BK378.out 2).trans rfl;have hfz12_0 := blk_frozen BK378.out 0;have hfz12_1 := blk_frozen BK378.out 1;have hfz12_2 := blk_frozen BK378.out 2;have hcz13_0 : w10.cell? ⟨gb379,0,none⟩ = some (.string (⟨#[]⟩ : ByteArray)) := (blk_cell BK379.out 0).trans rfl;have hcz13_1 : w10.cell? ⟨gb379,1,none⟩ = some (.string (⟨#[]⟩ : ByteArray)) := (blk_cell BK379.out 1).trans rfl;have hfz13_0 := blk_frozen BK379.out 0;have hfz13_1 := blk_frozen BK379.out 1)|((with_reducible refine gate_callee (f := 29) rfl ?_);refine goesL_ (some 29) rfl rfl Tryd.func29 (by kernel_rfl) rfl #[.agg #[.string t373,.string t374,.int .i64 t375],.agg #[.string t376,.string t377]] rfl (by (try simp only [List.map_toArray,List.map_cons,List.map_nil]);first|done|rfl|(simp only [List.length_drop,List.length_take];rfl)) ?_;(with_reducible refine (impl_AppendRecord.calls k t373 t374 t375 t376 t377 t380 t381 t382 t383 _ ?side1 A5.out).mono ?_);(case side1 => exact Gw.below HG.out (by repeat (first|(with_reducible first|exact HB.out|apply lA|apply lN|apply lD|refine below_set ?_ GE378.out|refine below_set ?_ GE379.out)|exact HB.out)));rintro e w14 ⟨rfl,hb⟩;refine ⟨_,rfl,?_⟩;have n0_ := Aside0.mk (blk_below (g := gb378) (o := .cells #[.string t373,.string t374,.int .i64 t375] 31 (0,0)) (by (with_reducible repeat (first|refine bN ?_ _|refine bD ?_|refine bA ?_ _));refine blk_far ?_ NB378_379.out _;(with_reducible repeat (first|refine bN ?_ _|refine bD ?_|refine bA ?_ _));refine blk_far ?_ NB378_379.out _;(with_reducible repeat (first|refine bN ?_ _|refine bD ?_|refine bA ?_ _));refine blk_put (cs := #[.string t373,.string t374,.int .i64 0]) ?_ 2 _ rfl;(with_reducible repeat (first|refine bN ?_ _|refine bD ?_|refine bA ?_ _));refine blk_put (cs := #[.string t373,.string (⟨#[]⟩ : ByteArray),.int .i64 0]) ?_ 1 _ rfl;(with_reducible repeat (first|refine bN ?_ _|refine bD ?_|refine bA ?_ _));refine blk_put (cs := #[.string (⟨#[]⟩ : ByteArray),.string (⟨#[]⟩ : ByteArray),.int .i64 0]) ?_ 0 _ rfl;(with_reducible repeat (first|refine bN ?_ _|refine bD ?_|refine bA ?_ _));exact BK378.out) hb);have n1_ := Aside0.mk (blk_below (g := gb379) (o := .cells #[.string t376,.string t377] 27 (0,0)) (by (with_reducible repeat (first|refine bN ?_ _|refine bD ?_|refine bA ?_ _));refine blk_put (cs := #[.string t376,.string (⟨#[]⟩ : ByteArray)]) ?_ 1 _ rfl;(with_reducible repeat (first|refine bN ?_ _|refine bD ?_|refine bA ?_ _));refine blk_put (cs := #[.string (⟨#[]⟩ : ByteArray),.string (⟨#[]⟩ : ByteArray)]) ?_ 0 _ rfl;(with_reducible repeat (first|refine bN ?_ _|refine bD ?_|refine bA ?_ _));refine blk_far ?_ NB379_378.out _;(with_reducible repeat (first|refine bN ?_ _|refine bD ?_|refine bA ?_ _));refine blk_far ?_ NB379_378.out _;(with_reducible repeat (first|refine bN ?_ _|refine bD ?_|refine bA ?_ _));refine blk_far ?_ NB379_378.out _;(with_reducible repeat (first|refine bN ?_ _|refine bD ?_|refine bA ?_ _));exact BK379.out) hb);have n2_ := Aside0.mk (below_step (by repeat (first|(with_reducible first|exact HB.out|apply lA|apply lN|apply lD|refine below_set ?_ GE378.out|refine below_set ?_ GE379.out)|exact HB.out)) hb);clear BK378;clear BK379;clear HB;have BK378 := n0_;have BK379 := n1_;have HB := n2_;clear n0_ n1_ n2_;(try clear hb);(try clear hb2);(try clear hk);(try clear hi))|((with_reducible refine gate_dst (N := 5) rfl ?_);(try (refine gate_guard (by rfl) ?_;dsimp only));refine box_event ?hg (N := 5) ?hd (cs := #[.string (⟨#[]⟩ : ByteArray),.string (⟨#[]⟩ : ByteArray),.int .i64 0]) (t := 31) ?hr ?_;(case hd => rfl);(case hg => rfl);(case hr => first|(go_simp;done)|(go_simp;rfl));intro gb384 hg w15 hbox hb;have n0_ := Aside0.mk (blk_below (g := gb378) (o := .cells #[.string t373,.string t374,.int .i64 t375] 31 (0,0)) (by (with_reducible repeat (first|refine bN ?_ _|refine bD ?_|refine bA ?_ _));exact BK378.out) hb);have n1_ := Aside0.mk (blk_below (g := gb379) (o := .cells #[.string t376,.string t377] 27 (0,0)) (by (with_reducible repeat (first|refine bN ?_ _|refine bD ?_|refine bA ?_ _));exact BK379.out) hb);have n2_ := Aside0.mk (below_step (by repeat (first|(with_reducible first|exact HB.out|apply lA|apply lN|apply lD|refine below_set ?_ GE378.out|refine below_set ?_ GE379.out)|exact HB.out)) hb);have n3_ := Aside0.mk (hbox);have n4_ := Aside0.mk ((by rw [hg];exact (below_size (by repeat (first|(with_reducible first|exact HB.out|apply lA|apply lN|apply lD|refine below_set ?_ GE378.out|refine below_set ?_ GE379.out)|exact HB.out))) : w.heap.size ≤ gb384));have n5_ := Aside0.mk ((by rw [hg];exact (below_size (by repeat (first|(with_reducible first|exact HB.out|apply lA|apply lN|apply lD|refine below_set ?_ GE378.out|refine below_set ?_ GE379.out)|exact HB.out))) : w.heap.size ≤ gb384));have n6_ := Aside0.mk ((by rw [hg];exact Nat.ne_of_lt (blk_lt (g := gb378) (o := .cells #[.string t373,.string t374,.int .i64 t375] 31 (0,0)) (by (with_reducible repeat (first|refine bN ?_ _|refine bD ?_|refine bA ?_ _));exact BK378.out)) : gb378 ≠ gb384));have n7_ := Aside0.mk ((by rw [hg];exact Nat.ne_of_gt (blk_lt (g := gb378) (o := .cells #[.string t373,.string t374,.int .i64 t375] 31 (0,0)) (by (with_reducible repeat (first|refine bN ?_ _|refine bD ?_|refine bA ?_ _));exact BK378.out)) : gb384 ≠ gb378));have n8_ := Aside0.mk ((by rw [hg];exact Nat.ne_of_lt (blk_lt (g := gb379) (o := .cells #[.string t376,.string t377] 27 (0,0)) (by (with_reducible repeat (first|refine bN ?_ _|refine bD ?_|refine bA ?_ _));exact BK379.out)) : gb379 ≠ gb384));have n9_ := Aside0.mk ((by rw [hg];exact Nat.ne_of_gt (blk_lt (g := gb379) (o := .cells #[.string t376,.string t377] 27 (0,0)) (by (with_reducible repeat (first|refine bN ?_ _|refine bD ?_|refine bA ?_ _));exact BK379.out)) : gb384 ≠ gb379));clear BK378;clear BK379;clear HB;have BK378 := n0_;have BK379 := n1_;have HB := n2_;have BK384 := n3_;have GW384 := n4_;have GE384 := n5_;have NB378_384 := n6_;have NB384_378 := n7_;have NB379_384 := n8_;have NB384_379 := n9_;clear n0_ n1_ n2_ n3_ n4_ n5_ n6_ n7_ n8_ n9_;clear hb hbox hg;have hnb16 := NB384_378.out;have hnc16 := NB378_384.out;have hnb17 := NB384_379.out;have hnc17 := NB379_384.out;have hcz18_0 : w15.cell? ⟨gb384,0,none⟩ = some (.string (⟨#[]⟩ : ByteArray)) := (blk_cell BK384.out 0).trans rfl;have hcz18_1 : w15.cell? ⟨gb384,1,none⟩ = some (.string (⟨#[]⟩ : ByteArray)) := (blk_cell BK384.out 1).trans rfl;have hcz18_2 : w15.cell? ⟨gb384,2,none⟩ = some (.int .i64 0) := (blk_cell BK384.out 2).trans rfl;have hfz18_0 := blk_frozen BK384.out 0;have hfz18_1 := blk_frozen BK384.out 1;have hfz18_2 := blk_frozen BK384.out 2;have hcz19_0 : w15.cell? ⟨gb378,0,none⟩ = some (.string t373) := (blk_cell BK378.out 0).trans rfl;have hcz19_1 : w15.cell? ⟨gb378,1,none⟩ = some (.string t374) := (blk_cell BK378.out 1).trans rfl;have hcz19_2 : w15.cell? ⟨gb378,2,none⟩ = some (.int .i64 t375) := (blk_cell BK378.out 2).trans rfl;have hfz19_0 := blk_frozen BK378.out 0;have hfz19_1 := blk_frozen BK378.out 1;have hfz19_2 := blk_frozen BK378.out 2;have hcz20_0 : w15.cell? ⟨gb379,0,none⟩ = some (.string t376) := (blk_cell BK379.out 0).trans rfl;have hcz20_1 : w15.cell? ⟨gb379,1,none⟩ = some (.string t377) := (blk_cell BK379.out 1).trans rfl;have hfz20_0 := blk_frozen BK379.out 0;have hfz20_1 := blk_frozen BK379.out 1)|((with_reducible refine gate_callee (f := 28) rfl ?_);refine goesL_ (some 35) rfl rfl Tryd.func28 (by kernel_rfl) rfl #[.agg #[.string t373,.string t374,.int .i64 t375],.agg #[.string t376,.string t377]] rfl (by (try simp only [List.map_toArray,List.map_cons,List.map_nil]);first|done|rfl|(simp only [List.length_drop,List.length_take];rfl)) ?_;(with_reducible refine (spec_AppendRecord.calls k t373 t374 t375 t376 t377 t385 t386 t387 t388 _ A6.out).mono ?_);rintro e w21 ⟨rfl,hb⟩;refine ⟨_,rfl,?_⟩;have n0_ := Aside0.mk (blk_below (g := gb378) (o := .cells #[.string t373,.string t374,.int .i64 t375] 31 (0,0)) (by (with_reducible repeat (first|refine bN ?_ _|refine bD ?_|refine bA ?_ _));refine blk_far ?_ NB378_384.out _;(with_reducible repeat (first|refine bN ?_ _|refine bD ?_|refine bA ?_ _));refine blk_far ?_ NB378_384.out _;(with_reducible repeat (first|refine bN ?_ _|refine bD ?_|refine bA ?_ _));refine blk_far ?_ NB378_384.out _;(with_reducible repeat (first|refine bN ?_ _|refine bD ?_|refine bA ?_ _));exact BK378.out) hb);have n1_ := Aside0.mk (blk_below (g := gb379) (o := .cells #[.string t376,.string t377] 27 (0,0)) (by (with_reducible repeat (first|refine bN ?_ _|refine bD ?_|refine bA ?_ _));refine blk_far ?_ NB379_384.out _;(with_reducible repeat (first|refine bN ?_ _|refine bD ?_|refine bA ?_ _));refine blk_far ?_ NB379_384.out _;(with_reducible repeat (first|refine bN ?_ _|refine bD ?_|refine bA ?_ _));refine blk_far ?_ NB379_384.out _;(with_reducible repeat (first|refine bN ?_ _|refine bD ?_|refine bA ?_ _));exact BK379.out) hb);have n2_ := Aside0.mk (blk_below (g := gb384) (o := .cells #[.string t380,.string t381,.int .i64 t382] 31 (0,0)) (by (with_reducible repeat (first|refine bN ?_ _|refine bD ?_|refine bA ?_ _));refine blk_put (cs := #[.string t380,.string t381,.int .i64 0]) ?_ 2 _ rfl;(with_reducible repeat (first|refine bN ?_ _|refine bD ?_|refine bA ?_ _));refine blk_put (cs := #[.string t380,.string (⟨#[]⟩ : ByteArray),.int .i64 0]) ?_ 1 _ rfl;(with_reducible repeat (first|refine bN ?_ _|refine bD ?_|refine bA ?_ _));refine blk_put (cs := #[.string (⟨#[]⟩ : ByteArray),.string (⟨#[]⟩ : ByteArray),.int .i64 0]) ?_ 0 _ rfl;(with_reducible repeat (first|refine bN ?_ _|refine bD ?_|refine bA ?_ _));exact BK384.out) hb);have n3_ := Aside0.mk (below_step (by repeat (first|(with_reducible first|exact HB.out|apply lA|apply lN|apply lD|refine below_set ?_ GE378.out|refine below_set ?_ GE379.out|refine below_set ?_ GE384.out)|exact HB.out)) hb);clear BK378;clear BK379;clear BK384;clear HB;have BK378 := n0_;have BK379 := n1_;have BK384 := n2_;have HB := n3_;clear n0_ n1_ n2_ n3_;(try clear hb);(try clear hb2);(try clear hk);(try clear hi))|((with_reducible refine gate_dst (N := 7) rfl ?_);(try (refine gate_guard (by rfl) ?_;dsimp only));refine box_event ?hg (N := 7) ?hd (cs := #[.string (⟨#[]⟩ : ByteArray),.string (⟨#[]⟩ : ByteArray),.int .i64 0]) (t := 31) ?hr ?_;(case hd => rfl);(case hg => rfl);(case hr => first|(go_simp;done)|(go_simp;rfl));intro gb389 hg w22 hbox hb;have n0_ := Aside0.mk (blk_below (g := gb378) (o := .cells #[.string t373,.string t374,.int .i64 t375] 31 (0,0)) (by (with_reducible repeat (first|refine bN ?_ _|refine bD ?_|refine bA ?_ _));exact BK378.out) hb);have n1_ := Aside0.mk (blk_below (g := gb379) (o := .cells #[.string t376,.string t377] 27 (0,0)) (by (with_reducible repeat (first|refine bN ?_ _|refine bD ?_|refine bA ?_ _));exact BK379.out) hb);have n2_ := Aside0.mk (blk_below (g := gb384) (o := .cells #[.string t380,.string t381,.int .i64 t382] 31 (0,0)) (by (with_reducible repeat (first|refine bN ?_ _|refine bD ?_|refine bA ?_ _));exact BK384.out) hb);have n3_ := Aside0.mk (below_step (by repeat (first|(with_reducible first|exact HB.out|apply lA|apply lN|apply lD|refine below_set ?_ GE378.out|refine below_set ?_ GE379.out|refine below_set ?_ GE384.out)|exact HB.out)) hb);have n4_ := Aside0.mk (hbox);have n5_ := Aside0.mk ((by rw [hg];exact (below_size (by repeat (first|(with_reducible first|exact HB.out|apply lA|apply lN|apply lD|refine below_set ?_ GE378.out|refine below_set ?_ GE379.out|refine below_set ?_ GE384.out)|exact HB.out))) : w.heap.size ≤ gb389));have n6_ := Aside0.mk ((by rw [hg];exact (below_size (by repeat (first|(with_reducible first|exact HB.out|apply lA|apply lN|apply lD|refine below_set ?_ GE378.out|refine below_set ?_ GE379.out|refine below_set ?_ GE384.out)|exact HB.out))) : w.heap.size ≤ gb389));have n7_ := Aside0.mk ((by rw [hg];exact Nat.ne_of_lt (blk_lt (g := gb378) (o := .cells #[.string t373,.string t374,.int .i64 t375] 31 (0,0)) (by (with_reducible repeat (first|refine bN ?_ _|refine bD ?_|refine bA ?_ _));exact BK378.out)) : gb378 ≠ gb389));have n8_ := Aside0.mk ((by rw [hg];exact Nat.ne_of_gt (blk_lt (g := gb378) (o := .cells #[.string t373,.string t374,.int .i64 t375] 31 (0,0)) (by (with_reducible repeat (first|refine bN ?_ _|refine bD ?_|refine bA ?_ _));exact BK378.out)) : gb389 ≠ gb378));have n9_ := Aside0.mk ((by rw [hg];exact Nat.ne_of_lt (blk_lt (g := gb379) (o := .cells #[.string t376,.string t377] 27 (0,0)) (by (with_reducible repeat (first|refine bN ?_ _|refine bD ?_|refine bA ?_ _));exact BK379.out)) : gb379 ≠ gb389));have n10_ := Aside0.mk ((by rw [hg];exact Nat.ne_of_gt (blk_lt (g := gb379) (o := .cells #[.string t376,.string t377] 27 (0,0)) (by (with_reducible repeat (first|refine bN ?_ _|refine bD ?_|refine bA ?_ _));exact BK379.out)) : gb389 ≠ gb379));have n11_ := Aside0.mk ((by rw [hg];exact Nat.ne_of_lt (blk_lt (g := gb384) (o := .cells #[.string t380,.string t381,.int .i64 t382] 31 (0,0)) (by (with_reducible repeat (first|refine bN ?_ _|refine bD ?_|refine bA ?_ _));exact BK384.out)) : gb384 ≠ gb389));have n12_ := Aside0.mk ((by rw [hg];exact Nat.ne_of_gt (blk_lt (g := gb384) (o := .cells #[.string t380,.string t381,.int .i64 t382] 31 (0,0)) (by (with_reducible repeat (first|refine bN ?_ _|refine bD ?_|refine bA ?_ _));exact BK384.out)) : gb389 ≠ gb384));clear BK378;clear BK379;clear BK384;clear HB;have BK378 := n0_;have BK379 := n1_;have BK384 := n2_;have HB := n3_;have BK389 := n4_;have GW389 := n5_;have GE389 := n6_;have NB378_389 := n7_;have NB389_378 := n8_;have NB379_389 := n9_;have NB389_379 := n10_;have NB384_389 := n11_;have NB389_384 := n12_;clear n0_ n1_ n2_ n3_ n4_ n5_ n6_ n7_ n8_ n9_ n10_ n11_ n12_;clear hb hbox hg;have hnb23 := NB389_378.out;have hnc23 := NB378_389.out;have hnb24 := NB389_379.out;have hnc24 := NB379_389.out;have hnb25 := NB389_384.out;have hnc25 := NB384_389.out;have hcz26_0 : w22.cell? ⟨gb389,0,none⟩ = some (.string (⟨#[]⟩ : ByteArray)) := (blk_cell BK389.out 0).trans rfl;have hcz26_1 : w22.cell? ⟨gb389,1,none⟩ = some (.string (⟨#[]⟩ : ByteArray)) := (blk_cell BK389.out 1).trans rfl;have hcz26_2 : w22.cell? ⟨gb389,2,none⟩ = some (.int .i64 0) := (blk_cell BK389.out 2).trans rfl;have hfz26_0 := blk_frozen BK389.out 0;have hfz26_1 := blk_frozen BK389.out 1;have hfz26_2 := blk_frozen BK389.out 2))
  (try simp only [Act.put,List.setIfInBounds_toArray,List.set_cons_zero,List.set_cons_succ])
  go_cut [59] (fun v59 wc => ∃ (kq : Nat) (x59_6 : Bool),v59 = .bool x59_6 ∧ Aside0 (laws_FnLog.j0 kq t383 x59_6 t373 t374 t375 t376 t377 t380 t381 t382 = some r) ∧ Aside0 (kq ≤ k) ∧ Aside0 (wc.heap[gb378]? = some (.cells #[.string t373,.string t374,.int .i64 t375] 31 (0,0))) ∧ Aside0 (wc.heap[gb379]? = some (.cells #[.string t376,.string t377] 27 (0,0))) ∧ Aside0 (wc.heap[gb384]? = some (.cells #[.string t380,.string t381,.int .i64 t382] 31 (0,0))) ∧ Aside0 (wc.heap[gb389]? = some (.cells #[.string t385,.string t386,.int .i64 t387] 31 (0,0))) ∧ Aside0 (Below w.heap.size w wc))
  case first =>
   have H := HC7.out
   clear HC7
   by_cases c27 : (!(t380.toList == t385.toList) || (!(t381.toList == t386.toList) || (!(t382 == t387)))) = true
   ·rw [if_pos c27] at H
    have c27b0 : (!(t380.toList == t385.toList) || (!(t381.toList == t386.toList) || (!(t382 == t387)))) = true := c27
    clear c27
    (first|rw [c27b0]|(simp only [i64_w,i32_w];rw [c27b0])|skip)
    have H' := Aside0.mk H
    clear H
    try go_wp2
    have n0_ : Aside0 ((((w22.setCell ⟨gb389,0,none⟩ (.string t385)).setCell ⟨gb389,1,none⟩ (.string t386)).setCell ⟨gb389,2,none⟩ (.int .i64 t387)).heap[gb378]? = some (.cells #[.string t373,.string t374,.int .i64 t375] 31 (0,0))) := ⟨by (with_reducible repeat (first|refine bN ?_ _|refine bD ?_|refine bA ?_ _));refine blk_far ?_ NB378_389.out _;(with_reducible repeat (first|refine bN ?_ _|refine bD ?_|refine bA ?_ _));refine blk_far ?_ NB378_389.out _;(with_reducible repeat (first|refine bN ?_ _|refine bD ?_|refine bA ?_ _));refine blk_far ?_ NB378_389.out _;(with_reducible repeat (first|refine bN ?_ _|refine bD ?_|refine bA ?_ _));exact BK378.out⟩
    have n1_ : Aside0 ((((w22.setCell ⟨gb389,0,none⟩ (.string t385)).setCell ⟨gb389,1,none⟩ (.string t386)).setCell ⟨gb389,2,none⟩ (.int .i64 t387)).heap[gb379]? = some (.cells #[.string t376,.string t377] 27 (0,0))) := ⟨by (with_reducible repeat (first|refine bN ?_ _|refine bD ?_|refine bA ?_ _));refine blk_far ?_ NB379_389.out _;(with_reducible repeat (first|refine bN ?_ _|refine bD ?_|refine bA ?_ _));refine blk_far ?_ NB379_389.out _;(with_reducible repeat (first|refine bN ?_ _|refine bD ?_|refine bA ?_ _));refine blk_far ?_ NB379_389.out _;(with_reducible repeat (first|refine bN ?_ _|refine bD ?_|refine bA ?_ _));exact BK379.out⟩
    have n2_ : Aside0 ((((w22.setCell ⟨gb389,0,none⟩ (.string t385)).setCell ⟨gb389,1,none⟩ (.string t386)).setCell ⟨gb389,2,none⟩ (.int .i64 t387)).heap[gb384]? = some (.cells #[.string t380,.string t381,.int .i64 t382] 31 (0,0))) := ⟨by (with_reducible repeat (first|refine bN ?_ _|refine bD ?_|refine bA ?_ _));refine blk_far ?_ NB384_389.out _;(with_reducible repeat (first|refine bN ?_ _|refine bD ?_|refine bA ?_ _));refine blk_far ?_ NB384_389.out _;(with_reducible repeat (first|refine bN ?_ _|refine bD ?_|refine bA ?_ _));refine blk_far ?_ NB384_389.out _;(with_reducible repeat (first|refine bN ?_ _|refine bD ?_|refine bA ?_ _));exact BK384.out⟩
    have n3_ : Aside0 ((((w22.setCell ⟨gb389,0,none⟩ (.string t385)).setCell ⟨gb389,1,none⟩ (.string t386)).setCell ⟨gb389,2,none⟩ (.int .i64 t387)).heap[gb389]? = some (.cells #[.string t385,.string t386,.int .i64 t387] 31 (0,0))) := ⟨by (with_reducible repeat (first|refine bN ?_ _|refine bD ?_|refine bA ?_ _));refine blk_put (cs := #[.string t385,.string t386,.int .i64 0]) ?_ 2 _ rfl;(with_reducible repeat (first|refine bN ?_ _|refine bD ?_|refine bA ?_ _));refine blk_put (cs := #[.string t385,.string (⟨#[]⟩ : ByteArray),.int .i64 0]) ?_ 1 _ rfl;(with_reducible repeat (first|refine bN ?_ _|refine bD ?_|refine bA ?_ _));refine blk_put (cs := #[.string (⟨#[]⟩ : ByteArray),.string (⟨#[]⟩ : ByteArray),.int .i64 0]) ?_ 0 _ rfl;(with_reducible repeat (first|refine bN ?_ _|refine bD ?_|refine bA ?_ _));exact BK389.out⟩
    have n4_ : Aside0 (Below w.heap.size w (((w22.setCell ⟨gb389,0,none⟩ (.string t385)).setCell ⟨gb389,1,none⟩ (.string t386)).setCell ⟨gb389,2,none⟩ (.int .i64 t387))) := ⟨by repeat (first|(with_reducible first|exact HB.out|apply lA|apply lN|apply lD|refine below_set ?_ GE378.out|refine below_set ?_ GE379.out|refine below_set ?_ GE384.out|refine below_set ?_ GE389.out)|exact HB.out)⟩
    (try clear BK378)
    (try clear BK379)
    (try clear BK384)
    (try clear BK389)
    (try clear HB)
    generalize (((w22.setCell ⟨gb389,0,none⟩ (.string t385)).setCell ⟨gb389,1,none⟩ (.string t386)).setCell ⟨gb389,2,none⟩ (.int .i64 t387)) = w28 at n0_ n1_ n2_ n3_ n4_ ⊢
    have BK378 := n0_
    have BK379 := n1_
    have BK384 := n2_
    have BK389 := n3_
    have HB := n4_
    clear n0_ n1_ n2_ n3_ n4_
    have n0_ := Aside0.mk (bD BK378.out)
    have n1_ := Aside0.mk (bD BK379.out)
    have n2_ := Aside0.mk (bD BK384.out)
    have n3_ := Aside0.mk (bD BK389.out)
    have n4_ := Aside0.mk (lD HB.out)
    clear BK378
    clear BK379
    clear BK384
    clear BK389
    clear HB
    have BK378 := n0_
    have BK379 := n1_
    have BK384 := n2_
    have BK389 := n3_
    have HB := n4_
    clear n0_ n1_ n2_ n3_ n4_
    refine start_ (n := 22) (S := fun w' => w'.cell? ⟨gb384,0,none⟩ = some (.string t380) ∧ w'.cell? ⟨gb384,1,none⟩ = some (.string t381) ∧ w'.cell? ⟨gb384,2,none⟩ = some (.int .i64 t382) ∧ w'.cell? ⟨gb389,0,none⟩ = some (.string t385) ∧ w'.cell? ⟨gb389,1,none⟩ = some (.string t386) ∧ w'.cell? ⟨gb389,2,none⟩ = some (.int .i64 t387)) (ds := []) #[false,false,false,false,false,false,false,false,false,false,false,false,false,false,false,false,false,false,false,false,false,false] (by kernel_rfl) rfl rfl ⟨(blk_cell BK384.out 0).trans rfl,(blk_cell BK384.out 1).trans rfl,(blk_cell BK384.out 2).trans rfl,(blk_cell BK389.out 0).trans rfl,(blk_cell BK389.out 1).trans rfl,(blk_cell BK389.out 2).trans rfl⟩ (fun hHeld => ?_);refine with_tabW laws_FnLog.tab6 laws_FnLog.bits6 (fun HT_ HW_ => ?_)
    generalize w28.drew = w29 at BK378 BK379 BK384 BK389 HB hHeld ⊢
    refine take_ (i := 0) (N := some 38) (v := ?_) (a' := ?_) #[true,false,false,false,false,false,false,false,false,false,false,false,false,false,false,false,false,false,false,false,false,false] rfl rfl (take_ofW HT_.out HW_.out (by kernel_rfl)) (fun _ _ _ h => h) (Or.inl ⟨by rfl,?_⟩) hHeld ?_ ?_
    rotate_left
    ·rintro w' ⟨s0,s1,s2,s3,s4,s5⟩
     go_simp
     with_reducible rfl
    rotate_left
    ·simp only [Act.put,List.setIfInBounds_toArray,List.set_cons_zero,List.set_cons_succ,i64_w,i32_w]
     rfl
    refine take_ (i := 1) (N := some 39) (v := ?_) (a' := ?_) #[true,true,false,false,false,false,false,false,false,false,false,false,false,false,false,false,false,false,false,false,false,false] rfl rfl (take_ofW HT_.out HW_.out (by kernel_rfl)) (fun _ _ _ h => h) (Or.inl ⟨by rfl,?_⟩) hHeld ?_ ?_
    rotate_left
    ·rintro w' ⟨s0,s1,s2,s3,s4,s5⟩
     go_simp
     with_reducible rfl
    rotate_left
    ·simp only [Act.put,List.setIfInBounds_toArray,List.set_cons_zero,List.set_cons_succ,i64_w,i32_w]
     rfl
    refine pure_ (i := 2) (N := some 40) (v := ?_) (a' := ?_) #[true,true,true,false,false,false,false,false,false,false,false,false,false,false,false,false,false,false,false,false,false,false] rfl rfl (any_of HT_.out (by kernel_rfl)) (fun _ _ _ h => h) (Or.inl ⟨by rfl,?_⟩) ?_ ?_
    rotate_left
    ·intro w'
     go_simp
     with_reducible rfl
    rotate_left
    ·simp only [Act.put,List.setIfInBounds_toArray,List.set_cons_zero,List.set_cons_succ,i64_w,i32_w]
     rfl
    refine pure_ (i := 3) (N := some 41) (v := ?_) (a' := ?_) #[true,true,true,true,false,false,false,false,false,false,false,false,false,false,false,false,false,false,false,false,false,false] rfl rfl (any_of HT_.out (by kernel_rfl)) (fun _ _ _ h => h) (Or.inl ⟨by rfl,?_⟩) ?_ ?_
    rotate_left
    ·intro w'
     go_simp
     with_reducible rfl
    rotate_left
    ·simp only [Act.put,List.setIfInBounds_toArray,List.set_cons_zero,List.set_cons_succ,i64_w,i32_w]
     rfl
    refine pure_ (i := 4) (N := some 42) (v := undef) (a' := ?_) #[true,true,true,true,true,false,false,false,false,false,false,false,false,false,false,false,false,false,false,false,false,false] rfl rfl (any_of HT_.out (by kernel_rfl)) (fun _ _ _ h => h) (Or.inr ⟨by rfl,rfl⟩) ?_ ?_
    rotate_left
    ·simp only [Act.put,List.setIfInBounds_toArray,List.set_cons_zero,List.set_cons_succ,i64_w,i32_w]
     rfl
    refine pure_ (i := 5) (N := some 43) (v := undef) (a' := ?_) #[true,true,true,true,true,true,false,false,false,false,false,false,false,false,false,false,false,false,false,false,false,false] rfl rfl (any_of HT_.out (by kernel_rfl)) (fun _ _ _ h => h) (Or.inr ⟨by rfl,rfl⟩) ?_ ?_
    rotate_left
    ·simp only [Act.put,List.setIfInBounds_toArray,List.set_cons_zero,List.set_cons_succ,i64_w,i32_w]
     rfl
    refine pure_ (i := 6) (N := some 44) (v := undef) (a' := ?_) #[true,true,true,true,true,true,true,false,false,false,false,false,false,false,false,false,false,false,false,false,false,false] rfl rfl (any_of HT_.out (by kernel_rfl)) (fun _ _ _ h => h) (Or.inr ⟨by rfl,rfl⟩) ?_ ?_
    rotate_left
    ·simp only [Act.put,List.setIfInBounds_toArray,List.set_cons_zero,List.set_cons_succ,i64_w,i32_w]
     rfl
    refine pure_ (i := 7) (N := some 45) (v := ?_) (a' := ?_) #[true,true,true,true,true,true,true,true,false,false,false,false,false,false,false,false,false,false,false,false,false,false] rfl rfl (any_of HT_.out (by kernel_rfl)) (fun _ _ _ h => h) (Or.inl ⟨by rfl,?_⟩) ?_ ?_
    rotate_left
    ·intro w'
     go_simp
     with_reducible rfl
    rotate_left
    ·simp only [Act.put,List.setIfInBounds_toArray,List.set_cons_zero,List.set_cons_succ,i64_w,i32_w]
     rfl
    refine pure_ (i := 8) (N := some 46) (v := ?_) (a' := ?_) #[true,true,true,true,true,true,true,true,true,false,false,false,false,false,false,false,false,false,false,false,false,false] rfl rfl (any_of HT_.out (by kernel_rfl)) (fun _ _ _ h => h) (Or.inl ⟨by rfl,?_⟩) ?_ ?_
    rotate_left
    ·intro w'
     go_simp
     with_reducible rfl
    rotate_left
    ·simp only [Act.put,List.setIfInBounds_toArray,List.set_cons_zero,List.set_cons_succ,i64_w,i32_w]
     rfl
    refine pure_ (i := 9) (N := some 47) (v := undef) (a' := ?_) #[true,true,true,true,true,true,true,true,true,true,false,false,false,false,false,false,false,false,false,false,false,false] rfl rfl (any_of HT_.out (by kernel_rfl)) (fun _ _ _ h => h) (Or.inr ⟨by rfl,rfl⟩) ?_ ?_
    rotate_left
    ·simp only [Act.put,List.setIfInBounds_toArray,List.set_cons_zero,List.set_cons_succ,i64_w,i32_w]
     rfl
    refine pure_ (i := 10) (N := some 48) (v := undef) (a' := ?_) #[true,true,true,true,true,true,true,true,true,true,true,false,false,false,false,false,false,false,false,false,false,false] rfl rfl (any_of HT_.out (by kernel_rfl)) (fun _ _ _ h => h) (Or.inr ⟨by rfl,rfl⟩) ?_ ?_
    rotate_left
    ·simp only [Act.put,List.setIfInBounds_toArray,List.set_cons_zero,List.set_cons_succ,i64_w,i32_w]
     rfl
    refine pure_ (i := 11) (N := some 49) (v := undef) (a' := ?_) #[true,true,true,true,true,true,true,true,true,true,true,true,false,false,false,false,false,false,false,false,false,false] rfl rfl (any_of HT_.out (by kernel_rfl)) (fun _ _ _ h => h) (Or.inr ⟨by rfl,rfl⟩) ?_ ?_
    rotate_left
    ·simp only [Act.put,List.setIfInBounds_toArray,List.set_cons_zero,List.set_cons_succ,i64_w,i32_w]
     rfl
    refine pure_ (i := 12) (N := some 50) (v := undef) (a' := ?_) #[true,true,true,true,true,true,true,true,true,true,true,true,true,false,false,false,false,false,false,false,false,false] rfl rfl (any_of HT_.out (by kernel_rfl)) (fun _ _ _ h => h) (Or.inr ⟨by rfl,rfl⟩) ?_ ?_
    rotate_left
    ·simp only [Act.put,List.setIfInBounds_toArray,List.set_cons_zero,List.set_cons_succ,i64_w,i32_w]
     rfl
    refine pure_ (i := 13) (N := some 51) (v := undef) (a' := ?_) #[true,true,true,true,true,true,true,true,true,true,true,true,true,true,false,false,false,false,false,false,false,false] rfl rfl (any_of HT_.out (by kernel_rfl)) (fun _ _ _ h => h) (Or.inr ⟨by rfl,rfl⟩) ?_ ?_
    rotate_left
    ·simp only [Act.put,List.setIfInBounds_toArray,List.set_cons_zero,List.set_cons_succ,i64_w,i32_w]
     rfl
    refine pure_ (i := 14) (N := some 52) (v := ?_) (a' := ?_) #[true,true,true,true,true,true,true,true,true,true,true,true,true,true,true,false,false,false,false,false,false,false] rfl rfl (any_of HT_.out (by kernel_rfl)) (fun _ _ _ h => h) (Or.inl ⟨by rfl,?_⟩) ?_ ?_
    rotate_left
    ·intro w'
     go_simp
     with_reducible rfl
    rotate_left
    ·simp only [Act.put,List.setIfInBounds_toArray,List.set_cons_zero,List.set_cons_succ,i64_w,i32_w]
     rfl
    refine pure_ (i := 15) (N := some 53) (v := ?_) (a' := ?_) #[true,true,true,true,true,true,true,true,true,true,true,true,true,true,true,true,false,false,false,false,false,false] rfl rfl (any_of HT_.out (by kernel_rfl)) (fun _ _ _ h => h) (Or.inl ⟨by rfl,?_⟩) ?_ ?_
    rotate_left
    ·intro w'
     go_simp
     with_reducible rfl
    rotate_left
    ·simp only [Act.put,List.setIfInBounds_toArray,List.set_cons_zero,List.set_cons_succ,i64_w,i32_w]
     rfl
    refine pure_ (i := 16) (N := some 54) (v := undef) (a' := ?_) #[true,true,true,true,true,true,true,true,true,true,true,true,true,true,true,true,true,false,false,false,false,false] rfl rfl (any_of HT_.out (by kernel_rfl)) (fun _ _ _ h => h) (Or.inr ⟨by rfl,rfl⟩) ?_ ?_
    rotate_left
    ·simp only [Act.put,List.setIfInBounds_toArray,List.set_cons_zero,List.set_cons_succ,i64_w,i32_w]
     rfl
    refine pure_ (i := 17) (N := some 55) (v := undef) (a' := ?_) #[true,true,true,true,true,true,true,true,true,true,true,true,true,true,true,true,true,true,false,false,false,false] rfl rfl (any_of HT_.out (by kernel_rfl)) (fun _ _ _ h => h) (Or.inr ⟨by rfl,rfl⟩) ?_ ?_
    rotate_left
    ·simp only [Act.put,List.setIfInBounds_toArray,List.set_cons_zero,List.set_cons_succ,i64_w,i32_w]
     rfl
    refine pure_ (i := 18) (N := some 56) (v := undef) (a' := ?_) #[true,true,true,true,true,true,true,true,true,true,true,true,true,true,true,true,true,true,true,false,false,false] rfl rfl (any_of HT_.out (by kernel_rfl)) (fun _ _ _ h => h) (Or.inr ⟨by rfl,rfl⟩) ?_ ?_
    rotate_left
    ·simp only [Act.put,List.setIfInBounds_toArray,List.set_cons_zero,List.set_cons_succ,i64_w,i32_w]
     rfl
    refine pure_ (i := 19) (N := some 57) (v := undef) (a' := ?_) #[true,true,true,true,true,true,true,true,true,true,true,true,true,true,true,true,true,true,true,true,false,false] rfl rfl (any_of HT_.out (by kernel_rfl)) (fun _ _ _ h => h) (Or.inr ⟨by rfl,rfl⟩) ?_ ?_
    rotate_left
    ·simp only [Act.put,List.setIfInBounds_toArray,List.set_cons_zero,List.set_cons_succ,i64_w,i32_w]
     rfl
    refine pure_ (i := 20) (N := some 58) (v := undef) (a' := ?_) #[true,true,true,true,true,true,true,true,true,true,true,true,true,true,true,true,true,true,true,true,true,false] rfl rfl (any_of HT_.out (by kernel_rfl)) (fun _ _ _ h => h) (Or.inr ⟨by rfl,rfl⟩) ?_ ?_
    rotate_left
    ·simp only [Act.put,List.setIfInBounds_toArray,List.set_cons_zero,List.set_cons_succ,i64_w,i32_w]
     rfl
    refine pure_ (i := 21) (N := some 59) (v := ?_) (a' := ?_) #[true,true,true,true,true,true,true,true,true,true,true,true,true,true,true,true,true,true,true,true,true,true] rfl rfl (any_of HT_.out (by kernel_rfl)) (fun _ _ _ h => h) (Or.inl ⟨by rfl,?_⟩) ?_ ?_
    rotate_left
    ·intro w'
     go_simp
     with_reducible rfl
    rotate_left
    ·simp only [Act.put,List.setIfInBounds_toArray,List.set_cons_zero,List.set_cons_succ,i64_w,i32_w]
     rfl
    refine done_ (done_of HT_.out (by kernel_rfl)) ?_
    try go_wp2
    go_meet
    case rel => exact ⟨_,(true),(by first|rfl|(simp;done)|(simp [my_isEmpty];done)|(simp [*];done)),H',⟨by first|omega|exact Nat.le_refl _⟩,⟨by (with_reducible repeat (first|refine bN ?_ _|refine bD ?_|refine bA ?_ _));exact BK378.out⟩,⟨by (with_reducible repeat (first|refine bN ?_ _|refine bD ?_|refine bA ?_ _));exact BK379.out⟩,⟨by (with_reducible repeat (first|refine bN ?_ _|refine bD ?_|refine bA ?_ _));exact BK384.out⟩,⟨by (with_reducible repeat (first|refine bN ?_ _|refine bD ?_|refine bA ?_ _));exact BK389.out⟩,⟨by repeat (first|(with_reducible first|exact HB.out|apply lA|apply lN|apply lD|refine below_set ?_ GE378.out|refine below_set ?_ GE379.out|refine below_set ?_ GE384.out|refine below_set ?_ GE389.out)|exact HB.out)⟩⟩
   ·rw [if_neg c27] at H
    have c27b0 : (!(t380.toList == t385.toList) || (!(t381.toList == t386.toList) || (!(t382 == t387)))) = false := by simpa using c27
    clear c27
    (first|rw [c27b0]|(simp only [i64_w,i32_w];rw [c27b0])|skip)
    by_cases c30 : t383 = t388
    ·rw [if_pos c30] at H
     have c30b0 : (t383 == t388) = true := beq_iff_eq.mpr c30
     have c30b1 : (t383 != t388) = false := bne_eq_false_iff_eq.mpr c30
     clear c30
     replace H := Option.bind_eq_some_iff.mp H
     obtain ⟨t390,A310,H⟩ := H
     replace H : ((spec_IsValidLog.f k t373 t374 t375).bind fun t391 => (if (t390 != t391) = true then (laws_FnLog.j0 k t383 true t373 t374 t375 t376 t377 t380 t381 t382) else ((impl_IsValidRecord.f k t376 t377).bind fun t392 => ((spec_IsValidRecord.f k t376 t377).bind fun t393 => (laws_FnLog.j0 k t383 (t392 != t393) t373 t374 t375 t376 t377 t380 t381 t382))))) = some r := H
     have A31 := Aside0.mk A310
     clear A310
     replace H := Option.bind_eq_some_iff.mp H
     obtain ⟨t391,A320,H⟩ := H
     replace H : (if (t390 != t391) = true then (laws_FnLog.j0 k t383 true t373 t374 t375 t376 t377 t380 t381 t382) else ((impl_IsValidRecord.f k t376 t377).bind fun t392 => ((spec_IsValidRecord.f k t376 t377).bind fun t393 => (laws_FnLog.j0 k t383 (t392 != t393) t373 t374 t375 t376 t377 t380 t381 t382)))) = some r := H
     have A32 := Aside0.mk A320
     clear A320
     by_cases c33 : (t390 != t391) = true
     ·rw [if_pos c33] at H
      have c33b0 : (t390 != t391) = true := c33
      (try (have c33b1 : decide (t390 = t391) = false := by simpa using c33))
      (try (have c33b2 : (t390 == t391) = false := by simpa using c33))
      (try (have c33b3 : ¬ (t390 = t391) := by simpa using c33))
      clear c33
      have H' := Aside0.mk H
      clear H
      try go_wp2
      have n0_ : Aside0 ((((w22.setCell ⟨gb389,0,none⟩ (.string t385)).setCell ⟨gb389,1,none⟩ (.string t386)).setCell ⟨gb389,2,none⟩ (.int .i64 t387)).heap[gb378]? = some (.cells #[.string t373,.string t374,.int .i64 t375] 31 (0,0))) := ⟨by (with_reducible repeat (first|refine bN ?_ _|refine bD ?_|refine bA ?_ _));refine blk_far ?_ NB378_389.out _;(with_reducible repeat (first|refine bN ?_ _|refine bD ?_|refine bA ?_ _));refine blk_far ?_ NB378_389.out _;(with_reducible repeat (first|refine bN ?_ _|refine bD ?_|refine bA ?_ _));refine blk_far ?_ NB378_389.out _;(with_reducible repeat (first|refine bN ?_ _|refine bD ?_|refine bA ?_ _));exact BK378.out⟩
      have n1_ : Aside0 ((((w22.setCell ⟨gb389,0,none⟩ (.string t385)).setCell ⟨gb389,1,none⟩ (.string t386)).setCell ⟨gb389,2,none⟩ (.int .i64 t387)).heap[gb379]? = some (.cells #[.string t376,.string t377] 27 (0,0))) := ⟨by (with_reducible repeat (first|refine bN ?_ _|refine bD ?_|refine bA ?_ _));refine blk_far ?_ NB379_389.out _;(with_reducible repeat (first|refine bN ?_ _|refine bD ?_|refine bA ?_ _));refine blk_far ?_ NB379_389.out _;(with_reducible repeat (first|refine bN ?_ _|refine bD ?_|refine bA ?_ _));refine blk_far ?_ NB379_389.out _;(with_reducible repeat (first|refine bN ?_ _|refine bD ?_|refine bA ?_ _));exact BK379.out⟩
      have n2_ : Aside0 ((((w22.setCell ⟨gb389,0,none⟩ (.string t385)).setCell ⟨gb389,1,none⟩ (.string t386)).setCell ⟨gb389,2,none⟩ (.int .i64 t387)).heap[gb384]? = some (.cells #[.string t380,.string t381,.int .i64 t382] 31 (0,0))) := ⟨by (with_reducible repeat (first|refine bN ?_ _|refine bD ?_|refine bA ?_ _));refine blk_far ?_ NB384_389.out _;(with_reducible repeat (first|refine bN ?_ _|refine bD ?_|refine bA ?_ _));refine blk_far ?_ NB384_389.out _;(with_reducible repeat (first|refine bN ?_ _|refine bD ?_|refine bA ?_ _));refine blk_far ?_ NB384_389.out _;(with_reducible repeat (first|refine bN ?_ _|refine bD ?_|refine bA ?_ _));exact BK384.out⟩
      have n3_ : Aside0 ((((w22.setCell ⟨gb389,0,none⟩ (.string t385)).setCell ⟨gb389,1,none⟩ (.string t386)).setCell ⟨gb389,2,none⟩ (.int .i64 t387)).heap[gb389]? = some (.cells #[.string t385,.string t386,.int .i64 t387] 31 (0,0))) := ⟨by (with_reducible repeat (first|refine bN ?_ _|refine bD ?_|refine bA ?_ _));refine blk_put (cs := #[.string t385,.string t386,.int .i64 0]) ?_ 2 _ rfl;(with_reducible repeat (first|refine bN ?_ _|refine bD ?_|refine bA ?_ _));refine blk_put (cs := #[.string t385,.string (⟨#[]⟩ : ByteArray),.int .i64 0]) ?_ 1 _ rfl;(with_reducible repeat (first|refine bN ?_ _|refine bD ?_|refine bA ?_ _));refine blk_put (cs := #[.string (⟨#[]⟩ : ByteArray),.string (⟨#[]⟩ : ByteArray),.int .i64 0]) ?_ 0 _ rfl;(with_reducible repeat (first|refine bN ?_ _|refine bD ?_|refine bA ?_ _));exact BK389.out⟩
      have n4_ : Aside0 (Below w.heap.size w (((w22.setCell ⟨gb389,0,none⟩ (.string t385)).setCell ⟨gb389,1,none⟩ (.string t386)).setCell ⟨gb389,2,none⟩ (.int .i64 t387))) := ⟨by repeat (first|(with_reducible first|exact HB.out|apply lA|apply lN|apply lD|refine below_set ?_ GE378.out|refine below_set ?_ GE379.out|refine below_set ?_ GE384.out|refine below_set ?_ GE389.out)|exact HB.out)⟩
      (try clear BK378)
      (try clear BK379)
      (try clear BK384)
      (try clear BK389)
      (try clear HB)
      generalize (((w22.setCell ⟨gb389,0,none⟩ (.string t385)).setCell ⟨gb389,1,none⟩ (.string t386)).setCell ⟨gb389,2,none⟩ (.int .i64 t387)) = w34 at n0_ n1_ n2_ n3_ n4_ ⊢
      have BK378 := n0_
      have BK379 := n1_
      have BK384 := n2_
      have BK389 := n3_
      have HB := n4_
      clear n0_ n1_ n2_ n3_ n4_
      have n0_ := Aside0.mk (bD BK378.out)
      have n1_ := Aside0.mk (bD BK379.out)
      have n2_ := Aside0.mk (bD BK384.out)
      have n3_ := Aside0.mk (bD BK389.out)
      have n4_ := Aside0.mk (lD HB.out)
      clear BK378
      clear BK379
      clear BK384
      clear BK389
      clear HB
      have BK378 := n0_
      have BK379 := n1_
      have BK384 := n2_
      have BK389 := n3_
      have HB := n4_
      clear n0_ n1_ n2_ n3_ n4_
      refine start_ (n := 22) (S := fun w' => w'.cell? ⟨gb384,0,none⟩ = some (.string t380) ∧ w'.cell? ⟨gb384,1,none⟩ = some (.string t381) ∧ w'.cell? ⟨gb384,2,none⟩ = some (.int .i64 t382) ∧ w'.cell? ⟨gb389,0,none⟩ = some (.string t385) ∧ w'.cell? ⟨gb389,1,none⟩ = some (.string t386) ∧ w'.cell? ⟨gb389,2,none⟩ = some (.int .i64 t387) ∧ w'.cell? ⟨gb378,0,none⟩ = some (.string t373) ∧ w'.cell? ⟨gb378,1,none⟩ = some (.string t374) ∧ w'.cell? ⟨gb378,2,none⟩ = some (.int .i64 t375)) (ds := []) #[false,false,false,false,false,false,false,false,false,false,false,false,false,false,false,false,false,false,false,false,false,false] (by kernel_rfl) rfl rfl ⟨(blk_cell BK384.out 0).trans rfl,(blk_cell BK384.out 1).trans rfl,(blk_cell BK384.out 2).trans rfl,(blk_cell BK389.out 0).trans rfl,(blk_cell BK389.out 1).trans rfl,(blk_cell BK389.out 2).trans rfl,(blk_cell BK378.out 0).trans rfl,(blk_cell BK378.out 1).trans rfl,(blk_cell BK378.out 2).trans rfl⟩ (fun hHeld => ?_);refine with_tabW laws_FnLog.tab6 laws_FnLog.bits6 (fun HT_ HW_ => ?_)
      generalize w34.drew = w35 at BK378 BK379 BK384 BK389 HB hHeld ⊢
      refine take_ (i := 0) (N := some 38) (v := ?_) (a' := ?_) #[true,false,false,false,false,false,false,false,false,false,false,false,false,false,false,false,false,false,false,false,false,false] rfl rfl (take_ofW HT_.out HW_.out (by kernel_rfl)) (fun _ _ _ h => h) (Or.inl ⟨by rfl,?_⟩) hHeld ?_ ?_
      rotate_left
      ·rintro w' ⟨s0,s1,s2,s3,s4,s5,s6,s7,s8⟩
       go_simp
       with_reducible rfl
      rotate_left
      ·simp only [Act.put,List.setIfInBounds_toArray,List.set_cons_zero,List.set_cons_succ,i64_w,i32_w]
       rfl
      refine take_ (i := 1) (N := some 39) (v := ?_) (a' := ?_) #[true,true,false,false,false,false,false,false,false,false,false,false,false,false,false,false,false,false,false,false,false,false] rfl rfl (take_ofW HT_.out HW_.out (by kernel_rfl)) (fun _ _ _ h => h) (Or.inl ⟨by rfl,?_⟩) hHeld ?_ ?_
      rotate_left
      ·rintro w' ⟨s0,s1,s2,s3,s4,s5,s6,s7,s8⟩
       go_simp
       with_reducible rfl
      rotate_left
      ·simp only [Act.put,List.setIfInBounds_toArray,List.set_cons_zero,List.set_cons_succ,i64_w,i32_w]
       rfl
      refine pure_ (i := 2) (N := some 40) (v := ?_) (a' := ?_) #[true,true,true,false,false,false,false,false,false,false,false,false,false,false,false,false,false,false,false,false,false,false] rfl rfl (any_of HT_.out (by kernel_rfl)) (fun _ _ _ h => h) (Or.inl ⟨by rfl,?_⟩) ?_ ?_
      rotate_left
      ·intro w'
       go_simp
       with_reducible rfl
      rotate_left
      ·simp only [Act.put,List.setIfInBounds_toArray,List.set_cons_zero,List.set_cons_succ,i64_w,i32_w]
       rfl
      refine pure_ (i := 3) (N := some 41) (v := ?_) (a' := ?_) #[true,true,true,true,false,false,false,false,false,false,false,false,false,false,false,false,false,false,false,false,false,false] rfl rfl (any_of HT_.out (by kernel_rfl)) (fun _ _ _ h => h) (Or.inl ⟨by rfl,?_⟩) ?_ ?_
      rotate_left
      ·intro w'
       go_simp
       with_reducible rfl
      rotate_left
      ·simp only [Act.put,List.setIfInBounds_toArray,List.set_cons_zero,List.set_cons_succ,i64_w,i32_w]
       rfl
      refine pure_ (i := 4) (N := some 42) (v := ?_) (a' := ?_) #[true,true,true,true,true,false,false,false,false,false,false,false,false,false,false,false,false,false,false,false,false,false] rfl rfl (any_of HT_.out (by kernel_rfl)) (fun _ _ _ h => h) (Or.inl ⟨by rfl,?_⟩) ?_ ?_
      rotate_left
      ·intro w'
       go_simp
       with_reducible rfl
      rotate_left
      ·simp only [Act.put,List.setIfInBounds_toArray,List.set_cons_zero,List.set_cons_succ,i64_w,i32_w]
       rfl
      refine pure_ (i := 5) (N := some 43) (v := ?_) (a' := ?_) #[true,true,true,true,true,true,false,false,false,false,false,false,false,false,false,false,false,false,false,false,false,false] rfl rfl (any_of HT_.out (by kernel_rfl)) (fun _ _ _ h => h) (Or.inl ⟨by rfl,?_⟩) ?_ ?_
      rotate_left
      ·intro w'
       go_simp
       with_reducible rfl
      rotate_left
      ·simp only [Act.put,List.setIfInBounds_toArray,List.set_cons_zero,List.set_cons_succ,i64_w,i32_w]
       rfl
      refine pure_ (i := 6) (N := some 44) (v := ?_) (a' := ?_) #[true,true,true,true,true,true,true,false,false,false,false,false,false,false,false,false,false,false,false,false,false,false] rfl rfl (any_of HT_.out (by kernel_rfl)) (fun _ _ _ h => h) (Or.inl ⟨by rfl,?_⟩) ?_ ?_
      rotate_left
      ·intro w'
       go_simp
       with_reducible rfl
      rotate_left
      ·simp only [Act.put,List.setIfInBounds_toArray,List.set_cons_zero,List.set_cons_succ,i64_w,i32_w]
       rfl
      refine pure_ (i := 7) (N := some 45) (v := ?_) (a' := ?_) #[true,true,true,true,true,true,true,true,false,false,false,false,false,false,false,false,false,false,false,false,false,false] rfl rfl (any_of HT_.out (by kernel_rfl)) (fun _ _ _ h => h) (Or.inl ⟨by rfl,?_⟩) ?_ ?_
      rotate_left
      ·intro w'
       go_simp
       with_reducible rfl
      rotate_left
      ·simp only [Act.put,List.setIfInBounds_toArray,List.set_cons_zero,List.set_cons_succ,i64_w,i32_w]
       rfl
      refine pure_ (i := 8) (N := some 46) (v := ?_) (a' := ?_) #[true,true,true,true,true,true,true,true,true,false,false,false,false,false,false,false,false,false,false,false,false,false] rfl rfl (any_of HT_.out (by kernel_rfl)) (fun _ _ _ h => h) (Or.inl ⟨by rfl,?_⟩) ?_ ?_
      rotate_left
      ·intro w'
       go_simp
       with_reducible rfl
      rotate_left
      ·simp only [Act.put,List.setIfInBounds_toArray,List.set_cons_zero,List.set_cons_succ,i64_w,i32_w]
       rfl
      refine take_ (i := 9) (N := some 47) (v := ?_) (a' := ?_) #[true,true,true,true,true,true,true,true,true,true,false,false,false,false,false,false,false,false,false,false,false,false] rfl rfl (take_ofW HT_.out HW_.out (by kernel_rfl)) (fun _ _ _ h => h) (Or.inl ⟨by rfl,?_⟩) hHeld ?_ ?_
      rotate_left
      ·rintro w' ⟨s0,s1,s2,s3,s4,s5,s6,s7,s8⟩
       go_simp
       with_reducible rfl
      rotate_left
      ·simp only [Act.put,List.setIfInBounds_toArray,List.set_cons_zero,List.set_cons_succ,i64_w,i32_w]
       rfl
      refine take_ (i := 11) (N := some 49) (v := ?_) (a' := ?_) #[true,true,true,true,true,true,true,true,true,true,false,true,false,false,false,false,false,false,false,false,false,false] rfl rfl (take_ofW HT_.out HW_.out (by kernel_rfl)) (fun _ _ _ h => h) (Or.inl ⟨by rfl,?_⟩) hHeld ?_ ?_
      rotate_left
      ·rintro w' ⟨s0,s1,s2,s3,s4,s5,s6,s7,s8⟩
       go_simp
       with_reducible rfl
      rotate_left
      ·simp only [Act.put,List.setIfInBounds_toArray,List.set_cons_zero,List.set_cons_succ,i64_w,i32_w]
       rfl
      refine one_ (i := 10) (N := some 48) #[true,true,true,true,true,true,true,true,true,true,true,true,false,false,false,false,false,false,false,false,false,false] rfl rfl (one_of HT_.out (by kernel_rfl)) (by decide) (fun K hK => ?_)
      refine goes_ Tryd.func23 (by kernel_rfl) rfl #[.agg #[.string t373,.string t374,.int .i64 t375]] (by rfl) rfl rfl (by (try simp only [List.map_toArray,List.map_cons,List.map_nil]);first|done|rfl|(simp only [List.length_drop,List.length_take];rfl)) ?_
      with_reducible refine (impl_IsValidLog.calls k t373 t374 t375 t390 _ ?side1 A31.out).mono ?_
      (case side1 => exact Gw.below HG.out (by repeat (first|(with_reducible first|exact HB.out|apply lA|apply lN|apply lD|refine below_set ?_ GE378.out|refine below_set ?_ GE379.out|refine below_set ?_ GE384.out|refine below_set ?_ GE389.out)|exact HB.out)))
      rintro e w36 ⟨rfl,hb⟩
      refine ⟨_,rfl,?_⟩
      have n0_ := Aside0.mk (blk_below (g := gb378) (o := .cells #[.string t373,.string t374,.int .i64 t375] 31 (0,0)) (by (with_reducible repeat (first|refine bN ?_ _|refine bD ?_|refine bA ?_ _));exact BK378.out) hb)
      have n1_ := Aside0.mk (blk_below (g := gb379) (o := .cells #[.string t376,.string t377] 27 (0,0)) (by (with_reducible repeat (first|refine bN ?_ _|refine bD ?_|refine bA ?_ _));exact BK379.out) hb)
      have n2_ := Aside0.mk (blk_below (g := gb384) (o := .cells #[.string t380,.string t381,.int .i64 t382] 31 (0,0)) (by (with_reducible repeat (first|refine bN ?_ _|refine bD ?_|refine bA ?_ _));exact BK384.out) hb)
      have n3_ := Aside0.mk (blk_below (g := gb389) (o := .cells #[.string t385,.string t386,.int .i64 t387] 31 (0,0)) (by (with_reducible repeat (first|refine bN ?_ _|refine bD ?_|refine bA ?_ _));exact BK389.out) hb)
      have n4_ := Aside0.mk (below_step (by repeat (first|(with_reducible first|exact HB.out|apply lA|apply lN|apply lD|refine below_set ?_ GE378.out|refine below_set ?_ GE379.out|refine below_set ?_ GE384.out|refine below_set ?_ GE389.out)|exact HB.out)) hb)
      clear BK378
      clear BK379
      clear BK384
      clear BK389
      clear HB
      have BK378 := n0_
      have BK379 := n1_
      have BK384 := n2_
      have BK389 := n3_
      have HB := n4_
      clear n0_ n1_ n2_ n3_ n4_
      (try clear hb)
      (try clear hb2)
      (try clear hk)
      (try clear hi)
      refine hK.out _ _ ⟨(blk_cell BK384.out 0).trans rfl,(blk_cell BK384.out 1).trans rfl,(blk_cell BK384.out 2).trans rfl,(blk_cell BK389.out 0).trans rfl,(blk_cell BK389.out 1).trans rfl,(blk_cell BK389.out 2).trans rfl,(blk_cell BK378.out 0).trans rfl,(blk_cell BK378.out 1).trans rfl,(blk_cell BK378.out 2).trans rfl⟩ (fun hHeld => ?_)
      clear hK K
      refine norm_ (a' := ?_) ?_ ?_
      rotate_left
      ·show Act.put _ (some 48) _ = _
       simp only [Act.put,List.setIfInBounds_toArray,List.set_cons_zero,List.set_cons_succ,i64_w,i32_w]
       rfl
      refine one_ (i := 12) (N := some 50) #[true,true,true,true,true,true,true,true,true,true,true,true,true,false,false,false,false,false,false,false,false,false] rfl rfl (one_of HT_.out (by kernel_rfl)) (by decide) (fun K hK => ?_)
      refine goes_ Tryd.func21 (by kernel_rfl) rfl #[.agg #[.string t373,.string t374,.int .i64 t375]] (by rfl) rfl rfl (by (try simp only [List.map_toArray,List.map_cons,List.map_nil]);first|done|rfl|(simp only [List.length_drop,List.length_take];rfl)) ?_
      with_reducible refine (spec_IsValidLog.calls k t373 t374 t375 t391 _ A32.out).mono ?_
      rintro e w37 ⟨rfl,hb⟩
      refine ⟨_,rfl,?_⟩
      have n0_ := Aside0.mk (blk_below (g := gb378) (o := .cells #[.string t373,.string t374,.int .i64 t375] 31 (0,0)) (by (with_reducible repeat (first|refine bN ?_ _|refine bD ?_|refine bA ?_ _));exact BK378.out) hb)
      have n1_ := Aside0.mk (blk_below (g := gb379) (o := .cells #[.string t376,.string t377] 27 (0,0)) (by (with_reducible repeat (first|refine bN ?_ _|refine bD ?_|refine bA ?_ _));exact BK379.out) hb)
      have n2_ := Aside0.mk (blk_below (g := gb384) (o := .cells #[.string t380,.string t381,.int .i64 t382] 31 (0,0)) (by (with_reducible repeat (first|refine bN ?_ _|refine bD ?_|refine bA ?_ _));exact BK384.out) hb)
      have n3_ := Aside0.mk (blk_below (g := gb389) (o := .cells #[.string t385,.string t386,.int .i64 t387] 31 (0,0)) (by (with_reducible repeat (first|refine bN ?_ _|refine bD ?_|refine bA ?_ _));exact BK389.out) hb)
      have n4_ := Aside0.mk (below_step (by repeat (first|(with_reducible first|exact HB.out|apply lA|apply lN|apply lD|refine below_set ?_ GE378.out|refine below_set ?_ GE379.out|refine below_set ?_ GE384.out|refine below_set ?_ GE389.out)|exact HB.out)) hb)
      clear BK378
      clear BK379
      clear BK384
      clear BK389
      clear HB
      have BK378 := n0_
      have BK379 := n1_
      have BK384 := n2_
      have BK389 := n3_
      have HB := n4_
      clear n0_ n1_ n2_ n3_ n4_
      (try clear hb)
      (try clear hb2)
      (try clear hk)
      (try clear hi)
      refine hK.out _ _ ⟨(blk_cell BK384.out 0).trans rfl,(blk_cell BK384.out 1).trans rfl,(blk_cell BK384.out 2).trans rfl,(blk_cell BK389.out 0).trans rfl,(blk_cell BK389.out 1).trans rfl,(blk_cell BK389.out 2).trans rfl,(blk_cell BK378.out 0).trans rfl,(blk_cell BK378.out 1).trans rfl,(blk_cell BK378.out 2).trans rfl⟩ (fun hHeld => ?_)
      clear hK K
      refine norm_ (a' := ?_) ?_ ?_
      rotate_left
      ·show Act.put _ (some 50) _ = _
       simp only [Act.put,List.setIfInBounds_toArray,List.set_cons_zero,List.set_cons_succ,i64_w,i32_w]
       rfl
      refine pure_ (i := 13) (N := some 51) (v := ?_) (a' := ?_) #[true,true,true,true,true,true,true,true,true,true,true,true,true,true,false,false,false,false,false,false,false,false] rfl rfl (any_of HT_.out (by kernel_rfl)) (fun _ _ _ h => h) (Or.inl ⟨by rfl,?_⟩) ?_ ?_
      rotate_left
      ·intro w'
       go_simp
       with_reducible rfl
      rotate_left
      ·simp only [Act.put,List.setIfInBounds_toArray,List.set_cons_zero,List.set_cons_succ,i64_w,i32_w]
       rfl
      refine pure_ (i := 14) (N := some 52) (v := ?_) (a' := ?_) #[true,true,true,true,true,true,true,true,true,true,true,true,true,true,true,false,false,false,false,false,false,false] rfl rfl (any_of HT_.out (by kernel_rfl)) (fun _ _ _ h => h) (Or.inl ⟨by rfl,?_⟩) ?_ ?_
      rotate_left
      ·intro w'
       go_simp
       with_reducible rfl
      rotate_left
      ·simp only [Act.put,List.setIfInBounds_toArray,List.set_cons_zero,List.set_cons_succ,i64_w,i32_w]
       rfl
      refine pure_ (i := 15) (N := some 53) (v := ?_) (a' := ?_) #[true,true,true,true,true,true,true,true,true,true,true,true,true,true,true,true,false,false,false,false,false,false] rfl rfl (any_of HT_.out (by kernel_rfl)) (fun _ _ _ h => h) (Or.inl ⟨by rfl,?_⟩) ?_ ?_
      rotate_left
      ·intro w'
       go_simp
       with_reducible rfl
      rotate_left
      ·simp only [Act.put,List.setIfInBounds_toArray,List.set_cons_zero,List.set_cons_succ,i64_w,i32_w]
       rfl
      refine pure_ (i := 16) (N := some 54) (v := undef) (a' := ?_) #[true,true,true,true,true,true,true,true,true,true,true,true,true,true,true,true,true,false,false,false,false,false] rfl rfl (any_of HT_.out (by kernel_rfl)) (fun _ _ _ h => h) (Or.inr ⟨by rfl,rfl⟩) ?_ ?_
      rotate_left
      ·simp only [Act.put,List.setIfInBounds_toArray,List.set_cons_zero,List.set_cons_succ,i64_w,i32_w]
       rfl
      refine pure_ (i := 17) (N := some 55) (v := undef) (a' := ?_) #[true,true,true,true,true,true,true,true,true,true,true,true,true,true,true,true,true,true,false,false,false,false] rfl rfl (any_of HT_.out (by kernel_rfl)) (fun _ _ _ h => h) (Or.inr ⟨by rfl,rfl⟩) ?_ ?_
      rotate_left
      ·simp only [Act.put,List.setIfInBounds_toArray,List.set_cons_zero,List.set_cons_succ,i64_w,i32_w]
       rfl
      refine pure_ (i := 18) (N := some 56) (v := undef) (a' := ?_) #[true,true,true,true,true,true,true,true,true,true,true,true,true,true,true,true,true,true,true,false,false,false] rfl rfl (any_of HT_.out (by kernel_rfl)) (fun _ _ _ h => h) (Or.inr ⟨by rfl,rfl⟩) ?_ ?_
      rotate_left
      ·simp only [Act.put,List.setIfInBounds_toArray,List.set_cons_zero,List.set_cons_succ,i64_w,i32_w]
       rfl
      refine pure_ (i := 19) (N := some 57) (v := undef) (a' := ?_) #[true,true,true,true,true,true,true,true,true,true,true,true,true,true,true,true,true,true,true,true,false,false] rfl rfl (any_of HT_.out (by kernel_rfl)) (fun _ _ _ h => h) (Or.inr ⟨by rfl,rfl⟩) ?_ ?_
      rotate_left
      ·simp only [Act.put,List.setIfInBounds_toArray,List.set_cons_zero,List.set_cons_succ,i64_w,i32_w]
       rfl
      refine pure_ (i := 20) (N := some 58) (v := undef) (a' := ?_) #[true,true,true,true,true,true,true,true,true,true,true,true,true,true,true,true,true,true,true,true,true,false] rfl rfl (any_of HT_.out (by kernel_rfl)) (fun _ _ _ h => h) (Or.inr ⟨by rfl,rfl⟩) ?_ ?_
      rotate_left
      ·simp only [Act.put,List.setIfInBounds_toArray,List.set_cons_zero,List.set_cons_succ,i64_w,i32_w]
       rfl
      refine pure_ (i := 21) (N := some 59) (v := ?_) (a' := ?_) #[true,true,true,true,true,true,true,true,true,true,true,true,true,true,true,true,true,true,true,true,true,true] rfl rfl (any_of HT_.out (by kernel_rfl)) (fun _ _ _ h => h) (Or.inl ⟨by rfl,?_⟩) ?_ ?_
      rotate_left
      ·intro w'
       go_simp
       with_reducible rfl
      rotate_left
      ·simp only [Act.put,List.setIfInBounds_toArray,List.set_cons_zero,List.set_cons_succ,i64_w,i32_w]
       rfl
      refine done_ (done_of HT_.out (by kernel_rfl)) ?_
      try go_wp2
      go_meet
      case rel => exact ⟨_,(true),(by first|rfl|(simp;done)|(simp [my_isEmpty];done)|(simp [*];done)),H',⟨by first|omega|exact Nat.le_refl _⟩,⟨by (with_reducible repeat (first|refine bN ?_ _|refine bD ?_|refine bA ?_ _));exact BK378.out⟩,⟨by (with_reducible repeat (first|refine bN ?_ _|refine bD ?_|refine bA ?_ _));exact BK379.out⟩,⟨by (with_reducible repeat (first|refine bN ?_ _|refine bD ?_|refine bA ?_ _));exact BK384.out⟩,⟨by (with_reducible repeat (first|refine bN ?_ _|refine bD ?_|refine bA ?_ _));exact BK389.out⟩,⟨by repeat (first|(with_reducible first|exact HB.out|apply lA|apply lN|apply lD|refine below_set ?_ GE378.out|refine below_set ?_ GE379.out|refine below_set ?_ GE384.out|refine below_set ?_ GE389.out)|exact HB.out)⟩⟩
     ·rw [if_neg c33] at H
      have c33b0 : (t390 != t391) = false := by simpa using c33
      (try (have c33b1 : decide (t390 = t391) = true := by simpa using c33))
      (try (have c33b2 : (t390 == t391) = true := by simpa using c33))
      clear c33
      replace H := Option.bind_eq_some_iff.mp H
      obtain ⟨t392,A380,H⟩ := H
      replace H : ((spec_IsValidRecord.f k t376 t377).bind fun t393 => (laws_FnLog.j0 k t383 (t392 != t393) t373 t374 t375 t376 t377 t380 t381 t382)) = some r := H
      have A38 := Aside0.mk A380
      clear A380
      replace H := Option.bind_eq_some_iff.mp H
      obtain ⟨t393,A390,H⟩ := H
      replace H : (laws_FnLog.j0 k t383 (t392 != t393) t373 t374 t375 t376 t377 t380 t381 t382) = some r := H
      have A39 := Aside0.mk A390
      clear A390
      have H' := Aside0.mk H
      clear H
      try go_wp2
      have n0_ : Aside0 ((((w22.setCell ⟨gb389,0,none⟩ (.string t385)).setCell ⟨gb389,1,none⟩ (.string t386)).setCell ⟨gb389,2,none⟩ (.int .i64 t387)).heap[gb378]? = some (.cells #[.string t373,.string t374,.int .i64 t375] 31 (0,0))) := ⟨by (with_reducible repeat (first|refine bN ?_ _|refine bD ?_|refine bA ?_ _));refine blk_far ?_ NB378_389.out _;(with_reducible repeat (first|refine bN ?_ _|refine bD ?_|refine bA ?_ _));refine blk_far ?_ NB378_389.out _;(with_reducible repeat (first|refine bN ?_ _|refine bD ?_|refine bA ?_ _));refine blk_far ?_ NB378_389.out _;(with_reducible repeat (first|refine bN ?_ _|refine bD ?_|refine bA ?_ _));exact BK378.out⟩
      have n1_ : Aside0 ((((w22.setCell ⟨gb389,0,none⟩ (.string t385)).setCell ⟨gb389,1,none⟩ (.string t386)).setCell ⟨gb389,2,none⟩ (.int .i64 t387)).heap[gb379]? = some (.cells #[.string t376,.string t377] 27 (0,0))) := ⟨by (with_reducible repeat (first|refine bN ?_ _|refine bD ?_|refine bA ?_ _));refine blk_far ?_ NB379_389.out _;(with_reducible repeat (first|refine bN ?_ _|refine bD ?_|refine bA ?_ _));refine blk_far ?_ NB379_389.out _;(with_reducible repeat (first|refine bN ?_ _|refine bD ?_|refine bA ?_ _));refine blk_far ?_ NB379_389.out _;(with_reducible repeat (first|refine bN ?_ _|refine bD ?_|refine bA ?_ _));exact BK379.out⟩
      have n2_ : Aside0 ((((w22.setCell ⟨gb389,0,none⟩ (.string t385)).setCell ⟨gb389,1,none⟩ (.string t386)).setCell ⟨gb389,2,none⟩ (.int .i64 t387)).heap[gb384]? = some (.cells #[.string t380,.string t381,.int .i64 t382] 31 (0,0))) := ⟨by (with_reducible repeat (first|refine bN ?_ _|refine bD ?_|refine bA ?_ _));refine blk_far ?_ NB384_389.out _;(with_reducible repeat (first|refine bN ?_ _|refine bD ?_|refine bA ?_ _));refine blk_far ?_ NB384_389.out _;(with_reducible repeat (first|refine bN ?_ _|refine bD ?_|refine bA ?_ _));refine blk_far ?_ NB384_389.out _;(with_reducible repeat (first|refine bN ?_ _|refine bD ?_|refine bA ?_ _));exact BK384.out⟩
      have n3_ : Aside0 ((((w22.setCell ⟨gb389,0,none⟩ (.string t385)).setCell ⟨gb389,1,none⟩ (.string t386)).setCell ⟨gb389,2,none⟩ (.int .i64 t387)).heap[gb389]? = some (.cells #[.string t385,.string t386,.int .i64 t387] 31 (0,0))) := ⟨by (with_reducible repeat (first|refine bN ?_ _|refine bD ?_|refine bA ?_ _));refine blk_put (cs := #[.string t385,.string t386,.int .i64 0]) ?_ 2 _ rfl;(with_reducible repeat (first|refine bN ?_ _|refine bD ?_|refine bA ?_ _));refine blk_put (cs := #[.string t385,.string (⟨#[]⟩ : ByteArray),.int .i64 0]) ?_ 1 _ rfl;(with_reducible repeat (first|refine bN ?_ _|refine bD ?_|refine bA ?_ _));refine blk_put (cs := #[.string (⟨#[]⟩ : ByteArray),.string (⟨#[]⟩ : ByteArray),.int .i64 0]) ?_ 0 _ rfl;(with_reducible repeat (first|refine bN ?_ _|refine bD ?_|refine bA ?_ _));exact BK389.out⟩
      have n4_ : Aside0 (Below w.heap.size w (((w22.setCell ⟨gb389,0,none⟩ (.string t385)).setCell ⟨gb389,1,none⟩ (.string t386)).setCell ⟨gb389,2,none⟩ (.int .i64 t387))) := ⟨by repeat (first|(with_reducible first|exact HB.out|apply lA|apply lN|apply lD|refine below_set ?_ GE378.out|refine below_set ?_ GE379.out|refine below_set ?_ GE384.out|refine below_set ?_ GE389.out)|exact HB.out)⟩
      (try clear BK378)
      (try clear BK379)
      (try clear BK384)
      (try clear BK389)
      (try clear HB)
      generalize (((w22.setCell ⟨gb389,0,none⟩ (.string t385)).setCell ⟨gb389,1,none⟩ (.string t386)).setCell ⟨gb389,2,none⟩ (.int .i64 t387)) = w40 at n0_ n1_ n2_ n3_ n4_ ⊢
      have BK378 := n0_
      have BK379 := n1_
      have BK384 := n2_
      have BK389 := n3_
      have HB := n4_
      clear n0_ n1_ n2_ n3_ n4_
      have n0_ := Aside0.mk (bD BK378.out)
      have n1_ := Aside0.mk (bD BK379.out)
      have n2_ := Aside0.mk (bD BK384.out)
      have n3_ := Aside0.mk (bD BK389.out)
      have n4_ := Aside0.mk (lD HB.out)
      clear BK378
      clear BK379
      clear BK384
      clear BK389
      clear HB
      have BK378 := n0_
      have BK379 := n1_
      have BK384 := n2_
      have BK389 := n3_
      have HB := n4_
      clear n0_ n1_ n2_ n3_ n4_
      refine start_ (n := 22) (S := fun w' => w'.cell? ⟨gb384,0,none⟩ = some (.string t380) ∧ w'.cell? ⟨gb384,1,none⟩ = some (.string t381) ∧ w'.cell? ⟨gb384,2,none⟩ = some (.int .i64 t382) ∧ w'.cell? ⟨gb389,0,none⟩ = some (.string t385) ∧ w'.cell? ⟨gb389,1,none⟩ = some (.string t386) ∧ w'.cell? ⟨gb389,2,none⟩ = some (.int .i64 t387) ∧ w'.cell? ⟨gb378,0,none⟩ = some (.string t373) ∧ w'.cell? ⟨gb378,1,none⟩ = some (.string t374) ∧ w'.cell? ⟨gb378,2,none⟩ = some (.int .i64 t375) ∧ w'.cell? ⟨gb379,0,none⟩ = some (.string t376) ∧ w'.cell? ⟨gb379,1,none⟩ = some (.string t377)) (ds := []) #[false,false,false,false,false,false,false,false,false,false,false,false,false,false,false,false,false,false,false,false,false,false] (by kernel_rfl) rfl rfl ⟨(blk_cell BK384.out 0).trans rfl,(blk_cell BK384.out 1).trans rfl,(blk_cell BK384.out 2).trans rfl,(blk_cell BK389.out 0).trans rfl,(blk_cell BK389.out 1).trans rfl,(blk_cell BK389.out 2).trans rfl,(blk_cell BK378.out 0).trans rfl,(blk_cell BK378.out 1).trans rfl,(blk_cell BK378.out 2).trans rfl,(blk_cell BK379.out 0).trans rfl,(blk_cell BK379.out 1).trans rfl⟩ (fun hHeld => ?_);refine with_tabW laws_FnLog.tab6 laws_FnLog.bits6 (fun HT_ HW_ => ?_)
      generalize w40.drew = w41 at BK378 BK379 BK384 BK389 HB hHeld ⊢
      refine take_ (i := 0) (N := some 38) (v := ?_) (a' := ?_) #[true,false,false,false,false,false,false,false,false,false,false,false,false,false,false,false,false,false,false,false,false,false] rfl rfl (take_ofW HT_.out HW_.out (by kernel_rfl)) (fun _ _ _ h => h) (Or.inl ⟨by rfl,?_⟩) hHeld ?_ ?_
      rotate_left
      ·rintro w' ⟨s0,s1,s2,s3,s4,s5,s6,s7,s8,s9,s10⟩
       go_simp
       with_reducible rfl
      rotate_left
      ·simp only [Act.put,List.setIfInBounds_toArray,List.set_cons_zero,List.set_cons_succ,i64_w,i32_w]
       rfl
      refine take_ (i := 1) (N := some 39) (v := ?_) (a' := ?_) #[true,true,false,false,false,false,false,false,false,false,false,false,false,false,false,false,false,false,false,false,false,false] rfl rfl (take_ofW HT_.out HW_.out (by kernel_rfl)) (fun _ _ _ h => h) (Or.inl ⟨by rfl,?_⟩) hHeld ?_ ?_
      rotate_left
      ·rintro w' ⟨s0,s1,s2,s3,s4,s5,s6,s7,s8,s9,s10⟩
       go_simp
       with_reducible rfl
      rotate_left
      ·simp only [Act.put,List.setIfInBounds_toArray,List.set_cons_zero,List.set_cons_succ,i64_w,i32_w]
       rfl
      refine pure_ (i := 2) (N := some 40) (v := ?_) (a' := ?_) #[true,true,true,false,false,false,false,false,false,false,false,false,false,false,false,false,false,false,false,false,false,false] rfl rfl (any_of HT_.out (by kernel_rfl)) (fun _ _ _ h => h) (Or.inl ⟨by rfl,?_⟩) ?_ ?_
      rotate_left
      ·intro w'
       go_simp
       with_reducible rfl
      rotate_left
      ·simp only [Act.put,List.setIfInBounds_toArray,List.set_cons_zero,List.set_cons_succ,i64_w,i32_w]
       rfl
      refine pure_ (i := 3) (N := some 41) (v := ?_) (a' := ?_) #[true,true,true,true,false,false,false,false,false,false,false,false,false,false,false,false,false,false,false,false,false,false] rfl rfl (any_of HT_.out (by kernel_rfl)) (fun _ _ _ h => h) (Or.inl ⟨by rfl,?_⟩) ?_ ?_
      rotate_left
      ·intro w'
       go_simp
       with_reducible rfl
      rotate_left
      ·simp only [Act.put,List.setIfInBounds_toArray,List.set_cons_zero,List.set_cons_succ,i64_w,i32_w]
       rfl
      refine pure_ (i := 4) (N := some 42) (v := ?_) (a' := ?_) #[true,true,true,true,true,false,false,false,false,false,false,false,false,false,false,false,false,false,false,false,false,false] rfl rfl (any_of HT_.out (by kernel_rfl)) (fun _ _ _ h => h) (Or.inl ⟨by rfl,?_⟩) ?_ ?_
      rotate_left
      ·intro w'
       go_simp
       with_reducible rfl
      rotate_left
      ·simp only [Act.put,List.setIfInBounds_toArray,List.set_cons_zero,List.set_cons_succ,i64_w,i32_w]
       rfl
      refine pure_ (i := 5) (N := some 43) (v := ?_) (a' := ?_) #[true,true,true,true,true,true,false,false,false,false,false,false,false,false,false,false,false,false,false,false,false,false] rfl rfl (any_of HT_.out (by kernel_rfl)) (fun _ _ _ h => h) (Or.inl ⟨by rfl,?_⟩) ?_ ?_
      rotate_left
      ·intro w'
       go_simp
       with_reducible rfl
      rotate_left
      ·simp only [Act.put,List.setIfInBounds_toArray,List.set_cons_zero,List.set_cons_succ,i64_w,i32_w]
       rfl
      refine pure_ (i := 6) (N := some 44) (v := ?_) (a' := ?_) #[true,true,true,true,true,true,true,false,false,false,false,false,false,false,false,false,false,false,false,false,false,false] rfl rfl (any_of HT_.out (by kernel_rfl)) (fun _ _ _ h => h) (Or.inl ⟨by rfl,?_⟩) ?_ ?_
      rotate_left
      ·intro w'
       go_simp
       with_reducible rfl
      rotate_left
      ·simp only [Act.put,List.setIfInBounds_toArray,List.set_cons_zero,List.set_cons_succ,i64_w,i32_w]
       rfl
      refine pure_ (i := 7) (N := some 45) (v := ?_) (a' := ?_) #[true,true,true,true,true,true,true,true,false,false,false,false,false,false,false,false,false,false,false,false,false,false] rfl rfl (any_of HT_.out (by kernel_rfl)) (fun _ _ _ h => h) (Or.inl ⟨by rfl,?_⟩) ?_ ?_
      rotate_left
      ·intro w'
       go_simp
       with_reducible rfl
      rotate_left
      ·simp only [Act.put,List.setIfInBounds_toArray,List.set_cons_zero,List.set_cons_succ,i64_w,i32_w]
       rfl
      refine pure_ (i := 8) (N := some 46) (v := ?_) (a' := ?_) #[true,true,true,true,true,true,true,true,true,false,false,false,false,false,false,false,false,false,false,false,false,false] rfl rfl (any_of HT_.out (by kernel_rfl)) (fun _ _ _ h => h) (Or.inl ⟨by rfl,?_⟩) ?_ ?_
      rotate_left
      ·intro w'
       go_simp
       with_reducible rfl
      rotate_left
      ·simp only [Act.put,List.setIfInBounds_toArray,List.set_cons_zero,List.set_cons_succ,i64_w,i32_w]
       rfl
      refine take_ (i := 9) (N := some 47) (v := ?_) (a' := ?_) #[true,true,true,true,true,true,true,true,true,true,false,false,false,false,false,false,false,false,false,false,false,false] rfl rfl (take_ofW HT_.out HW_.out (by kernel_rfl)) (fun _ _ _ h => h) (Or.inl ⟨by rfl,?_⟩) hHeld ?_ ?_
      rotate_left
      ·rintro w' ⟨s0,s1,s2,s3,s4,s5,s6,s7,s8,s9,s10⟩
       go_simp
       with_reducible rfl
      rotate_left
      ·simp only [Act.put,List.setIfInBounds_toArray,List.set_cons_zero,List.set_cons_succ,i64_w,i32_w]
       rfl
      refine take_ (i := 11) (N := some 49) (v := ?_) (a' := ?_) #[true,true,true,true,true,true,true,true,true,true,false,true,false,false,false,false,false,false,false,false,false,false] rfl rfl (take_ofW HT_.out HW_.out (by kernel_rfl)) (fun _ _ _ h => h) (Or.inl ⟨by rfl,?_⟩) hHeld ?_ ?_
      rotate_left
      ·rintro w' ⟨s0,s1,s2,s3,s4,s5,s6,s7,s8,s9,s10⟩
       go_simp
       with_reducible rfl
      rotate_left
      ·simp only [Act.put,List.setIfInBounds_toArray,List.set_cons_zero,List.set_cons_succ,i64_w,i32_w]
       rfl
      refine one_ (i := 10) (N := some 48) #[true,true,true,true,true,true,true,true,true,true,true,true,false,false,false,false,false,false,false,false,false,false] rfl rfl (one_of HT_.out (by kernel_rfl)) (by decide) (fun K hK => ?_)
      refine goes_ Tryd.func23 (by kernel_rfl) rfl #[.agg #[.string t373,.string t374,.int .i64 t375]] (by rfl) rfl rfl (by (try simp only [List.map_toArray,List.map_cons,List.map_nil]);first|done|rfl|(simp only [List.length_drop,List.length_take];rfl)) ?_
      with_reducible refine (impl_IsValidLog.calls k t373 t374 t375 t390 _ ?side1 A31.out).mono ?_
      (case side1 => exact Gw.below HG.out (by repeat (first|(with_reducible first|exact HB.out|apply lA|apply lN|apply lD|refine below_set ?_ GE378.out|refine below_set ?_ GE379.out|refine below_set ?_ GE384.out|refine below_set ?_ GE389.out)|exact HB.out)))
      rintro e w42 ⟨rfl,hb⟩
      refine ⟨_,rfl,?_⟩
      have n0_ := Aside0.mk (blk_below (g := gb378) (o := .cells #[.string t373,.string t374,.int .i64 t375] 31 (0,0)) (by (with_reducible repeat (first|refine bN ?_ _|refine bD ?_|refine bA ?_ _));exact BK378.out) hb)
      have n1_ := Aside0.mk (blk_below (g := gb379) (o := .cells #[.string t376,.string t377] 27 (0,0)) (by (with_reducible repeat (first|refine bN ?_ _|refine bD ?_|refine bA ?_ _));exact BK379.out) hb)
      have n2_ := Aside0.mk (blk_below (g := gb384) (o := .cells #[.string t380,.string t381,.int .i64 t382] 31 (0,0)) (by (with_reducible repeat (first|refine bN ?_ _|refine bD ?_|refine bA ?_ _));exact BK384.out) hb)
      have n3_ := Aside0.mk (blk_below (g := gb389) (o := .cells #[.string t385,.string t386,.int .i64 t387] 31 (0,0)) (by (with_reducible repeat (first|refine bN ?_ _|refine bD ?_|refine bA ?_ _));exact BK389.out) hb)
      have n4_ := Aside0.mk (below_step (by repeat (first|(with_reducible first|exact HB.out|apply lA|apply lN|apply lD|refine below_set ?_ GE378.out|refine below_set ?_ GE379.out|refine below_set ?_ GE384.out|refine below_set ?_ GE389.out)|exact HB.out)) hb)
      clear BK378
      clear BK379
      clear BK384
      clear BK389
      clear HB
      have BK378 := n0_
      have BK379 := n1_
      have BK384 := n2_
      have BK389 := n3_
      have HB := n4_
      clear n0_ n1_ n2_ n3_ n4_
      (try clear hb)
      (try clear hb2)
      (try clear hk)
      (try clear hi)
      refine hK.out _ _ ⟨(blk_cell BK384.out 0).trans rfl,(blk_cell BK384.out 1).trans rfl,(blk_cell BK384.out 2).trans rfl,(blk_cell BK389.out 0).trans rfl,(blk_cell BK389.out 1).trans rfl,(blk_cell BK389.out 2).trans rfl,(blk_cell BK378.out 0).trans rfl,(blk_cell BK378.out 1).trans rfl,(blk_cell BK378.out 2).trans rfl,(blk_cell BK379.out 0).trans rfl,(blk_cell BK379.out 1).trans rfl⟩ (fun hHeld => ?_)
      clear hK K
      refine norm_ (a' := ?_) ?_ ?_
      rotate_left
      ·show Act.put _ (some 48) _ = _
       simp only [Act.put,List.setIfInBounds_toArray,List.set_cons_zero,List.set_cons_succ,i64_w,i32_w]
       rfl
      refine one_ (i := 12) (N := some 50) #[true,true,true,true,true,true,true,true,true,true,true,true,true,false,false,false,false,false,false,false,false,false] rfl rfl (one_of HT_.out (by kernel_rfl)) (by decide) (fun K hK => ?_)
      refine goes_ Tryd.func21 (by kernel_rfl) rfl #[.agg #[.string t373,.string t374,.int .i64 t375]] (by rfl) rfl rfl (by (try simp only [List.map_toArray,List.map_cons,List.map_nil]);first|done|rfl|(simp only [List.length_drop,List.length_take];rfl)) ?_
      with_reducible refine (spec_IsValidLog.calls k t373 t374 t375 t391 _ A32.out).mono ?_
      rintro e w43 ⟨rfl,hb⟩
      refine ⟨_,rfl,?_⟩
      have n0_ := Aside0.mk (blk_below (g := gb378) (o := .cells #[.string t373,.string t374,.int .i64 t375] 31 (0,0)) (by (with_reducible repeat (first|refine bN ?_ _|refine bD ?_|refine bA ?_ _));exact BK378.out) hb)
      have n1_ := Aside0.mk (blk_below (g := gb379) (o := .cells #[.string t376,.string t377] 27 (0,0)) (by (with_reducible repeat (first|refine bN ?_ _|refine bD ?_|refine bA ?_ _));exact BK379.out) hb)
      have n2_ := Aside0.mk (blk_below (g := gb384) (o := .cells #[.string t380,.string t381,.int .i64 t382] 31 (0,0)) (by (with_reducible repeat (first|refine bN ?_ _|refine bD ?_|refine bA ?_ _));exact BK384.out) hb)
      have n3_ := Aside0.mk (blk_below (g := gb389) (o := .cells #[.string t385,.string t386,.int .i64 t387] 31 (0,0)) (by (with_reducible repeat (first|refine bN ?_ _|refine bD ?_|refine bA ?_ _));exact BK389.out) hb)
      have n4_ := Aside0.mk (below_step (by repeat (first|(with_reducible first|exact HB.out|apply lA|apply lN|apply lD|refine below_set ?_ GE378.out|refine below_set ?_ GE379.out|refine below_set ?_ GE384.out|refine below_set ?_ GE389.out)|exact HB.out)) hb)
      clear BK378
      clear BK379
      clear BK384
      clear BK389
      clear HB
      have BK378 := n0_
      have BK379 := n1_
      have BK384 := n2_
      have BK389 := n3_
      have HB := n4_
      clear n0_ n1_ n2_ n3_ n4_
      (try clear hb)
      (try clear hb2)
      (try clear hk)
      (try clear hi)
      refine hK.out _ _ ⟨(blk_cell BK384.out 0).trans rfl,(blk_cell BK384.out 1).trans rfl,(blk_cell BK384.out 2).trans rfl,(blk_cell BK389.out 0).trans rfl,(blk_cell BK389.out 1).trans rfl,(blk_cell BK389.out 2).trans rfl,(blk_cell BK378.out 0).trans rfl,(blk_cell BK378.out 1).trans rfl,(blk_cell BK378.out 2).trans rfl,(blk_cell BK379.out 0).trans rfl,(blk_cell BK379.out 1).trans rfl⟩ (fun hHeld => ?_)
      clear hK K
      refine norm_ (a' := ?_) ?_ ?_
      rotate_left
      ·show Act.put _ (some 50) _ = _
       simp only [Act.put,List.setIfInBounds_toArray,List.set_cons_zero,List.set_cons_succ,i64_w,i32_w]
       rfl
      refine pure_ (i := 13) (N := some 51) (v := ?_) (a' := ?_) #[true,true,true,true,true,true,true,true,true,true,true,true,true,true,false,false,false,false,false,false,false,false] rfl rfl (any_of HT_.out (by kernel_rfl)) (fun _ _ _ h => h) (Or.inl ⟨by rfl,?_⟩) ?_ ?_
      rotate_left
      ·intro w'
       go_simp
       with_reducible rfl
      rotate_left
      ·simp only [Act.put,List.setIfInBounds_toArray,List.set_cons_zero,List.set_cons_succ,i64_w,i32_w]
       rfl
      refine pure_ (i := 14) (N := some 52) (v := ?_) (a' := ?_) #[true,true,true,true,true,true,true,true,true,true,true,true,true,true,true,false,false,false,false,false,false,false] rfl rfl (any_of HT_.out (by kernel_rfl)) (fun _ _ _ h => h) (Or.inl ⟨by rfl,?_⟩) ?_ ?_
      rotate_left
      ·intro w'
       go_simp
       with_reducible rfl
      rotate_left
      ·simp only [Act.put,List.setIfInBounds_toArray,List.set_cons_zero,List.set_cons_succ,i64_w,i32_w]
       rfl
      refine pure_ (i := 15) (N := some 53) (v := ?_) (a' := ?_) #[true,true,true,true,true,true,true,true,true,true,true,true,true,true,true,true,false,false,false,false,false,false] rfl rfl (any_of HT_.out (by kernel_rfl)) (fun _ _ _ h => h) (Or.inl ⟨by rfl,?_⟩) ?_ ?_
      rotate_left
      ·intro w'
       go_simp
       with_reducible rfl
      rotate_left
      ·simp only [Act.put,List.setIfInBounds_toArray,List.set_cons_zero,List.set_cons_succ,i64_w,i32_w]
       rfl
      refine take_ (i := 16) (N := some 54) (v := ?_) (a' := ?_) #[true,true,true,true,true,true,true,true,true,true,true,true,true,true,true,true,true,false,false,false,false,false] rfl rfl (take_ofW HT_.out HW_.out (by kernel_rfl)) (fun _ _ _ h => h) (Or.inl ⟨by rfl,?_⟩) hHeld ?_ ?_
      rotate_left
      ·rintro w' ⟨s0,s1,s2,s3,s4,s5,s6,s7,s8,s9,s10⟩
       go_simp
       with_reducible rfl
      rotate_left
      ·simp only [Act.put,List.setIfInBounds_toArray,List.set_cons_zero,List.set_cons_succ,i64_w,i32_w]
       rfl
      refine take_ (i := 18) (N := some 56) (v := ?_) (a' := ?_) #[true,true,true,true,true,true,true,true,true,true,true,true,true,true,true,true,true,false,true,false,false,false] rfl rfl (take_ofW HT_.out HW_.out (by kernel_rfl)) (fun _ _ _ h => h) (Or.inl ⟨by rfl,?_⟩) hHeld ?_ ?_
      rotate_left
      ·rintro w' ⟨s0,s1,s2,s3,s4,s5,s6,s7,s8,s9,s10⟩
       go_simp
       with_reducible rfl
      rotate_left
      ·simp only [Act.put,List.setIfInBounds_toArray,List.set_cons_zero,List.set_cons_succ,i64_w,i32_w]
       rfl
      refine one_ (i := 17) (N := some 55) #[true,true,true,true,true,true,true,true,true,true,true,true,true,true,true,true,true,true,true,false,false,false] rfl rfl (one_of HT_.out (by kernel_rfl)) (by decide) (fun K hK => ?_)
      refine goes_ Tryd.func37 (by kernel_rfl) rfl #[.agg #[.string t376,.string t377]] (by rfl) rfl rfl (by (try simp only [List.map_toArray,List.map_cons,List.map_nil]);first|done|rfl|(simp only [List.length_drop,List.length_take];rfl)) ?_
      with_reducible refine (impl_IsValidRecord.calls k t376 t377 t392 _ A38.out).mono ?_
      rintro e w44 ⟨rfl,hb⟩
      refine ⟨_,rfl,?_⟩
      have n0_ := Aside0.mk (blk_below (g := gb378) (o := .cells #[.string t373,.string t374,.int .i64 t375] 31 (0,0)) (by (with_reducible repeat (first|refine bN ?_ _|refine bD ?_|refine bA ?_ _));exact BK378.out) hb)
      have n1_ := Aside0.mk (blk_below (g := gb379) (o := .cells #[.string t376,.string t377] 27 (0,0)) (by (with_reducible repeat (first|refine bN ?_ _|refine bD ?_|refine bA ?_ _));exact BK379.out) hb)
      have n2_ := Aside0.mk (blk_below (g := gb384) (o := .cells #[.string t380,.string t381,.int .i64 t382] 31 (0,0)) (by (with_reducible repeat (first|refine bN ?_ _|refine bD ?_|refine bA ?_ _));exact BK384.out) hb)
      have n3_ := Aside0.mk (blk_below (g := gb389) (o := .cells #[.string t385,.string t386,.int .i64 t387] 31 (0,0)) (by (with_reducible repeat (first|refine bN ?_ _|refine bD ?_|refine bA ?_ _));exact BK389.out) hb)
      have n4_ := Aside0.mk (below_step (by repeat (first|(with_reducible first|exact HB.out|apply lA|apply lN|apply lD|refine below_set ?_ GE378.out|refine below_set ?_ GE379.out|refine below_set ?_ GE384.out|refine below_set ?_ GE389.out)|exact HB.out)) hb)
      clear BK378
      clear BK379
      clear BK384
      clear BK389
      clear HB
      have BK378 := n0_
      have BK379 := n1_
      have BK384 := n2_
      have BK389 := n3_
      have HB := n4_
      clear n0_ n1_ n2_ n3_ n4_
      (try clear hb)
      (try clear hb2)
      (try clear hk)
      (try clear hi)
      refine hK.out _ _ ⟨(blk_cell BK384.out 0).trans rfl,(blk_cell BK384.out 1).trans rfl,(blk_cell BK384.out 2).trans rfl,(blk_cell BK389.out 0).trans rfl,(blk_cell BK389.out 1).trans rfl,(blk_cell BK389.out 2).trans rfl,(blk_cell BK378.out 0).trans rfl,(blk_cell BK378.out 1).trans rfl,(blk_cell BK378.out 2).trans rfl,(blk_cell BK379.out 0).trans rfl,(blk_cell BK379.out 1).trans rfl⟩ (fun hHeld => ?_)
      clear hK K
      refine norm_ (a' := ?_) ?_ ?_
      rotate_left
      ·show Act.put _ (some 55) _ = _
       simp only [Act.put,List.setIfInBounds_toArray,List.set_cons_zero,List.set_cons_succ,i64_w,i32_w]
       rfl
      refine one_ (i := 19) (N := some 57) #[true,true,true,true,true,true,true,true,true,true,true,true,true,true,true,true,true,true,true,true,false,false] rfl rfl (one_of HT_.out (by kernel_rfl)) (by decide) (fun K hK => ?_)
      refine goes_ Tryd.func38 (by kernel_rfl) rfl #[.agg #[.string t376,.string t377]] (by rfl) rfl rfl (by (try simp only [List.map_toArray,List.map_cons,List.map_nil]);first|done|rfl|(simp only [List.length_drop,List.length_take];rfl)) ?_
      with_reducible refine (spec_IsValidRecord.calls k t376 t377 t393 _ A39.out).mono ?_
      rintro e w45 ⟨rfl,hb⟩
      refine ⟨_,rfl,?_⟩
      have n0_ := Aside0.mk (blk_below (g := gb378) (o := .cells #[.string t373,.string t374,.int .i64 t375] 31 (0,0)) (by (with_reducible repeat (first|refine bN ?_ _|refine bD ?_|refine bA ?_ _));exact BK378.out) hb)
      have n1_ := Aside0.mk (blk_below (g := gb379) (o := .cells #[.string t376,.string t377] 27 (0,0)) (by (with_reducible repeat (first|refine bN ?_ _|refine bD ?_|refine bA ?_ _));exact BK379.out) hb)
      have n2_ := Aside0.mk (blk_below (g := gb384) (o := .cells #[.string t380,.string t381,.int .i64 t382] 31 (0,0)) (by (with_reducible repeat (first|refine bN ?_ _|refine bD ?_|refine bA ?_ _));exact BK384.out) hb)
      have n3_ := Aside0.mk (blk_below (g := gb389) (o := .cells #[.string t385,.string t386,.int .i64 t387] 31 (0,0)) (by (with_reducible repeat (first|refine bN ?_ _|refine bD ?_|refine bA ?_ _));exact BK389.out) hb)
      have n4_ := Aside0.mk (below_step (by repeat (first|(with_reducible first|exact HB.out|apply lA|apply lN|apply lD|refine below_set ?_ GE378.out|refine below_set ?_ GE379.out|refine below_set ?_ GE384.out|refine below_set ?_ GE389.out)|exact HB.out)) hb)
      clear BK378
      clear BK379
      clear BK384
      clear BK389
      clear HB
      have BK378 := n0_
      have BK379 := n1_
      have BK384 := n2_
      have BK389 := n3_
      have HB := n4_
      clear n0_ n1_ n2_ n3_ n4_
      (try clear hb)
      (try clear hb2)
      (try clear hk)
      (try clear hi)
      refine hK.out _ _ ⟨(blk_cell BK384.out 0).trans rfl,(blk_cell BK384.out 1).trans rfl,(blk_cell BK384.out 2).trans rfl,(blk_cell BK389.out 0).trans rfl,(blk_cell BK389.out 1).trans rfl,(blk_cell BK389.out 2).trans rfl,(blk_cell BK378.out 0).trans rfl,(blk_cell BK378.out 1).trans rfl,(blk_cell BK378.out 2).trans rfl,(blk_cell BK379.out 0).trans rfl,(blk_cell BK379.out 1).trans rfl⟩ (fun hHeld => ?_)
      clear hK K
      refine norm_ (a' := ?_) ?_ ?_
      rotate_left
      ·show Act.put _ (some 57) _ = _
       simp only [Act.put,List.setIfInBounds_toArray,List.set_cons_zero,List.set_cons_succ,i64_w,i32_w]
       rfl
      refine pure_ (i := 20) (N := some 58) (v := ?_) (a' := ?_) #[true,true,true,true,true,true,true,true,true,true,true,true,true,true,true,true,true,true,true,true,true,false] rfl rfl (any_of HT_.out (by kernel_rfl)) (fun _ _ _ h => h) (Or.inl ⟨by rfl,?_⟩) ?_ ?_
      rotate_left
      ·intro w'
       go_simp
       with_reducible rfl
      rotate_left
      ·simp only [Act.put,List.setIfInBounds_toArray,List.set_cons_zero,List.set_cons_succ,i64_w,i32_w]
       rfl
      refine pure_ (i := 21) (N := some 59) (v := ?_) (a' := ?_) #[true,true,true,true,true,true,true,true,true,true,true,true,true,true,true,true,true,true,true,true,true,true] rfl rfl (any_of HT_.out (by kernel_rfl)) (fun _ _ _ h => h) (Or.inl ⟨by rfl,?_⟩) ?_ ?_
      rotate_left
      ·intro w'
       go_simp
       with_reducible rfl
      rotate_left
      ·simp only [Act.put,List.setIfInBounds_toArray,List.set_cons_zero,List.set_cons_succ,i64_w,i32_w]
       rfl
      refine done_ (done_of HT_.out (by kernel_rfl)) ?_
      try go_wp2
      go_meet
      case rel => exact ⟨_,((t392 != t393)),(by first|rfl|(simp;done)|(simp [my_isEmpty];done)|(simp [*];done)),H',⟨by first|omega|exact Nat.le_refl _⟩,⟨by (with_reducible repeat (first|refine bN ?_ _|refine bD ?_|refine bA ?_ _));exact BK378.out⟩,⟨by (with_reducible repeat (first|refine bN ?_ _|refine bD ?_|refine bA ?_ _));exact BK379.out⟩,⟨by (with_reducible repeat (first|refine bN ?_ _|refine bD ?_|refine bA ?_ _));exact BK384.out⟩,⟨by (with_reducible repeat (first|refine bN ?_ _|refine bD ?_|refine bA ?_ _));exact BK389.out⟩,⟨by repeat (first|(with_reducible first|exact HB.out|apply lA|apply lN|apply lD|refine below_set ?_ GE378.out|refine below_set ?_ GE379.out|refine below_set ?_ GE384.out|refine below_set ?_ GE389.out)|exact HB.out)⟩⟩
    ·rw [if_neg c30] at H
     have c30b0 : (t383 == t388) = false := beq_eq_false_iff_ne.mpr c30
     have c30b1 : (t383 != t388) = true := bne_iff_ne.mpr c30
     have H' := Aside0.mk H
     clear H
     try go_wp2
     have n0_ : Aside0 ((((w22.setCell ⟨gb389,0,none⟩ (.string t385)).setCell ⟨gb389,1,none⟩ (.string t386)).setCell ⟨gb389,2,none⟩ (.int .i64 t387)).heap[gb378]? = some (.cells #[.string t373,.string t374,.int .i64 t375] 31 (0,0))) := ⟨by (with_reducible repeat (first|refine bN ?_ _|refine bD ?_|refine bA ?_ _));refine blk_far ?_ NB378_389.out _;(with_reducible repeat (first|refine bN ?_ _|refine bD ?_|refine bA ?_ _));refine blk_far ?_ NB378_389.out _;(with_reducible repeat (first|refine bN ?_ _|refine bD ?_|refine bA ?_ _));refine blk_far ?_ NB378_389.out _;(with_reducible repeat (first|refine bN ?_ _|refine bD ?_|refine bA ?_ _));exact BK378.out⟩
     have n1_ : Aside0 ((((w22.setCell ⟨gb389,0,none⟩ (.string t385)).setCell ⟨gb389,1,none⟩ (.string t386)).setCell ⟨gb389,2,none⟩ (.int .i64 t387)).heap[gb379]? = some (.cells #[.string t376,.string t377] 27 (0,0))) := ⟨by (with_reducible repeat (first|refine bN ?_ _|refine bD ?_|refine bA ?_ _));refine blk_far ?_ NB379_389.out _;(with_reducible repeat (first|refine bN ?_ _|refine bD ?_|refine bA ?_ _));refine blk_far ?_ NB379_389.out _;(with_reducible repeat (first|refine bN ?_ _|refine bD ?_|refine bA ?_ _));refine blk_far ?_ NB379_389.out _;(with_reducible repeat (first|refine bN ?_ _|refine bD ?_|refine bA ?_ _));exact BK379.out⟩
     have n2_ : Aside0 ((((w22.setCell ⟨gb389,0,none⟩ (.string t385)).setCell ⟨gb389,1,none⟩ (.string t386)).setCell ⟨gb389,2,none⟩ (.int .i64 t387)).heap[gb384]? = some (.cells #[.string t380,.string t381,.int .i64 t382] 31 (0,0))) := ⟨by (with_reducible repeat (first|refine bN ?_ _|refine bD ?_|refine bA ?_ _));refine blk_far ?_ NB384_389.out _;(with_reducible repeat (first|refine bN ?_ _|refine bD ?_|refine bA ?_ _));refine blk_far ?_ NB384_389.out _;(with_reducible repeat (first|refine bN ?_ _|refine bD ?_|refine bA ?_ _));refine blk_far ?_ NB384_389.out _;(with_reducible repeat (first|refine bN ?_ _|refine bD ?_|refine bA ?_ _));exact BK384.out⟩
     have n3_ : Aside0 ((((w22.setCell ⟨gb389,0,none⟩ (.string t385)).setCell ⟨gb389,1,none⟩ (.string t386)).setCell ⟨gb389,2,none⟩ (.int .i64 t387)).heap[gb389]? = some (.cells #[.string t385,.string t386,.int .i64 t387] 31 (0,0))) := ⟨by (with_reducible repeat (first|refine bN ?_ _|refine bD ?_|refine bA ?_ _));refine blk_put (cs := #[.string t385,.string t386,.int .i64 0]) ?_ 2 _ rfl;(with_reducible repeat (first|refine bN ?_ _|refine bD ?_|refine bA ?_ _));refine blk_put (cs := #[.string t385,.string (⟨#[]⟩ : ByteArray),.int .i64 0]) ?_ 1 _ rfl;(with_reducible repeat (first|refine bN ?_ _|refine bD ?_|refine bA ?_ _));refine blk_put (cs := #[.string (⟨#[]⟩ : ByteArray),.string (⟨#[]⟩ : ByteArray),.int .i64 0]) ?_ 0 _ rfl;(with_reducible repeat (first|refine bN ?_ _|refine bD ?_|refine bA ?_ _));exact BK389.out⟩
     have n4_ : Aside0 (Below w.heap.size w (((w22.setCell ⟨gb389,0,none⟩ (.string t385)).setCell ⟨gb389,1,none⟩ (.string t386)).setCell ⟨gb389,2,none⟩ (.int .i64 t387))) := ⟨by repeat (first|(with_reducible first|exact HB.out|apply lA|apply lN|apply lD|refine below_set ?_ GE378.out|refine below_set ?_ GE379.out|refine below_set ?_ GE384.out|refine below_set ?_ GE389.out)|exact HB.out)⟩
     (try clear BK378)
     (try clear BK379)
     (try clear BK384)
     (try clear BK389)
     (try clear HB)
     generalize (((w22.setCell ⟨gb389,0,none⟩ (.string t385)).setCell ⟨gb389,1,none⟩ (.string t386)).setCell ⟨gb389,2,none⟩ (.int .i64 t387)) = w46 at n0_ n1_ n2_ n3_ n4_ ⊢
     have BK378 := n0_
     have BK379 := n1_
     have BK384 := n2_
     have BK389 := n3_
     have HB := n4_
     clear n0_ n1_ n2_ n3_ n4_
     have n0_ := Aside0.mk (bD BK378.out)
     have n1_ := Aside0.mk (bD BK379.out)
     have n2_ := Aside0.mk (bD BK384.out)
     have n3_ := Aside0.mk (bD BK389.out)
     have n4_ := Aside0.mk (lD HB.out)
     clear BK378
     clear BK379
     clear BK384
     clear BK389
     clear HB
     have BK378 := n0_
     have BK379 := n1_
     have BK384 := n2_
     have BK389 := n3_
     have HB := n4_
     clear n0_ n1_ n2_ n3_ n4_
     refine start_ (n := 22) (S := fun w' => w'.cell? ⟨gb384,0,none⟩ = some (.string t380) ∧ w'.cell? ⟨gb384,1,none⟩ = some (.string t381) ∧ w'.cell? ⟨gb384,2,none⟩ = some (.int .i64 t382) ∧ w'.cell? ⟨gb389,0,none⟩ = some (.string t385) ∧ w'.cell? ⟨gb389,1,none⟩ = some (.string t386) ∧ w'.cell? ⟨gb389,2,none⟩ = some (.int .i64 t387)) (ds := []) #[false,false,false,false,false,false,false,false,false,false,false,false,false,false,false,false,false,false,false,false,false,false] (by kernel_rfl) rfl rfl ⟨(blk_cell BK384.out 0).trans rfl,(blk_cell BK384.out 1).trans rfl,(blk_cell BK384.out 2).trans rfl,(blk_cell BK389.out 0).trans rfl,(blk_cell BK389.out 1).trans rfl,(blk_cell BK389.out 2).trans rfl⟩ (fun hHeld => ?_);refine with_tabW laws_FnLog.tab6 laws_FnLog.bits6 (fun HT_ HW_ => ?_)
     generalize w46.drew = w47 at BK378 BK379 BK384 BK389 HB hHeld ⊢
     refine take_ (i := 0) (N := some 38) (v := ?_) (a' := ?_) #[true,false,false,false,false,false,false,false,false,false,false,false,false,false,false,false,false,false,false,false,false,false] rfl rfl (take_ofW HT_.out HW_.out (by kernel_rfl)) (fun _ _ _ h => h) (Or.inl ⟨by rfl,?_⟩) hHeld ?_ ?_
     rotate_left
     ·rintro w' ⟨s0,s1,s2,s3,s4,s5⟩
      go_simp
      with_reducible rfl
     rotate_left
     ·simp only [Act.put,List.setIfInBounds_toArray,List.set_cons_zero,List.set_cons_succ,i64_w,i32_w]
      rfl
     refine take_ (i := 1) (N := some 39) (v := ?_) (a' := ?_) #[true,true,false,false,false,false,false,false,false,false,false,false,false,false,false,false,false,false,false,false,false,false] rfl rfl (take_ofW HT_.out HW_.out (by kernel_rfl)) (fun _ _ _ h => h) (Or.inl ⟨by rfl,?_⟩) hHeld ?_ ?_
     rotate_left
     ·rintro w' ⟨s0,s1,s2,s3,s4,s5⟩
      go_simp
      with_reducible rfl
     rotate_left
     ·simp only [Act.put,List.setIfInBounds_toArray,List.set_cons_zero,List.set_cons_succ,i64_w,i32_w]
      rfl
     refine pure_ (i := 2) (N := some 40) (v := ?_) (a' := ?_) #[true,true,true,false,false,false,false,false,false,false,false,false,false,false,false,false,false,false,false,false,false,false] rfl rfl (any_of HT_.out (by kernel_rfl)) (fun _ _ _ h => h) (Or.inl ⟨by rfl,?_⟩) ?_ ?_
     rotate_left
     ·intro w'
      go_simp
      with_reducible rfl
     rotate_left
     ·simp only [Act.put,List.setIfInBounds_toArray,List.set_cons_zero,List.set_cons_succ,i64_w,i32_w]
      rfl
     refine pure_ (i := 3) (N := some 41) (v := ?_) (a' := ?_) #[true,true,true,true,false,false,false,false,false,false,false,false,false,false,false,false,false,false,false,false,false,false] rfl rfl (any_of HT_.out (by kernel_rfl)) (fun _ _ _ h => h) (Or.inl ⟨by rfl,?_⟩) ?_ ?_
     rotate_left
     ·intro w'
      go_simp
      with_reducible rfl
     rotate_left
     ·simp only [Act.put,List.setIfInBounds_toArray,List.set_cons_zero,List.set_cons_succ,i64_w,i32_w]
      rfl
     refine pure_ (i := 4) (N := some 42) (v := ?_) (a' := ?_) #[true,true,true,true,true,false,false,false,false,false,false,false,false,false,false,false,false,false,false,false,false,false] rfl rfl (any_of HT_.out (by kernel_rfl)) (fun _ _ _ h => h) (Or.inl ⟨by rfl,?_⟩) ?_ ?_
     rotate_left
     ·intro w'
      go_simp
      with_reducible rfl
     rotate_left
     ·simp only [Act.put,List.setIfInBounds_toArray,List.set_cons_zero,List.set_cons_succ,i64_w,i32_w]
      rfl
     refine pure_ (i := 5) (N := some 43) (v := ?_) (a' := ?_) #[true,true,true,true,true,true,false,false,false,false,false,false,false,false,false,false,false,false,false,false,false,false] rfl rfl (any_of HT_.out (by kernel_rfl)) (fun _ _ _ h => h) (Or.inl ⟨by rfl,?_⟩) ?_ ?_
     rotate_left
     ·intro w'
      go_simp
      with_reducible rfl
     rotate_left
     ·simp only [Act.put,List.setIfInBounds_toArray,List.set_cons_zero,List.set_cons_succ,i64_w,i32_w]
      rfl
     refine pure_ (i := 6) (N := some 44) (v := ?_) (a' := ?_) #[true,true,true,true,true,true,true,false,false,false,false,false,false,false,false,false,false,false,false,false,false,false] rfl rfl (any_of HT_.out (by kernel_rfl)) (fun _ _ _ h => h) (Or.inl ⟨by rfl,?_⟩) ?_ ?_
     rotate_left
     ·intro w'
      go_simp
      with_reducible rfl
     rotate_left
     ·simp only [Act.put,List.setIfInBounds_toArray,List.set_cons_zero,List.set_cons_succ,i64_w,i32_w]
      rfl
     refine pure_ (i := 7) (N := some 45) (v := ?_) (a' := ?_) #[true,true,true,true,true,true,true,true,false,false,false,false,false,false,false,false,false,false,false,false,false,false] rfl rfl (any_of HT_.out (by kernel_rfl)) (fun _ _ _ h => h) (Or.inl ⟨by rfl,?_⟩) ?_ ?_
     rotate_left
     ·intro w'
      go_simp
      with_reducible rfl
     rotate_left
     ·simp only [Act.put,List.setIfInBounds_toArray,List.set_cons_zero,List.set_cons_succ,i64_w,i32_w]
      rfl
     refine pure_ (i := 8) (N := some 46) (v := ?_) (a' := ?_) #[true,true,true,true,true,true,true,true,true,false,false,false,false,false,false,false,false,false,false,false,false,false] rfl rfl (any_of HT_.out (by kernel_rfl)) (fun _ _ _ h => h) (Or.inl ⟨by rfl,?_⟩) ?_ ?_
     rotate_left
     ·intro w'
      go_simp
      with_reducible rfl
     rotate_left
     ·simp only [Act.put,List.setIfInBounds_toArray,List.set_cons_zero,List.set_cons_succ,i64_w,i32_w]
      rfl
     refine pure_ (i := 9) (N := some 47) (v := undef) (a' := ?_) #[true,true,true,true,true,true,true,true,true,true,false,false,false,false,false,false,false,false,false,false,false,false] rfl rfl (any_of HT_.out (by kernel_rfl)) (fun _ _ _ h => h) (Or.inr ⟨by rfl,rfl⟩) ?_ ?_
     rotate_left
     ·simp only [Act.put,List.setIfInBounds_toArray,List.set_cons_zero,List.set_cons_succ,i64_w,i32_w]
      rfl
     refine pure_ (i := 10) (N := some 48) (v := undef) (a' := ?_) #[true,true,true,true,true,true,true,true,true,true,true,false,false,false,false,false,false,false,false,false,false,false] rfl rfl (any_of HT_.out (by kernel_rfl)) (fun _ _ _ h => h) (Or.inr ⟨by rfl,rfl⟩) ?_ ?_
     rotate_left
     ·simp only [Act.put,List.setIfInBounds_toArray,List.set_cons_zero,List.set_cons_succ,i64_w,i32_w]
      rfl
     refine pure_ (i := 11) (N := some 49) (v := undef) (a' := ?_) #[true,true,true,true,true,true,true,true,true,true,true,true,false,false,false,false,false,false,false,false,false,false] rfl rfl (any_of HT_.out (by kernel_rfl)) (fun _ _ _ h => h) (Or.inr ⟨by rfl,rfl⟩) ?_ ?_
     rotate_left
     ·simp only [Act.put,List.setIfInBounds_toArray,List.set_cons_zero,List.set_cons_succ,i64_w,i32_w]
      rfl
     refine pure_ (i := 12) (N := some 50) (v := undef) (a' := ?_) #[true,true,true,true,true,true,true,true,true,true,true,true,true,false,false,false,false,false,false,false,false,false] rfl rfl (any_of HT_.out (by kernel_rfl)) (fun _ _ _ h => h) (Or.inr ⟨by rfl,rfl⟩) ?_ ?_
     rotate_left
     ·simp only [Act.put,List.setIfInBounds_toArray,List.set_cons_zero,List.set_cons_succ,i64_w,i32_w]
      rfl
     refine pure_ (i := 13) (N := some 51) (v := undef) (a' := ?_) #[true,true,true,true,true,true,true,true,true,true,true,true,true,true,false,false,false,false,false,false,false,false] rfl rfl (any_of HT_.out (by kernel_rfl)) (fun _ _ _ h => h) (Or.inr ⟨by rfl,rfl⟩) ?_ ?_
     rotate_left
     ·simp only [Act.put,List.setIfInBounds_toArray,List.set_cons_zero,List.set_cons_succ,i64_w,i32_w]
      rfl
     refine pure_ (i := 14) (N := some 52) (v := ?_) (a' := ?_) #[true,true,true,true,true,true,true,true,true,true,true,true,true,true,true,false,false,false,false,false,false,false] rfl rfl (any_of HT_.out (by kernel_rfl)) (fun _ _ _ h => h) (Or.inl ⟨by rfl,?_⟩) ?_ ?_
     rotate_left
     ·intro w'
      go_simp
      with_reducible rfl
     rotate_left
     ·simp only [Act.put,List.setIfInBounds_toArray,List.set_cons_zero,List.set_cons_succ,i64_w,i32_w]
      rfl
     refine pure_ (i := 15) (N := some 53) (v := ?_) (a' := ?_) #[true,true,true,true,true,true,true,true,true,true,true,true,true,true,true,true,false,false,false,false,false,false] rfl rfl (any_of HT_.out (by kernel_rfl)) (fun _ _ _ h => h) (Or.inl ⟨by rfl,?_⟩) ?_ ?_
     rotate_left
     ·intro w'
      go_simp
      with_reducible rfl
     rotate_left
     ·simp only [Act.put,List.setIfInBounds_toArray,List.set_cons_zero,List.set_cons_succ,i64_w,i32_w]
      rfl
     refine pure_ (i := 16) (N := some 54) (v := undef) (a' := ?_) #[true,true,true,true,true,true,true,true,true,true,true,true,true,true,true,true,true,false,false,false,false,false] rfl rfl (any_of HT_.out (by kernel_rfl)) (fun _ _ _ h => h) (Or.inr ⟨by rfl,rfl⟩) ?_ ?_
     rotate_left
     ·simp only [Act.put,List.setIfInBounds_toArray,List.set_cons_zero,List.set_cons_succ,i64_w,i32_w]
      rfl
     refine pure_ (i := 17) (N := some 55) (v := undef) (a' := ?_) #[true,true,true,true,true,true,true,true,true,true,true,true,true,true,true,true,true,true,false,false,false,false] rfl rfl (any_of HT_.out (by kernel_rfl)) (fun _ _ _ h => h) (Or.inr ⟨by rfl,rfl⟩) ?_ ?_
     rotate_left
     ·simp only [Act.put,List.setIfInBounds_toArray,List.set_cons_zero,List.set_cons_succ,i64_w,i32_w]
      rfl
     refine pure_ (i := 18) (N := some 56) (v := undef) (a' := ?_) #[true,true,true,true,true,true,true,true,true,true,true,true,true,true,true,true,true,true,true,false,false,false] rfl rfl (any_of HT_.out (by kernel_rfl)) (fun _ _ _ h => h) (Or.inr ⟨by rfl,rfl⟩) ?_ ?_
     rotate_left
     ·simp only [Act.put,List.setIfInBounds_toArray,List.set_cons_zero,List.set_cons_succ,i64_w,i32_w]
      rfl
     refine pure_ (i := 19) (N := some 57) (v := undef) (a' := ?_) #[true,true,true,true,true,true,true,true,true,true,true,true,true,true,true,true,true,true,true,true,false,false] rfl rfl (any_of HT_.out (by kernel_rfl)) (fun _ _ _ h => h) (Or.inr ⟨by rfl,rfl⟩) ?_ ?_
     rotate_left
     ·simp only [Act.put,List.setIfInBounds_toArray,List.set_cons_zero,List.set_cons_succ,i64_w,i32_w]
      rfl
     refine pure_ (i := 20) (N := some 58) (v := undef) (a' := ?_) #[true,true,true,true,true,true,true,true,true,true,true,true,true,true,true,true,true,true,true,true,true,false] rfl rfl (any_of HT_.out (by kernel_rfl)) (fun _ _ _ h => h) (Or.inr ⟨by rfl,rfl⟩) ?_ ?_
     rotate_left
     ·simp only [Act.put,List.setIfInBounds_toArray,List.set_cons_zero,List.set_cons_succ,i64_w,i32_w]
      rfl
     refine pure_ (i := 21) (N := some 59) (v := ?_) (a' := ?_) #[true,true,true,true,true,true,true,true,true,true,true,true,true,true,true,true,true,true,true,true,true,true] rfl rfl (any_of HT_.out (by kernel_rfl)) (fun _ _ _ h => h) (Or.inl ⟨by rfl,?_⟩) ?_ ?_
     rotate_left
     ·intro w'
      go_simp
      with_reducible rfl
     rotate_left
     ·simp only [Act.put,List.setIfInBounds_toArray,List.set_cons_zero,List.set_cons_succ,i64_w,i32_w]
      rfl
     refine done_ (done_of HT_.out (by kernel_rfl)) ?_
     try go_wp2
     go_meet
     case rel => exact ⟨_,(true),(by first|rfl|(simp;done)|(simp [my_isEmpty];done)|(simp [*];done)),H',⟨by first|omega|exact Nat.le_refl _⟩,⟨by (with_reducible repeat (first|refine bN ?_ _|refine bD ?_|refine bA ?_ _));exact BK378.out⟩,⟨by (with_reducible repeat (first|refine bN ?_ _|refine bD ?_|refine bA ?_ _));exact BK379.out⟩,⟨by (with_reducible repeat (first|refine bN ?_ _|refine bD ?_|refine bA ?_ _));exact BK384.out⟩,⟨by (with_reducible repeat (first|refine bN ?_ _|refine bD ?_|refine bA ?_ _));exact BK389.out⟩,⟨by repeat (first|(with_reducible first|exact HB.out|apply lA|apply lN|apply lD|refine below_set ?_ GE378.out|refine below_set ?_ GE379.out|refine below_set ?_ GE384.out|refine below_set ?_ GE389.out)|exact HB.out)⟩⟩
  case rest =>
   clear HC7
   try clear c2
   try clear p2
   try clear c3
   try clear c21
   try clear c23
   try clear c30
   try clear c30b0
   try clear c30b1
   try clear c33
   try clear c33b0
   try clear c33b1
   try clear c33b2
   try clear c37
   try clear c38
   obtain ⟨kq,x59_6,rfl,HA,HJ6,BK378,BK379,BK384,BK389,HB⟩ := hcut
   cases kq with
   | zero => exact absurd HA.out (by simp [laws_FnLog.j0])
   | succ kj6 =>
    have H := HA.out
    clear HA
    simp only [laws_FnLog.j0] at H
    by_cases c48 : x59_6 = true
    ·subst c48
     have H1 : (some false) = some r := by rw [if_pos rfl] at H;exact H
     clear H
     have H := H1
     clear H1
     exact absurd ((Option.some.inj H).trans hr_) (by decide)
    ·replace c48 := Bool.eq_false_iff.mpr c48
     subst c48
     have H1 : (if t383 = 0 then ((impl_LogRecords.f kj6 t380 t381 t382).bind fun bt394 => ((impl_LogRecords.f kj6 t373 t374 t375).bind fun bt398 => (if t380.size + t381.size ≤ 9223372036854775807 then ((impl_RecoverLog.f kj6 (t380 ++ t381)).bind fun bt402 => ((impl_SyncLog.f kj6 t380 t381 t382).bind fun bt408 => (if bt394.2 = true then (if (bt394.1.length : Int) = (wrap64 ((bt398.1.length : Int) + 1)) then (laws_FnLog.j1 kj6 bt394.1 bt398.1 bt402.2.2.2.1 bt402.2.2.2.2 bt408.2.2.2 (t382 != (bt394.1.length : Int)) t376 t377 t380 t381 t382 bt402.1 bt402.2.1 bt402.2.2.1 bt408.1 bt408.2.1 bt408.2.2.1) else (laws_FnLog.j1 kj6 bt394.1 bt398.1 bt402.2.2.2.1 bt402.2.2.2.2 bt408.2.2.2 true t376 t377 t380 t381 t382 bt402.1 bt402.2.1 bt402.2.2.1 bt408.1 bt408.2.1 bt408.2.2.1)) else (laws_FnLog.j1 kj6 bt394.1 bt398.1 bt402.2.2.2.1 bt402.2.2.2.2 bt408.2.2.2 true t376 t377 t380 t381 t382 bt402.1 bt402.2.1 bt402.2.2.1 bt408.1 bt408.2.1 bt408.2.2.1)))) else (none)))) else (some (t380.toList == t373.toList && (t381.toList == t374.toList && (t382 == t375))))) = some r := by rw [if_neg (show ¬ (false = true) by decide)] at H;exact H
     clear H
     have H := H1
     clear H1
     by_cases c49 : t383 = 0
     ·rw [if_pos c49] at H
      have c49b0 : (t383 == 0) = true := beq_iff_eq.mpr c49
      have c49b1 : (t383 != 0) = false := bne_eq_false_iff_eq.mpr c49
      clear c49
      replace H := Option.bind_eq_some_iff.mp H
      obtain ⟨⟨t394,t397⟩,A500,H⟩ := H
      replace H : ((impl_LogRecords.f kj6 t373 t374 t375).bind fun bt398 => (if t380.size + t381.size ≤ 9223372036854775807 then ((impl_RecoverLog.f kj6 (t380 ++ t381)).bind fun bt402 => ((impl_SyncLog.f kj6 t380 t381 t382).bind fun bt408 => (if t397 = true then (if (t394.length : Int) = (wrap64 ((bt398.1.length : Int) + 1)) then (laws_FnLog.j1 kj6 t394 bt398.1 bt402.2.2.2.1 bt402.2.2.2.2 bt408.2.2.2 (t382 != (t394.length : Int)) t376 t377 t380 t381 t382 bt402.1 bt402.2.1 bt402.2.2.1 bt408.1 bt408.2.1 bt408.2.2.1) else (laws_FnLog.j1 kj6 t394 bt398.1 bt402.2.2.2.1 bt402.2.2.2.2 bt408.2.2.2 true t376 t377 t380 t381 t382 bt402.1 bt402.2.1 bt402.2.2.1 bt408.1 bt408.2.1 bt408.2.2.1)) else (laws_FnLog.j1 kj6 t394 bt398.1 bt402.2.2.2.1 bt402.2.2.2.2 bt408.2.2.2 true t376 t377 t380 t381 t382 bt402.1 bt402.2.1 bt402.2.2.1 bt408.1 bt408.2.1 bt408.2.2.1)))) else (none))) = some r := H
      have A50 := Aside0.mk A500
      clear A500
      replace H := Option.bind_eq_some_iff.mp H
      obtain ⟨⟨t398,t401⟩,A510,H⟩ := H
      replace H : (if t380.size + t381.size ≤ 9223372036854775807 then ((impl_RecoverLog.f kj6 (t380 ++ t381)).bind fun bt402 => ((impl_SyncLog.f kj6 t380 t381 t382).bind fun bt408 => (if t397 = true then (if (t394.length : Int) = (wrap64 ((t398.length : Int) + 1)) then (laws_FnLog.j1 kj6 t394 t398 bt402.2.2.2.1 bt402.2.2.2.2 bt408.2.2.2 (t382 != (t394.length : Int)) t376 t377 t380 t381 t382 bt402.1 bt402.2.1 bt402.2.2.1 bt408.1 bt408.2.1 bt408.2.2.1) else (laws_FnLog.j1 kj6 t394 t398 bt402.2.2.2.1 bt402.2.2.2.2 bt408.2.2.2 true t376 t377 t380 t381 t382 bt402.1 bt402.2.1 bt402.2.2.1 bt408.1 bt408.2.1 bt408.2.2.1)) else (laws_FnLog.j1 kj6 t394 t398 bt402.2.2.2.1 bt402.2.2.2.2 bt408.2.2.2 true t376 t377 t380 t381 t382 bt402.1 bt402.2.1 bt402.2.2.1 bt408.1 bt408.2.1 bt408.2.2.1)))) else (none)) = some r := H
      have A51 := Aside0.mk A510
      clear A510
      by_cases c52 : t380.size + t381.size ≤ 9223372036854775807
      ·rw [if_pos c52] at H
       have c52b0 := eq_true c52
       have c52b1 : decide (t380.size + t381.size ≤ 9223372036854775807) = true := decide_eq_true c52
       try have c52b2 : (9223372036854775807 < t380.size + t381.size) = False := eq_false (Nat.not_lt.2 c52)
       replace H := Option.bind_eq_some_iff.mp H
       obtain ⟨⟨t402,t403,t404,t405,t406⟩,A530,H⟩ := H
       replace H : ((impl_SyncLog.f kj6 t380 t381 t382).bind fun bt408 => (if t397 = true then (if (t394.length : Int) = (wrap64 ((t398.length : Int) + 1)) then (laws_FnLog.j1 kj6 t394 t398 t405 t406 bt408.2.2.2 (t382 != (t394.length : Int)) t376 t377 t380 t381 t382 t402 t403 t404 bt408.1 bt408.2.1 bt408.2.2.1) else (laws_FnLog.j1 kj6 t394 t398 t405 t406 bt408.2.2.2 true t376 t377 t380 t381 t382 t402 t403 t404 bt408.1 bt408.2.1 bt408.2.2.1)) else (laws_FnLog.j1 kj6 t394 t398 t405 t406 bt408.2.2.2 true t376 t377 t380 t381 t382 t402 t403 t404 bt408.1 bt408.2.1 bt408.2.2.1))) = some r := H
       have A53 := Aside0.mk A530
       clear A530
       replace H := Option.bind_eq_some_iff.mp H
       obtain ⟨⟨t408,t409,t410,t411⟩,A540,H⟩ := H
       replace H : (if t397 = true then (if (t394.length : Int) = (wrap64 ((t398.length : Int) + 1)) then (laws_FnLog.j1 kj6 t394 t398 t405 t406 t411 (t382 != (t394.length : Int)) t376 t377 t380 t381 t382 t402 t403 t404 t408 t409 t410) else (laws_FnLog.j1 kj6 t394 t398 t405 t406 t411 true t376 t377 t380 t381 t382 t402 t403 t404 t408 t409 t410)) else (laws_FnLog.j1 kj6 t394 t398 t405 t406 t411 true t376 t377 t380 t381 t382 t402 t403 t404 t408 t409 t410)) = some r := H
       have A54 := Aside0.mk A540
       clear A540
       have HC55 := Aside0.mk H
       clear H
       have hnb56 := NB384_378.out
       have hnc56 := NB378_384.out
       have hnb57 := NB384_379.out
       have hnc57 := NB379_384.out
       have hnb58 := NB384_389.out
       have hnc58 := NB389_384.out
       have hcz59_0 : wc.cell? ⟨gb384,0,none⟩ = some (.string t380) := (blk_cell BK384.out 0).trans rfl
       have hcz59_1 : wc.cell? ⟨gb384,1,none⟩ = some (.string t381) := (blk_cell BK384.out 1).trans rfl
       have hcz59_2 : wc.cell? ⟨gb384,2,none⟩ = some (.int .i64 t382) := (blk_cell BK384.out 2).trans rfl
       have hfz59_0 := blk_frozen BK384.out 0
       have hfz59_1 := blk_frozen BK384.out 1
       have hfz59_2 := blk_frozen BK384.out 2
       go_upto_region 14 with (first|((with_reducible refine gate_callee (f := 31) rfl ?_);refine goesL_ (some 67) rfl rfl Tryd.func31 (by kernel_rfl) rfl #[.agg #[.string t380,.string t381,.int .i64 t382]] rfl (by (try simp only [List.map_toArray,List.map_cons,List.map_nil]);first|done|rfl|(simp only [List.length_drop,List.length_take];rfl)) ?_;(with_reducible refine (impl_LogRecords.calls kj6 t380 t381 t382 t394 t397 _ ?side1 A50.out).mono ?_);(case side1 => exact Gw.below HG.out (by repeat (first|(with_reducible first|exact HB.out|apply lA|apply lN|apply lD|refine below_set ?_ GE378.out|refine below_set ?_ GE379.out|refine below_set ?_ GE384.out|refine below_set ?_ GE389.out)|exact HB.out)));rintro e w60 ⟨v395,rfl,ho0,hb⟩;refine ⟨_,rfl,?_⟩;have n0_ := Aside0.mk (Kd.R_lower (Kd.R_newB ho0 (g := gb379) (o := .cells #[.string t376,.string t377] 27 (0,0)) (by (with_reducible repeat (first|refine bN ?_ _|refine bD ?_|refine bA ?_ _));exact BK379.out)) (below_size (by repeat (first|(with_reducible first|exact HB.out|apply lA|apply lN|apply lD|refine below_set ?_ GE378.out|refine below_set ?_ GE379.out|refine below_set ?_ GE384.out|refine below_set ?_ GE389.out)|exact HB.out))));have n1_ := Aside0.mk (blk_below (g := gb378) (o := .cells #[.string t373,.string t374,.int .i64 t375] 31 (0,0)) (by (with_reducible repeat (first|refine bN ?_ _|refine bD ?_|refine bA ?_ _));exact BK378.out) hb);have n2_ := Aside0.mk (blk_below (g := gb379) (o := .cells #[.string t376,.string t377] 27 (0,0)) (by (with_reducible repeat (first|refine bN ?_ _|refine bD ?_|refine bA ?_ _));exact BK379.out) hb);have n3_ := Aside0.mk (blk_below (g := gb384) (o := .cells #[.string t380,.string t381,.int .i64 t382] 31 (0,0)) (by (with_reducible repeat (first|refine bN ?_ _|refine bD ?_|refine bA ?_ _));exact BK384.out) hb);have n4_ := Aside0.mk (blk_below (g := gb389) (o := .cells #[.string t385,.string t386,.int .i64 t387] 31 (0,0)) (by (with_reducible repeat (first|refine bN ?_ _|refine bD ?_|refine bA ?_ _));exact BK389.out) hb);have n5_ := Aside0.mk (below_step (by repeat (first|(with_reducible first|exact HB.out|apply lA|apply lN|apply lD|refine below_set ?_ GE378.out|refine below_set ?_ GE379.out|refine below_set ?_ GE384.out|refine below_set ?_ GE389.out)|exact HB.out)) hb);clear BK378;clear BK379;clear BK384;clear BK389;clear HB;have HO396 := n0_;have BK378 := n1_;have BK379 := n2_;have BK384 := n3_;have BK389 := n4_;have HB := n5_;clear n0_ n1_ n2_ n3_ n4_ n5_;(try clear hb);(try clear hb2);(try clear hk);(try clear hi);(try clear ho0);have hnb61 := NB378_379.out;have hnc61 := NB379_378.out;have hnb62 := NB378_389.out;have hnc62 := NB389_378.out;have hcz63_0 : w60.cell? ⟨gb378,0,none⟩ = some (.string t373) := (blk_cell BK378.out 0).trans rfl;have hcz63_1 : w60.cell? ⟨gb378,1,none⟩ = some (.string t374) := (blk_cell BK378.out 1).trans rfl;have hcz63_2 : w60.cell? ⟨gb378,2,none⟩ = some (.int .i64 t375) := (blk_cell BK378.out 2).trans rfl;have hfz63_0 := blk_frozen BK378.out 0;have hfz63_1 := blk_frozen BK378.out 1;have hfz63_2 := blk_frozen BK378.out 2)|((with_reducible refine gate_callee (f := 31) rfl ?_);refine goesL_ (some 72) rfl rfl Tryd.func31 (by kernel_rfl) rfl #[.agg #[.string t373,.string t374,.int .i64 t375]] rfl (by (try simp only [List.map_toArray,List.map_cons,List.map_nil]);first|done|rfl|(simp only [List.length_drop,List.length_take];rfl)) ?_;(with_reducible refine (impl_LogRecords.calls kj6 t373 t374 t375 t398 t401 _ ?side1 A51.out).mono ?_);(case side1 => exact Gw.below HG.out (by repeat (first|(with_reducible first|exact HB.out|apply lA|apply lN|apply lD|refine below_set ?_ GE378.out|refine below_set ?_ GE379.out|refine below_set ?_ GE384.out|refine below_set ?_ GE389.out)|exact HB.out)));rintro e w64 ⟨v399,rfl,ho0,hb⟩;refine ⟨_,rfl,?_⟩;have n0_ := Aside0.mk (Kd.R_elder' (by (with_reducible repeat (first|apply Kd.R_alloc|apply Kd.R_drewN|apply Kd.R_drew));exact HO396.out) (Kd.R_base ho0) hb);have n1_ := Aside0.mk (Kd.R_lower (Kd.R_newB (Kd.R_new' ho0 (Kd.R_lt (by (with_reducible repeat (first|apply Kd.R_alloc|apply Kd.R_drewN|apply Kd.R_drew));exact HO396.out))) (g := gb379) (o := .cells #[.string t376,.string t377] 27 (0,0)) (by (with_reducible repeat (first|refine bN ?_ _|refine bD ?_|refine bA ?_ _));exact BK379.out)) (below_size (by repeat (first|(with_reducible first|exact HB.out|apply lA|apply lN|apply lD|refine below_set ?_ GE378.out|refine below_set ?_ GE379.out|refine below_set ?_ GE384.out|refine below_set ?_ GE389.out)|exact HB.out))));have n2_ := Aside0.mk (blk_below (g := gb378) (o := .cells #[.string t373,.string t374,.int .i64 t375] 31 (0,0)) (by (with_reducible repeat (first|refine bN ?_ _|refine bD ?_|refine bA ?_ _));exact BK378.out) hb);have n3_ := Aside0.mk (blk_below (g := gb379) (o := .cells #[.string t376,.string t377] 27 (0,0)) (by (with_reducible repeat (first|refine bN ?_ _|refine bD ?_|refine bA ?_ _));exact BK379.out) hb);have n4_ := Aside0.mk (blk_below (g := gb384) (o := .cells #[.string t380,.string t381,.int .i64 t382] 31 (0,0)) (by (with_reducible repeat (first|refine bN ?_ _|refine bD ?_|refine bA ?_ _));exact BK384.out) hb);have n5_ := Aside0.mk (blk_below (g := gb389) (o := .cells #[.string t385,.string t386,.int .i64 t387] 31 (0,0)) (by (with_reducible repeat (first|refine bN ?_ _|refine bD ?_|refine bA ?_ _));exact BK389.out) hb);have n6_ := Aside0.mk (below_step (by repeat (first|(with_reducible first|exact HB.out|apply lA|apply lN|apply lD|refine below_set ?_ GE378.out|refine below_set ?_ GE379.out|refine below_set ?_ GE384.out|refine below_set ?_ GE389.out)|exact HB.out)) hb);clear HO396;clear BK378;clear BK379;clear BK384;clear BK389;clear HB;have HO396 := n0_;have HO400 := n1_;have BK378 := n2_;have BK379 := n3_;have BK384 := n4_;have BK389 := n5_;have HB := n6_;clear n0_ n1_ n2_ n3_ n4_ n5_ n6_;(try clear hb);(try clear hb2);(try clear hk);(try clear hi);(try clear ho0);have hcz65_0 : w64.cell? ⟨gb384,0,none⟩ = some (.string t380) := (blk_cell BK384.out 0).trans rfl;have hcz65_1 : w64.cell? ⟨gb384,1,none⟩ = some (.string t381) := (blk_cell BK384.out 1).trans rfl;have hcz65_2 : w64.cell? ⟨gb384,2,none⟩ = some (.int .i64 t382) := (blk_cell BK384.out 2).trans rfl;have hfz65_0 := blk_frozen BK384.out 0;have hfz65_1 := blk_frozen BK384.out 1;have hfz65_2 := blk_frozen BK384.out 2)|((with_reducible refine gate_callee (f := 18) rfl ?_);refine goesL_ (some 81) rfl rfl Tryd.func18 (by kernel_rfl) rfl #[.string (t380 ++ t381)] rfl (by (try simp only [List.map_toArray,List.map_cons,List.map_nil]);first|done|rfl|(simp only [List.length_drop,List.length_take];rfl)) ?_;(with_reducible refine (impl_RecoverLog.calls kj6 (t380 ++ t381) t402 t403 t404 t405 t406 _ ?side1 A53.out).mono ?_);(case side1 => exact Gw.below HG.out (by repeat (first|(with_reducible first|exact HB.out|apply lA|apply lN|apply lD|refine below_set ?_ GE378.out|refine below_set ?_ GE379.out|refine below_set ?_ GE384.out|refine below_set ?_ GE389.out)|exact HB.out)));rintro e w66 ⟨rfl,hb⟩;refine ⟨_,rfl,?_⟩;have n0_ := Aside0.mk (Kd.R_below (by (with_reducible repeat (first|apply Kd.R_alloc|apply Kd.R_drewN|apply Kd.R_drew));exact HO396.out) hb);have n1_ := Aside0.mk (Kd.R_below (by (with_reducible repeat (first|apply Kd.R_alloc|apply Kd.R_drewN|apply Kd.R_drew));exact HO400.out) hb);have n2_ := Aside0.mk (blk_below (g := gb378) (o := .cells #[.string t373,.string t374,.int .i64 t375] 31 (0,0)) (by (with_reducible repeat (first|refine bN ?_ _|refine bD ?_|refine bA ?_ _));exact BK378.out) hb);have n3_ := Aside0.mk (blk_below (g := gb379) (o := .cells #[.string t376,.string t377] 27 (0,0)) (by (with_reducible repeat (first|refine bN ?_ _|refine bD ?_|refine bA ?_ _));exact BK379.out) hb);have n4_ := Aside0.mk (blk_below (g := gb384) (o := .cells #[.string t380,.string t381,.int .i64 t382] 31 (0,0)) (by (with_reducible repeat (first|refine bN ?_ _|refine bD ?_|refine bA ?_ _));exact BK384.out) hb);have n5_ := Aside0.mk (blk_below (g := gb389) (o := .cells #[.string t385,.string t386,.int .i64 t387] 31 (0,0)) (by (with_reducible repeat (first|refine bN ?_ _|refine bD ?_|refine bA ?_ _));exact BK389.out) hb);have n6_ := Aside0.mk (below_step (by repeat (first|(with_reducible first|exact HB.out|apply lA|apply lN|apply lD|refine below_set ?_ GE378.out|refine below_set ?_ GE379.out|refine below_set ?_ GE384.out|refine below_set ?_ GE389.out)|exact HB.out)) hb);clear HO396;clear HO400;clear BK378;clear BK379;clear BK384;clear BK389;clear HB;have HO396 := n0_;have HO400 := n1_;have BK378 := n2_;have BK379 := n3_;have BK384 := n4_;have BK389 := n5_;have HB := n6_;clear n0_ n1_ n2_ n3_ n4_ n5_ n6_;(try clear hb);(try clear hb2);(try clear hk);(try clear hi))|((with_reducible refine gate_dst (N := 13) rfl ?_);(try (refine gate_guard (by rfl) ?_;dsimp only));refine box_event ?hg (N := 13) ?hd (cs := #[.string (⟨#[]⟩ : ByteArray),.string (⟨#[]⟩ : ByteArray),.int .i64 0]) (t := 31) ?hr ?_;(case hd => rfl);(case hg => rfl);(case hr => first|(go_simp;done)|(go_simp;rfl));intro gb407 hg w67 hbox hb;have n0_ := Aside0.mk (Kd.R_below (by (with_reducible repeat (first|apply Kd.R_alloc|apply Kd.R_drewN|apply Kd.R_drew));exact HO396.out) hb);have n1_ := Aside0.mk (Kd.R_below (by (with_reducible repeat (first|apply Kd.R_alloc|apply Kd.R_drewN|apply Kd.R_drew));exact HO400.out) hb);have n2_ := Aside0.mk (blk_below (g := gb378) (o := .cells #[.string t373,.string t374,.int .i64 t375] 31 (0,0)) (by (with_reducible repeat (first|refine bN ?_ _|refine bD ?_|refine bA ?_ _));exact BK378.out) hb);have n3_ := Aside0.mk (blk_below (g := gb379) (o := .cells #[.string t376,.string t377] 27 (0,0)) (by (with_reducible repeat (first|refine bN ?_ _|refine bD ?_|refine bA ?_ _));exact BK379.out) hb);have n4_ := Aside0.mk (blk_below (g := gb384) (o := .cells #[.string t380,.string t381,.int .i64 t382] 31 (0,0)) (by (with_reducible repeat (first|refine bN ?_ _|refine bD ?_|refine bA ?_ _));exact BK384.out) hb);have n5_ := Aside0.mk (blk_below (g := gb389) (o := .cells #[.string t385,.string t386,.int .i64 t387] 31 (0,0)) (by (with_reducible repeat (first|refine bN ?_ _|refine bD ?_|refine bA ?_ _));exact BK389.out) hb);have n6_ := Aside0.mk (below_step (by repeat (first|(with_reducible first|exact HB.out|apply lA|apply lN|apply lD|refine below_set ?_ GE378.out|refine below_set ?_ GE379.out|refine below_set ?_ GE384.out|refine below_set ?_ GE389.out)|exact HB.out)) hb);have n7_ := Aside0.mk (hbox);have n8_ := Aside0.mk ((by rw [hg];exact (below_size (by repeat (first|(with_reducible first|exact HB.out|apply lA|apply lN|apply lD|refine below_set ?_ GE378.out|refine below_set ?_ GE379.out|refine below_set ?_ GE384.out|refine below_set ?_ GE389.out)|exact HB.out))) : w.heap.size ≤ gb407));have n9_ := Aside0.mk ((by rw [hg];exact (below_size (by repeat (first|(with_reducible first|exact HB.out|apply lA|apply lN|apply lD|refine below_set ?_ GE378.out|refine below_set ?_ GE379.out|refine below_set ?_ GE384.out|refine below_set ?_ GE389.out)|exact HB.out))) : w.heap.size ≤ gb407));have n10_ := Aside0.mk ((by rw [hg];exact Nat.ne_of_lt (blk_lt (g := gb378) (o := .cells #[.string t373,.string t374,.int .i64 t375] 31 (0,0)) (by (with_reducible repeat (first|refine bN ?_ _|refine bD ?_|refine bA ?_ _));exact BK378.out)) : gb378 ≠ gb407));have n11_ := Aside0.mk ((by rw [hg];exact Nat.ne_of_gt (blk_lt (g := gb378) (o := .cells #[.string t373,.string t374,.int .i64 t375] 31 (0,0)) (by (with_reducible repeat (first|refine bN ?_ _|refine bD ?_|refine bA ?_ _));exact BK378.out)) : gb407 ≠ gb378));have n12_ := Aside0.mk ((by rw [hg];exact Nat.ne_of_lt (blk_lt (g := gb379) (o := .cells #[.string t376,.string t377] 27 (0,0)) (by (with_reducible repeat (first|refine bN ?_ _|refine bD ?_|refine bA ?_ _));exact BK379.out)) : gb379 ≠ gb407));have n13_ := Aside0.mk ((by rw [hg];exact Nat.ne_of_gt (blk_lt (g := gb379) (o := .cells #[.string t376,.string t377] 27 (0,0)) (by (with_reducible repeat (first|refine bN ?_ _|refine bD ?_|refine bA ?_ _));exact BK379.out)) : gb407 ≠ gb379));have n14_ := Aside0.mk ((by rw [hg];exact Nat.ne_of_lt (blk_lt (g := gb384) (o := .cells #[.string t380,.string t381,.int .i64 t382] 31 (0,0)) (by (with_reducible repeat (first|refine bN ?_ _|refine bD ?_|refine bA ?_ _));exact BK384.out)) : gb384 ≠ gb407));have n15_ := Aside0.mk ((by rw [hg];exact Nat.ne_of_gt (blk_lt (g := gb384) (o := .cells #[.string t380,.string t381,.int .i64 t382] 31 (0,0)) (by (with_reducible repeat (first|refine bN ?_ _|refine bD ?_|refine bA ?_ _));exact BK384.out)) : gb407 ≠ gb384));have n16_ := Aside0.mk ((by rw [hg];exact Nat.ne_of_lt (blk_lt (g := gb389) (o := .cells #[.string t385,.string t386,.int .i64 t387] 31 (0,0)) (by (with_reducible repeat (first|refine bN ?_ _|refine bD ?_|refine bA ?_ _));exact BK389.out)) : gb389 ≠ gb407));have n17_ := Aside0.mk ((by rw [hg];exact Nat.ne_of_gt (blk_lt (g := gb389) (o := .cells #[.string t385,.string t386,.int .i64 t387] 31 (0,0)) (by (with_reducible repeat (first|refine bN ?_ _|refine bD ?_|refine bA ?_ _));exact BK389.out)) : gb407 ≠ gb389));clear HO396;clear HO400;clear BK378;clear BK379;clear BK384;clear BK389;clear HB;have HO396 := n0_;have HO400 := n1_;have BK378 := n2_;have BK379 := n3_;have BK384 := n4_;have BK389 := n5_;have HB := n6_;have BK407 := n7_;have GW407 := n8_;have GE407 := n9_;have NB378_407 := n10_;have NB407_378 := n11_;have NB379_407 := n12_;have NB407_379 := n13_;have NB384_407 := n14_;have NB407_384 := n15_;have NB389_407 := n16_;have NB407_389 := n17_;clear n0_ n1_ n2_ n3_ n4_ n5_ n6_ n7_ n8_ n9_ n10_ n11_ n12_ n13_ n14_ n15_ n16_ n17_;clear hb hbox hg;have hnb68 := NB407_378.out;have hnc68 := NB378_407.out;have hnb69 := NB407_379.out;have hnc69 := NB379_407.out;have hnb70 := NB407_384.out;have hnc70 := NB384_407.out;have hnb71 := NB407_389.out;have hnc71 := NB389_407.out;have hcz72_0 : w67.cell? ⟨gb407,0,none⟩ = some (.string (⟨#[]⟩ : ByteArray)) := (blk_cell BK407.out 0).trans rfl;have hcz72_1 : w67.cell? ⟨gb407,1,none⟩ = some (.string (⟨#[]⟩ : ByteArray)) := (blk_cell BK407.out 1).trans rfl;have hcz72_2 : w67.cell? ⟨gb407,2,none⟩ = some (.int .i64 0) := (blk_cell BK407.out 2).trans rfl;have hfz72_0 := blk_frozen BK407.out 0;have hfz72_1 := blk_frozen BK407.out 1;have hfz72_2 := blk_frozen BK407.out 2;have hcz73_0 : w67.cell? ⟨gb384,0,none⟩ = some (.string t380) := (blk_cell BK384.out 0).trans rfl;have hcz73_1 : w67.cell? ⟨gb384,1,none⟩ = some (.string t381) := (blk_cell BK384.out 1).trans rfl;have hcz73_2 : w67.cell? ⟨gb384,2,none⟩ = some (.int .i64 t382) := (blk_cell BK384.out 2).trans rfl;have hfz73_0 := blk_frozen BK384.out 0;have hfz73_1 := blk_frozen BK384.out 1;have hfz73_2 := blk_frozen BK384.out 2)|((with_reducible refine gate_callee (f := 27) rfl ?_);refine goesL_ (some 87) rfl rfl Tryd.func27 (by kernel_rfl) rfl #[.agg #[.string t380,.string t381,.int .i64 t382]] rfl (by (try simp only [List.map_toArray,List.map_cons,List.map_nil]);first|done|rfl|(simp only [List.length_drop,List.length_take];rfl)) ?_;(with_reducible refine (impl_SyncLog.calls kj6 t380 t381 t382 t408 t409 t410 t411 _ ?side1 A54.out).mono ?_);(case side1 => exact Gw.below HG.out (by repeat (first|(with_reducible first|exact HB.out|apply lA|apply lN|apply lD|refine below_set ?_ GE378.out|refine below_set ?_ GE379.out|refine below_set ?_ GE384.out|refine below_set ?_ GE389.out|refine below_set ?_ GE407.out)|exact HB.out)));rintro e w74 ⟨rfl,hb⟩;refine ⟨_,rfl,?_⟩;have n0_ := Aside0.mk (Kd.R_below (by (with_reducible repeat (first|apply Kd.R_alloc|apply Kd.R_drewN|apply Kd.R_drew));exact (Kd.R_mono (Kd.R_far (p := ⟨gb407,2,none⟩) (Kd.R_far (p := ⟨gb407,1,none⟩) (Kd.R_far (p := ⟨gb407,0,none⟩) (Kd.R_types HO396.out BK407.out (by decide)) (fun _ hk => hk.2) (.string t402)) (fun _ hk => hk.2) (.string t403)) (fun _ hk => hk.2) (.int .i64 t404)) (fun _ h_ => h_.1))) hb);have n1_ := Aside0.mk (Kd.R_below (by (with_reducible repeat (first|apply Kd.R_alloc|apply Kd.R_drewN|apply Kd.R_drew));exact (Kd.R_mono (Kd.R_far (p := ⟨gb407,2,none⟩) (Kd.R_far (p := ⟨gb407,1,none⟩) (Kd.R_far (p := ⟨gb407,0,none⟩) (Kd.R_types HO400.out BK407.out (by decide)) (fun _ hk => hk.2) (.string t402)) (fun _ hk => hk.2) (.string t403)) (fun _ hk => hk.2) (.int .i64 t404)) (fun _ h_ => h_.1))) hb);have n2_ := Aside0.mk (blk_below (g := gb378) (o := .cells #[.string t373,.string t374,.int .i64 t375] 31 (0,0)) (by (with_reducible repeat (first|refine bN ?_ _|refine bD ?_|refine bA ?_ _));refine blk_far ?_ NB378_407.out _;(with_reducible repeat (first|refine bN ?_ _|refine bD ?_|refine bA ?_ _));refine blk_far ?_ NB378_407.out _;(with_reducible repeat (first|refine bN ?_ _|refine bD ?_|refine bA ?_ _));refine blk_far ?_ NB378_407.out _;(with_reducible repeat (first|refine bN ?_ _|refine bD ?_|refine bA ?_ _));exact BK378.out) hb);have n3_ := Aside0.mk (blk_below (g := gb379) (o := .cells #[.string t376,.string t377] 27 (0,0)) (by (with_reducible repeat (first|refine bN ?_ _|refine bD ?_|refine bA ?_ _));refine blk_far ?_ NB379_407.out _;(with_reducible repeat (first|refine bN ?_ _|refine bD ?_|refine bA ?_ _));refine blk_far ?_ NB379_407.out _;(with_reducible repeat (first|refine bN ?_ _|refine bD ?_|refine bA ?_ _));refine blk_far ?_ NB379_407.out _;(with_reducible repeat (first|refine bN ?_ _|refine bD ?_|refine bA ?_ _));exact BK379.out) hb);have n4_ := Aside0.mk (blk_below (g := gb384) (o := .cells #[.string t380,.string t381,.int .i64 t382] 31 (0,0)) (by (with_reducible repeat (first|refine bN ?_ _|refine bD ?_|refine bA ?_ _));refine blk_far ?_ NB384_407.out _;(with_reducible repeat (first|refine bN ?_ _|refine bD ?_|refine bA ?_ _));refine blk_far ?_ NB384_407.out _;(with_reducible repeat (first|refine bN ?_ _|refine bD ?_|refine bA ?_ _));refine blk_far ?_ NB384_407.out _;(with_reducible repeat (first|refine bN ?_ _|refine bD ?_|refine bA ?_ _));exact BK384.out) hb);have n5_ := Aside0.mk (blk_below (g := gb389) (o := .cells #[.string t385,.string t386,.int .i64 t387] 31 (0,0)) (by (with_reducible repeat (first|refine bN ?_ _|refine bD ?_|refine bA ?_ _));refine blk_far ?_ NB389_407.out _;(with_reducible repeat (first|refine bN ?_ _|refine bD ?_|refine bA ?_ _));refine blk_far ?_ NB389_407.out _;(with_reducible repeat (first|refine bN ?_ _|refine bD ?_|refine bA ?_ _));refine blk_far ?_ NB389_407.out _;(with_reducible repeat (first|refine bN ?_ _|refine bD ?_|refine bA ?_ _));exact BK389.out) hb);have n6_ := Aside0.mk (blk_below (g := gb407) (o := .cells #[.string t402,.string t403,.int .i64 t404] 31 (0,0)) (by (with_reducible repeat (first|refine bN ?_ _|refine bD ?_|refine bA ?_ _));refine blk_put (cs := #[.string t402,.string t403,.int .i64 0]) ?_ 2 _ rfl;(with_reducible repeat (first|refine bN ?_ _|refine bD ?_|refine bA ?_ _));refine blk_put (cs := #[.string t402,.string (⟨#[]⟩ : ByteArray),.int .i64 0]) ?_ 1 _ rfl;(with_reducible repeat (first|refine bN ?_ _|refine bD ?_|refine bA ?_ _));refine blk_put (cs := #[.string (⟨#[]⟩ : ByteArray),.string (⟨#[]⟩ : ByteArray),.int .i64 0]) ?_ 0 _ rfl;(with_reducible repeat (first|refine bN ?_ _|refine bD ?_|refine bA ?_ _));exact BK407.out) hb);have n7_ := Aside0.mk (below_step (by repeat (first|(with_reducible first|exact HB.out|apply lA|apply lN|apply lD|refine below_set ?_ GE378.out|refine below_set ?_ GE379.out|refine below_set ?_ GE384.out|refine below_set ?_ GE389.out|refine below_set ?_ GE407.out)|exact HB.out)) hb);clear HO396;clear HO400;clear BK378;clear BK379;clear BK384;clear BK389;clear BK407;clear HB;have HO396 := n0_;have HO400 := n1_;have BK378 := n2_;have BK379 := n3_;have BK384 := n4_;have BK389 := n5_;have BK407 := n6_;have HB := n7_;clear n0_ n1_ n2_ n3_ n4_ n5_ n6_ n7_;(try clear hb);(try clear hb2);(try clear hk);(try clear hi))|((with_reducible refine gate_dst (N := 16) rfl ?_);(try (refine gate_guard (by rfl) ?_;dsimp only));refine box_event ?hg (N := 16) ?hd (cs := #[.string (⟨#[]⟩ : ByteArray),.string (⟨#[]⟩ : ByteArray),.int .i64 0]) (t := 31) ?hr ?_;(case hd => rfl);(case hg => rfl);(case hr => first|(go_simp;done)|(go_simp;rfl));intro gb412 hg w75 hbox hb;have n0_ := Aside0.mk (Kd.R_below (by (with_reducible repeat (first|apply Kd.R_alloc|apply Kd.R_drewN|apply Kd.R_drew));exact HO396.out) hb);have n1_ := Aside0.mk (Kd.R_below (by (with_reducible repeat (first|apply Kd.R_alloc|apply Kd.R_drewN|apply Kd.R_drew));exact HO400.out) hb);have n2_ := Aside0.mk (blk_below (g := gb378) (o := .cells #[.string t373,.string t374,.int .i64 t375] 31 (0,0)) (by (with_reducible repeat (first|refine bN ?_ _|refine bD ?_|refine bA ?_ _));exact BK378.out) hb);have n3_ := Aside0.mk (blk_below (g := gb379) (o := .cells #[.string t376,.string t377] 27 (0,0)) (by (with_reducible repeat (first|refine bN ?_ _|refine bD ?_|refine bA ?_ _));exact BK379.out) hb);have n4_ := Aside0.mk (blk_below (g := gb384) (o := .cells #[.string t380,.string t381,.int .i64 t382] 31 (0,0)) (by (with_reducible repeat (first|refine bN ?_ _|refine bD ?_|refine bA ?_ _));exact BK384.out) hb);have n5_ := Aside0.mk (blk_below (g := gb389) (o := .cells #[.string t385,.string t386,.int .i64 t387] 31 (0,0)) (by (with_reducible repeat (first|refine bN ?_ _|refine bD ?_|refine bA ?_ _));exact BK389.out) hb);have n6_ := Aside0.mk (blk_below (g := gb407) (o := .cells #[.string t402,.string t403,.int .i64 t404] 31 (0,0)) (by (with_reducible repeat (first|refine bN ?_ _|refine bD ?_|refine bA ?_ _));exact BK407.out) hb);have n7_ := Aside0.mk (below_step (by repeat (first|(with_reducible first|exact HB.out|apply lA|apply lN|apply lD|refine below_set ?_ GE378.out|refine below_set ?_ GE379.out|refine below_set ?_ GE384.out|refine below_set ?_ GE389.out|refine below_set ?_ GE407.out)|exact HB.out)) hb);have n8_ := Aside0.mk (hbox);have n9_ := Aside0.mk ((by rw [hg];exact (below_size (by repeat (first|(with_reducible first|exact HB.out|apply lA|apply lN|apply lD|refine below_set ?_ GE378.out|refine below_set ?_ GE379.out|refine below_set ?_ GE384.out|refine below_set ?_ GE389.out|refine below_set ?_ GE407.out)|exact HB.out))) : w.heap.size ≤ gb412));have n10_ := Aside0.mk ((by rw [hg];exact (below_size (by repeat (first|(with_reducible first|exact HB.out|apply lA|apply lN|apply lD|refine below_set ?_ GE378.out|refine below_set ?_ GE379.out|refine below_set ?_ GE384.out|refine below_set ?_ GE389.out|refine below_set ?_ GE407.out)|exact HB.out))) : w.heap.size ≤ gb412));have n11_ := Aside0.mk ((by rw [hg];exact Nat.ne_of_lt (blk_lt (g := gb378) (o := .cells #[.string t373,.string t374,.int .i64 t375] 31 (0,0)) (by (with_reducible repeat (first|refine bN ?_ _|refine bD ?_|refine bA ?_ _));exact BK378.out)) : gb378 ≠ gb412));have n12_ := Aside0.mk ((by rw [hg];exact Nat.ne_of_gt (blk_lt (g := gb378) (o := .cells #[.string t373,.string t374,.int .i64 t375] 31 (0,0)) (by (with_reducible repeat (first|refine bN ?_ _|refine bD ?_|refine bA ?_ _));exact BK378.out)) : gb412 ≠ gb378));have n13_ := Aside0.mk ((by rw [hg];exact Nat.ne_of_lt (blk_lt (g := gb379) (o := .cells #[.string t376,.string t377] 27 (0,0)) (by (with_reducible repeat (first|refine bN ?_ _|refine bD ?_|refine bA ?_ _));exact BK379.out)) : gb379 ≠ gb412));have n14_ := Aside0.mk ((by rw [hg];exact Nat.ne_of_gt (blk_lt (g := gb379) (o := .cells #[.string t376,.string t377] 27 (0,0)) (by (with_reducible repeat (first|refine bN ?_ _|refine bD ?_|refine bA ?_ _));exact BK379.out)) : gb412 ≠ gb379));have n15_ := Aside0.mk ((by rw [hg];exact Nat.ne_of_lt (blk_lt (g := gb384) (o := .cells #[.string t380,.string t381,.int .i64 t382] 31 (0,0)) (by (with_reducible repeat (first|refine bN ?_ _|refine bD ?_|refine bA ?_ _));exact BK384.out)) : gb384 ≠ gb412));have n16_ := Aside0.mk ((by rw [hg];exact Nat.ne_of_gt (blk_lt (g := gb384) (o := .cells #[.string t380,.string t381,.int .i64 t382] 31 (0,0)) (by (with_reducible repeat (first|refine bN ?_ _|refine bD ?_|refine bA ?_ _));exact BK384.out)) : gb412 ≠ gb384));have n17_ := Aside0.mk ((by rw [hg];exact Nat.ne_of_lt (blk_lt (g := gb389) (o := .cells #[.string t385,.string t386,.int .i64 t387] 31 (0,0)) (by (with_reducible repeat (first|refine bN ?_ _|refine bD ?_|refine bA ?_ _));exact BK389.out)) : gb389 ≠ gb412));have n18_ := Aside0.mk ((by rw [hg];exact Nat.ne_of_gt (blk_lt (g := gb389) (o := .cells #[.string t385,.string t386,.int .i64 t387] 31 (0,0)) (by (with_reducible repeat (first|refine bN ?_ _|refine bD ?_|refine bA ?_ _));exact BK389.out)) : gb412 ≠ gb389));have n19_ := Aside0.mk ((by rw [hg];exact Nat.ne_of_lt (blk_lt (g := gb407) (o := .cells #[.string t402,.string t403,.int .i64 t404] 31 (0,0)) (by (with_reducible repeat (first|refine bN ?_ _|refine bD ?_|refine bA ?_ _));exact BK407.out)) : gb407 ≠ gb412));have n20_ := Aside0.mk ((by rw [hg];exact Nat.ne_of_gt (blk_lt (g := gb407) (o := .cells #[.string t402,.string t403,.int .i64 t404] 31 (0,0)) (by (with_reducible repeat (first|refine bN ?_ _|refine bD ?_|refine bA ?_ _));exact BK407.out)) : gb412 ≠ gb407));clear HO396;clear HO400;clear BK378;clear BK379;clear BK384;clear BK389;clear BK407;clear HB;have HO396 := n0_;have HO400 := n1_;have BK378 := n2_;have BK379 := n3_;have BK384 := n4_;have BK389 := n5_;have BK407 := n6_;have HB := n7_;have BK412 := n8_;have GW412 := n9_;have GE412 := n10_;have NB378_412 := n11_;have NB412_378 := n12_;have NB379_412 := n13_;have NB412_379 := n14_;have NB384_412 := n15_;have NB412_384 := n16_;have NB389_412 := n17_;have NB412_389 := n18_;have NB407_412 := n19_;have NB412_407 := n20_;clear n0_ n1_ n2_ n3_ n4_ n5_ n6_ n7_ n8_ n9_ n10_ n11_ n12_ n13_ n14_ n15_ n16_ n17_ n18_ n19_ n20_;clear hb hbox hg;have hnb76 := NB412_378.out;have hnc76 := NB378_412.out;have hnb77 := NB412_379.out;have hnc77 := NB379_412.out;have hnb78 := NB412_384.out;have hnc78 := NB384_412.out;have hnb79 := NB412_389.out;have hnc79 := NB389_412.out;have hnb80 := NB412_407.out;have hnc80 := NB407_412.out;have hcz81_0 : w75.cell? ⟨gb412,0,none⟩ = some (.string (⟨#[]⟩ : ByteArray)) := (blk_cell BK412.out 0).trans rfl;have hcz81_1 : w75.cell? ⟨gb412,1,none⟩ = some (.string (⟨#[]⟩ : ByteArray)) := (blk_cell BK412.out 1).trans rfl;have hcz81_2 : w75.cell? ⟨gb412,2,none⟩ = some (.int .i64 0) := (blk_cell BK412.out 2).trans rfl;have hfz81_0 := blk_frozen BK412.out 0;have hfz81_1 := blk_frozen BK412.out 1;have hfz81_2 := blk_frozen BK412.out 2))
       (try simp only [Act.put,List.setIfInBounds_toArray,List.set_cons_zero,List.set_cons_succ])
       go_cut [106] (fun v106 wc => ∃ (kq : Nat) (x106_54 : Bool),v106 = .bool x106_54 ∧ Aside0 (laws_FnLog.j1 kq t394 t398 t405 t406 t411 x106_54 t376 t377 t380 t381 t382 t402 t403 t404 t408 t409 t410 = some r) ∧ Aside0 (kq ≤ kj6) ∧ Aside0 (Kd.R k27 27 wc w.heap.size (fun k_ => some k_ ≠ (v399 : Value).ownBlock ∧ k_ ≠ gb379) v395 t394) ∧ Aside0 (Kd.R k27 27 wc w.heap.size (fun k_ => some k_ ≠ (v395 : Value).ownBlock ∧ k_ ≠ gb379) v399 t398) ∧ Aside0 (wc.heap[gb378]? = some (.cells #[.string t373,.string t374,.int .i64 t375] 31 (0,0))) ∧ Aside0 (wc.heap[gb379]? = some (.cells #[.string t376,.string t377] 27 (0,0))) ∧ Aside0 (wc.heap[gb384]? = some (.cells #[.string t380,.string t381,.int .i64 t382] 31 (0,0))) ∧ Aside0 (wc.heap[gb389]? = some (.cells #[.string t385,.string t386,.int .i64 t387] 31 (0,0))) ∧ Aside0 (wc.heap[gb407]? = some (.cells #[.string t402,.string t403,.int .i64 t404] 31 (0,0))) ∧ Aside0 (wc.heap[gb412]? = some (.cells #[.string t408,.string t409,.int .i64 t410] 31 (0,0))) ∧ Aside0 (Below w.heap.size w wc))
       case first =>
        have H := HC55.out
        clear HC55
        by_cases c82 : t397 = true
        ·subst c82
         have H1 : (if (t394.length : Int) = (wrap64 ((t398.length : Int) + 1)) then (laws_FnLog.j1 kj6 t394 t398 t405 t406 t411 (t382 != (t394.length : Int)) t376 t377 t380 t381 t382 t402 t403 t404 t408 t409 t410) else (laws_FnLog.j1 kj6 t394 t398 t405 t406 t411 true t376 t377 t380 t381 t382 t402 t403 t404 t408 t409 t410)) = some r := by rw [if_pos rfl] at H;exact H
         clear H
         have H := H1
         clear H1
         by_cases c83 : (t394.length : Int) = (wrap64 ((t398.length : Int) + 1))
         ·rw [if_pos c83] at H
          have c83b0 : ((t394.length : Int) == (wrap64 ((t398.length : Int) + 1))) = true := beq_iff_eq.mpr c83
          have c83b1 : ((t394.length : Int) != (wrap64 ((t398.length : Int) + 1))) = false := bne_eq_false_iff_eq.mpr c83
          clear c83
          (first|rw [c83b0]|(simp only [i64_w,i32_w];rw [c83b0])|skip)
          have H' := Aside0.mk H
          clear H
          obtain ⟨Ao84,co84,eo84⟩ := Kd.R_slice HO396.out
          subst eo84
          obtain ⟨Ao85,co85,eo85⟩ := Kd.R_slice HO400.out
          subst eo85
          have hnb86 := NB384_378.out
          have hnc86 := NB378_384.out
          have hnb87 := NB384_379.out
          have hnc87 := NB379_384.out
          have hnb88 := NB384_389.out
          have hnc88 := NB389_384.out
          have hnb89 := NB384_407.out
          have hnc89 := NB407_384.out
          have hnb90 := NB384_412.out
          have hnc90 := NB412_384.out
          have hcz91_0 : w75.cell? ⟨gb384,0,none⟩ = some (.string t380) := (blk_cell BK384.out 0).trans rfl
          have hcz91_1 : w75.cell? ⟨gb384,1,none⟩ = some (.string t381) := (blk_cell BK384.out 1).trans rfl
          have hcz91_2 : w75.cell? ⟨gb384,2,none⟩ = some (.int .i64 t382) := (blk_cell BK384.out 2).trans rfl
          have hfz91_0 := blk_frozen BK384.out 0
          have hfz91_1 := blk_frozen BK384.out 1
          have hfz91_2 := blk_frozen BK384.out 2
          go_wp2
          go_meet
          case rel => exact ⟨_,((t382 != (t394.length : Int))),(by first|rfl|(simp;done)|(simp [my_isEmpty];done)|(simp [*];done)),H',⟨by have := HJ6.out;first|omega|exact Nat.le_refl _⟩,⟨by (with_reducible repeat (first|apply Kd.R_alloc|apply Kd.R_drewN|apply Kd.R_drew));exact Kd.R_mono (Kd.R_far (p := ⟨gb412,2,none⟩) (Kd.R_far (p := ⟨gb412,1,none⟩) (Kd.R_far (p := ⟨gb412,0,none⟩) (Kd.R_types HO396.out BK412.out (by decide)) (fun _ hk => hk.2) (.string t408)) (fun _ hk => hk.2) (.string t409)) (fun _ hk => hk.2) (.int .i64 t410)) (fun _ hk => ⟨hk.1.2,hk.1.1.2⟩)⟩,⟨by (with_reducible repeat (first|apply Kd.R_alloc|apply Kd.R_drewN|apply Kd.R_drew));exact Kd.R_mono (Kd.R_far (p := ⟨gb412,2,none⟩) (Kd.R_far (p := ⟨gb412,1,none⟩) (Kd.R_far (p := ⟨gb412,0,none⟩) (Kd.R_types HO400.out BK412.out (by decide)) (fun _ hk => hk.2) (.string t408)) (fun _ hk => hk.2) (.string t409)) (fun _ hk => hk.2) (.int .i64 t410)) (fun _ hk => ⟨hk.1.1.2,hk.1.2⟩)⟩,⟨by (with_reducible repeat (first|refine bN ?_ _|refine bD ?_|refine bA ?_ _));refine blk_far ?_ NB378_412.out _;(with_reducible repeat (first|refine bN ?_ _|refine bD ?_|refine bA ?_ _));refine blk_far ?_ NB378_412.out _;(with_reducible repeat (first|refine bN ?_ _|refine bD ?_|refine bA ?_ _));refine blk_far ?_ NB378_412.out _;(with_reducible repeat (first|refine bN ?_ _|refine bD ?_|refine bA ?_ _));exact BK378.out⟩,⟨by (with_reducible repeat (first|refine bN ?_ _|refine bD ?_|refine bA ?_ _));refine blk_far ?_ NB379_412.out _;(with_reducible repeat (first|refine bN ?_ _|refine bD ?_|refine bA ?_ _));refine blk_far ?_ NB379_412.out _;(with_reducible repeat (first|refine bN ?_ _|refine bD ?_|refine bA ?_ _));refine blk_far ?_ NB379_412.out _;(with_reducible repeat (first|refine bN ?_ _|refine bD ?_|refine bA ?_ _));exact BK379.out⟩,⟨by (with_reducible repeat (first|refine bN ?_ _|refine bD ?_|refine bA ?_ _));refine blk_far ?_ NB384_412.out _;(with_reducible repeat (first|refine bN ?_ _|refine bD ?_|refine bA ?_ _));refine blk_far ?_ NB384_412.out _;(with_reducible repeat (first|refine bN ?_ _|refine bD ?_|refine bA ?_ _));refine blk_far ?_ NB384_412.out _;(with_reducible repeat (first|refine bN ?_ _|refine bD ?_|refine bA ?_ _));exact BK384.out⟩,⟨by (with_reducible repeat (first|refine bN ?_ _|refine bD ?_|refine bA ?_ _));refine blk_far ?_ NB389_412.out _;(with_reducible repeat (first|refine bN ?_ _|refine bD ?_|refine bA ?_ _));refine blk_far ?_ NB389_412.out _;(with_reducible repeat (first|refine bN ?_ _|refine bD ?_|refine bA ?_ _));refine blk_far ?_ NB389_412.out _;(with_reducible repeat (first|refine bN ?_ _|refine bD ?_|refine bA ?_ _));exact BK389.out⟩,⟨by (with_reducible repeat (first|refine bN ?_ _|refine bD ?_|refine bA ?_ _));refine blk_far ?_ NB407_412.out _;(with_reducible repeat (first|refine bN ?_ _|refine bD ?_|refine bA ?_ _));refine blk_far ?_ NB407_412.out _;(with_reducible repeat (first|refine bN ?_ _|refine bD ?_|refine bA ?_ _));refine blk_far ?_ NB407_412.out _;(with_reducible repeat (first|refine bN ?_ _|refine bD ?_|refine bA ?_ _));exact BK407.out⟩,⟨by (with_reducible repeat (first|refine bN ?_ _|refine bD ?_|refine bA ?_ _));refine blk_put (cs := #[.string t408,.string t409,.int .i64 0]) ?_ 2 _ rfl;(with_reducible repeat (first|refine bN ?_ _|refine bD ?_|refine bA ?_ _));refine blk_put (cs := #[.string t408,.string (⟨#[]⟩ : ByteArray),.int .i64 0]) ?_ 1 _ rfl;(with_reducible repeat (first|refine bN ?_ _|refine bD ?_|refine bA ?_ _));refine blk_put (cs := #[.string (⟨#[]⟩ : ByteArray),.string (⟨#[]⟩ : ByteArray),.int .i64 0]) ?_ 0 _ rfl;(with_reducible repeat (first|refine bN ?_ _|refine bD ?_|refine bA ?_ _));exact BK412.out⟩,⟨by repeat (first|(with_reducible first|exact HB.out|apply lA|apply lN|apply lD|refine below_set ?_ GE378.out|refine below_set ?_ GE379.out|refine below_set ?_ GE384.out|refine below_set ?_ GE389.out|refine below_set ?_ GE407.out|refine below_set ?_ GE412.out)|exact HB.out)⟩⟩
         ·rw [if_neg c83] at H
          have c83b0 : ((t394.length : Int) == (wrap64 ((t398.length : Int) + 1))) = false := beq_eq_false_iff_ne.mpr c83
          have c83b1 : ((t394.length : Int) != (wrap64 ((t398.length : Int) + 1))) = true := bne_iff_ne.mpr c83
          (first|rw [c83b0]|(simp only [i64_w,i32_w];rw [c83b0])|skip)
          have H' := Aside0.mk H
          clear H
          obtain ⟨Ao92,co92,eo92⟩ := Kd.R_slice HO396.out
          subst eo92
          obtain ⟨Ao93,co93,eo93⟩ := Kd.R_slice HO400.out
          subst eo93
          go_wp2
          go_meet
          case rel => exact ⟨_,(true),(by first|rfl|(simp;done)|(simp [my_isEmpty];done)|(simp [*];done)),H',⟨by have := HJ6.out;first|omega|exact Nat.le_refl _⟩,⟨by (with_reducible repeat (first|apply Kd.R_alloc|apply Kd.R_drewN|apply Kd.R_drew));exact Kd.R_mono (Kd.R_far (p := ⟨gb412,2,none⟩) (Kd.R_far (p := ⟨gb412,1,none⟩) (Kd.R_far (p := ⟨gb412,0,none⟩) (Kd.R_types HO396.out BK412.out (by decide)) (fun _ hk => hk.2) (.string t408)) (fun _ hk => hk.2) (.string t409)) (fun _ hk => hk.2) (.int .i64 t410)) (fun _ hk => ⟨hk.1.2,hk.1.1.2⟩)⟩,⟨by (with_reducible repeat (first|apply Kd.R_alloc|apply Kd.R_drewN|apply Kd.R_drew));exact Kd.R_mono (Kd.R_far (p := ⟨gb412,2,none⟩) (Kd.R_far (p := ⟨gb412,1,none⟩) (Kd.R_far (p := ⟨gb412,0,none⟩) (Kd.R_types HO400.out BK412.out (by decide)) (fun _ hk => hk.2) (.string t408)) (fun _ hk => hk.2) (.string t409)) (fun _ hk => hk.2) (.int .i64 t410)) (fun _ hk => ⟨hk.1.1.2,hk.1.2⟩)⟩,⟨by (with_reducible repeat (first|refine bN ?_ _|refine bD ?_|refine bA ?_ _));refine blk_far ?_ NB378_412.out _;(with_reducible repeat (first|refine bN ?_ _|refine bD ?_|refine bA ?_ _));refine blk_far ?_ NB378_412.out _;(with_reducible repeat (first|refine bN ?_ _|refine bD ?_|refine bA ?_ _));refine blk_far ?_ NB378_412.out _;(with_reducible repeat (first|refine bN ?_ _|refine bD ?_|refine bA ?_ _));exact BK378.out⟩,⟨by (with_reducible repeat (first|refine bN ?_ _|refine bD ?_|refine bA ?_ _));refine blk_far ?_ NB379_412.out _;(with_reducible repeat (first|refine bN ?_ _|refine bD ?_|refine bA ?_ _));refine blk_far ?_ NB379_412.out _;(with_reducible repeat (first|refine bN ?_ _|refine bD ?_|refine bA ?_ _));refine blk_far ?_ NB379_412.out _;(with_reducible repeat (first|refine bN ?_ _|refine bD ?_|refine bA ?_ _));exact BK379.out⟩,⟨by (with_reducible repeat (first|refine bN ?_ _|refine bD ?_|refine bA ?_ _));refine blk_far ?_ NB384_412.out _;(with_reducible repeat (first|refine bN ?_ _|refine bD ?_|refine bA ?_ _));refine blk_far ?_ NB384_412.out _;(with_reducible repeat (first|refine bN ?_ _|refine bD ?_|refine bA ?_ _));refine blk_far ?_ NB384_412.out _;(with_reducible repeat (first|refine bN ?_ _|refine bD ?_|refine bA ?_ _));exact BK384.out⟩,⟨by (with_reducible repeat (first|refine bN ?_ _|refine bD ?_|refine bA ?_ _));refine blk_far ?_ NB389_412.out _;(with_reducible repeat (first|refine bN ?_ _|refine bD ?_|refine bA ?_ _));refine blk_far ?_ NB389_412.out _;(with_reducible repeat (first|refine bN ?_ _|refine bD ?_|refine bA ?_ _));refine blk_far ?_ NB389_412.out _;(with_reducible repeat (first|refine bN ?_ _|refine bD ?_|refine bA ?_ _));exact BK389.out⟩,⟨by (with_reducible repeat (first|refine bN ?_ _|refine bD ?_|refine bA ?_ _));refine blk_far ?_ NB407_412.out _;(with_reducible repeat (first|refine bN ?_ _|refine bD ?_|refine bA ?_ _));refine blk_far ?_ NB407_412.out _;(with_reducible repeat (first|refine bN ?_ _|refine bD ?_|refine bA ?_ _));refine blk_far ?_ NB407_412.out _;(with_reducible repeat (first|refine bN ?_ _|refine bD ?_|refine bA ?_ _));exact BK407.out⟩,⟨by (with_reducible repeat (first|refine bN ?_ _|refine bD ?_|refine bA ?_ _));refine blk_put (cs := #[.string t408,.string t409,.int .i64 0]) ?_ 2 _ rfl;(with_reducible repeat (first|refine bN ?_ _|refine bD ?_|refine bA ?_ _));refine blk_put (cs := #[.string t408,.string (⟨#[]⟩ : ByteArray),.int .i64 0]) ?_ 1 _ rfl;(with_reducible repeat (first|refine bN ?_ _|refine bD ?_|refine bA ?_ _));refine blk_put (cs := #[.string (⟨#[]⟩ : ByteArray),.string (⟨#[]⟩ : ByteArray),.int .i64 0]) ?_ 0 _ rfl;(with_reducible repeat (first|refine bN ?_ _|refine bD ?_|refine bA ?_ _));exact BK412.out⟩,⟨by repeat (first|(with_reducible first|exact HB.out|apply lA|apply lN|apply lD|refine below_set ?_ GE378.out|refine below_set ?_ GE379.out|refine below_set ?_ GE384.out|refine below_set ?_ GE389.out|refine below_set ?_ GE407.out|refine below_set ?_ GE412.out)|exact HB.out)⟩⟩
        ·replace c82 := Bool.eq_false_iff.mpr c82
         subst c82
         have H1 : (laws_FnLog.j1 kj6 t394 t398 t405 t406 t411 true t376 t377 t380 t381 t382 t402 t403 t404 t408 t409 t410) = some r := by rw [if_neg (show ¬ (false = true) by decide)] at H;exact H
         clear H
         have H := H1
         clear H1
         have H' := Aside0.mk H
         clear H
         go_wp2
         go_meet
         case rel => exact ⟨_,(true),(by first|rfl|(simp;done)|(simp [my_isEmpty];done)|(simp [*];done)),H',⟨by have := HJ6.out;first|omega|exact Nat.le_refl _⟩,⟨by (with_reducible repeat (first|apply Kd.R_alloc|apply Kd.R_drewN|apply Kd.R_drew));exact Kd.R_mono (Kd.R_far (p := ⟨gb412,2,none⟩) (Kd.R_far (p := ⟨gb412,1,none⟩) (Kd.R_far (p := ⟨gb412,0,none⟩) (Kd.R_types HO396.out BK412.out (by decide)) (fun _ hk => hk.2) (.string t408)) (fun _ hk => hk.2) (.string t409)) (fun _ hk => hk.2) (.int .i64 t410)) (fun _ hk => ⟨hk.1.2,hk.1.1.2⟩)⟩,⟨by (with_reducible repeat (first|apply Kd.R_alloc|apply Kd.R_drewN|apply Kd.R_drew));exact Kd.R_mono (Kd.R_far (p := ⟨gb412,2,none⟩) (Kd.R_far (p := ⟨gb412,1,none⟩) (Kd.R_far (p := ⟨gb412,0,none⟩) (Kd.R_types HO400.out BK412.out (by decide)) (fun _ hk => hk.2) (.string t408)) (fun _ hk => hk.2) (.string t409)) (fun _ hk => hk.2) (.int .i64 t410)) (fun _ hk => ⟨hk.1.1.2,hk.1.2⟩)⟩,⟨by (with_reducible repeat (first|refine bN ?_ _|refine bD ?_|refine bA ?_ _));refine blk_far ?_ NB378_412.out _;(with_reducible repeat (first|refine bN ?_ _|refine bD ?_|refine bA ?_ _));refine blk_far ?_ NB378_412.out _;(with_reducible repeat (first|refine bN ?_ _|refine bD ?_|refine bA ?_ _));refine blk_far ?_ NB378_412.out _;(with_reducible repeat (first|refine bN ?_ _|refine bD ?_|refine bA ?_ _));exact BK378.out⟩,⟨by (with_reducible repeat (first|refine bN ?_ _|refine bD ?_|refine bA ?_ _));refine blk_far ?_ NB379_412.out _;(with_reducible repeat (first|refine bN ?_ _|refine bD ?_|refine bA ?_ _));refine blk_far ?_ NB379_412.out _;(with_reducible repeat (first|refine bN ?_ _|refine bD ?_|refine bA ?_ _));refine blk_far ?_ NB379_412.out _;(with_reducible repeat (first|refine bN ?_ _|refine bD ?_|refine bA ?_ _));exact BK379.out⟩,⟨by (with_reducible repeat (first|refine bN ?_ _|refine bD ?_|refine bA ?_ _));refine blk_far ?_ NB384_412.out _;(with_reducible repeat (first|refine bN ?_ _|refine bD ?_|refine bA ?_ _));refine blk_far ?_ NB384_412.out _;(with_reducible repeat (first|refine bN ?_ _|refine bD ?_|refine bA ?_ _));refine blk_far ?_ NB384_412.out _;(with_reducible repeat (first|refine bN ?_ _|refine bD ?_|refine bA ?_ _));exact BK384.out⟩,⟨by (with_reducible repeat (first|refine bN ?_ _|refine bD ?_|refine bA ?_ _));refine blk_far ?_ NB389_412.out _;(with_reducible repeat (first|refine bN ?_ _|refine bD ?_|refine bA ?_ _));refine blk_far ?_ NB389_412.out _;(with_reducible repeat (first|refine bN ?_ _|refine bD ?_|refine bA ?_ _));refine blk_far ?_ NB389_412.out _;(with_reducible repeat (first|refine bN ?_ _|refine bD ?_|refine bA ?_ _));exact BK389.out⟩,⟨by (with_reducible repeat (first|refine bN ?_ _|refine bD ?_|refine bA ?_ _));refine blk_far ?_ NB407_412.out _;(with_reducible repeat (first|refine bN ?_ _|refine bD ?_|refine bA ?_ _));refine blk_far ?_ NB407_412.out _;(with_reducible repeat (first|refine bN ?_ _|refine bD ?_|refine bA ?_ _));refine blk_far ?_ NB407_412.out _;(with_reducible repeat (first|refine bN ?_ _|refine bD ?_|refine bA ?_ _));exact BK407.out⟩,⟨by (with_reducible repeat (first|refine bN ?_ _|refine bD ?_|refine bA ?_ _));refine blk_put (cs := #[.string t408,.string t409,.int .i64 0]) ?_ 2 _ rfl;(with_reducible repeat (first|refine bN ?_ _|refine bD ?_|refine bA ?_ _));refine blk_put (cs := #[.string t408,.string (⟨#[]⟩ : ByteArray),.int .i64 0]) ?_ 1 _ rfl;(with_reducible repeat (first|refine bN ?_ _|refine bD ?_|refine bA ?_ _));refine blk_put (cs := #[.string (⟨#[]⟩ : ByteArray),.string (⟨#[]⟩ : ByteArray),.int .i64 0]) ?_ 0 _ rfl;(with_reducible repeat (first|refine bN ?_ _|refine bD ?_|refine bA ?_ _));exact BK412.out⟩,⟨by repeat (first|(with_reducible first|exact HB.out|apply lA|apply lN|apply lD|refine below_set ?_ GE378.out|refine below_set ?_ GE379.out|refine below_set ?_ GE384.out|refine below_set ?_ GE389.out|refine below_set ?_ GE407.out|refine below_set ?_ GE412.out)|exact HB.out)⟩⟩
       case rest =>
        clear HC55
        try clear c1
        try clear c2
        try clear p2
        try clear c3
        try clear c4
        try clear c5
        try clear c6
        try clear p6
        try clear c7
        try clear c8
        try clear c9
        try clear c18
        try clear c21
        try clear c23
        try clear c27
        try clear c30
        try clear c30b0
        try clear c30b1
        try clear c31
        try clear c33
        try clear c33b0
        try clear c33b1
        try clear c33b2
        try clear c37
        try clear c38
        try clear c48
        try clear c49
        try clear c49b0
        try clear c49b1
        try clear c52
        try clear c52b0
        try clear c52b1
        try clear c52b2
        try clear c56
        try clear c57
        try clear c58
        try clear c61
        try clear c62
        try clear p64
        try clear c68
        try clear c69
        try clear c70
        try clear c71
        try clear c76
        try clear c77
        try clear c78
        try clear c79
        try clear c80
        try clear c82
        try clear c83
        try clear c83b0
        try clear c83b1
        try clear c86
        try clear c87
        try clear c88
        try clear c89
        try clear c90
        try clear hcz59_0
        try clear hcz59_1
        try clear hcz59_2
        try clear hcz63_0
        try clear hcz63_1
        try clear hcz63_2
        try clear hcz65_0
        try clear hcz65_1
        try clear hcz65_2
        try clear hcz72_0
        try clear hcz72_1
        try clear hcz72_2
        try clear hcz73_0
        try clear hcz73_1
        try clear hcz73_2
        try clear hcz81_0
        try clear hcz81_1
        try clear hcz81_2
        try clear hcz91_0
        try clear hcz91_1
        try clear hcz91_2
        try clear hfz59_0
        try clear hfz59_1
        try clear hfz59_2
        try clear hfz63_0
        try clear hfz63_1
        try clear hfz63_2
        try clear hfz65_0
        try clear hfz65_1
        try clear hfz65_2
        try clear hfz72_0
        try clear hfz72_1
        try clear hfz72_2
        try clear hfz73_0
        try clear hfz73_1
        try clear hfz73_2
        try clear hfz81_0
        try clear hfz81_1
        try clear hfz81_2
        try clear hfz91_0
        try clear hfz91_1
        try clear hfz91_2
        try clear p2
        obtain ⟨kq,x106_54,rfl,HA,HJ54,HO_9,HO_11,BK378,BK379,BK384,BK389,BK407,BK412,HB⟩ := hcut
        cases kq with
        | zero => exact absurd HA.out (by simp [laws_FnLog.j1])
        | succ kj54 =>
         have H := HA.out
         clear HA
         simp only [laws_FnLog.j1] at H
         by_cases c94 : x106_54 = true
         ·subst c94
          have H1 : (some false) = some r := by rw [if_pos rfl] at H;exact H
          clear H
          have H := H1
          clear H1
          exact absurd ((Option.some.inj H).trans hr_) (by decide)
         ·replace c94 := Bool.eq_false_iff.mpr c94
          subst c94
          have H1 : (laws_FnLog.l0 kj54 t394 t398 t405 t406 t411 0 t376 t377 t380 t381 t382 t402 t403 t404 t408 t409 t410) = some r := by rw [if_neg (show ¬ (false = true) by decide)] at H;exact H
          clear H
          have H := H1
          clear H1
          have H' := Aside0.mk H
          clear H
          go_wp2
          go_loopg [18] kj54 (fun kq v18 w' => ∃ (x18_3 : Int),v18 = .int .i64 x18_3 ∧ Aside0 (laws_FnLog.l0 kq t394 t398 t405 t406 t411 x18_3 t376 t377 t380 t381 t382 t402 t403 t404 t408 t409 t410 = some r) ∧ Aside0 (kq ≤ kj54) ∧ Aside0 (Kd.R k27 27 w' w.heap.size (fun k_ => some k_ ≠ (v399 : Value).ownBlock ∧ k_ ≠ gb379) v395 t394) ∧ Aside0 (Kd.R k27 27 w' w.heap.size (fun k_ => some k_ ≠ (v395 : Value).ownBlock ∧ k_ ≠ gb379) v399 t398) ∧ Aside0 (w'.heap[gb378]? = some (.cells #[.string t373,.string t374,.int .i64 t375] 31 (0,0))) ∧ Aside0 (w'.heap[gb379]? = some (.cells #[.string t376,.string t377] 27 (0,0))) ∧ Aside0 (w'.heap[gb384]? = some (.cells #[.string t380,.string t381,.int .i64 t382] 31 (0,0))) ∧ Aside0 (w'.heap[gb389]? = some (.cells #[.string t385,.string t386,.int .i64 t387] 31 (0,0))) ∧ Aside0 (w'.heap[gb407]? = some (.cells #[.string t402,.string t403,.int .i64 t404] 31 (0,0))) ∧ Aside0 (w'.heap[gb412]? = some (.cells #[.string t408,.string t409,.int .i64 t410] 31 (0,0))) ∧ Aside0 (Below w.heap.size w w'))
          case atStart => exact ⟨(0),(by first|rfl|(simp;done)|(simp [my_isEmpty];done)|(simp [*];done)),H',⟨Nat.le_refl _⟩,⟨by (with_reducible repeat (first|apply Kd.R_alloc|apply Kd.R_drewN|apply Kd.R_drew));exact HO_9.out⟩,⟨by (with_reducible repeat (first|apply Kd.R_alloc|apply Kd.R_drewN|apply Kd.R_drew));exact HO_11.out⟩,⟨by (with_reducible repeat (first|refine bN ?_ _|refine bD ?_|refine bA ?_ _));exact BK378.out⟩,⟨by (with_reducible repeat (first|refine bN ?_ _|refine bD ?_|refine bA ?_ _));exact BK379.out⟩,⟨by (with_reducible repeat (first|refine bN ?_ _|refine bD ?_|refine bA ?_ _));exact BK384.out⟩,⟨by (with_reducible repeat (first|refine bN ?_ _|refine bD ?_|refine bA ?_ _));exact BK389.out⟩,⟨by (with_reducible repeat (first|refine bN ?_ _|refine bD ?_|refine bA ?_ _));exact BK407.out⟩,⟨by (with_reducible repeat (first|refine bN ?_ _|refine bD ?_|refine bA ?_ _));exact BK412.out⟩,⟨by repeat (first|(with_reducible first|exact HB.out|apply lA|apply lN|apply lD|refine below_set ?_ GE378.out|refine below_set ?_ GE379.out|refine below_set ?_ GE384.out|refine below_set ?_ GE389.out|refine below_set ?_ GE407.out|refine below_set ?_ GE412.out)|exact HB.out)⟩⟩
          case round =>
           clear H'
           try clear c1
           try clear c2
           try clear p2
           try clear c3
           try clear c4
           try clear c5
           try clear c6
           try clear p6
           try clear c7
           try clear c8
           try clear c9
           try clear c18
           try clear c21
           try clear c23
           try clear c27
           try clear c30
           try clear c30b0
           try clear c30b1
           try clear c31
           try clear c33
           try clear c33b0
           try clear c33b1
           try clear c33b2
           try clear c37
           try clear c38
           try clear c48
           try clear c49
           try clear c49b0
           try clear c49b1
           try clear c52
           try clear c52b0
           try clear c52b1
           try clear c52b2
           try clear c56
           try clear c57
           try clear c58
           try clear c61
           try clear c62
           try clear p64
           try clear c68
           try clear c69
           try clear c70
           try clear c71
           try clear c76
           try clear c77
           try clear c78
           try clear c79
           try clear c80
           try clear c82
           try clear c83
           try clear c83b0
           try clear c83b1
           try clear c86
           try clear c87
           try clear c88
           try clear c89
           try clear c90
           try clear c94
           try clear hcz59_0
           try clear hcz59_1
           try clear hcz59_2
           try clear hcz63_0
           try clear hcz63_1
           try clear hcz63_2
           try clear hcz65_0
           try clear hcz65_1
           try clear hcz65_2
           try clear hcz72_0
           try clear hcz72_1
           try clear hcz72_2
           try clear hcz73_0
           try clear hcz73_1
           try clear hcz73_2
           try clear hcz81_0
           try clear hcz81_1
           try clear hcz81_2
           try clear hcz91_0
           try clear hcz91_1
           try clear hcz91_2
           try clear hfz59_0
           try clear hfz59_1
           try clear hfz59_2
           try clear hfz63_0
           try clear hfz63_1
           try clear hfz63_2
           try clear hfz65_0
           try clear hfz65_1
           try clear hfz65_2
           try clear hfz72_0
           try clear hfz72_1
           try clear hfz72_2
           try clear hfz73_0
           try clear hfz73_1
           try clear hfz73_2
           try clear hfz81_0
           try clear hfz81_1
           try clear hfz81_2
           try clear hfz91_0
           try clear hfz91_1
           try clear hfz91_2
           try clear p2
           try clear p6
           try clear p64
           obtain ⟨x18_3,rfl,HA,HK3,HO_9,HO_11,BK378,BK379,BK384,BK389,BK407,BK412,HB⟩ := hrel
           cases gk with
           | zero => exact absurd HA.out (by simp [laws_FnLog.l0])
           | succ k3 =>
            have H := HA.out
            clear HA
            simp only [laws_FnLog.l0] at H
            by_cases c95 : x18_3 < (t398.length : Int)
            ·rw [if_pos c95] at H
             have c95b0 : decide (x18_3 < (t398.length : Int)) = true := decide_eq_true c95
             clear c95
             by_cases c96 : 0 ≤ x18_3
             ·rw [if_pos c96] at H
              have c96b0 : decide (0 ≤ x18_3) = true := decide_eq_true c96
              clear c96
              by_cases c97 : x18_3 < (t394.length : Int)
              ·rw [if_pos c97] at H
               have c97b0 : decide (x18_3 < (t394.length : Int)) = true := decide_eq_true c97
               clear c97
               by_cases c98 : (!((((rd_T27 t394 x18_3).f0).toList) == (((rd_T27 t398 x18_3).f0).toList)) || (!((((rd_T27 t394 x18_3).f1).toList) == (((rd_T27 t398 x18_3).f1).toList)))) = true
               ·rw [if_pos c98] at H
                have c98b0 : (!((((rd_T27 t394 x18_3).f0).toList) == (((rd_T27 t398 x18_3).f0).toList)) || (!((((rd_T27 t394 x18_3).f1).toList) == (((rd_T27 t398 x18_3).f1).toList)))) = true := c98
                clear c98
                exact absurd ((Option.some.inj H).trans hr_) (by decide)
               ·rw [if_neg c98] at H
                have c98b0 : (!((((rd_T27 t394 x18_3).f0).toList) == (((rd_T27 t398 x18_3).f0).toList)) || (!((((rd_T27 t394 x18_3).f1).toList) == (((rd_T27 t398 x18_3).f1).toList)))) = false := by simpa using c98
                clear c98
                have H' := Aside0.mk H
                clear H
                obtain ⟨Ao99,co99,eo99⟩ := Kd.R_slice HO_11.out
                subst eo99
                try go_wp2
                have n0_ := Aside0.mk (Kd.R_drew HO_9.out)
                have n1_ := Aside0.mk (Kd.R_drew HO_11.out)
                have n2_ := Aside0.mk (bD BK378.out)
                have n3_ := Aside0.mk (bD BK379.out)
                have n4_ := Aside0.mk (bD BK384.out)
                have n5_ := Aside0.mk (bD BK389.out)
                have n6_ := Aside0.mk (bD BK407.out)
                have n7_ := Aside0.mk (bD BK412.out)
                have n8_ := Aside0.mk (lD HB.out)
                clear HO_9
                clear HO_11
                clear BK378
                clear BK379
                clear BK384
                clear BK389
                clear BK407
                clear BK412
                clear HB
                have HO_9 := n0_
                have HO_11 := n1_
                have BK378 := n2_
                have BK379 := n3_
                have BK384 := n4_
                have BK389 := n5_
                have BK407 := n6_
                have BK412 := n7_
                have HB := n8_
                clear n0_ n1_ n2_ n3_ n4_ n5_ n6_ n7_ n8_
                obtain ⟨Ao101,co101,eo101⟩ := Kd.R_slice HO_9.out
                (first|subst eo101|(injection eo101 with f1_ f2_ f3_;have f4_ := f1_.symm;have f5_ := f3_.symm;clear f1_ f2_ f3_;subst f4_;subst f5_))
                have p413 : 0 ≤ (x18_3 : Int) := of_decide_eq_true (by first|(with_reducible assumption)|assumption)
                have q413 : x18_3 < (t394.length : Int) := of_decide_eq_true (by first|(with_reducible assumption)|assumption)
                obtain ⟨ad413,e413,hx413_0,hx413_1⟩ := at_T27 (Kd.R_reads' HO_9.out).2.2 x18_3 p413 q413
                cases e413
                replace p413 := eq_true p413
                replace q413 := eq_true q413
                have p414 : 0 ≤ (x18_3 : Int) := of_decide_eq_true (by first|(with_reducible assumption)|assumption)
                have q414 : x18_3 < (t398.length : Int) := of_decide_eq_true (by first|(with_reducible assumption)|assumption)
                obtain ⟨ad414,e414,hx414_0,hx414_1⟩ := at_T27 (Kd.R_reads' HO_11.out).2.2 x18_3 p414 q414
                cases e414
                replace p414 := eq_true p414
                replace q414 := eq_true q414
                refine start_ (n := 9) (S := fun w' => w'.cell? (ad413.add ((x18_3).toNat * 2)) = some (.string ((rd_T27 t394 x18_3).f0)) ∧ w'.cell? ⟨(ad413.add ((x18_3).toNat * 2)).block,(ad413.add ((x18_3).toNat * 2)).off + 1,none⟩ = some (.string ((rd_T27 t394 x18_3).f1)) ∧ w'.cell? (ad414.add ((x18_3).toNat * 2)) = some (.string ((rd_T27 t398 x18_3).f0)) ∧ w'.cell? ⟨(ad414.add ((x18_3).toNat * 2)).block,(ad414.add ((x18_3).toNat * 2)).off + 1,none⟩ = some (.string ((rd_T27 t398 x18_3).f1))) (ds := []) #[false,false,false,false,false,false,false,false,false] (by kernel_rfl) rfl rfl ⟨hx413_0,hx413_1,hx414_0,hx414_1⟩ (fun hHeld => ?_);refine with_tabW laws_FnLog.tab19 laws_FnLog.bits19 (fun HT_ HW_ => ?_)
                generalize wr.drew = w100 at HO_9 HO_11 BK378 BK379 BK384 BK389 BK407 BK412 HB hx413_0 hx413_1 hx414_0 hx414_1 hHeld ⊢
                refine pure_ (i := 0) (N := some 113) (v := ?_) (a' := ?_) #[true,false,false,false,false,false,false,false,false] rfl rfl (any_of HT_.out (by kernel_rfl)) (fun _ _ _ h => h) (Or.inl ⟨by rfl,?_⟩) ?_ ?_
                rotate_left
                ·intro w'
                 go_simp
                 with_reducible rfl
                rotate_left
                ·simp only [Act.put,List.setIfInBounds_toArray,List.set_cons_zero,List.set_cons_succ,i64_w,i32_w]
                 rfl
                refine pure_ (i := 1) (N := some 114) (v := ?_) (a' := ?_) #[true,true,false,false,false,false,false,false,false] rfl rfl (any_of HT_.out (by kernel_rfl)) (fun _ _ _ h => h) (Or.inl ⟨by rfl,?_⟩) ?_ ?_
                rotate_left
                ·intro w'
                 go_simp
                 with_reducible rfl
                rotate_left
                ·simp only [Act.put,List.setIfInBounds_toArray,List.set_cons_zero,List.set_cons_succ,i64_w,i32_w]
                 rfl
                refine pure_ (i := 2) (N := some 115) (v := ?_) (a' := ?_) #[true,true,true,false,false,false,false,false,false] rfl rfl (any_of HT_.out (by kernel_rfl)) (fun _ _ _ h => h) (Or.inl ⟨by rfl,?_⟩) ?_ ?_
                rotate_left
                ·intro w'
                 go_simp
                 with_reducible rfl
                rotate_left
                ·simp only [Act.put,List.setIfInBounds_toArray,List.set_cons_zero,List.set_cons_succ,i64_w,i32_w]
                 rfl
                refine pure_ (i := 4) (N := some 117) (v := ?_) (a' := ?_) #[true,true,true,false,true,false,false,false,false] rfl rfl (any_of HT_.out (by kernel_rfl)) (fun _ _ _ h => h) (Or.inl ⟨by rfl,?_⟩) ?_ ?_
                rotate_left
                ·intro w'
                 go_simp
                 with_reducible rfl
                rotate_left
                ·simp only [Act.put,List.setIfInBounds_toArray,List.set_cons_zero,List.set_cons_succ,i64_w,i32_w]
                 rfl
                refine pure_ (i := 5) (N := some 118) (v := ?_) (a' := ?_) #[true,true,true,false,true,true,false,false,false] rfl rfl (any_of HT_.out (by kernel_rfl)) (fun _ _ _ h => h) (Or.inl ⟨by rfl,?_⟩) ?_ ?_
                rotate_left
                ·intro w'
                 go_simp
                 with_reducible rfl
                rotate_left
                ·simp only [Act.put,List.setIfInBounds_toArray,List.set_cons_zero,List.set_cons_succ,i64_w,i32_w]
                 rfl
                refine pure_ (i := 6) (N := some 119) (v := ?_) (a' := ?_) #[true,true,true,false,true,true,true,false,false] rfl rfl (any_of HT_.out (by kernel_rfl)) (fun _ _ _ h => h) (Or.inl ⟨by rfl,?_⟩) ?_ ?_
                rotate_left
                ·intro w'
                 go_simp
                 with_reducible rfl
                rotate_left
                ·simp only [Act.put,List.setIfInBounds_toArray,List.set_cons_zero,List.set_cons_succ,i64_w,i32_w]
                 rfl
                refine take_ (i := 3) (N := some 116) (v := ?_) (a' := ?_) #[true,true,true,true,true,true,true,false,false] rfl rfl (take_ofW HT_.out HW_.out (by kernel_rfl)) (fun _ _ _ h => h) (Or.inl ⟨by rfl,?_⟩) hHeld ?_ ?_
                rotate_left
                ·rintro w' ⟨s0,s1,s2,s3⟩
                 go_simp
                 with_reducible rfl
                rotate_left
                ·simp only [Act.put,List.setIfInBounds_toArray,List.set_cons_zero,List.set_cons_succ,i64_w,i32_w]
                 rfl
                refine take_ (i := 7) (N := some 120) (v := ?_) (a' := ?_) #[true,true,true,true,true,true,true,true,false] rfl rfl (take_ofW HT_.out HW_.out (by kernel_rfl)) (fun _ _ _ h => h) (Or.inl ⟨by rfl,?_⟩) hHeld ?_ ?_
                rotate_left
                ·rintro w' ⟨s0,s1,s2,s3⟩
                 go_simp
                 with_reducible rfl
                rotate_left
                ·simp only [Act.put,List.setIfInBounds_toArray,List.set_cons_zero,List.set_cons_succ,i64_w,i32_w]
                 rfl
                refine pure_ (i := 8) (N := some 121) (v := ?_) (a' := ?_) #[true,true,true,true,true,true,true,true,true] rfl rfl (any_of HT_.out (by kernel_rfl)) (fun _ _ _ h => h) (Or.inl ⟨by rfl,?_⟩) ?_ ?_
                rotate_left
                ·intro w'
                 go_simp
                 with_reducible rfl
                rotate_left
                ·simp only [Act.put,List.setIfInBounds_toArray,List.set_cons_zero,List.set_cons_succ,i64_w,i32_w]
                 rfl
                refine done_ (done_of HT_.out (by kernel_rfl)) ?_
                try go_wp2
                go_roundg k3
                case measure => have := HJ6.out;have := HJ54.out;have := HK3.out;omega
                case rel => exact ⟨(wrap64 (x18_3 + 1)),(by first|rfl|(simp;done)|(simp [my_isEmpty];done)|(simp [*];done)),H',⟨by have := HJ6.out;have := HJ54.out;have := HK3.out;omega⟩,⟨by (with_reducible repeat (first|apply Kd.R_alloc|apply Kd.R_drewN|apply Kd.R_drew));exact HO_9.out⟩,⟨by (with_reducible repeat (first|apply Kd.R_alloc|apply Kd.R_drewN|apply Kd.R_drew));exact HO_11.out⟩,⟨by (with_reducible repeat (first|refine bN ?_ _|refine bD ?_|refine bA ?_ _));exact BK378.out⟩,⟨by (with_reducible repeat (first|refine bN ?_ _|refine bD ?_|refine bA ?_ _));exact BK379.out⟩,⟨by (with_reducible repeat (first|refine bN ?_ _|refine bD ?_|refine bA ?_ _));exact BK384.out⟩,⟨by (with_reducible repeat (first|refine bN ?_ _|refine bD ?_|refine bA ?_ _));exact BK389.out⟩,⟨by (with_reducible repeat (first|refine bN ?_ _|refine bD ?_|refine bA ?_ _));exact BK407.out⟩,⟨by (with_reducible repeat (first|refine bN ?_ _|refine bD ?_|refine bA ?_ _));exact BK412.out⟩,⟨by repeat (first|(with_reducible first|exact HB.out|apply lA|apply lN|apply lD|refine below_set ?_ GE378.out|refine below_set ?_ GE379.out|refine below_set ?_ GE384.out|refine below_set ?_ GE389.out|refine below_set ?_ GE407.out|refine below_set ?_ GE412.out)|exact HB.out)⟩⟩
              ·rw [if_neg c97] at H
               exact absurd H (by simp)
             ·rw [if_neg c96] at H
              exact absurd H (by simp)
            ·rw [if_neg c95] at H
             have c95b0 : decide (x18_3 < (t398.length : Int)) = false := decide_eq_false c95
             clear c95
             by_cases c102 : 0 ≤ (t398.length : Int)
             ·rw [if_pos c102] at H
              have c102b0 : decide (0 ≤ (t398.length : Int)) = true := decide_eq_true c102
              have c102b1 : decide (0 ≤ t398.length) = true := decide_eq_true (by omega)
              clear c102
              by_cases c103 : (t398.length : Int) < (t394.length : Int)
              ·rw [if_pos c103] at H
               have c103b0 : decide ((t398.length : Int) < (t394.length : Int)) = true := decide_eq_true c103
               have c103b1 : decide (t398.length < t394.length) = true := decide_eq_true (Int.ofNat_lt.mp c103)
               clear c103
               by_cases c104 : ((((rd_T27 t394 (t398.length : Int)).f0).toList) == t376.toList && ((((rd_T27 t394 (t398.length : Int)).f1).toList) == t377.toList)) = true
               ·rw [if_pos c104] at H
                have c104b0 : ((((rd_T27 t394 (t398.length : Int)).f0).toList) == t376.toList && ((((rd_T27 t394 (t398.length : Int)).f1).toList) == t377.toList)) = true := c104
                (try (have c104b1 : decide ((((rd_T27 t394 (t398.length : Int)).f0).toList) = t376.toList && ((((rd_T27 t394 (t398.length : Int)).f1).toList) == t377.toList)) = true := by simpa using c104))
                (try (have c104b2 : ((((rd_T27 t394 (t398.length : Int)).f0).toList) == t376.toList && ((((rd_T27 t394 (t398.length : Int)).f1).toList) == t377.toList)) = true := by simpa using c104))
                clear c104
                by_cases c105 : t406 = true
                ·subst c105
                 have H1 : (if t380.size + t381.size ≤ 9223372036854775807 then (if t405 = ((t380 ++ t381).size : Int) then (if t411 = true then (if (t408.toList == t402.toList && (t409.toList == t403.toList && (t410 == t404))) = true then ((impl_IsValidLog.f k3 t380 t381 t382).bind fun t416 => (some t416)) else (some false)) else (some false)) else (some false)) else (none)) = some r := by rw [if_pos rfl] at H;exact H
                 clear H
                 have H := H1
                 clear H1
                 by_cases c106 : t380.size + t381.size ≤ 9223372036854775807
                 ·rw [if_pos c106] at H
                  have c106b0 := eq_true c106
                  have c106b1 : decide (t380.size + t381.size ≤ 9223372036854775807) = true := decide_eq_true c106
                  try have c106b2 : (9223372036854775807 < t380.size + t381.size) = False := eq_false (Nat.not_lt.2 c106)
                  obtain ⟨sj107,hsj107⟩ : ∃ s_ : ByteArray,(t380 ++ t381) = s_ := ⟨_,rfl⟩
                  replace H : (if t405 = (sj107.size : Int) then (if t411 = true then (if (t408.toList == t402.toList && (t409.toList == t403.toList && (t410 == t404))) = true then ((impl_IsValidLog.f k3 t380 t381 t382).bind fun t416 => (some t416)) else (some false)) else (some false)) else (some false)) = some r := by first|(rw [hsj107] at H;exact H)|(simp only [hsj107] at H ⊢;exact H)
                  by_cases c108 : t405 = (sj107.size : Int)
                  ·rw [if_pos c108] at H
                   have c108b0 : (t405 == (sj107.size : Int)) = true := beq_iff_eq.mpr c108
                   have c108b1 : (t405 != (sj107.size : Int)) = false := bne_eq_false_iff_eq.mpr c108
                   clear c108
                   by_cases c109 : t411 = true
                   ·subst c109
                    have H1 : (if (t408.toList == t402.toList && (t409.toList == t403.toList && (t410 == t404))) = true then ((impl_IsValidLog.f k3 t380 t381 t382).bind fun t416 => (some t416)) else (some false)) = some r := by rw [if_pos rfl] at H;exact H
                    clear H
                    have H := H1
                    clear H1
                    by_cases c110 : (t408.toList == t402.toList && (t409.toList == t403.toList && (t410 == t404))) = true
                    ·rw [if_pos c110] at H
                     have c110b0 : (t408.toList == t402.toList && (t409.toList == t403.toList && (t410 == t404))) = true := c110
                     (try (have c110b1 : decide (t408.toList = t402.toList && (t409.toList == t403.toList && (t410 == t404))) = true := by simpa using c110))
                     (try (have c110b2 : (t408.toList == t402.toList && (t409.toList == t403.toList && (t410 == t404))) = true := by simpa using c110))
                     clear c110
                     replace H := Option.bind_eq_some_iff.mp H
                     obtain ⟨t416,A1110,H⟩ := H
                     replace H : (some t416) = some r := H
                     have A111 := Aside0.mk A1110
                     clear A1110
                     obtain rfl := Option.some.inj H
                     try clear hr_
                     obtain ⟨Ao112,co112,eo112⟩ := Kd.R_slice HO_11.out
                     subst eo112
                     try go_wp2
                     have n0_ := Aside0.mk (Kd.R_drew HO_9.out)
                     have n1_ := Aside0.mk (Kd.R_drew HO_11.out)
                     have n2_ := Aside0.mk (bD BK378.out)
                     have n3_ := Aside0.mk (bD BK379.out)
                     have n4_ := Aside0.mk (bD BK384.out)
                     have n5_ := Aside0.mk (bD BK389.out)
                     have n6_ := Aside0.mk (bD BK407.out)
                     have n7_ := Aside0.mk (bD BK412.out)
                     have n8_ := Aside0.mk (lD HB.out)
                     clear HO_9
                     clear HO_11
                     clear BK378
                     clear BK379
                     clear BK384
                     clear BK389
                     clear BK407
                     clear BK412
                     clear HB
                     have HO_9 := n0_
                     have HO_11 := n1_
                     have BK378 := n2_
                     have BK379 := n3_
                     have BK384 := n4_
                     have BK389 := n5_
                     have BK407 := n6_
                     have BK412 := n7_
                     have HB := n8_
                     clear n0_ n1_ n2_ n3_ n4_ n5_ n6_ n7_ n8_
                     obtain ⟨Ao114,co114,eo114⟩ := Kd.R_slice HO_9.out
                     (first|subst eo114|(injection eo114 with f1_ f2_ f3_;have f4_ := f1_.symm;have f5_ := f3_.symm;clear f1_ f2_ f3_;subst f4_;subst f5_))
                     have p415 : 0 ≤ ((t398.length : Int) : Int) := of_decide_eq_true (by first|(with_reducible assumption)|assumption)
                     have q415 : (t398.length : Int) < (t394.length : Int) := of_decide_eq_true (by first|(with_reducible assumption)|assumption)
                     obtain ⟨ad415,e415,hx415_0,hx415_1⟩ := at_T27 (Kd.R_reads' HO_9.out).2.2 (t398.length : Int) p415 q415
                     cases e415
                     (try simp only [Go.IntWalk.toNatUp] at hx415_0)
                     (try simp only [Go.IntWalk.toNatUp] at hx415_1)
                     replace p415 := eq_true p415
                     replace q415 := eq_true q415
                     refine start_ (n := 33) (S := fun w' => w'.cell? ⟨gb379,0,none⟩ = some (.string t376) ∧ w'.cell? ⟨gb379,1,none⟩ = some (.string t377) ∧ w'.cell? ⟨gb384,0,none⟩ = some (.string t380) ∧ w'.cell? ⟨gb384,1,none⟩ = some (.string t381) ∧ w'.cell? ⟨gb384,2,none⟩ = some (.int .i64 t382) ∧ w'.cell? ⟨gb412,0,none⟩ = some (.string t408) ∧ w'.cell? ⟨gb412,1,none⟩ = some (.string t409) ∧ w'.cell? ⟨gb412,2,none⟩ = some (.int .i64 t410) ∧ w'.cell? ⟨gb407,0,none⟩ = some (.string t402) ∧ w'.cell? ⟨gb407,1,none⟩ = some (.string t403) ∧ w'.cell? ⟨gb407,2,none⟩ = some (.int .i64 t404) ∧ w'.cell? (ad415.add (((t398.length : Int)).toNat * 2)) = some (.string ((rd_T27 t394 (t398.length : Int)).f0)) ∧ w'.cell? ⟨(ad415.add (((t398.length : Int)).toNat * 2)).block,(ad415.add (((t398.length : Int)).toNat * 2)).off + 1,none⟩ = some (.string ((rd_T27 t394 (t398.length : Int)).f1))) (ds := []) #[false,false,false,false,false,false,false,false,false,false,false,false,false,false,false,false,false,false,false,false,false,false,false,false,false,false,false,false,false,false,false,false,false] (by kernel_rfl) rfl rfl ⟨(blk_cell BK379.out 0).trans rfl,(blk_cell BK379.out 1).trans rfl,(blk_cell BK384.out 0).trans rfl,(blk_cell BK384.out 1).trans rfl,(blk_cell BK384.out 2).trans rfl,(blk_cell BK412.out 0).trans rfl,(blk_cell BK412.out 1).trans rfl,(blk_cell BK412.out 2).trans rfl,(blk_cell BK407.out 0).trans rfl,(blk_cell BK407.out 1).trans rfl,(blk_cell BK407.out 2).trans rfl,hx415_0,hx415_1⟩ (fun hHeld => ?_);refine with_tabW laws_FnLog.tab21 laws_FnLog.bits21 (fun HT_ HW_ => ?_)
                     generalize wr.drew = w113 at HO_9 HO_11 BK378 BK379 BK384 BK389 BK407 BK412 HB hx415_0 hx415_1 hHeld ⊢
                     refine pure_ (i := 0) (N := some 122) (v := ?_) (a' := ?_) #[true,false,false,false,false,false,false,false,false,false,false,false,false,false,false,false,false,false,false,false,false,false,false,false,false,false,false,false,false,false,false,false,false] rfl rfl (any_of HT_.out (by kernel_rfl)) (fun _ _ _ h => h) (Or.inl ⟨by rfl,?_⟩) ?_ ?_
                     rotate_left
                     ·intro w'
                      go_simp
                      with_reducible rfl
                     rotate_left
                     ·simp only [Act.put,List.setIfInBounds_toArray,List.set_cons_zero,List.set_cons_succ,i64_w,i32_w]
                      rfl
                     refine pure_ (i := 1) (N := some 123) (v := ?_) (a' := ?_) #[true,true,false,false,false,false,false,false,false,false,false,false,false,false,false,false,false,false,false,false,false,false,false,false,false,false,false,false,false,false,false,false,false] rfl rfl (any_of HT_.out (by kernel_rfl)) (fun _ _ _ h => h) (Or.inl ⟨by rfl,?_⟩) ?_ ?_
                     rotate_left
                     ·intro w'
                      go_simp
                      with_reducible rfl
                     rotate_left
                     ·simp only [Act.put,List.setIfInBounds_toArray,List.set_cons_zero,List.set_cons_succ,i64_w,i32_w]
                      rfl
                     refine pure_ (i := 2) (N := some 124) (v := ?_) (a' := ?_) #[true,true,true,false,false,false,false,false,false,false,false,false,false,false,false,false,false,false,false,false,false,false,false,false,false,false,false,false,false,false,false,false,false] rfl rfl (any_of HT_.out (by kernel_rfl)) (fun _ _ _ h => h) (Or.inl ⟨by rfl,?_⟩) ?_ ?_
                     rotate_left
                     ·intro w'
                      go_simp
                      with_reducible rfl
                     rotate_left
                     ·simp only [Act.put,List.setIfInBounds_toArray,List.set_cons_zero,List.set_cons_succ,i64_w,i32_w]
                      rfl
                     refine pure_ (i := 3) (N := some 125) (v := ?_) (a' := ?_) #[true,true,true,true,false,false,false,false,false,false,false,false,false,false,false,false,false,false,false,false,false,false,false,false,false,false,false,false,false,false,false,false,false] rfl rfl (any_of HT_.out (by kernel_rfl)) (fun _ _ _ h => h) (Or.inl ⟨by rfl,?_⟩) ?_ ?_
                     rotate_left
                     ·intro w'
                      go_simp
                      with_reducible rfl
                     rotate_left
                     ·simp only [Act.put,List.setIfInBounds_toArray,List.set_cons_zero,List.set_cons_succ,i64_w,i32_w]
                      rfl
                     refine take_ (i := 4) (N := some 126) (v := ?_) (a' := ?_) #[true,true,true,true,true,false,false,false,false,false,false,false,false,false,false,false,false,false,false,false,false,false,false,false,false,false,false,false,false,false,false,false,false] rfl rfl (take_ofW HT_.out HW_.out (by kernel_rfl)) (fun _ _ _ h => h) (Or.inl ⟨by rfl,?_⟩) hHeld ?_ ?_
                     rotate_left
                     ·rintro w' ⟨s0,s1,s2,s3,s4,s5,s6,s7,s8,s9,s10,s11,s12⟩
                      (try simp only [Int.toNat_natCast] at s11 s12)
                      go_simp
                      with_reducible rfl
                     rotate_left
                     ·simp only [Act.put,List.setIfInBounds_toArray,List.set_cons_zero,List.set_cons_succ,i64_w,i32_w]
                      rfl
                     refine take_ (i := 5) (N := some 127) (v := ?_) (a' := ?_) #[true,true,true,true,true,true,false,false,false,false,false,false,false,false,false,false,false,false,false,false,false,false,false,false,false,false,false,false,false,false,false,false,false] rfl rfl (take_ofW HT_.out HW_.out (by kernel_rfl)) (fun _ _ _ h => h) (Or.inl ⟨by rfl,?_⟩) hHeld ?_ ?_
                     rotate_left
                     ·rintro w' ⟨s0,s1,s2,s3,s4,s5,s6,s7,s8,s9,s10,s11,s12⟩
                      (try simp only [Int.toNat_natCast] at s11 s12)
                      go_simp
                      with_reducible rfl
                     rotate_left
                     ·simp only [Act.put,List.setIfInBounds_toArray,List.set_cons_zero,List.set_cons_succ,i64_w,i32_w]
                      rfl
                     refine pure_ (i := 6) (N := some 128) (v := ?_) (a' := ?_) #[true,true,true,true,true,true,true,false,false,false,false,false,false,false,false,false,false,false,false,false,false,false,false,false,false,false,false,false,false,false,false,false,false] rfl rfl (any_of HT_.out (by kernel_rfl)) (fun _ _ _ h => h) (Or.inl ⟨by rfl,?_⟩) ?_ ?_
                     rotate_left
                     ·intro w'
                      go_simp
                      with_reducible rfl
                     rotate_left
                     ·simp only [Act.put,List.setIfInBounds_toArray,List.set_cons_zero,List.set_cons_succ,i64_w,i32_w]
                      rfl
                     refine pure_ (i := 7) (N := some 129) (v := ?_) (a' := ?_) #[true,true,true,true,true,true,true,true,false,false,false,false,false,false,false,false,false,false,false,false,false,false,false,false,false,false,false,false,false,false,false,false,false] rfl rfl (any_of HT_.out (by kernel_rfl)) (fun _ _ _ h => h) (Or.inl ⟨by rfl,?_⟩) ?_ ?_
                     rotate_left
                     ·intro w'
                      go_simp
                      with_reducible rfl
                     rotate_left
                     ·simp only [Act.put,List.setIfInBounds_toArray,List.set_cons_zero,List.set_cons_succ,i64_w,i32_w]
                      rfl
                     refine pure_ (i := 8) (N := some 130) (v := ?_) (a' := ?_) #[true,true,true,true,true,true,true,true,true,false,false,false,false,false,false,false,false,false,false,false,false,false,false,false,false,false,false,false,false,false,false,false,false] rfl rfl (any_of HT_.out (by kernel_rfl)) (fun _ _ _ h => h) (Or.inl ⟨by rfl,?_⟩) ?_ ?_
                     rotate_left
                     ·intro w'
                      go_simp
                      with_reducible rfl
                     rotate_left
                     ·simp only [Act.put,List.setIfInBounds_toArray,List.set_cons_zero,List.set_cons_succ,i64_w,i32_w]
                      rfl
                     refine pure_ (i := 9) (N := some 131) (v := ?_) (a' := ?_) #[true,true,true,true,true,true,true,true,true,true,false,false,false,false,false,false,false,false,false,false,false,false,false,false,false,false,false,false,false,false,false,false,false] rfl rfl (any_of HT_.out (by kernel_rfl)) (fun _ _ _ h => h) (Or.inl ⟨by rfl,?_⟩) ?_ ?_
                     rotate_left
                     ·intro w'
                      go_simp
                      with_reducible rfl
                     rotate_left
                     ·simp only [Act.put,List.setIfInBounds_toArray,List.set_cons_zero,List.set_cons_succ,i64_w,i32_w]
                      rfl
                     refine pure_ (i := 10) (N := some 132) (v := ?_) (a' := ?_) #[true,true,true,true,true,true,true,true,true,true,true,false,false,false,false,false,false,false,false,false,false,false,false,false,false,false,false,false,false,false,false,false,false] rfl rfl (any_of HT_.out (by kernel_rfl)) (fun _ _ _ h => h) (Or.inl ⟨by rfl,?_⟩) ?_ ?_
                     rotate_left
                     ·intro w'
                      go_simp
                      with_reducible rfl
                     rotate_left
                     ·simp only [Act.put,List.setIfInBounds_toArray,List.set_cons_zero,List.set_cons_succ,i64_w,i32_w]
                      rfl
                     refine pure_ (i := 11) (N := some 133) (v := ?_) (a' := ?_) #[true,true,true,true,true,true,true,true,true,true,true,true,false,false,false,false,false,false,false,false,false,false,false,false,false,false,false,false,false,false,false,false,false] rfl rfl (any_of HT_.out (by kernel_rfl)) (fun _ _ _ h => h) (Or.inl ⟨by rfl,?_⟩) ?_ ?_
                     rotate_left
                     ·intro w'
                      go_simp
                      with_reducible rfl
                     rotate_left
                     ·simp only [Act.put,List.setIfInBounds_toArray,List.set_cons_zero,List.set_cons_succ,i64_w,i32_w]
                      rfl
                     refine pure_ (i := 12) (N := some 134) (v := ?_) (a' := ?_) #[true,true,true,true,true,true,true,true,true,true,true,true,true,false,false,false,false,false,false,false,false,false,false,false,false,false,false,false,false,false,false,false,false] rfl rfl (any_of HT_.out (by kernel_rfl)) (fun _ _ _ h => h) (Or.inl ⟨by rfl,?_⟩) ?_ ?_
                     rotate_left
                     ·intro w'
                      go_simp
                      with_reducible rfl
                     rotate_left
                     ·simp only [Act.put,List.setIfInBounds_toArray,List.set_cons_zero,List.set_cons_succ,i64_w,i32_w]
                      rfl
                     refine pure_ (i := 14) (N := some 136) (v := ?_) (a' := ?_) #[true,true,true,true,true,true,true,true,true,true,true,true,true,false,true,false,false,false,false,false,false,false,false,false,false,false,false,false,false,false,false,false,false] rfl rfl (any_of HT_.out (by kernel_rfl)) (fun _ _ _ h => h) (Or.inl ⟨by rfl,?_⟩) ?_ ?_
                     rotate_left
                     ·intro w'
                      go_simp
                      with_reducible rfl
                     rotate_left
                     ·simp only [Act.put,List.setIfInBounds_toArray,List.set_cons_zero,List.set_cons_succ,i64_w,i32_w]
                      rfl
                     refine take_ (i := 13) (N := some 135) (v := ?_) (a' := ?_) #[true,true,true,true,true,true,true,true,true,true,true,true,true,true,true,false,false,false,false,false,false,false,false,false,false,false,false,false,false,false,false,false,false] rfl rfl (take_ofW HT_.out HW_.out (by kernel_rfl)) (fun _ _ _ h => h) (Or.inl ⟨by rfl,?_⟩) hHeld ?_ ?_
                     rotate_left
                     ·rintro w' ⟨s0,s1,s2,s3,s4,s5,s6,s7,s8,s9,s10,s11,s12⟩
                      (try simp only [Int.toNat_natCast] at s11 s12)
                      go_simp
                      with_reducible rfl
                     rotate_left
                     ·simp only [Act.put,List.setIfInBounds_toArray,List.set_cons_zero,List.set_cons_succ,i64_w,i32_w]
                      rfl
                     refine take_ (i := 15) (N := some 137) (v := ?_) (a' := ?_) #[true,true,true,true,true,true,true,true,true,true,true,true,true,true,true,true,false,false,false,false,false,false,false,false,false,false,false,false,false,false,false,false,false] rfl rfl (take_ofW HT_.out HW_.out (by kernel_rfl)) (fun _ _ _ h => h) (Or.inl ⟨by rfl,?_⟩) hHeld ?_ ?_
                     rotate_left
                     ·rintro w' ⟨s0,s1,s2,s3,s4,s5,s6,s7,s8,s9,s10,s11,s12⟩
                      (try simp only [Int.toNat_natCast] at s11 s12)
                      go_simp
                      with_reducible rfl
                     rotate_left
                     ·simp only [Act.put,List.setIfInBounds_toArray,List.set_cons_zero,List.set_cons_succ,i64_w,i32_w]
                      rfl
                     refine pure_ (i := 16) (N := some 138) (v := ?_) (a' := ?_) #[true,true,true,true,true,true,true,true,true,true,true,true,true,true,true,true,true,false,false,false,false,false,false,false,false,false,false,false,false,false,false,false,false] rfl rfl (any_of HT_.out (by kernel_rfl)) (fun _ _ _ h => h) (Or.inl ⟨by rfl,?_⟩) ?_ ?_
                     rotate_left
                     ·intro w'
                      go_simp
                      with_reducible rfl
                     rotate_left
                     ·simp only [Act.put,List.setIfInBounds_toArray,List.set_cons_zero,List.set_cons_succ,i64_w,i32_w]
                      rfl
                     refine pure_ (i := 17) (N := some 139) (v := ?_) (a' := ?_) #[true,true,true,true,true,true,true,true,true,true,true,true,true,true,true,true,true,true,false,false,false,false,false,false,false,false,false,false,false,false,false,false,false] rfl rfl (any_of HT_.out (by kernel_rfl)) (fun _ _ _ h => h) (Or.inl ⟨by rfl,?_⟩) ?_ ?_
                     rotate_left
                     ·intro w'
                      go_simp
                      with_reducible rfl
                     rotate_left
                     ·simp only [Act.put,List.setIfInBounds_toArray,List.set_cons_zero,List.set_cons_succ,i64_w,i32_w]
                      rfl
                     refine pure_ (i := 18) (N := some 140) (v := ?_) (a' := ?_) #[true,true,true,true,true,true,true,true,true,true,true,true,true,true,true,true,true,true,true,false,false,false,false,false,false,false,false,false,false,false,false,false,false] rfl rfl (any_of HT_.out (by kernel_rfl)) (fun _ _ _ h => h) (Or.inl ⟨by rfl,?_⟩) ?_ ?_
                     rotate_left
                     ·intro w'
                      go_simp
                      with_reducible rfl
                     rotate_left
                     ·simp only [Act.put,List.setIfInBounds_toArray,List.set_cons_zero,List.set_cons_succ,i64_w,i32_w]
                      rfl
                     refine pure_ (i := 19) (N := some 141) (v := ?_) (a' := ?_) #[true,true,true,true,true,true,true,true,true,true,true,true,true,true,true,true,true,true,true,true,false,false,false,false,false,false,false,false,false,false,false,false,false] rfl rfl (any_of HT_.out (by kernel_rfl)) (fun _ _ _ h => h) (Or.inl ⟨by rfl,?_⟩) ?_ ?_
                     rotate_left
                     ·intro w'
                      go_simp
                      with_reducible rfl
                     rotate_left
                     ·simp only [Act.put,List.setIfInBounds_toArray,List.set_cons_zero,List.set_cons_succ,i64_w,i32_w]
                      rfl
                     refine pure_ (i := 20) (N := some 142) (v := ?_) (a' := ?_) #[true,true,true,true,true,true,true,true,true,true,true,true,true,true,true,true,true,true,true,true,true,false,false,false,false,false,false,false,false,false,false,false,false] rfl rfl (any_of HT_.out (by kernel_rfl)) (fun _ _ _ h => h) (Or.inl ⟨by rfl,?_⟩) ?_ ?_
                     rotate_left
                     ·intro w'
                      go_simp
                      with_reducible rfl
                     rotate_left
                     ·simp only [Act.put,List.setIfInBounds_toArray,List.set_cons_zero,List.set_cons_succ,i64_w,i32_w]
                      rfl
                     refine pure_ (i := 21) (N := some 143) (v := ?_) (a' := ?_) #[true,true,true,true,true,true,true,true,true,true,true,true,true,true,true,true,true,true,true,true,true,true,false,false,false,false,false,false,false,false,false,false,false] rfl rfl (any_of HT_.out (by kernel_rfl)) (fun _ _ _ h => h) (Or.inl ⟨by rfl,?_⟩) ?_ ?_
                     rotate_left
                     ·intro w'
                      go_simp
                      with_reducible rfl
                     rotate_left
                     ·simp only [Act.put,List.setIfInBounds_toArray,List.set_cons_zero,List.set_cons_succ,i64_w,i32_w]
                      rfl
                     refine pure_ (i := 22) (N := some 144) (v := ?_) (a' := ?_) #[true,true,true,true,true,true,true,true,true,true,true,true,true,true,true,true,true,true,true,true,true,true,true,false,false,false,false,false,false,false,false,false,false] rfl rfl (any_of HT_.out (by kernel_rfl)) (fun _ _ _ h => h) (Or.inl ⟨by rfl,?_⟩) ?_ ?_
                     rotate_left
                     ·intro w'
                      go_simp
                      with_reducible rfl
                     rotate_left
                     ·simp only [Act.put,List.setIfInBounds_toArray,List.set_cons_zero,List.set_cons_succ,i64_w,i32_w]
                      rfl
                     refine pure_ (i := 23) (N := some 145) (v := ?_) (a' := ?_) #[true,true,true,true,true,true,true,true,true,true,true,true,true,true,true,true,true,true,true,true,true,true,true,true,false,false,false,false,false,false,false,false,false] rfl rfl (any_of HT_.out (by kernel_rfl)) (fun _ _ _ h => h) (Or.inl ⟨by rfl,?_⟩) ?_ ?_
                     rotate_left
                     ·intro w'
                      go_simp
                      with_reducible rfl
                     rotate_left
                     ·simp only [Act.put,List.setIfInBounds_toArray,List.set_cons_zero,List.set_cons_succ,i64_w,i32_w]
                      rfl
                     refine take_ (i := 24) (N := some 146) (v := ?_) (a' := ?_) #[true,true,true,true,true,true,true,true,true,true,true,true,true,true,true,true,true,true,true,true,true,true,true,true,true,false,false,false,false,false,false,false,false] rfl rfl (take_ofW HT_.out HW_.out (by kernel_rfl)) (fun _ _ _ h => h) (Or.inl ⟨by rfl,?_⟩) hHeld ?_ ?_
                     rotate_left
                     ·rintro w' ⟨s0,s1,s2,s3,s4,s5,s6,s7,s8,s9,s10,s11,s12⟩
                      (try simp only [Int.toNat_natCast] at s11 s12)
                      go_simp
                      with_reducible rfl
                     rotate_left
                     ·simp only [Act.put,List.setIfInBounds_toArray,List.set_cons_zero,List.set_cons_succ,i64_w,i32_w]
                      rfl
                     refine take_ (i := 25) (N := some 147) (v := ?_) (a' := ?_) #[true,true,true,true,true,true,true,true,true,true,true,true,true,true,true,true,true,true,true,true,true,true,true,true,true,true,false,false,false,false,false,false,false] rfl rfl (take_ofW HT_.out HW_.out (by kernel_rfl)) (fun _ _ _ h => h) (Or.inl ⟨by rfl,?_⟩) hHeld ?_ ?_
                     rotate_left
                     ·rintro w' ⟨s0,s1,s2,s3,s4,s5,s6,s7,s8,s9,s10,s11,s12⟩
                      (try simp only [Int.toNat_natCast] at s11 s12)
                      go_simp
                      with_reducible rfl
                     rotate_left
                     ·simp only [Act.put,List.setIfInBounds_toArray,List.set_cons_zero,List.set_cons_succ,i64_w,i32_w]
                      rfl
                     refine pure_ (i := 26) (N := some 148) (v := ?_) (a' := ?_) #[true,true,true,true,true,true,true,true,true,true,true,true,true,true,true,true,true,true,true,true,true,true,true,true,true,true,true,false,false,false,false,false,false] rfl rfl (any_of HT_.out (by kernel_rfl)) (fun _ _ _ h => h) (Or.inl ⟨by rfl,?_⟩) ?_ ?_
                     rotate_left
                     ·intro w'
                      go_simp
                      with_reducible rfl
                     rotate_left
                     ·simp only [Act.put,List.setIfInBounds_toArray,List.set_cons_zero,List.set_cons_succ,i64_w,i32_w]
                      rfl
                     refine pure_ (i := 27) (N := some 149) (v := ?_) (a' := ?_) #[true,true,true,true,true,true,true,true,true,true,true,true,true,true,true,true,true,true,true,true,true,true,true,true,true,true,true,true,false,false,false,false,false] rfl rfl (any_of HT_.out (by kernel_rfl)) (fun _ _ _ h => h) (Or.inl ⟨by rfl,?_⟩) ?_ ?_
                     rotate_left
                     ·intro w'
                      go_simp
                      with_reducible rfl
                     rotate_left
                     ·simp only [Act.put,List.setIfInBounds_toArray,List.set_cons_zero,List.set_cons_succ,i64_w,i32_w]
                      rfl
                     refine pure_ (i := 28) (N := some 150) (v := ?_) (a' := ?_) #[true,true,true,true,true,true,true,true,true,true,true,true,true,true,true,true,true,true,true,true,true,true,true,true,true,true,true,true,true,false,false,false,false] rfl rfl (any_of HT_.out (by kernel_rfl)) (fun _ _ _ h => h) (Or.inl ⟨by rfl,?_⟩) ?_ ?_
                     rotate_left
                     ·intro w'
                      go_simp
                      with_reducible rfl
                     rotate_left
                     ·simp only [Act.put,List.setIfInBounds_toArray,List.set_cons_zero,List.set_cons_succ,i64_w,i32_w]
                      rfl
                     refine take_ (i := 29) (N := some 151) (v := ?_) (a' := ?_) #[true,true,true,true,true,true,true,true,true,true,true,true,true,true,true,true,true,true,true,true,true,true,true,true,true,true,true,true,true,true,false,false,false] rfl rfl (take_ofW HT_.out HW_.out (by kernel_rfl)) (fun _ _ _ h => h) (Or.inl ⟨by rfl,?_⟩) hHeld ?_ ?_
                     rotate_left
                     ·rintro w' ⟨s0,s1,s2,s3,s4,s5,s6,s7,s8,s9,s10,s11,s12⟩
                      (try simp only [Int.toNat_natCast] at s11 s12)
                      go_simp
                      with_reducible rfl
                     rotate_left
                     ·simp only [Act.put,List.setIfInBounds_toArray,List.set_cons_zero,List.set_cons_succ,i64_w,i32_w]
                      rfl
                     refine one_ (i := 30) (N := some 152) #[true,true,true,true,true,true,true,true,true,true,true,true,true,true,true,true,true,true,true,true,true,true,true,true,true,true,true,true,true,true,true,false,false] rfl rfl (one_of HT_.out (by kernel_rfl)) (by decide) (fun K hK => ?_)
                     refine goes_ Tryd.func23 (by kernel_rfl) rfl #[.agg #[.string t380,.string t381,.int .i64 t382]] (by rfl) rfl rfl (by (try simp only [List.map_toArray,List.map_cons,List.map_nil]);first|done|rfl|(simp only [List.length_drop,List.length_take];rfl)) ?_
                     with_reducible refine (impl_IsValidLog.calls k3 t380 t381 t382 t416 _ ?side1 A111.out).mono ?_
                     (case side1 => exact Gw.below HG.out (by repeat (first|(with_reducible first|exact HB.out|apply lA|apply lN|apply lD|refine below_set ?_ GE378.out|refine below_set ?_ GE379.out|refine below_set ?_ GE384.out|refine below_set ?_ GE389.out|refine below_set ?_ GE407.out|refine below_set ?_ GE412.out)|exact HB.out)))
                     rintro e w115 ⟨rfl,hb⟩
                     have HS11_ := (hb.cell (World.block_lt_of_cell? _ _ (hHeld.2.2.2.2.2.2.2.2.2.2.2.1))).trans (hHeld.2.2.2.2.2.2.2.2.2.2.2.1)
                     have HS12_ := (hb.cell (World.block_lt_of_cell? _ _ (hHeld.2.2.2.2.2.2.2.2.2.2.2.2))).trans (hHeld.2.2.2.2.2.2.2.2.2.2.2.2)
                     refine ⟨_,rfl,?_⟩
                     have n0_ := Aside0.mk (Kd.R_below (by (with_reducible repeat (first|apply Kd.R_alloc|apply Kd.R_drewN|apply Kd.R_drew));exact HO_9.out) hb)
                     have n1_ := Aside0.mk (Kd.R_below (by (with_reducible repeat (first|apply Kd.R_alloc|apply Kd.R_drewN|apply Kd.R_drew));exact HO_11.out) hb)
                     have n2_ := Aside0.mk (blk_below (g := gb378) (o := .cells #[.string t373,.string t374,.int .i64 t375] 31 (0,0)) (by (with_reducible repeat (first|refine bN ?_ _|refine bD ?_|refine bA ?_ _));exact BK378.out) hb)
                     have n3_ := Aside0.mk (blk_below (g := gb379) (o := .cells #[.string t376,.string t377] 27 (0,0)) (by (with_reducible repeat (first|refine bN ?_ _|refine bD ?_|refine bA ?_ _));exact BK379.out) hb)
                     have n4_ := Aside0.mk (blk_below (g := gb384) (o := .cells #[.string t380,.string t381,.int .i64 t382] 31 (0,0)) (by (with_reducible repeat (first|refine bN ?_ _|refine bD ?_|refine bA ?_ _));exact BK384.out) hb)
                     have n5_ := Aside0.mk (blk_below (g := gb389) (o := .cells #[.string t385,.string t386,.int .i64 t387] 31 (0,0)) (by (with_reducible repeat (first|refine bN ?_ _|refine bD ?_|refine bA ?_ _));exact BK389.out) hb)
                     have n6_ := Aside0.mk (blk_below (g := gb407) (o := .cells #[.string t402,.string t403,.int .i64 t404] 31 (0,0)) (by (with_reducible repeat (first|refine bN ?_ _|refine bD ?_|refine bA ?_ _));exact BK407.out) hb)
                     have n7_ := Aside0.mk (blk_below (g := gb412) (o := .cells #[.string t408,.string t409,.int .i64 t410] 31 (0,0)) (by (with_reducible repeat (first|refine bN ?_ _|refine bD ?_|refine bA ?_ _));exact BK412.out) hb)
                     have n8_ := Aside0.mk (below_step (by repeat (first|(with_reducible first|exact HB.out|apply lA|apply lN|apply lD|refine below_set ?_ GE378.out|refine below_set ?_ GE379.out|refine below_set ?_ GE384.out|refine below_set ?_ GE389.out|refine below_set ?_ GE407.out|refine below_set ?_ GE412.out)|exact HB.out)) hb)
                     clear HO_9
                     clear HO_11
                     clear BK378
                     clear BK379
                     clear BK384
                     clear BK389
                     clear BK407
                     clear BK412
                     clear HB
                     have HO_9 := n0_
                     have HO_11 := n1_
                     have BK378 := n2_
                     have BK379 := n3_
                     have BK384 := n4_
                     have BK389 := n5_
                     have BK407 := n6_
                     have BK412 := n7_
                     have HB := n8_
                     clear n0_ n1_ n2_ n3_ n4_ n5_ n6_ n7_ n8_
                     (try clear hb)
                     (try clear hb2)
                     (try clear hk)
                     (try clear hi)
                     refine hK.out _ _ ⟨(blk_cell BK379.out 0).trans rfl,(blk_cell BK379.out 1).trans rfl,(blk_cell BK384.out 0).trans rfl,(blk_cell BK384.out 1).trans rfl,(blk_cell BK384.out 2).trans rfl,(blk_cell BK412.out 0).trans rfl,(blk_cell BK412.out 1).trans rfl,(blk_cell BK412.out 2).trans rfl,(blk_cell BK407.out 0).trans rfl,(blk_cell BK407.out 1).trans rfl,(blk_cell BK407.out 2).trans rfl,HS11_,HS12_⟩ (fun hHeld => ?_)
                     clear hK K
                     refine norm_ (a' := ?_) ?_ ?_
                     rotate_left
                     ·show Act.put _ (some 152) _ = _
                      simp only [Act.put,List.setIfInBounds_toArray,List.set_cons_zero,List.set_cons_succ,i64_w,i32_w]
                      rfl
                     refine pure_ (i := 31) (N := some 153) (v := ?_) (a' := ?_) #[true,true,true,true,true,true,true,true,true,true,true,true,true,true,true,true,true,true,true,true,true,true,true,true,true,true,true,true,true,true,true,true,false] rfl rfl (any_of HT_.out (by kernel_rfl)) (fun _ _ _ h => h) (Or.inl ⟨by rfl,?_⟩) ?_ ?_
                     rotate_left
                     ·intro w'
                      go_simp
                      with_reducible rfl
                     rotate_left
                     ·simp only [Act.put,List.setIfInBounds_toArray,List.set_cons_zero,List.set_cons_succ,i64_w,i32_w]
                      rfl
                     refine pure_ (i := 32) (N := some 2) (v := ?_) (a' := ?_) #[true,true,true,true,true,true,true,true,true,true,true,true,true,true,true,true,true,true,true,true,true,true,true,true,true,true,true,true,true,true,true,true,true] rfl rfl (any_of HT_.out (by kernel_rfl)) (fun _ _ _ h => h) (Or.inl ⟨by rfl,?_⟩) ?_ ?_
                     rotate_left
                     ·intro w'
                      go_simp
                      with_reducible rfl
                     rotate_left
                     ·simp only [Act.put,List.setIfInBounds_toArray,List.set_cons_zero,List.set_cons_succ,i64_w,i32_w]
                      rfl
                     refine done_ (done_of HT_.out (by kernel_rfl)) ?_
                     try go_wp2
                     go_ret
                     exact ⟨by first|rfl|(simp [errW_none,errW_some] <;> rfl)|(simp only [← hsj107];first|rfl|(simp [errW_none,errW_some] <;> rfl))|(simp [*,errW_none,errW_some] <;> rfl),by repeat (first|(with_reducible first|exact HB.out|apply lA|apply lN|apply lD|refine below_set ?_ GE378.out|refine below_set ?_ GE379.out|refine below_set ?_ GE384.out|refine below_set ?_ GE389.out|refine below_set ?_ GE407.out|refine below_set ?_ GE412.out)|exact HB.out)⟩
                    ·rw [if_neg c110] at H
                     have c110b0 : (t408.toList == t402.toList && (t409.toList == t403.toList && (t410 == t404))) = false := by simpa using c110
                     (try (have c110b1 : decide (t408.toList = t402.toList && (t409.toList == t403.toList && (t410 == t404))) = false := by simpa using c110))
                     (try (have c110b2 : (t408.toList == t402.toList && (t409.toList == t403.toList && (t410 == t404))) = false := by simpa using c110))
                     (try (have c110b3 : ¬ (t408.toList = t402.toList && (t409.toList == t403.toList && (t410 == t404))) := by simpa using c110))
                     clear c110
                     exact absurd ((Option.some.inj H).trans hr_) (by decide)
                   ·replace c109 := Bool.eq_false_iff.mpr c109
                    subst c109
                    have H1 : (some false) = some r := by rw [if_neg (show ¬ (false = true) by decide)] at H;exact H
                    clear H
                    have H := H1
                    clear H1
                    exact absurd ((Option.some.inj H).trans hr_) (by decide)
                  ·rw [if_neg c108] at H
                   have c108b0 : (t405 == (sj107.size : Int)) = false := beq_eq_false_iff_ne.mpr c108
                   have c108b1 : (t405 != (sj107.size : Int)) = true := bne_iff_ne.mpr c108
                   exact absurd ((Option.some.inj H).trans hr_) (by decide)
                 ·rw [if_neg c106] at H
                  exact absurd H (by simp)
                ·replace c105 := Bool.eq_false_iff.mpr c105
                 subst c105
                 have H1 : (some false) = some r := by rw [if_neg (show ¬ (false = true) by decide)] at H;exact H
                 clear H
                 have H := H1
                 clear H1
                 exact absurd ((Option.some.inj H).trans hr_) (by decide)
               ·rw [if_neg c104] at H
                have c104b0 : ((((rd_T27 t394 (t398.length : Int)).f0).toList) == t376.toList && ((((rd_T27 t394 (t398.length : Int)).f1).toList) == t377.toList)) = false := by simpa using c104
                (try (have c104b1 : decide ((((rd_T27 t394 (t398.length : Int)).f0).toList) = t376.toList && ((((rd_T27 t394 (t398.length : Int)).f1).toList) == t377.toList)) = false := by simpa using c104))
                (try (have c104b2 : ((((rd_T27 t394 (t398.length : Int)).f0).toList) == t376.toList && ((((rd_T27 t394 (t398.length : Int)).f1).toList) == t377.toList)) = false := by simpa using c104))
                (try (have c104b3 : ¬ ((((rd_T27 t394 (t398.length : Int)).f0).toList) = t376.toList && ((((rd_T27 t394 (t398.length : Int)).f1).toList) == t377.toList)) := by simpa using c104))
                clear c104
                exact absurd ((Option.some.inj H).trans hr_) (by decide)
              ·rw [if_neg c103] at H
               exact absurd H (by simp)
             ·rw [if_neg c102] at H
              exact absurd H (by simp)
      ·rw [if_neg c52] at H
       exact absurd H (by simp)
     ·rw [if_neg c49] at H
      have c49b0 : (t383 == 0) = false := beq_eq_false_iff_ne.mpr c49
      have c49b1 : (t383 != 0) = true := bne_iff_ne.mpr c49
      obtain rfl := Option.some.inj H
      try clear hr_
      have hnb116 := NB384_378.out
      have hnc116 := NB378_384.out
      have hnb117 := NB384_379.out
      have hnc117 := NB379_384.out
      have hnb118 := NB384_389.out
      have hnc118 := NB389_384.out
      have hcz119_0 : wc.cell? ⟨gb384,0,none⟩ = some (.string t380) := (blk_cell BK384.out 0).trans rfl
      have hcz119_1 : wc.cell? ⟨gb384,1,none⟩ = some (.string t381) := (blk_cell BK384.out 1).trans rfl
      have hcz119_2 : wc.cell? ⟨gb384,2,none⟩ = some (.int .i64 t382) := (blk_cell BK384.out 2).trans rfl
      have hfz119_0 := blk_frozen BK384.out 0
      have hfz119_1 := blk_frozen BK384.out 1
      have hfz119_2 := blk_frozen BK384.out 2
      have hnb120 := NB378_379.out
      have hnc120 := NB379_378.out
      have hnb121 := NB378_389.out
      have hnc121 := NB389_378.out
      have hcz122_0 : wc.cell? ⟨gb378,0,none⟩ = some (.string t373) := (blk_cell BK378.out 0).trans rfl
      have hcz122_1 : wc.cell? ⟨gb378,1,none⟩ = some (.string t374) := (blk_cell BK378.out 1).trans rfl
      have hcz122_2 : wc.cell? ⟨gb378,2,none⟩ = some (.int .i64 t375) := (blk_cell BK378.out 2).trans rfl
      have hfz122_0 := blk_frozen BK378.out 0
      have hfz122_1 := blk_frozen BK378.out 1
      have hfz122_2 := blk_frozen BK378.out 2
      go_wp2
      go_ret
      exact ⟨by first|rfl|(simp [errW_none,errW_some] <;> rfl)|(simp [*,errW_none,errW_some] <;> rfl),by repeat (first|(with_reducible first|exact HB.out|apply lA|apply lN|apply lD|refine below_set ?_ GE378.out|refine below_set ?_ GE379.out|refine below_set ?_ GE384.out|refine below_set ?_ GE389.out)|exact HB.out)⟩
def laws_FnLog.Pure : Prop := ∀ (l0 : List Int),(l0.length * 1 ≤ 140737488351232 ∧ l0.length ≤ maxLen ∧ ∀ a_ ∈ l0,(Lit.int .u8 a_).wf = true) → ∃ k,laws_FnLog.f k l0 = some true
end Go.Proofs.YtinbbjfnebhlkaaDoor.P
