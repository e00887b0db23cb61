/- Walks: each Go function computes the Lean function beside it; conditions: those of each theorem. -/
import Derived.Test.YtmafmhgmdegplaaGreatDoorZPx0
import Derived.Test.YtmafmhgmdegplaaGreatDoorZPx18
import Derived.Shelf.SlicesE.DeleteFunc
import Derived.Sort.OwnSorted
import Derived.Test.YtmafmhgmdegplaaGreatDoorZShelf
namespace Go.Proofs.YtmafmhgmdegplaaGreatDoor.P
open Go.RowKit Go.Proofs.YtmafmhgmdegplaaGreatDoorW.PrintWords Go.Proofs.YtmafmhgmdegplaaGreatDoorW.PrintLast Go.Proofs.YtmafmhgmdegplaaGreatDoorW.PrintMore
set_option maxHeartbeats 8000000
set_option maxRecDepth 100000
attribute [local go_sem] max2_int min2_int max_two min_two max_three min_three max_four min_four   -- for this text's walks alone
set_option linter.unusedVariables false
set_option linter.unusedSimpArgs false
def FbQ.f (a0 : ByteArray) : Option (Bool) := some (a0.toList == ([] : List UInt8))
theorem FbQ.calls (a0 : ByteArray) (r : Bool) (w : World) (h : FbQ.f a0 = some r) :
  Calls Tryz.prog 186 #[.string a0] w fun e w' => e = .returned (.bool r) ∧ Drawn0 w w' := by
 have H : (some (a0.toList == ([] : List UInt8))) = some r := h;clear h;obtain rfl := oI H;go_enter Tryz.func186,Tryz.ntmps186;go_wp2;go_ret;exact ⟨vR_,dw_⟩
def Fao.l0 : Nat → List ByteArray → Int → Int → Option (Int)
 | 0,_,_,_ => none
 | k + 1,x0,x7,x8 => if x8 < x7 then (if 0 ≤ x8 then (if x8 < (x0.length : Int) then ((FbQ.f (rdOf ByteArray.empty x0 x8)).bind fun aa => (if aa = true then (some x8) else (Fao.l0 k x0 x7 (wrap64 (x8 + 1))))) else (none)) else (none)) else (some (-1))
def Fao.f (k : Nat) (l0 : List ByteArray) (a1 : Int) : Option (Int) := Fao.l0 k l0 (l0.length : Int) 0
theorem Fao.mono_l : ∀ k,(∀ y0 y1 y2,LeO (Fao.l0 k y0 y1 y2) (Fao.l0 (k + 1) y0 y1 y2))
 | 0 => fun _ _ _ r h => by simp [Fao.l0] at h
 | k + 1 => by
  have ih0 := Fao.mono_l k
  ·intro y0 y1 y2
   unfold Fao.l0
   repeat' (first|with_reducible (first|exact ih0 _ _ _|exact LeO.refl _|exact LeO.none _|refine LeO.ite ?_ ?_|refine LeO.bind ?_ (fun _ => ?_))|exact LeO.none _|refine LeO.ite ?_ ?_|refine LeO.bind ?_ (fun _ => ?_))
theorem Fao.mono : ∀ a0 a1 k,LeO (Fao.f k a0 a1) (Fao.f (k + 1) a0 a1) := by
 intro a0 a1 k
 have ih0 := Fao.mono_l k
 unfold Fao.f
 repeat' (first|with_reducible (first|exact ih0 _ _ _|exact LeO.refl _|exact LeO.none _|refine LeO.ite ?_ ?_|refine LeO.bind ?_ (fun _ => ?_))|exact LeO.none _|refine LeO.ite ?_ ?_|refine LeO.bind ?_ (fun _ => ?_))
theorem Fao.calls (k : Nat) (A0 : Option Addr) (c0 : Nat) (l0 : List ByteArray) (a1 : Int) (r : Int) (w : World) (hr0 : Kd.C Kd.string w A0 l0.length l0) (hc0 : l0.length ≤ c0) (h : Fao.f k l0 a1 = some r) :
  Calls Tryz.prog 152 #[.slice A0 l0.length c0,.func (.func 186) #[] #[]] w fun e w' => e = .returned (.int .i64 r) ∧ Drawn0 w w' := by
 have HR0 := aM hr0;have HC0 := aM hc0;clear hr0 hc0;have H : (Fao.l0 k l0 (l0.length : Int) 0) = some r := h;clear h;have H' := aM H;clear H;go_enter Tryz.func152,Tryz.ntmps152;go_wp2;go_loopg [8] k (fun kq v8 w' => ∃ (aa : Int),v8 = .int .i64 aa ∧ Aside0 (Fao.l0 kq l0 (l0.length : Int) aa = some r) ∧ Aside0 (kq ≤ k) ∧ Drawn0 w w')
 case atStart => exact ⟨(0),vR_,H',⟨Nat.le_refl _⟩,dw_⟩
 case round =>
  clear H';obtain ⟨aa,rfl,HA,ad,⟨m1,rfl⟩⟩ := hrel
  cases gk with
  | zero => exact absurd HA.out (by simp [Fao.l0])
  | succ k1 =>
   have H := HA.out;clear HA;simp only [Fao.l0] at H
   by_cases c3 : aa < (l0.length : Int)
   focus
    rw [if_pos c3] at H;have ab := dT c3;clear c3
    by_cases c4 : 0 ≤ aa
    rotate_left;rw [if_neg c4] at H;exact nH_ H;rw [if_pos c4] at H;have c4b0 := dT c4;clear c4
    by_cases c5 : aa < (l0.length : Int)
    rotate_left;rw [if_neg c5] at H;exact nH_ H;rw [if_pos c5] at H;have c5b0 := dT c5;clear c5;obtain ⟨ac,A6,H⟩ := bE_ H
    by_cases c7 : ac = true
    focus
     subst c7;rw [if_pos rfl] at H;obtain rfl := oI H
    rotate_left
    focus
     replace c7 := qO.mpr c7;subst c7;rw [if_neg qT] at H;have H' := aM H;clear H
   rotate_left 2
   focus
    rw [if_neg c3] at H;have ab := dF c3;clear c3;obtain rfl := oI H
   all_goals
    (try (have p01 : 0 ≤ (aa : Int) := oD (by assumption);have q01 : aa < (l0.length : Int) := oD (by assumption);obtain ⟨ad01,e01,hx01_0⟩ := Kd.at_string HR0.out aa p01 q01;cases e01;replace p01 := eq_true p01;replace q01 := eq_true q01));go_wp2_with (first|(go_at_call 186;(with_reducible refine (FbQ.calls _ _ _ A6.out).mono ?_);rintro e w' ⟨rfl,⟨nd,rfl⟩⟩))
    first
     |
      go_ret;exact ⟨vR_,dw_⟩
     |
      go_roundg k1
      case measure => have := ad.out;omega
      case rel => exact ⟨(wrap64 (aa + 1)),vR_,H',⟨by have := ad.out;omega⟩,dw_⟩
def FbV : Go.Shelf.Ren := ⟨fun|6 => 152|10 => 106|n => n,fun|22 => 50|23 => 9|25 => 136|3 => 3|4 => 4|n => n,fun n => n⟩
theorem FbW : SlLaysH.n10 Tryz.prog FbV := {
 mixed := by kernel_rfl
 f6 := ⟨Tryz.f152.name,by decide,Tryz.func152.trans (congrArg some (by kernel_rfl))⟩
 f10 := ⟨Tryz.f106.name,by decide,Tryz.func106.trans (congrArg some (by kernel_rfl))⟩
 t0 := Tryz.underlying0
 a0 := Tryz.isAgg0
 z0 := Tryz.sizeOf0
 v0 := Tryz.zeroValue0
 t3 := Tryz.underlying3
 a3 := Tryz.isAgg3
 z3 := Tryz.sizeOf3
 v3 := Tryz.zeroValue3
 t4 := Tryz.underlying4
 a4 := Tryz.isAgg4
 z4 := Tryz.sizeOf4
 v4 := Tryz.zeroValue4
 t22 := Tryz.underlying50
 a22 := Tryz.isAgg50
 z22 := Tryz.sizeOf50
 v22 := Tryz.zeroValue50
 a23 := Tryz.isAgg9
 z23 := Tryz.sizeOf9
 t25 := Tryz.underlying136
 a25 := Tryz.isAgg136
 z25 := Tryz.sizeOf136
 v25 := Tryz.zeroValue136 }
theorem Fb5 {w : World} {base : Nat} {ok : Nat → Prop} {l : List ByteArray} {inner : List Value} (hr : Reps (Kd.string.M w base ok) Kd.string.sz l inner) : inner = l.map Value.string := by
 obtain ⟨hl,h⟩ := hr;have hl' : inner.length = l.length := hl.trans (Nat.mul_one _);apply List.ext_getElem?;intro j
 by_cases hj : j < l.length
 ·have h2 : (inner.drop (j * 1)).take 1 = [Value.string l[j]] := h j l[j] (List.getElem?_eq_getElem hj);rw [Nat.mul_one] at h2;have h3 : ((inner.drop j).take 1)[0]? = some (Value.string l[j]) := (by rw [h2];rfl);rw [List.getElem?_take_of_lt (by omega),List.getElem?_drop,Nat.add_zero] at h3;rw [h3];simp [hj]
 ·rw [List.getElem?_eq_none (by omega),List.getElem?_eq_none (by simp;omega)]
theorem FbS {w : World} {base : Nat} {ok : Nat → Prop} (l : List ByteArray) : Reps (Kd.string.M w base ok) Kd.string.sz l (l.map Value.string) := by
 refine ⟨by show (l.map Value.string).length = l.length * 1;simp,fun j p hj => ?_⟩;show ((l.map Value.string).drop (j * 1)).take 1 = [Value.string p];obtain ⟨hjl,hp⟩ := List.getElem?_eq_some_iff.1 hj;rw [Nat.mul_one,← List.map_drop,List.drop_eq_getElem_cons hjl,hp];rfl
theorem Fb7 (p : ByteArray → Bool) (hp : ∀ (W : World) (x : ByteArray),Calls Tryz.prog 186 #[.string x] W fun e w' => e = .returned (.bool (p x)) ∧ ∃ q,w' = W.drewN q)
  (g cap : Nat) (cur : Array Value) (l : List ByteArray) (w : World) (base : Nat) (hbase : base ≤ g) (hb : w.heap[g]? = some (.cells cur 9 (0,0))) (h1 : l.length ≤ cap) (h2 : cap ≤ maxLen) (h3 : cur.size = cap * 1) (h4 : cur.toList.take (l.length * 1) = l.map Value.string) :
  Calls Tryz.prog 106 #[.slice (some ⟨g,0,none⟩) l.length cap,.func (.func 186) #[] #[]] w fun e w' => e = .returned (.slice (some ⟨g,0,none⟩) (l.filter fun x => !p x).length cap) ∧ w'.ownsRow base 9 1 (.slice (some ⟨g,0,none⟩) (l.filter fun x => !p x).length cap) (l.filter fun x => !p x).length ((l.filter fun x => !p x).map Value.string) ∧ w.grownBy w' (some g) := by
 have enc_eq : ∀ x : ByteArray,encStr x.data.toList = .string x := fun x => (by cases x;rfl);have eg : ∀ args w,(callFunc 186 args).run Tryz.prog w = .ok (.enter 186 args) w := enters_of Tryz.func186 (by kernel_rfl) rfl
 have hmap : (l.map fun x => x.data.toList).map encStr = l.map Value.string := by
  rw [List.map_map];exact List.map_congr_left fun x _ => enc_eq x
 have hlen : (l.map fun x => x.data.toList).length = l.length := (by simp)
 have hfil : ((l.map fun x => x.data.toList).filter fun x => !p ⟨x.toArray⟩) = (l.filter fun x => !p x).map fun x => x.data.toList := by
  rw [List.filter_map];rfl
 have hcon := AnyE.slices_DeleteFunc FbW encStr (fun _ => rfl) (fun u => p ⟨u.toArray⟩) 186 #[] eg [] Tryz.zeroValue9 g 0 cap (l.map fun x => x.data.toList).toArray w
  (fun W x _ => hp W ⟨x.toArray⟩) (fun n os dk x _ => hp _ ⟨x.toArray⟩) (holds_of_block hb (by rw [hlen,hmap];simpa using h4)) (by simp [maxLen] at h2;simp;omega) (by simpa using h1)
 have hsz : (l.map fun x => x.data.toList).toArray.size = l.length := (by simp);rw [hsz] at hcon;rw [show ((l.map fun x => x.data.toList).toArray.toList.filter fun x => !p ⟨x.toArray⟩) = (l.filter fun x => !p x).map fun x => x.data.toList from hfil] at hcon;have hfl : (l.filter fun x => !p x).length ≤ l.length := List.length_filter_le _ _;generalize l.filter (fun x => !p x) = fl at *;rw [List.length_map] at hcon;refine hcon.mono ?_;rintro e w' ⟨he,q,rfl⟩;have hgr : ∀ W : World,Go.Sort.grow W #[] = W := fun W => (by unfold Go.Sort.grow;simp);generalize hts : (fl.map fun x => x.data.toList) ++ List.replicate (l.length - fl.length) [] = ts;have htl : ts.length = (l.map fun x => x.data.toList).length := (by rw [← hts];simp;omega);have full := ownsRow_sorted (n := q) (os := #[]) (e := 9) htl hbase hb (by rw [hlen];exact h1) h2 h3;have gr := grownBy_sorted (w := w) (g := g) (n := q) (os := #[]) ts.toArray;rw [hgr] at full gr;refine ⟨he,?_,gr⟩;rcases full.2 with ⟨h0,_⟩|⟨g',cap',cur',hv,hb',hh',hn',hm',hs',ht'⟩
 ·cases h0
 ·cases hv;refine ⟨by simp,.inr ⟨g,cap,cur',rfl,hb',hh',by omega,hm',hs',?_⟩⟩;rw [hlen] at ht';have h5 := congrArg (List.take fl.length) ht'
  have h6 : List.take fl.length ((fl.map fun x => x.data.toList).map encStr) = fl.map Value.string := by
   rw [List.map_map,List.take_of_length_le (by simp)];exact List.map_congr_left fun x _ => enc_eq x
  rw [List.take_take,Nat.min_eq_left (by omega),← hts,List.map_append,List.take_append_of_le_length (by simp),h6] at h5;rw [Nat.mul_one];exact h5
def Fbj.f (l0 : List ByteArray) (a1 : Int) : Option (List ByteArray) := some (l0.filter fun x => !((FbQ.f x).getD false))
theorem Fbj.calls (ab : Nat → Prop) (aa : Value) (l0 : List ByteArray) (a1 : Int) (r0 : List ByteArray) (w0 w : World) (hB : Below w0.heap.size w0 w) (ho0 : Kd.R Kd.string 9 w w0.heap.size ab aa l0) (h : Fbj.f l0 a1 = some r0) :
  Calls Tryz.prog 106 #[aa,.func (.func 186) #[] #[]] w fun e w' => ∃ v0_ : Value,e = .returned (v0_) ∧ Kd.R Kd.string 9 w' w0.heap.size (fun k_ => (ab k_ ∨ w.heap.size ≤ k_)) v0_ r0 ∧ Below w0.heap.size w0 w' ∧ Kept w w' (fun k_ => ab k_) := by
 obtain rfl := oI h
 have hp : ∀ (W : World) (x : ByteArray),Calls Tryz.prog 186 #[.string x] W fun e w' => e = .returned (.bool ((FbQ.f x).getD false)) ∧ ∃ q,w' = W.drewN q := fun W x =>
  (FbQ.calls x _ W rfl).mono fun e w' ⟨he,hd⟩ => ⟨he,hd.out⟩
 obtain ⟨h0,inner,hown,hr⟩ := ho0;obtain rfl := Fb5 hr;have hl := hown;rcases hown.2 with ⟨rfl,hn0⟩|⟨g,cap,cur,rfl,hbb,hb,hn,hm,hsz,hcur⟩
 ·obtain rfl : l0 = [] := List.length_eq_zero_iff.1 hn0;have hI := AnyE.slices_IndexFunc_empty (P := Tryz.prog) (ρ := FbV) { FbW with } none 0 (.func (.func 186) #[] #[]) w;change Calls Tryz.prog 152 _ _ _ at hI;have H := aM hI;clear hI;go_enter Tryz.func106,Tryz.ntmps106;go_wp2_with (first|(go_at_call 152;(refine (H.out).mono ?_);rintro e w' ⟨rfl,rfl⟩));go_ret;exact ⟨_,rfl,⟨fun k hk => .inl (h0 k hk),_,hl,FbS _⟩,hB,Kept.refl _ _⟩
 ·refine (Fb7 (fun x => (FbQ.f x).getD false) hp g cap cur l0 w w0.heap.size hbb hb hn hm hsz hcur).mono ?_;rintro e w' ⟨rfl,ho,hg⟩;refine ⟨_,rfl,⟨fun k hk => ?_,_,ho,FbS _⟩,?_,?_⟩
  ·exact .inl (h0 k hk)
  ·exact hB.grown hg hB.size (fun k hk => own_base hl k hk)
  ·exact Kept.of_grown hg (Kept.refl w _) (fun k hk => .inl (h0 k hk))
def FbT.f (a0 : ByteArray) : Option (List ByteArray) := (FbF.f a0 (⟨#[32]⟩ : ByteArray)).bind fun aa => ((Fbj.f aa 0).bind fun ab => (some ab))
theorem FbT.calls (a0 : ByteArray) (r : List ByteArray) (w : World) (hG : Gm w) (h : FbT.f a0 = some r) :
  Calls Tryz.prog 147 #[.string a0] w fun e w' => ∃ v0_ : Value,e = .returned (v0_) ∧ Kd.R Kd.string 9 w' w.heap.size (fun _ => True) v0_ r ∧ Below w.heap.size w w' := by
 have HB := aM (Below.refl w.heap.size w);have HG := aM hG;clear hG;have H : ((FbF.f a0 (⟨#[32]⟩ : ByteArray)).bind fun aa => ((Fbj.f aa 0).bind fun ac => (some ac))) = some r := h;clear h;obtain ⟨aa,A2,H⟩ := bE_ H;obtain ⟨ac,A3,H⟩ := bE_ H;obtain rfl := oI H;go_enter Tryz.func147,Tryz.ntmps147;go_wp2_with (first|((with_reducible refine gate_callee (f := 185) rfl ?_);refine gl_ (some 4) Tryz.func185 #[.string a0,.string (⟨#[32]⟩ : ByteArray)] ?_;(with_reducible refine (FbF.calls a0 (⟨#[32]⟩ : ByteArray) aa _ ?side1 A2.out).mono ?_);(case side1 => exact Gm.below HG.out wB_);rintro e w4 ⟨v490,rfl,ho0,hb⟩;refine ⟨_,rfl,?_⟩;have ab := aM (Kd.R_lower ho0 (lZ wB_));replace HB := aM (lT wB_ hb);obtain ⟨ae,af,ag⟩ := Kd.R_slice ab.out;subst ag)|((with_reducible refine gate_callee (f := 106) rfl ?_);refine gl_ (some 5) Tryz.func106 #[.slice ae aa.length af,.func (.func 186) #[] #[]] ?_;(with_reducible refine (Fbj.calls (fun k_ => some k_ = (.slice ae aa.length af : Value).ownBlock) (.slice ae aa.length af) aa 0 ac w _ ?side1 ?side2 A3.out).mono ?_);(case side1 => repeat (first|(with_reducible first|exact HB.out|apply lA|apply lN|apply lD)|exact HB.out));(case side2 => exact Kd.R_tight rfl ab.out);rintro e w6 ⟨v493,rfl,ho0,hb,hkp⟩;refine ⟨_,rfl,?_⟩;have n0_ := aM (Kd.R_mono (ok' := fun k_ => True) ho0 (fun k_ hk_ => trivial));have n1_ := aM (hb);clear HB;clear ab;have ad := n0_;have HB := n1_;clear n0_ n1_));go_ret;exact ⟨_,vR_,wO_ ad.out,wB_⟩
def lowI (c : Int) : Int := if 65 ≤ c ∧ c ≤ 90 then c + 32 else c
def Fb8.f (a0 : ByteArray) : Option (ByteArray) := if a0.size ≤ 9223372036854775807 then some (strOfNums ((bytesOf a0).map lowI)) else none
def lowTo (xs : List Int) (k : Nat) : List Int := (xs.take k).map lowI ++ xs.drop k
theorem lowTo_length (xs : List Int) (k : Nat) (h : k ≤ xs.length) : (lowTo xs k).length = xs.length := by
 unfold lowTo;simp;omega
theorem lowTo_at (xs : List Int) (k : Nat) (h : k < xs.length) : (lowTo xs k).getD k 0 = xs.getD k 0 := by
 unfold lowTo;rw [List.getD_eq_getElem?_getD,List.getElem?_append_right (by simp;omega)];simp [List.getD_eq_getElem?_getD];rw [Nat.min_eq_left (by omega)];simp
theorem my_set_same (xs : List Int) (k : Nat) (h : k < xs.length) (c : Int) (hc : xs.getD k 0 = c) : xs.set k c = xs := by
 subst hc;simp [List.getD_eq_getElem?_getD,List.getElem?_eq_getElem h]
theorem lowTo_succ (xs : List Int) (k : Nat) (h : k < xs.length) : lowTo xs (k + 1) = (lowTo xs k).set k (lowI (xs.getD k 0)) := by
 unfold lowTo;have hl : ((xs.take k).map lowI).length = k := (by simp;omega);rw [List.set_append_right _ _ (by omega),hl,Nat.sub_self,List.drop_eq_getElem_cons h,sZ,List.take_succ_eq_append_getElem h,List.map_append];simp [List.getD_eq_getElem?_getD,List.getElem?_eq_getElem h]
theorem Fb8.calls (a0 : ByteArray) (r : ByteArray) (w : World) (h : Fb8.f a0 = some r) :
  Calls Tryz.prog 187 #[.string a0] w fun e w' => e = .returned (.string r) ∧ Below w.heap.size w w' := by
 unfold Fb8.f at h
 by_cases hs : a0.size ≤ 9223372036854775807
 ·rw [if_pos hs] at h;obtain rfl := oI h;have hcv := Lib.run_convert_string_bytes (P := Tryz.prog) w 9 63 5 a0 Tryz.underlying9 Tryz.underlying63 Tryz.underlying5
  have ab : BRow w (Lib.bytesWorld w 5 a0) w.heap.size (lowTo (bytesOf a0) 0) := by
   have := BRow.made w 5 a0;simpa [lowTo] using this
  generalize Lib.bytesWorld w 5 a0 = W1 at *;generalize grownCap w a0.size 0 5 = cap at *;have ad := aM ab;clear ab h;go_enter Tryz.func187,Tryz.ntmps187;go_wp2;go_loopw [4,5,10] (fun _ _ i wr => ∃ k : Nat,k ≤ a0.size ∧ i = .int .i64 k ∧ BRow w wr w.heap.size (lowTo (bytesOf a0) k)) (fun _ _ i _ => a0.size - (intOf i).toNat)
  case atStart => exact ⟨0,Nat.zero_le _,rfl,ad.out⟩
  case round =>
   obtain ⟨k,hk,rfl,HB⟩ := hrel;have hl := lowTo_length (bytesOf a0) k (by rw [bytesOf_length];exact hk);rw [bytesOf_length] at hl
   by_cases hlt : k < a0.size
   ·have hc := HB.cell k (by omega);have hf := HB.free k (by omega);have hg := lowTo_at (bytesOf a0) k (by rw [bytesOf_length];exact hlt);rw [hg] at hc;have hS := lowTo_succ (bytesOf a0) k (by rw [bytesOf_length];exact hlt)
    have hr : 0 ≤ (bytesOf a0).getD k 0 ∧ (bytesOf a0).getD k 0 ≤ 255 := by
     have := rd_bytesOf a0 k;simp only [rd,Int.toNat_natCast] at this;rw [this];exact bt_range _ _
    generalize (bytesOf a0).getD k 0 = c at *;obtain ⟨r0,r1⟩ := hr
    by_cases hu : 65 ≤ c ∧ c ≤ 90
    ·obtain ⟨u0,u1⟩ := hu;have hi : Fbr.f c = some true := (by unfold Fbr.f;simp [u0,u1]);have HS := aM hS;have aa := aM HB;have HG := aM hg;clear hS HB hg;go_wp2_with (go_at_call 229;(with_reducible refine (Fbr.calls c true _ hi).mono ?_);rintro e w' ⟨rfl,⟨nd,rfl⟩⟩);go_roundw
     case measure => simp [intOf];omega
     case rel =>
      refine ⟨k + 1,by omega,by go_num,?_⟩;rw [HS.out];have hv : lowI c = c + 97 - 65 := (by unfold lowI;rw [if_pos ⟨u0,u1⟩];omega);rw [hv];exact (aa.out.drewN nd).set k _
    ·have hi : Fbr.f c = some false := by
      unfold Fbr.f
      by_cases ac : c ≥ 65
      ·rw [if_pos ac];simp;omega
      ·rw [if_neg ac]
     have HS := aM hS;have aa := aM HB;have HG := aM hg;clear hS HB hg;go_wp2_with (go_at_call 229;(with_reducible refine (Fbr.calls c false _ hi).mono ?_);rintro e w' ⟨rfl,⟨nd,rfl⟩⟩);go_roundw
     case measure => simp [intOf];omega
     case rel =>
      refine ⟨k + 1,by omega,by go_num,?_⟩;rw [HS.out];have hv : lowI c = c := (by unfold lowI;rw [if_neg hu]);rw [hv];rw [my_set_same _ _ (by omega) _ HG.out];exact (aa.out.drewN nd)
   ·have hk' : k = a0.size := (by omega);subst hk';have ht := HB.text 63 5 9 Tryz.underlying63 Tryz.underlying5 Tryz.underlying9 a0.size cap hl;have hb := HB.below;clear HB
    have hx : lowTo (bytesOf a0) a0.size = (bytesOf a0).map lowI := by
     unfold lowTo;rw [List.take_of_length_le (by rw [bytesOf_length];omega),List.drop_of_length_le (by rw [bytesOf_length];omega),List.append_nil]
    rw [hx] at ht;clear hx;go_wp2;go_ret;exact ⟨rfl,hb⟩
 ·rw [if_neg hs] at h;cases h
def Fbs.f (a0 : List ByteArray) (a1 : ByteArray) : Option ByteArray := if a0.length ≤ 140737488355328 ∧ (Lib.join (a0.map (·.data.toList)) a1.data.toList).length ≤ 140737488355328 then some ⟨(Lib.join (a0.map (·.data.toList)) a1.data.toList).toArray⟩ else none
theorem Fbs.calls (A0 : Option Addr) (c0 : Nat) (l0 : List ByteArray) (a1 : ByteArray) (r : ByteArray) (w : World) (hr0 : Kd.C Kd.string w A0 l0.length l0) (hc0 : l0.length ≤ c0) (h : Fbs.f l0 a1 = some r) :
  Calls Tryz.prog 188 #[.slice A0 l0.length c0,.string a1] w fun e w' => e = .returned (.string r) ∧ Below w.heap.size w w' := by
 unfold Fbs.f at h
 by_cases hs : l0.length ≤ 140737488355328 ∧ (Lib.join (l0.map (·.data.toList)) a1.data.toList).length ≤ 140737488355328
 ·rw [if_pos hs] at h;obtain rfl := oI h
  cases l0 with
  | nil =>
   refine (Tryz.strings_Join_none A0 c0 a1 w).mono ?_;rintro e w' ⟨rfl,rfl⟩;exact ⟨rfl,Below.refl _ _⟩
  | cons x xs =>
   obtain ⟨_,_,aa⟩ := hr0;obtain ⟨⟨b,o,s⟩,rfl,hc⟩ := aa (by rw [List.length_cons];omega);clear aa
   have hcell : ∀ (j : Nat) y,(x :: xs)[j]? = some y → w.cell? (Addr.add ⟨b,o,s⟩ j) = some (.string y) := by
    intro j y hj;obtain ⟨c,_,hk,hcc⟩ := hc j y hj;have := hcc 0 (.string y) (by rw [show c = [.string y] from hk];rfl);simpa [show Kd.string.sz = 1 from rfl] using this
   have h0 := hcell 0 x rfl
   have hsp : s = none := by
    cases s with
    | none => rfl
    | some v =>
     simp only [Addr.add] at h0;unfold World.cell? at h0;split at h0
     ·simp at h0
     ·cases h0
   subst hsp;have hb : b < w.heap.size := wB w ⟨b,o,none⟩ (by simpa [Addr.add] using h0);refine Tryz.strings_Join b o c0 (x :: xs) a1 w (fun j y hj => ?_) hb hs.1 hc0 hs.2;have := hcell j y hj;unfold Addr.add at this
   by_cases e : j = 0
   ·subst e;simpa using this
   ·rw [if_neg e] at this;exact this
 ·rw [if_neg hs] at h;cases h
def keepB (c : Int) : Bool := decide ((97 ≤ c ∧ c ≤ 122) ∨ (48 ≤ c ∧ c ≤ 57) ∨ c = 32)
theorem Fcd : (Tryz.prog.info? 5).map (fun i => (i.zero,i.size,i.bytes)) = some (some (.int .u8 0),1,1) := by kernel_rfl
def FbR.f (a0 : ByteArray) : Option (ByteArray) := (Fb8.f a0).bind fun t => if t.size < 140737488355328 then (FbT.f (strOfNums ((bytesOf t).filter keepB))).bind fun ws => Fbs.f ws ⟨#[32]⟩ else none
theorem Fb9 {w W W' : World} {g : Nat} {xs : List Int} {row : Option Nat} (h : BRow w W g xs) (hg : W.grownBy W' row) (hne : some g ≠ row) (hb : Below w.heap.size w W') (hl : 0 < xs.length) : BRow w W' g xs := by
 have hlt : g < W.heap.size := wB W ⟨g,0,none⟩ (h.cell 0 hl);have he := hg.block g hlt hne;refine ⟨hb,h.new,fun j hj => ?_,fun j hj => ?_⟩
 ·rw [← h.cell j hj];unfold World.cell?;rw [he]
 ·rw [← h.free j hj];unfold World.frozen?;rw [he]
theorem Fch (xs : List Int) (i : Nat) (h : i < xs.length) : (xs.take (i + 1)).filter keepB = (xs.take i).filter keepB ++ (if keepB (xs.getD i 0) = true then [xs.getD i 0] else []) := by
 rw [List.take_succ_eq_append_getElem h,List.filter_append];congr 1;have e : xs.getD i 0 = xs[i] := (by simp [List.getD_eq_getElem?_getD,List.getElem?_eq_getElem h]);rw [e];cases hk : keepB xs[i] <;> simp [hk]
theorem FbR.calls (a0 : ByteArray) (r : ByteArray) (w : World) (hG : Gm w) (h : FbR.f a0 = some r) :
  Calls Tryz.prog 148 #[.string a0] w fun e w' => e = .returned (.string r) ∧ Below w.heap.size w w' := by
 unfold FbR.f at h;obtain ⟨t,hA,h⟩ := oB.1 h
 by_cases hs : t.size < 140737488355328
 case neg => rw [if_neg hs] at h;cases h
 rw [if_pos hs] at h;obtain ⟨ws,hW,hJ⟩ := oB.1 h;clear h;have A1 := aM hA;have A2 := aM hW;have A3 := aM hJ;have HS := aM hs;have HG := aM hG;have HB := aM (Below.refl w.heap.size w);clear hA hW hJ hs hG;have hcv : ∀ W : World,(convert 9 63 (.string t)).run Tryz.prog W = .ok (.slice (some ⟨W.heap.size,0,none⟩) t.size (grownCap W t.size 0 5)) (Lib.bytesWorld W 5 t) := fun W => Lib.run_convert_string_bytes (P := Tryz.prog) W 9 63 5 t Tryz.underlying9 Tryz.underlying63 Tryz.underlying5;go_enter Tryz.func148,Tryz.ntmps148
 go_wp2_with (first
  | ((with_reducible refine gate_dst (N := 6) rfl ?_);refine Kd.R_lit (Kd.int .u8) _ 5 ?hg (N := 6) ?hd (xs := ([] : List Int)) (inner := []) (ok := fun _ => True) (okp := fun _ => True) ?hr ?hp (fun _ hk => hk) trivial (Below.refl _ _) (Nat.le_refl _) (by simp) ?_;(case hd => rfl);(case hg => rfl);(case hr => first|(go_simp;done)|(go_simp;rfl));(case hp => exact (Reps.none _ _));intro v2 w2 af hb hg_ hnew_;clear hg_ hnew_;have HO := aM (Kd.R_lower af (lZ wB_));have n1_ := aM (lT wB_ hb);clear HB;have HB := n1_;clear n1_;clear hb af)
  | (go_at_call 187;(with_reducible refine (Fb8.calls a0 t _ A1.out).mono ?_);rintro e w5 ⟨rfl,hb⟩;have n0_ := aM (rB (wO_ HO.out) hb);have n1_ := aM (lT wB_ hb);clear HO HB;have HO := n0_;have HB := n1_;clear n0_ n1_;clear hb))
 have HR := aM (show BRow w (Lib.bytesWorld w5 5 t) w5.heap.size (bytesOf t) from ⟨lT HB.out (BRow.made w5 5 t).below,lZ HB.out,(BRow.made w5 5 t).cell,(BRow.made w5 5 t).free⟩);have ag := aM (rB (Kd.R_elderB HO.out w5.heap.size (Nat.le_refl _)) (BRow.made w5 5 t).below);clear HO HB hcv;generalize Lib.bytesWorld w5 5 t = W1 at *;generalize grownCap w5 t.size 0 5 = cap at *;generalize w5.heap.size = g at *;go_loopg [3,5,11] t.size (fun gg v3 v5 ak wr => ∃ i : Nat,ak = .int .i64 (i : Int) ∧ Aside0 (i + gg = t.size) ∧ Aside0 (Kd.R (Kd.int .u8) 5 wr w.heap.size (fun k_ => True ∧ k_ ≠ g) v3 (((bytesOf t).take i).filter keepB)) ∧ Aside0 (BRow w wr g (bytesOf t)))
 case atStart => exact ⟨0,rfl,⟨by omega⟩,⟨by rw [List.take_zero,List.filter_nil];exact ag.out⟩,HR⟩
 case round =>
  clear HR ag;obtain ⟨i,rfl,HI,ab,aa⟩ := hrel;have HB := aM aa.out.below
  cases gk with
  | zero =>
   obtain rfl : i = t.size := (by have := HI.out;omega);have c1 : decide ((t.size : Int) < (t.size : Int)) = false := dF (by omega);have ac := aM (show Kd.R (Kd.int .u8) 5 wr w.heap.size (fun k_ => True ∧ k_ ≠ g) u3 ((bytesOf t).filter keepB) from by have h_ := ab.out;rwa [List.take_of_length_le (by rw [bytesOf_length];exact Nat.le_refl _)] at h_);clear ab aa;obtain ⟨Ao,co,eo⟩ := Kd.R_slice ac.out;subst eo;have hcv16 := own_string (P := Tryz.prog) Tryz.underlying63 Tryz.underlying5 Tryz.underlying9 (Kd.own_of_R ac.out)
   go_wp2_with (first
    | (go_at_call 147;(with_reducible refine (FbT.calls _ ws _ ?side1 A2.out).mono ?_);(case side1 => exact Gm.below HG.out wB_);rintro e w8 ⟨v9,rfl,ho,hb⟩;obtain ⟨Ao9,co9,al⟩ := Kd.R_slice ho;subst al;have HW := aM ho;have n1_ := aM (lT wB_ hb);clear HB;have HB := n1_;clear n1_;clear hb ho)
    | (go_at_call 188;(refine (Fbs.calls _ _ ws ⟨#[32]⟩ r _ ?side1 ?side2 A3.out).mono ?_);(case side1 => (with_reducible repeat (first|refine cA ?_ _|refine cN ?_ _|refine cD ?_));exact (rR HW.out).2.2);(case side2 => exact (rR HW.out).2.1);rintro e w10 ⟨rfl,hb⟩;have n1_ := aM (lT wB_ hb);clear HB;have HB := n1_;clear n1_;clear hb))
   go_ret;exact ⟨rfl,wB_⟩
  | succ gk =>
   have HLT := aM (show i < t.size by have := HI.out;omega);have c1 : decide ((i : Int) < (t.size : Int)) = true := dT (by have := HLT.out;omega);have c1b : decide (i < t.size) = true := dT HLT.out;have p1 : (0 ≤ (i : Int)) = True := eq_true (by omega);have q1 : ((i : Int) < (t.size : Int)) = True := eq_true (by have := HLT.out;omega);have q2 : (i < t.size) = True := eq_true HLT.out;have HPOS := aM (show 0 < (bytesOf t).length by rw [bytesOf_length];have := HLT.out;omega);have hcell := aa.out.cell i (by rw [bytesOf_length];exact HLT.out);have HGL := aM (wB wr ⟨g,i,none⟩ hcell);have HT := aM (Fch (bytesOf t) i (by rw [bytesOf_length];exact HLT.out))
   have HLL := aM (show (((bytesOf t).take i).filter keepB).length + 1 ≤ 140737488355328 by
    have h1 := List.length_filter_le keepB ((bytesOf t).take i);rw [xT] at h1;have := HS.out;have := HLT.out;omega)
   have hc0 : 0 ≤ (bytesOf t).getD i 0 ∧ (bytesOf t).getD i 0 ≤ 255 := by
    have := rd_bytesOf t i;simp only [rd,Int.toNat_natCast] at this;rw [this];exact bt_range _ _
   generalize (bytesOf t).getD i 0 = c at *
   by_cases hl : 97 ≤ c ∧ c ≤ 122
   ·have HL := aM (show Fbg.f c = some true by unfold Fbg.f;simp [hl.1,hl.2]);rw [if_pos (by unfold keepB;simp [hl.1,hl.2])] at HT
    go_wp2_with (first
     | (go_at_call 153;(with_reducible refine (Fbg.calls c true _ HL.out).mono ?_);rintro e w' ⟨rfl,⟨nd,rfl⟩⟩)
     | ((with_reducible refine gate_builtin (b := .append) (xs := #[.tmp 25,.tmp 27]) rfl ?_);at_builtin;refine Kd.R_append (Kd.int .u8) (w0 := w) w.heap.size rfl (.tmp 25) (.tmp 27) 63 5 (.int .u8 0) 1 rfl Tryz.underlying63 Fcd rfl (by decide) (by omega) u3 (((bytesOf t).take i).filter keepB) c [.int .u8 c] (fun k_ => True ∧ k_ ≠ g) (fun _ => False) rfl rfl ?aP (fun _ hk => hk.elim) ?aF ?aO ?aB ?aS ?aL ?_;(case aP => exact rfl);(case aB => exact wB_);(case aF => exact (fun k_ hk => ⟨trivial,fun e_ => by have := HGL.out;simp at hk;omega⟩));(case aO => exact (wO_ ab.out));(case aS => exact (lZ wB_));(case aL => have := HLL.out;omega);intro ah ai ho hb hg hat;have ac := aM ho;have ad := aM (Fb9 (by first|exact aa.out|exact aa.out.drewN _|exact (aa.out.drewN _).drewN _) hg (fun e_ => (ab.out.1 g e_.symm).2 rfl) hb HPOS.out);clear ho hb hg hat))
    go_roundg gk
    case measure => omega
    case rel =>
     have hw : wrap64 ((i : Int) + 1) = ((i + 1 : Nat) : Int) := (by have := HS.out;have := HLT.out;unfold wrap64;omega);exact ⟨i + 1,by rw [hw],⟨by have := HI.out;omega⟩,⟨by rw [HT.out];exact ac.out⟩,ad⟩
   ·have HL := aM (show Fbg.f c = some false by
     unfold Fbg.f
     by_cases h : c ≥ 97
     ·rw [if_pos h];simp;omega
     ·rw [if_neg h])
    by_cases hd : 48 ≤ c ∧ c ≤ 57
    ·have HD := aM (show FbE.f c = some true by unfold FbE.f;simp [hd.1,hd.2]);rw [if_pos (by unfold keepB;simp [hd.1,hd.2])] at HT
     go_wp2_with (first
      | (go_at_call 153;(with_reducible refine (Fbg.calls c false _ HL.out).mono ?_);rintro e w' ⟨rfl,⟨nd,rfl⟩⟩)
      | (go_at_call 154;(with_reducible refine (FbE.calls c true _ HD.out).mono ?_);rintro e w' ⟨rfl,⟨aj,rfl⟩⟩)
      | ((with_reducible refine gate_builtin (b := .append) (xs := #[.tmp 25,.tmp 27]) rfl ?_);at_builtin;refine Kd.R_append (Kd.int .u8) (w0 := w) w.heap.size rfl (.tmp 25) (.tmp 27) 63 5 (.int .u8 0) 1 rfl Tryz.underlying63 Fcd rfl (by decide) (by omega) u3 (((bytesOf t).take i).filter keepB) c [.int .u8 c] (fun k_ => True ∧ k_ ≠ g) (fun _ => False) rfl rfl ?aP (fun _ hk => hk.elim) ?aF ?aO ?aB ?aS ?aL ?_;(case aP => exact rfl);(case aB => exact wB_);(case aF => exact (fun k_ hk => ⟨trivial,fun e_ => by have := HGL.out;simp at hk;omega⟩));(case aO => exact (wO_ ab.out));(case aS => exact (lZ wB_));(case aL => have := HLL.out;omega);intro ah ai ho hb hg hat;have ac := aM ho;have ad := aM (Fb9 (by first|exact aa.out|exact aa.out.drewN _|exact (aa.out.drewN _).drewN _) hg (fun e_ => (ab.out.1 g e_.symm).2 rfl) hb HPOS.out);clear ho hb hg hat))
     go_roundg gk
     case measure => omega
     case rel =>
      have hw : wrap64 ((i : Int) + 1) = ((i + 1 : Nat) : Int) := (by have := HS.out;have := HLT.out;unfold wrap64;omega);exact ⟨i + 1,by rw [hw],⟨by have := HI.out;omega⟩,⟨by rw [HT.out];exact ac.out⟩,ad⟩
    ·have HD := aM (show FbE.f c = some false by
      unfold FbE.f
      by_cases h : c ≥ 48
      ·rw [if_pos h];simp;omega
      ·rw [if_neg h])
     by_cases ae : c = 32
     ·have am : (c == 32) = true := (by simp [ae]);rw [if_pos (by unfold keepB;simp [ae])] at HT;clear ae
      go_wp2_with (first
       | (go_at_call 153;(with_reducible refine (Fbg.calls c false _ HL.out).mono ?_);rintro e w' ⟨rfl,⟨nd,rfl⟩⟩)
       | (go_at_call 154;(with_reducible refine (FbE.calls c false _ HD.out).mono ?_);rintro e w' ⟨rfl,⟨aj,rfl⟩⟩)
       | ((with_reducible refine gate_builtin (b := .append) (xs := #[.tmp 25,.tmp 27]) rfl ?_);at_builtin;refine Kd.R_append (Kd.int .u8) (w0 := w) w.heap.size rfl (.tmp 25) (.tmp 27) 63 5 (.int .u8 0) 1 rfl Tryz.underlying63 Fcd rfl (by decide) (by omega) u3 (((bytesOf t).take i).filter keepB) c [.int .u8 c] (fun k_ => True ∧ k_ ≠ g) (fun _ => False) rfl rfl ?aP (fun _ hk => hk.elim) ?aF ?aO ?aB ?aS ?aL ?_;(case aP => exact rfl);(case aB => exact wB_);(case aF => exact (fun k_ hk => ⟨trivial,fun e_ => by have := HGL.out;simp at hk;omega⟩));(case aO => exact (wO_ ab.out));(case aS => exact (lZ wB_));(case aL => have := HLL.out;omega);intro ah ai ho hb hg hat;have ac := aM ho;have ad := aM (Fb9 (by first|exact aa.out|exact aa.out.drewN _|exact (aa.out.drewN _).drewN _) hg (fun e_ => (ab.out.1 g e_.symm).2 rfl) hb HPOS.out);clear ho hb hg hat))
      go_roundg gk
      case measure => omega
      case rel =>
       have hw : wrap64 ((i : Int) + 1) = ((i + 1 : Nat) : Int) := (by have := HS.out;have := HLT.out;unfold wrap64;omega);exact ⟨i + 1,by rw [hw],⟨by have := HI.out;omega⟩,⟨by rw [HT.out];exact ac.out⟩,ad⟩
     ·have am : (c == 32) = false := (by simp [ae]);rw [if_neg (by unfold keepB;simp;omega)] at HT;clear ae
      go_wp2_with (first
       | (go_at_call 153;(with_reducible refine (Fbg.calls c false _ HL.out).mono ?_);rintro e w' ⟨rfl,⟨nd,rfl⟩⟩)
       | (go_at_call 154;(with_reducible refine (FbE.calls c false _ HD.out).mono ?_);rintro e w' ⟨rfl,⟨aj,rfl⟩⟩))
      go_roundg gk
      case measure => omega
      case rel =>
       have hw : wrap64 ((i : Int) + 1) = ((i + 1 : Nat) : Int) := (by have := HS.out;have := HLT.out;unfold wrap64;omega);exact ⟨i + 1,by rw [hw],⟨by have := HI.out;omega⟩,⟨by rw [HT.out,List.append_nil];(with_reducible repeat (first|apply rA|apply rN|apply rD));exact ab.out⟩,⟨by first|exact aa.out|exact aa.out.drewN _|exact (aa.out.drewN _).drewN _⟩⟩
def FbP.f (a0 : ByteArray) : Option (Bool) := some (a0.toList == ([] : List UInt8))
theorem FbP.calls (a0 : ByteArray) (r : Bool) (w : World) (h : FbP.f a0 = some r) :
  Calls Tryz.prog 275 #[.string a0] w fun e w' => e = .returned (.bool r) ∧ Drawn0 w w' := by
 have H : (some (a0.toList == ([] : List UInt8))) = some r := h;clear h;obtain rfl := oI H;go_enter Tryz.func275,Tryz.ntmps275;go_wp2;go_ret;exact ⟨vR_,dw_⟩
def Fap.l0 : Nat → List ByteArray → Int → Int → Option (Int)
 | 0,_,_,_ => none
 | k + 1,x0,x7,x8 => if x8 < x7 then (if 0 ≤ x8 then (if x8 < (x0.length : Int) then ((FbP.f (rdOf ByteArray.empty x0 x8)).bind fun aa => (if aa = true then (some x8) else (Fap.l0 k x0 x7 (wrap64 (x8 + 1))))) else (none)) else (none)) else (some (-1))
def Fap.f (k : Nat) (l0 : List ByteArray) (a1 : Int) : Option (Int) := Fap.l0 k l0 (l0.length : Int) 0
theorem Fap.mono_l : ∀ k,(∀ y0 y1 y2,LeO (Fap.l0 k y0 y1 y2) (Fap.l0 (k + 1) y0 y1 y2))
 | 0 => fun _ _ _ r h => by simp [Fap.l0] at h
 | k + 1 => by
  have ih0 := Fap.mono_l k
  ·intro y0 y1 y2
   unfold Fap.l0
   repeat' (first|with_reducible (first|exact ih0 _ _ _|exact LeO.refl _|exact LeO.none _|refine LeO.ite ?_ ?_|refine LeO.bind ?_ (fun _ => ?_))|exact LeO.none _|refine LeO.ite ?_ ?_|refine LeO.bind ?_ (fun _ => ?_))
theorem Fap.mono : ∀ a0 a1 k,LeO (Fap.f k a0 a1) (Fap.f (k + 1) a0 a1) := by
 intro a0 a1 k
 have ih0 := Fap.mono_l k
 unfold Fap.f
 repeat' (first|with_reducible (first|exact ih0 _ _ _|exact LeO.refl _|exact LeO.none _|refine LeO.ite ?_ ?_|refine LeO.bind ?_ (fun _ => ?_))|exact LeO.none _|refine LeO.ite ?_ ?_|refine LeO.bind ?_ (fun _ => ?_))
theorem Fap.calls (k : Nat) (A0 : Option Addr) (c0 : Nat) (l0 : List ByteArray) (a1 : Int) (r : Int) (w : World) (hr0 : Kd.C Kd.string w A0 l0.length l0) (hc0 : l0.length ≤ c0) (h : Fap.f k l0 a1 = some r) :
  Calls Tryz.prog 152 #[.slice A0 l0.length c0,.func (.func 275) #[] #[]] w fun e w' => e = .returned (.int .i64 r) ∧ Drawn0 w w' := by
 have HR0 := aM hr0;have HC0 := aM hc0;clear hr0 hc0;have H : (Fap.l0 k l0 (l0.length : Int) 0) = some r := h;clear h;have H' := aM H;clear H;go_enter Tryz.func152,Tryz.ntmps152;go_wp2;go_loopg [8] k (fun kq v8 w' => ∃ (aa : Int),v8 = .int .i64 aa ∧ Aside0 (Fap.l0 kq l0 (l0.length : Int) aa = some r) ∧ Aside0 (kq ≤ k) ∧ Drawn0 w w')
 case atStart => exact ⟨(0),vR_,H',⟨Nat.le_refl _⟩,dw_⟩
 case round =>
  clear H';obtain ⟨aa,rfl,HA,ad,⟨m1,rfl⟩⟩ := hrel
  cases gk with
  | zero => exact absurd HA.out (by simp [Fap.l0])
  | succ k1 =>
   have H := HA.out;clear HA;simp only [Fap.l0] at H
   by_cases c3 : aa < (l0.length : Int)
   focus
    rw [if_pos c3] at H;have ab := dT c3;clear c3
    by_cases c4 : 0 ≤ aa
    rotate_left;rw [if_neg c4] at H;exact nH_ H;rw [if_pos c4] at H;have c4b0 := dT c4;clear c4
    by_cases c5 : aa < (l0.length : Int)
    rotate_left;rw [if_neg c5] at H;exact nH_ H;rw [if_pos c5] at H;have c5b0 := dT c5;clear c5;obtain ⟨ac,A6,H⟩ := bE_ H
    by_cases c7 : ac = true
    focus
     subst c7;rw [if_pos rfl] at H;obtain rfl := oI H
    rotate_left
    focus
     replace c7 := qO.mpr c7;subst c7;rw [if_neg qT] at H;have H' := aM H;clear H
   rotate_left 2
   focus
    rw [if_neg c3] at H;have ab := dF c3;clear c3;obtain rfl := oI H
   all_goals
    (try (have p01 : 0 ≤ (aa : Int) := oD (by assumption);have q01 : aa < (l0.length : Int) := oD (by assumption);obtain ⟨ad01,e01,hx01_0⟩ := Kd.at_string HR0.out aa p01 q01;cases e01;replace p01 := eq_true p01;replace q01 := eq_true q01));go_wp2_with (first|(go_at_call 275;(with_reducible refine (FbP.calls _ _ _ A6.out).mono ?_);rintro e w' ⟨rfl,⟨nd,rfl⟩⟩))
    first
     |
      go_ret;exact ⟨vR_,dw_⟩
     |
      go_roundg k1
      case measure => have := ad.out;omega
      case rel => exact ⟨(wrap64 (aa + 1)),vR_,H',⟨by have := ad.out;omega⟩,dw_⟩
def FbX : Go.Shelf.Ren := ⟨fun|6 => 152|10 => 106|n => n,fun|22 => 50|23 => 9|25 => 136|3 => 3|4 => 4|n => n,fun n => n⟩
theorem FbY : SlLaysH.n10 Tryz.prog FbX := {
 mixed := by kernel_rfl
 f6 := ⟨Tryz.f152.name,by decide,Tryz.func152.trans (congrArg some (by kernel_rfl))⟩
 f10 := ⟨Tryz.f106.name,by decide,Tryz.func106.trans (congrArg some (by kernel_rfl))⟩
 t0 := Tryz.underlying0
 a0 := Tryz.isAgg0
 z0 := Tryz.sizeOf0
 v0 := Tryz.zeroValue0
 t3 := Tryz.underlying3
 a3 := Tryz.isAgg3
 z3 := Tryz.sizeOf3
 v3 := Tryz.zeroValue3
 t4 := Tryz.underlying4
 a4 := Tryz.isAgg4
 z4 := Tryz.sizeOf4
 v4 := Tryz.zeroValue4
 t22 := Tryz.underlying50
 a22 := Tryz.isAgg50
 z22 := Tryz.sizeOf50
 v22 := Tryz.zeroValue50
 a23 := Tryz.isAgg9
 z23 := Tryz.sizeOf9
 t25 := Tryz.underlying136
 a25 := Tryz.isAgg136
 z25 := Tryz.sizeOf136
 v25 := Tryz.zeroValue136 }
theorem Fb6 {w : World} {base : Nat} {ok : Nat → Prop} {l : List ByteArray} {inner : List Value} (hr : Reps (Kd.string.M w base ok) Kd.string.sz l inner) : inner = l.map Value.string := by
 obtain ⟨hl,h⟩ := hr;have hl' : inner.length = l.length := hl.trans (Nat.mul_one _);apply List.ext_getElem?;intro j
 by_cases hj : j < l.length
 ·have h2 : (inner.drop (j * 1)).take 1 = [Value.string l[j]] := h j l[j] (List.getElem?_eq_getElem hj);rw [Nat.mul_one] at h2;have h3 : ((inner.drop j).take 1)[0]? = some (Value.string l[j]) := (by rw [h2];rfl);rw [List.getElem?_take_of_lt (by omega),List.getElem?_drop,Nat.add_zero] at h3;rw [h3];simp [hj]
 ·rw [List.getElem?_eq_none (by omega),List.getElem?_eq_none (by simp;omega)]
theorem FbU {w : World} {base : Nat} {ok : Nat → Prop} (l : List ByteArray) : Reps (Kd.string.M w base ok) Kd.string.sz l (l.map Value.string) := by
 refine ⟨by show (l.map Value.string).length = l.length * 1;simp,fun j p hj => ?_⟩;show ((l.map Value.string).drop (j * 1)).take 1 = [Value.string p];obtain ⟨hjl,hp⟩ := List.getElem?_eq_some_iff.1 hj;rw [Nat.mul_one,← List.map_drop,List.drop_eq_getElem_cons hjl,hp];rfl
theorem Fca (p : ByteArray → Bool) (hp : ∀ (W : World) (x : ByteArray),Calls Tryz.prog 275 #[.string x] W fun e w' => e = .returned (.bool (p x)) ∧ ∃ q,w' = W.drewN q)
  (g cap : Nat) (cur : Array Value) (l : List ByteArray) (w : World) (base : Nat) (hbase : base ≤ g) (hb : w.heap[g]? = some (.cells cur 9 (0,0))) (h1 : l.length ≤ cap) (h2 : cap ≤ maxLen) (h3 : cur.size = cap * 1) (h4 : cur.toList.take (l.length * 1) = l.map Value.string) :
  Calls Tryz.prog 106 #[.slice (some ⟨g,0,none⟩) l.length cap,.func (.func 275) #[] #[]] w fun e w' => e = .returned (.slice (some ⟨g,0,none⟩) (l.filter fun x => !p x).length cap) ∧ w'.ownsRow base 9 1 (.slice (some ⟨g,0,none⟩) (l.filter fun x => !p x).length cap) (l.filter fun x => !p x).length ((l.filter fun x => !p x).map Value.string) ∧ w.grownBy w' (some g) := by
 have enc_eq : ∀ x : ByteArray,encStr x.data.toList = .string x := fun x => (by cases x;rfl);have eg : ∀ args w,(callFunc 275 args).run Tryz.prog w = .ok (.enter 275 args) w := enters_of Tryz.func275 (by kernel_rfl) rfl
 have hmap : (l.map fun x => x.data.toList).map encStr = l.map Value.string := by
  rw [List.map_map];exact List.map_congr_left fun x _ => enc_eq x
 have hlen : (l.map fun x => x.data.toList).length = l.length := (by simp)
 have hfil : ((l.map fun x => x.data.toList).filter fun x => !p ⟨x.toArray⟩) = (l.filter fun x => !p x).map fun x => x.data.toList := by
  rw [List.filter_map];rfl
 have hcon := AnyE.slices_DeleteFunc FbY encStr (fun _ => rfl) (fun u => p ⟨u.toArray⟩) 275 #[] eg [] Tryz.zeroValue9 g 0 cap (l.map fun x => x.data.toList).toArray w
  (fun W x _ => hp W ⟨x.toArray⟩) (fun n os dk x _ => hp _ ⟨x.toArray⟩) (holds_of_block hb (by rw [hlen,hmap];simpa using h4)) (by simp [maxLen] at h2;simp;omega) (by simpa using h1)
 have hsz : (l.map fun x => x.data.toList).toArray.size = l.length := (by simp);rw [hsz] at hcon;rw [show ((l.map fun x => x.data.toList).toArray.toList.filter fun x => !p ⟨x.toArray⟩) = (l.filter fun x => !p x).map fun x => x.data.toList from hfil] at hcon;have hfl : (l.filter fun x => !p x).length ≤ l.length := List.length_filter_le _ _;generalize l.filter (fun x => !p x) = fl at *;rw [List.length_map] at hcon;refine hcon.mono ?_;rintro e w' ⟨he,q,rfl⟩;have hgr : ∀ W : World,Go.Sort.grow W #[] = W := fun W => (by unfold Go.Sort.grow;simp);generalize hts : (fl.map fun x => x.data.toList) ++ List.replicate (l.length - fl.length) [] = ts;have htl : ts.length = (l.map fun x => x.data.toList).length := (by rw [← hts];simp;omega);have full := ownsRow_sorted (n := q) (os := #[]) (e := 9) htl hbase hb (by rw [hlen];exact h1) h2 h3;have gr := grownBy_sorted (w := w) (g := g) (n := q) (os := #[]) ts.toArray;rw [hgr] at full gr;refine ⟨he,?_,gr⟩;rcases full.2 with ⟨h0,_⟩|⟨g',cap',cur',hv,hb',hh',hn',hm',hs',ht'⟩
 ·cases h0
 ·cases hv;refine ⟨by simp,.inr ⟨g,cap,cur',rfl,hb',hh',by omega,hm',hs',?_⟩⟩;rw [hlen] at ht';have h5 := congrArg (List.take fl.length) ht'
  have h6 : List.take fl.length ((fl.map fun x => x.data.toList).map encStr) = fl.map Value.string := by
   rw [List.map_map,List.take_of_length_le (by simp)];exact List.map_congr_left fun x _ => enc_eq x
  rw [List.take_take,Nat.min_eq_left (by omega),← hts,List.map_append,List.take_append_of_le_length (by simp),h6] at h5;rw [Nat.mul_one];exact h5
def Fbk.f (l0 : List ByteArray) (a1 : Int) : Option (List ByteArray) := some (l0.filter fun x => !((FbP.f x).getD false))
theorem Fbk.calls (ab : Nat → Prop) (aa : Value) (l0 : List ByteArray) (a1 : Int) (r0 : List ByteArray) (w0 w : World) (hB : Below w0.heap.size w0 w) (ho0 : Kd.R Kd.string 9 w w0.heap.size ab aa l0) (h : Fbk.f l0 a1 = some r0) :
  Calls Tryz.prog 106 #[aa,.func (.func 275) #[] #[]] w fun e w' => ∃ v0_ : Value,e = .returned (v0_) ∧ Kd.R Kd.string 9 w' w0.heap.size (fun k_ => (ab k_ ∨ w.heap.size ≤ k_)) v0_ r0 ∧ Below w0.heap.size w0 w' ∧ Kept w w' (fun k_ => ab k_) := by
 obtain rfl := oI h
 have hp : ∀ (W : World) (x : ByteArray),Calls Tryz.prog 275 #[.string x] W fun e w' => e = .returned (.bool ((FbP.f x).getD false)) ∧ ∃ q,w' = W.drewN q := fun W x =>
  (FbP.calls x _ W rfl).mono fun e w' ⟨he,hd⟩ => ⟨he,hd.out⟩
 obtain ⟨h0,inner,hown,hr⟩ := ho0;obtain rfl := Fb6 hr;have hl := hown;rcases hown.2 with ⟨rfl,hn0⟩|⟨g,cap,cur,rfl,hbb,hb,hn,hm,hsz,hcur⟩
 ·obtain rfl : l0 = [] := List.length_eq_zero_iff.1 hn0;have hI := AnyE.slices_IndexFunc_empty (P := Tryz.prog) (ρ := FbX) { FbY with } none 0 (.func (.func 275) #[] #[]) w;change Calls Tryz.prog 152 _ _ _ at hI;have H := aM hI;clear hI;go_enter Tryz.func106,Tryz.ntmps106;go_wp2_with (first|(go_at_call 152;(refine (H.out).mono ?_);rintro e w' ⟨rfl,rfl⟩));go_ret;exact ⟨_,rfl,⟨fun k hk => .inl (h0 k hk),_,hl,FbU _⟩,hB,Kept.refl _ _⟩
 ·refine (Fca (fun x => (FbP.f x).getD false) hp g cap cur l0 w w0.heap.size hbb hb hn hm hsz hcur).mono ?_;rintro e w' ⟨rfl,ho,hg⟩;refine ⟨_,rfl,⟨fun k hk => ?_,_,ho,FbU _⟩,?_,?_⟩
  ·exact .inl (h0 k hk)
  ·exact hB.grown hg hB.size (fun k hk => own_base hl k hk)
  ·exact Kept.of_grown hg (Kept.refl w _) (fun k hk => .inl (h0 k hk))
def Fb0.f (l0 : List ByteArray) : Option (ByteArray) := (Fbk.f l0 0).bind fun aa => ((Fbs.f aa (⟨#[32]⟩ : ByteArray)).bind fun ab => (some ab))
theorem Fb0.calls (ad : Nat → Prop) (ab : Value) (l0 : List ByteArray) (r : ByteArray) (w0 w : World) (hB : Below w0.heap.size w0 w) (ho0 : Kd.R Kd.string 9 w w0.heap.size ad ab l0) (h : Fb0.f l0 = some r) :
  Calls Tryz.prog 262 #[ab] w fun e w' => e = .returned (.string r) ∧ Below w0.heap.size w0 w' ∧ Kept w w' (fun k_ => ad k_) := by
 have HO0 := aM (show Kd.R Kd.string 9 w w0.heap.size (fun k_ => (ad k_ ∨ w.heap.size ≤ k_)) ab l0 from Kd.R_mono ho0 (fun k_ hk => (.inl hk)));have HK := aM (Kept.refl w (fun k_ => ad k_));have HW0 := aM hB.size;have HB := aM hB;clear hB;have H : ((Fbk.f l0 0).bind fun ac => ((Fbs.f ac (⟨#[32]⟩ : ByteArray)).bind fun ae => (some ae))) = some r := h;clear h;obtain ⟨ac,A2,H⟩ := bE_ H;obtain ⟨ae,A3,H⟩ := bE_ H;obtain rfl := oI H;obtain ⟨af,ag,ai⟩ := Kd.R_slice HO0.out;subst ai;go_enter Tryz.func262,Tryz.ntmps262;go_wp2_with (first|((with_reducible refine gate_callee (f := 106) rfl ?_);refine gl_ (some 4) Tryz.func106 #[.slice af l0.length ag,.func (.func 275) #[] #[]] ?_;(with_reducible refine (Fbk.calls (fun k_ => some k_ = (.slice af l0.length ag : Value).ownBlock) (.slice af l0.length ag) l0 0 ac w0 _ ?side1 ?side2 A2.out).mono ?_);(case side1 => repeat (first|(with_reducible first|exact HB.out|apply lA|apply lN|apply lD)|exact HB.out));(case side2 => exact Kd.R_tight rfl HO0.out);rintro e w5 ⟨v498,rfl,ho0,hb,hkp⟩;refine ⟨_,rfl,?_⟩;have n0_ := aM (Kd.R_mono (ok' := fun k_ => (ad k_ ∨ w.heap.size ≤ k_)) ho0 (fun k_ hk_ => Or.elim hk_ (fun hs_ => (HO0.out.1 k_ (hs_).symm)) (fun hn_ => (.inr (Nat.le_trans (by first|exact HK.out.1|exact (show Kept w _ (fun k_ => ad k_) from by repeat (first|(with_reducible first|exact HK.out|apply Kept.alloc|apply Kept.drewN|apply Kept.drew)|exact HK.out)).1) hn_)))));have n1_ := aM (Kept.then_ (S := (fun k_ => ad k_)) (by repeat (first|(with_reducible first|exact HK.out|apply Kept.alloc|apply Kept.drewN|apply Kept.drew)|exact HK.out)) hkp (fun k_ hs_ => (fun e_ => (HO0.out.1 k_ e_.symm)) hs_));have ah := aM (hb);clear HK;clear HB;clear HO0;have aa := n0_;have HK := n1_;have HB := ah;clear n0_ n1_ ah;obtain ⟨aj,ak,al⟩ := Kd.R_slice aa.out;subst al)|((with_reducible refine gate_callee (f := 188) rfl ?_);refine gl_ (some 5) Tryz.func188 #[.slice aj ac.length ak,.string (⟨#[32]⟩ : ByteArray)] ?_;(with_reducible refine (Fbs.calls _ _ ac (⟨#[32]⟩ : ByteArray) ae _ ?side1 ?side2 A3.out).mono ?_);(case side1 => exact wY_ (rR aa.out).2.2);(case side2 => exact (rR aa.out).2.1);rintro e w7 ⟨rfl,hb⟩;refine ⟨_,rfl,?_⟩;replace aa := aM (rB (wO_ aa.out) hb);replace HK := aM (Kept.below (S := (fun k_ => ad k_)) (by repeat (first|(with_reducible first|exact HK.out|apply Kept.alloc|apply Kept.drewN|apply Kept.drew)|exact HK.out)) hb);replace HB := aM (lT wB_ hb)));go_ret;exact ⟨vR_,wB_,by repeat (first|(with_reducible first|exact HK.out|apply Kept.alloc|apply Kept.drewN|apply Kept.drew)|exact HK.out)⟩
end Go.Proofs.YtmafmhgmdegplaaGreatDoor.P
