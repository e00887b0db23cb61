/- What is read at each struct type of this seat's arguments: a value of its kind, within the bounds that every row's reach gives. No conditions. -/
import Derived.Test.YtmafmhgmdegplaaGreatDoorZLOpen
namespace Go.Proofs.YtmafmhgmdegplaaGreatDoor.P
open Go.RowKit Go.Proofs.YtmafmhgmdegplaaGreatDoorW.PrintWords Go.Proofs.YtmafmhgmdegplaaGreatDoorW.PrintLast Go.Proofs.YtmafmhgmdegplaaGreatDoorW.PrintMore
set_option maxRecDepth 100000
theorem opn_k24 : Opn Tryz.prog 24 k24 B24 := by
 refine opn_of fun m => ?_
 induction m with
 | zero => exact OpnU.zero
 | succ m ih =>
  intro H enc W fuel cs x p hf ht hw
  obtain ⟨a, hK, hB⟩ := (opn_structU (n := 4) Tryz.underlying24 (by kernel_rfl) (opnFs_consU rfl (by decide) (by kernel_rfl) ((opn_int Tryz.underlying3).u m) (opnFs_consU rfl (by decide) (by kernel_rfl) ((opn_string Tryz.underlying9).u m) (opnFs_consU rfl (by decide) (by kernel_rfl) ((opn_string Tryz.underlying9).u m) (opnFs_oneU rfl (by kernel_rfl) (by kernel_rfl) ((opn_sliceU (bytes := 64) Tryz.underlying22 (by kernel_rfl) (by kernel_rfl) ih).le (Nat.le_succ m))))))) H enc W fuel cs x p hf ht hw
  obtain ⟨_, _, rfl, rfl, ⟨_, _, rfl, rfl, ⟨_, _, rfl, rfl, ⟨A3, c3, rfl, hc3, hr3⟩⟩⟩⟩ := hK
  exact ⟨⟨a.1, a.2.1, a.2.2.1, a.2.2.2⟩, k24_mk W ⟨a.1, a.2.1, a.2.2.1, a.2.2.2⟩ hc3 hr3, B24.mk ⟨a.1, a.2.1, a.2.2.1, a.2.2.2⟩ (hB.1) (hB.2.1) (hB.2.2.1) (hB.2.2.2).1 (hB.2.2.2).2.1 (hB.2.2.2).2.2⟩
theorem opn_k152 : Opn Tryz.prog 152 k152 B152 :=
 opn_iso (fun x : S152 => (x.f0, x.f1, x.f2, x.f3)) (fun x => (⟨x.1, x.2.1, x.2.2.1, x.2.2.2⟩ : S152)) (fun _ => rfl) (opn_struct (n := 4) Tryz.underlying152 (by kernel_rfl) (opnFs_cons rfl (by decide) (by kernel_rfl) (opn_slice (bytes := 16) Tryz.underlying50 (by kernel_rfl) (by kernel_rfl) (opn_string Tryz.underlying9)) (opnFs_cons rfl (by decide) (by kernel_rfl) (opn_string Tryz.underlying9) (opnFs_cons rfl (by decide) (by kernel_rfl) (opn_string Tryz.underlying9) (opnFs_one rfl (by kernel_rfl) (by kernel_rfl) (opn_string Tryz.underlying9))))))
theorem opn_k27 : Opn Tryz.prog 27 k27 B27 :=
 opn_iso (fun x : S27 => (x.f0, x.f1, x.f2, x.f3)) (fun x => (⟨x.1, x.2.1, x.2.2.1, x.2.2.2⟩ : S27)) (fun _ => rfl) (opn_struct (n := 4) Tryz.underlying27 (by kernel_rfl) (opnFs_cons rfl (by decide) (by kernel_rfl) (opn_int Tryz.underlying3) (opnFs_cons rfl (by decide) (by kernel_rfl) (opn_int Tryz.underlying3) (opnFs_cons rfl (by decide) (by kernel_rfl) (opn_int Tryz.underlying3) (opnFs_one rfl (by kernel_rfl) (by kernel_rfl) (opn_bool Tryz.underlying4))))))
theorem opn_k29 : Opn Tryz.prog 29 k29 B29 :=
 opn_iso (fun x : S29 => (x.f0, x.f1, x.f2, x.f3, x.f4, x.f5, x.f6, x.f7, x.f8, x.f9, x.f10)) (fun x => (⟨x.1, x.2.1, x.2.2.1, x.2.2.2.1, x.2.2.2.2.1, x.2.2.2.2.2.1, x.2.2.2.2.2.2.1, x.2.2.2.2.2.2.2.1, x.2.2.2.2.2.2.2.2.1, x.2.2.2.2.2.2.2.2.2.1, x.2.2.2.2.2.2.2.2.2.2⟩ : S29)) (fun _ => rfl) (opn_struct (n := 14) Tryz.underlying29 (by kernel_rfl) (opnFs_cons rfl (by decide) (by kernel_rfl) (opn_string Tryz.underlying9) (opnFs_cons rfl (by decide) (by kernel_rfl) (opn_int Tryz.underlying3) (opnFs_cons rfl (by decide) (by kernel_rfl) (opn_slice (bytes := 72) Tryz.underlying25 (by kernel_rfl) (by kernel_rfl) opn_k152) (opnFs_cons rfl (by decide) (by kernel_rfl) (opn_slice (bytes := 72) Tryz.underlying25 (by kernel_rfl) (by kernel_rfl) opn_k152) (opnFs_cons rfl (by decide) (by kernel_rfl) (opn_string Tryz.underlying9) (opnFs_cons rfl (by decide) (by kernel_rfl) (opn_string Tryz.underlying9) (opnFs_cons rfl (by decide) (by kernel_rfl) (opn_string Tryz.underlying9) (opnFs_cons rfl (by decide) (by kernel_rfl) opn_k27 (opnFs_cons rfl (by decide) (by kernel_rfl) (opn_int Tryz.underlying3) (opnFs_cons rfl (by decide) (by kernel_rfl) (opn_string Tryz.underlying9) (opnFs_one rfl (by kernel_rfl) (by kernel_rfl) (opn_string Tryz.underlying9)))))))))))))
theorem opn_k48 : Opn Tryz.prog 48 k48 B48 :=
 opn_iso (fun x : S48 => (x.f0)) (fun x => (⟨x⟩ : S48)) (fun _ => rfl) (opn_struct (n := 1) Tryz.underlying48 (by kernel_rfl) (opnFs_one rfl (by kernel_rfl) (by kernel_rfl) (opn_slice (bytes := 192) Tryz.underlying46 (by kernel_rfl) (by kernel_rfl) opn_k29)))
end Go.Proofs.YtmafmhgmdegplaaGreatDoor.P
