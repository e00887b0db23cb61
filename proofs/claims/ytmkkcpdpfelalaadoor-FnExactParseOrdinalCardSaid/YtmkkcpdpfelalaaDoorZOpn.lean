/- What is read at each struct type of this seat's arguments: a value of its kind, within the bounds that every row's reach gives. No conditions. -/
import Derived.Test.YtmkkcpdpfelalaaDoorZLOpen
namespace Go.Proofs.YtmkkcpdpfelalaaDoor.P
open Go.RowKit Go.Proofs.YtmkkcpdpfelalaaDoorW.PrintWords Go.Proofs.YtmkkcpdpfelalaaDoorW.PrintLast Go.Proofs.YtmkkcpdpfelalaaDoorW.PrintMore
set_option maxRecDepth 100000
theorem opn_k95 : Opn Tryd.prog 95 k95 B95 :=
 opn_iso (fun x : S95 => (x.f0, x.f1, x.f2)) (fun x => (⟨x.1, x.2.1, x.2.2⟩ : S95)) (fun _ => rfl) (opn_struct (n := 3) Tryd.underlying95 (by kernel_rfl) (opnFs_cons rfl (by decide) (by kernel_rfl) (opn_string Tryd.underlying9) (opnFs_cons rfl (by decide) (by kernel_rfl) (opn_string Tryd.underlying9) (opnFs_one rfl (by kernel_rfl) (by kernel_rfl) (opn_string Tryd.underlying9)))))
theorem opn_k97 : Opn Tryd.prog 97 k97 B97 :=
 opn_iso (fun x : S97 => (x.f0, x.f1, x.f2)) (fun x => (⟨x.1, x.2.1, x.2.2⟩ : S97)) (fun _ => rfl) (opn_struct (n := 3) Tryd.underlying97 (by kernel_rfl) (opnFs_cons rfl (by decide) (by kernel_rfl) (opn_int Tryd.underlying3) (opnFs_cons rfl (by decide) (by kernel_rfl) (opn_int Tryd.underlying3) (opnFs_one rfl (by kernel_rfl) (by kernel_rfl) (opn_string Tryd.underlying9)))))
theorem opn_k25 : Opn Tryd.prog 25 k25 B25 :=
 opn_iso (fun x : S25 => (x.f0, x.f1, x.f2, x.f3, x.f4)) (fun x => (⟨x.1, x.2.1, x.2.2.1, x.2.2.2.1, x.2.2.2.2⟩ : S25)) (fun _ => rfl) (opn_struct (n := 5) Tryd.underlying25 (by kernel_rfl) (opnFs_cons rfl (by decide) (by kernel_rfl) (opn_string Tryd.underlying9) (opnFs_cons rfl (by decide) (by kernel_rfl) (opn_slice (bytes := 48) Tryd.underlying22 (by kernel_rfl) (by kernel_rfl) opn_k95) (opnFs_cons rfl (by decide) (by kernel_rfl) (opn_slice (bytes := 32) Tryd.underlying23 (by kernel_rfl) (by kernel_rfl) opn_k97) (opnFs_cons rfl (by decide) (by kernel_rfl) (opn_string Tryd.underlying9) (opnFs_one rfl (by kernel_rfl) (by kernel_rfl) (opn_string Tryd.underlying9)))))))
end Go.Proofs.YtmkkcpdpfelalaaDoor.P
