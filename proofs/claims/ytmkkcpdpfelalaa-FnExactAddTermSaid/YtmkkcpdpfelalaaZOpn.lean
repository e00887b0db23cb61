/- What is read at each struct type of this seat's arguments: a value of its kind, within the bounds that every row's reach gives. No conditions. -/
import Derived.Test.YtmkkcpdpfelalaaZLOpen
namespace Go.Proofs.Ytmkkcpdpfelalaa.P
open Go.RowKit Go.Proofs.YtmkkcpdpfelalaaW.PrintWords Go.Proofs.YtmkkcpdpfelalaaW.PrintLast Go.Proofs.YtmkkcpdpfelalaaW.PrintMore
set_option maxRecDepth 100000
theorem opn_k57 : Opn Try.prog 57 k57 B57 :=
 opn_iso (fun x : S57 => (x.f0, x.f1, x.f2)) (fun x => (⟨x.1, x.2.1, x.2.2⟩ : S57)) (fun _ => rfl) (opn_struct (n := 3) Try.underlying57 (by kernel_rfl) (opnFs_cons rfl (by decide) (by kernel_rfl) (opn_string Try.underlying9) (opnFs_cons rfl (by decide) (by kernel_rfl) (opn_string Try.underlying9) (opnFs_one rfl (by kernel_rfl) (by kernel_rfl) (opn_string Try.underlying9)))))
theorem opn_k91 : Opn Try.prog 91 k91 B91 :=
 opn_iso (fun x : S91 => (x.f0, x.f1, x.f2)) (fun x => (⟨x.1, x.2.1, x.2.2⟩ : S91)) (fun _ => rfl) (opn_struct (n := 3) Try.underlying91 (by kernel_rfl) (opnFs_cons rfl (by decide) (by kernel_rfl) (opn_int Try.underlying3) (opnFs_cons rfl (by decide) (by kernel_rfl) (opn_int Try.underlying3) (opnFs_one rfl (by kernel_rfl) (by kernel_rfl) (opn_string Try.underlying9)))))
theorem opn_k25 : Opn Try.prog 25 k25 B25 :=
 opn_iso (fun x : S25 => (x.f0, x.f1, x.f2, x.f3, x.f4)) (fun x => (⟨x.1, x.2.1, x.2.2.1, x.2.2.2.1, x.2.2.2.2⟩ : S25)) (fun _ => rfl) (opn_struct (n := 5) Try.underlying25 (by kernel_rfl) (opnFs_cons rfl (by decide) (by kernel_rfl) (opn_string Try.underlying9) (opnFs_cons rfl (by decide) (by kernel_rfl) (opn_slice (bytes := 48) Try.underlying22 (by kernel_rfl) (by kernel_rfl) opn_k57) (opnFs_cons rfl (by decide) (by kernel_rfl) (opn_slice (bytes := 32) Try.underlying23 (by kernel_rfl) (by kernel_rfl) opn_k91) (opnFs_cons rfl (by decide) (by kernel_rfl) (opn_string Try.underlying9) (opnFs_one rfl (by kernel_rfl) (by kernel_rfl) (opn_string Try.underlying9)))))))
end Go.Proofs.Ytmkkcpdpfelalaa.P
