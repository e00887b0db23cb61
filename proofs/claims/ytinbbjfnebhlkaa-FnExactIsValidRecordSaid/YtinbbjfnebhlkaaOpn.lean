/- What is read at each struct type of this seat's arguments: a value of its kind, within the bounds that every row's reach gives. No conditions. -/
import Derived.Test.YtinbbjfnebhlkaaLOpen
namespace Go.Proofs.Ytinbbjfnebhlkaa.P
open Go.RowKit Go.Proofs.YtinbbjfnebhlkaaW.PrintWords Go.Proofs.YtinbbjfnebhlkaaW.PrintLast Go.Proofs.YtinbbjfnebhlkaaW.PrintMore
set_option maxRecDepth 100000
theorem opn_k23 : Opn Try.prog 23 k23 B23 :=
  opn_iso (fun x : S23 => (x.f0, x.f1)) (fun x => (⟨x.1, x.2⟩ : S23)) (fun _ => rfl) (opn_struct (n := 2) Try.underlying23 (by kernel_rfl) (opnFs_cons rfl (by decide) (by kernel_rfl) (opn_string Try.underlying9) (opnFs_one rfl (by kernel_rfl) (by kernel_rfl) (opn_string Try.underlying9))))
end Go.Proofs.Ytinbbjfnebhlkaa.P
