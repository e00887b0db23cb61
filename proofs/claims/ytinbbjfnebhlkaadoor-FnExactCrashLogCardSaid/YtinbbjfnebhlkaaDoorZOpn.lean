/- What is read at each struct type of this seat's arguments: a value of its kind, within the bounds that every row's reach gives. No conditions. -/
import Derived.Test.YtinbbjfnebhlkaaDoorZLOpen
namespace Go.Proofs.YtinbbjfnebhlkaaDoor.P
open Go.RowKit Go.Proofs.YtinbbjfnebhlkaaDoorW.PrintWords Go.Proofs.YtinbbjfnebhlkaaDoorW.PrintLast Go.Proofs.YtinbbjfnebhlkaaDoorW.PrintMore
set_option maxRecDepth 100000
theorem opn_k36 : Opn Tryd.prog 36 k36 B36 :=
 opn_iso (fun x : S36 => (x.f0, x.f1, x.f2)) (fun x => (⟨x.1, x.2.1, x.2.2⟩ : S36)) (fun _ => rfl) (opn_struct (n := 3) Tryd.underlying36 (by kernel_rfl) (opnFs_cons rfl (by decide) (by kernel_rfl) (opn_string Tryd.underlying9) (opnFs_cons rfl (by decide) (by kernel_rfl) (opn_string Tryd.underlying9) (opnFs_one rfl (by kernel_rfl) (by kernel_rfl) (opn_int Tryd.underlying3)))))
end Go.Proofs.YtinbbjfnebhlkaaDoor.P
