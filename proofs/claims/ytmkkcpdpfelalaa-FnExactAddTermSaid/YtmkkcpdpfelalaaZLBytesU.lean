/- Bytes of a string as numbers and back. No conditions beyond each lemma's own. -/
import Derived.Lib.Strings
import Derived.Test.YtmkkcpdpfelalaaZPx0
namespace Go.Proofs.Ytmkkcpdpfelalaa.P
open Go.RowKit Go.Proofs.YtmkkcpdpfelalaaW.PrintWords Go.Proofs.YtmkkcpdpfelalaaW.PrintLast Go.Proofs.YtmkkcpdpfelalaaW.PrintMore
set_option linter.unusedVariables false
set_option linter.unusedSimpArgs false
theorem toL_cut (s : ByteArray) (a b : Nat) : (s.extract a b).data.toList = (s.data.toList.drop a).take (b - a) := by
 rw [Lib.extract_data]
theorem toL_cut0 (s : ByteArray) (b : Nat) : (s.extract 0 b).data.toList = s.data.toList.take b := by
 rw [toL_cut, List.drop_zero, Nat.sub_zero]
theorem toL_cutE (s : ByteArray) (a : Nat) : (s.extract a s.size).data.toList = s.data.toList.drop a := by
 rw [toL_cut]
 exact List.take_of_length_le (by rw [List.length_drop, data_length]; omega)
theorem toL_same {a b : ByteArray} (h : a.data.toList = b.data.toList) : a = b := by
 cases a; cases b
 congr 1
 exact Array.toList_inj.1 h
end Go.Proofs.Ytmkkcpdpfelalaa.P
