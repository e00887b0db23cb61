/- Strings and their rows of bytes. No conditions beyond each lemma's own. -/
import Derived.Test.YtmkkcpdpfelalaaGreatDoorZPx0
namespace Go.Proofs.YtmkkcpdpfelalaaGreatDoor.P
open Go.RowKit Go.Proofs.YtmkkcpdpfelalaaGreatDoorW.PrintWords Go.Proofs.YtmkkcpdpfelalaaGreatDoorW.PrintLast Go.Proofs.YtmkkcpdpfelalaaGreatDoorW.PrintMore
set_option linter.unusedVariables false
set_option linter.unusedSimpArgs false
def ofL (l : List UInt8) : ByteArray := ⟨l.toArray⟩
theorem toL_ofL (l : List UInt8) : (ofL l).data.toList = l := rfl
theorem ofL_toL (s : ByteArray) : ofL s.data.toList = s := rfl
theorem ofL_size (l : List UInt8) : (ofL l).size = l.length := rfl
theorem bytes_eq {a b : ByteArray} (h : a.data.toList = b.data.toList) : a = b := by rw [← ofL_toL a, ← ofL_toL b, h]
theorem toL_append (a b : ByteArray) : (a ++ b).data.toList = a.data.toList ++ b.data.toList := by
 rw [ByteArray.data_append, Array.toList_append]
theorem ofL_append (a b : List UInt8) : ofL a ++ ofL b = ofL (a ++ b) := bytes_eq (by rw [toL_append]; rfl)
theorem toL_inj {a b : ByteArray} : a.data.toList = b.data.toList ↔ a = b := ⟨bytes_eq, fun h => by rw [h]⟩
theorem toList_inj {a b : ByteArray} : a.toList = b.toList ↔ a = b := by
 rw [Go.ByteArray.toList_eq, Go.ByteArray.toList_eq]
 exact toL_inj
end Go.Proofs.YtmkkcpdpfelalaaGreatDoor.P
