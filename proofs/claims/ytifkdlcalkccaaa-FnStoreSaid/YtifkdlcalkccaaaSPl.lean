/- What the laws' own functions over pairs compute: sizes, copies, comparison, marks. -/
import Derived.Test.YtifkdlcalkccaaaS10
import Derived.Lib.Strings
import Derived.WideShapes
namespace Go.Proofs.Ytifkdlcalkccaaa.Pure
open Go.RowKit Go.Proofs.Ytifkdlcalkccaaa.S Go.Proofs.YtifkdlcalkccaaaW.PrintWords Go.Proofs.YtifkdlcalkccaaaW.PrintLast
set_option linter.unusedVariables false

theorem list_inj {a b : ByteArray} (h : a.toList = b.toList) : a = b := Go.WideShapes.bytes_inj (by rw [← Lib.toList_data, ← Lib.toList_data]; exact h)
theorem list_iff {a b : ByteArray} : a.toList = b.toList ↔ a = b := ⟨list_inj, fun h => by rw [h]⟩
theorem up64 {i n : Nat} (h : i < n) (hn : n ≤ 9223372036854775807) : wrap64 ((i : Int) + 1) = ((i + 1 : Nat) : Int) := by unfold wrap64; omega
end Go.Proofs.Ytifkdlcalkccaaa.Pure
