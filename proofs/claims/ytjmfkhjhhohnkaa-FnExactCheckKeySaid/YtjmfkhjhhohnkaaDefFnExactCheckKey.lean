-- Written by xprint (this session's program over the kit's print).
import Derived.Test.YtjmfkhjhhohnkaaQ6
namespace Go.Proofs.Ytjmfkhjhhohnkaa.Q
open Go.RowKit Go.Proofs.YtjmfkhjhhohnkaaW.PrintWords Go.Proofs.YtjmfkhjhhohnkaaW.PrintLast
/-- The one pure statement of laws_FnExactCheckKey. -/
def laws_FnExactCheckKey.PureF : Prop := ∀ (a0 : ByteArray) (a1 : ByteArray) (a2_0 : Bool) (a2_1 : ByteArray) (a2_2 : ByteArray) (l2_3 : List ByteArray), (a0.size ≤ 140737488351232) → (a1.size ≤ 140737488351232) → (a2_1.size ≤ 9223372036854775807) → (a2_2.size ≤ 9223372036854775807) → ((∀ x ∈ l2_3, x.size ≤ 9223372036854775807) ∧ l2_3.length ≤ 9223372036854775807) → ∃ k, laws_FnExactCheckKey.f k a0 a1 a2_0 a2_1 a2_2 l2_3 = some true
end Go.Proofs.Ytjmfkhjhhohnkaa.Q
