-- Written by xprint (this session's program over the kit's print).
import Derived.Test.YtifkdlcalkccaaaQ16
namespace Go.Proofs.Ytifkdlcalkccaaa.Q
open Go.RowKit Go.Proofs.YtifkdlcalkccaaaW.PrintWords Go.Proofs.YtifkdlcalkccaaaW.PrintLast
/-- The one pure statement of laws_FnExactStorePut. -/
def laws_FnExactStorePut.PureF : Prop := ∀ (l0 : List (S69)) (a1 : ByteArray) (a2 : ByteArray), ((∀ x ∈ l0, (x.f0.size ≤ 9223372036854775807) ∧ (x.f1.size ≤ 9223372036854775807)) ∧ l0.length ≤ 9223372036854775807) → (a1.size ≤ 140737488351232) → (a2.size ≤ 140737488351232) → ∃ k, laws_FnExactStorePut.f k l0 a1 a2 = some true
end Go.Proofs.Ytifkdlcalkccaaa.Q
