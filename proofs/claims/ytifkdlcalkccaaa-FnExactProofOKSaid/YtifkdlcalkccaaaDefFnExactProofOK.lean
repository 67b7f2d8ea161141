-- Written by xprint (this session's program over the kit's print).
import Derived.Test.YtifkdlcalkccaaaQ6
namespace Go.Proofs.Ytifkdlcalkccaaa.Q
open Go.RowKit Go.Proofs.YtifkdlcalkccaaaW.PrintWords Go.Proofs.YtifkdlcalkccaaaW.PrintLast
/-- The one pure statement of laws_FnExactProofOK. -/
def laws_FnExactProofOK.PureF : Prop := ∀ (a0_0 : Bool) (a0_1 : ByteArray) (a0_2 : ByteArray) (l0_3 : List ByteArray), (a0_1.size ≤ 9223372036854775807) → (a0_2.size ≤ 9223372036854775807) → ((∀ x ∈ l0_3, x.size ≤ 9223372036854775807) ∧ l0_3.length ≤ 9223372036854775807) → ∃ k, laws_FnExactProofOK.f k a0_0 a0_1 a0_2 l0_3 = some true
end Go.Proofs.Ytifkdlcalkccaaa.Q
