-- Written by xprint (this session's program over the kit's print).
import Derived.Test.YtifkdlcalkccaaaQ4
namespace Go.Proofs.Ytifkdlcalkccaaa.Q
open Go.RowKit Go.Proofs.YtifkdlcalkccaaaW.PrintWords Go.Proofs.YtifkdlcalkccaaaW.PrintLast
/-- The one pure statement of laws_FnExactStoreOK. -/
def laws_FnExactStoreOK.PureF : Prop := ∀ (l0 : List (S69)), ((∀ x ∈ l0, (x.f0.size ≤ 9223372036854775807) ∧ (x.f1.size ≤ 9223372036854775807)) ∧ l0.length ≤ 9223372036854775807) → ∃ k, laws_FnExactStoreOK.f k l0 = some true
end Go.Proofs.Ytifkdlcalkccaaa.Q
