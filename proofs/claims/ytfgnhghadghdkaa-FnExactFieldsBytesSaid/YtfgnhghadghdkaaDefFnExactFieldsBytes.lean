-- Written by xprint (this session's program over the kit's print).
import Derived.Test.YtfgnhghadghdkaaFE15
namespace Go.Proofs.Ytfgnhghadghdkaa.F
open Go.RowKit Go.Proofs.YtfgnhghadghdkaaW.PrintWords Go.Proofs.YtfgnhghadghdkaaW.PrintLast
/-- The one pure statement of laws_FnExactFieldsBytes. -/
def laws_FnExactFieldsBytes.PureF : Prop := ∀ (l0 : List ByteArray), ((∀ x ∈ l0, x.size ≤ 9223372036854775807) ∧ l0.length ≤ 9223372036854775807) → ∃ k, laws_FnExactFieldsBytes.f k l0 = some true
end Go.Proofs.Ytfgnhghadghdkaa.F
