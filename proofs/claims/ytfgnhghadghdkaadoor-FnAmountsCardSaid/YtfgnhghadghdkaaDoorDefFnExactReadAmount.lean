-- Written by xprint (this session's program over the kit's print).
import Derived.Test.YtfgnhghadghdkaaDoorQ3
namespace Go.Proofs.YtfgnhghadghdkaaDoor.Q
open Go.RowKit Go.Proofs.YtfgnhghadghdkaaDoorW.PrintWords Go.Proofs.YtfgnhghadghdkaaDoorW.PrintLast
/-- The one pure statement of laws_FnExactReadAmount. -/
def laws_FnExactReadAmount.PureF : Prop := ∀ (a0 : ByteArray), (a0.size ≤ 140737488351232) → ∃ k, laws_FnExactReadAmount.f k a0 = some true
end Go.Proofs.YtfgnhghadghdkaaDoor.Q
