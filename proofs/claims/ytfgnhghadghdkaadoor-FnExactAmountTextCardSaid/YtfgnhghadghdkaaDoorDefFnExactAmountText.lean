-- Written by xprint (this session's program over the kit's print).
import Derived.Test.YtfgnhghadghdkaaDoorA2
namespace Go.Proofs.YtfgnhghadghdkaaDoor.A
open Go.RowKit Go.Proofs.YtfgnhghadghdkaaDoorW.PrintWords Go.Proofs.YtfgnhghadghdkaaDoorW.PrintLast
/-- The one pure statement of laws_FnExactAmountText. -/
def laws_FnExactAmountText.PureF : Prop := ∀ (a0 : Int), ((Lit.int .i64 a0).wf = true) → ∃ k, laws_FnExactAmountText.f k a0 = some true
end Go.Proofs.YtfgnhghadghdkaaDoor.A
