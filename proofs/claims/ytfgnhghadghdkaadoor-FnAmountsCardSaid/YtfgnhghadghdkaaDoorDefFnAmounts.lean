-- Written by xprint (this session's program over the kit's print).
import Derived.Test.YtfgnhghadghdkaaDoorQ4
namespace Go.Proofs.YtfgnhghadghdkaaDoor.Q
open Go.RowKit Go.Proofs.YtfgnhghadghdkaaDoorW.PrintWords Go.Proofs.YtfgnhghadghdkaaDoorW.PrintLast
/-- The one pure statement of laws_FnAmounts. -/
def laws_FnAmounts.PureF : Prop := ∀ (l0 : List Int) (l1 : List Int), ((∀ x ∈ l0, (Lit.int .u8 x).wf = true) ∧ l0.length ≤ 9223372036854775807) → ((∀ x ∈ l1, (Lit.int .u8 x).wf = true) ∧ l1.length ≤ 9223372036854775807) → ∃ k, laws_FnAmounts.f k l0 l1 = some true
end Go.Proofs.YtfgnhghadghdkaaDoor.Q
