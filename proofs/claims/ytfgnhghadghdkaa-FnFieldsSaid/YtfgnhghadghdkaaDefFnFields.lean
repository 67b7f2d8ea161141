-- Written by xprint (this session's program over the kit's print).
import Derived.Test.YtfgnhghadghdkaaGE17
namespace Go.Proofs.Ytfgnhghadghdkaa.G
open Go.RowKit Go.Proofs.YtfgnhghadghdkaaW.PrintWords Go.Proofs.YtfgnhghadghdkaaW.PrintLast
/-- The one pure statement of laws_FnFields. -/
def laws_FnFields.PureF : Prop := ∀ (l0 : List Int) (l1 : List Int), ((∀ x ∈ l0, (Lit.int .u8 x).wf = true) ∧ l0.length ≤ 9223372036854775807) → ((∀ x ∈ l1, (Lit.int .u8 x).wf = true) ∧ l1.length ≤ 9223372036854775807) → ∃ k, laws_FnFields.f k l0 l1 = some true
end Go.Proofs.Ytfgnhghadghdkaa.G
