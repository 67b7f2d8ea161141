-- Written by xprint (this session's program over the kit's print).
import Derived.Test.YtifkdlcalkccaaaSE17
namespace Go.Proofs.Ytifkdlcalkccaaa.S
open Go.RowKit Go.Proofs.YtifkdlcalkccaaaW.PrintWords Go.Proofs.YtifkdlcalkccaaaW.PrintLast
/-- The one pure statement of laws_FnStore. -/
def laws_FnStore.PureF : Prop := ∀ (l0 : List Int) (l1 : List Int), ((∀ x ∈ l0, (Lit.int .u8 x).wf = true) ∧ l0.length ≤ 9223372036854775807) → ((∀ x ∈ l1, (Lit.int .u8 x).wf = true) ∧ l1.length ≤ 9223372036854775807) → ∃ k, laws_FnStore.f k l0 l1 = some true
end Go.Proofs.Ytifkdlcalkccaaa.S
