-- Written by xprint (this session's program over the kit's print).
import Derived.Test.YtjmfkhjhhohnkaaQ7
namespace Go.Proofs.Ytjmfkhjhhohnkaa.Q
open Go.RowKit Go.Proofs.YtjmfkhjhhohnkaaW.PrintWords Go.Proofs.YtjmfkhjhhohnkaaW.PrintLast
/-- The one pure statement of laws_FnExactStateAt. -/
def laws_FnExactStateAt.PureF : Prop := ∀ (a0_0 : ByteArray) (l0_1 : List (S104)) (a1 : Int), (a0_0.size ≤ 9223372036854775807) → ((∀ x ∈ l0_1, ((Lit.int .i64 x.f0).wf = true) ∧ (x.f1.size ≤ 9223372036854775807)) ∧ l0_1.length ≤ 9223372036854775807) → ((Lit.int .i64 a1).wf = true) → ∃ k, laws_FnExactStateAt.f k a0_0 l0_1 a1 = some true
end Go.Proofs.Ytjmfkhjhhohnkaa.Q
