-- Written by xprint (this session's program over the kit's print).
import Derived.Test.YtjmfkhjhhohnkaaQ4
namespace Go.Proofs.Ytjmfkhjhhohnkaa.Q
open Go.RowKit Go.Proofs.YtjmfkhjhhohnkaaW.PrintWords Go.Proofs.YtjmfkhjhhohnkaaW.PrintLast
/-- The one pure statement of laws_FnExactHeaderHash. -/
def laws_FnExactHeaderHash.PureF : Prop := ∀ (a0_0 : Int) (a0_1 : Int) (a0_2 : ByteArray) (a0_3 : ByteArray), ((Lit.int .i64 a0_0).wf = true) → ((Lit.int .i64 a0_1).wf = true) → (a0_2.size ≤ 9223372036854775807) → (a0_3.size ≤ 9223372036854775807) → ∃ k, laws_FnExactHeaderHash.f k a0_0 a0_1 a0_2 a0_3 = some true
end Go.Proofs.Ytjmfkhjhhohnkaa.Q
