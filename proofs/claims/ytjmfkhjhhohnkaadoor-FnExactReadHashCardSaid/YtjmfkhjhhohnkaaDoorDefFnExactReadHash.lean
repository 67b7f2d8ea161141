-- Written by xprint (this session's program over the kit's print).
import Derived.Test.YtjmfkhjhhohnkaaDoorQ3
namespace Go.Proofs.YtjmfkhjhhohnkaaDoor.Q
open Go.RowKit Go.Proofs.YtjmfkhjhhohnkaaDoorW.PrintWords Go.Proofs.YtjmfkhjhhohnkaaDoorW.PrintLast
/-- The one pure statement of laws_FnExactReadHash. -/
def laws_FnExactReadHash.PureF : Prop := ∀ (a0 : ByteArray), (a0.size ≤ 140737488351232) → ∃ k, laws_FnExactReadHash.f k a0 = some true
end Go.Proofs.YtjmfkhjhhohnkaaDoor.Q
