-- Written by xprint (this session's program over the kit's print).
import Derived.Test.YtjcibgeekegcdaaQ4
namespace Go.Proofs.Ytjcibgeekegcdaa.Q
open Go.RowKit Go.Proofs.YtjcibgeekegcdaaW.PrintWords Go.Proofs.YtjcibgeekegcdaaW.PrintLast
/-- The one pure statement of laws_FnExactHeaderOK. -/
def laws_FnExactHeaderOK.PureF : Prop := ∀ (a0_0 : Int) (a0_1 : Int) (a0_2 : ByteArray) (a0_3 : ByteArray), ((Lit.int .i64 a0_0).wf = true) → ((Lit.int .i64 a0_1).wf = true) → (a0_2.size ≤ 9223372036854775807) → (a0_3.size ≤ 9223372036854775807) → laws_FnExactHeaderOK.f a0_0 a0_1 a0_2 a0_3 = some true
end Go.Proofs.Ytjcibgeekegcdaa.Q
