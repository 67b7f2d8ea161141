/- The pure statement of the law FnExactConstants (what its functions compute answers as the law says). -/
import Derived.Test.YtjcibgeekegcdaaQ1
namespace Go.Proofs.Ytjcibgeekegcdaa.Pure
open Go.RowKit Go.Proofs.Ytjcibgeekegcdaa.Q Go.Proofs.YtjcibgeekegcdaaW.PrintWords Go.Proofs.YtjcibgeekegcdaaW.PrintLast
theorem FnExactConstants : laws_FnExactConstants.Pure := rfl

end Go.Proofs.Ytjcibgeekegcdaa.Pure
