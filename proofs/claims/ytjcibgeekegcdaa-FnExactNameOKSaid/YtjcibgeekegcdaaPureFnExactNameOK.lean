/- The pure statement of the law FnExactNameOK: what its functions compute answers as the law says. -/
import Derived.Test.YtjcibgeekegcdaaQ3
import Derived.Test.YtjcibgeekegcdaaName
namespace Go.Proofs.Ytjcibgeekegcdaa.Pure
open Go.RowKit Go.Proofs.Ytjcibgeekegcdaa.Q Go.Proofs.YtjcibgeekegcdaaW.PrintWords Go.Proofs.YtjcibgeekegcdaaW.PrintLast
theorem FnExactNameOK : laws_FnExactNameOK.Pure := by
  intro a ha
  refine ⟨a.size + 2, ?_⟩
  unfold laws_FnExactNameOK.f
  rw [spec_name a (by omega) _ (by omega), impl_name a (by omega) _ (by omega)]
  simp
end Go.Proofs.Ytjcibgeekegcdaa.Pure
