/- The pure statement of the law FnExactMulDiv: what its functions compute answers as the law says. -/
import Derived.Test.YtfgnhghadghdkaaQ8
import Derived.Test.YtfgnhghadghdkaaMd
namespace Go.Proofs.Ytfgnhghadghdkaa.Pure
open Go.RowKit Go.Proofs.Ytfgnhghadghdkaa.Q Go.Proofs.YtfgnhghadghdkaaW.PrintWords Go.Proofs.YtfgnhghadghdkaaW.PrintLast
theorem FnExactMulDiv : laws_FnExactMulDiv.Pure := by
  intro a b c _ _ _
  refine ⟨300, ?_⟩
  unfold laws_FnExactMulDiv.f
  rw [spec_md a b c 300 (by omega), Option.bind_some, impl_md a b c 300 (by omega), Option.bind_some, if_pos rfl, if_pos rfl]
end Go.Proofs.Ytfgnhghadghdkaa.Pure
