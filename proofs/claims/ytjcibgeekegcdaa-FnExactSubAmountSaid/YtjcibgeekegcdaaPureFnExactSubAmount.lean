/- The pure statement of the law FnExactSubAmount (what its functions compute answers as the law says). -/
import Derived.Test.YtjcibgeekegcdaaQ2
namespace Go.Proofs.Ytjcibgeekegcdaa.Pure
open Go.RowKit Go.Proofs.Ytjcibgeekegcdaa.Q Go.Proofs.YtjcibgeekegcdaaW.PrintWords Go.Proofs.YtjcibgeekegcdaaW.PrintLast

theorem FnExactSubAmount : laws_FnExactSubAmount.Pure := by
  intro a b h h'
  refine ⟨1, ?_⟩
  unfold laws_FnExactSubAmount.f spec_SubAmount.f impl_SubAmount.f spec_l02Amount.f impl_isAmount.f spec_l01In.f impl_within.f
  simp only [spec_SubAmount.j0, impl_SubAmount.j0]
  repeat' split
  all_goals (simp only [Option.bind_some]; try simp_all)
  all_goals (repeat' split)
  all_goals (first | rfl | (simp_all; done))

end Go.Proofs.Ytjcibgeekegcdaa.Pure
