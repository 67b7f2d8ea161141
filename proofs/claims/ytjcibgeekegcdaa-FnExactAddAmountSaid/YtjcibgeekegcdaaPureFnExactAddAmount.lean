/- The pure statement of the law FnExactAddAmount (what its functions compute answers as the law says). -/
import Derived.Test.YtjcibgeekegcdaaQ1
namespace Go.Proofs.Ytjcibgeekegcdaa.Pure
open Go.RowKit Go.Proofs.Ytjcibgeekegcdaa.Q Go.Proofs.YtjcibgeekegcdaaW.PrintWords Go.Proofs.YtjcibgeekegcdaaW.PrintLast

theorem FnExactAddAmount : laws_FnExactAddAmount.Pure := by
  intro a b h h'
  refine ⟨1, ?_⟩
  unfold laws_FnExactAddAmount.f spec_AddAmount.f impl_AddAmount.f spec_l02Amount.f impl_isAmount.f spec_l01In.f impl_within.f
  simp only [spec_AddAmount.j0, impl_AddAmount.j0]
  repeat' split
  all_goals (simp only [Option.bind_some]; try simp_all)
  all_goals (repeat' split)
  all_goals (first | rfl | (simp_all; done))

end Go.Proofs.Ytjcibgeekegcdaa.Pure
