/- The pure statement of the law FnExactHeaderOK: what its functions compute answers as the law says. -/
import Derived.Test.YtjcibgeekegcdaaDefFnExactHeaderOK
namespace Go.Proofs.Ytjcibgeekegcdaa.Pure
open Go.RowKit Go.Proofs.Ytjcibgeekegcdaa.Q Go.Proofs.YtjcibgeekegcdaaW.PrintWords Go.Proofs.YtjcibgeekegcdaaW.PrintLast

theorem FnExactHeaderOK : laws_FnExactHeaderOK.PureF := by
  intro a b s t ha hb hs ht
  unfold laws_FnExactHeaderOK.f laws_szHeader.f laws_toHeader.f impl_HeaderOK.f spec_HeaderOK.f spec_l01In.f impl_isTime.f impl_within.f impl_isHash.f
  simp only [Option.bind_some, List.any_cons, List.any_nil, Bool.or_false]
  repeat' split
  all_goals (try simp only [Option.bind_some])
  all_goals (try simp_all)
  all_goals (repeat' split)
  all_goals (first | rfl | (simp_all; done))

end Go.Proofs.Ytjcibgeekegcdaa.Pure
