/- The pure statement of the law FnExactClientOK: what its functions compute answers as the law says. -/
import Derived.Test.YtjmfkhjhhohnkaaDefFnExactClientOK
import Derived.Test.YtjmfkhjhhohnkaaClOk
namespace Go.Proofs.Ytjmfkhjhhohnkaa.Pure
open Go.RowKit Go.Proofs.Ytjmfkhjhhohnkaa.Q Go.Proofs.YtjmfkhjhhohnkaaW.PrintWords Go.Proofs.YtjmfkhjhhohnkaaW.PrintLast
theorem FnExactClientOK : laws_FnExactClientOK.PureF := by
  intro a l ha hl
  obtain ⟨hw, hl⟩ := hl
  obtain ⟨r, hr, hr'⟩ := szClient_eq a l ha hw hl
  refine ⟨l.length + 2, ?_⟩
  unfold laws_FnExactClientOK.f
  rw [hr _ (by omega), Option.bind_some]
  by_cases h : r < 0
  · rw [if_pos h]
  · have hle := hr' (by omega)
    have hm : (l.map cvS).length = l.length := List.length_map _
    rw [if_neg h, toClient_eq a l hle _ (by omega)]
    simp only [Option.bind_some]
    rw [spec_cl a _ (by omega) _ (by omega), impl_cl a _ (by omega) _ (by omega), Option.bind_some, Option.bind_some, eqClient_self a _ (by omega) _ (by omega)]
    simp
end Go.Proofs.Ytjmfkhjhhohnkaa.Pure
