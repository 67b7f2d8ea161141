/- The pure statement of the law FnExactReadAmount: what its functions compute answers as the law says. -/
import Derived.Test.YtfgnhghadghdkaaDoorDefFnExactReadAmount
import Derived.Test.YtfgnhghadghdkaaDoorRd
namespace Go.Proofs.YtfgnhghadghdkaaDoor.Pure
open Go.RowKit Go.Proofs.YtfgnhghadghdkaaDoor.Q Go.Proofs.YtfgnhghadghdkaaDoorW.PrintWords Go.Proofs.YtfgnhghadghdkaaDoorW.PrintLast
theorem isText_one (t : ByteArray) : impl_isText.f [t] = some (decide (t.size ≤ 65536)) := by
  unfold impl_isText.f
  simp only [List.any_cons, List.any_nil, Bool.or_false]
  congr 1
  rw [Bool.eq_iff_iff]
  simp
  omega
theorem impl_ra (t : ByteArray) (ht : t.size ≤ 65536) : impl_ReadAmount.f t = some (if (raT t).2 = true then ((raT t).1, 0) else (0, 3)) := by
  unfold impl_ReadAmount.f impl_readAmount.f
  rw [isText_one, decide_eq_true ht, Option.bind_some, if_pos rfl, if_pos (by omega), Option.bind_some]
  split <;> rfl
theorem FnExactReadAmount : laws_FnExactReadAmount.PureF := by
  intro t _
  refine ⟨140000, ?_⟩
  unfold laws_FnExactReadAmount.f
  by_cases h0 : (t.size : Int) > 1048576
  · rw [if_pos h0]
  · rw [if_neg h0]
    unfold spec_ReadAmount.f
    by_cases h1 : t.size ≤ 65536
    · rw [if_neg (by omega), of_eq t h1 140000 (by omega), impl_ra t h1]
      simp only [Option.bind_some]
      by_cases h2 : amT t
      · rw [if_pos h2, raT_yes t h2, if_neg (by omega)]
        simp
      · rw [if_neg h2, raT_no t h2]
        simp
    · rw [if_pos (by omega)]
      unfold impl_ReadAmount.f
      rw [isText_one, decide_eq_false h1]
      simp
end Go.Proofs.YtfgnhghadghdkaaDoor.Pure
