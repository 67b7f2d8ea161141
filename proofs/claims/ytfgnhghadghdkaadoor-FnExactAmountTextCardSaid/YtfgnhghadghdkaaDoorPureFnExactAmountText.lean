/- The pure statement of the law FnExactAmountText: what its functions compute answers as the law says. -/
import Derived.Test.YtfgnhghadghdkaaDoorDefFnExactAmountText
import Derived.Test.YtfgnhghadghdkaaDoorADg
namespace Go.Proofs.YtfgnhghadghdkaaDoor.Pure
open Go.RowKit Go.Proofs.YtfgnhghadghdkaaDoor.A Go.Proofs.YtfgnhghadghdkaaDoorW.PrintWords Go.Proofs.YtfgnhghadghdkaaDoorW.PrintLast
theorem FnExactAmountText : laws_FnExactAmountText.PureF := by
  intro a _
  refine ⟨20, ?_⟩
  unfold laws_FnExactAmountText.f spec_AmountText.f impl_AmountText.f spec_l02Amount.f impl_isAmount.f spec_l01In.f impl_within.f
  by_cases h0 : a ≥ 0
  · rw [if_pos h0]
    simp only [Option.bind_some]
    by_cases h1 : a ≤ 1000000000000000000
    · obtain ⟨n, rfl⟩ : ∃ n : Nat, a = (n : Int) := ⟨a.toNat, by omega⟩
      rw [decide_eq_true h1, if_pos rfl, if_pos rfl, digits_eq 20 n (by omega) (by omega) (Nat.lt_of_le_of_lt (show n ≤ 1000000000000000000 by omega) (by decide)) (by omega)]
      unfold impl_amountText.f strconv_Itoa.f
      rw [if_pos (by omega), itoa_dig]
      simp only [Option.bind_some]
      unfold digT
      rw [if_pos rfl, if_pos trivial]
    · rw [decide_eq_false h1]
      simp
  · rw [if_neg h0]
    simp
end Go.Proofs.YtfgnhghadghdkaaDoor.Pure
