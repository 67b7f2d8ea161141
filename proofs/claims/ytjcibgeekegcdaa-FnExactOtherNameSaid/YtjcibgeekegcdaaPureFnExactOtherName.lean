/- The pure statement of the law FnExactOtherName: what its functions compute answers as the law says. -/
import Derived.Test.YtjcibgeekegcdaaQ4
namespace Go.Proofs.Ytjcibgeekegcdaa.Pure
open Go.RowKit Go.Proofs.Ytjcibgeekegcdaa.Q Go.Proofs.YtjcibgeekegcdaaW.PrintWords Go.Proofs.YtjcibgeekegcdaaW.PrintLast

theorem FnExactOtherName : laws_FnExactOtherName.Pure := by
  intro a ha
  unfold laws_FnExactOtherName.f impl_OtherName.f spec_OtherName.f impl_isText.f impl_isChain.f impl_otherName.f spec_l07Other.f
  simp only [Option.bind_some, List.any_cons, List.any_nil, Bool.or_false]
  by_cases h0 : (a.size : Int) > 1048576
  · rw [if_pos h0]
  · rw [if_neg h0]
    by_cases h1 : (a.size : Int) > 65536
    · have : decide (65536 < (a.size : Int)) = true := decide_eq_true h1
      simp [h1]
    · have : ¬ (65536 < (a.size : Int)) := h1
      by_cases hx : a.toList = ([120] : List UInt8)
      · simp [this, hx]
      · by_cases hy : a.toList = ([121] : List UInt8) <;> simp [this, hx, hy]

end Go.Proofs.Ytjcibgeekegcdaa.Pure
