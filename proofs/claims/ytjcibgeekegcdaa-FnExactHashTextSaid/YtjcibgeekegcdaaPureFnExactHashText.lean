/- The pure statement of the law FnExactHashText: what its functions compute answers as the law says. -/
import Derived.Test.YtjcibgeekegcdaaQ6
import Derived.Test.YtjcibgeekegcdaaBits
namespace Go.Proofs.Ytjcibgeekegcdaa.Pure
open Go.RowKit Go.Proofs.Ytjcibgeekegcdaa.Q Go.Proofs.YtjcibgeekegcdaaW.PrintWords Go.Proofs.YtjcibgeekegcdaaW.PrintLast
theorem FnExactHashText : laws_FnExactHashText.Pure := by
  intro a ha
  refine ⟨400, ?_⟩
  unfold laws_FnExactHashText.f spec_HashText.f impl_HashText.f impl_isText.f impl_isHash.f
  simp only [Option.bind_some, List.any_cons, List.any_nil, Bool.or_false]
  by_cases h0 : (a.size : Int) > 1048576
  · rw [if_pos h0]
  · rw [if_neg h0]
    by_cases h1 : (a.size : Int) > 65536
    · have : decide (65536 < (a.size : Int)) = true := decide_eq_true h1
      simp [h1]
    · have h1' : decide (65536 < (a.size : Int)) = false := decide_eq_false h1
      rw [if_neg h1, h1']
      by_cases h2 : (a.size : Int) = 32
      · have e : spec_l01Hex.f 400 a = some (strOfNums (hexM a a.size)) := spec_hex a (by omega) a.size 400 0 (by omega) (by omega) (by omega)
        have e' : impl_hexOf.f 400 a = some (strOfNums (hexM a a.size)) := impl_hex a (by omega) a.size 400 0 (by omega) (by omega) (by omega)
        rw [if_pos h2, e, e']
        simp [h2]
      · rw [if_neg h2]
        have : ((a.size : Int) == 32) = false := by simpa using h2
        simp [this]
end Go.Proofs.Ytjcibgeekegcdaa.Pure
