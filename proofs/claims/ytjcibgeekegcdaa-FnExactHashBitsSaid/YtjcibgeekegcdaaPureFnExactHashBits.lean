/- The pure statement of the law FnExactHashBits: what its functions compute answers as the law says. -/
import Derived.Test.YtjcibgeekegcdaaQ5
import Derived.Test.YtjcibgeekegcdaaBits
namespace Go.Proofs.Ytjcibgeekegcdaa.Pure
open Go.RowKit Go.Proofs.Ytjcibgeekegcdaa.Q Go.Proofs.YtjcibgeekegcdaaW.PrintWords Go.Proofs.YtjcibgeekegcdaaW.PrintLast
theorem FnExactHashBits : laws_FnExactHashBits.Pure := by
  intro a ha
  refine ⟨400, ?_⟩
  unfold laws_FnExactHashBits.f spec_HashBits.f impl_HashBits.f impl_isText.f impl_isHash.f
  simp only [Option.bind_some, List.any_cons, List.any_nil, Bool.or_false]
  by_cases h0 : (a.size : Int) > 1048576
  · rw [if_pos h0]
  · rw [if_neg h0]
    by_cases h1 : (a.size : Int) > 65536
    · have : decide (65536 < (a.size : Int)) = true := decide_eq_true h1
      simp [h1]
    · have h1' : decide (65536 < (a.size : Int)) = false := decide_eq_false h1
      rw [if_neg h1, h1']
      by_cases h2 : (a.size : Int) = 32
      · have e := spec_bits_f a (by omega) 400 (by omega)
        have e' := impl_bits a (by omega) 256 400 0 (by omega) (by omega) (by omega)
        have e'' : impl_HashBits.l0 400 a [] 0 = some (strOfNums (bitsM a 256), 0) := e'
        rw [if_pos h2, e]
        rw [show 8 * a.size = 256 by omega]
        simp [h2, e'']
      · rw [if_neg h2]
        have : ((a.size : Int) == 32) = false := by simpa using h2
        simp [this]
end Go.Proofs.Ytjcibgeekegcdaa.Pure
