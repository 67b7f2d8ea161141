/- The pure statement of the law FnExactDenomOK: what its functions compute answers as the law says. -/
import Derived.Test.YtjcibgeekegcdaaQ4
import Derived.Test.YtjcibgeekegcdaaName
namespace Go.Proofs.Ytjcibgeekegcdaa.Pure
open Go.RowKit Go.Proofs.Ytjcibgeekegcdaa.Q Go.Proofs.YtjcibgeekegcdaaW.PrintWords Go.Proofs.YtjcibgeekegcdaaW.PrintLast
theorem FnExactDenomOK : laws_FnExactDenomOK.Pure := by
  intro a ha
  refine ⟨a.size + 2, ?_⟩
  unfold laws_FnExactDenomOK.f spec_DenomOK.f spec_l05Name.f impl_DenomOK.f
  rw [spec_name a (by omega) _ (by omega), impl_name a (by omega) _ (by omega)]
  simp only [Option.bind_some]
  by_cases h : (a.size : Int) ≤ 12
  · have h' : ¬ (a.size : Int) > 65536 := by omega
    rw [if_neg h', if_pos h, decide_eq_true h]
    cases nameB a <;> simp
  · have hd : decide ((a.size : Int) ≤ 12) = false := decide_eq_false h
    rw [if_neg h, hd]
    cases nameB a <;> simp
end Go.Proofs.Ytjcibgeekegcdaa.Pure
