/- The pure statement of the law FnExactStoreOK: what its functions compute answers as the law says. -/
import Derived.Test.YtifkdlcalkccaaaDefFnExactStoreOK
import Derived.Test.YtifkdlcalkccaaaSt
namespace Go.Proofs.Ytifkdlcalkccaaa.Pure
open Go.RowKit Go.Proofs.Ytifkdlcalkccaaa.Q Go.Proofs.YtifkdlcalkccaaaW.PrintWords Go.Proofs.YtifkdlcalkccaaaW.PrintLast
theorem FnExactStoreOK : laws_FnExactStoreOK.PureF := by
  intro l ⟨hw, hl⟩
  obtain ⟨r, hr, hr'⟩ := szPairS_eq l hw hl
  refine ⟨l.length + 1, ?_⟩
  unfold laws_FnExactStoreOK.f
  rw [hr _ (by omega)]
  simp only [Option.bind_some]
  by_cases h : r < 0
  · rw [if_pos h]
  · have h20 := hr' (by omega)
    rw [if_neg h, toPairS_eq l h20 _ (by omega)]
    simp only [Option.bind_some]
    rw [spec_ok (l.map cv) (by rw [List.length_map]; omega) _ (by rw [List.length_map]; omega)]
    simp only [Option.bind_some, impl_StoreOK.f]
    rw [eqPairS_eq _ _ (by rw [List.length_map]; omega) _ (by rw [List.length_map]; omega)]
    simp
end Go.Proofs.Ytifkdlcalkccaaa.Pure
