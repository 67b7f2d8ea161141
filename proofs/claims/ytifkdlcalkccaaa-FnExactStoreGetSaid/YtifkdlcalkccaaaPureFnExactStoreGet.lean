/- The pure statement of the law FnExactStoreGet: what its functions compute answers as the law says. -/
import Derived.Test.YtifkdlcalkccaaaDefFnExactStoreGet
import Derived.Test.YtifkdlcalkccaaaGet
namespace Go.Proofs.Ytifkdlcalkccaaa.Pure
open Go.RowKit Go.Proofs.Ytifkdlcalkccaaa.Q Go.Proofs.YtifkdlcalkccaaaW.PrintWords Go.Proofs.YtifkdlcalkccaaaW.PrintLast
theorem FnExactStoreGet : laws_FnExactStoreGet.PureF := by
  intro l a ⟨hw, hl⟩ ha
  obtain ⟨r, hr, hr'⟩ := szPairS_eq l hw hl
  refine ⟨l.length + 5, ?_⟩
  unfold laws_FnExactStoreGet.f
  by_cases h0 : (a.size : Int) > 1048576
  · rw [if_pos h0]
  · rw [if_neg h0, hr _ (by omega), Option.bind_some]
    by_cases h : r < 0
    · rw [if_pos h]
    · have h20 := hr' (by omega)
      have hlm : (l.map cv).length = l.length := List.length_map ..
      rw [if_neg h, toPairS_eq l h20 _ (by omega), Option.bind_some, spec_storeGet (l.map cv) a (by omega) _ (by omega), Option.bind_some, Option.bind_some, impl_storeGet (l.map cv) a _ (by omega), Option.bind_some]
      rw [if_pos rfl]
      simp only [laws_FnExactStoreGet.j0, bne_self_eq_false]
      rw [if_neg (by simp), toPairS_eq l h20 _ (by omega), Option.bind_some, eqPairS_eq _ _ (by omega) _ (by omega)]
      simp
end Go.Proofs.Ytifkdlcalkccaaa.Pure
