/- The pure statement of the law FnExactStorePut: what its functions compute answers as the law says. -/
import Derived.Test.YtifkdlcalkccaaaDefFnExactStorePut
import Derived.Test.YtifkdlcalkccaaaDrop
import Derived.Test.YtifkdlcalkccaaaMk
namespace Go.Proofs.Ytifkdlcalkccaaa.Pure
open Go.RowKit Go.Proofs.Ytifkdlcalkccaaa.Q Go.Proofs.YtifkdlcalkccaaaW.PrintWords Go.Proofs.YtifkdlcalkccaaaW.PrintLast
theorem FnExactStorePut : laws_FnExactStorePut.PureF := by
  intro l a v ⟨hw, hl⟩ ha hv
  obtain ⟨r, hr, hr'⟩ := szPairS_eq l hw hl
  refine ⟨l.length + 40 + 1 + 1 + 1, ?_⟩
  unfold laws_FnExactStorePut.f
  by_cases h0 : (a.size : Int) > 1048576
  · rw [if_pos h0]
  · by_cases h1 : (v.size : Int) > 1048576
    · rw [if_neg h0, if_pos h1]
    rw [if_neg h0, if_neg h1, hr _ (by omega), Option.bind_some]
    by_cases h : r < 0
    · rw [if_pos h]
    · have h20 := hr' (by omega)
      have hlm : (l.map cv).length = l.length := List.length_map ..
      have e1 := spec_storePut (l.map cv) a v (by omega)
      have e2 := impl_storePut (l.map cv) a v (by omega)
      have hG : (storePutN (l.map cv) a v).1.length ≤ l.length + 1 := Nat.le_trans (storePutN_len _ _ _) (by omega)
      rw [if_neg h, toPairS_eq l h20 _ (by omega), Option.bind_some, e1 _ (by omega), Option.bind_some, Option.bind_some, e2 _ (by omega), Option.bind_some]
      generalize storePutN (l.map cv) a v = p at hG e1 e2 ⊢
      obtain ⟨G, c⟩ := p
      simp only at hG
      rw [eqPairS_eq G G (by omega) _ (by omega), Option.bind_some, if_pos (by simp), bne_self_eq_false]
      simp only [laws_FnExactStorePut.j0]
      rw [if_neg (by simp), toPairS_eq l h20 _ (by omega), Option.bind_some, eqPairS_eq _ _ (by omega) _ (by omega), Option.bind_some, if_pos (by simp), markPairS_eq _ (by omega) _ (by omega), Option.bind_some, if_neg (by omega),
        eqPairS_eq G G (by omega) _ (by omega), Option.bind_some, if_pos (by simp), bne_self_eq_false]
      simp only [laws_FnExactStorePut.j1]
      rw [if_neg (by simp), markPairS_eq G (by omega) _ (by omega), Option.bind_some, heldPairS_eq G.length (by omega) _ (by omega), Option.bind_some, if_neg (by omega), if_pos rfl, toPairS_eq l h20 _ (by omega), Option.bind_some, e2 _ (by omega), Option.bind_some,
        eqPairS_eq G G (by omega) _ (by omega), Option.bind_some, if_pos (by simp), bne_self_eq_false]
      simp only [laws_FnExactStorePut.j2]
      rw [if_neg (by simp), heldPairS_eq G.length (by omega) _ (by omega), Option.bind_some, if_neg (by omega), if_pos rfl]
end Go.Proofs.Ytifkdlcalkccaaa.Pure
