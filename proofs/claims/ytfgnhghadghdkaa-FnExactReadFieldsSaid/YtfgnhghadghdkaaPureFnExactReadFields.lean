/- The pure statement of the law FnExactReadFields: what its functions compute answers as the law says. -/
import Derived.Test.YtfgnhghadghdkaaQ5
import Derived.Test.YtfgnhghadghdkaaRun
namespace Go.Proofs.Ytfgnhghadghdkaa.Pure
open Go.RowKit Go.Proofs.Ytfgnhghadghdkaa.Q Go.Proofs.YtfgnhghadghdkaaW.PrintWords Go.Proofs.YtfgnhghadghdkaaW.PrintLast
theorem both_fields (l : List Int) : ∃ A c, A.length ≤ 255 ∧ (∀ k, 262 < k → spec_ReadFields.f k l = some (A, c)) ∧ ∀ k, 262 < k → impl_ReadFields.f k l = some (A, c) := by
  by_cases h : (l.length : Int) > 65536
  · refine ⟨[], 2, by simp, fun k _ => ?_, fun k _ => ?_⟩
    · unfold spec_ReadFields.f; rw [if_pos h]
    · unfold impl_ReadFields.f; rw [if_pos h]
  · have hs : (strOfNums l).size ≤ 65536 := by rw [bySize]; omega
    obtain ⟨r, q, e1, e2, hq, hr, hl⟩ := both_f (strOfNums l) hs
    by_cases hb : r.2 = true
    · refine ⟨r.1, 0, hl, fun k hk => ?_, fun k hk => ?_⟩
      · unfold spec_ReadFields.f; rw [if_neg h, e1 k hk, Option.bind_some, if_pos hb]
      · unfold impl_ReadFields.f; rw [if_neg h, e2 k hk, Option.bind_some, if_pos (hq.trans hb), hr hb]
    · refine ⟨[], 3, by simp, fun k hk => ?_, fun k hk => ?_⟩
      · unfold spec_ReadFields.f; rw [if_neg h, e1 k hk, Option.bind_some, if_neg hb]
      · unfold impl_ReadFields.f; rw [if_neg h, e2 k hk, Option.bind_some, if_neg (fun h => hb (hq.symm.trans h))]
theorem FnExactReadFields : laws_FnExactReadFields.Pure := by
  intro l _ _ _
  obtain ⟨A, c, hA, es, ei⟩ := both_fields l
  refine ⟨l.length + 400 + 1 + 1 + 1, ?_⟩
  unfold laws_FnExactReadFields.f
  by_cases h0 : (l.length : Int) > 1048576
  · rw [if_pos h0]
  · have hl : l.length ≤ 1048576 := by omega
    obtain ⟨y, hy⟩ := markByteS_eq l (by omega) (l.length + 400 + 1 + 1) (by omega)
    rw [if_neg h0, toByteS_eq l hl _ (by omega), Option.bind_some, es _ (by omega), Option.bind_some, Option.bind_some, ei _ (by omega), Option.bind_some]
    simp only []
    rw [eqStringS_self A (by omega) _ (by omega), Option.bind_some, if_pos rfl, bne_self_eq_false]
    simp only [laws_FnExactReadFields.j0]
    rw [if_neg (by simp), toByteS_eq l hl _ (by omega), Option.bind_some, eqByteS_refl l (by omega) _ (by omega), Option.bind_some, if_pos rfl, hy, Option.bind_some, if_neg (by simp only []; omega), eqStringS_self A (by omega) _ (by omega), Option.bind_some, if_pos rfl, bne_self_eq_false]
    simp only [laws_FnExactReadFields.j1]
    rw [if_neg (by simp), markStringS_eq A (by omega) _ (by omega), Option.bind_some, heldStringS_eq A.length (by omega) _ (by omega), Option.bind_some, if_neg (by omega), if_pos rfl, toByteS_eq l hl _ (by omega), Option.bind_some, ei _ (by omega), Option.bind_some,
      eqStringS_self A (by omega) _ (by omega), Option.bind_some, if_pos rfl, bne_self_eq_false]
    simp only [laws_FnExactReadFields.j2]
    rw [if_neg (by simp), heldStringS_eq A.length (by omega) _ (by omega), Option.bind_some, if_neg (by omega), if_pos rfl]
end Go.Proofs.Ytfgnhghadghdkaa.Pure
