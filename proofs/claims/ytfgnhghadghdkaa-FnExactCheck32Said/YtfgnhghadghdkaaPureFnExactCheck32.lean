/- The pure statement of the law FnExactCheck32: what its functions compute answers as the law says. -/
import Derived.Test.YtfgnhghadghdkaaQ6
import Derived.Test.YtfgnhghadghdkaaCheck
namespace Go.Proofs.Ytfgnhghadghdkaa.Pure
open Go.RowKit Go.Proofs.Ytfgnhghadghdkaa.Q Go.Proofs.YtfgnhghadghdkaaW.PrintWords Go.Proofs.YtfgnhghadghdkaaW.PrintLast
theorem FnExactCheck32 : laws_FnExactCheck32.Pure := by
  intro l _ _ hw
  have hl : ∀ x ∈ l, 0 ≤ x ∧ x < 256 := fun x hx => by
    have h := hw x hx
    simp [Lit.wf] at h
    have h0 : IntKind.u8.min = 0 := by decide
    have h1 : IntKind.u8.max = 255 := by decide
    rw [h0, h1] at h
    omega
  refine ⟨10 * l.length + 10, ?_⟩
  unfold laws_FnExactCheck32.f
  by_cases h0 : (l.length : Int) > 1048576
  · rw [if_pos h0]
  · have ht := toByteS_eq l (by omega) (10 * l.length + 10) (by omega)
    obtain ⟨r, es, ei⟩ : ∃ r, spec_Check32.f (10 * l.length + 10) l = some r ∧ impl_Check32.f (10 * l.length + 10) l = some r := by
      unfold spec_Check32.f impl_Check32.f
      by_cases h : (l.length : Int) > 65536
      · rw [if_pos h, if_pos h]; exact ⟨_, rfl, rfl⟩
      · obtain ⟨r, e1, e2⟩ := both_check l hl (by omega) l.length 0 4294967295 (by omega) (by decide)
        rw [if_neg h, if_neg h]
        unfold spec_l01Check.f impl_check32.f
        have f1 := e1 (10 * l.length + 10) (by omega)
        have f2 := e2 (10 * l.length + 10) (by omega)
        have hs : (((strOfNums l).size : Nat) : Int) = (l.length : Int) := by rw [bySize]
        refine ⟨(r : Int), ?_, ?_⟩
        · show (spec_l01Check.l0 _ l ((4294967295 : Nat) : Int) ((0 : Nat) : Int)).bind _ = _
          rw [f1]; rfl
        · rw [hs]
          show (impl_check32.l0 _ (strOfNums l) ((4294967295 : Nat) : Int) _ ((0 : Nat) : Int)).bind _ = _
          rw [f2]; rfl
    rw [if_neg h0, ht, Option.bind_some, es, Option.bind_some, Option.bind_some, ei, Option.bind_some, if_pos rfl, Option.bind_some, eqByteS_refl l (by omega) _ (by omega), Option.bind_some, if_pos rfl]
end Go.Proofs.Ytfgnhghadghdkaa.Pure
