/- The pure statement of the law FnExactStateAt: what its functions compute answers as the law says. -/
import Derived.Test.YtjmfkhjhhohnkaaDefFnExactStateAt
import Derived.Test.YtjmfkhjhhohnkaaClOk
namespace Go.Proofs.Ytjmfkhjhhohnkaa.Pure
open Go.RowKit Go.Proofs.Ytjmfkhjhhohnkaa.Q Go.Proofs.YtjmfkhjhhohnkaaW.PrintWords Go.Proofs.YtjmfkhjhhohnkaaW.PrintLast
set_option linter.unusedVariables false
theorem same_states (k : Nat) (a : ByteArray) (l : List S56) (h : Int) (hl : l.length ≤ 9223372036854775807) (hk : l.length + 1 < k) (hh : (Lit.int .i64 h).wf = true) :
    ∃ x y z, spec_StateAt.f k a l h = some (x, y, z) ∧ impl_StateAt.f k a l h = some (x, y, z) := by
  unfold spec_StateAt.f impl_StateAt.f
  rw [spec_cl a l hl k hk, impl_cl a l hl k hk, (cl_in _ _ _).1, (cl_in _ _ _).2]
  simp only [Option.bind_some]
  cases clB a l with
  | false => exact ⟨_, _, _, rfl, rfl⟩
  | true =>
    by_cases h1 : 1 ≤ h
    · by_cases h2 : h ≤ (l.length : Int)
      · have e : wrap64 (h - 1) = h - 1 := by unfold wrap64; omega
        rw [if_pos rfl, decide_eq_true h1, decide_eq_true h2, Bool.and_self, if_pos rfl, e, if_pos (by omega), if_pos (by omega)]
        exact ⟨_, _, _, rfl, rfl⟩
      · rw [if_pos rfl, decide_eq_false h2, Bool.and_false]
        exact ⟨_, _, _, rfl, rfl⟩
    · rw [if_pos rfl, decide_eq_false h1, Bool.false_and]
      exact ⟨_, _, _, rfl, rfl⟩
theorem FnExactStateAt : laws_FnExactStateAt.PureF := by
  intro a l h ha hl hh
  obtain ⟨hw, hl⟩ := hl
  obtain ⟨r, hr, hr'⟩ := szClient_eq a l ha hw hl
  refine ⟨l.length + 3, ?_⟩
  unfold laws_FnExactStateAt.f
  rw [hr _ (by omega), Option.bind_some]
  by_cases h : r < 0
  · rw [if_pos h]
  · have hle := hr' (by omega)
    have hm : (l.map cvS).length = l.length := List.length_map _
    rw [if_neg h, toClient_eq a l hle _ (by omega)]
    simp only [Option.bind_some]
    obtain ⟨x, y, z, e1, e2⟩ := same_states (l.length + 3) a (l.map cvS) _ (by omega) (by omega) hh
    rw [e1, e2]
    simp only [Option.bind_some, laws_eqState.f]
    have hz : (z != z) = false := by simp
    rw [if_pos trivial, if_pos trivial, Option.bind_some, if_pos rfl, hz]
    simp only [laws_FnExactStateAt.j0]
    rw [if_neg (by decide), toClient_eq a l hle _ (by omega)]
    simp only [Option.bind_some]
    rw [eqClient_self a _ (by omega) _ (by omega)]
    simp
end Go.Proofs.Ytjmfkhjhhohnkaa.Pure
