/- The pure statement of the law FnRoot: what its functions compute answers as the law says. -/
import Derived.Test.YtfgnhghadghdkaaQ9
import Derived.Test.YtfgnhghadghdkaaPureFnExactRootOf
import Derived.Test.YtfgnhghadghdkaaLess
import Derived.Test.YtfgnhghadghdkaaDraw
namespace Go.Proofs.Ytfgnhghadghdkaa.Pure
open Go.RowKit Go.Proofs.Ytfgnhghadghdkaa.Q Go.Proofs.YtfgnhghadghdkaaW.PrintWords Go.Proofs.YtfgnhghadghdkaaW.PrintLast
theorem root_spec (a b : Int) (ha0 : 0 ≤ a) (ha1 : a ≤ 1000000000000000000) (hb0 : 0 ≤ b) (hb1 : b ≤ 1000000000000000000) (d : Nat) : ∀ (k : Nat) (x y : Int), 0 ≤ x → x ≤ y → y ≤ 1000000000000000000 → y - x ≤ d → d < k → x * x ≤ a * b → (y = 1000000000000000000 ∨ a * b < (y + 1) * (y + 1)) →
    ∃ r, spec_l02Root.l0 k a b x y = some r ∧ 0 ≤ r ∧ r ≤ 1000000000000000000 ∧ r * r ≤ a * b ∧ (r = 1000000000000000000 ∨ a * b < (r + 1) * (r + 1)) := by
  induction d with
  | zero =>
    intro k x y h0 h1 h2 hd hk hx hy
    obtain ⟨k, rfl⟩ : ∃ m, k = m + 1 := ⟨k - 1, by omega⟩
    have : x = y := by omega
    subst this
    exact ⟨x, by simp only [spec_l02Root.l0]; rw [if_neg (by omega)], h0, h2, hx, hy⟩
  | succ d ih =>
    intro k x y h0 h1 h2 hd hk hx hy
    obtain ⟨k, rfl⟩ : ∃ m, k = m + 1 := ⟨k - 1, by omega⟩
    by_cases hlt : x < y
    · have hm := mid_eq x y h0 hlt h2
      obtain ⟨m, hmm⟩ : ∃ m, x + (y - x + 1) / 2 = m := ⟨_, rfl⟩
      have bm : x < m ∧ m ≤ y := by omega
      rw [hmm] at hm
      have hw : wrap64 (m - 1) = m - 1 := w64 (m - 1) (by clear hm; omega) (by clear hm; omega)
      have hl := less_eq a b m m ha0 ha1 hb0 hb1 (by clear hm hw; omega) (by clear hm hw; omega) (by clear hm hw; omega) (by clear hm hw; omega)
      simp only [spec_l02Root.l0]
      rw [if_pos hlt, hm, hw, hl, Option.bind_some]
      clear hm hw hl
      by_cases hc : a * b < m * m
      · rw [if_pos (decide_eq_true hc)]
        exact ih k x (m - 1) h0 (by omega) (by omega) (by omega) (by omega) hx (.inr (by rw [show m - 1 + 1 = m by omega]; exact hc))
      · rw [if_neg (by rw [decide_eq_false hc]; simp)]
        exact ih k m y (by omega) (by omega) h2 (by omega) (by omega) (by omega) hy
    · have : x = y := by omega
      subst this
      exact ⟨x, by simp only [spec_l02Root.l0]; rw [if_neg (by omega)], h0, h2, hx, hy⟩
theorem FnRoot : laws_FnRoot.Pure := by
  intro l m hl hl' hlw hm hm' hmw
  have bl := bytesOK_of hlw
  have bm := bytesOK_of hmw
  obtain ⟨K, hK⟩ : ∃ K : Nat, 1000000000000000000 < K := ⟨_, Nat.lt_succ_self _⟩
  refine ⟨K + 1 + 1, ?_⟩
  have hj : ∀ b : Bool, laws_FnRoot.j0 (K + 1 + 1) l m b = some true := by
    intro b
    simp only [laws_FnRoot.j0]
    cases b with
    | true => rw [if_pos rfl]
    | false =>
      rw [if_neg (by simp)]
      obtain ⟨a, ea, a0, a1⟩ := amountOf_ok bl (by omega)
      obtain ⟨b, eb, b0, b1⟩ := amountOf_ok bm (by omega)
      rw [ea, eb]
      simp only [Option.bind_some]
      have hp := Int.mul_nonneg a0 b0
      obtain ⟨r, e1, e2⟩ := both_root a b a0 a1 b0 b1 1000000000000000000 (K + 1) K 0 1000000000000000000 (by omega) (by omega) (by omega) (by omega) (by omega) hK
      obtain ⟨r', e3, r0, r1, r2, r3⟩ := root_spec a b a0 a1 b0 b1 1000000000000000000 (K + 1) 0 1000000000000000000 (by omega) (by omega) (by omega) (by omega) (by omega) (by simpa using hp) (.inl rfl)
      obtain rfl : r = r' := by rw [e1] at e3; exact Option.some.inj e3
      have mm := mul64_eq a b a0 (by omega) b0 (by omega)
      have h1 : (decide (0 ≤ a) && decide (a ≤ 1000000000000000000)) = true := by simp; exact ⟨a0, a1⟩
      have h2 : (decide (0 ≤ b) && decide (b ≤ 1000000000000000000)) = true := by simp; exact ⟨b0, b1⟩
      have hi : impl_RootOf.f (K + 1) a b = some (r, 0) := by
        unfold impl_RootOf.f
        rw [(amount_eq a).2, (amount_eq b).2, h1, h2]
        simp only [Option.bind_some, if_true, impl_RootOf.j0, Bool.not_true]
        rw [if_neg (by simp), u64in a a0 (by omega), u64in b b0 (by omega), mm, Option.bind_some, e2]
      have hs : spec_RootOf.f (K + 1) a b = some (r, 0) := by
        unfold spec_RootOf.f
        rw [(amount_eq a).1, (amount_eq b).1, h1, h2]
        simp only [Option.bind_some, if_true]
        unfold spec_l02Root.f
        rw [e1, Option.bind_some]
      rw [hi, hs]
      simp only [Option.bind_some, if_true]
      rw [lawless_eq a b r r a0 a1 b0 b1 r0 r1 r0 r1, Option.bind_some, decide_eq_false (by omega), if_neg (by simp)]
      by_cases he : r = 1000000000000000000
      · rw [if_pos he]
      · have hr4 : a * b < (r + 1) * (r + 1) := r3.resolve_left he
        rw [if_neg he, dw (r + 1) (by omega) (by omega), lawless_eq a b (r + 1) (r + 1) a0 a1 b0 b1 (by omega) (by omega) (by omega) (by omega), Option.bind_some, decide_eq_true hr4]
  unfold laws_FnRoot.f
  by_cases h : (l.length : Int) > 1048576
  · rw [if_pos h]; exact hj _
  · rw [if_neg h]; exact hj _
end Go.Proofs.Ytfgnhghadghdkaa.Pure
