/- The pure statement of the law FnExactRootOf: what its functions compute answers as the law says. -/
import Derived.Test.YtfgnhghadghdkaaQ1
import Derived.Test.YtfgnhghadghdkaaMul
namespace Go.Proofs.Ytfgnhghadghdkaa.Pure
open Go.RowKit Go.Proofs.Ytfgnhghadghdkaa.Q Go.Proofs.YtfgnhghadghdkaaW.PrintWords Go.Proofs.YtfgnhghadghdkaaW.PrintLast
theorem mid_eq (x y : Int) (h0 : 0 ≤ x) (h1 : x < y) (h2 : y ≤ 1000000000000000000) : wrap64 (x + (wrap64 (Int.tdiv (wrap64 ((wrap64 (y - x)) + 1)) 2))) = x + (y - x + 1) / 2 := by
  rw [w64 (y - x) (by omega) (by omega), w64 (y - x + 1) (by omega) (by omega), Int.tdiv_eq_ediv_of_nonneg (by omega), w64 ((y - x + 1) / 2) (by omega) (by omega), w64 (x + (y - x + 1) / 2) (by omega) (by omega)]
theorem both_root (a b : Int) (ha0 : 0 ≤ a) (ha1 : a ≤ 1000000000000000000) (hb0 : 0 ≤ b) (hb1 : b ≤ 1000000000000000000) (d : Nat) : ∀ (k k' : Nat) (x y : Int), 0 ≤ x → x ≤ y → y ≤ 1000000000000000000 → y - x ≤ d → d < k → d < k' →
    ∃ r, spec_l02Root.l0 k a b x y = some r ∧ impl_RootOf.l0 k' (a * b / 18446744073709551616) (a * b % 18446744073709551616) x y = some (r, 0) := by
  induction d with
  | zero =>
    intro k k' x y h0 h1 h2 hd hk hk'
    obtain ⟨k, rfl⟩ : ∃ m, k = m + 1 := ⟨k - 1, by omega⟩
    obtain ⟨k', rfl⟩ : ∃ m, k' = m + 1 := ⟨k' - 1, by omega⟩
    have hn : ¬ x < y := by omega
    refine ⟨x, ?_, ?_⟩
    · simp only [spec_l02Root.l0]; rw [if_neg hn]
    · simp only [impl_RootOf.l0]; rw [if_neg hn]
  | succ d ih =>
    intro k k' x y h0 h1 h2 hd hk hk'
    obtain ⟨k, rfl⟩ : ∃ m, k = m + 1 := ⟨k - 1, by omega⟩
    obtain ⟨k', rfl⟩ : ∃ m, k' = m + 1 := ⟨k' - 1, by omega⟩
    by_cases hlt : x < y
    · have hm := mid_eq x y h0 hlt h2
      obtain ⟨m, hmm⟩ : ∃ m, x + (y - x + 1) / 2 = m := ⟨_, rfl⟩
      have bm : x < m ∧ m ≤ y := by omega
      rw [hmm] at hm
      have hw : wrap64 (m - 1) = m - 1 := w64 (m - 1) (by clear hm; omega) (by clear hm; omega)
      have hu : IntKind.u64.wrap m = m := u64in m (by clear hm hw; omega) (by clear hm hw; omega)
      have hl := less_eq a b m m ha0 ha1 hb0 hb1 (by clear hm hw hu; omega) (by clear hm hw hu; omega) (by clear hm hw hu; omega) (by clear hm hw hu; omega)
      have hx := mul64_eq m m (by clear hm hw hu; omega) (by clear hm hw hu; omega) (by clear hm hw hu; omega) (by clear hm hw hu; omega)
      have hlex := lex_lt (a * b) (m * m) 18446744073709551616 (by omega)
      have i1 := ih k k' m y (by clear hm hw hu; omega) (by clear hm hw hu; omega) (by clear hm hw hu; omega) (by clear hm hw hu; omega) (by clear hm hw hu; omega) (by clear hm hw hu; omega)
      have i2 := ih k k' x (m - 1) (by clear hm hw hu; omega) (by clear hm hw hu; omega) (by clear hm hw hu; omega) (by clear hm hw hu; omega) (by clear hm hw hu; omega) (by clear hm hw hu; omega)
      simp only [spec_l02Root.l0, impl_RootOf.l0]
      rw [if_pos hlt, if_pos hlt, hm, hw, hu, hl, hx, Option.bind_some, Option.bind_some]
      clear hm hw hu hl hx
      generalize a * b / 18446744073709551616 = u at *
      generalize a * b % 18446744073709551616 = v at *
      generalize m * m / 18446744073709551616 = p at *
      generalize m * m % 18446744073709551616 = q at *
      by_cases hc : a * b < m * m
      · rw [if_pos (decide_eq_true hc)]
        have hh := hlex.1 hc
        have h3 : ¬ p < u := by omega
        rw [if_neg h3]
        by_cases h4 : p = u
        · have h5 : ¬ q ≤ v := by omega
          rw [if_pos h4, if_neg h5]; exact i2
        · rw [if_neg h4]; exact i2
      · rw [if_neg (by rw [decide_eq_false hc]; simp)]
        have hh : ¬ (u < p ∨ u = p ∧ v < q) := fun h => hc (hlex.2 h)
        by_cases h3 : p < u
        · rw [if_pos h3]; exact i1
        · have h4 : p = u := by omega
          have h5 : q ≤ v := by omega
          rw [if_neg h3, if_pos h4, if_pos h5]; exact i1
    · refine ⟨x, ?_, ?_⟩
      · simp only [spec_l02Root.l0]; rw [if_neg hlt]
      · simp only [impl_RootOf.l0]; rw [if_neg hlt]
theorem amount_eq (a : Int) : spec_l02Amount.f a = some (decide (0 ≤ a) && decide (a ≤ 1000000000000000000)) ∧ impl_isAmount.f a = some (decide (0 ≤ a) && decide (a ≤ 1000000000000000000)) := by
  unfold spec_l02Amount.f impl_isAmount.f spec_l01In.f impl_within.f
  by_cases h : a ≥ 0
  · rw [if_pos h, decide_eq_true (show 0 ≤ a from h), Bool.true_and]; exact ⟨rfl, rfl⟩
  · rw [if_neg h, decide_eq_false (show ¬ 0 ≤ a from h), Bool.false_and]; exact ⟨rfl, rfl⟩
theorem FnExactRootOf : laws_FnExactRootOf.Pure := by
  intro a b _ _
  obtain ⟨K, hK⟩ : ∃ K : Nat, 1000000000000000000 < K := ⟨_, Nat.lt_succ_self _⟩
  refine ⟨K + 1, ?_⟩
  unfold laws_FnExactRootOf.f spec_RootOf.f impl_RootOf.f
  rw [(amount_eq a).1, (amount_eq a).2, (amount_eq b).1, (amount_eq b).2]
  simp only [Option.bind_some]
  by_cases h1 : (decide (0 ≤ a) && decide (a ≤ 1000000000000000000)) = true
  · by_cases h2 : (decide (0 ≤ b) && decide (b ≤ 1000000000000000000)) = true
    · have ba : 0 ≤ a ∧ a ≤ 1000000000000000000 := by simpa using h1
      have bb : 0 ≤ b ∧ b ≤ 1000000000000000000 := by simpa using h2
      obtain ⟨r, e1, e2⟩ := both_root a b ba.1 ba.2 bb.1 bb.2 1000000000000000000 (K + 1) K 0 1000000000000000000 (by omega) (by omega) (by omega) (by omega) (by omega) hK
      have m := mul64_eq a b ba.1 (by omega) bb.1 (by omega)
      simp only [h1, h2, if_true]
      simp only [impl_RootOf.j0, Bool.not_true]
      unfold spec_l02Root.f
      rw [e1, Option.bind_some, Option.bind_some, if_neg (by simp), u64in a ba.1 (by omega), u64in b bb.1 (by omega), m, Option.bind_some, e2]
      simp
    · have h2' := Bool.eq_false_iff.2 h2
      rw [h1, h2']
      simp [impl_RootOf.j0]
  · have h1' := Bool.eq_false_iff.2 h1
    rw [h1']
    simp [impl_RootOf.j0]
end Go.Proofs.Ytfgnhghadghdkaa.Pure
