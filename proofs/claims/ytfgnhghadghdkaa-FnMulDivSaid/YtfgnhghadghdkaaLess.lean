/- What the laws' own comparison of two products answers. -/
import Derived.Test.YtfgnhghadghdkaaQ9
import Derived.Test.YtfgnhghadghdkaaWide
namespace Go.Proofs.Ytfgnhghadghdkaa.Pure
open Go.RowKit Go.Proofs.Ytfgnhghadghdkaa.Q Go.Proofs.YtfgnhghadghdkaaW.PrintWords Go.Proofs.YtfgnhghadghdkaaW.PrintLast
set_option linter.unusedVariables false
theorem three_less (H M L H' M' L' : Int) (m0 : 0 ≤ M) (m1 : M < 1000000000) (l0 : 0 ≤ L) (l1 : L < 1000000000) (m0' : 0 ≤ M') (m1' : M' < 1000000000) (l0' : 0 ≤ L') (l1' : L' < 1000000000) :
    (if H = H' then (if M = M' then some (decide (L < L')) else some (decide (M < M'))) else some (decide (H < H'))) = some (decide (H * 1000000000000000000 + (M * 1000000000 + L) < H' * 1000000000000000000 + (M' * 1000000000 + L'))) := by
  by_cases h : H = H'
  · rw [if_pos h]
    by_cases h2 : M = M'
    · rw [if_pos h2]; congr 1; rw [decide_eq_decide]; omega
    · rw [if_neg h2]; congr 1; rw [decide_eq_decide]; omega
  · rw [if_neg h]; congr 1; rw [decide_eq_decide]; omega
theorem less_parts (a b : Int) (ha0 : 0 ≤ a) (ha1 : a ≤ 1000000000000000000) (hb0 : 0 ≤ b) (hb1 : b ≤ 1000000000000000000) : ∃ H M L : Int, 0 ≤ M ∧ M < 1000000000 ∧ 0 ≤ L ∧ L < 1000000000 ∧ a * b = H * 1000000000000000000 + (M * 1000000000 + L) ∧
    wrap64 ((wrap64 ((wrap64 (Int.tdiv a 1000000000)) * (wrap64 (Int.tdiv b 1000000000)))) + (wrap64 (Int.tdiv (wrap64 ((wrap64 ((wrap64 ((wrap64 (Int.tdiv a 1000000000)) * (Int.tmod b 1000000000))) + (wrap64 ((Int.tmod a 1000000000) * (wrap64 (Int.tdiv b 1000000000)))))) + (wrap64 (Int.tdiv (wrap64 ((Int.tmod a 1000000000) * (Int.tmod b 1000000000))) 1000000000)))) 1000000000))) = H ∧
    Int.tmod (wrap64 ((wrap64 ((wrap64 ((wrap64 (Int.tdiv a 1000000000)) * (Int.tmod b 1000000000))) + (wrap64 ((Int.tmod a 1000000000) * (wrap64 (Int.tdiv b 1000000000)))))) + (wrap64 (Int.tdiv (wrap64 ((Int.tmod a 1000000000) * (Int.tmod b 1000000000))) 1000000000)))) 1000000000 = M ∧
    Int.tmod (wrap64 ((Int.tmod a 1000000000) * (Int.tmod b 1000000000))) 1000000000 = L := by
  obtain ⟨x1, hx1⟩ : ∃ q, a / 1000000000 = q := ⟨_, rfl⟩
  obtain ⟨x0, hx0⟩ : ∃ q, a % 1000000000 = q := ⟨_, rfl⟩
  obtain ⟨y1, hy1⟩ : ∃ q, b / 1000000000 = q := ⟨_, rfl⟩
  obtain ⟨y0, hy0⟩ : ∃ q, b % 1000000000 = q := ⟨_, rfl⟩
  have bx1 : 0 ≤ x1 ∧ x1 ≤ 1000000000 := by omega
  have bx0 : 0 ≤ x0 ∧ x0 ≤ 999999999 := by omega
  have by1 : 0 ≤ y1 ∧ y1 ≤ 1000000000 := by omega
  have by0 : 0 ≤ y0 ∧ y0 ≤ 999999999 := by omega
  have ea : a = x1 * 1000000000 + x0 := by omega
  have eb : b = y1 * 1000000000 + y0 := by omega
  have m11 := mul_le bx1.1 by1.1 bx1.2 by1.2
  have m10 := mul_le bx1.1 by0.1 bx1.2 by0.2
  have m01 := mul_le bx0.1 by1.1 bx0.2 by1.2
  have m00 := mul_le bx0.1 by0.1 bx0.2 by0.2
  have n11 := Int.mul_nonneg bx1.1 by1.1
  have n10 := Int.mul_nonneg bx1.1 by0.1
  have n01 := Int.mul_nonneg bx0.1 by1.1
  have n00 := Int.mul_nonneg bx0.1 by0.1
  have ta1 : Int.tdiv a 1000000000 = x1 := by rw [Int.tdiv_eq_ediv_of_nonneg ha0]; exact hx1
  have tb1 : Int.tdiv b 1000000000 = y1 := by rw [Int.tdiv_eq_ediv_of_nonneg hb0]; exact hy1
  have ta0 : Int.tmod a 1000000000 = x0 := by rw [Int.tmod_eq_emod_of_nonneg ha0]; exact hx0
  have tb0 : Int.tmod b 1000000000 = y0 := by rw [Int.tmod_eq_emod_of_nonneg hb0]; exact hy0
  have hp := wide_parts x1 x0 y1 y0
  rw [← ea, ← eb] at hp
  rw [ta1, tb1, ta0, tb0]
  clear ta1 tb1 ta0 tb0 ea eb hx1 hx0 hy1 hy0
  rw [w64 x1 (by omega) (by omega), w64 y1 (by omega) (by omega)]
  generalize x1 * y1 = u at *
  generalize x1 * y0 = v at *
  generalize x0 * y1 = s at *
  generalize x0 * y0 = t at *
  rw [w64 u (by omega) (by omega), w64 v (by omega) (by omega), w64 s (by omega) (by omega), w64 t (by omega) (by omega)]
  rw [Int.tdiv_eq_ediv_of_nonneg n00, w64 (t / 1000000000) (by omega) (by omega), w64 (v + s) (by omega) (by omega), w64 (v + s + t / 1000000000) (by omega) (by omega), Int.tdiv_eq_ediv_of_nonneg (by omega), w64 ((v + s + t / 1000000000) / 1000000000) (by omega) (by omega), w64 (u + (v + s + t / 1000000000) / 1000000000) (by omega) (by omega),
    Int.tmod_eq_emod_of_nonneg (by omega), Int.tmod_eq_emod_of_nonneg n00]
  exact ⟨_, _, _, by omega, by omega, by omega, by omega, by omega, rfl, rfl, rfl⟩
theorem lawless_eq (a b c d : Int) (ha0 : 0 ≤ a) (ha1 : a ≤ 1000000000000000000) (hb0 : 0 ≤ b) (hb1 : b ≤ 1000000000000000000) (hc0 : 0 ≤ c) (hc1 : c ≤ 1000000000000000000) (hd0 : 0 ≤ d) (hd1 : d ≤ 1000000000000000000) :
    laws_less.f a b c d = some (decide (a * b < c * d)) := by
  obtain ⟨H, M, L, m0, m1, l0, l1, e, h1, h2, h3⟩ := less_parts a b ha0 ha1 hb0 hb1
  obtain ⟨H', M', L', m0', m1', l0', l1', e', h1', h2', h3'⟩ := less_parts c d hc0 hc1 hd0 hd1
  unfold laws_less.f
  rw [h1, h1', h2, h2', h3, h3', e, e']
  exact three_less H M L H' M' L' m0 m1 l0 l1 m0' m1' l0' l1'
end Go.Proofs.Ytfgnhghadghdkaa.Pure
