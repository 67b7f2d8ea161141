/- What the wide products compute: the reference's (as how often 10 to the 18 it is, and the rest) and the library's (high and low 64 bits); and what comparing them says. -/
import Derived.Test.YtfgnhghadghdkaaQ1
import Derived.Laws.BitsLemmas
import Derived.IntWalk
namespace Go.Proofs.Ytfgnhghadghdkaa.Pure
open Go.RowKit Go.Proofs.Ytfgnhghadghdkaa.Q Go.Proofs.YtfgnhghadghdkaaW.PrintWords Go.Proofs.YtfgnhghadghdkaaW.PrintLast
set_option linter.unusedVariables false

theorem w64 (n : Int) (h0 : 0 ≤ n) (h1 : n ≤ 9223372036854775807) : wrap64 n = n := by unfold wrap64; omega
theorem mul_le {a b x y : Int} (ha : 0 ≤ a) (hb : 0 ≤ b) (hx : a ≤ x) (hy : b ≤ y) : a * b ≤ x * y := Int.mul_le_mul hx hy hb (Int.le_trans ha hx)
theorem by_parts (p h l B : Int) (hB : 0 < B) (h0 : 0 ≤ l) (h1 : l < B) (e : p = h * B + l) : p / B = h ∧ p % B = l := by
  subst e
  constructor
  · rw [Int.add_comm, Int.add_mul_ediv_right _ _ (by omega), Int.ediv_eq_zero_of_lt h0 h1, Int.zero_add]
  · rw [Int.add_comm, Int.add_mul_emod_self_right, Int.emod_eq_of_lt h0 h1]
/-- The parts of the reference's product, by plain numbers. -/
theorem wide_parts (a1 a0 b1 b0 : Int) : (a1 * 1000000000 + a0) * (b1 * 1000000000 + b0) = (a1 * b1 + (a1 * b0 + a0 * b1 + a0 * b0 / 1000000000) / 1000000000) * 1000000000000000000 + ((a1 * b0 + a0 * b1 + a0 * b0 / 1000000000) % 1000000000 * 1000000000 + a0 * b0 % 1000000000) := by
  have e1 : (a1 * 1000000000 + a0) * (b1 * 1000000000 + b0) = a1 * b1 * 1000000000000000000 + (a1 * b0 + a0 * b1) * 1000000000 + a0 * b0 := by
    rw [Int.add_mul, Int.mul_add, Int.mul_add, Int.add_mul (a1 * b0) (a0 * b1)]
    have p1 : a1 * 1000000000 * (b1 * 1000000000) = a1 * b1 * 1000000000000000000 := by
      rw [Int.mul_assoc, Int.mul_left_comm 1000000000 b1, ← Int.mul_assoc, show (1000000000 : Int) * 1000000000 = 1000000000000000000 from rfl]
    have p2 : a1 * 1000000000 * b0 = a1 * b0 * 1000000000 := by rw [Int.mul_assoc, Int.mul_comm 1000000000 b0, ← Int.mul_assoc]
    have p3 : a0 * (b1 * 1000000000) = a0 * b1 * 1000000000 := by rw [← Int.mul_assoc]
    rw [p1, p2, p3]
    omega
  rw [e1]
  generalize a1 * b1 = u
  generalize a1 * b0 + a0 * b1 = v
  generalize a0 * b0 = t
  omega
theorem wide_eq (a b : Int) (ha0 : 0 ≤ a) (ha1 : a ≤ 1000000000000000000) (hb0 : 0 ≤ b) (hb1 : b ≤ 1000000000000000000) : spec_l02Wide.f a b = some (a * b / 1000000000000000000, a * b % 1000000000000000000) := by
  obtain ⟨x1, hx1⟩ : ∃ q, a / 1000000000 = q := ⟨_, rfl⟩
  obtain ⟨x0, hx0⟩ : ∃ q, a % 1000000000 = q := ⟨_, rfl⟩
  obtain ⟨y1, hy1⟩ : ∃ q, b / 1000000000 = q := ⟨_, rfl⟩
  obtain ⟨y0, hy0⟩ : ∃ q, b % 1000000000 = q := ⟨_, rfl⟩
  have bx1 : 0 ≤ x1 ∧ x1 ≤ 1000000000 := by omega
  have bx0 : 0 ≤ x0 ∧ x0 ≤ 999999999 := by omega
  have by1 : 0 ≤ y1 ∧ y1 ≤ 1000000000 := by omega
  have by0 : 0 ≤ y0 ∧ y0 ≤ 999999999 := by omega
  have ea : a = x1 * 1000000000 + x0 := by omega
  have eb : b = y1 * 1000000000 + y0 := by omega
  have m11 := mul_le bx1.1 by1.1 bx1.2 by1.2
  have m10 := mul_le bx1.1 by0.1 bx1.2 by0.2
  have m01 := mul_le bx0.1 by1.1 bx0.2 by1.2
  have m00 := mul_le bx0.1 by0.1 bx0.2 by0.2
  have n11 := Int.mul_nonneg bx1.1 by1.1
  have n10 := Int.mul_nonneg bx1.1 by0.1
  have n01 := Int.mul_nonneg bx0.1 by1.1
  have n00 := Int.mul_nonneg bx0.1 by0.1
  have ta1 : Int.tdiv a 1000000000 = x1 := by rw [Int.tdiv_eq_ediv_of_nonneg ha0]; exact hx1
  have tb1 : Int.tdiv b 1000000000 = y1 := by rw [Int.tdiv_eq_ediv_of_nonneg hb0]; exact hy1
  have ta0 : Int.tmod a 1000000000 = x0 := by rw [Int.tmod_eq_emod_of_nonneg ha0]; exact hx0
  have tb0 : Int.tmod b 1000000000 = y0 := by rw [Int.tmod_eq_emod_of_nonneg hb0]; exact hy0
  obtain ⟨h1, h2⟩ := by_parts (a * b) (x1 * y1 + (x1 * y0 + x0 * y1 + x0 * y0 / 1000000000) / 1000000000) ((x1 * y0 + x0 * y1 + x0 * y0 / 1000000000) % 1000000000 * 1000000000 + x0 * y0 % 1000000000) 1000000000000000000 (by omega) (by omega) (by omega) (by rw [ea, eb]; exact wide_parts x1 x0 y1 y0)
  unfold spec_l02Wide.f
  rw [h1, h2, ta1, tb1, ta0, tb0]
  clear h1 h2 ta1 tb1 ta0 tb0 ea eb hx1 hx0 hy1 hy0
  rw [w64 x1 (by omega) (by omega), w64 y1 (by omega) (by omega)]
  generalize x1 * y1 = u at *
  generalize x1 * y0 = v at *
  generalize x0 * y1 = s at *
  generalize x0 * y0 = t at *
  rw [w64 u (by omega) (by omega), w64 v (by omega) (by omega), w64 s (by omega) (by omega), w64 t (by omega) (by omega), w64 (v + s) (by omega) (by omega)]
  have tt : Int.tdiv t 1000000000 = t / 1000000000 := Int.tdiv_eq_ediv_of_nonneg n00
  have tm : Int.tmod t 1000000000 = t % 1000000000 := Int.tmod_eq_emod_of_nonneg n00
  rw [tt, tm, w64 (t / 1000000000) (by omega) (by omega)]
  obtain ⟨m, hm⟩ : ∃ q, v + s + t / 1000000000 = q := ⟨_, rfl⟩
  have bm : 0 ≤ m ∧ m ≤ 3000000000000000000 := by omega
  rw [hm, w64 m (by omega) (by omega)]
  have um : Int.tdiv m 1000000000 = m / 1000000000 := Int.tdiv_eq_ediv_of_nonneg bm.1
  have vm : Int.tmod m 1000000000 = m % 1000000000 := Int.tmod_eq_emod_of_nonneg bm.1
  rw [um, vm, w64 (m / 1000000000) (by omega) (by omega), w64 (u + m / 1000000000) (by omega) (by omega), w64 (m % 1000000000 * 1000000000) (by omega) (by omega), w64 (m % 1000000000 * 1000000000 + t % 1000000000) (by omega) (by omega)]
/-- Two numbers by how often B they are, and the rest: their order. -/
theorem lex_lt (p q B : Int) (hB : 0 < B) : p < q ↔ (p / B < q / B ∨ p / B = q / B ∧ p % B < q % B) := by
  have hp := Int.emod_add_mul_ediv p B
  have hq := Int.emod_add_mul_ediv q B
  have p0 := Int.emod_nonneg p (by omega : B ≠ 0)
  have q0 := Int.emod_nonneg q (by omega : B ≠ 0)
  have p1 := Int.emod_lt_of_pos p hB
  have q1 := Int.emod_lt_of_pos q hB
  generalize p % B = x at *
  generalize q % B = y at *
  generalize p / B = u at *
  generalize q / B = v at *
  constructor
  · intro h
    by_cases hc : u < v
    · exact .inl hc
    · have hvu : v ≤ u := by omega
      have hm := Int.mul_le_mul_of_nonneg_left hvu (Int.le_of_lt hB)
      by_cases he : u = v
      · refine .inr ⟨he, ?_⟩
        rw [he] at hp
        omega
      · have h1 : v + 1 ≤ u := by omega
        have h2 := Int.mul_le_mul_of_nonneg_left h1 (Int.le_of_lt hB)
        rw [Int.mul_add, Int.mul_one] at h2
        omega
  · intro h
    rcases h with h | ⟨rfl, h⟩
    · have h1 : u + 1 ≤ v := by omega
      have h2 := Int.mul_le_mul_of_nonneg_left h1 (Int.le_of_lt hB)
      rw [Int.mul_add, Int.mul_one] at h2
      omega
    · omega
theorem less_eq (a b c d : Int) (ha0 : 0 ≤ a) (ha1 : a ≤ 1000000000000000000) (hb0 : 0 ≤ b) (hb1 : b ≤ 1000000000000000000) (hc0 : 0 ≤ c) (hc1 : c ≤ 1000000000000000000) (hd0 : 0 ≤ d) (hd1 : d ≤ 1000000000000000000) :
    spec_l02Less.f a b c d = some (decide (a * b < c * d)) := by
  unfold spec_l02Less.f
  rw [wide_eq a b ha0 ha1 hb0 hb1, wide_eq c d hc0 hc1 hd0 hd1, Option.bind_some, Option.bind_some]
  have h := lex_lt (a * b) (c * d) 1000000000000000000 (by omega)
  generalize a * b / 1000000000000000000 = u at *
  generalize c * d / 1000000000000000000 = v at *
  generalize a * b % 1000000000000000000 = x at *
  generalize c * d % 1000000000000000000 = y at *
  by_cases h1 : u < v
  · rw [if_pos h1, decide_eq_true (h.2 (.inl h1))]
  · rw [if_neg h1]
    by_cases h2 : u = v
    · rw [if_pos h2]
      congr 1
      rw [decide_eq_decide, h]
      exact ⟨fun hx => .inr ⟨h2, hx⟩, fun hx => by rcases hx with hx | hx; exact absurd hx h1; exact hx.2⟩
    · rw [if_neg h2, decide_eq_false (fun hx => by rcases h.1 hx with hx | hx; exact h1 hx; exact h2 hx.1)]
end Go.Proofs.Ytfgnhghadghdkaa.Pure
