/- What math/bits.Mul64 computes: the high and the low 64 bits of a product. -/
import Derived.Test.YtfgnhghadghdkaaQ1
import Derived.Laws.BitsLemmas
import Derived.IntWalk
import Derived.Test.YtfgnhghadghdkaaWide
namespace Go.Proofs.Ytfgnhghadghdkaa.Pure
open Go.RowKit Go.Proofs.Ytfgnhghadghdkaa.Q Go.Proofs.YtfgnhghadghdkaaW.PrintWords Go.Proofs.YtfgnhghadghdkaaW.PrintLast
set_option linter.unusedVariables false
theorem u64w (n : Int) : IntKind.u64.wrap n = n % 18446744073709551616 := IntKind.wrap_u64 n
theorem u64in (n : Int) (h0 : 0 ≤ n) (h1 : n < 18446744073709551616) : IntKind.u64.wrap n = n := by rw [u64w]; omega
theorem and32 (x : Int) (h0 : 0 ≤ x) (h1 : x < 18446744073709551616) : Go.bits .and .u64 x 4294967295 = x % 4294967296 :=
  bits_mask .u64 64 (by decide) (fun n h0 h1 => u64in n h0 h1) 32 (by decide) x h0 h1
theorem mul_parts (a1 a0 b1 b0 : Int) : (a1 * 4294967296 + a0) * (b1 * 4294967296 + b0) = (a1 * b1 + (a1 * b0 + a0 * b0 / 4294967296) / 4294967296 + ((a1 * b0 + a0 * b0 / 4294967296) % 4294967296 + a0 * b1) / 4294967296) * 18446744073709551616 + (((a1 * b0 + a0 * b0 / 4294967296) % 4294967296 + a0 * b1) % 4294967296 * 4294967296 + a0 * b0 % 4294967296) := by
  have e1 : (a1 * 4294967296 + a0) * (b1 * 4294967296 + b0) = a1 * b1 * 18446744073709551616 + (a1 * b0 + a0 * b1) * 4294967296 + a0 * b0 := by
    rw [Int.add_mul, Int.mul_add, Int.mul_add, Int.add_mul (a1 * b0) (a0 * b1)]
    have p1 : a1 * 4294967296 * (b1 * 4294967296) = a1 * b1 * 18446744073709551616 := by
      rw [Int.mul_assoc, Int.mul_left_comm 4294967296 b1, ← Int.mul_assoc, show (4294967296 : Int) * 4294967296 = 18446744073709551616 from rfl]
    have p2 : a1 * 4294967296 * b0 = a1 * b0 * 4294967296 := by rw [Int.mul_assoc, Int.mul_comm 4294967296 b0, ← Int.mul_assoc]
    have p3 : a0 * (b1 * 4294967296) = a0 * b1 * 4294967296 := by rw [← Int.mul_assoc]
    rw [p1, p2, p3]
    omega
  rw [e1]
  generalize a1 * b1 = u
  generalize a1 * b0 = v
  generalize a0 * b1 = s
  generalize a0 * b0 = t
  omega
theorem mul64_eq (a b : Int) (ha0 : 0 ≤ a) (ha1 : a < 18446744073709551616) (hb0 : 0 ≤ b) (hb1 : b < 18446744073709551616) : bits_Mul64.f a b = some (a * b / 18446744073709551616, a * b % 18446744073709551616) := by
  obtain ⟨x1, hx1⟩ : ∃ q, a / 4294967296 = q := ⟨_, rfl⟩
  obtain ⟨x0, hx0⟩ : ∃ q, a % 4294967296 = q := ⟨_, rfl⟩
  obtain ⟨y1, hy1⟩ : ∃ q, b / 4294967296 = q := ⟨_, rfl⟩
  obtain ⟨y0, hy0⟩ : ∃ q, b % 4294967296 = q := ⟨_, rfl⟩
  have bx1 : 0 ≤ x1 ∧ x1 ≤ 4294967295 := by omega
  have bx0 : 0 ≤ x0 ∧ x0 ≤ 4294967295 := by omega
  have by1 : 0 ≤ y1 ∧ y1 ≤ 4294967295 := by omega
  have by0 : 0 ≤ y0 ∧ y0 ≤ 4294967295 := by omega
  have ea : a = x1 * 4294967296 + x0 := by omega
  have eb : b = y1 * 4294967296 + y0 := by omega
  have m11 := mul_le bx1.1 by1.1 bx1.2 by1.2
  have m10 := mul_le bx1.1 by0.1 bx1.2 by0.2
  have m01 := mul_le bx0.1 by1.1 bx0.2 by1.2
  have m00 := mul_le bx0.1 by0.1 bx0.2 by0.2
  have n11 := Int.mul_nonneg bx1.1 by1.1
  have n10 := Int.mul_nonneg bx1.1 by0.1
  have n01 := Int.mul_nonneg bx0.1 by1.1
  have n00 := Int.mul_nonneg bx0.1 by0.1
  obtain ⟨h1, _⟩ := by_parts (a * b) (x1 * y1 + (x1 * y0 + x0 * y0 / 4294967296) / 4294967296 + ((x1 * y0 + x0 * y0 / 4294967296) % 4294967296 + x0 * y1) / 4294967296) (((x1 * y0 + x0 * y0 / 4294967296) % 4294967296 + x0 * y1) % 4294967296 * 4294967296 + x0 * y0 % 4294967296) 18446744073709551616 (by omega) (by omega) (by omega) (by rw [ea, eb]; exact mul_parts x1 x0 y1 y0)
  unfold bits_Mul64.f
  rw [h1, u64w (a * b), and32 a ha0 ha1, and32 b hb0 hb1, hx1, hx0, hy1, hy0]
  congr 2
  clear h1 ea eb hx1 hx0 hy1 hy0
  generalize x1 * y1 = u at *
  generalize x1 * y0 = v at *
  generalize x0 * y1 = s at *
  generalize x0 * y0 = t at *
  rw [u64in t (by omega) (by omega), u64in v (by omega) (by omega), u64in s (by omega) (by omega), u64in u (by omega) (by omega)]
  rw [u64in (v + t / 4294967296) (by omega) (by omega), and32 (v + t / 4294967296) (by omega) (by omega)]
  rw [u64in ((v + t / 4294967296) % 4294967296 + s) (by omega) (by omega), u64in (u + (v + t / 4294967296) / 4294967296) (by omega) (by omega)]
  rw [u64in _ (by omega) (by omega)]
end Go.Proofs.Ytfgnhghadghdkaa.Pure
