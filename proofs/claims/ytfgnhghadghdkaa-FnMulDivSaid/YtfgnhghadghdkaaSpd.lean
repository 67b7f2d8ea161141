/- What the reference's division of a product computes, digit by digit. -/
import Derived.Test.YtfgnhghadghdkaaQ1
import Derived.Test.YtfgnhghadghdkaaQ6
import Derived.Test.YtfgnhghadghdkaaWide
namespace Go.Proofs.Ytfgnhghadghdkaa.Pure
open Go.RowKit Go.Proofs.Ytfgnhghadghdkaa.Q Go.Proofs.YtfgnhghadghdkaaW.PrintWords Go.Proofs.YtfgnhghadghdkaaW.PrintLast
set_option linter.unusedVariables false
theorem sd_l1 (c low out rest part : Int) (hc : 0 < c) (hc' : c ≤ 1000000000000000000) (hr0 : 0 ≤ rest) (hr : rest < c) (m : Nat) : ∀ (k : Nat) (q r : Int), m ≤ 10 → q * c + r = (10 - m) * rest → 0 ≤ r → r < c → 0 ≤ q → q ≤ 10 - m →
    ∃ q' r', q' * c + r' = 10 * rest ∧ 0 ≤ r' ∧ r' < c ∧ 0 ≤ q' ∧ q' ≤ 10 ∧ spec_l02MulDiv.l1 (k + m) c low out rest part q r (10 - m) = spec_l02MulDiv.l1 k c low out rest part q' r' 10 := by
  induction m with
  | zero =>
    intro k q r _ he h0 h1 h2 h3
    refine ⟨q, r, ?_, h0, h1, h2, by omega, rfl⟩
    rw [he]; simp
  | succ m ih =>
    intro k q r hm he h0 h1 h2 h3
    have w1 : wrap64 (r + rest) = r + rest := by unfold wrap64; omega
    have w2 : wrap64 ((10 - ((m + 1 : Nat) : Int)) + 1) = 10 - (m : Int) := by unfold wrap64; omega
    have e1 : (10 - (m : Int)) * rest = (10 - ((m + 1 : Nat) : Int)) * rest + rest := by
      rw [show (10 - (m : Int)) = (10 - ((m + 1 : Nat) : Int)) + 1 by omega, Int.add_mul, Int.one_mul]
    rw [show k + (m + 1) = k + m + 1 by omega]
    simp only [spec_l02MulDiv.l1]
    rw [if_pos (by omega), w1, w2]
    by_cases h : r + rest ≥ c
    · have w3 : wrap64 (r + rest - c) = r + rest - c := by unfold wrap64; omega
      have w4 : wrap64 (q + 1) = q + 1 := by unfold wrap64; omega
      rw [if_pos h, w3, w4]
      refine ih k (q + 1) (r + rest - c) (by omega) ?_ (by omega) (by omega) (by omega) (by omega)
      rw [e1, ← he, Int.add_mul, Int.one_mul]
      omega
    · rw [if_neg h]
      refine ih k q (r + rest) (by omega) ?_ (by omega) (by omega) h2 (by omega)
      rw [e1, ← he]
      omega
theorem sd_round (c low out rest part : Int) (hc : 0 < c) (hc' : c ≤ 1000000000000000000) (hl0 : 0 ≤ low) (hl1 : low < 1000000000000000000) (hr0 : 0 ≤ rest) (hr : rest < c) (hp : 0 < part) (k : Nat) :
    ∃ q r, q * c + r = 10 * rest + low / part % 10 ∧ 0 ≤ r ∧ r < c ∧ 0 ≤ q ∧ q ≤ 20 ∧ spec_l02MulDiv.l0 (k + 12) c low out rest part = spec_l02MulDiv.l0 k c low (wrap64 (wrap64 (out * 10) + q)) r (wrap64 (Int.tdiv part 10)) := by
  obtain ⟨q, r, e, h0, h1, h2, h3, hl⟩ := sd_l1 c low out rest part hc hc' hr0 hr 10 (k + 1) 0 0 (by omega) (by simp) (by omega) hc (by omega) (by omega)
  have hlp : 0 ≤ low / part := Int.ediv_nonneg hl0 (by omega)
  have hlp' : low / part ≤ low := Int.ediv_le_self _ hl0
  have t1 : wrap64 (Int.tdiv low part) = low / part := by rw [Int.tdiv_eq_ediv_of_nonneg hl0]; unfold wrap64; omega
  have t2 : Int.tmod (low / part) 10 = low / part % 10 := Int.tmod_eq_emod_of_nonneg hlp
  obtain ⟨g, hg⟩ : ∃ g, low / part % 10 = g := ⟨_, rfl⟩
  have hg0 : 0 ≤ g ∧ g < 10 := by omega
  have t3 : wrap64 (r + g) = r + g := by unfold wrap64; omega
  have hn0 : 0 ≤ r + g := by omega
  have d0 : 0 ≤ (r + g) / c := Int.ediv_nonneg hn0 (by omega)
  have d1 : (r + g) / c ≤ 10 := by
    have : (r + g) / c < 11 := Int.ediv_lt_of_lt_mul hc (by omega)
    omega
  have t4 : wrap64 (Int.tdiv (r + g) c) = (r + g) / c := by rw [Int.tdiv_eq_ediv_of_nonneg hn0]; unfold wrap64; omega
  have t5 : Int.tmod (r + g) c = (r + g) % c := Int.tmod_eq_emod_of_nonneg hn0
  have t6 : wrap64 (q + (r + g) / c) = q + (r + g) / c := by unfold wrap64; omega
  refine ⟨q + (r + g) / c, (r + g) % c, ?_, Int.emod_nonneg _ (by omega), Int.emod_lt_of_pos _ hc, by omega, by omega, ?_⟩
  · have := Int.mul_ediv_add_emod (r + g) c
    rw [Int.mul_comm] at this
    rw [hg, Int.add_mul]
    omega
  · have hl' : spec_l02MulDiv.l1 (k + 11) c low out rest part 0 0 0 = spec_l02MulDiv.l1 (k + 1) c low out rest part q r 10 := hl
    show spec_l02MulDiv.l0 (k + 11 + 1) c low out rest part = _
    simp only [spec_l02MulDiv.l0]
    rw [if_pos hp, hl']
    simp only [spec_l02MulDiv.l1]
    rw [if_neg (by omega), if_neg (by omega), if_neg (by omega), t1, t2, hg, t3, t4, t5, t6]
theorem mod_digit (low p : Nat) : low % (p * 10) = (low / p % 10) * p + low % p := by rw [Nat.mod_mul, Nat.mul_comm p (low / p % 10), Nat.add_comm]
theorem sd_l0 (c N : Int) (low : Nat) (hc : 0 < c) (hc' : c ≤ 1000000000000000000) (hl1 : low < 1000000000000000000) (hN : N < c * 1000000000000000000) (d : Nat) : ∀ (k : Nat) (out rest : Int), d ≤ 18 → 0 ≤ rest → rest < c → 0 ≤ out → (out * c + rest) * ((10 ^ d : Nat) : Int) + ((low % 10 ^ d : Nat) : Int) = N → 12 * d < k →
    spec_l02MulDiv.l0 k c low out rest ((10 ^ d / 10 : Nat) : Int) = some (N / c, true) := by
  induction d with
  | zero =>
    intro k out rest _ h0 h1 h2 he hk
    obtain ⟨k, rfl⟩ : ∃ m, k = m + 1 := ⟨k - 1, by omega⟩
    simp only [spec_l02MulDiv.l0]
    have e : out * c + rest = N := by rw [← he]; simp [Nat.mod_one]
    rw [if_neg (by simp), ← e, Int.add_comm, Int.add_mul_ediv_right _ _ (by omega), Int.ediv_eq_zero_of_lt h0 h1, Int.zero_add]
  | succ d ih =>
    intro k out rest hd h0 h1 h2 he hk
    obtain ⟨k, rfl⟩ : ∃ m, k = m + 12 := ⟨k - 12, by omega⟩
    have hp0 : 0 < 10 ^ d := Nat.pow_pos (by decide)
    have hpd : 10 ^ (d + 1) / 10 = 10 ^ d := by rw [Nat.pow_succ, Nat.mul_div_cancel _ (by decide)]
    have hpl : 10 ^ d ≤ 10 ^ 17 := Nat.pow_le_pow_right (by decide) (by omega)
    have p17 : (10 : Nat) ^ 17 = 100000000000000000 := by decide
    obtain ⟨q, r, e, r0, r1, q0, q1, hl⟩ := sd_round c low out rest ((10 ^ d : Nat) : Int) hc hc' (by omega) (by omega) h0 h1 (by omega) k
    have hdig : (low : Int) / ((10 ^ d : Nat) : Int) % 10 = ((low / 10 ^ d % 10 : Nat) : Int) := by omega
    have hmd := mod_digit low (10 ^ d)
    rw [← Nat.pow_succ] at hmd
    have he2 : ((out * 10 + q) * c + r) * ((10 ^ d : Nat) : Int) + ((low % 10 ^ d : Nat) : Int) = N := by
      have e3 : (out * 10 + q) * c + r = (out * c + rest) * 10 + ((low / 10 ^ d % 10 : Nat) : Int) := by
        rw [Int.add_mul, Int.mul_right_comm, ← hdig]
        omega
      rw [e3, Int.add_mul, Int.mul_assoc (out * c + rest), ← he, hmd, Nat.pow_succ]
      push_cast
      rw [Int.mul_comm 10 ((10 : Int) ^ d)]
      omega
    have hout : (out * 10 + q) * c < 1000000000000000000 * c := by
      have hm0 : 0 ≤ (out * 10 + q) * c + r := by
        have : 0 ≤ (out * 10 + q) * c := Int.mul_nonneg (by omega) (by omega)
        omega
      have : (out * 10 + q) * c + r ≤ ((out * 10 + q) * c + r) * ((10 ^ d : Nat) : Int) := by
        have := Int.mul_le_mul_of_nonneg_left (show (1 : Int) ≤ ((10 ^ d : Nat) : Int) by omega) hm0
        rw [Int.mul_one] at this
        exact this
      rw [Int.mul_comm c] at hN
      omega
    have hout' : out * 10 + q < 1000000000000000000 := Int.lt_of_mul_lt_mul_right hout (by omega)
    have w1 : wrap64 (out * 10) = out * 10 := by unfold wrap64; omega
    have w2 : wrap64 (out * 10 + q) = out * 10 + q := by unfold wrap64; omega
    have w3 : wrap64 (Int.tdiv ((10 ^ d : Nat) : Int) 10) = ((10 ^ d / 10 : Nat) : Int) := by
      rw [Int.tdiv_eq_ediv_of_nonneg (by omega)]
      generalize 10 ^ d = p at *
      unfold wrap64
      omega
    rw [hpd, hl, w1, w2, w3]
    exact ih k (out * 10 + q) r (by omega) r0 r1 (by omega) he2 (by omega)
theorem spec_div (a b c : Int) (ha0 : 0 ≤ a) (ha1 : a ≤ 1000000000000000000) (hb0 : 0 ≤ b) (hb1 : b ≤ 1000000000000000000) (hc : 0 < c) (hc' : c ≤ 1000000000000000000) (k : Nat) (hk : 216 < k) :
    spec_l02MulDiv.f k a b c = some (if a * b / 1000000000000000000 ≥ c then (1000000000000000000, decide (a * b / c ≤ 1000000000000000000)) else (a * b / c, true)) := by
  unfold spec_l02MulDiv.f
  rw [wide_eq a b ha0 ha1 hb0 hb1, Option.bind_some]
  have hn := Int.mul_nonneg ha0 hb0
  generalize a * b = p at *
  show (if p / 1000000000000000000 ≥ c then (if p / 1000000000000000000 = c then some (1000000000000000000, decide (p % 1000000000000000000 < c)) else some (1000000000000000000, false)) else spec_l02MulDiv.l0 k c (p % 1000000000000000000) 0 (p / 1000000000000000000) 100000000000000000) = _
  by_cases h : p / 1000000000000000000 ≥ c
  · rw [if_pos h, if_pos h]
    have hle : p / c ≤ 1000000000000000000 ↔ p < 1000000000000000001 * c := by
      rw [← Int.ediv_lt_iff_lt_mul hc]
      omega
    by_cases he : p / 1000000000000000000 = c
    · rw [if_pos he]
      congr 2
      rw [decide_eq_decide, hle]
      omega
    · rw [if_neg he]
      congr 2
      rw [eq_comm, decide_eq_false_iff_not, hle]
      omega
  · rw [if_neg h, if_neg h]
    obtain ⟨lo, hlo⟩ := Int.eq_ofNat_of_zero_le (show 0 ≤ p % 1000000000000000000 by omega)
    have e18 : (10 : Nat) ^ 18 = 1000000000000000000 := by decide
    have := sd_l0 c p lo hc hc' (by omega) (by omega) 18 k 0 (p / 1000000000000000000) (by omega) (by omega) (by omega) (by omega) (by rw [e18]; omega) (by omega)
    rw [e18] at this
    rw [hlo]
    exact this
end Go.Proofs.Ytfgnhghadghdkaa.Pure
