/- bits.Div64: the two digits of base 2^32. -/
import Derived.Test.YtfgnhghadghdkaaQ1
import Derived.Test.YtfgnhghadghdkaaQ7
import Derived.Test.YtfgnhghadghdkaaMul
namespace Go.Proofs.Ytfgnhghadghdkaa.Pure
open Go.RowKit Go.Proofs.Ytfgnhghadghdkaa.Q Go.Proofs.YtfgnhghadghdkaaW.PrintWords Go.Proofs.YtfgnhghadghdkaaW.PrintLast
set_option linter.unusedVariables false
/-- What a digit's test tells. -/
theorem digit_less (y y1 y0 u d q r : Int) (hy : y = y1 * 4294967296 + y0) (hu : u < y) (hu0 : 0 ≤ u) (hd1 : d < 4294967296) (hq : q * y1 + r = u) (h : 4294967296 ≤ q ∨ 4294967296 * r + d < q * y0) (hy0 : 0 < y) : u * 4294967296 + d < q * y := by
  rcases h with h | h
  · have h1 : 4294967296 * y ≤ q * y := Int.mul_le_mul_of_nonneg_right h (by omega)
    omega
  · have e : q * y = (q * y1) * 4294967296 + q * y0 := by rw [hy, Int.mul_add, Int.mul_assoc]
    generalize q * y = a at *
    generalize q * y1 = b at *
    generalize q * y0 = c at *
    omega
theorem digit_more (y y1 y0 u d q r : Int) (hy : y = y1 * 4294967296 + y0) (hq : q * y1 + r = u) (h : q * y0 ≤ 4294967296 * r + d) : q * y ≤ u * 4294967296 + d := by
  have e : q * y = (q * y1) * 4294967296 + q * y0 := by rw [hy, Int.mul_add, Int.mul_assoc]
  generalize q * y = a at *
  generalize q * y1 = b at *
  generalize q * y0 = c at *
  omega
theorem digit_far (y y1 y0 u d q r : Int) (hy : y = y1 * 4294967296 + y0) (hq : q * y1 + r = u) (hq0 : 0 ≤ q) (hq1 : q ≤ 4294967296) (h0 : 0 ≤ y0) (h1 : y0 < 4294967296) (hr : 4294967296 ≤ r) (hd : 0 ≤ d) : q * y ≤ u * 4294967296 + d := by
  refine digit_more y y1 y0 u d q r hy hq ?_
  have : q * y0 ≤ 4294967296 * 4294967295 := mul_le hq0 h0 hq1 (by omega)
  omega
/-- The first digit's loop ends at the digit. -/
theorem div_l0 (y s y1 y0 u d e : Int) (hy : y = y1 * 4294967296 + y0) (h1 : 2147483648 ≤ y1) (h1' : y1 < 4294967296) (h0 : 0 ≤ y0) (h0' : y0 < 4294967296) (hu0 : 0 ≤ u) (hu : u < y) (hd0 : 0 ≤ d) (hd : d < 4294967296)
    (m : Nat) (v : Option (Int × Int)) (t : Nat) : ∀ (k : Nat) (q r : Int), 4294967296 ≤ r + t * 2147483648 → m + 2 * t ≤ k → q * y1 + r = u → (u * 4294967296 + d) / y ≤ q → 0 ≤ q → q ≤ 4294967297 → 0 ≤ r → r < 4294967296 →
    (∀ k, m ≤ k → bits_Div64.j2 k y s y1 y0 u d e ((u * 4294967296 + d) / y) = v) → bits_Div64.l0 (k + 2) y s y1 y0 u d e q r = v := by
  have hy0 : 0 < y := by omega
  induction t with
  | zero => intro k q r h; intros; omega
  | succ t ih =>
    intro k q r ht hk hq hQ hq0 hq1 hr0 hr hj
    have hc : (q + -1) * y1 + (r + y1) = u := by rw [Int.add_mul]; omega
    have f1 := digit_less y y1 y0 u d q r hy hu hu0 hd hq
    have f2 := digit_more y y1 y0 u d q r hy hq
    have hQ0 : 0 ≤ (u * 4294967296 + d) / y := Int.ediv_nonneg (by omega) (by omega)
    have wr : IntKind.u64.wrap (r + y1) = r + y1 := u64in _ (by omega) (by omega)
    have step : (4294967296 ≤ q ∨ 4294967296 * r + d < q * y0) → bits_Div64.j1 (k + 1) y s y1 y0 u d e q r true = v := by
      intro hT
      have hlt : (u * 4294967296 + d) / y < q := Int.ediv_lt_of_lt_mul hy0 (f1 hT hy0)
      have wq : IntKind.u64.wrap (q - 1) = q + -1 := by rw [show q - 1 = q + -1 by omega]; exact u64in _ (by omega) (by omega)
      simp only [bits_Div64.j1, if_true]
      rw [wr, wq]
      by_cases hb : r + y1 ≥ 4294967296
      · have f3 := digit_far y y1 y0 u d (q + -1) (r + y1) hy hc (by omega) (by omega) h0 h0' hb hd0
        have hle : q + -1 ≤ (u * 4294967296 + d) / y := Int.le_ediv_of_mul_le hy0 f3
        rw [if_pos hb, show q + -1 = (u * 4294967296 + d) / y by omega]
        exact hj k (by omega)
      · rw [if_neg hb]
        obtain ⟨k, rfl⟩ : ∃ n, k = n + 2 := ⟨k - 2, by omega⟩
        exact ih k (q + -1) (r + y1) (by omega) (by omega) hc (by omega) (by omega) (by omega) (by omega) (by omega) hj
    rw [show k + 2 = k + 1 + 1 by omega]
    simp only [bits_Div64.l0]
    by_cases hB : q ≥ 4294967296
    · rw [if_pos hB]; exact step (.inl hB)
    · have hz : q * y0 ≤ 4294967295 * 4294967295 := mul_le hq0 h0 (by omega) (by omega)
      have hz0 : 0 ≤ q * y0 := Int.mul_nonneg hq0 h0
      rw [if_neg hB, u64in (q * y0) hz0 (by omega), u64in (4294967296 * r) (by omega) (by omega), u64in (4294967296 * r + d) (by omega) (by omega)]
      by_cases hT : q * y0 > 4294967296 * r + d
      · rw [decide_eq_true hT]; exact step (.inr hT)
      · rw [decide_eq_false hT]
        have hle : q ≤ (u * 4294967296 + d) / y := Int.le_ediv_of_mul_le hy0 (f2 (by omega))
        simp only [bits_Div64.j1]
        rw [if_neg (by simp), show q = (u * 4294967296 + d) / y by omega]
        exact hj k (by omega)
/-- The second digit's loop. -/
theorem div_l1 (y s y1 y0 u e Q : Int) (hs : 0 ≤ s) (hy : y = y1 * 4294967296 + y0) (h1 : 2147483648 ≤ y1) (h1' : y1 < 4294967296) (h0 : 0 ≤ y0) (h0' : y0 < 4294967296) (hu0 : 0 ≤ u) (hu : u < y) (hd0 : 0 ≤ e) (hd : e < 4294967296)
    (t : Nat) : ∀ (k : Nat) (q r : Int), 4294967296 ≤ r + t * 2147483648 → 2 * t ≤ k → q * y1 + r = u → (u * 4294967296 + e) / y ≤ q → 0 ≤ q → q ≤ 4294967297 → 0 ≤ r → r < 4294967296 →
    bits_Div64.l1 (k + 2) y s y1 y0 e Q r u q = some (IntKind.u64.wrap ((IntKind.u64.wrap (Q * 4294967296)) + (u * 4294967296 + e) / y), shr .u64 (IntKind.u64.wrap ((IntKind.u64.wrap ((IntKind.u64.wrap (u * 4294967296)) + e)) - (IntKind.u64.wrap ((u * 4294967296 + e) / y * y)))) s) := by
  have hy0 : 0 < y := by omega
  induction t with
  | zero => intro k q r h; intros; omega
  | succ t ih =>
    intro k q r ht hk hq hQ hq0 hq1 hr0 hr
    have hc : (q + -1) * y1 + (r + y1) = u := by rw [Int.add_mul]; omega
    have f1 := digit_less y y1 y0 u e q r hy hu hu0 hd hq
    have f2 := digit_more y y1 y0 u e q r hy hq
    have hQ0 : 0 ≤ (u * 4294967296 + e) / y := Int.ediv_nonneg (by omega) (by omega)
    have wr : IntKind.u64.wrap (r + y1) = r + y1 := u64in _ (by omega) (by omega)
    have step : (4294967296 ≤ q ∨ 4294967296 * r + e < q * y0) → bits_Div64.j4 (k + 1) y s y1 y0 e Q r u q true = some (IntKind.u64.wrap ((IntKind.u64.wrap (Q * 4294967296)) + (u * 4294967296 + e) / y), shr .u64 (IntKind.u64.wrap ((IntKind.u64.wrap ((IntKind.u64.wrap (u * 4294967296)) + e)) - (IntKind.u64.wrap ((u * 4294967296 + e) / y * y)))) s) := by
      intro hT
      have hlt : (u * 4294967296 + e) / y < q := Int.ediv_lt_of_lt_mul hy0 (f1 hT hy0)
      have wq : IntKind.u64.wrap (q - 1) = q + -1 := by rw [show q - 1 = q + -1 by omega]; exact u64in _ (by omega) (by omega)
      simp only [bits_Div64.j4, if_true]
      rw [wr, wq]
      by_cases hb : r + y1 ≥ 4294967296
      · have f3 := digit_far y y1 y0 u e (q + -1) (r + y1) hy hc (by omega) (by omega) h0 h0' hb hd0
        have hle : q + -1 ≤ (u * 4294967296 + e) / y := Int.le_ediv_of_mul_le hy0 f3
        rw [if_pos hb, if_pos hs, show q + -1 = (u * 4294967296 + e) / y by omega]
      · rw [if_neg hb]
        obtain ⟨k, rfl⟩ : ∃ n, k = n + 2 := ⟨k - 2, by omega⟩
        exact ih k (q + -1) (r + y1) (by omega) (by omega) hc (by omega) (by omega) (by omega) (by omega) (by omega)
    rw [show k + 2 = k + 1 + 1 by omega]
    simp only [bits_Div64.l1]
    by_cases hB : q ≥ 4294967296
    · rw [if_pos hB]; exact step (.inl hB)
    · have hz : q * y0 ≤ 4294967295 * 4294967295 := mul_le hq0 h0 (by omega) (by omega)
      have hz0 : 0 ≤ q * y0 := Int.mul_nonneg hq0 h0
      rw [if_neg hB, u64in (q * y0) hz0 (by omega), u64in (4294967296 * r) (by omega) (by omega), u64in (4294967296 * r + e) (by omega) (by omega)]
      by_cases hT : q * y0 > 4294967296 * r + e
      · rw [decide_eq_true hT]; exact step (.inr hT)
      · rw [decide_eq_false hT]
        have hle : q ≤ (u * 4294967296 + e) / y := Int.le_ediv_of_mul_le hy0 (f2 (by omega))
        simp only [bits_Div64.j4]
        rw [if_neg (by simp), if_pos hs, show q = (u * 4294967296 + e) / y by omega]
/-- Where a digit's loop begins. -/
theorem div_start (y y1 y0 u d : Int) (hy : y = y1 * 4294967296 + y0) (h1 : 2147483648 ≤ y1) (h1' : y1 < 4294967296) (h0 : 0 ≤ y0) (h0' : y0 < 4294967296) (hu0 : 0 ≤ u) (hu : u < y) (hd0 : 0 ≤ d) (hd : d < 4294967296) :
    IntKind.u64.wrap (Int.tdiv u y1) = u / y1 ∧ IntKind.u64.wrap (u - IntKind.u64.wrap (u / y1 * y1)) = u % y1 ∧ u / y1 * y1 + u % y1 = u ∧ (u * 4294967296 + d) / y ≤ u / y1 ∧ 0 ≤ u / y1 ∧ u / y1 ≤ 4294967297 ∧ 0 ≤ u % y1 ∧ u % y1 < 4294967296 := by
  have hy0 : 0 < y1 := by omega
  have hm := Int.emod_nonneg u (show y1 ≠ 0 by omega)
  have hm' := Int.emod_lt_of_pos u hy0
  have hq0 : 0 ≤ u / y1 := Int.ediv_nonneg hu0 (by omega)
  have hqm : u / y1 * y1 + u % y1 = u := by rw [Int.mul_comm]; exact Int.mul_ediv_add_emod u y1
  have hq : u / y1 ≤ 4294967297 := by
    have : u / y1 < 4294967298 := Int.ediv_lt_of_lt_mul hy0 (by omega)
    omega
  have hQ0 : 0 ≤ (u * 4294967296 + d) / y := Int.ediv_nonneg (by omega) (by omega)
  have hQ : (u * 4294967296 + d) / y ≤ u / y1 := by
    refine Int.le_ediv_of_mul_le hy0 ?_
    have hle : (u * 4294967296 + d) / y * y ≤ u * 4294967296 + d := Int.ediv_mul_le _ (by omega)
    have e : (u * 4294967296 + d) / y * y = ((u * 4294967296 + d) / y * y1) * 4294967296 + (u * 4294967296 + d) / y * y0 := by rw [congrArg ((u * 4294967296 + d) / y * ·) hy, Int.mul_add, Int.mul_assoc]
    have hn : 0 ≤ (u * 4294967296 + d) / y * y0 := Int.mul_nonneg hQ0 h0
    generalize (u * 4294967296 + d) / y * y = a at *
    generalize (u * 4294967296 + d) / y * y0 = b at *
    generalize (u * 4294967296 + d) / y * y1 = c at *
    omega
  refine ⟨?_, ?_, hqm, hQ, hq0, hq, hm, by omega⟩
  · rw [Int.tdiv_eq_ediv_of_nonneg hu0]; exact u64in _ hq0 (by omega)
  · have ha : 0 ≤ u / y1 * y1 := Int.mul_nonneg hq0 (by omega)
    generalize u / y1 * y1 = a at *
    rw [u64in a (by omega) (by omega), show u - a = u % y1 by omega]
    exact u64in _ hm (by omega)
/-- The rest behind the first digit. -/
theorem div_rest (y u d : Int) (hy : 0 < y) (hy' : y < 18446744073709551616) (hu0 : 0 ≤ u) (hd0 : 0 ≤ d) (hd : d < 4294967296) :
    IntKind.u64.wrap ((IntKind.u64.wrap ((IntKind.u64.wrap (u * 4294967296)) + d)) - (IntKind.u64.wrap ((u * 4294967296 + d) / y * y))) = (u * 4294967296 + d) % y := by
  have hm := Int.emod_nonneg (u * 4294967296 + d) (show y ≠ 0 by omega)
  have hm' := Int.emod_lt_of_pos (u * 4294967296 + d) hy
  have hqm : (u * 4294967296 + d) / y * y + (u * 4294967296 + d) % y = u * 4294967296 + d := by rw [Int.mul_comm]; exact Int.mul_ediv_add_emod _ y
  simp only [u64w]
  generalize (u * 4294967296 + d) / y * y = a at *
  generalize (u * 4294967296 + d) % y = b at *
  omega
end Go.Proofs.Ytfgnhghadghdkaa.Pure
