/- What the two MulDiv functions compute: one and the same. -/
import Derived.Test.YtfgnhghadghdkaaQ6
import Derived.Test.YtfgnhghadghdkaaQ8
import Derived.Test.YtfgnhghadghdkaaMul
import Derived.Test.YtfgnhghadghdkaaDvs
import Derived.Test.YtfgnhghadghdkaaSpd
namespace Go.Proofs.Ytfgnhghadghdkaa.Pure
open Go.RowKit Go.Proofs.Ytfgnhghadghdkaa.Q Go.Proofs.YtfgnhghadghdkaaW.PrintWords Go.Proofs.YtfgnhghadghdkaaW.PrintLast
set_option linter.unusedVariables false
def amB (a : Int) : Bool := decide (0 ≤ a) && decide (a ≤ 1000000000000000000)
def soB (a : Int) : Bool := decide (1 ≤ a) && decide (a ≤ 1000000000000000000)
theorem amB_iff {a : Int} : amB a = true ↔ 0 ≤ a ∧ a ≤ 1000000000000000000 := by unfold amB; simp
theorem soB_iff {a : Int} : soB a = true ↔ 1 ≤ a ∧ a ≤ 1000000000000000000 := by unfold soB; simp
theorem spec_am (a : Int) : spec_l02Amount.f a = some (amB a) := by
  unfold spec_l02Amount.f spec_l01In.f amB
  by_cases h : a ≥ 0
  · rw [if_pos h, decide_eq_true (show 0 ≤ a from h), Bool.true_and]; rfl
  · rw [if_neg h, decide_eq_false (show ¬ 0 ≤ a from h), Bool.false_and]; rfl
theorem impl_am (a : Int) : impl_isAmount.f a = some (amB a) := by
  unfold impl_isAmount.f impl_within.f amB
  by_cases h : a ≥ 0
  · rw [if_pos h, decide_eq_true (show 0 ≤ a from h), Bool.true_and]; rfl
  · rw [if_neg h, decide_eq_false (show ¬ 0 ≤ a from h), Bool.false_and]; rfl
theorem spec_so (a : Int) : spec_l01In.f a 1 1000000000000000000 = some (soB a) := by
  unfold spec_l01In.f soB
  by_cases h : a ≥ 1
  · rw [if_pos h, decide_eq_true (show 1 ≤ a from h), Bool.true_and]
  · rw [if_neg h, decide_eq_false (show ¬ 1 ≤ a from h), Bool.false_and]
theorem impl_so (a : Int) : impl_isSome.f a = some (soB a) := by
  unfold impl_isSome.f impl_within.f soB
  by_cases h : a ≥ 1
  · rw [if_pos h, decide_eq_true (show 1 ≤ a from h), Bool.true_and]; rfl
  · rw [if_neg h, decide_eq_false (show ¬ 1 ≤ a from h), Bool.false_and]; rfl
def mdN (a b c : Int) : Int × Int := if amB a = true ∧ amB b = true ∧ soB c = true then (if a * b / c ≤ 1000000000000000000 then (a * b / c, 0) else (0, 13)) else (0, 4)
theorem spec_md (a b c : Int) (k : Nat) (hk : 217 < k) : spec_MulDiv.f k a b c = some (mdN a b c) := by
  obtain ⟨k, rfl⟩ : ∃ m, k = m + 1 := ⟨k - 1, by omega⟩
  unfold spec_MulDiv.f mdN
  rw [spec_am, spec_am, spec_so]
  simp only [Option.bind_some]
  by_cases h1 : amB a = true
  · by_cases h2 : amB b = true
    · by_cases h3 : soB c = true
      · have b1 := amB_iff.1 h1
        have b2 := amB_iff.1 h2
        have b3 := soB_iff.1 h3
        have hn := Int.mul_nonneg b1.1 b2.1
        rw [if_pos h1, if_pos h2, if_pos ⟨h1, h2, h3⟩, h3]
        simp only [spec_MulDiv.j0]
        rw [if_neg (by simp), spec_div a b c b1.1 b1.2 b2.1 b2.2 (by omega) b3.2 k (by omega), Option.bind_some]
        generalize a * b = p at *
        by_cases h : p / 1000000000000000000 ≥ c
        · rw [if_pos h]
          have hge : 1000000000000000000 ≤ p / c := by
            refine (Int.le_ediv_iff_mul_le (by omega)).2 ?_
            have := Int.mul_ediv_self_le (x := p) (k := 1000000000000000000) (by decide)
            omega
          by_cases h' : p / c ≤ 1000000000000000000
          · rw [if_pos h', decide_eq_true h', show p / c = 1000000000000000000 by omega]; rfl
          · rw [if_neg h', decide_eq_false h']; rfl
        · rw [if_neg h]
          have hlt : p / c < 1000000000000000000 := Int.ediv_lt_of_lt_mul (by omega) (by
            have := Int.lt_ediv_add_one_mul_self p (show (0 : Int) < 1000000000000000000 by decide)
            omega)
          rw [if_pos rfl, if_pos (by omega)]
      · rw [if_pos h1, if_pos h2, if_neg (fun h => h3 h.2.2), Bool.eq_false_iff.2 h3]
        simp [spec_MulDiv.j0]
    · rw [if_pos h1, if_neg h2, if_neg (fun h => h2 h.2.1)]
      simp [spec_MulDiv.j0]
  · rw [if_neg h1, if_neg (fun h => h1 h.1)]
    simp [spec_MulDiv.j0]
theorem impl_md (a b c : Int) (k : Nat) (hk : 14 < k) : impl_MulDiv.f k a b c = some (mdN a b c) := by
  obtain ⟨k, rfl⟩ : ∃ m, k = m + 1 := ⟨k - 1, by omega⟩
  unfold impl_MulDiv.f mdN
  rw [impl_am, impl_am, impl_so]
  simp only [Option.bind_some]
  by_cases h1 : amB a = true
  · by_cases h2 : amB b = true
    · by_cases h3 : soB c = true
      · have b1 := amB_iff.1 h1
        have b2 := amB_iff.1 h2
        have b3 := soB_iff.1 h3
        have hn := Int.mul_nonneg b1.1 b2.1
        have m := mul64_eq a b b1.1 (by omega) b2.1 (by omega)
        rw [if_pos h1, if_pos h2, if_pos ⟨h1, h2, h3⟩, h3]
        simp only [impl_MulDiv.j0]
        rw [if_neg (by simp), u64in a b1.1 (by omega), u64in b b2.1 (by omega), u64in c (by omega) (by omega), m, Option.bind_some]
        generalize a * b = p at *
        have e : p / 18446744073709551616 * 18446744073709551616 + p % 18446744073709551616 = p := by omega
        show (if p / 18446744073709551616 ≥ c then some (0, 13) else (bits_Div64.f k (p / 18446744073709551616) (p % 18446744073709551616) c).bind fun bt241 => (if bt241.1 > 1000000000000000000 then (some (0, 13)) else (some (wrap64 (bt241.1), 0)))) = _
        by_cases h : p / 18446744073709551616 ≥ c
        · have hge : 18446744073709551616 ≤ p / c := by
            refine (Int.le_ediv_iff_mul_le (by omega)).2 ?_
            omega
          rw [if_pos h, if_neg (by omega)]
        · obtain ⟨z, hz⟩ := div64_eq (p / 18446744073709551616) (p % 18446744073709551616) c (by omega) (by omega) (by omega) (by omega) (by omega) (by omega)
          rw [if_neg h, hz k (by omega), e, Option.bind_some]
          have hq : 0 ≤ p / c := Int.ediv_nonneg hn (by omega)
          by_cases h' : p / c ≤ 1000000000000000000
          · rw [if_neg (by simp only; omega), if_pos h']
            simp only
            rw [w64 _ hq (by omega)]
          · rw [if_pos (by simp only; omega), if_neg h']
      · rw [if_pos h1, if_pos h2, if_neg (fun h => h3 h.2.2), Bool.eq_false_iff.2 h3]
        simp [impl_MulDiv.j0]
    · rw [if_pos h1, if_neg h2, if_neg (fun h => h2 h.2.1)]
      simp [impl_MulDiv.j0]
  · rw [if_neg h1, if_neg (fun h => h1 h.1)]
    simp [impl_MulDiv.j0]
end Go.Proofs.Ytfgnhghadghdkaa.Pure
