/- The pure statement of the law FnMulDiv: what its functions compute answers as the law says. -/
import Derived.Test.YtfgnhghadghdkaaQ10
import Derived.Test.YtfgnhghadghdkaaMd
import Derived.Test.YtfgnhghadghdkaaLess
import Derived.Test.YtfgnhghadghdkaaDraw
namespace Go.Proofs.Ytfgnhghadghdkaa.Pure
open Go.RowKit Go.Proofs.Ytfgnhghadghdkaa.Q Go.Proofs.YtfgnhghadghdkaaW.PrintWords Go.Proofs.YtfgnhghadghdkaaW.PrintLast
theorem md_tail (a b c : Int) (a0 : 0 ≤ a) (a1 : a ≤ 1000000000000000000) (b0 : 0 ≤ b) (b1 : b ≤ 1000000000000000000) (c0 : 1 ≤ c) (c1 : c ≤ 1000000000000000000) (k : Nat) (hk : 219 < k) : laws_FnMulDiv.j1 k a b c = some true := by
  obtain ⟨k, rfl⟩ : ∃ m, k = m + 2 := ⟨k - 2, by omega⟩
  have hp := Int.mul_nonneg a0 b0
  have hq : 0 ≤ a * b / c := Int.ediv_nonneg hp (by omega)
  have h1 := Int.ediv_mul_le (a * b) (show c ≠ 0 by omega)
  have h2 := Int.lt_ediv_add_one_mul_self (a * b) (show 0 < c by omega)
  have hm : amB a = true ∧ amB b = true ∧ soB c = true := ⟨amB_iff.2 ⟨a0, a1⟩, amB_iff.2 ⟨b0, b1⟩, soB_iff.2 ⟨c0, c1⟩⟩
  simp only [laws_FnMulDiv.j1]
  rw [impl_md a b c (k + 1) (by omega), Option.bind_some, spec_md a b c (k + 1) (by omega), Option.bind_some, if_pos rfl, bne_self_eq_false]
  simp only [laws_FnMulDiv.j2]
  rw [if_neg (by simp)]
  unfold mdN
  rw [if_pos hm]
  by_cases h : a * b / c ≤ 1000000000000000000
  · rw [if_pos h]
    simp only [if_true]
    rw [lawless_eq a b (a * b / c) c a0 a1 b0 b1 hq h (by omega) c1, Option.bind_some, decide_eq_false (by omega), if_neg (by simp)]
    by_cases he : a * b / c = 1000000000000000000
    · rw [if_pos he]
    · rw [if_neg he, dw (a * b / c + 1) (by omega) (by omega), lawless_eq a b (a * b / c + 1) c a0 a1 b0 b1 (by omega) (by omega) (by omega) c1, Option.bind_some, decide_eq_true (by exact h2)]
  · rw [if_neg h]
    simp only
    have h3 : 1000000000000000001 * c ≤ a * b / c * c := Int.mul_le_mul_of_nonneg_right (by omega) (by omega)
    rw [if_neg (by omega), if_pos trivial, lawless_eq 1000000000000000000 c a b (by omega) (by omega) (by omega) c1 a0 a1 b0 b1, Option.bind_some, decide_eq_true (by omega)]
theorem FnMulDiv : laws_FnMulDiv.Pure := by
  intro l m hl hl' hlw hm hm' hmw
  have bl := bytesOK_of hlw
  have bm := bytesOK_of hmw
  refine ⟨300 + 1, ?_⟩
  have hj : ∀ b : Bool, laws_FnMulDiv.j0 (300 + 1) l m b = some true := by
    intro b
    simp only [laws_FnMulDiv.j0]
    cases b with
    | true => rw [if_pos rfl]
    | false =>
      rw [if_neg (by simp)]
      obtain ⟨a, ea, a0, a1⟩ := amountOf_ok bl (by omega)
      obtain ⟨b, eb, b0, b1⟩ := amountOf_ok bm (by omega)
      obtain ⟨x, ex, x0, x1⟩ := at_ok bm (by omega) 3 1000 (by omega) (by omega) (by omega)
      obtain ⟨y, ey, y0, y1⟩ := at_ok bm (by omega) 4 2 (by omega) (by omega) (by omega)
      rw [ea, eb, ex, ey]
      simp only [Option.bind_some]
      by_cases h : y = 1
      · have b5 : bytesOK (([5] : List Int) ++ m) := by
          intro z hz
          rcases List.mem_append.1 hz with h1 | h1
          · simp at h1; omega
          · exact bm z h1
        have hlen : (([5] : List Int) ++ m).length = 1 + m.length := by simp; omega
        obtain ⟨c, ec, c0, c1⟩ := amountOf_ok b5 (by omega)
        have hmx : 1 ≤ mx 1 c ∧ mx 1 c ≤ 1000000000000000000 := by unfold mx; split <;> omega
        rw [if_pos h, if_pos (by simp; omega), ec]
        simp only [Option.bind_some]
        exact md_tail a b (mx 1 c) a0 a1 b0 b1 hmx.1 hmx.2 300 (by omega)
      · rw [if_neg h, dw (1 + x) (by omega) (by omega)]
        exact md_tail a b (1 + x) a0 a1 b0 b1 (by omega) (by omega) 300 (by omega)
  unfold laws_FnMulDiv.f
  by_cases h : (l.length : Int) > 1048576
  · rw [if_pos h]; exact hj _
  · rw [if_neg h]; exact hj _
end Go.Proofs.Ytfgnhghadghdkaa.Pure
