/- bits.Len64: how many digits of base 2 a number has. -/
import Derived.Test.YtfgnhghadghdkaaQ7
import Derived.Lib.Strings
import Derived.WideShapes
namespace Go.Proofs.Ytfgnhghadghdkaa.Pure
open Go.RowKit Go.Proofs.Ytfgnhghadghdkaa.Q Go.Proofs.YtfgnhghadghdkaaW.PrintWords Go.Proofs.YtfgnhghadghdkaaW.PrintLast
set_option linter.unusedVariables false
set_option maxRecDepth 100000
def lg (n : Nat) : Nat := if n = 0 then 0 else Nat.log2 n + 1
theorem lg_shift (x j : Nat) (h : 2 ^ j ≤ x) : lg x = j + lg (x / 2 ^ j) := by
  have hp : 0 < 2 ^ j := Nat.pow_pos (by decide)
  have h1 : 0 < x / 2 ^ j := Nat.div_pos h hp
  unfold lg
  rw [if_neg (by omega), if_neg (by omega), ← Nat.add_assoc]
  congr 1
  refine (Nat.log2_eq_iff (by omega)).2 ⟨?_, ?_⟩
  · have := Nat.log2_self_le (n := x / 2 ^ j) (by omega)
    rw [Nat.pow_add, Nat.mul_comm]
    exact (Nat.le_div_iff_mul_le hp).1 this
  · have := Nat.lt_log2_self (n := x / 2 ^ j)
    rw [Nat.add_assoc, Nat.pow_add, Nat.mul_comm]
    exact (Nat.div_lt_iff_lt_mul hp).1 this
theorem lg_le (x j : Nat) (h : x < 2 ^ j) : lg x ≤ j := by
  unfold lg
  split
  · omega
  · have := (Nat.log2_lt (by assumption)).2 h
    omega
theorem lg_of (x : Nat) (h : 0 < x) : 1 ≤ lg x ∧ 2 ^ (lg x - 1) ≤ x ∧ x < 2 ^ lg x := by
  unfold lg
  rw [if_neg (by omega)]
  exact ⟨by omega, by rw [Nat.add_sub_cancel]; exact Nat.log2_self_le (by omega), Nat.lt_log2_self⟩
noncomputable def TAB : ByteArray := ⟨#[0, 1, 2, 2, 3, 3, 3, 3, 4, 4, 4, 4, 4, 4, 4, 4, 5, 5, 5, 5, 5, 5, 5, 5, 5, 5, 5, 5, 5, 5, 5, 5, 6, 6, 6, 6, 6, 6, 6, 6, 6, 6, 6, 6, 6, 6, 6, 6, 6, 6, 6, 6, 6, 6, 6, 6, 6, 6, 6, 6, 6, 6, 6, 6, 7, 7, 7, 7, 7, 7, 7, 7, 7, 7, 7, 7, 7, 7, 7, 7, 7, 7, 7, 7, 7, 7, 7, 7, 7, 7, 7, 7, 7, 7, 7, 7, 7, 7, 7, 7, 7, 7, 7, 7, 7, 7, 7, 7, 7, 7, 7, 7, 7, 7, 7, 7, 7, 7, 7, 7, 7, 7, 7, 7, 7, 7, 7, 7, 8, 8, 8, 8, 8, 8, 8, 8, 8, 8, 8, 8, 8, 8, 8, 8, 8, 8, 8, 8, 8, 8, 8, 8, 8, 8, 8, 8, 8, 8, 8, 8, 8, 8, 8, 8, 8, 8, 8, 8, 8, 8, 8, 8, 8, 8, 8, 8, 8, 8, 8, 8, 8, 8, 8, 8, 8, 8, 8, 8, 8, 8, 8, 8, 8, 8, 8, 8, 8, 8, 8, 8, 8, 8, 8, 8, 8, 8, 8, 8, 8, 8, 8, 8, 8, 8, 8, 8, 8, 8, 8, 8, 8, 8, 8, 8, 8, 8, 8, 8, 8, 8, 8, 8, 8, 8, 8, 8, 8, 8, 8, 8, 8, 8, 8, 8, 8, 8, 8, 8, 8, 8, 8, 8, 8, 8, 8, 8]⟩
theorem tab_fin : ∀ i : Fin 256, bt (⟨#[0, 1, 2, 2, 3, 3, 3, 3, 4, 4, 4, 4, 4, 4, 4, 4, 5, 5, 5, 5, 5, 5, 5, 5, 5, 5, 5, 5, 5, 5, 5, 5, 6, 6, 6, 6, 6, 6, 6, 6, 6, 6, 6, 6, 6, 6, 6, 6, 6, 6, 6, 6, 6, 6, 6, 6, 6, 6, 6, 6, 6, 6, 6, 6, 7, 7, 7, 7, 7, 7, 7, 7, 7, 7, 7, 7, 7, 7, 7, 7, 7, 7, 7, 7, 7, 7, 7, 7, 7, 7, 7, 7, 7, 7, 7, 7, 7, 7, 7, 7, 7, 7, 7, 7, 7, 7, 7, 7, 7, 7, 7, 7, 7, 7, 7, 7, 7, 7, 7, 7, 7, 7, 7, 7, 7, 7, 7, 7, 8, 8, 8, 8, 8, 8, 8, 8, 8, 8, 8, 8, 8, 8, 8, 8, 8, 8, 8, 8, 8, 8, 8, 8, 8, 8, 8, 8, 8, 8, 8, 8, 8, 8, 8, 8, 8, 8, 8, 8, 8, 8, 8, 8, 8, 8, 8, 8, 8, 8, 8, 8, 8, 8, 8, 8, 8, 8, 8, 8, 8, 8, 8, 8, 8, 8, 8, 8, 8, 8, 8, 8, 8, 8, 8, 8, 8, 8, 8, 8, 8, 8, 8, 8, 8, 8, 8, 8, 8, 8, 8, 8, 8, 8, 8, 8, 8, 8, 8, 8, 8, 8, 8, 8, 8, 8, 8, 8, 8, 8, 8, 8, 8, 8, 8, 8, 8, 8, 8, 8, 8, 8, 8, 8, 8, 8, 8, 8]⟩ : ByteArray) ((i : Nat) : Int) = ((lg i : Nat) : Int) := by decide +kernel
theorem tab_at (i : Nat) (h : i < 256) : bt TAB (i : Int) = ((lg i : Nat) : Int) := tab_fin ⟨i, h⟩
theorem len_step (x n : Int) (k : Nat) : bits_Len64.j0 (k + 1) x n = if x ≥ 65536 then (if (x / 65536) ≥ 256 then (if 0 ≤ (((x / 65536) / 256) % 256) then (if (((x / 65536) / 256) % 256) < 256 then (some (wrap64 ((wrap64 ((wrap64 (n + 16)) + 8)) + (wrap64 (bt TAB (((x / 65536) / 256) % 256)))))) else (none)) else (none)) else (if 0 ≤ ((x / 65536) % 256) then (if ((x / 65536) % 256) < 256 then (some (wrap64 ((wrap64 (n + 16)) + (wrap64 (bt TAB ((x / 65536) % 256)))))) else (none)) else (none))) else (if x ≥ 256 then (if 0 ≤ ((x / 256) % 256) then (if ((x / 256) % 256) < 256 then (some (wrap64 ((wrap64 (n + 8)) + (wrap64 (bt TAB ((x / 256) % 256)))))) else (none)) else (none)) else (if 0 ≤ ((x) % 256) then (if ((x) % 256) < 256 then (some (wrap64 (n + (wrap64 (bt TAB ((x) % 256)))))) else (none)) else (none))) := by
  conv => lhs; unfold bits_Len64.j0
  unfold TAB
  rfl
theorem ln0 (n m : Nat) (h : n ≤ 32) (hm : m ≤ 100) : wrap64 ((n : Int) + wrap64 (m : Int)) = ((n + m : Nat) : Int) := by unfold wrap64; omega
theorem ln1 (n m : Nat) (h : n ≤ 32) (hm : m ≤ 100) : wrap64 (wrap64 ((n : Int) + 8) + wrap64 (m : Int)) = ((n + (8 + m) : Nat) : Int) := by unfold wrap64; omega
theorem ln2 (n m : Nat) (h : n ≤ 32) (hm : m ≤ 100) : wrap64 (wrap64 ((n : Int) + 16) + wrap64 (m : Int)) = ((n + (16 + m) : Nat) : Int) := by unfold wrap64; omega
theorem ln3 (n m : Nat) (h : n ≤ 32) (hm : m ≤ 100) : wrap64 (wrap64 (wrap64 ((n : Int) + 16) + 8) + wrap64 (m : Int)) = ((n + (16 + (8 + m)) : Nat) : Int) := by unfold wrap64; omega
theorem len_j0 (x n k : Nat) (hx : x < 4294967296) (hn : n ≤ 32) : bits_Len64.j0 (k + 1) (x : Int) (n : Int) = some ((n + lg x : Nat) : Int) := by
  rw [len_step]
  by_cases h1 : x ≥ 65536
  · have e1 : (x : Int) / 65536 = ((x / 65536 : Nat) : Int) := by omega
    rw [if_pos (by omega), e1]
    have l1 := lg_shift x 16 (by omega)
    have p1 : (2 : Nat) ^ 16 = 65536 := by decide
    rw [p1] at l1
    by_cases h2 : x / 65536 ≥ 256
    · have l2 := lg_shift (x / 65536) 8 (by omega)
      have p2 : (2 : Nat) ^ 8 = 256 := by decide
      rw [p2] at l2
      have e2 : ((x / 65536 : Nat) : Int) / 256 % 256 = ((x / 65536 / 256 : Nat) : Int) := by omega
      have hl := lg_le (x / 65536 / 256) 8 (by omega)
      rw [if_pos (by omega), e2, if_pos (by omega), if_pos (by omega), tab_at _ (by omega), ln3 _ _ hn (by omega), l1, l2]
    · have e2 : ((x / 65536 : Nat) : Int) % 256 = ((x / 65536 : Nat) : Int) := by omega
      have hl := lg_le (x / 65536) 8 (by omega)
      rw [if_neg (by omega), e2, if_pos (by omega), if_pos (by omega), tab_at _ (by omega), ln2 _ _ hn (by omega), l1]
  · rw [if_neg (by omega)]
    by_cases h2 : x ≥ 256
    · have l2 := lg_shift x 8 (by omega)
      have p2 : (2 : Nat) ^ 8 = 256 := by decide
      rw [p2] at l2
      have e2 : (x : Int) / 256 % 256 = ((x / 256 : Nat) : Int) := by omega
      have hl := lg_le (x / 256) 8 (by omega)
      rw [if_pos (by omega), e2, if_pos (by omega), if_pos (by omega), tab_at _ (by omega), ln1 _ _ hn (by omega), l2]
    · have e2 : (x : Int) % 256 = (x : Int) := by omega
      have hl := lg_le x 8 (by omega)
      rw [if_neg (by omega), e2, if_pos (by omega), if_pos (by omega), tab_at _ (by omega), ln0 _ _ hn (by omega)]
theorem len64_eq (x k : Nat) (hx : x < 18446744073709551616) : bits_Len64.f (k + 1) (x : Int) = some ((lg x : Nat) : Int) := by
  unfold bits_Len64.f
  by_cases h : x ≥ 4294967296
  · have e1 : (x : Int) / 4294967296 = ((x / 4294967296 : Nat) : Int) := by omega
    have l1 := lg_shift x 32 (by omega)
    have p1 : (2 : Nat) ^ 32 = 4294967296 := by decide
    rw [p1] at l1
    rw [if_pos (by omega), e1, l1]
    exact len_j0 (x / 4294967296) 32 k (by omega) (by omega)
  · rw [if_neg (by omega)]
    have := len_j0 x 0 k (by omega) (by omega)
    rw [Nat.zero_add] at this
    exact this
theorem lead_eq (x k : Nat) (hx : x < 18446744073709551616) : bits_LeadingZeros64.f (k + 1) (x : Int) = some ((64 - lg x : Nat) : Int) := by
  unfold bits_LeadingZeros64.f
  have hl := lg_le x 64 (by omega)
  rw [len64_eq x k hx, Option.bind_some]
  generalize lg x = m at *
  congr 1
  unfold wrap64
  omega
end Go.Proofs.Ytfgnhghadghdkaa.Pure
