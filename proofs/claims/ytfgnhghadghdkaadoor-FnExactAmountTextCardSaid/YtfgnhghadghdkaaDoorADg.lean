/- The reference's digits are the library's. -/
import Derived.Test.YtfgnhghadghdkaaDoorA1
import Derived.Lib.ItoaNum
import Derived.Lib.Strings
import Derived.WideShapes
namespace Go.Proofs.YtfgnhghadghdkaaDoor.Pure
open Go.RowKit Go.Proofs.YtfgnhghadghdkaaDoor.A Go.Proofs.YtfgnhghadghdkaaDoorW.PrintWords Go.Proofs.YtfgnhghadghdkaaDoorW.PrintLast
set_option linter.unusedVariables false
def digT (n : Nat) : ByteArray := ⟨(Lib.decDigits n).toArray⟩
theorem dd_small {n : Nat} (h : n < 10) : Lib.decDigits n = [UInt8.ofNat (48 + n)] := by rw [Lib.decDigits, dif_pos h]
theorem dd_big {n : Nat} (h : ¬ n < 10) : Lib.decDigits n = Lib.decDigits (n / 10) ++ [UInt8.ofNat (48 + n % 10)] := by rw [Lib.decDigits, dif_neg h]
theorem dd_len : ∀ (k n : Nat), 1 ≤ k → n < 10 ^ k → (Lib.decDigits n).length ≤ k := by
  intro k
  induction k with
  | zero => intro n h; omega
  | succ k ih =>
    intro n _ hn
    by_cases h : n < 10
    · rw [dd_small h]
      simp
    · rw [dd_big h, List.length_append]
      have hk : 1 ≤ k := by
        rcases Nat.eq_zero_or_pos k with rfl | h1
        · simp at hn
          omega
        · exact h1
      have := ih (n / 10) hk (by rw [Nat.pow_succ] at hn; omega)
      simp
      omega
theorem one_num (n : Nat) (h : n < 10) : strOfNums ([(wrap64 (48 + (n : Int))) % 256] : List Int) = ⟨([UInt8.ofNat (48 + n)] : List UInt8).toArray⟩ := by
  have e : (wrap64 (48 + (n : Int))) % 256 = ((48 + n : Nat) : Int) := by unfold wrap64; omega
  rw [e]
  unfold strOfNums
  rw [List.map_cons, List.map_nil, Int.toNat_natCast]
theorem digits_eq : ∀ (k n : Nat), 1 ≤ k → k ≤ 30 → n < 10 ^ k → n ≤ 9223372036854775807 → spec_l00Digits.f k (n : Int) = some (digT n) := by
  intro k
  induction k with
  | zero => intro n h; omega
  | succ k ih =>
    intro n _ hk30 hn hmax
    simp only [spec_l00Digits.f]
    rw [if_neg (by omega), if_neg (by omega)]
    by_cases h : n < 10
    · rw [if_pos (by omega), one_num n h]
      unfold digT
      rw [dd_small h]
    · have hk : 1 ≤ k := by
        rcases Nat.eq_zero_or_pos k with rfl | h1
        · simp at hn
          omega
        · exact h1
      have e1 : wrap64 (Int.tdiv (n : Int) 10) = ((n / 10 : Nat) : Int) := by
        rw [Int.tdiv_eq_ediv_of_nonneg (by omega)]
        unfold wrap64
        omega
      have e2 : Int.tmod (n : Int) 10 = ((n % 10 : Nat) : Int) := by
        rw [Int.tmod_eq_emod_of_nonneg (by omega)]
        omega
      rw [if_neg (by omega), e1, e2, ih (n / 10) hk (by omega) (by rw [Nat.pow_succ] at hn; omega) (by omega), Option.bind_some, Option.bind_some, one_num (n % 10) (by omega)]
      have hl := dd_len k (n / 10) hk (by rw [Nat.pow_succ] at hn; omega)
      have hz : (digT (n / 10)).size = (Lib.decDigits (n / 10)).length := by unfold digT; simp [ByteArray.size]
      have hz1 : (⟨([UInt8.ofNat (48 + n % 10)] : List UInt8).toArray⟩ : ByteArray).size = 1 := rfl
      rw [hz, hz1, if_pos (by omega)]
      congr 1
      unfold digT
      rw [dd_big h]
      apply Go.WideShapes.bytes_inj
      rw [ByteArray.data_append]
      simp
theorem itoa_dig (n : Nat) : Lib.itoa (n : Int) = Lib.decDigits n := by
  unfold Lib.itoa
  rw [if_neg (by omega), Int.toNat_natCast]
end Go.Proofs.YtfgnhghadghdkaaDoor.Pure
