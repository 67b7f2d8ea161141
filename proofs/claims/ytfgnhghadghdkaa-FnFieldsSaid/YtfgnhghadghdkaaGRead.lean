/- What the two functions that read fields compute: both read the same, or both refuse. -/
import Derived.Test.YtfgnhghadghdkaaG1
import Derived.Test.YtfgnhghadghdkaaG2
import Derived.Test.YtfgnhghadghdkaaGBy
namespace Go.Proofs.Ytfgnhghadghdkaa.Pure
open Go.RowKit Go.Proofs.Ytfgnhghadghdkaa.G Go.Proofs.YtfgnhghadghdkaaW.PrintWords Go.Proofs.YtfgnhghadghdkaaW.PrintLast
set_option linter.unusedVariables false
def bn (s : ByteArray) (i : Nat) : Nat := (bt s (i : Int)).toNat
theorem bn_eq (s : ByteArray) (i : Nat) : bt s (i : Int) = ((bn s i : Nat) : Int) := by have := bt_range s (i : Int); unfold bn; omega
theorem bn_lt (s : ByteArray) (i : Nat) : bn s i ≤ 255 := by have := bt_range s (i : Int); unfold bn; omega
theorem wn (n : Nat) (h : n ≤ 9223372036854775807) : wrap64 (n : Int) = (n : Int) := by unfold wrap64; omega
theorem w1 (n : Nat) (h : n + 1 ≤ 9223372036854775807) : wrap64 ((n : Int) + 1) = ((n + 1 : Nat) : Int) := by unfold wrap64; omega
theorem w2 (n : Nat) (h : n + 2 ≤ 9223372036854775807) : wrap64 ((n : Int) + 2) = ((n + 2 : Nat) : Int) := by unfold wrap64; omega
theorem w2' (n : Nat) (h : n + 2 ≤ 9223372036854775807) : wrap64 (2 + (n : Int)) = ((2 + n : Nat) : Int) := by unfold wrap64; omega
theorem wa (m n : Nat) (h : m + n ≤ 9223372036854775807) : wrap64 ((m : Int) + (n : Int)) = ((m + n : Nat) : Int) := by unfold wrap64; omega
theorem w256 (n : Nat) (h : n * 256 ≤ 9223372036854775807) : wrap64 ((n : Int) * 256) = ((n * 256 : Nat) : Int) := by unfold wrap64; omega
theorem wp (n : Nat) (h : 1 ≤ n) (h' : n ≤ 9223372036854775807) : wrap64 ((n : Int) - 1) = ((n - 1 : Nat) : Int) := by unfold wrap64; omega
/-- The number that two bytes tell. -/
def two (s : ByteArray) (i : Nat) : Nat := bn s i * 256 + bn s (i + 1)
theorem two_lt (s : ByteArray) (i : Nat) : two s i ≤ 65535 := by have := bn_lt s i; have := bn_lt s (i + 1); unfold two; omega
/-- One round of the reference's reading. -/
theorem spec_round (s : ByteArray) (hs : s.size ≤ 65536) (k p i : Nat) (acc : List ByteArray) (hp : p ≤ 100000) (hi : i + 1 ≤ 255) (ha : acc.length ≤ 255) : spec_l02Read.l0 (k + 1) s acc (p : Int) ((i + 1 : Nat) : Int) =
    if p + 2 > s.size then some ([], false) else if two s p > 1000 then some ([], false) else if p + 2 + two s p > s.size then some ([], false) else spec_l02Read.l0 k s (acc ++ [s.extract (p + 2) (p + 2 + two s p)]) ((p + 2 + two s p : Nat) : Int) (i : Int) := by
  have b0 := bn_lt s p
  have b1 := bn_lt s (p + 1)
  have h2 := two_lt s p
  have ht : bn s p * 256 + bn s (p + 1) = two s p := rfl
  simp only [spec_l02Read.l0]
  rw [if_pos (by omega)]
  simp -implicitDefEqProofs only [w2 p (by omega), w1 p (by omega), bn_eq, wn (bn s p) (by omega), wn (bn s (p + 1)) (by omega), w256 (bn s p) (by omega), wa (bn s p * 256) (bn s (p + 1)) (by omega), ht, wa (p + 2) (two s p) (by omega), w2' (two s p) (by omega), wa p (2 + two s p) (by omega), wp (i + 1) (by omega) (by omega), Int.toNat_natCast]
  by_cases h1 : p + 2 > s.size
  · rw [if_pos (by omega), if_pos h1]
  · rw [if_neg (by omega), if_neg h1, if_pos (by omega), if_pos (by omega), if_pos (by omega), if_pos (by omega)]
    by_cases h3 : two s p > 1000
    · rw [if_pos (by omega), if_pos h3]
    · rw [if_neg (by omega), if_neg h3]
      by_cases h4 : p + 2 + two s p > s.size
      · rw [if_pos (by omega), if_pos h4]
      · rw [if_neg (by omega), if_neg h4, if_pos (by omega), if_pos (by omega), if_pos (by omega), if_pos (by omega), show p + (2 + two s p) = p + 2 + two s p by omega, show i + 1 - 1 = i by omega]
theorem spec_end (s : ByteArray) (k p : Nat) (acc : List ByteArray) : spec_l02Read.l0 (k + 1) s acc (p : Int) ((0 : Nat) : Int) = if p = s.size then some (acc, true) else some ([], false) := by
  simp only [spec_l02Read.l0]
  rw [if_neg (by omega)]
  by_cases h : p = s.size
  · rw [if_pos (by omega), if_pos h]
  · rw [if_neg (by omega), if_neg h]
theorem ext_size (s : ByteArray) (a b : Nat) : (s.extract a b).size = min b s.size - a := ByteArray.size_extract ..
theorem bn_ext (s : ByteArray) (a b i : Nat) (h : a + i < b) (hb : b ≤ s.size) : bn (s.extract a b) i = bn s (a + i) := by
  unfold bn
  congr 1
  unfold bt
  have h1 : ((i : Int)).toNat < (s.extract a b).size := by rw [Int.toNat_natCast, ext_size]; omega
  have h2 : (((a + i : Nat) : Int)).toNat < s.size := by rw [Int.toNat_natCast]; omega
  rw [dif_pos h1, dif_pos h2]
  congr 2
  simp only [Int.toNat_natCast]
  exact ByteArray.getElem_extract ..
theorem numberOf_two (r : ByteArray) (h : r.size = 2) (k : Nat) (hk : 3 < k) : impl_numberOf.f k r = some ((two r 0 : Nat) : Int) := by
  obtain ⟨k, rfl⟩ : ∃ m, k = m + 1 + 1 + 1 := ⟨k - 3, by omega⟩
  have b0 := bn_lt r 0
  have b1 := bn_lt r 1
  have e0 : bt r 0 = ((bn r 0 : Nat) : Int) := bn_eq r 0
  have e1 : bt r 1 = ((bn r 1 : Nat) : Int) := bn_eq r 1
  unfold impl_numberOf.f
  rw [h]
  have s0 : wrap64 (wrap64 (0 * 256) + wrap64 ((bn r 0 : Nat) : Int)) = ((bn r 0 : Nat) : Int) := by rw [wn (bn r 0) (by omega)]; unfold wrap64; omega
  have hs0 : wrap64 (0 + 1) = 1 := by unfold wrap64; omega
  have hs1 : wrap64 (1 + 1) = 2 := by unfold wrap64; omega
  simp only [impl_numberOf.l0]
  rw [h, e0, s0, hs0, e1, wn (bn r 1) (by clear s0 hs0 hs1; omega), w256 (bn r 0) (by clear s0 hs0 hs1; omega), wa (bn r 0 * 256) (bn r 1) (by clear s0 hs0 hs1; omega), hs1]
  simp [two]
end Go.Proofs.Ytfgnhghadghdkaa.Pure
