/- What the two HashBits and the two HashText functions compute: the bits, and the digits of base 16, of a text. -/
import Derived.Test.YtjcibgeekegcdaaQ5
import Derived.Test.YtjcibgeekegcdaaQ6
import Derived.Laws.BitsLemmas
import Derived.IntWalk
namespace Go.Proofs.Ytjcibgeekegcdaa.Pure
open Go.RowKit Go.Proofs.Ytjcibgeekegcdaa.Q Go.Proofs.YtjcibgeekegcdaaW.PrintWords Go.Proofs.YtjcibgeekegcdaaW.PrintLast

theorem u8_and1 (x : Int) (h0 : 0 ≤ x) (h1 : x < 256) : Go.bits .and .u8 x 1 = x % 2 := bits_mask .u8 8 (by decide) wraps_u8 1 (by decide) x h0 h1
theorem i64_and1 (x : Int) (h0 : 0 ≤ x) (h1 : x < 256) : Go.bits .and .i64 x 1 = x % 2 :=
  bits_mask .i64 8 (by decide) (fun n h0 h1 => IntWalk.i64_in n (by have h1' : n < 256 := h1; omega)) 1 (by decide) x h0 h1
/-- Bit 'at' of a text, the highest one of its first byte being 0. -/
def bitI (s : ByteArray) (i : Nat) : Int := (bt s ((i / 8 : Nat) : Int) / 2 ^ (7 - i % 8)) % 2
theorem bitI_range (s : ByteArray) (i : Nat) : 0 ≤ bitI s i ∧ bitI s i ≤ 1 := by unfold bitI; omega
def bitsM (s : ByteArray) (n : Nat) : List Int := (List.range n).map fun i => 48 + bitI s i
theorem bitsM_len (s : ByteArray) (n : Nat) : (bitsM s n).length = n := by simp [bitsM]
theorem bitsM_succ (s : ByteArray) (n : Nat) : bitsM s (n + 1) = bitsM s n ++ [48 + bitI s n] := by simp [bitsM, List.range_succ]
theorem shr_range (x : Int) (n : Nat) (h0 : 0 ≤ x) (h1 : x ≤ 255) : 0 ≤ x / 2 ^ n ∧ x / 2 ^ n ≤ 255 := by
  have hp : (0 : Int) < 2 ^ n := Int.pow_pos (by decide)
  refine ⟨Int.ediv_nonneg h0 (by omega), ?_⟩
  have := Int.ediv_le_self (2 ^ n) h0
  omega

/-! ### the reference's -/
theorem spec_bit_step (s : ByteArray) (hs : s.size ≤ 65536) (x4 : Nat) (hx : x4 < s.size) (j : Nat) : ∀ (k : Nat), j ≤ 8 →
    spec_l01Bits.l1 (k + j + 1) s (bitsM s (8 * x4 + (8 - j))) (x4 : Int) ((j : Int) - 1) = spec_l01Bits.l0 k s (bitsM s (8 * (x4 + 1))) ((x4 + 1 : Nat) : Int) := by
  induction j with
  | zero =>
    intro k _
    simp only [spec_l01Bits.l1]
    rw [if_neg (by simp), show wrap64 ((x4 : Int) + 1) = ((x4 + 1 : Nat) : Int) by unfold wrap64; omega, show 8 * x4 + (8 - 0) = 8 * (x4 + 1) by omega]
  | succ j ih =>
    intro k hj
    have h := ih k (by omega)
    rw [show k + (j + 1) + 1 = (k + j + 1) + 1 by omega]
    simp only [spec_l01Bits.l1]
    have hb := bt_range s (x4 : Int)
    have hw : IntKind.u64.wrap (((j + 1 : Nat) : Int) - 1) = (j : Int) := by rw [show ((j + 1 : Nat) : Int) - 1 = (j : Int) by omega]; exact IntWalk.u64_in _ (by omega)
    have hsh : shr .u8 (bt s (x4 : Int)) (j : Int) = bt s (x4 : Int) / 2 ^ j := by unfold shr; rw [Int.toNat_natCast, Nat.min_eq_left (by show j ≤ 8; omega)]
    have hr := shr_range (bt s (x4 : Int)) j hb.1 hb.2
    have hv : (48 + Go.bits .and .u8 (shr .u8 (bt s (x4 : Int)) (j : Int)) 1) % 256 = 48 + bitI s (8 * x4 + (8 - (j + 1))) := by
      rw [hsh, u8_and1 _ hr.1 (by omega)]
      unfold bitI
      rw [show (8 * x4 + (8 - (j + 1))) / 8 = x4 by omega, show 7 - (8 * x4 + (8 - (j + 1))) % 8 = j by omega]
      omega
    rw [if_pos (by omega), if_pos (by omega), if_pos (by omega), hw, if_pos (by omega), if_pos (by rw [bitsM_len]; omega), hv, ← bitsM_succ, show 8 * x4 + (8 - (j + 1)) + 1 = 8 * x4 + (8 - j) by omega,
      show wrap64 (((j + 1 : Nat) : Int) - 1 - 1) = (j : Int) - 1 by unfold wrap64; omega]
    exact h
theorem spec_bits (s : ByteArray) (hs : s.size ≤ 65536) (d : Nat) : ∀ (x4 : Nat), s.size - x4 = d → x4 ≤ s.size → spec_l01Bits.l0 (10 * d + 1) s (bitsM s (8 * x4)) (x4 : Int) = some (strOfNums (bitsM s (8 * s.size))) := by
  induction d with
  | zero =>
    intro x4 hd hx
    have : x4 = s.size := by omega
    subst this
    simp only [spec_l01Bits.l0]
    rw [if_neg (by omega)]
  | succ d ih =>
    intro x4 hd hx
    have hlt : x4 < s.size := by omega
    rw [show 10 * (d + 1) + 1 = ((10 * d + 1) + 8 + 1) + 1 by omega]
    simp only [spec_l01Bits.l0]
    rw [if_pos (by omega)]
    have h := spec_bit_step s hs x4 hlt 8 (10 * d + 1) (by omega)
    rw [show 8 * x4 + (8 - 8) = 8 * x4 by omega, show ((8 : Nat) : Int) - 1 = 7 by omega] at h
    rw [h]
    exact ih (x4 + 1) (by omega) (by omega)
theorem spec_bits_f (s : ByteArray) (hs : s.size ≤ 65536) (k : Nat) (hk : 10 * s.size + 1 ≤ k) : spec_l01Bits.f k s = some (strOfNums (bitsM s (8 * s.size))) :=
  at_rounds (spec_l01Bits.mono s) hk (spec_bits s hs s.size 0 (by omega) (by omega))

/-! ### the program's -/
theorem impl_bit_eq (s : ByteArray) (i : Nat) (hi : i < 8 * s.size) (hs : s.size ≤ 65536) : impl_bit.f s (i : Int) = some (bitI s i) := by
  unfold impl_bit.f
  have hd : Int.tdiv (i : Int) 8 = ((i / 8 : Nat) : Int) := by rw [Int.tdiv_eq_ediv_of_nonneg (by omega)]; omega
  have hm : Int.tmod (i : Int) 8 = ((i % 8 : Nat) : Int) := by rw [Int.tmod_eq_emod_of_nonneg (by omega)]; omega
  rw [hd, hm, show wrap64 ((i / 8 : Nat) : Int) = ((i / 8 : Nat) : Int) by unfold wrap64; omega, show wrap64 (7 - ((i % 8 : Nat) : Int)) = ((7 - i % 8 : Nat) : Int) by unfold wrap64; omega,
    if_pos (by omega), if_pos (by omega), if_pos (by omega)]
  have hb := bt_range s ((i / 8 : Nat) : Int)
  have hr := shr_range (bt s ((i / 8 : Nat) : Int)) (7 - i % 8) hb.1 hb.2
  have hsh : shr .u8 (bt s ((i / 8 : Nat) : Int)) ((7 - i % 8 : Nat) : Int) = bt s ((i / 8 : Nat) : Int) / 2 ^ (7 - i % 8) := by unfold shr; rw [Int.toNat_natCast, Nat.min_eq_left (by show 7 - i % 8 ≤ 8; omega)]
  rw [hsh, show wrap64 (bt s ((i / 8 : Nat) : Int) / 2 ^ (7 - i % 8)) = bt s ((i / 8 : Nat) : Int) / 2 ^ (7 - i % 8) by generalize bt s ((i / 8 : Nat) : Int) / 2 ^ (7 - i % 8) = q at hr; unfold wrap64; omega, i64_and1 _ hr.1 (by omega)]
  rfl
theorem impl_bits (s : ByteArray) (hs : s.size = 32) (d : Nat) : ∀ (k i : Nat), 256 - i = d → i ≤ 256 → d < k → impl_HashBits.l0 k s (bitsM s i) (i : Int) = some (strOfNums (bitsM s 256), 0) := by
  induction d with
  | zero =>
    intro k i hd hi hk
    obtain ⟨k, rfl⟩ : ∃ m, k = m + 1 := ⟨k - 1, by omega⟩
    have : i = 256 := by omega
    subst this
    simp only [impl_HashBits.l0]
    rw [if_neg (by omega)]
  | succ d ih =>
    intro k i hd hi hk
    obtain ⟨k, rfl⟩ : ∃ m, k = m + 1 := ⟨k - 1, by omega⟩
    have h := ih k (i + 1) (by omega) (by omega) (by omega)
    have hb := bitI_range s i
    simp only [impl_HashBits.l0]
    rw [if_pos (by omega), impl_bit_eq s i (by omega) (by omega)]
    simp only [Option.bind_some]
    rw [if_pos (by rw [bitsM_len]; omega), show (wrap64 (48 + bitI s i)) % 256 = 48 + bitI s i by unfold wrap64; omega, ← bitsM_succ, show wrap64 ((i : Int) + 1) = ((i + 1 : Nat) : Int) by unfold wrap64; omega]
    exact h

/-! ### digits of base 16 -/
def hexS : ByteArray := ⟨#[48, 49, 50, 51, 52, 53, 54, 55, 56, 57, 97, 98, 99, 100, 101, 102]⟩
def hexM (s : ByteArray) (n : Nat) : List Int := (List.range n).flatMap fun (i : Nat) => [bt hexS (bt s (i : Int) / 16), bt hexS (bt s (i : Int) % 16)]
theorem hexM_succ (s : ByteArray) (n : Nat) : hexM s (n + 1) = hexM s n ++ [bt hexS (bt s (n : Int) / 16), bt hexS (bt s (n : Int) % 16)] := by simp [hexM, List.range_succ]
theorem hexM_len (s : ByteArray) (n : Nat) : (hexM s n).length = 2 * n := by
  induction n with
  | zero => rfl
  | succ n ih => rw [hexM_succ, List.length_append, ih]; simp; omega
theorem spec_hex (s : ByteArray) (hs : s.size ≤ 65536) (d : Nat) : ∀ (k i : Nat), s.size - i = d → i ≤ s.size → d < k → spec_l01Hex.l0 k s (hexM s i) (i : Int) = some (strOfNums (hexM s s.size)) := by
  induction d with
  | zero =>
    intro k i hd hi hk
    obtain ⟨k, rfl⟩ : ∃ m, k = m + 1 := ⟨k - 1, by omega⟩
    have : i = s.size := by omega
    subst this
    simp only [spec_l01Hex.l0]
    rw [if_neg (by omega)]
  | succ d ih =>
    intro k i hd hi hk
    obtain ⟨k, rfl⟩ : ∃ m, k = m + 1 := ⟨k - 1, by omega⟩
    have h := ih k (i + 1) (by omega) (by omega) (by omega)
    have hb := bt_range s (i : Int)
    have e1 : Int.tdiv (bt s (i : Int)) 16 % 256 = bt s (i : Int) / 16 := by rw [Int.tdiv_eq_ediv_of_nonneg hb.1]; omega
    have e2 : Int.tmod (bt s (i : Int)) 16 = bt s (i : Int) % 16 := Int.tmod_eq_emod_of_nonneg hb.1
    simp only [spec_l01Hex.l0]
    rw [e1, e2, if_pos (by omega), if_pos (by omega), if_pos (by omega), if_pos (by omega), if_pos (by omega), if_pos (by omega)]
    simp only [Option.bind_some]
    rw [if_pos (by rw [hexM_len]; simp; omega), show wrap64 ((i : Int) + 1) = ((i + 1 : Nat) : Int) by unfold wrap64; omega]
    rw [hexM_succ] at h
    exact h
theorem impl_hex (s : ByteArray) (hs : s.size ≤ 65536) (d : Nat) : ∀ (k i : Nat), s.size - i = d → i ≤ s.size → d < k → impl_hexOf.l0 k s (hexM s i) (s.size : Int) (i : Int) = some (strOfNums (hexM s s.size)) := by
  induction d with
  | zero =>
    intro k i hd hi hk
    obtain ⟨k, rfl⟩ : ∃ m, k = m + 1 := ⟨k - 1, by omega⟩
    have : i = s.size := by omega
    subst this
    simp only [impl_hexOf.l0]
    rw [if_neg (by omega)]
  | succ d ih =>
    intro k i hd hi hk
    obtain ⟨k, rfl⟩ : ∃ m, k = m + 1 := ⟨k - 1, by omega⟩
    have h := ih k (i + 1) (by omega) (by omega) (by omega)
    have hb := bt_range s (i : Int)
    have e2 : Go.bits .and .u8 (bt s (i : Int)) 15 = bt s (i : Int) % 16 := u8_and15 _ hb.1 (by omega)
    simp only [impl_hexOf.l0]
    rw [e2, if_pos (by omega), if_pos (by omega), if_pos (by omega), if_pos (by omega), if_pos (by omega), if_pos (by omega), if_pos (by omega)]
    simp only [Option.bind_some]
    rw [if_pos (by rw [hexM_len]; simp; omega), show wrap64 ((i : Int) + 1) = ((i + 1 : Nat) : Int) by unfold wrap64; omega]
    rw [hexM_succ] at h
    exact h
end Go.Proofs.Ytjcibgeekegcdaa.Pure
