/- The pure statement of the law FnExactHeaderHash: what its functions compute answers as the law says. -/
import Derived.Test.YtjmfkhjhhohnkaaDefFnExactHeaderHash
import Derived.Test.YtjmfkhjhhohnkaaE20
import Derived.Test.YtjmfkhjhhohnkaaE24
import Derived.Lib.Strings
import Derived.WideShapes
namespace Go.Proofs.Ytjmfkhjhhohnkaa.Pure
open Go.RowKit Go.Proofs.Ytjmfkhjhhohnkaa.Q Go.Proofs.YtjmfkhjhhohnkaaW.PrintWords Go.Proofs.YtjmfkhjhhohnkaaW.PrintLast
open Go.Proofs.Ytjmfkhjhhohnkaa.T (ssha sha)
theorem hd_wrap (n : Int) (h0 : -9223372036854775808 ≤ n) (h1 : n ≤ 9223372036854775807) : wrap64 n = n := by unfold wrap64; omega
theorem hd_number1 (n : Int) (k : Nat) (hk : 2 ≤ k) : impl_number.f k n 1 = some (strOfNums [n % 256]) := by
  obtain ⟨k, rfl⟩ : ∃ m, k = m + 2 := ⟨k - 2, by omega⟩
  unfold impl_number.f
  rw [if_pos (by omega), if_pos (by decide), show wrap64 ((1 : Int) - 1) = 0 by rw [hd_wrap _ (by omega) (by omega)]; rfl]
  show impl_number.l0 (k + 1 + 1) n [0] 0 = _
  simp only [impl_number.l0]
  rw [if_pos (by omega), if_pos (by omega), if_pos (by simp), show wrap64 ((0 : Int) - 1) = -1 by rw [hd_wrap _ (by omega) (by omega)]; rfl, if_neg (by omega)]
  rfl
theorem hd_number4 (n : Int) (k : Nat) (hk : 5 ≤ k) : impl_number.f k n 4 = some (strOfNums [n / 256 / 256 / 256 % 256, n / 256 / 256 % 256, n / 256 % 256, n % 256]) := by
  obtain ⟨k, rfl⟩ : ∃ m, k = m + 5 := ⟨k - 5, by omega⟩
  unfold impl_number.f
  rw [if_pos (by omega), if_pos (by decide), show wrap64 ((4 : Int) - 1) = 3 by rw [hd_wrap _ (by omega) (by omega)]; rfl]
  show impl_number.l0 (k + 1 + 1 + 1 + 1 + 1) n [0, 0, 0, 0] 3 = _
  simp only [impl_number.l0]
  rw [if_pos (by omega), if_pos (by omega), if_pos (by simp), show wrap64 ((3 : Int) - 1) = 2 by rw [hd_wrap _ (by omega) (by omega)]; rfl]
  rw [if_pos (by omega), if_pos (by omega), if_pos (by simp), show wrap64 ((2 : Int) - 1) = 1 by rw [hd_wrap _ (by omega) (by omega)]; rfl]
  rw [if_pos (by omega), if_pos (by omega), if_pos (by simp), show wrap64 ((1 : Int) - 1) = 0 by rw [hd_wrap _ (by omega) (by omega)]; rfl]
  rw [if_pos (by omega), if_pos (by omega), if_pos (by simp), show wrap64 ((0 : Int) - 1) = -1 by rw [hd_wrap _ (by omega) (by omega)]; rfl, if_neg (by omega)]
  rfl
theorem hd_byte (n : Int) (h0 : 0 ≤ n) (h1 : n < 256) : ((UInt8.ofNat n.toNat).toNat : Int) = n := by
  rw [UInt8.toNat_ofNat']
  omega
theorem hd_app (a b : ByteArray) : bytesOf (a ++ b) = bytesOf a ++ bytesOf b := by
  unfold bytesOf
  rw [ByteArray.data_append, Array.toList_append, List.map_append]
theorem hd_nums (l : List Int) (h : ∀ x ∈ l, 0 ≤ x ∧ x < 256) : bytesOf (strOfNums l) = l := by
  unfold bytesOf strOfNums
  rw [List.toList_toArray, List.map_map]
  conv => rhs; rw [← List.map_id l]
  exact List.map_congr_left fun x hx => hd_byte x (h x hx).1 (h x hx).2
theorem hd_size (l : List Int) : (strOfNums l).size = l.length := strOfNums_size l
theorem hd_in (n a b : Int) : spec_l01In.f n a b = some (decide (a ≤ n) && decide (n ≤ b)) ∧ impl_within.f n a b = some (decide (a ≤ n) && decide (n ≤ b)) := by
  unfold spec_l01In.f impl_within.f
  by_cases h : n ≥ a
  · rw [if_pos h, decide_eq_true (show a ≤ n from h), Bool.true_and]; exact ⟨rfl, rfl⟩
  · rw [if_neg h, decide_eq_false (show ¬ a ≤ n from h), Bool.false_and]; exact ⟨rfl, rfl⟩
def hdB (a b : Int) (s u : ByteArray) : Bool := (decide (1 ≤ a) && decide (a ≤ 60)) && ((decide (0 ≤ b) && decide (b ≤ 1000000000)) && (decide (s.size = 32) && decide (u.size = 32)))
theorem spec_hd (a b : Int) (s u : ByteArray) : spec_HeaderOK.f a b s u = some (hdB a b s u) := by
  unfold spec_HeaderOK.f hdB
  rw [(hd_in a 1 60).1, (hd_in b 0 1000000000).1]
  simp only [Option.bind_some]
  cases (decide (1 ≤ a) && decide (a ≤ 60))
  · simp
  · cases (decide (0 ≤ b) && decide (b ≤ 1000000000))
    · simp
    · simp only [if_true, Bool.true_and]
      by_cases h : s.size = 32
      · rw [if_pos (by omega), decide_eq_true h, Bool.true_and]
        congr 1
        rw [Bool.eq_iff_iff]
        simp
        omega
      · rw [if_neg (by omega), decide_eq_false h, Bool.false_and]
theorem impl_hd (a b : Int) (s u : ByteArray) : impl_HeaderOK.f a b s u = some (hdB a b s u) := by
  unfold impl_HeaderOK.f hdB impl_isTime.f impl_isHash.f
  rw [(hd_in a 1 60).2, (hd_in b 0 1000000000).2]
  simp only [Option.bind_some]
  cases (decide (1 ≤ a) && decide (a ≤ 60))
  · simp
  · cases (decide (0 ≤ b) && decide (b ≤ 1000000000))
    · simp
    · simp only [if_true, Bool.true_and]
      congr 1
      rw [Bool.eq_iff_iff]
      simp
      omega
theorem hd_bytes (a b : Int) (s u : ByteArray) (hs : s.size = 32) (hu : u.size = 32) (k : Nat) (hk : 5 ≤ k) : impl_Header_bytes.f k a b s u = some (strOfNums [a % 256] ++ strOfNums [b / 256 / 256 / 256 % 256, b / 256 / 256 % 256, b / 256 % 256, b % 256] ++ s ++ u) := by
  unfold impl_Header_bytes.f
  rw [hd_number1 a k (by omega), hd_number4 b k hk]
  simp only [Option.bind_some]
  rw [if_pos (by rw [hd_size, hd_size]; simp), if_pos (by rw [ByteArray.size_append, hd_size, hd_size]; simp; omega), if_pos (by rw [ByteArray.size_append, ByteArray.size_append, hd_size, hd_size]; simp; omega)]
def hhB (a b : Int) (s u : ByteArray) : List Int := [104, 101, 97, 100, 101, 114] ++ hdrL a b s u
theorem hh_ok (a b : Int) (s u : ByteArray) : okB (hhB a b s u) := by
  intro x hx
  unfold hhB hdrL at hx
  rw [List.mem_append, List.mem_append, List.mem_append] at hx
  rcases hx with h | (h | h) | h
  · simp at h
    omega
  · simp at h
    omega
  · exact ok_bytes s x h
  · exact ok_bytes u x h
theorem hh_str (a b : Int) (s u : ByteArray) : strOfNums (hhB a b s u) = (⟨#[104, 101, 97, 100, 101, 114]⟩ : ByteArray) ++ (strOfNums [a % 256] ++ strOfNums [b / 256 / 256 / 256 % 256, b / 256 / 256 % 256, b / 256 % 256, b % 256] ++ s ++ u) := by
  unfold hhB hdrL
  rw [nums_append, nums_append, nums_append, nums_bytes, nums_bytes, show ([a % 256, (b / 16777216) % 256, (b / 65536) % 256, (b / 256) % 256, b % 256] : List Int) = [a % 256] ++ [(b / 16777216) % 256, (b / 65536) % 256, (b / 256) % 256, b % 256] from rfl, nums_append,
    show b / 256 / 256 / 256 = b / 16777216 by omega, show b / 256 / 256 = b / 65536 by omega]
  rfl
theorem hh_len (a b : Int) (s u : ByteArray) : (hhB a b s u).length = 11 + s.size + u.size := by
  unfold hhB hdrL
  simp [bytesOf_length]
  omega
theorem FnExactHeaderHash : laws_FnExactHeaderHash.PureF := by
  intro a b s u _ _ hs hu
  refine ⟨5, ?_⟩
  obtain ⟨z, hz⟩ : ∃ z, laws_szHeader.f a b s u 1048576 = some z := by
    unfold laws_szHeader.f
    repeat (first | split | exact ⟨_, rfl⟩)
  unfold laws_FnExactHeaderHash.f
  rw [hz, Option.bind_some]
  by_cases h : z < 0
  · rw [if_pos h]
  · rw [if_neg h]
    unfold laws_toHeader.f
    simp only [Option.bind_some]
    unfold spec_HeaderHash.f impl_HeaderHash.f
    rw [spec_hd, impl_hd]
    simp only [Option.bind_some]
    cases hb : hdB a b s u with
    | false => simp
    | true =>
      unfold hdB at hb
      simp only [Bool.and_eq_true, decide_eq_true_eq] at hb
      obtain ⟨⟨a1, a2⟩, ⟨b1, b2⟩, s1, u1⟩ := hb
      have hsp : spec_l06Hash.f a b s u = some (ssha (hhB a b s u)) := by
        unfold spec_l06Hash.f
        rw [if_pos (by omega)]
        rfl
      have him : impl_Header_hash.f 5 a b s u = some (ssha (hhB a b s u)) := by
        unfold impl_Header_hash.f
        rw [hd_bytes a b s u s1 u1 5 (by omega), Option.bind_some]
        have hl := hh_len a b s u
        have hz : ((⟨#[104, 101, 97, 100, 101, 114]⟩ : ByteArray) ++ (strOfNums [a % 256] ++ strOfNums [b / 256 / 256 / 256 % 256, b / 256 / 256 % 256, b / 256 % 256, b % 256] ++ s ++ u)).size = 75 := by
          rw [← hh_str, hd_size, hl]
          omega
        have hz2 : (strOfNums [a % 256] ++ strOfNums [b / 256 / 256 / 256 % 256, b / 256 / 256 % 256, b / 256 % 256, b % 256] ++ s ++ u).size = 69 := by
          rw [ByteArray.size_append, ByteArray.size_append, ByteArray.size_append, hd_size, hd_size]
          simp
          omega
        rw [if_pos (by omega), ← hh_str]
        unfold impl_hash.f
        rw [hd_size, sha_eq _ (hh_ok a b s u), if_pos (by rw [hl]; omega)]
        rfl
      simp only [if_true, hsp, him, Option.bind_some]
end Go.Proofs.Ytjmfkhjhhohnkaa.Pure
