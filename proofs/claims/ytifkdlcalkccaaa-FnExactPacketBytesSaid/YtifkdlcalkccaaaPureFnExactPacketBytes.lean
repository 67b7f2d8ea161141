/- The pure statement of the law FnExactPacketBytes: what its functions compute answers as the law says. -/
import Derived.Test.YtifkdlcalkccaaaDefFnExactPacketBytes
import Derived.Lib.Strings
import Derived.WideShapes
namespace Go.Proofs.Ytifkdlcalkccaaa.Pure
open Go.RowKit Go.Proofs.Ytifkdlcalkccaaa.P Go.Proofs.YtifkdlcalkccaaaW.PrintWords Go.Proofs.YtifkdlcalkccaaaW.PrintLast
theorem pk_wrap (n : Int) (h0 : -9223372036854775808 ≤ n) (h1 : n ≤ 9223372036854775807) : wrap64 n = n := by unfold wrap64; omega
/-- One byte of a number. -/
theorem number1 (n : Int) (k : Nat) (hk : 2 ≤ k) : impl_number.f k n 1 = some (strOfNums [n % 256]) := by
  obtain ⟨k, rfl⟩ : ∃ m, k = m + 2 := ⟨k - 2, by omega⟩
  unfold impl_number.f
  rw [if_pos (by omega), if_pos (by decide), show wrap64 ((1 : Int) - 1) = 0 by rw [pk_wrap _ (by omega) (by omega)]; rfl]
  show impl_number.l0 (k + 1 + 1) n [0] 0 = _
  simp only [impl_number.l0]
  rw [if_pos (by omega), if_pos (by omega), if_pos (by simp), show wrap64 ((0 : Int) - 1) = -1 by rw [pk_wrap _ (by omega) (by omega)]; rfl, if_neg (by omega)]
  rfl
theorem byte_val (n : Int) (h0 : 0 ≤ n) (h1 : n < 256) : ((UInt8.ofNat n.toNat).toNat : Int) = n := by
  rw [UInt8.toNat_ofNat']
  omega
theorem bytesOf_app (a b : ByteArray) : bytesOf (a ++ b) = bytesOf a ++ bytesOf b := by
  unfold bytesOf
  rw [ByteArray.data_append, Array.toList_append, List.map_append]
theorem bytesOf_nums (l : List Int) (h : ∀ x ∈ l, 0 ≤ x ∧ x < 256) : bytesOf (strOfNums l) = l := by
  unfold bytesOf strOfNums
  rw [List.toList_toArray, List.map_map]
  conv => rhs; rw [← List.map_id l]
  refine List.map_congr_left fun x hx => ?_
  exact byte_val x (h x hx).1 (h x hx).2
theorem packet_ok (a b : Int) (s : ByteArray) : spec_PacketOK.f a b s = impl_PacketOK.f a b s := rfl
theorem size1 (l : List Int) : (strOfNums l).size = l.length := strOfNums_size l
theorem packet_bytes (a b : Int) (s : ByteArray) (hs : s.size ≤ 1048576) (k : Nat) (hk : 2 ≤ k) : impl_Packet_bytes.f k a b s = some (strOfNums [a % 256] ++ strOfNums [b % 256] ++ s) := by
  unfold impl_Packet_bytes.f
  rw [number1 a k hk, number1 b k hk]
  simp only [Option.bind_some]
  rw [if_pos (by rw [size1, size1]; simp), if_pos (by rw [ByteArray.size_append, size1, size1]; simp; omega)]
theorem FnExactPacketBytes : laws_FnExactPacketBytes.PureF := by
  intro a b s _ _ hs
  refine ⟨2, ?_⟩
  unfold laws_FnExactPacketBytes.f laws_szPacket.f
  rw [pk_wrap (1048576 - (s.size : Int)) (by omega) (by omega)]
  by_cases h : (1048576 - (s.size : Int)) < 0
  · rw [if_pos h, Option.bind_some, if_pos (by omega)]
  · rw [if_neg h, Option.bind_some, if_neg h]
    unfold spec_PacketBytes.f impl_PacketBytes.f
    rw [packet_ok]
    obtain ⟨t, ht⟩ : ∃ t, impl_PacketOK.f a b s = some t := by
      unfold impl_PacketOK.f impl_within.f
      repeat (first | (split) | (simp only [Option.bind_some]) | exact ⟨_, rfl⟩)
    rw [ht]
    simp only [Option.bind_some]
    cases t with
    | false => simp
    | true =>
      simp only [if_true]
      rw [packet_bytes a b s (by omega) 2 (by omega)]
      unfold spec_l07Bytes.f
      simp only [Option.bind_some]
      have e : bytesOf (strOfNums [a % 256] ++ strOfNums [b % 256] ++ s) = [a % 256, b % 256] ++ bytesOf s := by
        rw [bytesOf_app, bytesOf_app, bytesOf_nums _ (by simp; omega), bytesOf_nums _ (by simp; omega)]
        rfl
      rw [if_pos (by simp; omega), Option.bind_some, if_pos (by rw [ByteArray.size_append, ByteArray.size_append, size1, size1]; simp; omega), e]
      simp only [Option.bind_some]
      rw [if_pos (by refine ⟨?_, ?_⟩ <;> first | trivial | rfl | (simp [bytesOf_length]; omega))]
end Go.Proofs.Ytifkdlcalkccaaa.Pure
