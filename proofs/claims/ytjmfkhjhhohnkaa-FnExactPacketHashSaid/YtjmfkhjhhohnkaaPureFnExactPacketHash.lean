/- The pure statement of the law FnExactPacketHash: what its functions compute answers as the law says. -/
import Derived.Test.YtjmfkhjhhohnkaaQ2
import Derived.Test.YtjmfkhjhhohnkaaQ7
import Derived.Test.YtjmfkhjhhohnkaaDefFnExactPacketHash
import Derived.Test.YtjmfkhjhhohnkaaE20
import Derived.Test.YtjmfkhjhhohnkaaE21
namespace Go.Proofs.Ytjmfkhjhhohnkaa.Pure
open Go.RowKit Go.Proofs.Ytjmfkhjhhohnkaa.Q Go.Proofs.YtjmfkhjhhohnkaaW.PrintWords Go.Proofs.YtjmfkhjhhohnkaaW.PrintLast
open Go.Proofs.Ytjmfkhjhhohnkaa.T (ssha sha)
theorem ph_number1 (n : Int) (k : Nat) (hk : 2 ≤ k) : impl_number.f k n 1 = some (strOfNums [n % 256]) := by
  obtain ⟨k, rfl⟩ : ∃ m, k = m + 2 := ⟨k - 2, by omega⟩
  have hw : ∀ n : Int, -9223372036854775808 ≤ n → n ≤ 9223372036854775807 → wrap64 n = n := fun n h0 h1 => by unfold wrap64; omega
  unfold impl_number.f
  rw [if_pos (by omega), if_pos (by decide), show wrap64 ((1 : Int) - 1) = 0 by rw [hw _ (by omega) (by omega)]; rfl]
  show impl_number.l0 (k + 1 + 1) n [0] 0 = _
  simp only [impl_number.l0]
  rw [if_pos (by omega), if_pos (by omega), if_pos (by simp), show wrap64 ((0 : Int) - 1) = -1 by rw [hw _ (by omega) (by omega)]; rfl, if_neg (by omega)]
  rfl
def pkB (a b : Int) (s : ByteArray) : List Int := [112, 97, 99, 107, 101, 116] ++ ([a % 256, b % 256] ++ bytesOf s)
theorem pk_ok (a b : Int) (s : ByteArray) : okB (pkB a b s) := by
  intro x hx
  unfold pkB at hx
  rw [List.mem_append, List.mem_append] at hx
  rcases hx with h | h | h
  · simp at h
    omega
  · simp at h
    omega
  · exact ok_bytes s x h
theorem pk_str (a b : Int) (s : ByteArray) : strOfNums (pkB a b s) = (⟨#[112, 97, 99, 107, 101, 116]⟩ : ByteArray) ++ ((strOfNums [a % 256] ++ strOfNums [b % 256]) ++ s) := by
  unfold pkB
  rw [nums_append, nums_append, nums_bytes, show ([a % 256, b % 256] : List Int) = [a % 256] ++ [b % 256] from rfl, nums_append]
  rfl
theorem pk_spec (a b : Int) (s : ByteArray) (hs : s.size ≤ 500) : spec_l07Hash.f a b s = some (ssha (pkB a b s)) := by
  unfold spec_l07Hash.f
  rw [if_pos (by omega)]
  rfl
theorem pk_impl (a b : Int) (s : ByteArray) (hs : s.size ≤ 500) (k : Nat) (hk : 2 ≤ k) : impl_Packet_hash.f k a b s = some (ssha (pkB a b s)) := by
  have z1 : ∀ n : Int, (strOfNums [n]).size = 1 := fun n => sz_nums [n]
  unfold impl_Packet_hash.f impl_Packet_bytes.f
  rw [ph_number1 _ _ hk, ph_number1 _ _ hk, Option.bind_some, Option.bind_some, z1, z1, if_pos (by decide), ByteArray.size_append, z1, z1, if_pos (by omega), Option.bind_some]
  have hz : ((strOfNums [a % 256] ++ strOfNums [b % 256]) ++ s).size = 2 + s.size := by rw [ByteArray.size_append, ByteArray.size_append, z1, z1]
  rw [hz, if_pos (by omega), ← pk_str]
  unfold impl_hash.f
  rw [sz_nums, sha_eq _ (pk_ok a b s), if_pos (by unfold pkB; simp [bytesOf_length]; omega)]
  rfl
theorem FnExactPacketHash : laws_FnExactPacketHash.PureF := by
  intro a b s ha hb hs
  refine ⟨10, ?_⟩
  unfold laws_FnExactPacketHash.f laws_szPacket.f laws_toPacket.f
  by_cases h0 : wrap64 (1048576 - (s.size : Int)) < 0
  · rw [if_pos h0, Option.bind_some, if_pos (by decide)]
  · rw [if_neg h0, Option.bind_some, if_neg h0]
    simp only [Option.bind_some]
    unfold spec_PacketHash.f impl_PacketHash.f
    have hok : impl_PacketOK.f a b s = spec_PacketOK.f a b s := rfl
    rw [hok]
    obtain ⟨t, ht⟩ : ∃ t, spec_PacketOK.f a b s = some t ∧ (t = true → s.size ≤ 500) := by
      unfold spec_PacketOK.f spec_l01In.f
      repeat' split
      all_goals (try simp only [Option.bind_some])
      all_goals (repeat' split)
      all_goals (refine ⟨_, rfl, fun h => ?_⟩; first | (have h9 := of_decide_eq_true h; omega) | (cases h; done) | (simp at h; done) | (simp at h; omega))
    rw [ht.1, Option.bind_some, Option.bind_some]
    cases t with
    | false =>
      rw [if_neg (by simp), Option.bind_some, if_neg (by simp), Option.bind_some, if_pos rfl, if_pos rfl]
    | true =>
      rw [if_pos rfl, if_pos rfl, pk_spec a b s (ht.2 rfl), Option.bind_some, Option.bind_some, pk_impl a b s (ht.2 rfl) 10 (by omega), Option.bind_some, Option.bind_some, if_pos rfl, if_pos rfl]
end Go.Proofs.Ytjmfkhjhhohnkaa.Pure
