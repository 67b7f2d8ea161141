/- What the check of a key's proof computes, in plain Lean: the way up from a leaf over its sides. -/
import Derived.Test.YtjmfkhjhhohnkaaQ1
import Derived.Test.YtjmfkhjhhohnkaaQ4
import Derived.Test.YtjmfkhjhhohnkaaE22
import Derived.Laws.BitsLemmas
import Derived.IntWalk
namespace Go.Proofs.Ytjmfkhjhhohnkaa.Q
open Go.RowKit Go.Proofs.YtjmfkhjhhohnkaaW.PrintWords Go.Proofs.YtjmfkhjhhohnkaaW.PrintLast Go.Proofs.YtjmfkhjhhohnkaaW.PrintMore
open Go.Proofs.Ytjmfkhjhhohnkaa.T (ssha sha)
set_option linter.unusedVariables false
set_option linter.unusedSimpArgs false
/-- The bit of a hash. -/
def bitI (s : ByteArray) (i : Nat) : Int := (bt s ((i / 8 : Nat) : Int) / 2 ^ (7 - i % 8)) % 2
theorem ck_i64_and1 (x : Int) (h0 : 0 ≤ x) (h1 : x < 256) : Go.bits .and .i64 x 1 = x % 2 :=
  bits_mask .i64 8 (by decide) (fun n h0 h1 => IntWalk.i64_in n (by have h1' : n < 256 := h1; omega)) 1 (by decide) x h0 h1
theorem ck_shr_range (x : Int) (n : Nat) (h0 : 0 ≤ x) (h1 : x ≤ 255) : 0 ≤ x / 2 ^ n ∧ x / 2 ^ n ≤ 255 := by
  have hp : (0 : Int) < 2 ^ n := Int.pow_pos (by decide)
  refine ⟨Int.ediv_nonneg h0 (by omega), ?_⟩
  have := Int.ediv_le_self (2 ^ n) h0
  omega
theorem impl_bitI (s : ByteArray) (i : Nat) (hi : i < 8 * s.size) (hs : s.size ≤ 65536) : impl_bit.f s (i : Int) = some (bitI s i) := by
  have hd : wrap64 (Int.tdiv (i : Int) 8) = ((i / 8 : Nat) : Int) := by rw [Int.tdiv_eq_ediv_of_nonneg (by omega)]; unfold wrap64; omega
  have hm : wrap64 (7 - Int.tmod (i : Int) 8) = ((7 - i % 8 : Nat) : Int) := by rw [Int.tmod_eq_emod_of_nonneg (by omega)]; unfold wrap64; omega
  have hb := bt_range s ((i / 8 : Nat) : Int)
  have hsh : shr .u8 (bt s ((i / 8 : Nat) : Int)) ((7 - i % 8 : Nat) : Int) = bt s ((i / 8 : Nat) : Int) / 2 ^ (7 - i % 8) := by unfold shr; rw [Int.toNat_natCast, Nat.min_eq_left (by show 7 - i % 8 ≤ 8; omega)]
  have hr := ck_shr_range (bt s ((i / 8 : Nat) : Int)) (7 - i % 8) hb.1 hb.2
  have hw : wrap64 (bt s ((i / 8 : Nat) : Int) / 2 ^ (7 - i % 8)) = bt s ((i / 8 : Nat) : Int) / 2 ^ (7 - i % 8) := by unfold wrap64; omega
  unfold impl_bit.f bitI
  rw [hd, hm, if_pos (by omega), if_pos (by omega), if_pos (by omega), hsh, hw, ck_i64_and1 _ hr.1 (by omega)]
theorem spec_bitI (s : ByteArray) (i : Nat) (hi : i < 8 * s.size) (hs : s.size ≤ 65536) : spec_l04Bit.f s (i : Int) = some (bitI s i) := by
  have hd : wrap64 (Int.tdiv (i : Int) 8) = ((i / 8 : Nat) : Int) := by rw [Int.tdiv_eq_ediv_of_nonneg (by omega)]; unfold wrap64; omega
  have hm : wrap64 (7 - Int.tmod (i : Int) 8) = ((7 - i % 8 : Nat) : Int) := by rw [Int.tmod_eq_emod_of_nonneg (by omega)]; unfold wrap64; omega
  have hu : IntKind.u64.wrap ((7 - i % 8 : Nat) : Int) = ((7 - i % 8 : Nat) : Int) := IntWalk.u64_in _ (by omega)
  have hb := bt_range s ((i / 8 : Nat) : Int)
  have hwb : wrap64 (bt s ((i / 8 : Nat) : Int)) = bt s ((i / 8 : Nat) : Int) := by unfold wrap64; omega
  have hsh : shr .i64 (bt s ((i / 8 : Nat) : Int)) ((7 - i % 8 : Nat) : Int) = bt s ((i / 8 : Nat) : Int) / 2 ^ (7 - i % 8) := by unfold shr; rw [Int.toNat_natCast, Nat.min_eq_left (by show 7 - i % 8 ≤ 64; omega)]
  have hr := ck_shr_range (bt s ((i / 8 : Nat) : Int)) (7 - i % 8) hb.1 hb.2
  unfold spec_l04Bit.f bitI
  rw [hd, hm, hu, hwb, hsh, if_pos (by omega), if_pos (by omega), if_pos (by omega), ck_i64_and1 _ hr.1 (by omega)]
def nodeT (a b : ByteArray) : ByteArray := sha (⟨#[110, 111, 100, 101]⟩ ++ a ++ b)
def stepT (path : ByteArray) (h : ByteArray) (x : Nat × ByteArray) : ByteArray := if bitI path x.1 = 0 then nodeT h x.2 else nodeT x.2 h
/-- From the last of so many sides to the first. -/
def upT (path : ByteArray) (l : List ByteArray) : Nat → ByteArray → ByteArray
  | 0, h => h
  | k + 1, h => upT path l k (stepT path h (k, l.getD k ByteArray.empty))
def pathT (key : ByteArray) : ByteArray := sha (⟨#[112, 97, 116, 104]⟩ ++ key)
def startT (path : ByteArray) (found : Bool) (value other : ByteArray) : ByteArray :=
  if found = true then sha (⟨#[108, 101, 97, 102]⟩ ++ path ++ sha (⟨#[118, 97, 108, 117, 101]⟩ ++ value)) else if other.size = 0 then sha ⟨#[101, 109, 112, 116, 121]⟩ else sha (⟨#[108, 101, 97, 102]⟩ ++ other)
/-- Whether so many first bits are the same. -/
def sameT (a b : ByteArray) (n : Nat) : Bool := (List.range n).all fun i => bitI a i == bitI b i
def otherT (path : ByteArray) (found : Bool) (other : ByteArray) (n : Nat) : Bool := found || decide (other.size = 0) || (!(decide (other.extract 0 32 = path)) && sameT other path n)
def checkT (root key : ByteArray) (found : Bool) (value other : ByteArray) (l : List ByteArray) : Bool :=
  otherT (pathT key) found other l.length && decide (upT (pathT key) l l.length (startT (pathT key) found value other) = root)
def checkOK (key : ByteArray) (found : Bool) (value other : ByteArray) (l : List ByteArray) : Prop :=
  key.size ≤ 1000000 ∧ value.size ≤ 1000000 ∧ (found = true ∨ other.size = 0 ∨ other.size = 64) ∧ l.length ≤ 256 ∧ ∀ s ∈ l, s.size = 32
instance (key : ByteArray) (found : Bool) (value other : ByteArray) (l : List ByteArray) : Decidable (checkOK key found value other l) := by unfold checkOK; infer_instance
theorem pathT_size (key : ByteArray) : (pathT key).size = 32 := sha_size _
theorem startT_size (path : ByteArray) (found : Bool) (value other : ByteArray) : (startT path found value other).size = 32 := by
  unfold startT
  repeat' split
  all_goals exact sha_size _
theorem stepT_size (path h : ByteArray) (x : Nat × ByteArray) : (stepT path h x).size = 32 := by
  unfold stepT nodeT
  split <;> exact sha_size _
theorem sameT_succ (a b : ByteArray) (n : Nat) : sameT a b (n + 1) = (sameT a b n && (bitI a n == bitI b n)) := by
  unfold sameT
  rw [List.range_succ, List.all_append]
  simp
theorem sameT_false (a b : ByteArray) {k n : Nat} (hk : k < n) (h : bitI a k ≠ bitI b k) : sameT a b n = false := by
  unfold sameT
  rw [List.all_eq_false]
  exact ⟨k, List.mem_range.2 hk, by simpa using h⟩
/-- What has come, from the last side down. -/
theorem upT_fold (path : ByteArray) (l : List ByteArray) (n : Nat) (h : ByteArray) : ∀ k, k ≤ n → upT path l (n - k) (((List.range k).map (fun j => (n - 1 - j, l.getD (n - 1 - j) ByteArray.empty))).foldl (stepT path) h) = upT path l n h := by
  intro k
  induction k with
  | zero => intro _; rfl
  | succ k ih =>
    intro hk
    rw [← ih (by omega), List.range_succ, List.map_append, List.foldl_append, show n - k = (n - (k + 1)) + 1 by omega]
    show _ = upT path l (n - (k + 1)) (stepT path _ (n - (k + 1), l.getD (n - (k + 1)) ByteArray.empty))
    rw [show n - (k + 1) = n - 1 - k by omega]
    rfl
end Go.Proofs.Ytjmfkhjhhohnkaa.Q
