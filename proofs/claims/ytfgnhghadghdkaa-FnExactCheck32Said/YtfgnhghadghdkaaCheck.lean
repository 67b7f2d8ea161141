/- The two sums of bytes: one step a bit, the same in both. -/
import Derived.Test.YtfgnhghadghdkaaQ5
import Derived.Test.YtfgnhghadghdkaaQ6
import Derived.Test.YtfgnhghadghdkaaBy
import Derived.Laws.BitsAllLaws
import Derived.Laws.BytesArg
import Derived.IntWalk
namespace Go.Proofs.Ytfgnhghadghdkaa.Pure
open Go.RowKit Go.Proofs.Ytfgnhghadghdkaa.Q Go.Proofs.YtfgnhghadghdkaaW.PrintWords Go.Proofs.YtfgnhghadghdkaaW.PrintLast
set_option linter.unusedVariables false
theorem xor_i64 (a b : Nat) (ha : a < 4294967296) (hb : b < 4294967296) : Go.bits .xor .i64 (a : Int) (b : Int) = ((a ^^^ b : Nat) : Int) := by
  have hx : a ^^^ b < 2 ^ 32 := Nat.xor_lt_two_pow (by omega) (by omega)
  show IntKind.i64.wrap ((BitVec.ofInt 64 (a : Int) ^^^ BitVec.ofInt 64 (b : Int)).toNat : Int) = _
  rw [BitVec.toNat_xor, ofInt_u64 a (by omega), ofInt_u64 b (by omega)]
  exact IntWalk.i64_in _ (by omega)
/-- One step of the sum. -/
def cs (n : Nat) : Nat := if n % 2 = 1 then n / 2 ^^^ 3988292384 else n / 2
theorem cs_lt (n : Nat) (h : n < 4294967296) : cs n < 4294967296 := by
  unfold cs
  split
  · exact Nat.xor_lt_two_pow (n := 32) (by omega) (by decide)
  · omega
def csN : Nat → Nat → Nat
  | 0, n => n
  | j + 1, n => csN j (cs n)
theorem csN_lt (j : Nat) : ∀ n, n < 4294967296 → csN j n < 4294967296 := by
  induction j with
  | zero => intro n h; exact h
  | succ j ih => intro n h; exact ih _ (cs_lt n h)
theorem and1_u32 (n : Nat) (h : n < 4294967296) : Go.bits .and .u32 (n : Int) 1 = ((n % 2 : Nat) : Int) := by
  have := u32_and_nat n 1 h (by decide)
  rw [show ((1 : Int)) = ((1 : Nat) : Int) from rfl, this, Nat.and_one_is_mod]
theorem spec_l1 (x : List Int) (p : Nat) (hp : p ≤ 70000) (d : Nat) : ∀ (k j n : Nat), j + d = 8 → n < 4294967296 →
    spec_l01Check.l1 (k + d + 1) x (n : Int) (p : Int) (j : Int) = spec_l01Check.l0 k x ((csN d n : Nat) : Int) ((p + 1 : Nat) : Int) := by
  induction d with
  | zero =>
    intro k j n hj hn
    simp only [spec_l01Check.l1]
    rw [if_neg (by omega), by_suc p (by omega)]
    rfl
  | succ d ih =>
    intro k j n hj hn
    have e := ih k (j + 1) (cs n) (by omega) (cs_lt n hn)
    rw [show k + (d + 1) + 1 = (k + d + 1) + 1 by omega]
    simp only [spec_l01Check.l1]
    have hm : Int.tmod (n : Int) 2 = ((n % 2 : Nat) : Int) := by rw [Int.tmod_eq_emod_of_nonneg (by omega)]; omega
    have hd : wrap64 (Int.tdiv (n : Int) 2) = ((n / 2 : Nat) : Int) := by rw [Int.tdiv_eq_ediv_of_nonneg (by omega)]; unfold wrap64; omega
    have hx := xor_i64 (n / 2) 3988292384 (by omega) (by decide)
    rw [if_pos (by omega), hm, hd, by_suc j (by omega)]
    show (if ((n % 2 : Nat) : Int) = 1 then spec_l01Check.l1 (k + d + 1) x (Go.bits .xor .i64 ((n / 2 : Nat) : Int) ((3988292384 : Nat) : Int)) (p : Int) ((j + 1 : Nat) : Int) else spec_l01Check.l1 (k + d + 1) x ((n / 2 : Nat) : Int) (p : Int) ((j + 1 : Nat) : Int)) = _
    rw [hx]
    by_cases h1 : n % 2 = 1
    · rw [if_pos (by omega), show n / 2 ^^^ 3988292384 = cs n by unfold cs; rw [if_pos h1], e]; rfl
    · rw [if_neg (by omega), show n / 2 = cs n by unfold cs; rw [if_neg h1], e]; rfl
theorem impl_l1 (x : ByteArray) (p q : Nat) (hp : p ≤ 70000) (d : Nat) : ∀ (k j n : Nat), j + d = 8 → n < 4294967296 →
    impl_check32.l1 (k + d + 1) x (n : Int) (q : Int) (p : Int) (j : Int) = impl_check32.l0 k x ((csN d n : Nat) : Int) (q : Int) ((p + 1 : Nat) : Int) := by
  induction d with
  | zero =>
    intro k j n hj hn
    simp only [impl_check32.l1]
    rw [if_neg (by omega), by_suc p (by omega)]
    rfl
  | succ d ih =>
    intro k j n hj hn
    have e := ih k (j + 1) (cs n) (by omega) (cs_lt n hn)
    rw [show k + (d + 1) + 1 = (k + d + 1) + 1 by omega]
    simp only [impl_check32.l1]
    have hx := u32_xor_nat (n / 2) 3988292384 (by omega) (by decide)
    rw [if_pos (by omega), and1_u32 n hn, by_suc j (by omega)]
    show (if ((n % 2 : Nat) : Int) = 1 then impl_check32.l1 (k + d + 1) x (Go.bits .xor .u32 ((n / 2 : Nat) : Int) ((3988292384 : Nat) : Int)) (q : Int) (p : Int) ((j + 1 : Nat) : Int) else impl_check32.l1 (k + d + 1) x ((n / 2 : Nat) : Int) (q : Int) (p : Int) ((j + 1 : Nat) : Int)) = _
    rw [hx]
    by_cases h1 : n % 2 = 1
    · rw [if_pos (by omega), show n / 2 ^^^ 3988292384 = cs n by unfold cs; rw [if_pos h1], e]; rfl
    · rw [if_neg (by omega), show n / 2 = cs n by unfold cs; rw [if_neg h1], e]; rfl
theorem bt_nums (l : List Int) (hl : ∀ x ∈ l, 0 ≤ x ∧ x < 256) (i : Nat) (h : i < l.length) : bt (strOfNums l) (i : Int) = l[i] := by
  have h1 : ((i : Int)).toNat < (strOfNums l).size := by rw [Int.toNat_natCast, bySize]; exact h
  unfold bt
  rw [dif_pos h1]
  have hm := hl l[i] (List.getElem_mem h)
  have e : (strOfNums l)[((i : Int)).toNat]'h1 = UInt8.ofNat (l[i]).toNat := by simp [strOfNums, ByteArray.getElem_eq_getElem_data]
  rw [e, UInt8.toNat_ofNat']
  omega
theorem both_check (l : List Int) (hl : ∀ x ∈ l, 0 ≤ x ∧ x < 256) (hz : l.length ≤ 65536) (d : Nat) : ∀ (p n : Nat), p + d = l.length → n < 4294967296 → ∃ r : Nat, (∀ k, 10 * d < k → spec_l01Check.l0 k l (n : Int) (p : Int) = some (r : Int)) ∧
    ∀ k, 10 * d < k → impl_check32.l0 k (strOfNums l) (n : Int) (l.length : Int) (p : Int) = some (r : Int) := by
  induction d with
  | zero =>
    intro p n hp hn
    refine ⟨n ^^^ 4294967295, fun k hk => ?_, fun k hk => ?_⟩
    · obtain ⟨k, rfl⟩ : ∃ m, k = m + 1 := ⟨k - 1, by omega⟩
      simp only [spec_l01Check.l0]
      rw [if_neg (by omega)]
      exact congrArg some (xor_i64 n 4294967295 hn (by decide))
    · obtain ⟨k, rfl⟩ : ∃ m, k = m + 1 := ⟨k - 1, by omega⟩
      simp only [impl_check32.l0]
      have e := u32_xor_nat 4294967295 n (by decide) hn
      have hx : 4294967295 ^^^ n < 2 ^ 32 := Nat.xor_lt_two_pow (by omega) (by omega)
      rw [if_neg (by omega), show IntKind.u32.max = ((4294967295 : Nat) : Int) by decide, e, Nat.xor_comm n]
      congr 1
      unfold wrap64
      omega
  | succ d ih =>
    intro p n hp hn
    have hlt : p < l.length := by omega
    have hm := hl l[p] (List.getElem_mem hlt)
    obtain ⟨b, hb⟩ := Int.eq_ofNat_of_zero_le hm.1
    have hbl : b < 256 := by omega
    have hx : n ^^^ b < 4294967296 := Nat.xor_lt_two_pow (n := 32) (by omega) (by omega)
    obtain ⟨r, e1, e2⟩ := ih (p + 1) (csN 8 (n ^^^ b)) (by omega) (csN_lt 8 _ hx)
    have hw : wrap64 (b : Int) = (b : Int) := by unfold wrap64; omega
    have xi := xor_i64 n b hn (by omega)
    have xu := u32_xor_nat n b hn (by omega)
    refine ⟨r, fun k hk => ?_, fun k hk => ?_⟩
    · obtain ⟨k, rfl⟩ : ∃ m, k = m + 8 + 1 + 1 := ⟨k - 10, by omega⟩
      simp only [spec_l01Check.l0]
      rw [if_pos (by omega), if_pos (by omega), rd_i l p hlt, hb, hw, xi]
      have q := spec_l1 l p (by omega) 8 k 0 (n ^^^ b) (by omega) hx
      exact q.trans (e1 k (by omega))
    · obtain ⟨k, rfl⟩ : ∃ m, k = m + 8 + 1 + 1 := ⟨k - 10, by omega⟩
      simp only [impl_check32.l0]
      rw [if_pos (by omega), if_pos (by omega), if_pos (by rw [bySize]; omega), bt_nums l hl p hlt, hb, show ((b : Int) % 4294967296) = (b : Int) by clear hw xi xu; omega, xu]
      have q := impl_l1 (strOfNums l) p l.length (by omega) 8 k 0 (n ^^^ b) (by omega) hx
      exact q.trans (e2 k (by omega))
end Go.Proofs.Ytfgnhghadghdkaa.Pure
