/- What the laws' own functions over bytes and lists of texts compute: copies, comparison, marks. -/
import Derived.Test.YtfgnhghadghdkaaF1
import Derived.Lib.Strings
import Derived.WideShapes
namespace Go.Proofs.Ytfgnhghadghdkaa.Pure
open Go.RowKit Go.Proofs.Ytfgnhghadghdkaa.F Go.Proofs.YtfgnhghadghdkaaW.PrintWords Go.Proofs.YtfgnhghadghdkaaW.PrintLast
set_option linter.unusedVariables false
theorem by_up {i n : Nat} (h : i < n) (hn : n ≤ 9223372036854775807) : wrap64 ((i : Int) + 1) = ((i + 1 : Nat) : Int) := by unfold wrap64; omega
theorem by_suc (n : Nat) (h : n < 9223372036854775807) : wrap64 ((n : Int) + 1) = ((n + 1 : Nat) : Int) := by unfold wrap64; omega
theorem rd_i (l : List Int) (i : Nat) (h : i < l.length) : rd l (i : Int) = l[i] := by simp [rd, List.getD, List.getElem?_eq_getElem h]
theorem rs_i (l : List ByteArray) (i : Nat) (h : i < l.length) : rdOf ByteArray.empty l (i : Int) = l[i] := by simp [rdOf, List.getD, List.getElem?_eq_getElem h]
theorem eqByteS_l0 (x : List Int) (hl : x.length ≤ 9223372036854775807) (d : Nat) : ∀ (k i : Nat), x.length - i = d → d < k → laws_eqByteS.l0 k x x (i : Int) = some true := by
  induction d with
  | zero =>
    intro k i hd hk
    obtain ⟨k, rfl⟩ : ∃ m, k = m + 1 := ⟨k - 1, by omega⟩
    simp only [laws_eqByteS.l0]
    rw [if_neg (by omega)]
  | succ d ih =>
    intro k i hd hk
    obtain ⟨k, rfl⟩ : ∃ m, k = m + 1 := ⟨k - 1, by omega⟩
    have hlt : i < x.length := by omega
    simp only [laws_eqByteS.l0, if_true]
    rw [if_pos (by omega), if_pos (by omega), if_pos (by omega), by_up hlt hl]
    exact ih k (i + 1) (by omega) (by omega)
theorem eqByteS_refl (x : List Int) (hl : x.length ≤ 9223372036854775807) (k : Nat) (hk : x.length < k) : laws_eqByteS.f k x x = some true := by
  unfold laws_eqByteS.f
  rw [if_pos rfl]
  exact eqByteS_l0 x hl x.length k 0 (by omega) hk
theorem eqStringS_l0 (x : List ByteArray) (hl : x.length ≤ 9223372036854775807) (d : Nat) : ∀ (k i : Nat), x.length - i = d → d < k → laws_eqStringS.l0 k x x (i : Int) = some true := by
  induction d with
  | zero =>
    intro k i hd hk
    obtain ⟨k, rfl⟩ : ∃ m, k = m + 1 := ⟨k - 1, by omega⟩
    simp only [laws_eqStringS.l0]
    rw [if_neg (by omega)]
  | succ d ih =>
    intro k i hd hk
    obtain ⟨k, rfl⟩ : ∃ m, k = m + 1 := ⟨k - 1, by omega⟩
    have hlt : i < x.length := by omega
    simp only [laws_eqStringS.l0, if_true]
    rw [if_pos (by omega), if_pos (by omega), if_pos (by omega), by_up hlt hl]
    exact ih k (i + 1) (by omega) (by omega)
theorem eqStringS_self (x : List ByteArray) (hl : x.length ≤ 9223372036854775807) (k : Nat) (hk : x.length < k) : laws_eqStringS.f k x x = some true := by
  unfold laws_eqStringS.f
  rw [if_pos rfl]
  exact eqStringS_l0 x hl x.length k 0 (by omega) hk
/-- Bytes are marked: how many there are is what comes back. -/
theorem markByteS_l0 (n : Nat) (hl : n ≤ 1073741824) (d : Nat) : ∀ (k i : Nat) (x : List Int), x.length = n → n - i = d → i ≤ n → d < k → ∃ y, laws_markByteS.l0 k x ((1 + i : Nat) : Int) (i : Int) = some (((1 + n : Nat) : Int), y) := by
  induction d with
  | zero =>
    intro k i x hx hd hi hk
    obtain ⟨k, rfl⟩ : ∃ m, k = m + 1 := ⟨k - 1, by omega⟩
    have : i = n := by omega
    subst this
    refine ⟨x, ?_⟩
    simp only [laws_markByteS.l0]
    rw [if_neg (by omega)]
  | succ d ih =>
    intro k i x hx hd hi hk
    obtain ⟨k, rfl⟩ : ∃ m, k = m + 1 := ⟨k - 1, by omega⟩
    have b1 : 1 + i < 9223372036854775807 := by omega
    have b2 : i < 9223372036854775807 := by omega
    obtain ⟨y, hy⟩ := ih k (i + 1) (x.set i (((1 + i : Nat) : Int) % 256)) (by rw [List.length_set]; exact hx) (by omega) (by omega) (by omega)
    refine ⟨y, ?_⟩
    simp only [laws_markByteS.l0]
    rw [if_pos (by omega), if_pos (by omega), by_suc (1 + i) b1, by_suc i b2, Int.toNat_natCast, show 1 + i + 1 = 1 + (i + 1) by omega]
    exact hy
theorem markByteS_eq (x : List Int) (hl : x.length ≤ 1073741824) (k : Nat) (hk : x.length < k) : ∃ y, laws_markByteS.f k x 1 = some (((1 + x.length : Nat) : Int), y) := by
  unfold laws_markByteS.f
  exact markByteS_l0 x.length hl x.length k 0 x rfl (by omega) (by omega) hk

/-! ### marks of texts -/
theorem bySize (l : List Int) : (strOfNums l).size = l.length := by unfold strOfNums; simp [ByteArray.size]
theorem by_ten (n : Nat) (h : n < 9223372036854775807) : wrap64 (Int.tdiv (n : Int) 10) = ((n / 10 : Nat) : Int) := by
  rw [Int.tdiv_eq_ediv_of_nonneg (by omega)]
  unfold wrap64
  omega
theorem tx_l0 (d : Nat) : ∀ (n : Nat) (out : ByteArray), n < 10 ^ d → d ≤ 18 → out.size + d ≤ 100 → ∃ r, ∀ k, d < k → laws_markText.l0 k (n : Int) out = some r := by
  induction d with
  | zero =>
    intro n out hn hd hs
    have : n = 0 := by simpa using hn
    subst this
    refine ⟨(⟨#[109]⟩ : ByteArray) ++ out, fun k hk => ?_⟩
    obtain ⟨k, rfl⟩ : ∃ m, k = m + 1 := ⟨k - 1, by omega⟩
    simp only [laws_markText.l0]
    rw [if_neg (by simp), if_pos (by omega)]
  | succ d ih =>
    intro n out hn hd hs
    by_cases h0 : n = 0
    · subst h0
      refine ⟨(⟨#[109]⟩ : ByteArray) ++ out, fun k hk => ?_⟩
      obtain ⟨k, rfl⟩ : ∃ m, k = m + 1 := ⟨k - 1, by omega⟩
      simp only [laws_markText.l0]
      rw [if_neg (by simp), if_pos (by omega)]
    · have hn' : n / 10 < 10 ^ d := by rw [Nat.div_lt_iff_lt_mul (by decide)]; rw [Nat.pow_succ] at hn; exact hn
      have hb : n < 9223372036854775807 := by have p18 : (10 : Nat) ^ 18 = 1000000000000000000 := by decide
                                              have := Nat.pow_le_pow_right (show 0 < 10 by decide) (show d + 1 ≤ 18 by omega)
                                              omega
      obtain ⟨r, hr⟩ := ih (n / 10) (strOfNums [(wrap64 (48 + (Int.tmod (n : Int) 10))) % 256] ++ out) hn' (by omega) (by rw [ByteArray.size_append, bySize]; simp; omega)
      refine ⟨r, fun k hk => ?_⟩
      obtain ⟨k, rfl⟩ : ∃ m, k = m + 1 := ⟨k - 1, by omega⟩
      simp only [laws_markText.l0, Option.bind_some]
      rw [if_pos (by omega), if_pos (by rw [bySize]; simp; omega), by_ten n hb]
      exact hr k (by omega)
theorem tx_some (n : Nat) (hn : n < 10 ^ 18) : ∃ r, ∀ k, 20 < k → laws_markText.f k (n : Int) = some r := by
  by_cases h0 : n = 0
  · subst h0
    exact ⟨_, fun k _ => by unfold laws_markText.f; rw [if_pos (by simp)]⟩
  · obtain ⟨r, hr⟩ := tx_l0 18 n ⟨#[]⟩ hn (by decide) (by simp [ByteArray.size])
    exact ⟨r, fun k hk => by unfold laws_markText.f; rw [if_neg (by omega)]; exact hr k (by omega)⟩
noncomputable def tx (n : Nat) : ByteArray := @Classical.epsilon ByteArray ⟨ByteArray.empty⟩ fun r => ∀ k, 20 < k → laws_markText.f k (n : Int) = some r
theorem tx_at (n : Nat) (h : n ≤ 4294967296) (k : Nat) (hk : 20 < k) : laws_markText.f k (n : Int) = some (tx n) := Classical.epsilon_spec (tx_some n (Nat.lt_of_le_of_lt h (by decide))) k hk
noncomputable def txs (n : Nat) : List ByteArray := (List.range n).map fun i => tx (1 + i)
theorem txs_len (n : Nat) : (txs n).length = n := by simp [txs]
theorem txs_succ (n : Nat) : txs (n + 1) = txs n ++ [tx (1 + n)] := by simp [txs, List.range_succ]
theorem markStringS_l0 (n : Nat) (hl : n ≤ 1073741824) (d : Nat) : ∀ (k i : Nat) (x : List ByteArray), x.length = n → n - i = d → i ≤ n → x.take i = txs i → d + 21 < k →
    laws_markStringS.l0 k x ((1 + i : Nat) : Int) (i : Int) = some (((1 + n : Nat) : Int), txs n) := by
  induction d with
  | zero =>
    intro k i x hx hd hi ht hk
    obtain ⟨k, rfl⟩ : ∃ m, k = m + 1 := ⟨k - 1, by omega⟩
    have : i = n := by omega
    subst this
    simp only [laws_markStringS.l0]
    rw [if_neg (by omega)]
    rw [List.take_of_length_le (by omega)] at ht
    rw [ht]
  | succ d ih =>
    intro k i x hx hd hi ht hk
    obtain ⟨k, rfl⟩ : ∃ m, k = m + 1 := ⟨k - 1, by omega⟩
    have hlt : i < x.length := by omega
    have b1 : 1 + i < 9223372036854775807 := by omega
    have b2 : i < 9223372036854775807 := by omega
    simp only [laws_markStringS.l0]
    rw [if_pos (by omega), tx_at (1 + i) (by omega) k (by omega), Option.bind_some, if_pos (by omega), by_suc (1 + i) b1, by_suc i b2, Int.toNat_natCast, show 1 + i + 1 = 1 + (i + 1) by omega]
    refine ih k (i + 1) _ (by rw [List.length_set]; exact hx) (by omega) (by omega) ?_ (by omega)
    rw [txs_succ, List.take_succ_eq_append_getElem (by rw [List.length_set]; omega), List.getElem_set_self, List.take_set_of_le (Nat.le_refl i), ht]
theorem markStringS_eq (x : List ByteArray) (hl : x.length ≤ 1073741824) (k : Nat) (hk : x.length + 21 < k) : laws_markStringS.f k x 1 = some (((1 + x.length : Nat) : Int), txs x.length) := by
  unfold laws_markStringS.f
  exact markStringS_l0 x.length hl x.length k 0 x rfl (by omega) (by omega) (by simp [txs]) hk
end Go.Proofs.Ytfgnhghadghdkaa.Pure
