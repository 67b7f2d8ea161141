/- What the laws' marks over pairs compute: what is marked is held. -/
import Derived.Test.YtifkdlcalkccaaaQ8
import Derived.Test.YtifkdlcalkccaaaQ9
import Derived.Test.YtifkdlcalkccaaaPl
namespace Go.Proofs.Ytifkdlcalkccaaa.Pure
open Go.RowKit Go.Proofs.Ytifkdlcalkccaaa.Q Go.Proofs.YtifkdlcalkccaaaW.PrintWords Go.Proofs.YtifkdlcalkccaaaW.PrintLast
set_option linter.unusedVariables false
theorem bytesSize (l : List Int) : (strOfNums l).size = l.length := by unfold strOfNums; simp [ByteArray.size]
theorem w_suc (n : Nat) (h : n < 9223372036854775807) : wrap64 ((n : Int) + 1) = ((n + 1 : Nat) : Int) := by unfold wrap64; omega
theorem w_ten (n : Nat) (h : n < 9223372036854775807) : wrap64 (Int.tdiv (n : Int) 10) = ((n / 10 : Nat) : Int) := by
  rw [Int.tdiv_eq_ediv_of_nonneg (by omega)]
  unfold wrap64
  omega
theorem markText_l0 (d : Nat) : ∀ (n : Nat) (out : ByteArray), n < 10 ^ d → d ≤ 18 → out.size + d ≤ 100 → ∃ r, ∀ k, d < k → laws_markText.l0 k (n : Int) out = some r := by
  induction d with
  | zero =>
    intro n out hn hd hs
    have : n = 0 := by simpa using hn
    subst this
    refine ⟨(⟨#[109]⟩ : ByteArray) ++ out, fun k hk => ?_⟩
    obtain ⟨k, rfl⟩ : ∃ m, k = m + 1 := ⟨k - 1, by omega⟩
    simp only [laws_markText.l0]
    rw [if_neg (by simp), if_pos (by omega)]
  | succ d ih =>
    intro n out hn hd hs
    have hp : 10 ^ d ≤ 10 ^ 18 := Nat.pow_le_pow_right (by decide) (by omega)
    by_cases h0 : n = 0
    · subst h0
      refine ⟨(⟨#[109]⟩ : ByteArray) ++ out, fun k hk => ?_⟩
      obtain ⟨k, rfl⟩ : ∃ m, k = m + 1 := ⟨k - 1, by omega⟩
      simp only [laws_markText.l0]
      rw [if_neg (by simp), if_pos (by omega)]
    · have hn' : n / 10 < 10 ^ d := by rw [Nat.div_lt_iff_lt_mul (by decide)]; rw [Nat.pow_succ] at hn; exact hn
      obtain ⟨r, hr⟩ := ih (n / 10) (strOfNums [(wrap64 (48 + (Int.tmod (n : Int) 10))) % 256] ++ out) hn' (by omega) (by rw [ByteArray.size_append, bytesSize]; simp; omega)
      refine ⟨r, fun k hk => ?_⟩
      obtain ⟨k, rfl⟩ : ∃ m, k = m + 1 := ⟨k - 1, by omega⟩
      simp only [laws_markText.l0, Option.bind_some]
      have hb : n < 9223372036854775807 := by have p18 : (10 : Nat) ^ 18 = 1000000000000000000 := by decide
                                              have := Nat.pow_le_pow_right (show 0 < 10 by decide) (show d + 1 ≤ 18 by omega)
                                              omega
      rw [if_pos (by omega), if_pos (by rw [bytesSize]; simp; omega), w_ten n hb]
      exact hr k (by omega)
theorem markText_some (n : Nat) (hn : n < 10 ^ 18) : ∃ r, ∀ k, 20 < k → laws_markText.f k (n : Int) = some r := by
  by_cases h0 : n = 0
  · subst h0
    exact ⟨_, fun k _ => by unfold laws_markText.f; rw [if_pos (by simp)]⟩
  · obtain ⟨r, hr⟩ := markText_l0 18 n ⟨#[]⟩ hn (by decide) (by simp [ByteArray.size])
    exact ⟨r, fun k hk => by unfold laws_markText.f; rw [if_neg (by omega)]; exact hr k (by omega)⟩
/-- The mark's text. -/
noncomputable def mt (n : Nat) : ByteArray := @Classical.epsilon ByteArray ⟨ByteArray.empty⟩ fun r => ∀ k, 20 < k → laws_markText.f k (n : Int) = some r
theorem mt_eq (n : Nat) (h : n < 10 ^ 18) (k : Nat) (hk : 20 < k) : laws_markText.f k (n : Int) = some (mt n) := Classical.epsilon_spec (markText_some n h) k hk
theorem mt_at (n : Nat) (h : n ≤ 4294967296) (k : Nat) (hk : 20 < k) : laws_markText.f k (n : Int) = some (mt n) :=
  mt_eq n (Nat.lt_of_le_of_lt h (by decide)) k hk
/-- A marked list. -/
noncomputable def mkd (n : Nat) : List S50 := (List.range n).map fun i => ⟨mt (1 + 2 * i), mt (1 + 2 * i + 1)⟩
theorem mkd_len (n : Nat) : (mkd n).length = n := by simp [mkd]
theorem mkd_succ (n : Nat) : mkd (n + 1) = mkd n ++ [⟨mt (1 + 2 * n), mt (1 + 2 * n + 1)⟩] := by simp [mkd, List.range_succ]
theorem markPairS_l0 (n : Nat) (hl : n ≤ 1073741824) (d : Nat) : ∀ (k i : Nat) (x : List S50), x.length = n → n - i = d → i ≤ n → x.take i = mkd i → d + 21 < k →
    laws_markPairS.l0 k x ((1 + 2 * i : Nat) : Int) (i : Int) = some (((1 + 2 * n : Nat) : Int), mkd n) := by
  induction d with
  | zero =>
    intro k i x hx hd hi ht hk
    obtain ⟨k, rfl⟩ : ∃ m, k = m + 1 := ⟨k - 1, by omega⟩
    have : i = n := by omega
    subst this
    simp only [laws_markPairS.l0]
    rw [if_neg (by omega)]
    rw [List.take_of_length_le (by omega)] at ht
    rw [ht]
  | succ d ih =>
    intro k i x hx hd hi ht hk
    obtain ⟨k, rfl⟩ : ∃ m, k = m + 1 := ⟨k - 1, by omega⟩
    have hlt : i < x.length := by omega
    have q1 : 1 + 2 * i ≤ 4294967296 := by omega
    have q2 : 1 + 2 * i + 1 ≤ 4294967296 := by omega
    have q3 : 20 < k := by omega
    have b1 : 1 + 2 * i < 9223372036854775807 := Nat.lt_of_le_of_lt q1 (by decide)
    have b2 : 1 + 2 * i + 1 < 9223372036854775807 := Nat.lt_of_le_of_lt q2 (by decide)
    simp only [laws_markPairS.l0]
    rw [if_pos (by omega), mt_at (1 + 2 * i) q1 k q3]
    simp -implicitDefEqProofs only [Option.bind_some]
    have hn : x.length ≤ 9223372036854775807 := by omega
    simp only [w_suc (1 + 2 * i) b1, w_suc (1 + 2 * i + 1) b2, up64 hlt hn]
    rw [if_pos (by omega), mt_at (1 + 2 * i + 1) q2 k q3]
    simp -implicitDefEqProofs only [Option.bind_some]
    rw [show 1 + 2 * i + 1 + 1 = 1 + 2 * (i + 1) by omega, Int.toNat_natCast]
    refine ih k (i + 1) _ (by rw [List.length_set, List.length_set]; exact hx) (by omega) (by omega) ?_ (by omega)
    rw [mkd_succ, List.take_succ_eq_append_getElem (by rw [List.length_set, List.length_set]; omega), List.getElem_set_self, List.take_set_of_le (Nat.le_refl i), List.take_set_of_le (Nat.le_refl i), ht]
    simp [rd_T50, List.getD, List.getElem?_set_self hlt]
theorem markPairS_eq (x : List S50) (hl : x.length ≤ 1073741824) (k : Nat) (hk : x.length + 21 < k) : laws_markPairS.f k x 1 = some (((1 + 2 * x.length : Nat) : Int), mkd x.length) := by
  unfold laws_markPairS.f
  exact markPairS_l0 x.length hl x.length k 0 x rfl (by omega) (by omega) (by simp [mkd]) hk
theorem heldPairS_l0 (n : Nat) (hl : n ≤ 1073741824) (d : Nat) : ∀ (k i : Nat), n - i = d → i ≤ n → d + 21 < k → laws_heldPairS.l0 k (mkd n) ((1 + 2 * i : Nat) : Int) (i : Int) = some ((1 + 2 * n : Nat) : Int) := by
  induction d with
  | zero =>
    intro k i hd hi hk
    obtain ⟨k, rfl⟩ : ∃ m, k = m + 1 := ⟨k - 1, by omega⟩
    have : i = n := by omega
    subst this
    simp only [laws_heldPairS.l0]
    rw [if_neg (by rw [mkd_len]; omega)]
  | succ d ih =>
    intro k i hd hi hk
    obtain ⟨k, rfl⟩ : ∃ m, k = m + 1 := ⟨k - 1, by omega⟩
    have hlt : i < n := by omega
    have q1 : 1 + 2 * i ≤ 4294967296 := by omega
    have q2 : 1 + 2 * i + 1 ≤ 4294967296 := by omega
    have q3 : 20 < k := by omega
    have b1 : 1 + 2 * i < 9223372036854775807 := Nat.lt_of_le_of_lt q1 (by decide)
    have b2 : 1 + 2 * i + 1 < 9223372036854775807 := Nat.lt_of_le_of_lt q2 (by decide)
    have hr : rd_T50 (mkd n) (i : Int) = ⟨mt (1 + 2 * i), mt (1 + 2 * i + 1)⟩ := by simp [rd_T50, mkd, List.getD, hlt]
    simp only [laws_heldPairS.l0]
    rw [if_pos (by rw [mkd_len]; omega), if_pos (by omega), mt_at (1 + 2 * i) q1 k q3, hr]
    simp -implicitDefEqProofs only [Option.bind_some, if_true]
    have hn : n ≤ 9223372036854775807 := by omega
    simp only [w_suc (1 + 2 * i) b1, w_suc (1 + 2 * i + 1) b2, up64 hlt hn]
    rw [mt_at (1 + 2 * i + 1) q2 k q3]
    simp -implicitDefEqProofs only [Option.bind_some, if_true]
    rw [show 1 + 2 * i + 1 + 1 = 1 + 2 * (i + 1) by omega]
    exact ih k (i + 1) (by omega) (by omega) (by omega)
theorem heldPairS_eq (n : Nat) (hl : n ≤ 1073741824) (k : Nat) (hk : n + 21 < k) : laws_heldPairS.f k (mkd n) 1 = some ((1 + 2 * n : Nat) : Int) := by
  unfold laws_heldPairS.f
  exact heldPairS_l0 n hl n k 0 (by omega) (by omega) hk
end Go.Proofs.Ytifkdlcalkccaaa.Pure
