/- What the laws' marks over pairs compute: what is marked is held. -/
import Derived.Test.YtpkfdjlmflmilaaDoorQ10
import Derived.Test.YtpkfdjlmflmilaaDoorQ11
import Derived.Test.YtpkfdjlmflmilaaDoorQ9
import Derived.Test.YtpkfdjlmflmilaaDoorPl
namespace Go.Proofs.YtpkfdjlmflmilaaDoor.Pure
open Go.RowKit Go.Proofs.YtpkfdjlmflmilaaDoor.Q Go.Proofs.YtpkfdjlmflmilaaDoorW.PrintWords Go.Proofs.YtpkfdjlmflmilaaDoorW.PrintLast
set_option linter.unusedVariables false
theorem bytesSize (l : List Int) : (strOfNums l).size = l.length := by unfold strOfNums; simp [ByteArray.size]
theorem w_suc (n : Nat) (h : n < 9223372036854775807) : wrap64 ((n : Int) + 1) = ((n + 1 : Nat) : Int) := by unfold wrap64; omega
theorem w_ten (n : Nat) (h : n < 9223372036854775807) : wrap64 (Int.tdiv (n : Int) 10) = ((n / 10 : Nat) : Int) := by
  rw [Int.tdiv_eq_ediv_of_nonneg (by omega)]
  unfold wrap64
  omega
theorem markText_l0 (d : Nat) : ∀ (n : Nat) (out : ByteArray), n < 10 ^ d → d ≤ 18 → out.size + d ≤ 100 → ∃ r, ∀ k, d < k → laws_markText.l0 k (n : Int) out = some r := by
  induction d with
  | zero =>
    intro n out hn hd hs
    have : n = 0 := by simpa using hn
    subst this
    refine ⟨(⟨#[109]⟩ : ByteArray) ++ out, fun k hk => ?_⟩
    obtain ⟨k, rfl⟩ : ∃ m, k = m + 1 := ⟨k - 1, by omega⟩
    simp only [laws_markText.l0]
    rw [if_neg (by simp), if_pos (by omega)]
  | succ d ih =>
    intro n out hn hd hs
    have hp : 10 ^ d ≤ 10 ^ 18 := Nat.pow_le_pow_right (by decide) (by omega)
    by_cases h0 : n = 0
    · subst h0
      refine ⟨(⟨#[109]⟩ : ByteArray) ++ out, fun k hk => ?_⟩
      obtain ⟨k, rfl⟩ : ∃ m, k = m + 1 := ⟨k - 1, by omega⟩
      simp only [laws_markText.l0]
      rw [if_neg (by simp), if_pos (by omega)]
    · have hn' : n / 10 < 10 ^ d := by rw [Nat.div_lt_iff_lt_mul (by decide)]; rw [Nat.pow_succ] at hn; exact hn
      obtain ⟨r, hr⟩ := ih (n / 10) (strOfNums [(wrap64 (48 + (Int.tmod (n : Int) 10))) % 256] ++ out) hn' (by omega) (by rw [ByteArray.size_append, bytesSize]; simp; omega)
      refine ⟨r, fun k hk => ?_⟩
      obtain ⟨k, rfl⟩ : ∃ m, k = m + 1 := ⟨k - 1, by omega⟩
      simp only [laws_markText.l0, Option.bind_some]
      have hb : n < 9223372036854775807 := by have p18 : (10 : Nat) ^ 18 = 1000000000000000000 := by decide
                                              have := Nat.pow_le_pow_right (show 0 < 10 by decide) (show d + 1 ≤ 18 by omega)
                                              omega
      rw [if_pos (by omega), if_pos (by rw [bytesSize]; simp; omega), w_ten n hb]
      exact hr k (by omega)
theorem markText_some (n : Nat) (hn : n < 10 ^ 18) : ∃ r, ∀ k, 20 < k → laws_markText.f k (n : Int) = some r := by
  by_cases h0 : n = 0
  · subst h0
    exact ⟨_, fun k _ => by unfold laws_markText.f; rw [if_pos (by simp)]⟩
  · obtain ⟨r, hr⟩ := markText_l0 18 n ⟨#[]⟩ hn (by decide) (by simp [ByteArray.size])
    exact ⟨r, fun k hk => by unfold laws_markText.f; rw [if_neg (by omega)]; exact hr k (by omega)⟩
/-- The mark's text. -/
noncomputable def mt (n : Nat) : ByteArray := @Classical.epsilon ByteArray ⟨ByteArray.empty⟩ fun r => ∀ k, 20 < k → laws_markText.f k (n : Int) = some r
theorem mt_eq (n : Nat) (h : n < 10 ^ 18) (k : Nat) (hk : 20 < k) : laws_markText.f k (n : Int) = some (mt n) := Classical.epsilon_spec (markText_some n h) k hk
theorem mt_at (n : Nat) (h : n ≤ 4294967296) (k : Nat) (hk : 20 < k) : laws_markText.f k (n : Int) = some (mt n) :=
  mt_eq n (Nat.lt_of_le_of_lt h (by decide)) k hk
/-- A marked list. -/
noncomputable def mkd (n : Nat) : List S45 := (List.range n).map fun i => ⟨mt (1 + 2 * i), mt (1 + 2 * i + 1)⟩
theorem mkd_len (n : Nat) : (mkd n).length = n := by simp [mkd]
theorem mkd_succ (n : Nat) : mkd (n + 1) = mkd n ++ [⟨mt (1 + 2 * n), mt (1 + 2 * n + 1)⟩] := by simp [mkd, List.range_succ]
theorem markPairS_l0 (n : Nat) (hl : n ≤ 1073741824) (d : Nat) : ∀ (k i : Nat) (x : List S45), x.length = n → n - i = d → i ≤ n → x.take i = mkd i → d + 21 < k →
    laws_markPairS.l0 k x ((1 + 2 * i : Nat) : Int) (i : Int) = some (((1 + 2 * n : Nat) : Int), mkd n) := by
  induction d with
  | zero =>
    intro k i x hx hd hi ht hk
    obtain ⟨k, rfl⟩ : ∃ m, k = m + 1 := ⟨k - 1, by omega⟩
    have : i = n := by omega
    subst this
    simp only [laws_markPairS.l0]
    rw [if_neg (by omega)]
    rw [List.take_of_length_le (by omega)] at ht
    rw [ht]
  | succ d ih =>
    intro k i x hx hd hi ht hk
    obtain ⟨k, rfl⟩ : ∃ m, k = m + 1 := ⟨k - 1, by omega⟩
    have hlt : i < x.length := by omega
    have q1 : 1 + 2 * i ≤ 4294967296 := by omega
    have q2 : 1 + 2 * i + 1 ≤ 4294967296 := by omega
    have q3 : 20 < k := by omega
    have b1 : 1 + 2 * i < 9223372036854775807 := Nat.lt_of_le_of_lt q1 (by decide)
    have b2 : 1 + 2 * i + 1 < 9223372036854775807 := Nat.lt_of_le_of_lt q2 (by decide)
    simp only [laws_markPairS.l0]
    rw [if_pos (by omega), mt_at (1 + 2 * i) q1 k q3]
    simp -implicitDefEqProofs only [Option.bind_some]
    have hn : x.length ≤ 9223372036854775807 := by omega
    simp only [w_suc (1 + 2 * i) b1, w_suc (1 + 2 * i + 1) b2, up64 hlt hn]
    rw [if_pos (by omega), mt_at (1 + 2 * i + 1) q2 k q3]
    simp -implicitDefEqProofs only [Option.bind_some]
    rw [show 1 + 2 * i + 1 + 1 = 1 + 2 * (i + 1) by omega, Int.toNat_natCast]
    refine ih k (i + 1) _ (by rw [List.length_set, List.length_set]; exact hx) (by omega) (by omega) ?_ (by omega)
    rw [mkd_succ, List.take_succ_eq_append_getElem (by rw [List.length_set, List.length_set]; omega), List.getElem_set_self, List.take_set_of_le (Nat.le_refl i), List.take_set_of_le (Nat.le_refl i), ht]
    simp [rd_T45, List.getD, List.getElem?_set_self hlt]
theorem markPairS_eq (x : List S45) (hl : x.length ≤ 1073741824) (k : Nat) (hk : x.length + 21 < k) : laws_markPairS.f k x 1 = some (((1 + 2 * x.length : Nat) : Int), mkd x.length) := by
  unfold laws_markPairS.f
  exact markPairS_l0 x.length hl x.length k 0 x rfl (by omega) (by omega) (by simp [mkd]) hk
/-- A marked list of balances. -/
noncomputable def mkB (n : Nat) : List S55 := (List.range n).map fun i => ⟨mt (1 + 3 * i), mt (1 + 3 * i + 1), ((1 + 3 * i + 2 : Nat) : Int)⟩
theorem mkB_len (n : Nat) : (mkB n).length = n := by simp [mkB]
theorem mkB_succ (n : Nat) : mkB (n + 1) = mkB n ++ [⟨mt (1 + 3 * n), mt (1 + 3 * n + 1), ((1 + 3 * n + 2 : Nat) : Int)⟩] := by simp [mkB, List.range_succ]
theorem markBalanceS_l0 (n : Nat) (hl : n ≤ 1073741824) (d : Nat) : ∀ (k i : Nat) (x : List S55), x.length = n → n - i = d → i ≤ n → x.take i = mkB i → d + 21 < k →
    laws_markBalanceS.l0 k x ((1 + 3 * i : Nat) : Int) (i : Int) = some (((1 + 3 * n : Nat) : Int), mkB n) := by
  induction d with
  | zero =>
    intro k i x hx hd hi ht hk
    obtain ⟨k, rfl⟩ : ∃ m, k = m + 1 := ⟨k - 1, by omega⟩
    have : i = n := by omega
    subst this
    simp only [laws_markBalanceS.l0]
    rw [if_neg (by omega)]
    rw [List.take_of_length_le (by omega)] at ht
    rw [ht]
  | succ d ih =>
    intro k i x hx hd hi ht hk
    obtain ⟨k, rfl⟩ : ∃ m, k = m + 1 := ⟨k - 1, by omega⟩
    have hlt : i < x.length := by omega
    have q1 : 1 + 3 * i ≤ 4294967296 := by omega
    have q2 : 1 + 3 * i + 1 ≤ 4294967296 := by omega
    have q4 : 1 + 3 * i + 1 + 1 ≤ 4294967296 := by omega
    have q3 : 20 < k := by omega
    have b1 : 1 + 3 * i < 9223372036854775807 := Nat.lt_of_le_of_lt q1 (by decide)
    have b2 : 1 + 3 * i + 1 < 9223372036854775807 := Nat.lt_of_le_of_lt q2 (by decide)
    have b3 : 1 + 3 * i + 1 + 1 < 9223372036854775807 := Nat.lt_of_le_of_lt q4 (by decide)
    simp only [laws_markBalanceS.l0]
    rw [if_pos (by omega), mt_at (1 + 3 * i) q1 k q3]
    simp -implicitDefEqProofs only [Option.bind_some]
    have hn : x.length ≤ 9223372036854775807 := by omega
    simp only [w_suc (1 + 3 * i) b1, w_suc (1 + 3 * i + 1) b2, w_suc (1 + 3 * i + 1 + 1) b3, up64 hlt hn]
    rw [if_pos (by omega), mt_at (1 + 3 * i + 1) q2 k q3]
    simp -implicitDefEqProofs only [Option.bind_some]
    rw [show 1 + 3 * i + 1 + 1 + 1 = 1 + 3 * (i + 1) by omega, Int.toNat_natCast]
    refine ih k (i + 1) _ (by rw [List.length_set, List.length_set, List.length_set]; exact hx) (by omega) (by omega) ?_ (by omega)
    rw [mkB_succ, List.take_succ_eq_append_getElem (by rw [List.length_set, List.length_set, List.length_set]; omega), List.getElem_set_self, List.take_set_of_le (Nat.le_refl i), List.take_set_of_le (Nat.le_refl i), List.take_set_of_le (Nat.le_refl i), ht]
    simp [rd_T55, List.getD, List.length_set, hlt]
    try omega
theorem markBalanceS_eq (x : List S55) (hl : x.length ≤ 1073741824) (k : Nat) (hk : x.length + 21 < k) : laws_markBalanceS.f k x 1 = some (((1 + 3 * x.length : Nat) : Int), mkB x.length) := by
  unfold laws_markBalanceS.f
  exact markBalanceS_l0 x.length hl x.length k 0 x rfl (by omega) (by omega) (by simp [mkB]) hk
theorem heldBalanceS_l0 (n : Nat) (hl : n ≤ 1073741824) (d : Nat) : ∀ (k i : Nat), n - i = d → i ≤ n → d + 21 < k → laws_heldBalanceS.l0 k (mkB n) ((1 + 3 * i : Nat) : Int) (i : Int) = some ((1 + 3 * n : Nat) : Int) := by
  induction d with
  | zero =>
    intro k i hd hi hk
    obtain ⟨k, rfl⟩ : ∃ m, k = m + 1 := ⟨k - 1, by omega⟩
    have : i = n := by omega
    subst this
    simp only [laws_heldBalanceS.l0]
    rw [if_neg (by rw [mkB_len]; omega)]
  | succ d ih =>
    intro k i hd hi hk
    obtain ⟨k, rfl⟩ : ∃ m, k = m + 1 := ⟨k - 1, by omega⟩
    have hlt : i < n := by omega
    have q1 : 1 + 3 * i ≤ 4294967296 := by omega
    have q2 : 1 + 3 * i + 1 ≤ 4294967296 := by omega
    have q4 : 1 + 3 * i + 1 + 1 ≤ 4294967296 := by omega
    have q3 : 20 < k := by omega
    have b1 : 1 + 3 * i < 9223372036854775807 := Nat.lt_of_le_of_lt q1 (by decide)
    have b2 : 1 + 3 * i + 1 < 9223372036854775807 := Nat.lt_of_le_of_lt q2 (by decide)
    have b3 : 1 + 3 * i + 1 + 1 < 9223372036854775807 := Nat.lt_of_le_of_lt q4 (by decide)
    have hr : rd_T55 (mkB n) (i : Int) = ⟨mt (1 + 3 * i), mt (1 + 3 * i + 1), ((1 + 3 * i + 1 + 1 : Nat) : Int)⟩ := by simp [rd_T55, mkB, List.getD, hlt] <;> omega
    simp only [laws_heldBalanceS.l0]
    rw [if_pos (by rw [mkB_len]; omega), if_pos (by omega), mt_at (1 + 3 * i) q1 k q3, hr]
    simp -implicitDefEqProofs only [Option.bind_some, if_true]
    have hn : n ≤ 9223372036854775807 := by omega
    simp only [w_suc (1 + 3 * i) b1, w_suc (1 + 3 * i + 1) b2, w_suc (1 + 3 * i + 1 + 1) b3, up64 hlt hn]
    rw [mt_at (1 + 3 * i + 1) q2 k q3]
    simp -implicitDefEqProofs only [Option.bind_some, if_true]
    rw [show 1 + 3 * i + 1 + 1 + 1 = 1 + 3 * (i + 1) by omega]
    exact ih k (i + 1) (by omega) (by omega) (by omega)
theorem heldBalanceS_eq (n : Nat) (hl : n ≤ 1073741824) (k : Nat) (hk : n + 21 < k) : laws_heldBalanceS.f k (mkB n) 1 = some ((1 + 3 * n : Nat) : Int) := by
  unfold laws_heldBalanceS.f
  exact heldBalanceS_l0 n hl n k 0 (by omega) (by omega) hk
theorem eqBalanceS_l0 (x : List S55) (hl : x.length ≤ 9223372036854775807) (d : Nat) : ∀ (k i : Nat), x.length - i = d → d < k → laws_eqBalanceS.l0 k x x (i : Int) = some true := by
  induction d with
  | zero =>
    intro k i hd hk
    obtain ⟨k, rfl⟩ : ∃ m, k = m + 1 := ⟨k - 1, by omega⟩
    simp only [laws_eqBalanceS.l0]
    rw [if_neg (by omega)]
  | succ d ih =>
    intro k i hd hk
    obtain ⟨k, rfl⟩ : ∃ m, k = m + 1 := ⟨k - 1, by omega⟩
    have hlt : i < x.length := by omega
    simp only [laws_eqBalanceS.l0]
    rw [if_pos (by omega), if_pos (by omega), if_pos (by omega), up64 hlt hl]
    unfold laws_eqBalance.f
    rw [if_pos rfl, if_pos rfl, if_pos rfl, Option.bind_some, if_pos rfl]
    exact ih k (i + 1) (by omega) (by omega)
theorem eqBalanceS_refl (x : List S55) (hl : x.length ≤ 9223372036854775807) (k : Nat) (hk : x.length < k) : laws_eqBalanceS.f k x x = some true := by
  unfold laws_eqBalanceS.f
  rw [if_pos rfl]
  exact eqBalanceS_l0 x hl x.length k 0 (by omega) hk
end Go.Proofs.YtpkfdjlmflmilaaDoor.Pure
