/- What the laws' own functions over lists of texts compute: sizes, copies, comparison. -/
import Derived.Test.YtjmfkhjhhohnkaaQ1
import Derived.Test.YtjmfkhjhhohnkaaQ2
import Derived.Test.YtjmfkhjhhohnkaaQ5
import Derived.Test.YtjmfkhjhhohnkaaE1
import Derived.Lib.Strings
import Derived.WideShapes
namespace Go.Proofs.Ytjmfkhjhhohnkaa.Pure
open Go.RowKit Go.Proofs.Ytjmfkhjhhohnkaa.Q Go.Proofs.YtjmfkhjhhohnkaaW.PrintWords Go.Proofs.YtjmfkhjhhohnkaaW.PrintLast
set_option linter.unusedVariables false
theorem sl_inj {a b : ByteArray} (h : a.toList = b.toList) : a = b := Go.WideShapes.bytes_inj (by rw [← Lib.toList_data, ← Lib.toList_data]; exact h)
theorem sl_iff {a b : ByteArray} : a.toList = b.toList ↔ a = b := ⟨sl_inj, fun h => by rw [h]⟩
theorem us64 {i n : Nat} (h : i < n) (hn : n ≤ 9223372036854775807) : wrap64 ((i : Int) + 1) = ((i + 1 : Nat) : Int) := by unfold wrap64; omega
theorem rd_at (l : List ByteArray) (i : Nat) (h : i < l.length) : rdOf ByteArray.empty l (i : Int) = l[i] := by simp [rdOf, List.getD, List.getElem?_eq_getElem h]
theorem w_sub (n : Int) (m : Nat) (h0 : 0 ≤ n) (h1 : n ≤ 1048576) (hm : m ≤ 9223372036854775807) : wrap64 (n - (m : Int)) = n - m := by unfold wrap64; omega
theorem szStringS_l0 (l : List ByteArray) (hw : ∀ x ∈ l, x.size ≤ 9223372036854775807) (hl : l.length ≤ 9223372036854775807) (d : Nat) : ∀ (i : Nat) (n : Int), l.length - i = d → 0 ≤ n → n ≤ 1048576 →
    ∃ r, r ≤ 1048576 ∧ ∀ k, d < k → laws_szStringS.l0 k l n (i : Int) = some r := by
  induction d with
  | zero =>
    intro i n hd h0 h1
    refine ⟨n, h1, fun k hk => ?_⟩
    obtain ⟨k, rfl⟩ : ∃ m, k = m + 1 := ⟨k - 1, by omega⟩
    simp only [laws_szStringS.l0]
    rw [if_neg (by omega)]
  | succ d ih =>
    intro i n hd h0 h1
    have hlt : i < l.length := by omega
    have hs := hw l[i] (List.getElem_mem hlt)
    by_cases h : n - (l[i].size : Int) < 0
    · refine ⟨-1, by omega, fun k hk => ?_⟩
      obtain ⟨k, rfl⟩ : ∃ m, k = m + 1 := ⟨k - 1, by omega⟩
      simp only [laws_szStringS.l0]
      rw [if_pos (by omega), if_pos (by omega), rd_at l i hlt, w_sub n _ h0 h1 hs, if_pos h]
    · obtain ⟨r, hr0, hr⟩ := ih (i + 1) (n - (l[i].size : Int)) (by omega) (by omega) (by omega)
      refine ⟨r, hr0, fun k hk => ?_⟩
      obtain ⟨k, rfl⟩ : ∃ m, k = m + 1 := ⟨k - 1, by omega⟩
      simp only [laws_szStringS.l0]
      rw [if_pos (by omega), if_pos (by omega), rd_at l i hlt, w_sub n _ h0 h1 hs, if_neg h, us64 hlt hl]
      exact hr k (by omega)
theorem szStringS_eq (l : List ByteArray) (hw : ∀ x ∈ l, x.size ≤ 9223372036854775807) (hl : l.length ≤ 9223372036854775807) (n : Int) (h0 : 0 ≤ n) (h1 : n ≤ 1048576) :
    ∃ r, r ≤ 1048576 ∧ (∀ k, l.length < k → laws_szStringS.f k l n = some r) ∧ (0 ≤ r → l.length ≤ 1048576) := by
  unfold laws_szStringS.f
  rw [w_sub n _ h0 h1 hl]
  by_cases h : n - (l.length : Int) < 0
  · exact ⟨-1, by omega, fun k _ => by rw [if_pos h], fun h => by omega⟩
  · obtain ⟨r, hr0, hr⟩ := szStringS_l0 l hw hl l.length 0 (n - l.length) (by omega) (by omega) (by omega)
    exact ⟨r, hr0, fun k hk => by rw [if_neg h]; exact hr k hk, fun _ => by omega⟩
theorem toStringS_l0 (l : List ByteArray) (hl : l.length ≤ 9223372036854775807) (d : Nat) : ∀ (k i : Nat) (acc : List ByteArray), l.length - i = d → acc.length = l.length → acc.take i = l.take i → i ≤ l.length → d < k →
    laws_toStringS.l0 k l acc (i : Int) = some l := by
  induction d with
  | zero =>
    intro k i acc hd hal ht hi hk
    obtain ⟨k, rfl⟩ : ∃ m, k = m + 1 := ⟨k - 1, by omega⟩
    have : i = l.length := by omega
    subst this
    simp only [laws_toStringS.l0]
    rw [if_neg (by omega)]
    rw [List.take_of_length_le (by omega), List.take_of_length_le (by omega)] at ht
    rw [ht]
  | succ d ih =>
    intro k i acc hd hal ht hi hk
    obtain ⟨k, rfl⟩ : ∃ m, k = m + 1 := ⟨k - 1, by omega⟩
    have hlt : i < l.length := by omega
    simp only [laws_toStringS.l0]
    rw [if_pos (by omega), if_pos (by omega), if_pos (by omega), us64 hlt hl, Int.toNat_natCast, rd_at l i hlt]
    refine ih k (i + 1) _ (by omega) (by rw [List.length_set]; exact hal) ?_ (by omega) (by omega)
    rw [List.take_succ_eq_append_getElem (by rw [List.length_set]; omega), List.take_succ_eq_append_getElem hlt, List.getElem_set_self, List.take_set_of_le (Nat.le_refl i), ht]
theorem toStringS_eq (l : List ByteArray) (hl : l.length ≤ 1048576) (k : Nat) (hk : l.length < k) : laws_toStringS.f k l = some l := by
  unfold laws_toStringS.f
  rw [if_pos (by omega), Int.toNat_natCast, if_pos (by omega)]
  exact toStringS_l0 l (by omega) l.length k 0 _ (by omega) (by simp) (by simp) (by omega) hk
theorem eqStringS_refl_l0 (x : List ByteArray) (hl : x.length ≤ 9223372036854775807) (d : Nat) : ∀ (k i : Nat), x.length - i = d → d < k → laws_eqStringS.l0 k x x (i : Int) = some true := by
  induction d with
  | zero =>
    intro k i hd hk
    obtain ⟨k, rfl⟩ : ∃ m, k = m + 1 := ⟨k - 1, by omega⟩
    simp only [laws_eqStringS.l0]
    rw [if_neg (by omega)]
  | succ d ih =>
    intro k i hd hk
    obtain ⟨k, rfl⟩ : ∃ m, k = m + 1 := ⟨k - 1, by omega⟩
    have hlt : i < x.length := by omega
    simp only [laws_eqStringS.l0, if_true]
    rw [if_pos (by omega), if_pos (by omega), if_pos (by omega), us64 hlt hl]
    exact ih k (i + 1) (by omega) (by omega)
theorem eqStringS_refl (x : List ByteArray) (hl : x.length ≤ 9223372036854775807) (k : Nat) (hk : x.length < k) : laws_eqStringS.f k x x = some true := by
  unfold laws_eqStringS.f
  rw [if_pos rfl]
  exact eqStringS_refl_l0 x hl x.length k 0 (by omega) hk
end Go.Proofs.Ytjmfkhjhhohnkaa.Pure
