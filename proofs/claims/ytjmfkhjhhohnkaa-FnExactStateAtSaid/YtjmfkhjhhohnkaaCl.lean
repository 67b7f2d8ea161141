/- What the laws' own functions over clients compute: sizes, copies, comparison. -/
import Derived.Test.YtjmfkhjhhohnkaaQ1
import Derived.Lib.Strings
import Derived.WideShapes
namespace Go.Proofs.Ytjmfkhjhhohnkaa.Pure
open Go.RowKit Go.Proofs.Ytjmfkhjhhohnkaa.Q Go.Proofs.YtjmfkhjhhohnkaaW.PrintWords Go.Proofs.YtjmfkhjhhohnkaaW.PrintLast
set_option linter.unusedVariables false
theorem cl_inj {a b : ByteArray} (h : a.toList = b.toList) : a = b := Go.WideShapes.bytes_inj (by rw [← Lib.toList_data, ← Lib.toList_data]; exact h)
theorem cl_iff {a b : ByteArray} : a.toList = b.toList ↔ a = b := ⟨cl_inj, fun h => by rw [h]⟩
theorem cl_up {i n : Nat} (h : i < n) (hn : n ≤ 9223372036854775807) : wrap64 ((i : Int) + 1) = ((i + 1 : Nat) : Int) := by unfold wrap64; omega
noncomputable instance decCl : DecidableEq S56 := fun a b => Classical.propDecidable (a = b)
def cvS (x : S104) : S56 := ⟨x.f0, x.f1⟩
def wfS (x : S104) : Prop := (Lit.int .i64 x.f0).wf = true ∧ x.f1.size ≤ 9223372036854775807
theorem szState_some (m : Int) (a : ByteArray) (n : Int) (ha : a.size ≤ 9223372036854775807) (h0 : 0 ≤ n) (h1 : n ≤ 1048576) :
    ∃ r, laws_szState.f m a n = some r ∧ (0 ≤ r → r ≤ n) := by
  unfold laws_szState.f
  have e1 : wrap64 (n - (a.size : Int)) = n - a.size := by unfold wrap64; omega
  rw [e1]
  by_cases h : n - (a.size : Int) < 0
  · rw [if_pos h]; exact ⟨-1, rfl, fun h => by omega⟩
  · rw [if_neg h]; exact ⟨_, rfl, fun _ => by omega⟩
theorem szStateS_l0 (l : List S104) (hw : ∀ x ∈ l, wfS x) (hl : l.length ≤ 9223372036854775807) (d : Nat) : ∀ (i : Nat) (n : Int), l.length - i = d → 0 ≤ n → n ≤ 1048576 →
    ∃ r, ∀ k, d < k → laws_szStateS.l0 k l n (i : Int) = some r := by
  induction d with
  | zero =>
    intro i n hd h0 h1
    refine ⟨n, fun k hk => ?_⟩
    obtain ⟨k, rfl⟩ : ∃ m, k = m + 1 := ⟨k - 1, by omega⟩
    simp only [laws_szStateS.l0]
    rw [if_neg (by omega)]
  | succ d ih =>
    intro i n hd h0 h1
    have hlt : i < l.length := by omega
    have hx : wfS (rd_T104 l (i : Int)) := by
      have : rd_T104 l (i : Int) = l[i] := by simp [rd_T104, List.getD, List.getElem?_eq_getElem hlt]
      rw [this]; exact hw _ (List.getElem_mem hlt)
    obtain ⟨r, hr, hr'⟩ := szState_some (rd_T104 l (i : Int)).f0 _ n hx.2 h0 h1
    by_cases h : r < 0
    · refine ⟨-1, fun k hk => ?_⟩
      obtain ⟨k, rfl⟩ : ∃ m, k = m + 1 := ⟨k - 1, by omega⟩
      simp only [laws_szStateS.l0]
      rw [if_pos (by omega), if_pos (by omega), hr]
      simp only [Option.bind_some]
      rw [if_pos h]
    · obtain ⟨r', h'⟩ := ih (i + 1) r (by omega) (by omega) (by have := hr' (by omega); omega)
      refine ⟨r', fun k hk => ?_⟩
      obtain ⟨k, rfl⟩ : ∃ m, k = m + 1 := ⟨k - 1, by omega⟩
      simp only [laws_szStateS.l0]
      rw [if_pos (by omega), if_pos (by omega), hr]
      simp only [Option.bind_some]
      rw [if_neg h, cl_up hlt hl]
      exact h' k (by omega)
theorem szClient_eq (a : ByteArray) (l : List S104) (ha : a.size ≤ 9223372036854775807) (hw : ∀ x ∈ l, wfS x) (hl : l.length ≤ 9223372036854775807) : ∃ r, (∀ k, l.length < k → laws_szClient.f k a l 1048576 = some r) ∧ (0 ≤ r → l.length ≤ 1048576) := by
  have e1 : wrap64 (1048576 - (a.size : Int)) = 1048576 - a.size := by unfold wrap64; omega
  unfold laws_szClient.f
  rw [e1]
  by_cases h : 1048576 - (a.size : Int) < 0
  · exact ⟨-1, fun k _ => by rw [if_pos h], fun h => by omega⟩
  · have e2 : wrap64 (1048576 - (a.size : Int) - (l.length : Int)) = 1048576 - a.size - l.length := by unfold wrap64; omega
    unfold laws_szStateS.f
    rw [e2]
    by_cases h2 : 1048576 - (a.size : Int) - (l.length : Int) < 0
    · exact ⟨-1, fun k _ => by rw [if_neg h, if_pos h2, Option.bind_some, if_pos (by decide)], fun h => by omega⟩
    · obtain ⟨r, hr⟩ := szStateS_l0 l hw hl l.length 0 (1048576 - a.size - l.length) (by omega) (by omega) (by omega)
      by_cases h3 : r < 0
      · exact ⟨-1, fun k hk => by rw [if_neg h, if_neg h2]; have := hr k hk; rw [show ((0 : Nat) : Int) = 0 from rfl] at this; rw [this, Option.bind_some, if_pos h3], fun h => by omega⟩
      · exact ⟨r, fun k hk => by rw [if_neg h, if_neg h2]; have := hr k hk; rw [show ((0 : Nat) : Int) = 0 from rfl] at this; rw [this, Option.bind_some, if_neg h3], fun _ => by omega⟩
theorem toStateS_l0 (l : List S104) (hl : l.length ≤ 9223372036854775807) (d : Nat) : ∀ (k i : Nat) (acc : List S56), l.length - i = d → acc.length = l.length → acc.take i = (l.take i).map cvS → i ≤ l.length → d < k →
    laws_toStateS.l0 k l acc (i : Int) = some (l.map cvS) := by
  induction d with
  | zero =>
    intro k i acc hd hal ht hi hk
    obtain ⟨k, rfl⟩ : ∃ m, k = m + 1 := ⟨k - 1, by omega⟩
    have : i = l.length := by omega
    subst this
    simp only [laws_toStateS.l0]
    rw [if_neg (by omega)]
    rw [List.take_of_length_le (by omega), List.take_of_length_le (by omega)] at ht
    rw [ht]
  | succ d ih =>
    intro k i acc hd hal ht hi hk
    obtain ⟨k, rfl⟩ : ∃ m, k = m + 1 := ⟨k - 1, by omega⟩
    have hlt : i < l.length := by omega
    simp only [laws_toStateS.l0, laws_toState.f, Option.bind_some]
    rw [if_pos (by omega), if_pos (by omega), if_pos (by omega), cl_up hlt hl, Int.toNat_natCast]
    refine ih k (i + 1) _ (by omega) (by rw [List.length_set]; exact hal) ?_ (by omega) (by omega)
    have hr : rd_T104 l (i : Int) = l[i] := by simp [rd_T104, List.getD, List.getElem?_eq_getElem hlt]
    rw [hr, List.take_succ_eq_append_getElem (by rw [List.length_set]; omega), List.take_succ_eq_append_getElem hlt, List.map_append, List.getElem_set_self, List.take_set_of_le (Nat.le_refl i), ht]
    rfl
theorem toClient_eq (a : ByteArray) (l : List S104) (hl : l.length ≤ 1048576) (k : Nat) (hk : l.length < k) : laws_toClient.f k a l = some (a, l.map cvS) := by
  unfold laws_toClient.f laws_toStateS.f
  rw [if_pos (by omega), Int.toNat_natCast, if_pos (by omega), show (0 : Int) = ((0 : Nat) : Int) from rfl, toStateS_l0 l (by omega) l.length k 0 _ (by omega) (by simp) (by simp) (by omega) hk, Option.bind_some]
theorem eqStateS_l0 (x : List S56) (hl : x.length ≤ 9223372036854775807) (d : Nat) : ∀ (k i : Nat), x.length - i = d → d < k → laws_eqStateS.l0 k x x (i : Int) = some true := by
  induction d with
  | zero =>
    intro k i hd hk
    obtain ⟨k, rfl⟩ : ∃ m, k = m + 1 := ⟨k - 1, by omega⟩
    simp only [laws_eqStateS.l0]
    rw [if_neg (by omega)]
  | succ d ih =>
    intro k i hd hk
    obtain ⟨k, rfl⟩ : ∃ m, k = m + 1 := ⟨k - 1, by omega⟩
    have hlt : i < x.length := by omega
    simp only [laws_eqStateS.l0, laws_eqState.f]
    rw [if_pos (by omega), if_pos (by omega), if_pos (by omega), if_pos trivial, if_pos trivial, Option.bind_some, if_pos rfl, cl_up hlt hl, ih k (i + 1) (by omega) (by omega)]
theorem eqClient_self (a : ByteArray) (l : List S56) (hl : l.length ≤ 9223372036854775807) (k : Nat) (hk : l.length < k) : laws_eqClient.f k a l a l = some true := by
  unfold laws_eqClient.f laws_eqStateS.f
  have h := eqStateS_l0 l hl l.length k 0 (by omega) hk
  rw [show ((0 : Nat) : Int) = 0 from rfl] at h
  rw [if_pos rfl, if_pos rfl, h, Option.bind_some, if_pos rfl]
end Go.Proofs.Ytjmfkhjhhohnkaa.Pure
