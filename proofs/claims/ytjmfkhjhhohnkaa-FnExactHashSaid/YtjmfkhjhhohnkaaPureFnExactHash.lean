/- The pure statement of the law FnExactHash: what its functions compute answers as the law says. -/
import Derived.Test.YtjmfkhjhhohnkaaQ3
import Derived.Test.YtjmfkhjhhohnkaaShb
import Derived.Test.YtjmfkhjhhohnkaaEh
import Derived.Lib.Strings
import Derived.WideShapes
namespace Go.Proofs.Ytjmfkhjhhohnkaa.Pure
open Go.RowKit Go.Proofs.Ytjmfkhjhhohnkaa.Q Go.Proofs.YtjmfkhjhhohnkaaW.PrintWords Go.Proofs.YtjmfkhjhhohnkaaW.PrintLast
open Go.Proofs.Ytjmfkhjhhohnkaa.T (ssha sha)
theorem by_up {i n : Nat} (h : i < n) (hn : n ≤ 9223372036854775807) : wrap64 ((i : Int) + 1) = ((i + 1 : Nat) : Int) := by unfold wrap64; omega
theorem rd_i (l : List Int) (i : Nat) (h : i < l.length) : rd l (i : Int) = l[i] := by simp [rd, List.getD, List.getElem?_eq_getElem h]
theorem toByteS_l0 (l : List Int) (hl : l.length ≤ 9223372036854775807) (d : Nat) : ∀ (k i : Nat) (acc : List Int), l.length - i = d → acc.length = l.length → acc.take i = l.take i → i ≤ l.length → d < k → laws_toByteS.l0 k l acc (i : Int) = some l := by
  induction d with
  | zero =>
    intro k i acc hd hal ht hi hk
    obtain ⟨k, rfl⟩ : ∃ m, k = m + 1 := ⟨k - 1, by omega⟩
    have : i = l.length := by omega
    subst this
    simp only [laws_toByteS.l0]
    rw [if_neg (by omega)]
    rw [List.take_of_length_le (by omega), List.take_of_length_le (by omega)] at ht
    rw [ht]
  | succ d ih =>
    intro k i acc hd hal ht hi hk
    obtain ⟨k, rfl⟩ : ∃ m, k = m + 1 := ⟨k - 1, by omega⟩
    have hlt : i < l.length := by omega
    simp only [laws_toByteS.l0]
    rw [if_pos (by omega), if_pos (by omega), if_pos (by omega), by_up hlt hl, Int.toNat_natCast, rd_i l i hlt]
    refine ih k (i + 1) _ (by omega) (by rw [List.length_set]; exact hal) ?_ (by omega) (by omega)
    rw [List.take_succ_eq_append_getElem (by rw [List.length_set]; omega), List.take_succ_eq_append_getElem hlt, List.getElem_set_self, List.take_set_of_le (Nat.le_refl i), ht]
theorem toByteS_eq (l : List Int) (hl : l.length ≤ 1048576) (k : Nat) (hk : l.length < k) : laws_toByteS.f k l = some l := by
  unfold laws_toByteS.f
  rw [if_pos (by omega), Int.toNat_natCast, if_pos (by omega)]
  exact toByteS_l0 l (by omega) l.length k 0 _ (by omega) (by simp) (by simp) (by omega) hk
theorem eqByteS_l0 (x : List Int) (hl : x.length ≤ 9223372036854775807) (d : Nat) : ∀ (k i : Nat), x.length - i = d → d < k → laws_eqByteS.l0 k x x (i : Int) = some true := by
  induction d with
  | zero =>
    intro k i hd hk
    obtain ⟨k, rfl⟩ : ∃ m, k = m + 1 := ⟨k - 1, by omega⟩
    simp only [laws_eqByteS.l0]
    rw [if_neg (by omega)]
  | succ d ih =>
    intro k i hd hk
    obtain ⟨k, rfl⟩ : ∃ m, k = m + 1 := ⟨k - 1, by omega⟩
    have hlt : i < x.length := by omega
    simp only [laws_eqByteS.l0, if_true]
    rw [if_pos (by omega), if_pos (by omega), if_pos (by omega), by_up hlt hl]
    exact ih k (i + 1) (by omega) (by omega)
theorem eqByteS_refl (x : List Int) (hl : x.length ≤ 9223372036854775807) (k : Nat) (hk : x.length < k) : laws_eqByteS.f k x x = some true := by
  unfold laws_eqByteS.f
  rw [if_pos rfl]
  exact eqByteS_l0 x hl x.length k 0 (by omega) hk
theorem okB_of {l : List Int} (hw : ∀ x ∈ l, (Lit.int .u8 x).wf = true) : okB l := fun x hx => by
  have h := hw x hx
  simp [Lit.wf] at h
  have h0 : IntKind.u8.min = 0 := by decide
  have h1 : IntKind.u8.max = 255 := by decide
  rw [h0, h1] at h
  omega
theorem FnExactHash : laws_FnExactHash.Pure := by
  intro l _ _ hw
  have hl := okB_of hw
  refine ⟨l.length + 10, ?_⟩
  unfold laws_FnExactHash.f
  by_cases h0 : (l.length : Int) > 1048576
  · rw [if_pos h0]
  · have ht := toByteS_eq l (by omega) (l.length + 10) (by omega)
    obtain ⟨r, es, ei⟩ : ∃ r, spec_Hash.f l = some r ∧ impl_Hash.f l = some r := by
      unfold spec_Hash.f impl_Hash.f
      by_cases h : (l.length : Int) > 65536
      · rw [if_pos h, if_pos h]; exact ⟨_, rfl, rfl⟩
      · rw [if_neg h, if_neg h]
        refine ⟨ssha l, ?_, ?_⟩
        · unfold spec_l01Hash.f
          rw [if_pos (by omega)]
          rfl
        · unfold impl_hash.f
          rw [sz_nums, if_pos (by omega), sha_eq l hl]
          rfl
    rw [if_neg h0, ht, Option.bind_some, es, Option.bind_some, Option.bind_some, ei, Option.bind_some, if_pos rfl, Option.bind_some, eqByteS_refl l (by omega) _ (by omega), Option.bind_some, if_pos rfl]
end Go.Proofs.Ytjmfkhjhhohnkaa.Pure
