/- What the two get functions of the store compute: one and the same. -/
import Derived.Test.YtifkdlcalkccaaaQ10
import Derived.Test.YtifkdlcalkccaaaQ11
import Derived.Test.YtifkdlcalkccaaaQ12
import Derived.Test.YtifkdlcalkccaaaSt
namespace Go.Proofs.Ytifkdlcalkccaaa.Pure
open Go.RowKit Go.Proofs.Ytifkdlcalkccaaa.Q Go.Proofs.YtifkdlcalkccaaaW.PrintWords Go.Proofs.YtifkdlcalkccaaaW.PrintLast
set_option linter.unusedVariables false
def getN (l : List S50) (a : ByteArray) : ByteArray × Bool := if fdB l a = true then ((l.getD (lbN l a) z50).f1, true) else (⟨#[]⟩, false)
theorem fdB_lt {l : List S50} {a : ByteArray} (h : fdB l a = true) : lbN l a < l.length := by
  unfold fdB at h
  rw [Bool.and_eq_true] at h
  exact of_decide_eq_true h.1
theorem fdB_key {l : List S50} {a : ByteArray} (h : fdB l a = true) : (l.getD (lbN l a) z50).f0 = a := by
  unfold fdB at h
  rw [Bool.and_eq_true] at h
  have := eq_of_beq h.2
  exact Go.WideShapes.bytes_inj this
theorem fdB_eq (l : List S50) (a : ByteArray) (h : lbN l a < l.length) : fdB l a = decide ((l.getD (lbN l a) z50).f0.toList = a.toList) := by
  unfold fdB
  rw [decide_eq_true h, Bool.true_and, Lib.toList_data, Lib.toList_data, Bool.eq_iff_iff]
  simp
theorem impl_get_eq (l : List S50) (a : ByteArray) : impl_get.f l a = some (getN l a) := by
  unfold impl_get.f impl_pairAt.f getN
  rw [Option.bind_some]
  cases h : fdB l a with
  | true =>
    have := fdB_lt h
    have hr : rd_T50 l ((lbN l a : Nat) : Int) = l.getD (lbN l a) z50 := by simp only [rd_T50, Int.toNat_natCast]
    rw [if_pos rfl, if_pos (by omega), if_pos (by omega), if_pos rfl, hr]
  | false => rfl
theorem spec_get_eq (l : List S50) (a : ByteArray) (hl : l.length ≤ 4611686018427387904) (k : Nat) (hk : l.length < k) : spec_l03Get.f k l a = some (getN l a) := by
  unfold spec_l03Get.f getN
  rw [spec_at l a hl k hk, Option.bind_some]
  have hle := lbN_le l a
  by_cases hlt : lbN l a < l.length
  · have hr : rd_T50 l ((lbN l a : Nat) : Int) = l.getD (lbN l a) z50 := by simp only [rd_T50, Int.toNat_natCast]
    rw [if_pos (by omega), if_pos (by omega), hr, fdB_eq l a hlt]
    by_cases h : (l.getD (lbN l a) z50).f0.toList = a.toList
    · rw [if_pos h, if_pos (decide_eq_true h)]
    · rw [if_neg h, if_neg (by rw [decide_eq_false h]; simp)]
  · have hf : fdB l a = false := by unfold fdB; rw [decide_eq_false hlt, Bool.false_and]
    rw [if_neg (by omega), hf]
    rfl
def storeGetN (l : List S50) (a : ByteArray) : ByteArray × Int :=
  if codeN l (decide ((a.size : Int) > 65536)) = 0 then (if keyB a = true then (if (getN l a).2 = true then ((getN l a).1, 0) else (⟨#[]⟩, 5)) else (⟨#[]⟩, 4)) else (⟨#[]⟩, codeN l (decide ((a.size : Int) > 65536)))
theorem impl_storeGet (l : List S50) (a : ByteArray) (k : Nat) (hk : 1 < k) : impl_StoreGet.f k l a = some (storeGetN l a) := by
  unfold impl_StoreGet.f storeGetN
  rw [impl_code l [a] k hk, impl_key, impl_get_eq]
  simp only [List.any_cons, List.any_nil, Bool.or_false, Option.bind_some, gt_iff_lt]
  by_cases h : codeN l (decide (65536 < (a.size : Int))) = 0
  · rw [if_pos h, if_pos h]
    cases keyB a
    · simp
    · simp only [if_true]
      cases (getN l a).2 <;> simp
  · rw [if_neg h, if_neg h]
theorem code_long {b : Bool} (l : List S50) (h : l.length > 4096 ∨ b = true) : codeN l b = 2 := by unfold codeN; rw [if_pos h]
theorem spec_storeGet (l : List S50) (a : ByteArray) (hl : l.length ≤ 1048576) (k : Nat) (hk : l.length + 2 < k) : spec_StoreGet.f k l a = some (storeGetN l a) := by
  obtain ⟨k, rfl⟩ : ∃ m, k = m + 1 := ⟨k - 1, by omega⟩
  unfold spec_StoreGet.f
  have hj0 : ∀ b : Bool, b = decide ((a.size : Int) > 65536) → ¬ l.length > 4096 → spec_StoreGet.j0 (k + 1) l a b = some (storeGetN l a) := by
    intro b hb hn
    simp only [spec_StoreGet.j0]
    cases hb' : b with
    | true =>
      rw [if_pos rfl]
      unfold storeGetN
      rw [← hb, hb', code_long l (.inr rfl)]
      simp
    | false =>
      rw [if_neg (by simp), spec_code l a (by omega) k (by omega), Option.bind_some, ← hb, hb', spec_get_eq l a (by omega) k (by omega)]
      unfold storeGetN
      rw [← hb, hb']
      by_cases h : codeN l false = 0
      · rw [if_pos h, if_pos h]
        cases keyB a
        · simp
        · simp only [if_true, Option.bind_some]
          cases (getN l a).2 <;> simp
      · rw [if_neg h, if_neg h, if_neg h]
  by_cases h : (l.length : Int) > 4096
  · rw [if_pos h]
    simp only [spec_StoreGet.j0, if_true]
    unfold storeGetN
    rw [code_long l (.inl (by omega))]
    simp
  · rw [if_neg h]
    exact hj0 _ rfl (by omega)
end Go.Proofs.Ytifkdlcalkccaaa.Pure
