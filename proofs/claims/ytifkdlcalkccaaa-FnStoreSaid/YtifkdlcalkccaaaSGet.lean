/- What the two get functions of the store compute: one and the same. -/
import Derived.Test.YtifkdlcalkccaaaS4
import Derived.Test.YtifkdlcalkccaaaSSt
namespace Go.Proofs.Ytifkdlcalkccaaa.Pure
open Go.RowKit Go.Proofs.Ytifkdlcalkccaaa.S Go.Proofs.YtifkdlcalkccaaaW.PrintWords Go.Proofs.YtifkdlcalkccaaaW.PrintLast
set_option linter.unusedVariables false
def getN (l : List S50) (a : ByteArray) : ByteArray × Bool := if fdB l a = true then ((l.getD (lbN l a) z50).f1, true) else (⟨#[]⟩, false)
theorem fdB_lt {l : List S50} {a : ByteArray} (h : fdB l a = true) : lbN l a < l.length := by
  unfold fdB at h
  rw [Bool.and_eq_true] at h
  exact of_decide_eq_true h.1
theorem fdB_key {l : List S50} {a : ByteArray} (h : fdB l a = true) : (l.getD (lbN l a) z50).f0 = a := by
  unfold fdB at h
  rw [Bool.and_eq_true] at h
  have := eq_of_beq h.2
  exact Go.WideShapes.bytes_inj this
theorem fdB_eq (l : List S50) (a : ByteArray) (h : lbN l a < l.length) : fdB l a = decide ((l.getD (lbN l a) z50).f0.toList = a.toList) := by
  unfold fdB
  rw [decide_eq_true h, Bool.true_and, Lib.toList_data, Lib.toList_data, Bool.eq_iff_iff]
  simp
theorem impl_get_eq (l : List S50) (a : ByteArray) : impl_get.f l a = some (getN l a) := by
  unfold impl_get.f impl_pairAt.f getN
  rw [Option.bind_some]
  cases h : fdB l a with
  | true =>
    have := fdB_lt h
    have hr : rd_T50 l ((lbN l a : Nat) : Int) = l.getD (lbN l a) z50 := by simp only [rd_T50, Int.toNat_natCast]
    rw [if_pos rfl, if_pos (by omega), if_pos (by omega), if_pos rfl, hr]
  | false => rfl
def storeGetN (l : List S50) (a : ByteArray) : ByteArray × Int :=
  if codeN l (decide ((a.size : Int) > 65536)) = 0 then (if keyB a = true then (if (getN l a).2 = true then ((getN l a).1, 0) else (⟨#[]⟩, 5)) else (⟨#[]⟩, 4)) else (⟨#[]⟩, codeN l (decide ((a.size : Int) > 65536)))
theorem impl_storeGet (l : List S50) (a : ByteArray) (k : Nat) (hk : 1 < k) : impl_StoreGet.f k l a = some (storeGetN l a) := by
  unfold impl_StoreGet.f storeGetN
  rw [impl_code l [a] k hk, impl_key, impl_get_eq]
  simp only [List.any_cons, List.any_nil, Bool.or_false, Option.bind_some, gt_iff_lt]
  by_cases h : codeN l (decide (65536 < (a.size : Int))) = 0
  · rw [if_pos h, if_pos h]
    cases keyB a
    · simp
    · simp only [if_true]
      cases (getN l a).2 <;> simp
  · rw [if_neg h, if_neg h]
theorem code_long {b : Bool} (l : List S50) (h : l.length > 4096 ∨ b = true) : codeN l b = 2 := by unfold codeN; rw [if_pos h]
end Go.Proofs.Ytifkdlcalkccaaa.Pure
