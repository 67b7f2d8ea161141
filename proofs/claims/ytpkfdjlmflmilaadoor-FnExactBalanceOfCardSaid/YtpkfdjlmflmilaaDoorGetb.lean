/- What the two get functions of the store compute: one and the same. -/
import Derived.Test.YtpkfdjlmflmilaaDoorQ4
import Derived.Test.YtpkfdjlmflmilaaDoorQ7
import Derived.Test.YtpkfdjlmflmilaaDoorStb
namespace Go.Proofs.YtpkfdjlmflmilaaDoor.Pure
open Go.RowKit Go.Proofs.YtpkfdjlmflmilaaDoor.Q Go.Proofs.YtpkfdjlmflmilaaDoorW.PrintWords Go.Proofs.YtpkfdjlmflmilaaDoorW.PrintLast
set_option linter.unusedVariables false
def getN (l : List S45) (a : ByteArray) : ByteArray × Bool := if fdB l a = true then ((l.getD (lbN l a) z45).f1, true) else (⟨#[]⟩, false)
theorem fdB_lt {l : List S45} {a : ByteArray} (h : fdB l a = true) : lbN l a < l.length := by
  unfold fdB at h
  rw [Bool.and_eq_true] at h
  exact of_decide_eq_true h.1
theorem fdB_key {l : List S45} {a : ByteArray} (h : fdB l a = true) : (l.getD (lbN l a) z45).f0 = a := by
  unfold fdB at h
  rw [Bool.and_eq_true] at h
  have := eq_of_beq h.2
  exact Go.WideShapes.bytes_inj this
theorem fdB_eq (l : List S45) (a : ByteArray) (h : lbN l a < l.length) : fdB l a = decide ((l.getD (lbN l a) z45).f0.toList = a.toList) := by
  unfold fdB
  rw [decide_eq_true h, Bool.true_and, Lib.toList_data, Lib.toList_data, Bool.eq_iff_iff]
  simp
theorem impl_get_eq (l : List S45) (a : ByteArray) : impl_get.f l a = some (getN l a) := by
  unfold impl_get.f impl_pairAt.f getN
  rw [Option.bind_some]
  cases h : fdB l a with
  | true =>
    have := fdB_lt h
    have hr : rd_T45 l ((lbN l a : Nat) : Int) = l.getD (lbN l a) z45 := by simp only [rd_T45, Int.toNat_natCast]
    rw [if_pos rfl, if_pos (by omega), if_pos (by omega), if_pos rfl, hr]
  | false => rfl
theorem spec_get_eq (l : List S45) (a : ByteArray) (hl : l.length ≤ 4611686018427387904) (k : Nat) (hk : l.length < k) : spec_l03Get.f k l a = some (getN l a) := by
  unfold spec_l03Get.f getN
  rw [spec_at l a hl k hk, Option.bind_some]
  have hle := lbN_le l a
  by_cases hlt : lbN l a < l.length
  · have hr : rd_T45 l ((lbN l a : Nat) : Int) = l.getD (lbN l a) z45 := by simp only [rd_T45, Int.toNat_natCast]
    rw [if_pos (by omega), if_pos (by omega), hr, fdB_eq l a hlt]
    by_cases h : (l.getD (lbN l a) z45).f0.toList = a.toList
    · rw [if_pos h, if_pos (decide_eq_true h)]
    · rw [if_neg h, if_neg (by rw [decide_eq_false h]; simp)]
  · have hf : fdB l a = false := by unfold fdB; rw [decide_eq_false hlt, Bool.false_and]
    rw [if_neg (by omega), hf]
    rfl
end Go.Proofs.YtpkfdjlmflmilaaDoor.Pure
