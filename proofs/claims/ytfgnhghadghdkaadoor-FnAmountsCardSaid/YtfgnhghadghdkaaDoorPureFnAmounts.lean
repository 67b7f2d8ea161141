/- The pure statement of the law FnAmounts: what its functions compute answers as the law says. -/
import Derived.Test.YtfgnhghadghdkaaDoorDefFnAmounts
import Derived.Test.YtfgnhghadghdkaaDoorPureFnExactReadAmount
import Derived.Test.YtfgnhghadghdkaaDoorDra
namespace Go.Proofs.YtfgnhghadghdkaaDoor.Pure
open Go.RowKit Go.Proofs.YtfgnhghadghdkaaDoor.Q Go.Proofs.YtfgnhghadghdkaaDoorW.PrintWords Go.Proofs.YtfgnhghadghdkaaDoorW.PrintLast
theorem isAmount_yes {a : Int} (h0 : 0 ≤ a) (h1 : a ≤ 1000000000000000000) : impl_isAmount.f a = some true := by
  unfold impl_isAmount.f impl_within.f
  rw [if_pos (show a ≥ 0 from h0), decide_eq_true h1]
  rfl
theorem add_am {a b : Int} (a0 : 0 ≤ a) (a1 : a ≤ 1000000000000000000) (b0 : 0 ≤ b) (b1 : b ≤ 1000000000000000000) (k : Nat) : impl_AddAmount.f (k + 1) a b = some (if a + b > 1000000000000000000 then (0, 13) else (a + b, 0)) := by
  unfold impl_AddAmount.f
  rw [isAmount_yes a0 a1, isAmount_yes b0 b1, Option.bind_some, if_pos rfl, Option.bind_some]
  simp only [impl_AddAmount.j0]
  have e : wrap64 (a + b) = a + b := by unfold wrap64; omega
  rw [if_neg (by decide), e]
  split <;> rfl
theorem sub_am {a b : Int} (a0 : 0 ≤ a) (a1 : a ≤ 1000000000000000000) (b0 : 0 ≤ b) (b1 : b ≤ 1000000000000000000) (k : Nat) : impl_SubAmount.f (k + 1) a b = some (if a < b then (0, 12) else (a - b, 0)) := by
  unfold impl_SubAmount.f
  rw [isAmount_yes a0 a1, isAmount_yes b0 b1, Option.bind_some, if_pos rfl, Option.bind_some]
  simp only [impl_SubAmount.j0]
  have e : wrap64 (a - b) = a - b := by unfold wrap64; omega
  rw [if_neg (by decide), e]
  split <;> rfl
theorem text_am {a : Int} (a0 : 0 ≤ a) (a1 : a ≤ 1000000000000000000) : impl_AmountText.f a = some (itoaT a, 0) := by
  unfold impl_AmountText.f impl_amountText.f strconv_Itoa.f
  rw [isAmount_yes a0 a1, Option.bind_some, if_pos rfl, if_pos (by omega)]
  rfl
theorem read_am {a : Int} (a0 : 0 ≤ a) (a1 : a ≤ 1000000000000000000) : impl_ReadAmount.f (itoaT a) = some (a, 0) := by
  obtain ⟨n, rfl⟩ : ∃ n : Nat, a = (n : Int) := ⟨a.toNat, by omega⟩
  obtain ⟨h1, h2⟩ := amT_num n (by omega)
  rw [impl_ra _ (by have := h1.1.2; omega), raT_yes _ h1, h2]
  rfl
theorem FnAmounts : laws_FnAmounts.PureF := by
  intro l m hl hm
  refine ⟨5, ?_⟩
  have key : ∀ b : Bool, (b = false → l.length ≤ 1048576 ∧ m.length ≤ 1048576) → laws_FnAmounts.j0 5 l m b = some true := by
    intro b hb
    simp only [laws_FnAmounts.j0]
    cases b with
    | true => rw [if_pos rfl]
    | false =>
      obtain ⟨hl1, hm1⟩ := hb rfl
      obtain ⟨a, ea, a0, a1⟩ := amountOf_ok (bytesOK_of hl.1) (show l.length ≤ 1152921504606846976 by omega)
      obtain ⟨b, eb, b0, b1⟩ := amountOf_ok (bytesOK_of hm.1) (show m.length ≤ 1152921504606846976 by omega)
      have hne : (a != a) = false := by simp
      rw [if_neg (by decide), ea, eb]
      simp only [Option.bind_some]
      rw [add_am a0 a1 b0 b1 3, sub_am a0 a1 b0 b1 3, text_am a0 a1]
      simp only [Option.bind_some]
      rw [read_am a0 a1]
      simp only [Option.bind_some]
      rw [if_pos trivial, if_pos trivial, hne]
      simp only [laws_FnAmounts.j1]
      have e1 : wrap64 (a + b) = a + b := by unfold wrap64; omega
      have e2 : wrap64 (a - b) = a - b := by unfold wrap64; omega
      rw [if_neg (by decide), e1, e2]
      clear e1 e2 ea eb hne
      by_cases h1 : a + b > 1000000000000000000 <;> by_cases h2 : a < b
      · rw [if_pos h1, if_pos h2]
        simp only
        rw [if_neg (by omega), if_pos trivial, if_neg (by omega), if_neg (by omega), if_pos trivial, decide_eq_true h2]
      · rw [if_pos h1, if_neg h2]
        simp only
        rw [if_neg (by omega), if_pos trivial, if_neg (by omega), if_pos trivial, if_pos trivial, if_pos (by omega)]
      · rw [if_neg h1, if_pos h2]
        simp only
        rw [if_pos trivial, if_pos trivial, if_neg (by omega), if_pos trivial, decide_eq_true h2]
      · rw [if_neg h1, if_neg h2]
        simp only
        rw [if_pos trivial, if_pos trivial, if_pos trivial, if_pos trivial, if_pos (by omega)]
  unfold laws_FnAmounts.f
  by_cases h : (l.length : Int) > 1048576
  · rw [if_pos h]
    exact key true (fun h => by cases h)
  · rw [if_neg h]
    exact key _ (fun h' => ⟨by omega, by have := of_decide_eq_false h'; omega⟩)
end Go.Proofs.YtfgnhghadghdkaaDoor.Pure
