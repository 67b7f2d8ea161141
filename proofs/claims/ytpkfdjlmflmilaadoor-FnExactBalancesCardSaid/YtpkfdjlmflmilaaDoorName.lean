/- What the two NameOK functions compute: one and the same Bool function of the text. -/
import Derived.Test.YtpkfdjlmflmilaaDoorQ3
import Derived.Test.YtpkfdjlmflmilaaDoorQ6
namespace Go.Proofs.YtpkfdjlmflmilaaDoor.Pure
open Go.RowKit Go.Proofs.YtpkfdjlmflmilaaDoor.Q Go.Proofs.YtpkfdjlmflmilaaDoorW.PrintWords Go.Proofs.YtpkfdjlmflmilaaDoorW.PrintLast

def letterB (c : Int) : Bool := decide ((97 ≤ c ∧ c ≤ 122) ∨ (65 ≤ c ∧ c ≤ 90) ∨ c = 95)
def digitB (c : Int) : Bool := decide (48 ≤ c ∧ c ≤ 57)
def okB (s : ByteArray) (i : Nat) : Bool := letterB (bt s i) || (decide (i ≠ 0) && digitB (bt s i))
/-- From place i on, all signs are right. -/
def restB (s : ByteArray) (i : Nat) : Bool := (List.range (s.size - i)).all fun j => okB s (i + j)
def nameB (s : ByteArray) : Bool := decide (1 ≤ s.size ∧ s.size ≤ 40) && restB s 0
theorem restB_end (s : ByteArray) (i : Nat) (h : s.size ≤ i) : restB s i = true := by
  unfold restB
  rw [show s.size - i = 0 by omega]
  rfl
theorem restB_step (s : ByteArray) (i : Nat) (h : i < s.size) : restB s i = (okB s i && restB s (i + 1)) := by
  unfold restB
  rw [show s.size - i = (s.size - (i + 1)) + 1 by omega, List.range_succ_eq_map, List.all_cons, List.all_map]
  congr 1
  apply List.all_congr rfl
  intro x
  simp only [Function.comp]
  congr 1
  omega
theorem letter_eq (c : Int) : spec_l00Letter.f c = some (letterB c) := by
  unfold spec_l00Letter.f letterB
  repeat' split
  all_goals (simp only [Option.some.injEq])
  all_goals (first | (symm; apply decide_eq_true; omega) | (rw [Bool.eq_iff_iff]; simp; omega))
theorem digit_eq (c : Int) : spec_l00Digit.f c = some (digitB c) := by
  unfold spec_l00Digit.f digitB
  repeat' split
  all_goals (simp only [Option.some.injEq])
  all_goals (rw [Bool.eq_iff_iff]; simp; omega)
theorem wrap_up {i n : Nat} (h : i < n) (hn : n ≤ 9223372036854775807) : wrap64 ((i : Int) + 1) = ((i + 1 : Nat) : Int) := by unfold wrap64; omega
theorem spec_rest (s : ByteArray) (hs : s.size ≤ 9223372036854775807) (d : Nat) : ∀ (k i : Nat), 1 ≤ i → s.size - i = d → d < k → spec_l00Word.l0 k s (i : Int) = some (restB s i) := by
  induction d with
  | zero =>
    intro k i h1 hd hk
    obtain ⟨k, rfl⟩ : ∃ m, k = m + 1 := ⟨k - 1, by omega⟩
    simp only [spec_l00Word.l0]
    rw [if_neg (by omega), restB_end s i (by omega)]
  | succ d ih =>
    intro k i h1 hd hk
    obtain ⟨k, rfl⟩ : ∃ m, k = m + 1 := ⟨k - 1, by omega⟩
    have hlt : i < s.size := by omega
    simp only [spec_l00Word.l0]
    rw [if_pos (by omega), if_pos (by omega), letter_eq, restB_step s i hlt, wrap_up hlt hs, ih k (i + 1) (by omega) (by omega) (by omega)]
    simp only [Option.bind_some, digit_eq]
    unfold okB
    have hne : decide (i ≠ 0) = true := decide_eq_true (by omega)
    cases letterB (bt s (i : Int)) <;> cases digitB (bt s (i : Int)) <;> simp [hne]
theorem spec_name (s : ByteArray) (hs : s.size ≤ 9223372036854775807) (k : Nat) (hk : s.size + 1 < k) : spec_NameOK.f k s = some (nameB s) := by
  obtain ⟨k, rfl⟩ : ∃ m, k = m + 1 := ⟨k - 1, by omega⟩
  unfold spec_NameOK.f spec_l00Word.f nameB
  by_cases h1 : (s.size : Int) < 1
  · rw [if_pos h1]
    simp only [spec_l00Word.j0, if_true, Option.bind_some]
    rw [decide_eq_false (by omega)]
    rfl
  · rw [if_neg h1]
    by_cases h2 : (s.size : Int) > 40
    · rw [if_pos h2]
      simp only [spec_l00Word.j0, if_true, Option.bind_some]
      rw [decide_eq_false (by omega)]
      rfl
    · rw [if_neg h2, if_pos (by omega), letter_eq]
      have hr := spec_rest s hs (s.size - 1) k 1 (by omega) rfl (by omega)
      have hr' : spec_l00Word.l0 k s 1 = some (restB s 1) := hr
      simp only [Option.bind_some, spec_l00Word.j0, hr']
      rw [decide_eq_true (by omega : 1 ≤ s.size ∧ s.size ≤ 40), restB_step s 0 (by omega)]
      unfold okB
      show _ = some (true && ((letterB (bt s 0) || (decide ((0 : Nat) ≠ 0) && digitB (bt s 0))) && restB s (0 + 1)))
      cases letterB (bt s 0) <;> simp
theorem impl_rest (s : ByteArray) (hs : s.size ≤ 9223372036854775807) (d : Nat) : ∀ (k i : Nat), s.size - i = d → i ≤ s.size → d < k → impl_NameOK.l0 k s (s.size : Int) (i : Int) = some (restB s i && decide (1 ≤ s.size ∧ s.size ≤ 40)) := by
  induction d with
  | zero =>
    intro k i hd hi hk
    obtain ⟨k, rfl⟩ : ∃ m, k = m + 1 := ⟨k - 1, by omega⟩
    simp only [impl_NameOK.l0]
    rw [if_neg (by omega), restB_end s i (by omega)]
    unfold impl_within.f
    by_cases h : (s.size : Int) ≥ 1
    · rw [if_pos h]; simp; rw [Bool.eq_iff_iff]; simp; omega
    · rw [if_neg h]; simp; omega
  | succ d ih =>
    intro k i hd hi hk
    obtain ⟨k, rfl⟩ : ∃ m, k = m + 1 := ⟨k - 1, by omega⟩
    have hlt : i < s.size := by omega
    have e := ih k (i + 1) (by omega) (by omega) (by omega)
    rw [restB_step s i hlt]
    simp only [impl_NameOK.l0]
    rw [if_pos (by omega), if_pos (by omega), if_pos (by omega), wrap_up hlt hs, e]
    by_cases hL : letterB (bt s (i : Int)) = true
    · have hL' := of_decide_eq_true hL
      have : okB s i = true := by unfold okB; rw [hL]; rfl
      rw [this, Bool.true_and]
      generalize bt s (i : Int) = c at *
      repeat' split
      all_goals (first | rfl | (exfalso; omega))
    · have hL' : ¬ ((97 ≤ bt s (i : Int) ∧ bt s (i : Int) ≤ 122) ∨ (65 ≤ bt s (i : Int) ∧ bt s (i : Int) ≤ 90) ∨ bt s (i : Int) = 95) := fun h => hL (decide_eq_true h)
      by_cases hD : i ≠ 0 ∧ digitB (bt s (i : Int)) = true
      · have hD' := of_decide_eq_true hD.2
        have : okB s i = true := by unfold okB; rw [decide_eq_true hD.1, hD.2]; simp
        rw [this, Bool.true_and]
        have h0 := hD.1
        generalize bt s (i : Int) = c at *
        repeat' split
        all_goals (first | rfl | (exfalso; omega))
      · have hok : okB s i = false := by
          unfold okB
          rw [Bool.eq_false_iff.2 hL]
          by_cases h0 : i = 0
          · simp [h0]
          · have : digitB (bt s (i : Int)) = false := Bool.eq_false_iff.2 fun h => hD ⟨h0, h⟩
            rw [this]; simp
        rw [hok, Bool.false_and, Bool.false_and]
        have hD' : i = 0 ∨ ¬ (48 ≤ bt s (i : Int) ∧ bt s (i : Int) ≤ 57) := by
          by_cases h0 : i = 0
          · exact .inl h0
          · exact .inr fun h => hD ⟨h0, decide_eq_true h⟩
        generalize bt s (i : Int) = c at *
        repeat' split
        all_goals (first | rfl | (exfalso; omega))
theorem impl_name (s : ByteArray) (hs : s.size ≤ 9223372036854775807) (k : Nat) (hk : s.size < k) : impl_NameOK.f k s = some (nameB s) := by
  unfold impl_NameOK.f nameB
  have h := impl_rest s hs s.size k 0 (by omega) (by omega) hk
  have h' : impl_NameOK.l0 k s (s.size : Int) 0 = some (restB s 0 && decide (1 ≤ s.size ∧ s.size ≤ 40)) := h
  rw [h', Bool.and_comm]
end Go.Proofs.YtpkfdjlmflmilaaDoor.Pure
