/- Both programs' answers to the same client: whether it is right. -/
import Derived.Test.YtjmfkhjhhohnkaaQ3
import Derived.Test.YtjmfkhjhhohnkaaQ6
import Derived.Test.YtjmfkhjhhohnkaaCl
import Derived.Test.YtjmfkhjhhohnkaaE20
import Derived.Test.YtjmfkhjhhohnkaaE23
namespace Go.Proofs.Ytjmfkhjhhohnkaa.Pure
open Go.RowKit Go.Proofs.Ytjmfkhjhhohnkaa.Q Go.Proofs.YtjmfkhjhhohnkaaW.PrintWords Go.Proofs.YtjmfkhjhhohnkaaW.PrintLast
open Go.Proofs.Ytjmfkhjhhohnkaa.T (ssha sha)
set_option linter.unusedVariables false
def stB (l : List S56) (i : Nat) : Bool :=
  (decide (0 ≤ (rd_T56 l (i : Int)).f0) && decide ((rd_T56 l (i : Int)).f0 ≤ 1000000000)) && (decide ((rd_T56 l (i : Int)).f1.size = 32) && (decide (i = 0) || decide ((rd_T56 l ((i : Int) - 1)).f0 ≤ (rd_T56 l (i : Int)).f0)))
def stF (l : List S56) : Nat → Nat → Bool
  | i, 0 => true
  | i, d + 1 => stB l i && stF l (i + 1) d
def clB (a : ByteArray) (l : List S56) : Bool := decide (a.size = 32) && (decide (l.length ≤ 60) && ((decide (l.length ≠ 0) || decide (a = ssha [102, 105, 114, 115, 116])) && stF l 0 l.length))
theorem cl_in (n a b : Int) : spec_l01In.f n a b = some (decide (a ≤ n) && decide (n ≤ b)) ∧ impl_within.f n a b = some (decide (a ≤ n) && decide (n ≤ b)) := by
  unfold spec_l01In.f impl_within.f
  by_cases h : n ≥ a
  · rw [if_pos h, decide_eq_true (show a ≤ n from h), Bool.true_and]; exact ⟨rfl, rfl⟩
  · rw [if_neg h, decide_eq_false (show ¬ a ≤ n from h), Bool.false_and]; exact ⟨rfl, rfl⟩
theorem cl_hash (a : ByteArray) : impl_isHash.f [a] = some (decide (a.size = 32)) := by
  unfold impl_isHash.f
  simp only [List.any_cons, List.any_nil, Bool.or_false, Bool.not_not]
  congr 1
  rw [Bool.eq_iff_iff]
  simp
  omega
theorem spec_cl_l0 (a : ByteArray) (l : List S56) (hl : l.length ≤ 9223372036854775807) (d : Nat) : ∀ (k i : Nat), l.length - i = d → i ≤ l.length → d < k → spec_ClientOK.l0 k (i : Int) a l = some (stF l i d) := by
  induction d with
  | zero =>
    intro k i hd hi hk
    obtain ⟨k, rfl⟩ : ∃ m, k = m + 1 := ⟨k - 1, by omega⟩
    simp only [spec_ClientOK.l0, stF]
    rw [if_neg (by omega)]
  | succ d ih =>
    intro k i hd hi hk
    obtain ⟨k, rfl⟩ : ∃ m, k = m + 1 := ⟨k - 1, by omega⟩
    have hlt : i < l.length := by omega
    simp only [spec_ClientOK.l0, stF, stB, (cl_in _ _ _).1, Option.bind_some]
    rw [if_pos (by omega), if_pos (by omega), cl_up hlt hl, ih k (i + 1) (by omega) (by omega) (by omega)]
    cases (decide (0 ≤ (rd_T56 l (i : Int)).f0) && decide ((rd_T56 l (i : Int)).f0 ≤ 1000000000)) with
    | false => simp
    | true =>
      rw [if_pos rfl, Bool.true_and]
      by_cases h2 : (rd_T56 l (i : Int)).f1.size = 32
      · rw [if_pos (by omega), decide_eq_true h2, Bool.true_and]
        by_cases h3 : i = 0
        · rw [if_neg (by omega), decide_eq_true h3]
          rfl
        · have hw : wrap64 ((i : Int) - 1) = (i : Int) - 1 := by unfold wrap64; omega
          rw [if_pos (by omega), hw, if_pos (by omega), if_pos (by omega), decide_eq_false h3, Bool.false_or]
          by_cases h4 : (rd_T56 l ((i : Int) - 1)).f0 > (rd_T56 l (i : Int)).f0
          · rw [if_pos h4, decide_eq_false (Int.not_le.2 h4)]
            rfl
          · rw [if_neg h4, decide_eq_true (Int.not_lt.1 h4)]
            rfl
      · rw [if_neg (by omega), decide_eq_false h2]
        rfl
theorem impl_cl_l0 (a : ByteArray) (l : List S56) (hl : l.length ≤ 9223372036854775807) (d : Nat) : ∀ (k i : Nat), l.length - i = d → i ≤ l.length → d < k → impl_ClientOK.l0 k l (l.length : Int) (i : Int) a l = some (stF l i d && decide (l.length ≤ 60)) := by
  induction d with
  | zero =>
    intro k i hd hi hk
    obtain ⟨k, rfl⟩ : ∃ m, k = m + 1 := ⟨k - 1, by omega⟩
    simp only [impl_ClientOK.l0, stF, Bool.true_and]
    rw [if_neg (by omega)]
    congr 1
    rw [Bool.eq_iff_iff]
    simp
    omega
  | succ d ih =>
    intro k i hd hi hk
    obtain ⟨k, rfl⟩ : ∃ m, k = m + 1 := ⟨k - 1, by omega⟩
    have hlt : i < l.length := by omega
    simp only [impl_ClientOK.l0, stF, stB, impl_isTime.f, (cl_in _ _ _).2, cl_hash, Option.bind_some]
    rw [if_pos (by omega), if_pos (by omega), if_pos (by omega), cl_up hlt hl, ih k (i + 1) (by omega) (by omega) (by omega)]
    cases (decide (0 ≤ (rd_T56 l (i : Int)).f0) && decide ((rd_T56 l (i : Int)).f0 ≤ 1000000000)) with
    | false => simp
    | true =>
      rw [if_pos rfl, Bool.true_and]
      by_cases h2 : (rd_T56 l (i : Int)).f1.size = 32
      · rw [decide_eq_true h2, if_pos rfl, Bool.true_and]
        by_cases h3 : i = 0
        · rw [if_neg (by omega), decide_eq_true h3]
          rfl
        · have hw : wrap64 ((i : Int) - 1) = (i : Int) - 1 := by unfold wrap64; omega
          rw [if_pos (by omega), hw, if_pos (by omega), if_pos (by omega), decide_eq_false h3, Bool.false_or]
          by_cases h4 : (rd_T56 l ((i : Int) - 1)).f0 > (rd_T56 l (i : Int)).f0
          · rw [if_pos h4, decide_eq_false (Int.not_le.2 h4)]
            rfl
          · rw [if_neg h4, decide_eq_true (Int.not_lt.1 h4)]
            rfl
      · rw [decide_eq_false h2]
        rfl
theorem first_eq : impl_hash.f (⟨#[102, 105, 114, 115, 116]⟩ : ByteArray) = some (ssha [102, 105, 114, 115, 116]) := by
  have h : sha (strOfNums [102, 105, 114, 115, 116]) = ssha [102, 105, 114, 115, 116] := sha_eq _ (by intro x hx; simp at hx; omega)
  unfold impl_hash.f
  rw [← h, if_pos (by decide)]
  rfl
theorem ne_dec (a b : ByteArray) : (a.toList != b.toList) = !decide (a = b) := by
  rw [Bool.eq_iff_iff]
  simp [cl_iff]
theorem spec_cl (a : ByteArray) (l : List S56) (hl : l.length ≤ 9223372036854775807) (k : Nat) (hk : l.length + 1 < k) : spec_ClientOK.f k a l = some (clB a l) := by
  obtain ⟨k, rfl⟩ : ∃ m, k = m + 1 := ⟨k - 1, by omega⟩
  have hj : ∀ b : Bool, spec_ClientOK.j0 (k + 1) b a l = some (!b && stF l 0 l.length) := by
    intro b
    simp only [spec_ClientOK.j0]
    cases b with
    | true => rw [if_pos rfl]; rfl
    | false =>
      have h := spec_cl_l0 a l hl l.length k 0 (by omega) (by omega) (by omega)
      rw [show ((0 : Nat) : Int) = 0 from rfl] at h
      rw [if_neg (by decide), h]
      rfl
  unfold spec_ClientOK.f clB spec_l06First.f
  simp only [hj, Option.bind_some, ne_dec]
  by_cases h1 : a.size = 32
  · rw [if_pos (by omega), decide_eq_true h1, Bool.true_and]
    by_cases h2 : l.length ≤ 60
    · rw [if_neg (by omega), decide_eq_true h2, Bool.true_and]
      by_cases h3 : l.length = 0
      · rw [if_pos (by omega), decide_eq_false (by omega : ¬ l.length ≠ 0), Bool.false_or, Bool.not_not]
      · rw [if_neg (by omega), decide_eq_true (show l.length ≠ 0 from h3)]
        rfl
    · rw [if_pos (by omega), decide_eq_false h2]
      rfl
  · rw [if_neg (by omega), decide_eq_false h1]
    rfl
theorem impl_cl (a : ByteArray) (l : List S56) (hl : l.length ≤ 9223372036854775807) (k : Nat) (hk : l.length + 1 < k) : impl_ClientOK.f k a l = some (clB a l) := by
  obtain ⟨k, rfl⟩ : ∃ m, k = m + 1 := ⟨k - 1, by omega⟩
  have hj : ∀ b : Bool, impl_ClientOK.j0 (k + 1) b a l = some (!b && (stF l 0 l.length && decide (l.length ≤ 60))) := by
    intro b
    simp only [impl_ClientOK.j0]
    cases b with
    | true => rw [if_pos rfl]; rfl
    | false =>
      have h := impl_cl_l0 a l hl l.length k 0 (by omega) (by omega) (by omega)
      rw [show ((0 : Nat) : Int) = 0 from rfl] at h
      rw [if_neg (by decide), h]
      rfl
  unfold impl_ClientOK.f clB impl_firstHash.f
  simp only [hj, cl_hash, first_eq, Option.bind_some, ne_dec]
  cases decide (a.size = 32) with
  | false => rfl
  | true =>
    rw [if_pos rfl, Bool.true_and]
    by_cases h3 : l.length = 0
    · rw [if_pos (by omega), decide_eq_false (by omega : ¬ l.length ≠ 0), Bool.false_or, Bool.not_not]
      cases decide (a = ssha [102, 105, 114, 115, 116]) <;> cases stF l 0 l.length <;> cases decide (l.length ≤ 60) <;> rfl
    · rw [if_neg (by omega), decide_eq_true (show l.length ≠ 0 from h3)]
      cases stF l 0 l.length <;> cases decide (l.length ≤ 60) <;> rfl
end Go.Proofs.Ytjmfkhjhhohnkaa.Pure
