/- The two readings run side by side. -/
import Derived.Test.YtfgnhghadghdkaaGRead
namespace Go.Proofs.Ytfgnhghadghdkaa.Pure
open Go.RowKit Go.Proofs.Ytfgnhghadghdkaa.G Go.Proofs.YtfgnhghadghdkaaW.PrintWords Go.Proofs.YtfgnhghadghdkaaW.PrintLast
set_option linter.unusedVariables false
theorem ext_ext (s : ByteArray) (p a b : Nat) (hp : p ≤ s.size) (hb : p + b ≤ s.size) : (s.extract p s.size).extract a b = s.extract (p + a) (p + b) := by
  rw [ByteArray.extract_extract]
  congr 1
  omega
theorem bn_from (s : ByteArray) (p i : Nat) (h : p + i < s.size) (hi : i < 2) : bn ((s.extract p s.size).extract 0 2) i = bn s (p + i) := by
  by_cases h2 : p + 2 ≤ s.size
  · rw [ext_ext s p 0 2 (by omega) h2, bn_ext s (p + 0) (p + 2) i (by omega) h2]
    congr 1
  · rw [ByteArray.extract_extract]
    rw [bn_ext s (p + 0) (min (p + 2) s.size) i (by omega) (by omega)]
    congr 1
theorem impl_round (s : ByteArray) (hs : s.size ≤ 65536) (k p n c : Nat) (acc : List ByteArray) (hk : 3 < k) (hp : p ≤ s.size) (hc : c < n) (hn : n ≤ 255) (ha : acc.length ≤ 255) :
    impl_readFields.l0 (k + 1) acc (s.extract p s.size) (n : Int) (c : Int) = if p + 2 > s.size then some ([], false) else if two s p > 1000 then some ([], false) else if p + 2 + two s p > s.size then some ([], false) else impl_readFields.l0 k (acc ++ [s.extract (p + 2) (p + 2 + two s p)]) (s.extract (p + 2 + two s p) s.size) (n : Int) ((c + 1 : Nat) : Int) := by
  have h2 := two_lt s p
  have hz : (s.extract p s.size).size = s.size - p := by rw [ext_size]; omega
  simp only [impl_readFields.l0]
  rw [if_pos (by omega), hz]
  by_cases h1 : p + 2 > s.size
  · rw [if_pos (by omega), if_pos h1]
  · have hr : ((s.extract p s.size).extract 0 2).size = 2 := by rw [ext_size, hz]; omega
    have ht : two ((s.extract p s.size).extract 0 2) 0 = two s p := by
      unfold two
      rw [bn_from s p 0 (by omega) (by omega), bn_from s p (0 + 1) (by omega) (by omega)]
      rfl
    rw [if_neg (by omega), if_neg h1, if_pos (by omega), if_pos (by omega), numberOf_two _ hr k hk, ht, Option.bind_some, w2' (two s p) (by omega), Int.toNat_natCast, w1 c (by omega)]
    by_cases h3 : two s p > 1000
    · rw [if_pos (by omega), if_pos h3]
    · rw [if_neg (by omega), if_neg h3]
      by_cases h4 : p + 2 + two s p > s.size
      · rw [if_pos (by omega), if_pos h4]
      · rw [if_neg (by omega), if_neg h4, if_pos (by omega), if_pos (by omega), if_pos (by omega), if_pos (by omega), ext_ext s p 2 (2 + two s p) hp (by omega), ByteArray.extract_extract,
          show p + (2 + two s p) = p + 2 + two s p by omega, show min (p + (s.size - p)) s.size = s.size by omega]
theorem impl_end (s : ByteArray) (k n : Nat) (acc : List ByteArray) : impl_readFields.l0 (k + 1) acc s (n : Int) (n : Int) = some (acc, s.toList == ([] : List UInt8)) := by
  simp only [impl_readFields.l0]
  rw [if_neg (by omega)]
theorem nil_size (s : ByteArray) : (s.toList == ([] : List UInt8)) = decide (s.size = 0) := by
  rw [Lib.toList_data]
  obtain ⟨⟨l⟩⟩ := s
  cases l <;> simp [ByteArray.size]
theorem suc_ex (k n : Nat) (h : n < k) : ∃ m, k = m + 1 ∧ n ≤ m := ⟨k - 1, by omega⟩
theorem both_read (s : ByteArray) (hs : s.size ≤ 65536) (n : Nat) (hn : n ≤ 255) (i : Nat) : ∀ (p c : Nat) (acc : List ByteArray), c + i = n → p ≤ s.size → acc.length + i ≤ 255 →
    ∃ r q, (∀ k, i + 5 < k → spec_l02Read.l0 k s acc (p : Int) (i : Int) = some r) ∧ (∀ k, i + 5 < k → impl_readFields.l0 k acc (s.extract p s.size) (n : Int) (c : Int) = some q) ∧ q.2 = r.2 ∧ (r.2 = true → q.1 = r.1) ∧ r.1.length ≤ 255 := by
  induction i with
  | zero =>
    intro p c acc hc hp ha
    have : c = n := by omega
    subst this
    refine ⟨if p = s.size then (acc, true) else ([], false), (acc, (s.extract p s.size).toList == ([] : List UInt8)), fun k hk => ?_, fun k hk => ?_, ?_⟩
    · obtain ⟨k, rfl, hk⟩ := suc_ex k _ hk
      rw [show ((0 : Nat) : Int) = ((0 : Nat) : Int) from rfl, spec_end s k p acc]; by_cases h : p = s.size
      · rw [if_pos h, if_pos h]
      · rw [if_neg h, if_neg h]
    · obtain ⟨k, rfl, hk⟩ := suc_ex k _ hk
      exact impl_end _ _ _ _
    · rw [nil_size, ext_size]
      by_cases h : p = s.size
      · rw [if_pos h, decide_eq_true (by omega)]; exact ⟨rfl, fun _ => rfl, by simpa using ha⟩
      · rw [if_neg h, decide_eq_false (by omega)]; exact ⟨rfl, fun h => by simp at h, by simp⟩
  | succ i ih =>
    intro p c acc hc hp ha
    have es : ∀ k, i + 1 + 5 < k + 1 → _ := fun k _ => spec_round s hs k p i acc (by omega) (by omega) (by omega)
    have ei : ∀ k, i + 1 + 5 < k + 1 → _ := fun k h => impl_round s hs k p n c acc (by omega) hp (by omega) hn (by omega)
    by_cases h1 : p + 2 > s.size
    · refine ⟨([], false), ([], false), fun k hk => ?_, fun k hk => ?_, rfl, fun _ => rfl, by simp⟩
      · obtain ⟨k, rfl, _⟩ := suc_ex k _ hk
        rw [es k hk, if_pos h1]
      · obtain ⟨k, rfl, _⟩ := suc_ex k _ hk
        rw [ei k hk, if_pos h1]
    · by_cases h3 : two s p > 1000
      · refine ⟨([], false), ([], false), fun k hk => ?_, fun k hk => ?_, rfl, fun _ => rfl, by simp⟩
        · obtain ⟨k, rfl, _⟩ := suc_ex k _ hk
          rw [es k hk, if_neg h1, if_pos h3]
        · obtain ⟨k, rfl, _⟩ := suc_ex k _ hk
          rw [ei k hk, if_neg h1, if_pos h3]
      · by_cases h4 : p + 2 + two s p > s.size
        · refine ⟨([], false), ([], false), fun k hk => ?_, fun k hk => ?_, rfl, fun _ => rfl, by simp⟩
          · obtain ⟨k, rfl, _⟩ := suc_ex k _ hk
            rw [es k hk, if_neg h1, if_neg h3, if_pos h4]
          · obtain ⟨k, rfl, _⟩ := suc_ex k _ hk
            rw [ei k hk, if_neg h1, if_neg h3, if_pos h4]
        · obtain ⟨r, q, e1, e2, hq⟩ := ih (p + 2 + two s p) (c + 1) (acc ++ [s.extract (p + 2) (p + 2 + two s p)]) (by omega) (by omega) (by simp; omega)
          refine ⟨r, q, fun k hk => ?_, fun k hk => ?_, hq⟩
          · obtain ⟨k, rfl, _⟩ := suc_ex k _ hk
            rw [es k hk, if_neg h1, if_neg h3, if_neg h4, e1 k (by omega)]
          · obtain ⟨k, rfl, _⟩ := suc_ex k _ hk
            rw [ei k hk, if_neg h1, if_neg h3, if_neg h4, e2 k (by omega)]
theorem both_f (s : ByteArray) (hs : s.size ≤ 65536) :
    ∃ r q, (∀ k, 262 < k → spec_l02Read.f k s = some r) ∧ (∀ k, 262 < k → impl_readFields.f k s = some q) ∧ q.2 = r.2 ∧ (r.2 = true → q.1 = r.1) ∧ r.1.length ≤ 255 := by
  unfold spec_l02Read.f impl_readFields.f
  have hn := nil_size s
  by_cases h : s.toList = ([] : List UInt8)
  · refine ⟨([], false), ([], false), fun k hk => ?_, fun k hk => ?_, rfl, fun _ => rfl, by simp⟩
    · obtain ⟨k, rfl, _⟩ := suc_ex k _ hk
      rw [Option.bind_some, if_pos h]
      simp only [spec_l02Read.j0, if_true]
    · obtain ⟨k, rfl, _⟩ := suc_ex k _ hk
      rw [if_pos h]
      simp only [impl_readFields.j0, if_true]
  · have h0 : s.size ≠ 0 := by
      intro h0
      rw [decide_eq_true h0] at hn
      exact h (by simpa using hn)
    have e0 : bt s 0 = ((bn s 0 : Nat) : Int) := bn_eq s 0
    have b0 := bn_lt s 0
    by_cases hb : bt s 0 > 40
    · refine ⟨([], false), ([], false), fun k hk => ?_, fun k hk => ?_, rfl, fun _ => rfl, by simp⟩
      · obtain ⟨k, rfl, _⟩ := suc_ex k _ hk
        rw [Option.bind_some, if_neg h, if_pos (by omega)]
        simp only [spec_l02Read.j0]
        rw [if_pos (decide_eq_true hb)]
      · obtain ⟨k, rfl, _⟩ := suc_ex k _ hk
        rw [if_neg h, if_pos (by omega)]
        simp only [impl_readFields.j0]
        rw [if_pos (decide_eq_true hb)]
    · have hb' := hb
      rw [e0] at hb'
      obtain ⟨r, q, e1, e2, hq⟩ := both_read s hs (bn s 0) (by omega) (bn s 0) 1 0 [] (by omega) (by omega) (by simp; omega)
      refine ⟨r, q, fun k hk => ?_, fun k hk => ?_, hq⟩
      · obtain ⟨k, rfl, _⟩ := suc_ex k _ hk
        rw [Option.bind_some, if_neg h, if_pos (by omega)]
        simp only [spec_l02Read.j0]
        rw [if_neg (fun h => hb (of_decide_eq_true h)), if_pos (by omega), e0, wn (bn s 0) (by omega)]
        exact e1 k (by omega)
      · obtain ⟨k, rfl, _⟩ := suc_ex k _ hk
        rw [if_neg h, if_pos (by omega)]
        simp only [impl_readFields.j0]
        rw [if_neg (fun h => hb (of_decide_eq_true h)), if_pos (by omega), if_pos (by omega), e0, wn (bn s 0) (by omega)]
        exact e2 k (by omega)
end Go.Proofs.Ytfgnhghadghdkaa.Pure
