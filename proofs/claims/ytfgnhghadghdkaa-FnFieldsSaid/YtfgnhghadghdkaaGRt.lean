/- What is read is what the bytes tell, and the other way. -/
import Derived.Test.YtfgnhghadghdkaaGRun
import Derived.Test.YtfgnhghadghdkaaGFp
namespace Go.Proofs.Ytfgnhghadghdkaa.Pure
open Go.RowKit Go.Proofs.Ytfgnhghadghdkaa.G Go.Proofs.YtfgnhghadghdkaaW.PrintWords Go.Proofs.YtfgnhghadghdkaaW.PrintLast
set_option linter.unusedVariables false
theorem bytesOf_inj {a b : ByteArray} (h : bytesOf a = bytesOf b) : a = b := by
  unfold bytesOf at h
  have h2 : a.data.toList = b.data.toList := (List.map_inj_right (fun x y hxy => UInt8.toNat_inj.1 (by exact_mod_cast hxy))).1 h
  obtain ⟨⟨x⟩⟩ := a
  obtain ⟨⟨y⟩⟩ := b
  simpa using h2
theorem bytesOf_ext (s : ByteArray) (a b : Nat) (hb : b ≤ s.size) : bytesOf (s.extract a b) = ((bytesOf s).drop a).take (b - a) := by
  unfold bytesOf
  rw [ByteArray.data_extract, Array.toList_extract, List.extract_eq_take_drop, List.map_take, List.map_drop]
theorem bytesOf_at (s : ByteArray) (p : Nat) (h : p < s.size) : (bytesOf s)[p]'(by rw [bytesOf_length]; exact h) = ((bn s p : Nat) : Int) := by
  rw [← bn_eq, ← rd_bytesOf]
  unfold rd
  rw [Int.toNat_natCast, List.getD_eq_getElem?_getD, List.getElem?_eq_getElem (by rw [bytesOf_length]; exact h)]
  rfl
theorem step_drop (s : ByteArray) (p : Nat) (h : p + 2 + two s p ≤ s.size) : (bytesOf s).drop p = encF (s.extract (p + 2) (p + 2 + two s p)) ++ (bytesOf s).drop (p + 2 + two s p) := by
  have b0 := bn_lt s p
  have b1 := bn_lt s (p + 1)
  have hl : (bytesOf s).length = s.size := bytesOf_length s
  have hx : (s.extract (p + 2) (p + 2 + two s p)).size = two s p := by rw [ext_size]; omega
  rw [List.drop_eq_getElem_cons (by omega), List.drop_eq_getElem_cons (by omega), bytesOf_at s p (by omega), bytesOf_at s (p + 1) (by omega)]
  unfold encF
  rw [hx, bytesOf_ext s _ _ h, show p + 2 + two s p - (p + 2) = two s p by omega]
  have e1 : ((two s p : Nat) : Int) / 256 % 256 = ((bn s p : Nat) : Int) := by unfold two; omega
  have e2 : ((two s p : Nat) : Int) % 256 = ((bn s (p + 1) : Nat) : Int) := by unfold two; omega
  have hd : (bytesOf s).drop (p + 2 + two s p) = ((bytesOf s).drop (p + 2)).drop (two s p) := by rw [List.drop_drop]
  rw [e1, e2, hd, List.append_assoc, List.take_append_drop]
  rfl
theorem read_fwd (s : ByteArray) (hs : s.size ≤ 65536) (i : Nat) : ∀ (k p : Nat) (acc A : List ByteArray), p ≤ s.size → acc.length + i ≤ 255 → spec_l02Read.l0 k s acc (p : Int) (i : Int) = some (A, true) →
    ∃ xs, A = acc ++ xs ∧ xs.length = i ∧ (∀ x ∈ xs, x.size ≤ 1000) ∧ (bytesOf s).drop p = xs.flatMap encF := by
  induction i with
  | zero =>
    intro k p acc A hp ha h
    cases k with
    | zero => simp [spec_l02Read.l0] at h
    | succ k =>
      rw [spec_end s k p acc] at h
      by_cases e : p = s.size
      · rw [if_pos e] at h
        injection h with h
        injection h with h1 _
        refine ⟨[], by rw [← h1]; simp, rfl, by simp, ?_⟩
        rw [List.drop_eq_nil_of_le (by rw [bytesOf_length]; omega)]
        rfl
      · rw [if_neg e] at h
        simp at h
  | succ i ih =>
    intro k p acc A hp ha h
    cases k with
    | zero => simp [spec_l02Read.l0] at h
    | succ k =>
      rw [spec_round s hs k p i acc (by omega) (by omega) (by omega)] at h
      by_cases h1 : p + 2 > s.size
      · rw [if_pos h1] at h; simp at h
      · by_cases h3 : two s p > 1000
        · rw [if_neg h1, if_pos h3] at h; simp at h
        · by_cases h4 : p + 2 + two s p > s.size
          · rw [if_neg h1, if_neg h3, if_pos h4] at h; simp at h
          · rw [if_neg h1, if_neg h3, if_neg h4] at h
            obtain ⟨xs, e1, e2, e3, e4⟩ := ih k _ _ A (by omega) (by simp; omega) h
            refine ⟨s.extract (p + 2) (p + 2 + two s p) :: xs, by rw [e1]; simp, by simp [e2], ?_, ?_⟩
            · intro x hx
              rcases List.mem_cons.1 hx with rfl | hx
              · rw [ext_size]; omega
              · exact e3 x hx
            · rw [step_drop s p (by omega), e4, List.flatMap_cons]
theorem two_of (s : ByteArray) (p : Nat) (x : ByteArray) (rest : List Int) (hx : x.size ≤ 1000) (h : (bytesOf s).drop p = encF x ++ rest) : p + 2 + x.size ≤ s.size ∧ two s p = x.size ∧ s.extract (p + 2) (p + 2 + x.size) = x ∧ (bytesOf s).drop (p + 2 + x.size) = rest := by
  have hl : (bytesOf s).length = s.size := bytesOf_length s
  have hlen := congrArg List.length h
  rw [List.length_drop, hl, List.length_append, enc_size] at hlen
  have hpe : p + 2 + x.size ≤ s.size := by omega
  have h0 := h
  rw [List.drop_eq_getElem_cons (by omega), List.drop_eq_getElem_cons (by omega), bytesOf_at s p (by omega), bytesOf_at s (p + 1) (by omega)] at h0
  unfold encF at h0
  simp only [List.cons_append, List.nil_append, List.cons.injEq] at h0
  obtain ⟨e1, e2, e3⟩ := h0
  have et : two s p = x.size := by unfold two; omega
  have e3' : (bytesOf s).drop (p + 2) = bytesOf x ++ rest := e3
  refine ⟨hpe, et, bytesOf_inj ?_, ?_⟩
  · rw [bytesOf_ext s _ _ hpe, show p + 2 + x.size - (p + 2) = x.size by omega, e3', List.take_append_of_le_length (by rw [bytesOf_length]; exact Nat.le_refl _), List.take_of_length_le (by rw [bytesOf_length]; exact Nat.le_refl _)]
  · rw [← List.drop_drop, e3', List.drop_append_of_le_length (by rw [bytesOf_length]; exact Nat.le_refl _), List.drop_eq_nil_of_le (by rw [bytesOf_length]; exact Nat.le_refl _), List.nil_append]
theorem read_bwd (s : ByteArray) (hs : s.size ≤ 65536) (xs : List ByteArray) : ∀ (k p : Nat) (acc : List ByteArray), p ≤ s.size → acc.length + xs.length ≤ 255 → (∀ x ∈ xs, x.size ≤ 1000) → (bytesOf s).drop p = xs.flatMap encF → xs.length < k →
    spec_l02Read.l0 k s acc (p : Int) (xs.length : Int) = some (acc ++ xs, true) := by
  induction xs with
  | nil =>
    intro k p acc hp ha hx h hk
    obtain ⟨k, rfl⟩ : ∃ m, k = m + 1 := ⟨k - 1, by omega⟩
    have hlen := congrArg List.length h
    rw [List.length_drop, bytesOf_length] at hlen
    simp at hlen
    rw [List.length_nil, spec_end s k p acc, if_pos (by omega), List.append_nil]
  | cons x xs ih =>
    intro k p acc hp ha hx h hk
    simp only [List.length_cons] at ha hk
    obtain ⟨k, rfl⟩ : ∃ m, k = m + 1 := ⟨k - 1, by omega⟩
    rw [List.flatMap_cons] at h
    have hxs := hx x (by simp)
    obtain ⟨h1, h2, h3, h4⟩ := two_of s p x _ hxs h
    rw [List.length_cons, spec_round s hs k p xs.length acc (by omega) (by omega) (by omega), h2, if_neg (by omega), if_neg (by omega), if_neg (by omega), h3, ih k (p + 2 + x.size) (acc ++ [x]) h1 (by simp; omega) (fun y hy => hx y (by simp [hy])) h4 (by omega)]
    simp
theorem nil_of_size (s : ByteArray) (h : 0 < s.size) : ¬ s.toList = ([] : List UInt8) := by
  intro h0
  have := nil_size s
  rw [decide_eq_false (by omega)] at this
  simp [h0] at this
theorem whole_fwd (s : ByteArray) (hs : s.size ≤ 65536) (k : Nat) (A : List ByteArray) (h : spec_l02Read.f k s = some (A, true)) : A.length ≤ 40 ∧ (∀ x ∈ A, x.size ≤ 1000) ∧ bytesOf s = fieldsL A := by
  unfold spec_l02Read.f at h
  rw [Option.bind_some] at h
  by_cases hz : s.toList = ([] : List UInt8)
  · rw [if_pos hz] at h
    cases k with
    | zero => simp [spec_l02Read.j0] at h
    | succ k =>
      simp only [spec_l02Read.j0, if_true] at h
      simp at h
  · rw [if_neg hz] at h
    have hn := nil_size s
    by_cases h0 : 0 < s.size
    · have e0 : bt s 0 = ((bn s 0 : Nat) : Int) := bn_eq s 0
      have b0 := bn_lt s 0
      rw [if_pos (by omega)] at h
      cases k with
      | zero => simp [spec_l02Read.j0] at h
      | succ k =>
        simp only [spec_l02Read.j0] at h
        by_cases hb : bt s 0 > 40
        · rw [if_pos (decide_eq_true hb)] at h
          simp at h
        · rw [if_neg (fun hh => hb (of_decide_eq_true hh)), if_pos (by omega), e0, wn (bn s 0) (by omega)] at h
          obtain ⟨xs, e1, e2, e3, e4⟩ := read_fwd s hs (bn s 0) k 1 [] A (by omega) (by simp; omega) h
          rw [List.nil_append] at e1
          subst e1
          refine ⟨by omega, e3, ?_⟩
          unfold fieldsL
          rw [← e4, e2]
          have hl : (bytesOf s).length = s.size := bytesOf_length s
          have := List.drop_eq_getElem_cons (l := bytesOf s) (i := 0) (by omega)
          rw [List.drop_zero, bytesOf_at s 0 h0] at this
          rw [this, show ((bn s 0 : Nat) : Int) % 256 = ((bn s 0 : Nat) : Int) by omega]
          rfl
    · rw [decide_eq_true (by omega)] at hn
      exact absurd (by simpa using hn) hz
theorem whole_bwd (s : ByteArray) (hs : s.size ≤ 65536) (A : List ByteArray) (hA : A.length ≤ 40) (hx : ∀ x ∈ A, x.size ≤ 1000) (h : bytesOf s = fieldsL A) (k : Nat) (hk : A.length + 1 < k) : spec_l02Read.f k s = some (A, true) := by
  obtain ⟨k, rfl⟩ : ∃ m, k = m + 1 := ⟨k - 1, by omega⟩
  have hl : (bytesOf s).length = s.size := bytesOf_length s
  have hlen : 0 < s.size := by
    rw [← hl, h]
    unfold fieldsL
    simp
  unfold fieldsL at h
  have h1 := List.drop_eq_getElem_cons (l := bytesOf s) (i := 0) (by omega)
  rw [List.drop_zero, bytesOf_at s 0 hlen] at h1
  rw [h1] at h
  simp only [List.cons_append, List.nil_append, List.cons.injEq] at h
  have e0 : bt s 0 = ((bn s 0 : Nat) : Int) := bn_eq s 0
  have hb : bn s 0 = A.length := by have := h.1; omega
  unfold spec_l02Read.f
  rw [Option.bind_some, if_neg (nil_of_size s hlen), if_pos (by omega)]
  simp only [spec_l02Read.j0]
  rw [if_neg (by rw [e0]; simp; omega), if_pos (by omega), e0, wn (bn s 0) (by omega), hb]
  have := read_bwd s hs A k 1 [] (by omega) (by simp; omega) hx h.2 (by omega)
  rw [List.nil_append] at this
  exact this
end Go.Proofs.Ytfgnhghadghdkaa.Pure
