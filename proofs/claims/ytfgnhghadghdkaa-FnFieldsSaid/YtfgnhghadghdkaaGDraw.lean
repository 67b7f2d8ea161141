/- What the reader of draws hands out: a drawn byte, a choice, an amount; each is there, and in its bounds. -/
import Derived.Test.YtfgnhghadghdkaaG4
import Derived.Test.YtfgnhghadghdkaaGE7
namespace Go.Proofs.Ytfgnhghadghdkaa.Pure
open Go.RowKit Go.Proofs.Ytfgnhghadghdkaa.G Go.Proofs.YtfgnhghadghdkaaW.PrintWords Go.Proofs.YtfgnhghadghdkaaW.PrintLast
set_option linter.unusedVariables false
def bytesOK (l : List Int) : Prop := ∀ x ∈ l, 0 ≤ x ∧ x ≤ 255
theorem rd_byte {l : List Int} (hl : bytesOK l) (i : Int) : 0 ≤ rd l i ∧ rd l i ≤ 255 := by
  unfold rd
  rw [List.getD_eq_getElem?_getD]
  cases h : l[i.toNat]? with
  | none => simp
  | some x =>
    obtain ⟨hi, rfl⟩ := List.getElem?_eq_some_iff.1 h
    simpa using hl _ (List.getElem_mem hi)
theorem dw (n : Int) (h0 : -9223372036854775808 ≤ n) (h1 : n ≤ 9223372036854775807) : wrap64 n = n := by unfold wrap64; omega
/-- A state of the reader that is far from the bounds. -/
def goodSt (a s : Int) : Prop := 0 ≤ a ∧ a ≤ 1000000000000 ∧ 0 ≤ s ∧ s < 2147483648
theorem byte_ok {l : List Int} (hl : bytesOK l) (hn : l.length ≤ 1152921504606846976) {a s : Int} (h0 : 0 ≤ a) (h1 : a < 1000000000000) (s0 : 0 ≤ s) (s1 : s < 2147483648) : ∃ r s', spec_l00Src_byte.f l a s = some (r, a + 1, s') ∧ 0 ≤ r ∧ r ≤ 255 ∧ 0 ≤ s' ∧ s' < 2147483648 := by
  unfold spec_l00Src_byte.f
  rw [dw (a + 1) (by omega) (by omega)]
  by_cases h : a + 1 ≤ (l.length : Int)
  · have hr := rd_byte hl a
    rw [if_pos h, dw (a + 1 - 1) (by omega) (by omega), show a + 1 - 1 = a by omega, if_pos h0, if_pos (by omega), dw (rd l a) (by omega) (by omega), dw (s * 31) (by omega) (by omega), dw (s * 31 + rd l a) (by omega) (by omega), dw (s * 31 + rd l a + 7) (by omega) (by omega), Int.tmod_eq_emod_of_nonneg (by omega)]
    exact ⟨_, _, rfl, hr.1, hr.2, by omega, by omega⟩
  · rw [if_neg h]
    by_cases h2 : a + 1 > 3000
    · rw [if_pos h2]
      exact ⟨_, _, rfl, by omega, by omega, s0, s1⟩
    · rw [if_neg h2, dw (s * 1103515245) (by omega) (by omega), dw (s * 1103515245 + 12345) (by omega) (by omega), Int.tmod_eq_emod_of_nonneg (show 0 ≤ s * 1103515245 + 12345 by omega), Int.tdiv_eq_ediv_of_nonneg (show 0 ≤ (s * 1103515245 + 12345) % 2147483648 by omega), dw ((s * 1103515245 + 12345) % 2147483648 / 65536) (by omega) (by omega), Int.tmod_eq_emod_of_nonneg (show 0 ≤ (s * 1103515245 + 12345) % 2147483648 / 65536 by omega)]
      exact ⟨_, _, rfl, by omega, by omega, by omega, by omega⟩
theorem next_ok {l : List Int} (hl : bytesOK l) (hn : l.length ≤ 1152921504606846976) {a s : Int} (n : Int) (hn1 : 1 < n) (h0 : 0 ≤ a) (h1 : a + 3 ≤ 1000000000000) (s0 : 0 ≤ s) (s1 : s < 2147483648) :
    ∃ r a' s', spec_l00Src_next.f l a s n = some (r, a', s') ∧ 0 ≤ r ∧ r < n ∧ a ≤ a' ∧ a' ≤ a + 3 ∧ 0 ≤ s' ∧ s' < 2147483648 := by
  unfold spec_l00Src_next.f
  rw [if_neg (by omega)]
  obtain ⟨r, s', e, r0, r1, s0', s1'⟩ := byte_ok hl hn h0 (by omega) s0 s1
  rw [e]
  simp only [Option.bind_some]
  by_cases h : n ≤ 256
  · rw [if_pos h, if_neg (by omega), Int.tmod_eq_emod_of_nonneg r0]
    exact ⟨_, _, _, rfl, Int.emod_nonneg _ (by omega), Int.emod_lt_of_pos _ (by omega), by omega, by omega, s0', s1'⟩
  · obtain ⟨r2, s2, e2, r20, r21, s20, s21⟩ := byte_ok hl hn (a := a + 1) (s := s') (by omega) (by omega) s0' s1'
    rw [if_neg h, e2]
    simp only [Option.bind_some]
    obtain ⟨r3, s3, e3, r30, r31, s30, s31⟩ := byte_ok hl hn (a := a + 1 + 1) (s := s2) (by omega) (by omega) s20 s21
    rw [e3]
    simp only [Option.bind_some]
    rw [if_neg (by omega), dw (r * 65536) (by omega) (by omega), dw (r2 * 256) (by omega) (by omega), dw (r * 65536 + r2 * 256) (by omega) (by omega), dw (r * 65536 + r2 * 256 + r3) (by omega) (by omega), Int.tmod_eq_emod_of_nonneg (by omega)]
    exact ⟨_, _, _, rfl, Int.emod_nonneg _ (by omega), Int.emod_lt_of_pos _ (by omega), by omega, by omega, s30, s31⟩
theorem pick_ok {l : List Int} (hl : bytesOK l) (hn : l.length ≤ 1152921504606846976) {a s : Int} (L : List ByteArray) (hL : 1 < L.length) (h0 : 0 ≤ a) (h1 : a + 3 ≤ 1000000000000) (s0 : 0 ≤ s) (s1 : s < 2147483648) :
    ∃ x a' s', spec_l00Src_pick.f l a s L = some (x, a', s') ∧ x ∈ L ∧ a ≤ a' ∧ a' ≤ a + 3 ∧ 0 ≤ s' ∧ s' < 2147483648 := by
  unfold spec_l00Src_pick.f
  obtain ⟨r, a', s', e, r0, r1, a0, a1, t0, t1⟩ := next_ok hl hn (L.length : Int) (by omega) h0 h1 s0 s1
  rw [if_neg (by omega), e]
  simp only [Option.bind_some]
  rw [if_pos r0, if_pos r1]
  refine ⟨_, _, _, rfl, ?_, a0, a1, t0, t1⟩
  have hlt : r.toNat < L.length := by omega
  rw [show rdOf ByteArray.empty L r = L[r.toNat] by unfold rdOf; rw [List.getD_eq_getElem?_getD, List.getElem?_eq_getElem hlt]; rfl]
  exact List.getElem_mem hlt
theorem fields_ok {l : List Int} (hl : bytesOK l) (hn : l.length ≤ 1152921504606846976) (d : Nat) : ∀ (k : Nat) (acc : List ByteArray) (a s : Int), d ≤ 5 → acc.length + d ≤ 5 → (∀ x ∈ acc, x.size ≤ 5) → 0 ≤ a → a + 3 * d ≤ 100000 → 0 ≤ s → s < 2147483648 → d < k →
    ∃ xs a' s', spec_l00Src_fields.l0 k acc (d : Int) l a s = some (xs, a', s') ∧ xs.length ≤ 5 ∧ ∀ x ∈ xs, x.size ≤ 5 := by
  induction d with
  | zero =>
    intro k acc a s h5 hlen hacc h0 h1 s0 s1 hk
    obtain ⟨k, rfl⟩ : ∃ m, k = m + 1 := ⟨k - 1, by omega⟩
    simp only [spec_l00Src_fields.l0]
    rw [if_neg (by omega)]
    exact ⟨_, _, _, rfl, by omega, hacc⟩
  | succ d ih =>
    intro k acc a s h5 hlen hacc h0 h1 s0 s1 hk
    obtain ⟨k, rfl⟩ : ∃ m, k = m + 1 := ⟨k - 1, by omega⟩
    obtain ⟨x, a', s', e, hx, a0, a1, t0, t1⟩ := pick_ok hl hn (a := a) (s := s) ([(⟨#[]⟩ : ByteArray), (⟨#[97]⟩ : ByteArray), (⟨#[102, 105, 101, 108, 100]⟩ : ByteArray), (⟨#[0, 1]⟩ : ByteArray)] : List ByteArray) (by simp) h0 (by omega) s0 s1
    have hxs : x.size ≤ 5 := by
      simp only [List.mem_cons, List.not_mem_nil, or_false] at hx
      rcases hx with rfl | rfl | rfl | rfl <;> decide
    simp only [spec_l00Src_fields.l0]
    rw [if_pos (by omega), e]
    simp only [Option.bind_some]
    rw [if_pos (by omega), dw (((d + 1 : Nat) : Int) - 1) (by omega) (by omega), show ((d + 1 : Nat) : Int) - 1 = (d : Int) by omega]
    refine ih k (acc ++ [x]) a' s' (by omega) (by simp; omega) ?_ (by omega) (by omega) t0 t1 (by omega)
    intro y hy
    rcases List.mem_append.1 hy with h | h
    · exact hacc y h
    · simp only [List.mem_cons, List.not_mem_nil, or_false] at h
      subst h
      exact hxs
theorem fieldsOf_ok {l : List Int} (hl : bytesOK l) (hn : l.length ≤ 1152921504606846976) (k : Nat) (hk : 10 < k) : ∃ xs, spec_FieldsOf.f k l = some xs ∧ xs.length ≤ 5 ∧ ∀ x ∈ xs, x.size ≤ 5 := by
  unfold spec_FieldsOf.f spec_l00Source.f spec_l00Src_fields.f
  simp only [Option.bind_some]
  obtain ⟨r, a', s', e, r0, r1, a0, a1, t0, t1⟩ := next_ok hl hn (a := 0) (s := (l.length : Int) % 1000) 6 (by omega) (by omega) (by omega) (by omega) (by omega)
  rw [e]
  simp only [Option.bind_some]
  obtain ⟨n, rfl⟩ := Int.eq_ofNat_of_zero_le r0
  obtain ⟨xs, a2, s2, e2, h1, h2⟩ := fields_ok hl hn n k [] a' s' (by omega) (by simp; omega) (by simp) (by omega) (by omega) t0 t1 (by omega)
  rw [e2]
  exact ⟨xs, rfl, h1, h2⟩
theorem bytesOK_of {l : List Int} (h : ∀ x ∈ l, (Lit.int .u8 x).wf = true) : bytesOK l := by
  intro x hx
  have := h x hx
  simp [Lit.wf, IntKind.min, IntKind.max, IntKind.bits, IntKind.signed] at this
  omega
end Go.Proofs.Ytfgnhghadghdkaa.Pure
