/- What the reader of draws hands out: a drawn byte, an amount; each is there, and in its bounds. -/
import Derived.Test.YtfgnhghadghdkaaDoorQ4
import Derived.Test.YtfgnhghadghdkaaDoorE7
namespace Go.Proofs.YtfgnhghadghdkaaDoor.Pure
open Go.RowKit Go.Proofs.YtfgnhghadghdkaaDoor.Q Go.Proofs.YtfgnhghadghdkaaDoorW.PrintWords Go.Proofs.YtfgnhghadghdkaaDoorW.PrintLast
set_option linter.unusedVariables false
def bytesOK (l : List Int) : Prop := ∀ x ∈ l, 0 ≤ x ∧ x ≤ 255
theorem rd_byte {l : List Int} (hl : bytesOK l) (i : Int) : 0 ≤ rd l i ∧ rd l i ≤ 255 := by
  unfold rd
  rw [List.getD_eq_getElem?_getD]
  cases h : l[i.toNat]? with
  | none => simp
  | some x =>
    obtain ⟨hi, rfl⟩ := List.getElem?_eq_some_iff.1 h
    simpa using hl _ (List.getElem_mem hi)
theorem dw (n : Int) (h0 : -9223372036854775808 ≤ n) (h1 : n ≤ 9223372036854775807) : wrap64 n = n := by unfold wrap64; omega
/-- A state of the reader that is far from the bounds. -/
def goodSt (a s : Int) : Prop := 0 ≤ a ∧ a ≤ 1000000000000 ∧ 0 ≤ s ∧ s < 2147483648
theorem byte_ok {l : List Int} (hl : bytesOK l) (hn : l.length ≤ 1152921504606846976) {a s : Int} (h0 : 0 ≤ a) (h1 : a < 1000000000000) (s0 : 0 ≤ s) (s1 : s < 2147483648) : ∃ r s', spec_l00Src_byte.f l a s = some (r, a + 1, s') ∧ 0 ≤ r ∧ r ≤ 255 ∧ 0 ≤ s' ∧ s' < 2147483648 := by
  unfold spec_l00Src_byte.f
  rw [dw (a + 1) (by omega) (by omega)]
  by_cases h : a + 1 ≤ (l.length : Int)
  · have hr := rd_byte hl a
    rw [if_pos h, dw (a + 1 - 1) (by omega) (by omega), show a + 1 - 1 = a by omega, if_pos h0, if_pos (by omega), dw (rd l a) (by omega) (by omega), dw (s * 31) (by omega) (by omega), dw (s * 31 + rd l a) (by omega) (by omega), dw (s * 31 + rd l a + 7) (by omega) (by omega), Int.tmod_eq_emod_of_nonneg (by omega)]
    exact ⟨_, _, rfl, hr.1, hr.2, by omega, by omega⟩
  · rw [if_neg h]
    by_cases h2 : a + 1 > 3000
    · rw [if_pos h2]
      exact ⟨_, _, rfl, by omega, by omega, s0, s1⟩
    · rw [if_neg h2, dw (s * 1103515245) (by omega) (by omega), dw (s * 1103515245 + 12345) (by omega) (by omega), Int.tmod_eq_emod_of_nonneg (show 0 ≤ s * 1103515245 + 12345 by omega), Int.tdiv_eq_ediv_of_nonneg (show 0 ≤ (s * 1103515245 + 12345) % 2147483648 by omega), dw ((s * 1103515245 + 12345) % 2147483648 / 65536) (by omega) (by omega), Int.tmod_eq_emod_of_nonneg (show 0 ≤ (s * 1103515245 + 12345) % 2147483648 / 65536 by omega)]
      exact ⟨_, _, rfl, by omega, by omega, by omega, by omega⟩
theorem next_ok {l : List Int} (hl : bytesOK l) (hn : l.length ≤ 1152921504606846976) {a s : Int} (n : Int) (hn1 : 1 < n) (h0 : 0 ≤ a) (h1 : a + 3 ≤ 1000000000000) (s0 : 0 ≤ s) (s1 : s < 2147483648) :
    ∃ r a' s', spec_l00Src_next.f l a s n = some (r, a', s') ∧ 0 ≤ r ∧ r < n ∧ a ≤ a' ∧ a' ≤ a + 3 ∧ 0 ≤ s' ∧ s' < 2147483648 := by
  unfold spec_l00Src_next.f
  rw [if_neg (by omega)]
  obtain ⟨r, s', e, r0, r1, s0', s1'⟩ := byte_ok hl hn h0 (by omega) s0 s1
  rw [e]
  simp only [Option.bind_some]
  by_cases h : n ≤ 256
  · rw [if_pos h, if_neg (by omega), Int.tmod_eq_emod_of_nonneg r0]
    exact ⟨_, _, _, rfl, Int.emod_nonneg _ (by omega), Int.emod_lt_of_pos _ (by omega), by omega, by omega, s0', s1'⟩
  · obtain ⟨r2, s2, e2, r20, r21, s20, s21⟩ := byte_ok hl hn (a := a + 1) (s := s') (by omega) (by omega) s0' s1'
    rw [if_neg h, e2]
    simp only [Option.bind_some]
    obtain ⟨r3, s3, e3, r30, r31, s30, s31⟩ := byte_ok hl hn (a := a + 1 + 1) (s := s2) (by omega) (by omega) s20 s21
    rw [e3]
    simp only [Option.bind_some]
    rw [if_neg (by omega), dw (r * 65536) (by omega) (by omega), dw (r2 * 256) (by omega) (by omega), dw (r * 65536 + r2 * 256) (by omega) (by omega), dw (r * 65536 + r2 * 256 + r3) (by omega) (by omega), Int.tmod_eq_emod_of_nonneg (by omega)]
    exact ⟨_, _, _, rfl, Int.emod_nonneg _ (by omega), Int.emod_lt_of_pos _ (by omega), by omega, by omega, s30, s31⟩
theorem amount_ok {l : List Int} (hl : bytesOK l) (hn : l.length ≤ 1152921504606846976) {a s : Int} (h0 : 0 ≤ a) (h1 : a + 15 ≤ 1000000000000) (s0 : 0 ≤ s) (s1 : s < 2147483648) :
    ∃ r a' s', spec_l00Src_amount.f l a s = some (r, a', s') ∧ 0 ≤ r ∧ r ≤ 1000000000000000000 ∧ a ≤ a' ∧ a' ≤ a + 15 ∧ 0 ≤ s' ∧ s' < 2147483648 := by
  unfold spec_l00Src_amount.f
  obtain ⟨r1, a1, t1, e1, b1, c1, d1, f1, g1, i1⟩ := next_ok hl hn 100 (by omega) h0 (by omega) s0 s1
  rw [e1]
  simp only [Option.bind_some]
  obtain ⟨r2, a2, t2, e2, b2, c2, d2, f2, g2, i2⟩ := next_ok hl hn 1000000 (by omega) (a := a1) (s := t1) (by omega) (by omega) g1 i1
  rw [e2]
  simp only [Option.bind_some]
  obtain ⟨r3, a3, t3, e3, b3, c3, d3, f3, g3, i3⟩ := next_ok hl hn 1000000000 (by omega) (a := a2) (s := t2) (by omega) (by omega) g2 i2
  rw [e3]
  simp only [Option.bind_some]
  obtain ⟨r4, a4, t4, e4, b4, c4, d4, f4, g4, i4⟩ := next_ok hl hn 3 (by omega) (a := a3) (s := t3) (by omega) (by omega) g3 i3
  rw [e4]
  simp only [Option.bind_some]
  obtain ⟨r5, a5, t5, e5, b5, c5, d5, f5, g5, i5⟩ := next_ok hl hn 8 (by omega) (a := a4) (s := t4) (by omega) (by omega) g4 i4
  rw [e5]
  simp only [Option.bind_some]
  rw [dw (r3 * 1000000000) (by omega) (by omega), if_pos b5, if_pos (by simpa using c5)]
  have hb : ∀ x ∈ ([r1, r2, r3 * 1000000000, 999999999999999999, 1000000000000000000, r4, 1000000000, 999999999] : List Int), 0 ≤ x ∧ x ≤ 1000000000000000000 := by
    intro x hx
    simp only [List.mem_cons, List.not_mem_nil, or_false] at hx
    omega
  have hlt : r5.toNat < ([r1, r2, r3 * 1000000000, 999999999999999999, 1000000000000000000, r4, 1000000000, 999999999] : List Int).length := by simp; omega
  have hr : rd ([r1, r2, r3 * 1000000000, 999999999999999999, 1000000000000000000, r4, 1000000000, 999999999] : List Int) r5 = ([r1, r2, r3 * 1000000000, 999999999999999999, 1000000000000000000, r4, 1000000000, 999999999] : List Int)[r5.toNat]'hlt := by
    unfold rd
    rw [List.getD_eq_getElem?_getD, List.getElem?_eq_getElem hlt]
    rfl
  have hx := hb _ (List.getElem_mem hlt)
  rw [← hr] at hx
  exact ⟨_, _, _, rfl, hx.1, hx.2, by omega, by omega, g5, i5⟩
theorem amountOf_ok {l : List Int} (hl : bytesOK l) (hn : l.length ≤ 1152921504606846976) : ∃ r, spec_AmountOf.f l = some r ∧ 0 ≤ r ∧ r ≤ 1000000000000000000 := by
  unfold spec_AmountOf.f spec_l00Source.f
  simp only [Option.bind_some]
  obtain ⟨r, a', s', e, h0, h1, _⟩ := amount_ok hl hn (a := 0) (s := (l.length : Int) % 1000) (by omega) (by omega) (by omega) (by omega)
  rw [e]
  exact ⟨r, rfl, h0, h1⟩
theorem bytesOK_of {l : List Int} (h : ∀ x ∈ l, (Lit.int .u8 x).wf = true) : bytesOK l := by
  intro x hx
  have := h x hx
  simp [Lit.wf, IntKind.min, IntKind.max, IntKind.bits, IntKind.signed] at this
  omega
end Go.Proofs.YtfgnhghadghdkaaDoor.Pure
