/- What the reader of draws hands out: a drawn byte, a choice, an amount; each is there, and in its bounds. -/
import Derived.Test.YtifkdlcalkccaaaS10
import Derived.Test.YtifkdlcalkccaaaSDrop
import Derived.Test.YtifkdlcalkccaaaSE7
import Derived.Test.YtifkdlcalkccaaaSE16
namespace Go.Proofs.Ytifkdlcalkccaaa.Pure
open Go.RowKit Go.Proofs.Ytifkdlcalkccaaa.S Go.Proofs.YtifkdlcalkccaaaW.PrintWords Go.Proofs.YtifkdlcalkccaaaW.PrintLast
set_option linter.unusedVariables false
def Lt (x y : S50) : Prop := Op.bytesLess x.f0.toList y.f0.toList = true
def Rt (l : List S50) : Prop := l.length ≤ 400 ∧ (∀ x ∈ l, keyB x.f0 = true ∧ valB x.f1 = true) ∧ l.Pairwise Lt
theorem gd (l : List S50) (i : Nat) (h : i < l.length) : l.getD i z50 = l[i] := by simp [List.getD, List.getElem?_eq_getElem h]
theorem rt_of {l : List S50} (h : rightB l = true) : Rt l := by
  refine ⟨right_len h, fun x hx => ?_, List.pairwise_iff_getElem.2 fun i j hi hj hij => ?_⟩
  · obtain ⟨i, hi, rfl⟩ := List.getElem_of_mem hx
    have := right_key h i hi
    unfold key at this
    rw [gd l i hi] at this
    exact this
  · have := right_lt h hij hj
    unfold key at this
    rw [gd l i hi, gd l j hj] at this
    exact this
theorem of_rt {l : List S50} (h : Rt l) : rightB l = true := by
  unfold rightB
  rw [Bool.and_eq_true]
  refine ⟨List.all_eq_true.2 fun i hi => ?_, decide_eq_true h.1⟩
  have hi := List.mem_range.1 hi
  have hk := h.2.1 l[i] (List.getElem_mem hi)
  unfold pairB riseB
  rw [gd l i hi, hk.1, hk.2, Bool.true_and, Bool.true_and]
  by_cases h0 : i = 0
  · rw [decide_eq_true h0]; rfl
  · rw [decide_eq_false h0, Bool.false_or, gd l (i - 1) (by omega)]
    exact List.pairwise_iff_getElem.1 h.2.2 (i - 1) i (by omega) hi (by omega)
theorem rt_sub {l m : List S50} (h : Rt l) (s : m.Sublist l) : Rt m :=
  ⟨Nat.le_trans s.length_le h.1, fun x hx => h.2.1 x (s.subset hx), h.2.2.sublist s⟩
def Fits (l : List S50) (a : ByteArray) (A B : List S50) : Prop :=
  (A ++ B).Sublist l ∧ (∀ x ∈ A, Op.bytesLess x.f0.toList a.toList = true) ∧ (∀ x ∈ B, Op.bytesLess a.toList x.f0.toList = true) ∧ (∀ x ∈ l, x.f0 ≠ a → x ∈ A ++ B)
theorem rt_ins {l A B : List S50} {a : ByteArray} (v : ByteArray) (h : Rt l) (hl : l.length < 400) (f : Fits l a A B) (ka : keyB a = true) (kv : valB v = true) : Rt (A ++ ⟨a, v⟩ :: B) := by
  obtain ⟨hs, hA, hB, _⟩ := f
  have hr := rt_sub h hs
  have hlen := hs.length_le
  rw [List.length_append] at hlen
  refine ⟨by rw [List.length_append, List.length_cons]; omega, fun x hx => ?_, ?_⟩
  · rcases List.mem_append.1 hx with hx | hx
    · exact hr.2.1 x (List.mem_append_left _ hx)
    · rcases List.mem_cons.1 hx with rfl | hx
      · exact ⟨ka, kv⟩
      · exact hr.2.1 x (List.mem_append_right _ hx)
  · obtain ⟨h1, h2, h3⟩ := List.pairwise_append.1 hr.2.2
    refine List.pairwise_append.2 ⟨h1, List.pairwise_cons.2 ⟨fun x hx => hB x hx, h2⟩, fun x hx y hy => ?_⟩
    rcases List.mem_cons.1 hy with rfl | hy
    · exact hA x hx
    · exact h3 x hx y hy
theorem lbN_at {A B : List S50} {x : S50} (h : Rt (A ++ x :: B)) : lbN (A ++ x :: B) x.f0 = A.length := by
  have hr := of_rt h
  have hlt : A.length < (A ++ x :: B).length := by simp
  have hx : key (A ++ x :: B) A.length = x.f0 := by unfold key; rw [gd _ _ hlt]; simp
  rcases Nat.lt_trichotomy (lbN (A ++ x :: B) x.f0) A.length with h1 | h1 | h1
  · have h2 := lbN_from hr x.f0 _ (Nat.le_refl _) (by omega)
    have h3 := right_lt hr h1 hlt
    rw [hx] at h3
    rw [h3] at h2
    cases h2
  · exact h1
  · have h2 := lbN_below hr x.f0 _ h1
    rw [hx, less_irrefl] at h2
    cases h2
theorem fd_at {A B : List S50} {x : S50} (h : Rt (A ++ x :: B)) : fdB (A ++ x :: B) x.f0 = true := by
  unfold fdB
  rw [lbN_at h, decide_eq_true (by simp), Bool.true_and, gd _ _ (by simp)]
  simp
theorem get_mem {l : List S50} {x : S50} (h : Rt l) (hx : x ∈ l) : getN l x.f0 = (x.f1, true) := by
  obtain ⟨A, B, rfl⟩ := List.append_of_mem hx
  unfold getN
  rw [if_pos (fd_at h), lbN_at h, gd _ _ (by simp)]
  simp
theorem fd_none {l : List S50} {a : ByteArray} (hn : ∀ x ∈ l, x.f0 ≠ a) : fdB l a = false := by
  rw [Bool.eq_false_iff]
  intro h
  have h1 := fdB_lt h
  have h2 := fdB_key h
  rw [gd _ _ h1] at h2
  exact hn _ (List.getElem_mem h1) h2
theorem get_none {l : List S50} {a : ByteArray} (hn : ∀ x ∈ l, x.f0 ≠ a) : getN l a = (⟨#[]⟩, false) := by
  unfold getN
  rw [fd_none hn]
  rfl
theorem drop_at {A B : List S50} {x : S50} (h : Rt (A ++ x :: B)) : dropN (A ++ x :: B) x.f0 = (A ++ B, 0) := by
  unfold dropN
  rw [if_pos (fd_at h), lbN_at h]
  simp
theorem put_form {l : List S50} (h : Rt l) (a v : ByteArray) (hl : l.length < 400) : ∃ A B, putN l a v = (A ++ ⟨a, v⟩ :: B, 0) ∧ Fits l a A B := by
  have hr := of_rt h
  have hle := lbN_le l a
  have hlow : ∀ x ∈ l.take (lbN l a), Op.bytesLess x.f0.toList a.toList = true := by
    intro x hx
    obtain ⟨i, hi, rfl⟩ := List.getElem_of_mem hx
    rw [List.length_take] at hi
    have := lbN_below hr a i (by omega)
    unfold key at this
    rw [gd l i (by omega)] at this
    rw [List.getElem_take]
    exact this
  by_cases hf : fdB l a = true
  · have hlt := fdB_lt hf
    have hk := fdB_key hf
    have hkl : l[lbN l a].f0 = a := by rw [← gd l _ hlt]; exact hk
    have hsplit : l = l.take (lbN l a) ++ l[lbN l a] :: l.drop (lbN l a + 1) := by rw [← List.drop_eq_getElem_cons hlt, List.take_append_drop]
    refine ⟨l.take (lbN l a), l.drop (lbN l a + 1), ?_, ?_, hlow, ?_, ?_⟩
    · unfold putN
      rw [if_pos hf, hk, List.set_eq_take_append_cons_drop, if_pos hlt]
    · conv => rhs; rw [hsplit]
      exact List.Sublist.append (List.Sublist.refl _) (List.sublist_cons_self _ _)
    · intro x hx
      have hp := h.2.2
      rw [hsplit] at hp
      have := (List.pairwise_cons.1 (List.pairwise_append.1 hp).2.1).1 x hx
      unfold Lt at this
      rw [hkl] at this
      exact this
    · intro x hx hne
      rw [hsplit] at hx
      rcases List.mem_append.1 hx with hx | hx
      · exact List.mem_append_left _ hx
      · rcases List.mem_cons.1 hx with rfl | hx
        · exact absurd hkl hne
        · exact List.mem_append_right _ hx
  · refine ⟨l.take (lbN l a), l.drop (lbN l a), ?_, ?_, hlow, ?_, ?_⟩
    · unfold putN
      rw [if_neg hf, if_neg (by omega)]
    · rw [List.take_append_drop]
      exact List.Sublist.refl _
    · intro x hx
      have hpd : (l.drop (lbN l a)).Pairwise Lt := h.2.2.sublist (List.drop_sublist _ _)
      obtain ⟨i, hi, rfl⟩ := List.getElem_of_mem hx
      rw [List.length_drop] at hi
      rw [List.getElem_drop]
      have h1 := lbN_from hr a (lbN l a + i) (by omega) (by omega)
      unfold key at h1
      rw [gd l _ (by omega)] at h1
      cases hc : Op.bytesLess a.toList l[lbN l a + i].f0.toList with
      | true => rfl
      | false =>
        have he := less_total h1 hc
        have h2 := lbN_from hr a (lbN l a) (Nat.le_refl _) (by omega)
        rcases Nat.eq_zero_or_pos i with h0 | h0
        · subst h0
          exfalso
          refine hf ?_
          rw [fdB_eq l a (by omega), gd l _ (by omega)]
          exact decide_eq_true he
        · have h3 := right_lt hr (show lbN l a < lbN l a + i by omega) (by omega)
          unfold key at h3 h2
          rw [gd l (lbN l a + i) (by omega), he] at h3
          rw [h3] at h2
          cases h2
    · intro x hx _
      rw [List.take_append_drop]
      exact hx
end Go.Proofs.Ytifkdlcalkccaaa.Pure

namespace Go.Proofs.Ytifkdlcalkccaaa.Pure
open Go.RowKit Go.Proofs.Ytifkdlcalkccaaa.S Go.Proofs.YtifkdlcalkccaaaW.PrintWords Go.Proofs.YtifkdlcalkccaaaW.PrintLast
set_option linter.unusedVariables false
def bytesOK (l : List Int) : Prop := ∀ x ∈ l, 0 ≤ x ∧ x ≤ 255
theorem rd_byte {l : List Int} (hl : bytesOK l) (i : Int) : 0 ≤ rd l i ∧ rd l i ≤ 255 := by
  unfold rd
  rw [List.getD_eq_getElem?_getD]
  cases h : l[i.toNat]? with
  | none => simp
  | some x =>
    obtain ⟨hi, rfl⟩ := List.getElem?_eq_some_iff.1 h
    simpa using hl _ (List.getElem_mem hi)
theorem dw (n : Int) (h0 : -9223372036854775808 ≤ n) (h1 : n ≤ 9223372036854775807) : wrap64 n = n := by unfold wrap64; omega
/-- A state of the reader that is far from the bounds. -/
def goodSt (a s : Int) : Prop := 0 ≤ a ∧ a ≤ 1000000000000 ∧ 0 ≤ s ∧ s < 2147483648
theorem byte_ok {l : List Int} (hl : bytesOK l) (hn : l.length ≤ 1152921504606846976) {a s : Int} (h0 : 0 ≤ a) (h1 : a < 1000000000000) (s0 : 0 ≤ s) (s1 : s < 2147483648) : ∃ r s', spec_l00Src_byte.f l a s = some (r, a + 1, s') ∧ 0 ≤ r ∧ r ≤ 255 ∧ 0 ≤ s' ∧ s' < 2147483648 := by
  unfold spec_l00Src_byte.f
  rw [dw (a + 1) (by omega) (by omega)]
  by_cases h : a + 1 ≤ (l.length : Int)
  · have hr := rd_byte hl a
    rw [if_pos h, dw (a + 1 - 1) (by omega) (by omega), show a + 1 - 1 = a by omega, if_pos h0, if_pos (by omega), dw (rd l a) (by omega) (by omega), dw (s * 31) (by omega) (by omega), dw (s * 31 + rd l a) (by omega) (by omega), dw (s * 31 + rd l a + 7) (by omega) (by omega), Int.tmod_eq_emod_of_nonneg (by omega)]
    exact ⟨_, _, rfl, hr.1, hr.2, by omega, by omega⟩
  · rw [if_neg h]
    by_cases h2 : a + 1 > 3000
    · rw [if_pos h2]
      exact ⟨_, _, rfl, by omega, by omega, s0, s1⟩
    · rw [if_neg h2, dw (s * 1103515245) (by omega) (by omega), dw (s * 1103515245 + 12345) (by omega) (by omega), Int.tmod_eq_emod_of_nonneg (show 0 ≤ s * 1103515245 + 12345 by omega), Int.tdiv_eq_ediv_of_nonneg (show 0 ≤ (s * 1103515245 + 12345) % 2147483648 by omega), dw ((s * 1103515245 + 12345) % 2147483648 / 65536) (by omega) (by omega), Int.tmod_eq_emod_of_nonneg (show 0 ≤ (s * 1103515245 + 12345) % 2147483648 / 65536 by omega)]
      exact ⟨_, _, rfl, by omega, by omega, by omega, by omega⟩
theorem next_ok {l : List Int} (hl : bytesOK l) (hn : l.length ≤ 1152921504606846976) {a s : Int} (n : Int) (hn1 : 1 < n) (h0 : 0 ≤ a) (h1 : a + 3 ≤ 1000000000000) (s0 : 0 ≤ s) (s1 : s < 2147483648) :
    ∃ r a' s', spec_l00Src_next.f l a s n = some (r, a', s') ∧ 0 ≤ r ∧ r < n ∧ a ≤ a' ∧ a' ≤ a + 3 ∧ 0 ≤ s' ∧ s' < 2147483648 := by
  unfold spec_l00Src_next.f
  rw [if_neg (by omega)]
  obtain ⟨r, s', e, r0, r1, s0', s1'⟩ := byte_ok hl hn h0 (by omega) s0 s1
  rw [e]
  simp only [Option.bind_some]
  by_cases h : n ≤ 256
  · rw [if_pos h, if_neg (by omega), Int.tmod_eq_emod_of_nonneg r0]
    exact ⟨_, _, _, rfl, Int.emod_nonneg _ (by omega), Int.emod_lt_of_pos _ (by omega), by omega, by omega, s0', s1'⟩
  · obtain ⟨r2, s2, e2, r20, r21, s20, s21⟩ := byte_ok hl hn (a := a + 1) (s := s') (by omega) (by omega) s0' s1'
    rw [if_neg h, e2]
    simp only [Option.bind_some]
    obtain ⟨r3, s3, e3, r30, r31, s30, s31⟩ := byte_ok hl hn (a := a + 1 + 1) (s := s2) (by omega) (by omega) s20 s21
    rw [e3]
    simp only [Option.bind_some]
    rw [if_neg (by omega), dw (r * 65536) (by omega) (by omega), dw (r2 * 256) (by omega) (by omega), dw (r * 65536 + r2 * 256) (by omega) (by omega), dw (r * 65536 + r2 * 256 + r3) (by omega) (by omega), Int.tmod_eq_emod_of_nonneg (by omega)]
    exact ⟨_, _, _, rfl, Int.emod_nonneg _ (by omega), Int.emod_lt_of_pos _ (by omega), by omega, by omega, s30, s31⟩
theorem pick_ok {l : List Int} (hl : bytesOK l) (hn : l.length ≤ 1152921504606846976) {a s : Int} (L : List ByteArray) (hL : 1 < L.length) (h0 : 0 ≤ a) (h1 : a + 3 ≤ 1000000000000) (s0 : 0 ≤ s) (s1 : s < 2147483648) :
    ∃ x a' s', spec_l00Src_pick.f l a s L = some (x, a', s') ∧ x ∈ L ∧ a ≤ a' ∧ a' ≤ a + 3 ∧ 0 ≤ s' ∧ s' < 2147483648 := by
  unfold spec_l00Src_pick.f
  obtain ⟨r, a', s', e, r0, r1, a0, a1, t0, t1⟩ := next_ok hl hn (L.length : Int) (by omega) h0 h1 s0 s1
  rw [if_neg (by omega), e]
  simp only [Option.bind_some]
  rw [if_pos r0, if_pos r1]
  refine ⟨_, _, _, rfl, ?_, a0, a1, t0, t1⟩
  have hlt : r.toNat < L.length := by omega
  rw [show rdOf ByteArray.empty L r = L[r.toNat] by unfold rdOf; rw [List.getD_eq_getElem?_getD, List.getElem?_eq_getElem hlt]; rfl]
  exact List.getElem_mem hlt
theorem key_ok {l : List Int} (hl : bytesOK l) (hn : l.length ≤ 1152921504606846976) {a s : Int} (h0 : 0 ≤ a) (h1 : a + 3 ≤ 1000000000000) (s0 : 0 ≤ s) (s1 : s < 2147483648) :
    ∃ x a' s', spec_l00Src_key.f l a s = some (x, a', s') ∧ keyB x = true ∧ a ≤ a' ∧ a' ≤ a + 3 ∧ 0 ≤ s' ∧ s' < 2147483648 := by
  unfold spec_l00Src_key.f
  obtain ⟨x, a', s', e, hx, r⟩ := pick_ok hl hn (a := a) (s := s) ([(⟨#[97]⟩ : ByteArray), (⟨#[98]⟩ : ByteArray), (⟨#[97, 98]⟩ : ByteArray), (⟨#[97, 98, 99]⟩ : ByteArray), (⟨#[98, 47, 120]⟩ : ByteArray), (⟨#[98, 47, 121]⟩ : ByteArray), (⟨#[99]⟩ : ByteArray), (⟨#[122]⟩ : ByteArray)] : List ByteArray) (by simp) h0 h1 s0 s1
  rw [e]
  refine ⟨x, a', s', rfl, ?_, r⟩
  simp only [List.mem_cons, List.not_mem_nil, or_false] at hx
  rcases hx with rfl | rfl | rfl | rfl | rfl | rfl | rfl | rfl <;> decide
theorem put_ok {l : List S50} (h : Rt l) (hl : l.length < 400) (a v : ByteArray) (ka : keyB a = true) (kv : valB v = true) (k : Nat) (hk : l.length < k) : ∃ m, spec_l03Put.f k l a v = some (m, 0) ∧ Rt m ∧ m.length ≤ l.length + 1 := by
  obtain ⟨A, B, hp, hf⟩ := put_form h a v hl
  have hle := lbN_le l a
  have hlen := putN_len l a v
  rw [hp] at hlen
  refine ⟨_, ?_, rt_ins v h hl hf ka kv, hlen⟩
  unfold spec_l03Put.f
  rw [spec_at l a (by omega) k hk, Option.bind_some, if_pos (by omega), Int.toNat_natCast, putT_eq, hp]
theorem store_ok {l : List Int} (hl : bytesOK l) (hn : l.length ≤ 1152921504606846976) (d : Nat) : ∀ (k : Nat) (acc : List S50) (a s : Int), d ≤ 20 → acc.length + d ≤ 20 → Rt acc → 0 ≤ a → a + 6 * d ≤ 100000 → 0 ≤ s → s < 2147483648 → d + 40 < k →
    ∃ xs a' s', spec_l00Src_store.l0 k acc (d : Int) l a s = some (xs, a', s') ∧ xs.length ≤ 20 ∧ Rt xs := by
  induction d with
  | zero =>
    intro k acc a s h5 hlen hacc h0 h1 s0 s1 hk
    obtain ⟨k, rfl⟩ : ∃ m, k = m + 1 := ⟨k - 1, by omega⟩
    simp only [spec_l00Src_store.l0]
    rw [if_neg (by omega)]
    simp only [Option.bind_some, List.length_nil, List.nil_append]
    rw [if_pos (by omega)]
    exact ⟨_, _, _, rfl, by omega, hacc⟩
  | succ d ih =>
    intro k acc a s h5 hlen hacc h0 h1 s0 s1 hk
    obtain ⟨k, rfl⟩ : ∃ m, k = m + 1 := ⟨k - 1, by omega⟩
    obtain ⟨x, a', s', e, hx, a0, a1, t0, t1⟩ := key_ok hl hn (a := a) (s := s) h0 (by omega) s0 s1
    obtain ⟨y, a2, s2, e2, hy, b0, b1, u0, u1⟩ := pick_ok hl hn (a := a') (s := s') ([(⟨#[]⟩ : ByteArray), (⟨#[49]⟩ : ByteArray), (⟨#[118, 97, 108, 117, 101]⟩ : ByteArray)] : List ByteArray) (by simp) (by omega) (by omega) t0 t1
    have hv : valB y = true := by
      simp only [List.mem_cons, List.not_mem_nil, or_false] at hy
      rcases hy with rfl | rfl | rfl <;> decide
    obtain ⟨m, e3, hm, hml⟩ := put_ok hacc (by omega) x y hx hv k (by omega)
    simp only [spec_l00Src_store.l0]
    rw [if_pos (by omega), e]
    simp only [Option.bind_some]
    rw [e2]
    simp only [Option.bind_some]
    rw [e3]
    simp only [Option.bind_some]
    rw [dw (((d + 1 : Nat) : Int) - 1) (by omega) (by omega), show ((d + 1 : Nat) : Int) - 1 = (d : Int) by omega]
    exact ih k m a2 s2 (by omega) (by omega) hm (by omega) (by omega) u0 u1 (by omega)
theorem rt_nil : Rt [] := ⟨by simp, by simp, List.Pairwise.nil⟩
theorem storeOf_ok {l : List Int} (hl : bytesOK l) (hn : l.length ≤ 1152921504606846976) (k : Nat) (hk : 60 < k) : ∃ xs, spec_StoreOf.f k l = some xs ∧ xs.length ≤ 20 ∧ Rt xs := by
  unfold spec_StoreOf.f spec_l00Source.f spec_l00Src_store.f
  simp only [Option.bind_some]
  obtain ⟨r, a', s', e, r0, r1, a0, a1, t0, t1⟩ := next_ok hl hn (a := 0) (s := (l.length : Int) % 1000) 10 (by omega) (by omega) (by omega) (by omega) (by omega)
  rw [e]
  simp only [Option.bind_some]
  obtain ⟨n, rfl⟩ := Int.eq_ofNat_of_zero_le r0
  obtain ⟨xs, a2, s2, e2, h1, h2⟩ := store_ok hl hn n k [] a' s' (by omega) (by simp; omega) rt_nil (by omega) (by omega) t0 t1 (by omega)
  rw [e2]
  exact ⟨xs, rfl, h1, h2⟩
theorem keyOf_ok {l : List Int} (hl : bytesOK l) (hn : l.length ≤ 1152921504606846976) : ∃ x, spec_KeyOf.f l = some x ∧ keyB x = true := by
  unfold spec_KeyOf.f spec_l00Source.f
  simp only [Option.bind_some]
  obtain ⟨x, a', s', e, hx, _⟩ := key_ok hl hn (a := 0) (s := (l.length : Int) % 1000) (by omega) (by omega) (by omega) (by omega)
  rw [e]
  exact ⟨x, rfl, hx⟩
theorem bytesOK_of {l : List Int} (h : ∀ x ∈ l, (Lit.int .u8 x).wf = true) : bytesOK l := by
  intro x hx
  have := h x hx
  simp [Lit.wf, IntKind.min, IntKind.max, IntKind.bits, IntKind.signed] at this
  omega
end Go.Proofs.Ytifkdlcalkccaaa.Pure
