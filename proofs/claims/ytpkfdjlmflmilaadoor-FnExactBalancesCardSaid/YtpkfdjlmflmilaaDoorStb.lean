/- What the store's functions compute: a right store, the place of a key, the pairs that begin so. -/
import Derived.Test.YtpkfdjlmflmilaaDoorQ2
import Derived.Test.YtpkfdjlmflmilaaDoorQ4
import Derived.Test.YtpkfdjlmflmilaaDoorQ6
import Derived.Test.YtpkfdjlmflmilaaDoorE1
import Derived.Test.YtpkfdjlmflmilaaDoorE3
import Derived.Test.YtpkfdjlmflmilaaDoorE4
import Derived.Test.YtpkfdjlmflmilaaDoorPl
namespace Go.Proofs.YtpkfdjlmflmilaaDoor.Pure
open Go.RowKit Go.Proofs.YtpkfdjlmflmilaaDoor.Q Go.Proofs.YtpkfdjlmflmilaaDoorW.PrintWords Go.Proofs.YtpkfdjlmflmilaaDoorW.PrintLast
set_option linter.unusedVariables false

/-! ### the order of texts -/
theorem less_irrefl : ∀ a : List UInt8, Op.bytesLess a a = false
  | [] => rfl
  | a :: x => by unfold Op.bytesLess; simp [less_irrefl x]
theorem less_trans : ∀ {a b c : List UInt8}, Op.bytesLess a b = true → Op.bytesLess b c = true → Op.bytesLess a c = true
  | _, _, [], _, h => by cases ‹List UInt8› <;> simp [Op.bytesLess] at h
  | _, [], _ :: _, h, _ => by cases ‹List UInt8› <;> simp [Op.bytesLess] at h
  | [], _ :: _, _ :: _, _, _ => rfl
  | a :: x, b :: y, c :: z, h, h' => by
    unfold Op.bytesLess at h h' ⊢
    simp only [Bool.or_eq_true, Bool.and_eq_true, decide_eq_true_eq, beq_iff_eq] at h h' ⊢
    rcases h with h | ⟨rfl, h⟩
    · rcases h' with h' | ⟨rfl, h'⟩
      · exact .inl (UInt8.lt_trans h h')
      · exact .inl h
    · rcases h' with h' | ⟨rfl, h'⟩
      · exact .inl h'
      · exact .inr ⟨rfl, less_trans h h'⟩
theorem less_total : ∀ {a b : List UInt8}, Op.bytesLess a b = false → Op.bytesLess b a = false → a = b
  | [], [], _, _ => rfl
  | [], _ :: _, h, _ => by simp [Op.bytesLess] at h
  | _ :: _, [], _, h => by simp [Op.bytesLess] at h
  | a :: x, b :: y, h, h' => by
    unfold Op.bytesLess at h h'
    simp only [Bool.or_eq_false_iff, Bool.and_eq_false_iff, decide_eq_false_iff_not, beq_eq_false_iff_ne] at h h'
    have e : a = b := UInt8.le_antisymm (UInt8.not_lt.1 h'.1) (UInt8.not_lt.1 h.1)
    subst e
    have h1 : Op.bytesLess x y = false := by rcases h.2 with h2 | h2; exact absurd rfl h2; exact h2
    have h2 : Op.bytesLess y x = false := by rcases h'.2 with h2 | h2; exact absurd rfl h2; exact h2
    rw [less_total h1 h2]
/-- What begins with p is not below p. -/
theorem prefix_not_less : ∀ {p a : List UInt8}, p <+: a → Op.bytesLess a p = false
  | [], a, _ => by cases a <;> rfl
  | p :: q, [], h => by simp at h
  | p :: q, a :: x, h => by
    obtain ⟨e, h'⟩ := List.cons_prefix_cons.1 h
    subst e
    unfold Op.bytesLess
    simp [prefix_not_less h']
/-- What lies between p and something that begins with p begins with p. -/
theorem prefix_between : ∀ {p a b : List UInt8}, Op.bytesLess a p = false → Op.bytesLess a b = true → p <+: b → p <+: a
  | [], _, _, _, _, _ => List.nil_prefix
  | p :: q, [], _, h, _, _ => by simp [Op.bytesLess] at h
  | p :: q, a :: x, [], _, _, h => by simp at h
  | p :: q, a :: x, b :: y, h, h1, h2 => by
    obtain ⟨e, h3⟩ := List.cons_prefix_cons.1 h2
    subst e
    unfold Op.bytesLess at h h1
    simp only [Bool.or_eq_false_iff, Bool.and_eq_false_iff, decide_eq_false_iff_not, beq_eq_false_iff_ne] at h
    simp only [Bool.or_eq_true, Bool.and_eq_true, decide_eq_true_eq, beq_iff_eq] at h1
    have e : a = p := by
      rcases h1 with h1 | ⟨h1, _⟩
      · exact absurd h1 h.1
      · exact h1
    subst e
    have h4 : Op.bytesLess x q = false := by rcases h.2 with h5 | h5; exact absurd rfl h5; exact h5
    have h5 : Op.bytesLess x y = true := by
      rcases h1 with h1 | ⟨_, h1⟩
      · exact absurd h1 (UInt8.lt_irrefl a)
      · exact h1
    exact List.cons_prefix_cons.2 ⟨rfl, prefix_between h4 h5 h3⟩

/-! ### a right store -/
abbrev key (l : List S45) (i : Nat) : ByteArray := (l.getD i z45).f0
def fromB (l : List S45) (i : Nat) : Bool := (List.range (l.length - i)).all fun j => pairB l (i + j)
theorem fromB_end (l : List S45) (i : Nat) (h : l.length ≤ i) : fromB l i = true := by
  unfold fromB
  rw [show l.length - i = 0 by omega]
  rfl
theorem fromB_step (l : List S45) (i : Nat) (h : i < l.length) : fromB l i = (pairB l i && fromB l (i + 1)) := by
  unfold fromB
  rw [show l.length - i = (l.length - (i + 1)) + 1 by omega, List.range_succ_eq_map, List.all_cons, List.all_map]
  congr 1
  apply List.all_congr rfl
  intro x
  simp only [Function.comp]
  congr 1
  omega
theorem rightB_from (l : List S45) : rightB l = (fromB l 0 && decide (l.length ≤ 400)) := by
  unfold rightB fromB
  congr 1
  rw [Nat.sub_zero]
  apply List.all_congr rfl
  intro x
  rw [Nat.zero_add]
theorem right_pair {l : List S45} (h : rightB l = true) (i : Nat) (hi : i < l.length) : pairB l i = true := by
  unfold rightB at h
  rw [Bool.and_eq_true] at h
  exact List.all_eq_true.1 h.1 i (List.mem_range.2 hi)
theorem right_len {l : List S45} (h : rightB l = true) : l.length ≤ 400 := by
  unfold rightB at h
  rw [Bool.and_eq_true] at h
  exact of_decide_eq_true h.2
theorem right_key {l : List S45} (h : rightB l = true) (i : Nat) (hi : i < l.length) : keyB (key l i) = true ∧ valB (l.getD i z45).f1 = true := by
  have := right_pair h i hi
  unfold pairB at this
  simp only [Bool.and_eq_true] at this
  exact ⟨this.1, this.2.1⟩
theorem right_step {l : List S45} (h : rightB l = true) (i : Nat) (hi : i + 1 < l.length) : Op.bytesLess (key l i).toList (key l (i + 1)).toList = true := by
  have := right_pair h (i + 1) hi
  unfold pairB riseB at this
  simp only [Bool.and_eq_true, Bool.or_eq_true, decide_eq_true_eq, Nat.add_sub_cancel] at this
  rcases this.2.2 with h | h
  · omega
  · exact h
theorem right_rise {l : List S45} (h : rightB l = true) (d : Nat) : ∀ i, i + d + 1 < l.length → Op.bytesLess (key l i).toList (key l (i + d + 1)).toList = true := by
  induction d with
  | zero => intro i hi; exact right_step h i hi
  | succ d ih => intro i hi; exact less_trans (ih i (by omega)) (right_step h (i + d + 1) hi)
theorem right_lt {l : List S45} (h : rightB l = true) {i j : Nat} (hij : i < j) (hj : j < l.length) : Op.bytesLess (key l i).toList (key l j).toList = true := by
  have := right_rise h (j - i - 1) i (by omega)
  rwa [show i + (j - i - 1) + 1 = j by omega] at this
theorem spec_in (n a b : Int) : spec_l01In.f n a b = some (decide (a ≤ n) && decide (n ≤ b)) := by
  unfold spec_l01In.f
  by_cases h : n ≥ a
  · rw [if_pos h, decide_eq_true (show a ≤ n from h), Bool.true_and]
  · rw [if_neg h, decide_eq_false (show ¬ a ≤ n from h), Bool.false_and]
theorem spec_key (s : ByteArray) : spec_l03Key.f s = some (keyB s) := by
  unfold spec_l03Key.f keyB
  rw [spec_in]
  simp only [Option.bind_some, Option.some.injEq]
  congr 1 <;> (rw [decide_eq_decide]; omega)
theorem spec_pair (s t : ByteArray) : spec_l03Pair.f s t = some (keyB s && valB t) := by
  unfold spec_l03Pair.f valB
  rw [spec_key]
  have : decide ((t.size : Int) ≤ 1000) = decide (t.size ≤ 1000) := by rw [decide_eq_decide]; omega
  simp only [Option.bind_some, this]
  cases keyB s <;> simp
theorem down64 {i : Nat} (h : 0 < i) (hi : i ≤ 9223372036854775807) : wrap64 ((i : Int) - 1) = ((i - 1 : Nat) : Int) := by unfold wrap64; omega
theorem spec_ok_l0 (l : List S45) (hl : l.length ≤ 9223372036854775807) (d : Nat) : ∀ (k i : Nat), l.length - i = d → d < k → spec_StoreOK.l0 k l (i : Int) = some (fromB l i) := by
  induction d with
  | zero =>
    intro k i hd hk
    obtain ⟨k, rfl⟩ : ∃ m, k = m + 1 := ⟨k - 1, by omega⟩
    simp only [spec_StoreOK.l0]
    rw [if_neg (by omega), fromB_end l i (by omega)]
  | succ d ih =>
    intro k i hd hk
    obtain ⟨k, rfl⟩ : ∃ m, k = m + 1 := ⟨k - 1, by omega⟩
    have hlt : i < l.length := by omega
    have h := ih k (i + 1) (by omega) (by omega)
    simp only [spec_StoreOK.l0, spec_pair, Option.bind_some]
    rw [if_pos (by omega), if_pos (by omega), up64 hlt hl, h, fromB_step l i hlt]
    unfold pairB riseB
    have hr : rd_T45 l (i : Int) = l.getD i z45 := by simp [rd_T45]
    rw [hr]
    cases hk' : (keyB (l.getD i z45).f0 && valB (l.getD i z45).f1) with
    | false => rw [← Bool.and_assoc, hk']; simp
    | true =>
      rw [← Bool.and_assoc, hk', if_pos rfl, Bool.true_and]
      by_cases h0 : i = 0
      · subst h0; simp
      · rw [if_pos (by omega), down64 (by omega) (by omega), if_pos (by omega), if_pos (by omega), show rd_T45 l ((i - 1 : Nat) : Int) = l.getD (i - 1) z45 by simp [rd_T45], decide_eq_false h0, Bool.false_or]
        cases Op.bytesLess (l.getD (i - 1) z45).f0.toList (l.getD i z45).f0.toList <;> simp
theorem spec_ok (l : List S45) (hl : l.length ≤ 9223372036854775807) (k : Nat) (hk : l.length < k) : spec_StoreOK.f k l = some (rightB l) := by
  unfold spec_StoreOK.f
  rw [rightB_from]
  by_cases h1 : (l.length : Int) > 4096
  · rw [if_pos h1, decide_eq_false (show ¬ l.length ≤ 400 by omega), Bool.and_false]
  · rw [if_neg h1]
    by_cases h2 : (l.length : Int) > 400
    · rw [if_pos h2, decide_eq_false (show ¬ l.length ≤ 400 by omega), Bool.and_false]
    · have := spec_ok_l0 l hl l.length k 0 (by omega) hk
      rw [if_neg h2, decide_eq_true (show l.length ≤ 400 by omega), Bool.and_true]
      exact this

/-! ### the place of a key -/
theorem w_sum (i j : Nat) (h : i + j ≤ 9223372036854775807) : wrap64 ((i : Int) + (j : Int)) = ((i + j : Nat) : Int) := by unfold wrap64; omega
theorem w_nat (n : Nat) (h : n ≤ 9223372036854775807) : wrap64 (n : Int) = (n : Int) := by unfold wrap64; omega
theorem w_succ (n : Nat) (h : n < 9223372036854775807) : wrap64 ((n : Int) + 1) = ((n + 1 : Nat) : Int) := by unfold wrap64; omega
theorem t_half (n : Nat) : Int.tdiv ((n : Nat) : Int) 2 = ((n / 2 : Nat) : Int) := by rw [Int.tdiv_eq_ediv_of_nonneg (by omega)]; omega
theorem spec_at_l0 (l : List S45) (a : ByteArray) (hl : l.length ≤ 4611686018427387904) (f : Nat) : ∀ (k i j : Nat), i ≤ j → j ≤ l.length → j - i ≤ f → f < k → spec_l03At.l0 k l a (i : Int) (j : Int) = some ((lbF l a f i j : Nat) : Int) := by
  induction f with
  | zero =>
    intro k i j hij hj hf hk
    obtain ⟨k, rfl⟩ : ∃ m, k = m + 1 := ⟨k - 1, by omega⟩
    simp only [spec_l03At.l0]
    rw [if_neg (by omega)]
    rfl
  | succ f ih =>
    intro k i j hij hj hf hk
    obtain ⟨k, rfl⟩ : ∃ m, k = m + 1 := ⟨k - 1, by omega⟩
    simp only [spec_l03At.l0, lbF]
    by_cases hlt : i < j
    · have hs : i + j ≤ 9223372036854775807 := by omega
      have h3 : (i + j) / 2 < 9223372036854775807 := by omega
      have p1 : (i : Int) < (j : Int) := by omega
      have p2 : (0 : Int) ≤ (((i + j) / 2 : Nat) : Int) := by omega
      have p3 : (((i + j) / 2 : Nat) : Int) < (l.length : Int) := by omega
      rw [w_sum i j hs, t_half (i + j), w_nat ((i + j) / 2) (Nat.le_of_lt h3), w_succ ((i + j) / 2) h3, if_pos p1, if_pos p2, if_pos p3, if_pos hlt]
      have hr : rd_T45 l (((i + j) / 2 : Nat) : Int) = l.getD ((i + j) / 2) z45 := by simp only [rd_T45, Int.toNat_natCast]
      rw [hr, Lib.toList_data, Lib.toList_data]
      by_cases hc : Op.bytesLess (l.getD ((i + j) / 2) z45).f0.data.toList a.data.toList = true
      · rw [if_pos hc, if_pos hc]; exact ih k _ _ (by omega) (by omega) (by omega) (by omega)
      · rw [if_neg hc, if_neg hc]; exact ih k _ _ (by omega) (by omega) (by omega) (by omega)
    · rw [if_neg (by omega), if_neg hlt]
theorem spec_at (l : List S45) (a : ByteArray) (hl : l.length ≤ 4611686018427387904) (k : Nat) (hk : l.length < k) : spec_l03At.f k l a = some ((lbN l a : Nat) : Int) := by
  unfold spec_l03At.f lbN
  exact spec_at_l0 l a hl l.length k 0 l.length (by omega) (by omega) (by omega) hk
theorem lbN_le (l : List S45) (a : ByteArray) : lbN l a ≤ l.length := lbF_le l a l.length 0 l.length (Nat.zero_le _)
/-- Of a rising list: what stands ahead is below, what stands from there on is not. -/
theorem lbF_spec {l : List S45} (hr : rightB l = true) (a : ByteArray) (f : Nat) : ∀ i j, i ≤ j → j ≤ l.length → j - i ≤ f → (∀ x, x < i → Op.bytesLess (key l x).toList a.toList = true) → (∀ x, j ≤ x → x < l.length → Op.bytesLess (key l x).toList a.toList = false) →
    (∀ x, x < lbF l a f i j → Op.bytesLess (key l x).toList a.toList = true) ∧ (∀ x, lbF l a f i j ≤ x → x < l.length → Op.bytesLess (key l x).toList a.toList = false) := by
  induction f with
  | zero =>
    intro i j hij hj hf h1 h2
    have : i = j := by omega
    subst this
    exact ⟨h1, h2⟩
  | succ f ih =>
    intro i j hij hj hf h1 h2
    unfold lbF
    by_cases hlt : i < j
    · rw [if_pos hlt]
      by_cases hc : Op.bytesLess (l.getD ((i + j) / 2) z45).f0.data.toList a.data.toList = true
      · rw [if_pos hc]
        rw [← Lib.toList_data, ← Lib.toList_data] at hc
        refine ih _ _ (by omega) (by omega) (by omega) (fun x hx => ?_) h2
        by_cases e : x = (i + j) / 2
        · rw [e]; exact hc
        · exact less_trans (right_lt hr (show x < (i + j) / 2 by omega) (by omega)) hc
      · rw [if_neg hc]
        rw [← Lib.toList_data, ← Lib.toList_data] at hc
        refine ih _ _ (by omega) (by omega) (by omega) h1 (fun x hx hx' => ?_)
        by_cases e : x = (i + j) / 2
        · rw [e]; exact Bool.eq_false_iff.2 hc
        · rw [Bool.eq_false_iff]
          intro hh
          exact hc (less_trans (right_lt hr (show (i + j) / 2 < x by omega) hx') hh)
    · rw [if_neg hlt]
      have : i = j := by omega
      subst this
      exact ⟨h1, h2⟩
theorem lbN_below {l : List S45} (hr : rightB l = true) (a : ByteArray) (x : Nat) (h : x < lbN l a) : Op.bytesLess (key l x).toList a.toList = true :=
  (lbF_spec hr a l.length 0 l.length (by omega) (by omega) (by omega) (fun x h => absurd h (Nat.not_lt_zero _)) (fun x h h' => by omega)).1 x h
theorem lbN_from {l : List S45} (hr : rightB l = true) (a : ByteArray) (x : Nat) (h : lbN l a ≤ x) (h' : x < l.length) : Op.bytesLess (key l x).toList a.toList = false :=
  (lbF_spec hr a l.length 0 l.length (by omega) (by omega) (by omega) (fun x h => absurd h (Nat.not_lt_zero _)) (fun x h h' => by omega)).2 x h h'

/-! ### the codes -/
theorem impl_key (s : ByteArray) : impl_isKey.f s = some (keyB s) := by
  unfold impl_isKey.f keyB impl_within.f
  by_cases h : (s.size : Int) ≥ 1
  · rw [if_pos h]; simp only [Option.bind_some, Option.some.injEq]; rw [decide_eq_true (show 1 ≤ s.size by omega), Bool.true_and, decide_eq_decide]; omega
  · rw [if_neg h]; simp only [Option.bind_some, Option.some.injEq]; rw [decide_eq_false (show ¬ 1 ≤ s.size by omega), Bool.false_and]
def codeN (l : List S45) (long : Bool) : Int := if l.length > 4096 ∨ long = true then 2 else if rightB l = true then 0 else 1
theorem impl_code (l : List S45) (ts : List ByteArray) (k : Nat) (hk : 1 < k) : impl_storeCode.f k l ts = some (codeN l (ts.any fun x => decide (65536 < (x.size : Int)))) := by
  obtain ⟨k, rfl⟩ : ∃ m, k = m + 1 := ⟨k - 1, by omega⟩
  unfold impl_storeCode.f codeN impl_isText.f
  generalize ts.any (fun x => decide (65536 < (x.size : Int))) = b
  simp only [Option.bind_some]
  unfold impl_Pair.f
  by_cases h : l.length > 4096
  · rw [decide_eq_false (show ¬ (l.length : Int) ≤ 4096 by omega)]
    simp [impl_storeCode.j0, h]
  · rw [decide_eq_true (show (l.length : Int) ≤ 4096 by omega)]
    cases b with
    | true => simp [impl_storeCode.j0]
    | false =>
      simp only [Option.bind_some, if_true, Bool.not_false, Bool.not_true, impl_storeCode.j0, impl_StoreOK.f]
      have hn : ¬ (l.length > 4096 ∨ false = true) := by simp; omega
      rw [if_neg hn]
      cases rightB l <;> simp
end Go.Proofs.YtpkfdjlmflmilaaDoor.Pure
