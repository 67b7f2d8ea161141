/- What the laws' own functions over pairs compute: sizes, copies, comparison, marks. -/
import Derived.Test.YtpkfdjlmflmilaaDoorQ1
import Derived.Lib.Strings
import Derived.WideShapes
namespace Go.Proofs.YtpkfdjlmflmilaaDoor.Pure
open Go.RowKit Go.Proofs.YtpkfdjlmflmilaaDoor.Q Go.Proofs.YtpkfdjlmflmilaaDoorW.PrintWords Go.Proofs.YtpkfdjlmflmilaaDoorW.PrintLast
set_option linter.unusedVariables false

theorem list_inj {a b : ByteArray} (h : a.toList = b.toList) : a = b := Go.WideShapes.bytes_inj (by rw [← Lib.toList_data, ← Lib.toList_data]; exact h)
theorem list_iff {a b : ByteArray} : a.toList = b.toList ↔ a = b := ⟨list_inj, fun h => by rw [h]⟩
theorem up64 {i n : Nat} (h : i < n) (hn : n ≤ 9223372036854775807) : wrap64 ((i : Int) + 1) = ((i + 1 : Nat) : Int) := by unfold wrap64; omega
noncomputable instance decP : DecidableEq S45 := fun a b => Classical.propDecidable (a = b)
def cv (x : S40) : S45 := ⟨x.f0, x.f1⟩
def wfP (x : S40) : Prop := x.f0.size ≤ 9223372036854775807 ∧ x.f1.size ≤ 9223372036854775807

/-! ### sizes: an answer, and where it is not negative the list is short -/
theorem szPair_some (a b : ByteArray) (n : Int) (ha : a.size ≤ 9223372036854775807) (hb : b.size ≤ 9223372036854775807) (h0 : 0 ≤ n) (h1 : n ≤ 1048576) :
    ∃ r, laws_szPair.f a b n = some r ∧ (0 ≤ r → r ≤ n ∧ (a.size : Int) + b.size ≤ n - r) := by
  unfold laws_szPair.f
  have e1 : wrap64 (n - (a.size : Int)) = n - a.size := by unfold wrap64; omega
  rw [e1]
  by_cases h : n - (a.size : Int) < 0
  · rw [if_pos h]; exact ⟨-1, rfl, fun h => by omega⟩
  · have e2 : wrap64 (n - (a.size : Int) - (b.size : Int)) = n - a.size - b.size := by unfold wrap64; omega
    rw [if_neg h, e2]
    by_cases h' : n - (a.size : Int) - (b.size : Int) < 0
    · rw [if_pos h']; exact ⟨-1, rfl, fun h => by omega⟩
    · rw [if_neg h']; exact ⟨_, rfl, fun _ => by omega⟩
theorem szPairS_l0 (l : List S40) (hw : ∀ x ∈ l, wfP x) (hl : l.length ≤ 9223372036854775807) (d : Nat) : ∀ (i : Nat) (n : Int), l.length - i = d → 0 ≤ n → n ≤ 1048576 →
    ∃ r, ∀ k, d < k → laws_szPairS.l0 k l n (i : Int) = some r := by
  induction d with
  | zero =>
    intro i n hd h0 h1
    refine ⟨n, fun k hk => ?_⟩
    obtain ⟨k, rfl⟩ : ∃ m, k = m + 1 := ⟨k - 1, by omega⟩
    simp only [laws_szPairS.l0]
    rw [if_neg (by omega)]
  | succ d ih =>
    intro i n hd h0 h1
    have hlt : i < l.length := by omega
    have hx : wfP (rd_T40 l (i : Int)) := by
      have : rd_T40 l (i : Int) = l[i] := by simp [rd_T40, List.getD, List.getElem?_eq_getElem hlt]
      rw [this]; exact hw _ (List.getElem_mem hlt)
    obtain ⟨r, hr, hr'⟩ := szPair_some _ _ n hx.1 hx.2 h0 h1
    by_cases h : r < 0
    · refine ⟨-1, fun k hk => ?_⟩
      obtain ⟨k, rfl⟩ : ∃ m, k = m + 1 := ⟨k - 1, by omega⟩
      simp only [laws_szPairS.l0]
      rw [if_pos (by omega), if_pos (by omega), hr]
      simp only [Option.bind_some]
      rw [if_pos h]
    · obtain ⟨r', h'⟩ := ih (i + 1) r (by omega) (by omega) (by have := hr' (by omega); omega)
      refine ⟨r', fun k hk => ?_⟩
      obtain ⟨k, rfl⟩ : ∃ m, k = m + 1 := ⟨k - 1, by omega⟩
      simp only [laws_szPairS.l0]
      rw [if_pos (by omega), if_pos (by omega), hr]
      simp only [Option.bind_some]
      rw [if_neg h, up64 hlt hl]
      exact h' k (by omega)
theorem szPairS_eq (l : List S40) (hw : ∀ x ∈ l, wfP x) (hl : l.length ≤ 9223372036854775807) : ∃ r, (∀ k, l.length < k → laws_szPairS.f k l 1048576 = some r) ∧ (0 ≤ r → l.length ≤ 1048576) := by
  have e1 : wrap64 (1048576 - (l.length : Int)) = 1048576 - l.length := by unfold wrap64; omega
  unfold laws_szPairS.f
  rw [e1]
  by_cases h : 1048576 - (l.length : Int) < 0
  · exact ⟨-1, fun k _ => by rw [if_pos h], fun h => by omega⟩
  · obtain ⟨r, hr⟩ := szPairS_l0 l hw hl l.length 0 (1048576 - l.length) (by omega) (by omega) (by omega)
    exact ⟨r, fun k hk => by rw [if_neg h]; exact hr k hk, fun _ => by omega⟩

/-! ### copies -/
theorem toPairS_l0 (l : List S40) (hl : l.length ≤ 9223372036854775807) (d : Nat) : ∀ (k i : Nat) (acc : List S45), l.length - i = d → acc.length = l.length → acc.take i = (l.take i).map cv → i ≤ l.length → d < k →
    laws_toPairS.l0 k l acc (i : Int) = some (l.map cv) := by
  induction d with
  | zero =>
    intro k i acc hd hal ht hi hk
    obtain ⟨k, rfl⟩ : ∃ m, k = m + 1 := ⟨k - 1, by omega⟩
    have : i = l.length := by omega
    subst this
    simp only [laws_toPairS.l0]
    rw [if_neg (by omega)]
    rw [List.take_of_length_le (by omega), List.take_of_length_le (by omega)] at ht
    rw [ht]
  | succ d ih =>
    intro k i acc hd hal ht hi hk
    obtain ⟨k, rfl⟩ : ∃ m, k = m + 1 := ⟨k - 1, by omega⟩
    have hlt : i < l.length := by omega
    simp only [laws_toPairS.l0, laws_toPair.f, Option.bind_some]
    rw [if_pos (by omega), if_pos (by omega), if_pos (by omega), up64 hlt hl, Int.toNat_natCast]
    refine ih k (i + 1) _ (by omega) (by rw [List.length_set]; exact hal) ?_ (by omega) (by omega)
    have hr : rd_T40 l (i : Int) = l[i] := by simp [rd_T40, List.getD, List.getElem?_eq_getElem hlt]
    rw [hr, List.take_succ_eq_append_getElem (by rw [List.length_set]; omega), List.take_succ_eq_append_getElem hlt, List.map_append, List.getElem_set_self, List.take_set_of_le (Nat.le_refl i), ht]
    rfl
theorem toPairS_eq (l : List S40) (hl : l.length ≤ 1048576) (k : Nat) (hk : l.length < k) : laws_toPairS.f k l = some (l.map cv) := by
  unfold laws_toPairS.f
  rw [if_pos (by omega), Int.toNat_natCast, if_pos (by omega)]
  exact toPairS_l0 l (by omega) l.length k 0 _ (by omega) (by simp) (by simp) (by omega) hk

/-! ### comparison -/
theorem eqPair_eq (a b c d : ByteArray) : laws_eqPair.f a b c d = some (decide (a = c ∧ b = d)) := by
  unfold laws_eqPair.f
  simp only [list_iff]
  by_cases h : a = c <;> by_cases h' : b = d <;> simp [h, h']
theorem eqPairS_l0 (x y : List S45) (hxy : x.length = y.length) (hl : x.length ≤ 9223372036854775807) (d : Nat) : ∀ (k i : Nat), x.length - i = d → d < k → laws_eqPairS.l0 k x y (i : Int) = some (decide (x.drop i = y.drop i)) := by
  induction d with
  | zero =>
    intro k i hd hk
    obtain ⟨k, rfl⟩ : ∃ m, k = m + 1 := ⟨k - 1, by omega⟩
    simp only [laws_eqPairS.l0]
    rw [if_neg (by omega), List.drop_of_length_le (by omega), List.drop_of_length_le (by omega)]
    simp
  | succ d ih =>
    intro k i hd hk
    obtain ⟨k, rfl⟩ : ∃ m, k = m + 1 := ⟨k - 1, by omega⟩
    have hlt : i < x.length := by omega
    have hlt' : i < y.length := by omega
    have hx : rd_T45 x (i : Int) = x[i] := by simp [rd_T45, List.getD, List.getElem?_eq_getElem hlt]
    have hy : rd_T45 y (i : Int) = y[i] := by simp [rd_T45, List.getD, List.getElem?_eq_getElem hlt']
    simp only [laws_eqPairS.l0, eqPair_eq, Option.bind_some]
    rw [if_pos (by omega), if_pos (by omega), if_pos (by omega), up64 hlt hl, hx, hy, ih k (i + 1) (by omega) (by omega), List.drop_eq_getElem_cons hlt, List.drop_eq_getElem_cons hlt']
    have he : (x[i].f0 = y[i].f0 ∧ x[i].f1 = y[i].f1) ↔ x[i] = y[i] := by
      constructor
      · intro ⟨h0, h1⟩
        generalize x[i] = u at h0 h1
        generalize y[i] = v at h0 h1
        obtain ⟨u0, u1⟩ := u
        obtain ⟨v0, v1⟩ := v
        simp only at h0 h1
        rw [h0, h1]
      · intro h; rw [h]; exact ⟨rfl, rfl⟩
    by_cases h : x[i] = y[i]
    · rw [if_pos (by rw [decide_eq_true (he.2 h)])]
      congr 1
      rw [decide_eq_decide, h]
      exact ⟨fun e => by rw [e], fun e => (List.cons.inj e).2⟩
    · rw [if_neg (by rw [decide_eq_false (fun hh => h (he.1 hh))]; simp), decide_eq_false (fun e => h (List.cons.inj e).1)]
theorem eqPairS_eq (x y : List S45) (hl : x.length ≤ 9223372036854775807) (k : Nat) (hk : x.length < k) : laws_eqPairS.f k x y = some (decide (x = y)) := by
  unfold laws_eqPairS.f
  by_cases h : x.length = y.length
  · rw [if_pos (by rw [h])]
    have := eqPairS_l0 x y h hl x.length k 0 (by omega) hk
    simpa using this
  · rw [if_neg (by omega), decide_eq_false (fun e => h (by rw [e]))]
end Go.Proofs.YtpkfdjlmflmilaaDoor.Pure
