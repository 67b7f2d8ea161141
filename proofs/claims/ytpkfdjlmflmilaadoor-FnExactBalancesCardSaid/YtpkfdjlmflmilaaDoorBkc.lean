/- A bank's amounts and codes: what both programs compute of a store, names and a key. -/
import Derived.Test.YtpkfdjlmflmilaaDoorQ3
import Derived.Test.YtpkfdjlmflmilaaDoorQ6
import Derived.Test.YtpkfdjlmflmilaaDoorStb
import Derived.Test.YtpkfdjlmflmilaaDoorRd
import Derived.Test.YtpkfdjlmflmilaaDoorName
namespace Go.Proofs.YtpkfdjlmflmilaaDoor.Pure
open Go.RowKit Go.Proofs.YtpkfdjlmflmilaaDoor.Q Go.Proofs.YtpkfdjlmflmilaaDoorW.PrintWords Go.Proofs.YtpkfdjlmflmilaaDoorW.PrintLast
set_option linter.unusedVariables false
open Dd (val isD)
/-- An account's or a denomination's name. -/
def nmB (a : ByteArray) : Bool := decide (a.size ≤ 12) && nameB a
theorem spec_nm (a : ByteArray) (k : Nat) (hk : 20 ≤ k) : spec_l05Name.f k a = some (nmB a) := by
  unfold spec_l05Name.f nmB
  by_cases h : a.size ≤ 12
  · rw [if_pos (by omega), spec_name a (by omega) k (by omega), decide_eq_true h, Bool.true_and]
    rfl
  · rw [if_neg (by omega), decide_eq_false h, Bool.false_and]
theorem impl_nm (a : ByteArray) (ha : a.size ≤ 65536) (k : Nat) (hk : 70000 ≤ k) : impl_DenomOK.f k a = some (nmB a) := by
  unfold impl_DenomOK.f nmB
  rw [impl_name a (by omega) k (by omega), Option.bind_some]
  have e : decide ((a.size : Int) ≤ 12) = decide (a.size ≤ 12) := by
    rw [Bool.eq_iff_iff]
    simp
    omega
  rw [e]
  cases nameB a
  · rw [if_neg (by decide), Bool.and_false]
  · rw [if_pos rfl, Bool.and_true]
theorem bk_rd (l : List ByteArray) (i : Nat) (h : i < l.length) : rdOf ByteArray.empty l (i : Int) = l[i] := by simp [rdOf, List.getD, List.getElem?_eq_getElem h]
theorem bk_l1 (ns : List ByteArray) (hl : ns.length ≤ 1000) (d : Nat) : ∀ (k i : Nat), ns.length - i = d → i ≤ ns.length → d + 30 < k → spec_l05Code.l1 k ns (i : Int) = some (if (ns.drop i).all nmB = true then 0 else 4) := by
  induction d with
  | zero =>
    intro k i hd hi hk
    obtain ⟨k, rfl⟩ : ∃ m, k = m + 1 := ⟨k - 1, by omega⟩
    simp only [spec_l05Code.l1]
    rw [if_neg (by omega), List.drop_of_length_le (by omega)]
    rfl
  | succ d ih =>
    intro k i hd hi hk
    obtain ⟨k, rfl⟩ : ∃ m, k = m + 1 := ⟨k - 1, by omega⟩
    have hlt : i < ns.length := by omega
    simp only [spec_l05Code.l1]
    rw [if_pos (by omega), if_pos (by omega), bk_rd ns i hlt, spec_nm _ k (by omega), Option.bind_some, w_succ i (by omega), ih k (i + 1) (by omega) (by omega) (by omega), List.drop_eq_getElem_cons hlt, List.all_cons]
    cases nmB ns[i]
    · rw [if_neg (by decide), Bool.false_and, if_neg (by decide)]
    · rw [if_pos rfl, Bool.true_and]
theorem bk_l0 (l : List S45) (hl : l.length ≤ 4096) (ns : List ByteArray) (hn : ns.length ≤ 1000) (hs : ∀ x ∈ ns, x.size ≤ 65536) (d : Nat) : ∀ (k i : Nat), ns.length - i = d → i ≤ ns.length → d + ns.length + 5000 < k →
    spec_l05Code.l0 k l ns (i : Int) = some (if rightB l = true then (if ns.all nmB = true then 0 else 4) else 1) := by
  induction d with
  | zero =>
    intro k i hd hi hk
    obtain ⟨k, rfl⟩ : ∃ m, k = m + 1 := ⟨k - 1, by omega⟩
    simp only [spec_l05Code.l0]
    have h1 := bk_l1 ns hn ns.length k 0 (by omega) (by omega) (by omega)
    rw [List.drop_zero, show ((0 : Nat) : Int) = 0 from rfl] at h1
    rw [if_neg (by omega), spec_ok l (by omega) k (by omega), Option.bind_some, h1]
    cases rightB l
    · rw [if_neg (by decide), if_neg (by decide)]
    · rw [if_pos rfl, if_pos rfl]
  | succ d ih =>
    intro k i hd hi hk
    obtain ⟨k, rfl⟩ : ∃ m, k = m + 1 := ⟨k - 1, by omega⟩
    have hlt : i < ns.length := by omega
    simp only [spec_l05Code.l0]
    have hx := hs _ (List.getElem_mem hlt)
    rw [if_pos (by omega), if_pos (by omega), bk_rd ns i hlt, if_neg (by omega), w_succ i (by omega), ih k (i + 1) (by omega) (by omega) (by omega)]
/-- The code of a store and of names that are no longer than texts. -/
def bkCode (l : List S45) (ns : List ByteArray) : Int := if l.length > 4096 then 2 else if rightB l = true then (if ns.all nmB = true then 0 else 4) else 1
theorem spec_bk (l : List S45) (ns : List ByteArray) (hn : ns.length ≤ 1000) (hs : ∀ x ∈ ns, x.size ≤ 65536) (k : Nat) (hk : 10000 < k) : spec_l05Code.f k l ns = some (bkCode l ns) := by
  unfold spec_l05Code.f bkCode
  by_cases h : l.length > 4096
  · rw [if_pos (by omega), if_pos h]
  · have h1 := bk_l0 l (by omega) ns hn hs ns.length k 0 (by omega) (by omega) (by omega)
    rw [show ((0 : Nat) : Int) = 0 from rfl] at h1
    rw [if_neg (by omega), if_neg h, h1]
theorem raT_range (t : ByteArray) : 0 ≤ (raT t).1 ∧ (raT t).1 ≤ 1000000000000000000 := by
  classical
  by_cases h : amT t
  · rw [raT_yes t h]
    have := h.2.2.2
    exact ⟨by show (0 : Int) ≤ ((val 0 t.data.toList : Nat) : Int); omega, by show ((val 0 t.data.toList : Nat) : Int) ≤ _; omega⟩
  · rw [raT_no t h]
    decide
/-- The amount that a text tells, read both ways. -/
theorem of_ra (t : ByteArray) (ht : t.size ≤ 65536) (k : Nat) (hk : 140000 ≤ k) : ∃ n, spec_l02Of.f k t = some n ∧ mx 0 n = (raT t).1 := by
  classical
  refine ⟨_, of_eq t ht k hk, ?_⟩
  by_cases h2 : amT t
  · rw [if_pos h2, raT_yes _ h2]
    unfold mx
    show _ = ((val 0 t.data.toList : Nat) : Int)
    split <;> omega
  · rw [if_neg h2, raT_no _ h2]
    rfl
theorem bk_zero {l : List S45} {ns : List ByteArray} (h : bkCode l ns = 0) : rightB l = true ∧ ns.all nmB = true := by
  unfold bkCode at h
  split at h
  · exact absurd h (by decide)
  · split at h
    · rename_i h1
      split at h
      · rename_i h2
        exact ⟨h1, h2⟩
      · exact absurd h (by decide)
    · exact absurd h (by decide)
theorem nm_size {a : ByteArray} (h : nmB a = true) : a.size ≤ 12 := by
  unfold nmB at h
  rw [Bool.and_eq_true] at h
  exact of_decide_eq_true h.1
end Go.Proofs.YtpkfdjlmflmilaaDoor.Pure
