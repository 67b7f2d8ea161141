/- The pure statement of the law FnExactBalanceOf: what its functions compute answers as the law says. -/
import Derived.Test.YtpkfdjlmflmilaaDoorDefFnExactBalanceOf
import Derived.Test.YtpkfdjlmflmilaaDoorBk
namespace Go.Proofs.YtpkfdjlmflmilaaDoor.Pure
open Go.RowKit Go.Proofs.YtpkfdjlmflmilaaDoor.Q Go.Proofs.YtpkfdjlmflmilaaDoorW.PrintWords Go.Proofs.YtpkfdjlmflmilaaDoorW.PrintLast
set_option linter.unusedVariables false
def balKey (a d : ByteArray) : ByteArray := (((⟨#[98, 47]⟩ : ByteArray) ++ d) ++ (⟨#[47]⟩ : ByteArray)) ++ a
theorem nm_size {a : ByteArray} (h : nmB a = true) : a.size ≤ 12 := by
  unfold nmB at h
  rw [Bool.and_eq_true] at h
  exact of_decide_eq_true h.1
theorem sz2 (d : ByteArray) : ((⟨#[98, 47]⟩ : ByteArray) ++ d).size = 2 + d.size := by rw [ByteArray.size_append]; rfl
theorem sz3 (d : ByteArray) : (((⟨#[98, 47]⟩ : ByteArray) ++ d) ++ (⟨#[47]⟩ : ByteArray)).size = 3 + d.size := by rw [ByteArray.size_append, sz2, show (⟨#[47]⟩ : ByteArray).size = 1 from rfl]; omega
theorem impl_bkey (a d : ByteArray) (ha : a.size ≤ 12) (hd : d.size ≤ 12) : impl_balanceKey.f d a = some (balKey a d) := by
  unfold impl_balanceKey.f balKey
  rw [sz2, sz3, if_pos (by omega), if_pos (by omega), if_pos (by omega)]
theorem spec_bkey (a d : ByteArray) (ha : a.size ≤ 12) (hd : d.size ≤ 12) : spec_l05Key.f a d = some (balKey a d) := by
  unfold spec_l05Key.f balKey
  rw [sz2, sz3, if_pos (by omega), if_pos (by omega), if_pos (by omega)]
theorem bk_an (ns : List ByteArray) (hn : ns.length ≤ 1000) (hs : ∀ x ∈ ns, x.size ≤ 65536) (d : Nat) : ∀ (k i : Nat), ns.length - i = d → i ≤ ns.length → d + 70001 < k →
    impl_areNames.l0 k ns (ns.length : Int) (i : Int) = some ((ns.drop i).all nmB) := by
  induction d with
  | zero =>
    intro k i hd hi hk
    obtain ⟨k, rfl⟩ : ∃ m, k = m + 1 := ⟨k - 1, by omega⟩
    simp only [impl_areNames.l0]
    rw [if_neg (by omega), List.drop_of_length_le (by omega)]
    rfl
  | succ d ih =>
    intro k i hd hi hk
    obtain ⟨k, rfl⟩ : ∃ m, k = m + 1 := ⟨k - 1, by omega⟩
    have hlt : i < ns.length := by omega
    simp only [impl_areNames.l0]
    rw [if_pos (by omega), if_pos (by omega), if_pos (by omega), bk_rd ns i hlt, impl_nm _ (hs _ (List.getElem_mem hlt)) k (by omega), Option.bind_some, w_succ i (by omega), ih k (i + 1) (by omega) (by omega) (by omega), List.drop_eq_getElem_cons hlt, List.all_cons]
    cases nmB ns[i]
    · rw [if_neg (by decide), Bool.false_and]
    · rw [if_pos rfl, Bool.true_and]
theorem impl_an (ns : List ByteArray) (hn : ns.length ≤ 1000) (hs : ∀ x ∈ ns, x.size ≤ 65536) (k : Nat) (hk : 80000 ≤ k) : impl_areNames.f k ns = some (ns.all nmB) := by
  unfold impl_areNames.f
  have h := bk_an ns hn hs ns.length k 0 (by omega) (by omega) (by omega)
  rw [List.drop_zero, show ((0 : Nat) : Int) = 0 from rfl] at h
  exact h
def balanceN (l : List S45) (a d : ByteArray) : Int × Int :=
  if l.length > 4096 ∨ a.size > 65536 ∨ d.size > 65536 then (0, 2) else if bkCode l [a, d] = 0 then (amN l (balKey a d), 0) else (0, bkCode l [a, d])
theorem bk_zero {l : List S45} {ns : List ByteArray} (h : bkCode l ns = 0) : rightB l = true ∧ ns.all nmB = true := by
  unfold bkCode at h
  split at h
  · exact absurd h (by decide)
  · split at h
    · rename_i h1
      split at h
      · rename_i h2
        exact ⟨h1, h2⟩
      · exact absurd h (by decide)
    · exact absurd h (by decide)
theorem impl_bal (l : List S45) (a d : ByteArray) (k : Nat) (hk : 140000 ≤ k) : impl_BalanceOf.f k l a d = some (balanceN l a d) := by
  unfold impl_BalanceOf.f balanceN
  rw [impl_code l [a, d] k (by omega), Option.bind_some]
  have hany : ([a, d].any fun x => decide (65536 < (x.size : Int))) = (decide (a.size > 65536) || decide (d.size > 65536)) := by
    simp only [List.any_cons, List.any_nil, Bool.or_false]
    rw [Bool.eq_iff_iff]
    simp
    omega
  rw [hany]
  by_cases h1 : l.length > 4096 ∨ a.size > 65536 ∨ d.size > 65536
  · have hc : codeN l (decide (a.size > 65536) || decide (d.size > 65536)) = 2 := by
      unfold codeN
      rw [if_pos]
      rcases h1 with h1 | h1 | h1
      · exact .inl h1
      · exact .inr (by rw [decide_eq_true h1]; rfl)
      · exact .inr (by rw [decide_eq_true h1, Bool.or_true])
    rw [hc, if_neg (by decide), if_pos h1]
  · have hb : (decide (a.size > 65536) || decide (d.size > 65536)) = false := by rw [decide_eq_false (fun h => h1 (.inr (.inl h))), decide_eq_false (fun h => h1 (.inr (.inr h)))]; rfl
    rw [hb, if_neg h1]
    have hc : codeN l false = if rightB l = true then 0 else 1 := by
      unfold codeN
      rw [if_neg]
      rintro (h | h)
      · exact h1 (.inl h)
      · cases h
    have hb2 : bkCode l [a, d] = if rightB l = true then (if [a, d].all nmB = true then 0 else 4) else 1 := by
      unfold bkCode
      rw [if_neg (fun h => h1 (.inl h))]
    rw [hc, hb2]
    cases hr : rightB l with
    | false => simp
    | true =>
      simp only [if_true]
      rw [impl_an [a, d] (by simp) (by simp; omega) k (by omega), Option.bind_some]
      cases hn : [a, d].all nmB with
      | false => simp
      | true =>
        have hn' := hn
        simp only [List.all_cons, List.all_nil, Bool.and_true, Bool.and_eq_true] at hn'
        simp only [if_true]
        rw [impl_bkey a d (nm_size hn'.1) (nm_size hn'.2), Option.bind_some, impl_am hr, Option.bind_some]
theorem spec_bal (l : List S45) (a d : ByteArray) (k : Nat) (hk : 140001 ≤ k) : spec_BalanceOf.f k l a d = some (balanceN l a d) := by
  obtain ⟨k, rfl⟩ : ∃ m, k = m + 1 := ⟨k - 1, by omega⟩
  unfold spec_BalanceOf.f balanceN
  simp only [spec_BalanceOf.j0]
  by_cases h0 : l.length > 4096
  · rw [if_pos (by omega), if_pos trivial, if_pos (.inl h0)]
  · rw [if_neg (by omega)]
    by_cases h1 : a.size > 65536
    · rw [if_pos (by omega), if_pos trivial, if_pos (.inr (.inl h1))]
    · rw [if_neg (by omega)]
      by_cases h2 : d.size > 65536
      · rw [if_pos (decide_eq_true (by omega)), if_pos (.inr (.inr h2))]
      · rw [if_neg (by rw [decide_eq_false (by omega)]; decide), if_neg (by omega), spec_bk l [a, d] (by simp) (by simp; omega) k (by omega), Option.bind_some]
        by_cases h3 : bkCode l [a, d] = 0
        · obtain ⟨hr, hn⟩ := bk_zero h3
          simp only [List.all_cons, List.all_nil, Bool.and_true, Bool.and_eq_true] at hn
          rw [if_pos h3, if_pos h3, spec_bkey a d (nm_size hn.1) (nm_size hn.2), Option.bind_some, spec_am hr _ k (by omega), Option.bind_some]
        · rw [if_neg h3, if_neg h3]
theorem FnExactBalanceOf : laws_FnExactBalanceOf.PureF := by
  intro l a d ⟨hw, hl⟩ ha hd
  obtain ⟨r, hr, hr'⟩ := szPairS_eq l hw hl
  refine ⟨l.length + 140005, ?_⟩
  unfold laws_FnExactBalanceOf.f
  by_cases h0 : (a.size : Int) > 1048576
  · rw [if_pos h0]
  · rw [if_neg h0]
    by_cases h00 : (d.size : Int) > 1048576
    · rw [if_pos h00]
    · rw [if_neg h00, hr _ (by omega), Option.bind_some]
      by_cases h : r < 0
      · rw [if_pos h]
      · have h20 := hr' (by omega)
        have hlm : (l.map cv).length = l.length := List.length_map ..
        rw [if_neg h, toPairS_eq l h20 _ (by omega), Option.bind_some, spec_bal (l.map cv) a d _ (by omega), Option.bind_some, Option.bind_some, impl_bal (l.map cv) a d _ (by omega), Option.bind_some]
        rw [if_pos rfl]
        simp only [laws_FnExactBalanceOf.j0, bne_self_eq_false]
        rw [if_neg (by simp), toPairS_eq l h20 _ (by omega), Option.bind_some, eqPairS_eq _ _ (by omega) _ (by omega)]
        simp
end Go.Proofs.YtpkfdjlmflmilaaDoor.Pure
