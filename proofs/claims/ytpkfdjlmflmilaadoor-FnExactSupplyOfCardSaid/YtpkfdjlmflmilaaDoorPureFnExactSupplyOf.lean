/- The pure statement of the law FnExactSupplyOf: what its functions compute answers as the law says. -/
import Derived.Test.YtpkfdjlmflmilaaDoorDefFnExactSupplyOf
import Derived.Test.YtpkfdjlmflmilaaDoorBk
namespace Go.Proofs.YtpkfdjlmflmilaaDoor.Pure
open Go.RowKit Go.Proofs.YtpkfdjlmflmilaaDoor.Q Go.Proofs.YtpkfdjlmflmilaaDoorW.PrintWords Go.Proofs.YtpkfdjlmflmilaaDoorW.PrintLast
set_option linter.unusedVariables false
def supplyN (l : List S45) (a : ByteArray) : Int × Int :=
  if l.length > 4096 ∨ a.size > 65536 then (0, 2) else if bkCode l [a] = 0 then (amN l (⟨#[115, 47]⟩ ++ a), 0) else (0, bkCode l [a])
theorem impl_supply (l : List S45) (a : ByteArray) (k : Nat) (hk : 140000 ≤ k) : impl_SupplyOf.f k l a = some (supplyN l a) := by
  unfold impl_SupplyOf.f supplyN
  rw [impl_code l [a] k (by omega), Option.bind_some]
  have hany : ([a].any fun x => decide (65536 < (x.size : Int))) = decide (a.size > 65536) := by
    simp only [List.any_cons, List.any_nil, Bool.or_false]
    rw [Bool.eq_iff_iff]
    simp
    omega
  rw [hany]
  by_cases h1 : l.length > 4096 ∨ a.size > 65536
  · have hc : codeN l (decide (a.size > 65536)) = 2 := by
      unfold codeN
      rw [if_pos]
      rcases h1 with h1 | h1
      · exact .inl h1
      · exact .inr (decide_eq_true h1)
    rw [hc, if_neg (by decide), if_pos h1]
  · have hc : codeN l (decide (a.size > 65536)) = if rightB l = true then 0 else 1 := by
      unfold codeN
      rw [if_neg]
      rintro (h | h)
      · exact h1 (.inl h)
      · exact h1 (.inr (of_decide_eq_true h))
    have hb : bkCode l [a] = if rightB l = true then (if [a].all nmB = true then 0 else 4) else 1 := by
      unfold bkCode
      rw [if_neg (fun h => h1 (.inl h))]
    rw [hc, hb, if_neg h1]
    cases hr : rightB l with
    | false => simp
    | true =>
      simp only [if_true]
      rw [impl_nm a (by omega) k (by omega), Option.bind_some]
      have e : [a].all nmB = nmB a := by simp
      rw [e]
      cases hn : nmB a with
      | false => simp
      | true =>
        have hz : a.size ≤ 12 := by
          unfold nmB at hn
          rw [Bool.and_eq_true] at hn
          exact of_decide_eq_true hn.1
        unfold impl_supplyKey.f
        simp only [if_true]
        rw [if_pos (by omega), Option.bind_some, impl_am hr, Option.bind_some]
theorem spec_supply (l : List S45) (a : ByteArray) (k : Nat) (hk : 140001 ≤ k) : spec_SupplyOf.f k l a = some (supplyN l a) := by
  obtain ⟨k, rfl⟩ : ∃ m, k = m + 1 := ⟨k - 1, by omega⟩
  unfold spec_SupplyOf.f supplyN
  simp only [spec_SupplyOf.j0]
  by_cases h0 : l.length > 4096
  · rw [if_pos (by omega), if_pos trivial, if_pos (.inl h0)]
  · rw [if_neg (by omega)]
    by_cases h1 : a.size > 65536
    · rw [if_pos (decide_eq_true (by omega)), if_pos (.inr h1)]
    · rw [if_neg (by rw [decide_eq_false (by omega)]; decide), if_neg (by omega), spec_bk l [a] (by simp) (by simp; omega) k (by omega), Option.bind_some]
      by_cases h2 : bkCode l [a] = 0
      · rw [if_pos h2, if_pos h2]
        unfold bkCode at h2
        rw [if_neg h0] at h2
        cases hr : rightB l with
        | false => rw [hr, if_neg (by decide)] at h2; exact absurd h2 (by decide)
        | true =>
          rw [hr, if_pos rfl] at h2
          have hn : nmB a = true := by
            cases hn : nmB a with
            | true => rfl
            | false =>
              rw [if_neg (by simp [hn])] at h2
              exact absurd h2 (by decide)
          have hz : a.size ≤ 12 := by
            unfold nmB at hn
            rw [Bool.and_eq_true] at hn
            exact of_decide_eq_true hn.1
          unfold spec_l05Supply.f
          rw [if_pos (by omega), Option.bind_some, spec_am hr _ k (by omega), Option.bind_some]
      · rw [if_neg h2, if_neg h2]
theorem FnExactSupplyOf : laws_FnExactSupplyOf.PureF := by
  intro l a ⟨hw, hl⟩ ha
  obtain ⟨r, hr, hr'⟩ := szPairS_eq l hw hl
  refine ⟨l.length + 140005, ?_⟩
  unfold laws_FnExactSupplyOf.f
  by_cases h0 : (a.size : Int) > 1048576
  · rw [if_pos h0]
  · rw [if_neg h0, hr _ (by omega), Option.bind_some]
    by_cases h : r < 0
    · rw [if_pos h]
    · have h20 := hr' (by omega)
      have hlm : (l.map cv).length = l.length := List.length_map ..
      rw [if_neg h, toPairS_eq l h20 _ (by omega), Option.bind_some, spec_supply (l.map cv) a _ (by omega), Option.bind_some, Option.bind_some, impl_supply (l.map cv) a _ (by omega), Option.bind_some]
      rw [if_pos rfl]
      simp only [laws_FnExactSupplyOf.j0, bne_self_eq_false]
      rw [if_neg (by simp), toPairS_eq l h20 _ (by omega), Option.bind_some, eqPairS_eq _ _ (by omega) _ (by omega)]
      simp
end Go.Proofs.YtpkfdjlmflmilaaDoor.Pure
