/- Decimal digits and what they tell: in plain Lean. -/
import Derived.Lib.ItoaNum
import Derived.Lib.AtoiAll
namespace Go.Proofs.YtpkfdjlmflmilaaDoor.Dd
set_option linter.unusedVariables false
theorem small {n : Nat} (h : n < 10) : Lib.decDigits n = [UInt8.ofNat (48 + n)] := by rw [Lib.decDigits, dif_pos h]
theorem big {n : Nat} (h : ¬ n < 10) : Lib.decDigits n = Lib.decDigits (n / 10) ++ [UInt8.ofNat (48 + n % 10)] := by rw [Lib.decDigits, dif_neg h]
theorem len : ∀ (k n : Nat), 1 ≤ k → n < 10 ^ k → (Lib.decDigits n).length ≤ k := by
  intro k
  induction k with
  | zero => intro n h; omega
  | succ k ih =>
    intro n _ hn
    by_cases h : n < 10
    · rw [small h]
      simp
    · rw [big h, List.length_append]
      have hk : 1 ≤ k := by
        rcases Nat.eq_zero_or_pos k with rfl | h1
        · simp at hn
          omega
        · exact h1
      have := ih (n / 10) hk (by rw [Nat.pow_succ] at hn; omega)
      simp
      omega
def isD (c : UInt8) : Prop := 48 ≤ c.toNat ∧ c.toNat ≤ 57
instance (c : UInt8) : Decidable (isD c) := by unfold isD; infer_instance
/-- The number that digits tell, some having gone before. -/
def val (acc : Nat) : List UInt8 → Nat
  | [] => acc
  | c :: r => val (acc * 10 + (c.toNat - 48)) r
theorem val_snoc (l : List UInt8) : ∀ (acc : Nat) (c : UInt8), val acc (l ++ [c]) = val acc l * 10 + (c.toNat - 48) := by
  induction l with
  | nil => intro acc c; rfl
  | cons x r ih => intro acc c; exact ih _ c
theorem val_le (l : List UInt8) : ∀ (acc : Nat), acc ≤ val acc l := by
  induction l with
  | nil => intro acc; exact Nat.le_refl _
  | cons x r ih =>
    intro acc
    have := ih (acc * 10 + (x.toNat - 48))
    show acc ≤ val (acc * 10 + (x.toNat - 48)) r
    omega
theorem dig_toNat {d : Nat} (h : d < 10) : (UInt8.ofNat (48 + d)).toNat = 48 + d := by
  rw [UInt8.toNat_ofNat']
  omega
theorem dig_isD {d : Nat} (h : d < 10) : isD (UInt8.ofNat (48 + d)) := by
  unfold isD
  rw [dig_toNat h]
  omega
theorem isD_dig {c : UInt8} (h : isD c) : UInt8.ofNat (48 + (c.toNat - 48)) = c := by
  unfold isD at h
  rw [show 48 + (c.toNat - 48) = c.toNat by omega]
  simp
/-- Of a number's digits: all are, they tell it, there is one, and none needless ahead. -/
theorem of_num : ∀ (n : Nat), (∀ c ∈ Lib.decDigits n, isD c) ∧ val 0 (Lib.decDigits n) = n ∧ (∃ c r, Lib.decDigits n = c :: r ∧ (c.toNat = 48 → n = 0)) := by
  intro n
  induction n using Nat.strongRecOn with
  | _ n ih =>
    by_cases h : n < 10
    · rw [small h]
      refine ⟨?_, ?_, _, [], rfl, ?_⟩
      · intro c hc
        simp only [List.mem_singleton] at hc
        subst hc
        exact dig_isD h
      · show 0 * 10 + ((UInt8.ofNat (48 + n)).toNat - 48) = n
        rw [dig_toNat h]
        omega
      · rw [dig_toNat h]
        omega
    · obtain ⟨h1, h2, c, r, h3, h4⟩ := ih (n / 10) (by omega)
      have hm : n % 10 < 10 := Nat.mod_lt _ (by decide)
      rw [big h]
      refine ⟨?_, ?_, c, r ++ [UInt8.ofNat (48 + n % 10)], by rw [h3]; rfl, fun hc => ?_⟩
      · intro x hx
        rcases List.mem_append.1 hx with hx | hx
        · exact h1 x hx
        · simp only [List.mem_singleton] at hx
          subst hx
          exact dig_isD hm
      · rw [val_snoc, h2, dig_toNat hm]
        omega
      · have := h4 hc
        omega
theorem zero_len (n : Nat) (h : n = 0) : (Lib.decDigits n).length = 1 := by
  subst h
  rw [small (by decide)]
  rfl
/-- Digits with none needless ahead are those of what they tell. -/
theorem to_num : ∀ (m : Nat) (l : List UInt8), l.length = m → l ≠ [] → (∀ c ∈ l, isD c) → (∀ c r, l = c :: r → c.toNat = 48 → r = []) → Lib.decDigits (val 0 l) = l := by
  intro m
  induction m with
  | zero => intro l hl h; exact absurd (List.eq_nil_of_length_eq_zero hl) h
  | succ m ih =>
    intro l hl hne hd hz
    obtain ⟨l', c, rfl⟩ : ∃ l' c, l = l' ++ [c] := ⟨l.dropLast, l.getLast hne, (List.dropLast_concat_getLast hne).symm⟩
    have hc : isD c := hd c (by simp)
    have hc' := hc
    unfold isD at hc'
    rw [val_snoc]
    cases l' with
    | nil =>
      have e : val 0 ([] : List UInt8) * 10 + (c.toNat - 48) = c.toNat - 48 := by show 0 * 10 + (c.toNat - 48) = _; omega
      rw [e, small (by omega), isD_dig hc]
      rfl
    | cons x r =>
      have hx : isD x := hd x (by simp)
      have hx0 : x.toNat ≠ 48 := fun h0 => by
        have := hz x (r ++ [c]) rfl h0
        simp at this
      have hx' := hx
      unfold isD at hx'
      have hv : 1 ≤ val 0 (x :: r) := by
        have := val_le r (0 * 10 + (x.toNat - 48))
        show 1 ≤ val (0 * 10 + (x.toNat - 48)) r
        omega
      rw [big (by omega), show (val 0 (x :: r) * 10 + (c.toNat - 48)) / 10 = val 0 (x :: r) by omega, show (val 0 (x :: r) * 10 + (c.toNat - 48)) % 10 = c.toNat - 48 by omega, isD_dig hc,
        ih (x :: r) (by simp at hl ⊢; omega) (by simp) (fun y hy => hd y (List.mem_append_left _ hy)) (fun y r' e h0 => by injection e with e1 e2; subst e1; exact absurd h0 hx0)]
theorem parse (l : List UInt8) : ∀ (acc : Nat), (∀ c ∈ l, isD c) → val acc l < 18446744073709551616 → Lib.parseUint10 acc l = .ok (val acc l) := by
  induction l with
  | nil => intro acc _ _; rfl
  | cons c r ih =>
    intro acc hd hv
    have hc := hd c (by simp)
    unfold isD at hc
    have h1 := val_le r (acc * 10 + (c.toNat - 48))
    have hv' : val (acc * 10 + (c.toNat - 48)) r < 18446744073709551616 := hv
    simp only [Lib.parseUint10]
    rw [if_pos hc, if_neg (by omega), if_neg (by omega)]
    exact ih _ (fun x hx => hd x (List.mem_cons_of_mem _ hx)) hv'
theorem atoi_num (n : Nat) (hn : n < 9223372036854775808) : Lib.atoiAll (Lib.decDigits n) = .ok (n : Int) := by
  obtain ⟨h1, h2, c, r, h3, _⟩ := of_num n
  have hc := h1 c (by rw [h3]; simp)
  unfold isD at hc
  have hp := parse (Lib.decDigits n) 0 h1 (by rw [h2]; omega)
  rw [h2] at hp
  rw [h3] at hp ⊢
  unfold Lib.atoiAll
  have e1 : ¬ (c.toNat = 43 ∨ c.toNat = 45) := by omega
  have e2 : ¬ c.toNat = 45 := by omega
  simp only [if_neg e1]
  have hm : Lib.parseMag (c :: r) = .ok n := by
    unfold Lib.parseMag
    rw [if_neg (by simp), hp]
  rw [hm]
  simp only [if_neg e2]
  rw [if_neg (by omega), if_neg (by omega)]
end Go.Proofs.YtpkfdjlmflmilaaDoor.Dd
