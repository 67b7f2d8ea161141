/- Reading an amount: both programs take just the digits of an amount. -/
import Derived.Test.YtpkfdjlmflmilaaDoorQ4
import Derived.Test.YtpkfdjlmflmilaaDoorRa
import Derived.Test.YtpkfdjlmflmilaaDoorDd
namespace Go.Proofs.YtpkfdjlmflmilaaDoor.Pure
open Go.RowKit Go.Proofs.YtpkfdjlmflmilaaDoor.Q Go.Proofs.YtpkfdjlmflmilaaDoorW.PrintWords Go.Proofs.YtpkfdjlmflmilaaDoorW.PrintLast
set_option linter.unusedVariables false
open Dd (isD val)
theorem itoaT_num (n : Nat) : itoaT (n : Int) = ⟨(Lib.decDigits n).toArray⟩ := by
  unfold itoaT Lib.itoa
  rw [if_neg (by omega), Int.toNat_natCast]
/-- A text is an amount's digits. -/
def amT (t : ByteArray) : Prop := (1 ≤ t.size ∧ t.size ≤ 19) ∧ (∀ c r, t.data.toList = c :: r → c.toNat = 48 → r = []) ∧ (∀ c ∈ t.data.toList, isD c) ∧ val 0 t.data.toList ≤ 1000000000000000000
theorem tl_len (t : ByteArray) : t.data.toList.length = t.size := by rw [Array.length_toList]; rfl
theorem amT_num (n : Nat) (hn : n ≤ 1000000000000000000) : amT (itoaT (n : Int)) ∧ val 0 (itoaT (n : Int)).data.toList = n := by
  obtain ⟨h1, h2, c, r, h3, h4⟩ := Dd.of_num n
  have hl := Dd.len 19 n (by omega) (Nat.lt_of_le_of_lt hn (by decide))
  have e : (itoaT (n : Int)).data.toList = Lib.decDigits n := by rw [itoaT_num]
  have hs : (itoaT (n : Int)).size = (Lib.decDigits n).length := by rw [← tl_len, e]
  refine ⟨⟨⟨?_, by omega⟩, ?_, ?_, ?_⟩, by rw [e, h2]⟩
  · rw [hs, h3]
    simp
  · intro c' r' hc h0
    rw [e] at hc
    have hcc := hc
    rw [h3] at hc
    injection hc with e1 e2
    subst e1
    have hz := Dd.zero_len n (h4 h0)
    rw [hcc] at hz
    simp at hz
    exact hz
  · rw [e]; exact h1
  · rw [e, h2]; exact hn
theorem amT_is (t : ByteArray) (h : amT t) : itoaT (val 0 t.data.toList : Nat) = t := by
  obtain ⟨⟨h1, h2⟩, h3, h4, h5⟩ := h
  have hl := tl_len t
  rw [itoaT_num, Dd.to_num t.data.toList.length t.data.toList rfl (by intro e; rw [e] at hl; simp at hl; omega) h4 h3]
theorem raT_yes (t : ByteArray) (h : amT t) : raT t = (((val 0 t.data.toList : Nat) : Int), true) := by
  have he := amT_is t h
  have hv := h.2.2.2
  have e : t.data.toList = Lib.decDigits (val 0 t.data.toList) := by
    conv => lhs; rw [← he, itoaT_num]
  unfold raT
  have ha : Lib.atoiAll t.data.toList = .ok ((val 0 t.data.toList : Nat) : Int) := by
    conv => lhs; rw [e]
    exact Dd.atoi_num _ (by omega)
  rw [ha]
  show (if (0 ≤ ((val 0 t.data.toList : Nat) : Int) ∧ ((val 0 t.data.toList : Nat) : Int) ≤ 1000000000000000000) ∧ itoaT ((val 0 t.data.toList : Nat) : Int) = t then _ else _) = _
  rw [if_pos ⟨⟨by omega, by omega⟩, he⟩]
theorem raT_no (t : ByteArray) (h : ¬ amT t) : raT t = (0, false) := by
  unfold raT
  rcases Lib.atoiAll t.data.toList with v | _ | _
  · show (if (0 ≤ v ∧ v ≤ 1000000000000000000) ∧ itoaT v = t then (v, true) else (0, false)) = (0, false)
    rw [if_neg]
    rintro ⟨⟨h0, h1⟩, he⟩
    obtain ⟨n, rfl⟩ : ∃ n : Nat, v = (n : Int) := ⟨v.toNat, by omega⟩
    exact h (he ▸ (amT_num n (by omega)).1)
  · rfl
  · rfl
/-- From so many bytes on. -/
def ofB (acc : Nat) (l : List UInt8) : Int := if (∀ c ∈ l, isD c) ∧ val acc l ≤ 1000000000000000000 then ((val acc l : Nat) : Int) else -1
theorem btl (t : ByteArray) (i : Nat) (hi : i < t.size) : bt t (i : Int) = ((t.data.toList[i]'(by rw [tl_len]; exact hi)).toNat : Int) := by
  have h : ((i : Int)).toNat < t.size := by rw [Int.toNat_natCast]; exact hi
  rw [← Go.Proofs.YtpkfdjlmflmilaaDoorW.PrintWords.bt_at t (i : Int) h]
  simp only [Int.toNat_natCast]
  rfl
theorem of_l0 (t : ByteArray) (ht : t.size ≤ 65536) (d : Nat) : ∀ (k i acc : Nat), t.size - i = d → i ≤ t.size → 2 * d < k → acc ≤ 1000000000000000000 → spec_l02Of.l0 k t (acc : Int) (i : Int) = some (ofB acc (t.data.toList.drop i)) := by
  induction d with
  | zero =>
    intro k i acc hd hi hk ha
    obtain ⟨k, rfl⟩ : ∃ m, k = m + 1 := ⟨k - 1, by omega⟩
    simp only [spec_l02Of.l0]
    rw [if_neg (by omega), List.drop_of_length_le (by rw [tl_len]; omega)]
    unfold ofB
    rw [if_pos ⟨fun c hc => absurd hc List.not_mem_nil, ha⟩]
    rfl
  | succ d ih =>
    intro k i acc hd hi hk ha
    obtain ⟨k, rfl⟩ : ∃ m, k = m + 2 := ⟨k - 2, by omega⟩
    have hlt : i < t.size := by omega
    have hltl : i < t.data.toList.length := by rw [tl_len]; exact hlt
    have hdr : t.data.toList.drop i = t.data.toList[i] :: t.data.toList.drop (i + 1) := List.drop_eq_getElem_cons hltl
    have hb := btl t i hlt
    rw [hdr]
    generalize t.data.toList[i] = c at hb
    have hc := c.toNat_lt
    simp only [spec_l02Of.l0]
    rw [if_pos (by omega), if_pos (by omega), hb]
    by_cases h1 : (c.toNat : Int) < 48
    · rw [if_pos h1]
      simp only [spec_l02Of.j2]
      rw [if_pos trivial]
      unfold ofB
      rw [if_neg]
      rintro ⟨h, _⟩
      have := h c (by simp)
      unfold isD at this
      omega
    · rw [if_neg h1]
      simp only [spec_l02Of.j2]
      by_cases h2 : (c.toNat : Int) > 57
      · rw [if_pos (decide_eq_true h2)]
        unfold ofB
        rw [if_neg]
        rintro ⟨h, _⟩
        have := h c (by simp)
        unfold isD at this
        omega
      · have h2' : decide ((c.toNat : Int) > 57) = false := decide_eq_false h2
        have e0 : ((c.toNat : Int) - 48) % 256 = ((c.toNat - 48 : Nat) : Int) := by omega
        rw [h2', if_neg (by decide), if_pos (by omega), if_pos (by omega), hb, e0]
        have hisd : isD c := by unfold isD; omega
        by_cases h3 : (acc : Int) > (1000000000000000000 - ((c.toNat - 48 : Nat) : Int)) / 10
        · rw [if_pos h3]
          unfold ofB
          rw [if_neg]
          rintro ⟨_, h⟩
          have h4 := Dd.val_le (t.data.toList.drop (i + 1)) (acc * 10 + (c.toNat - 48))
          have h5 : val (acc * 10 + (c.toNat - 48)) (t.data.toList.drop (i + 1)) ≤ 1000000000000000000 := h
          omega
        · have g1 : t.size - (i + 1) = d := by omega
          have g2 : i + 1 ≤ t.size := by omega
          have g3 : 2 * d < k := by omega
          have g4 : acc * 10 + (c.toNat - 48) ≤ 1000000000000000000 := by omega
          have e1 : wrap64 ((acc : Int) * 10) = ((acc * 10 : Nat) : Int) := by unfold wrap64; omega
          have e2 : wrap64 (((acc * 10 : Nat) : Int) + ((c.toNat - 48 : Nat) : Int)) = ((acc * 10 + (c.toNat - 48) : Nat) : Int) := by unfold wrap64; omega
          have e3 : wrap64 ((i : Int) + 1) = ((i + 1 : Nat) : Int) := by unfold wrap64; omega
          rw [if_neg h3, e1, e2, e3, ih k (i + 1) (acc * 10 + (c.toNat - 48)) g1 g2 g3 g4]
          unfold ofB
          have hv : val acc (c :: t.data.toList.drop (i + 1)) = val (acc * 10 + (c.toNat - 48)) (t.data.toList.drop (i + 1)) := rfl
          rw [hv]
          by_cases h6 : (∀ x ∈ t.data.toList.drop (i + 1), isD x) ∧ val (acc * 10 + (c.toNat - 48)) (t.data.toList.drop (i + 1)) ≤ 1000000000000000000
          · rw [if_pos h6, if_pos ⟨fun x hx => by rcases List.mem_cons.1 hx with rfl | hx; exact hisd; exact h6.1 x hx, h6.2⟩]
          · rw [if_neg h6, if_neg fun h => h6 ⟨fun x hx => h.1 x (List.mem_cons_of_mem _ hx), h.2⟩]
open Classical in
theorem of_eq (t : ByteArray) (ht : t.size ≤ 65536) (k : Nat) (hk : 140000 ≤ k) : spec_l02Of.f k t = some (if amT t then ((val 0 t.data.toList : Nat) : Int) else -1) := by
  obtain ⟨k, rfl⟩ : ∃ m, k = m + 1 := ⟨k - 1, by omega⟩
  have hj : ∀ b : Bool, spec_l02Of.j0 (k + 1) t b = some (if b = true then -1 else ofB 0 t.data.toList) := by
    intro b
    simp only [spec_l02Of.j0]
    cases b with
    | true => rw [if_pos rfl, if_pos rfl]
    | false =>
      have h := of_l0 t ht t.size k 0 0 (by omega) (by omega) (by omega) (by omega)
      rw [show ((0 : Nat) : Int) = 0 from rfl, List.drop_zero] at h
      rw [if_neg (by decide), if_neg (by decide), h]
  unfold spec_l02Of.f spec_l01In.f
  have hl := tl_len t
  by_cases h1 : 1 ≤ t.size
  · rw [if_pos (by omega), Option.bind_some]
    by_cases h2 : t.size ≤ 19
    · rw [if_pos (decide_eq_true (by omega))]
      obtain ⟨c, r, hcr⟩ : ∃ c r, t.data.toList = c :: r := by
        cases h : t.data.toList with
        | nil => rw [h] at hl; simp at hl; omega
        | cons c r => exact ⟨c, r, rfl⟩
      have hof : ofB 0 t.data.toList = if (∀ c ∈ t.data.toList, isD c) ∧ val 0 t.data.toList ≤ 1000000000000000000 then ((val 0 t.data.toList : Nat) : Int) else -1 := rfl
      by_cases h3 : t.size > 1
      · have hb := btl t 0 (by omega)
        rw [show ((0 : Nat) : Int) = 0 from rfl] at hb
        have hb' : bt t 0 = (c.toNat : Int) := by
          rw [hb]
          simp [hcr]
        rw [if_pos (by omega), if_pos (by omega), hj, hb']
        by_cases h4 : c.toNat = 48
        · rw [if_pos (by simp; omega), if_neg]
          rintro ⟨_, hz, _⟩
          have := hz c r hcr h4
          rw [hcr, this] at hl
          simp at hl
          omega
        · rw [if_neg (by simp; omega), hof]
          by_cases h5 : (∀ c ∈ t.data.toList, isD c) ∧ val 0 t.data.toList ≤ 1000000000000000000
          · rw [if_pos h5, if_pos ⟨⟨h1, h2⟩, fun c' r' e h0 => by rw [hcr] at e; injection e with e1 e2; subst e1; exact absurd h0 h4, h5.1, h5.2⟩]
          · rw [if_neg h5, if_neg fun h => h5 ⟨h.2.2.1, h.2.2.2⟩]
      · rw [if_neg (by omega), hj, if_neg (by decide), hof]
        by_cases h5 : (∀ c ∈ t.data.toList, isD c) ∧ val 0 t.data.toList ≤ 1000000000000000000
        · rw [if_pos h5, if_pos ⟨⟨h1, h2⟩, fun c' r' e h0 => by rw [e] at hl; simp at hl; exact List.eq_nil_of_length_eq_zero (by omega), h5.1, h5.2⟩]
        · rw [if_neg h5, if_neg fun h => h5 ⟨h.2.2.1, h.2.2.2⟩]
    · rw [if_neg (by rw [decide_eq_false (by omega)]; decide), hj, if_pos rfl, if_neg fun h => h2 h.1.2]
  · rw [if_neg (by omega), Option.bind_some, if_neg (by decide), hj, if_pos rfl, if_neg fun h => h1 h.1.1]
end Go.Proofs.YtpkfdjlmflmilaaDoor.Pure
