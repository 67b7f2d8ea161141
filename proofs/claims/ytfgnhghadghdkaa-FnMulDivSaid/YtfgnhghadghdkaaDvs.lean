/- bits.Div64: the quotient of a number of 128 bits. -/
import Derived.Test.YtfgnhghadghdkaaQ7
import Derived.Test.YtfgnhghadghdkaaDiv
import Derived.Test.YtfgnhghadghdkaaLen
namespace Go.Proofs.Ytfgnhghadghdkaa.Pure
open Go.RowKit Go.Proofs.Ytfgnhghadghdkaa.Q Go.Proofs.YtfgnhghadghdkaaW.PrintWords Go.Proofs.YtfgnhghadghdkaaW.PrintLast
set_option linter.unusedVariables false
theorem or64 (i : Nat) (hi : i ≤ 64) (x y : Int) (hx0 : 0 ≤ x) (hx : x % 2 ^ i = 0) (hx1 : x < 18446744073709551616) (h0 : 0 ≤ y) (h1 : y < 2 ^ i) : Go.bits .or .u64 x y = x + y :=
  bits_join .u64 64 (by decide) (fun n h0 h1 => u64in n h0 h1) i x y hx0 hx hx1 h0 h1 (by
    have e : (2 : Int) ^ i ≤ 2 ^ 64 := by exact_mod_cast Nat.pow_le_pow_right (show 0 < 2 by decide) hi
    omega)
/-- Two digits tell the quotient. -/
theorem two_digits (U u1 u0 Y : Int) (hY : 0 < Y) (hU : 0 ≤ U) (h1 : 0 ≤ u1) (h1' : u1 < 4294967296) (h0 : 0 ≤ u0) (h0' : u0 < 4294967296) (hlt : U < Y) :
    (U * 4294967296 + u1) / Y * 4294967296 + ((U * 4294967296 + u1) % Y * 4294967296 + u0) / Y = (U * 18446744073709551616 + u1 * 4294967296 + u0) / Y ∧
    0 ≤ (U * 4294967296 + u1) / Y ∧ (U * 4294967296 + u1) / Y < 4294967296 ∧ 0 ≤ ((U * 4294967296 + u1) % Y * 4294967296 + u0) / Y ∧ ((U * 4294967296 + u1) % Y * 4294967296 + u0) / Y < 4294967296 := by
  have hm := Int.emod_nonneg (U * 4294967296 + u1) (show Y ≠ 0 by omega)
  have hm' := Int.emod_lt_of_pos (U * 4294967296 + u1) hY
  have hq := Int.mul_ediv_add_emod (U * 4294967296 + u1) Y
  have e : U * 18446744073709551616 + u1 * 4294967296 + u0 = ((U * 4294967296 + u1) % Y * 4294967296 + u0) + Y * ((U * 4294967296 + u1) / Y * 4294967296) := by
    rw [← Int.mul_assoc]
    generalize Y * ((U * 4294967296 + u1) / Y) = a at *
    omega
  refine ⟨?_, Int.ediv_nonneg (by omega) (by omega), ?_, Int.ediv_nonneg (by omega) (by omega), ?_⟩
  · rw [e, Int.add_mul_ediv_left _ _ (by omega)]; omega
  · exact Int.ediv_lt_of_lt_mul hY (by omega)
  · exact Int.ediv_lt_of_lt_mul hY (by omega)
/-- The shifted numbers. -/
theorem shifted (hi lo y P T : Int) (hPT : P * T = 18446744073709551616) (hP : 0 < P) (hT : 0 < T) (hh0 : 0 ≤ hi) (hl0 : 0 ≤ lo) (hl : lo < 18446744073709551616) (hhy : hi < y) :
    lo * P % 18446744073709551616 = lo % T * P ∧ lo / T < P ∧ 0 ≤ lo / T ∧ hi * P + lo / T < y * P ∧ (hi * P + lo / T) * 18446744073709551616 + lo % T * P = (hi * 18446744073709551616 + lo) * P ∧ 0 ≤ lo % T * P ∧ lo % T * P < 18446744073709551616 := by
  have hm := Int.emod_nonneg lo (show T ≠ 0 by omega)
  have hm' := Int.emod_lt_of_pos lo hT
  have hq := Int.mul_ediv_add_emod lo T
  have hd0 : 0 ≤ lo / T := Int.ediv_nonneg hl0 (by omega)
  have hd : lo / T < P := Int.ediv_lt_of_lt_mul hT (by rw [hPT]; exact hl)
  have hr : lo % T * P < 18446744073709551616 := by
    have : lo % T * P < T * P := Int.mul_lt_mul_of_pos_right hm' hP
    rw [Int.mul_comm T P, hPT] at this
    exact this
  have hr0 : 0 ≤ lo % T * P := Int.mul_nonneg hm (by omega)
  have elo : lo * P = lo / T * 18446744073709551616 + lo % T * P := by
    conv => lhs; rw [← hq]
    rw [Int.add_mul, ← hPT, Int.mul_comm T (lo / T), Int.mul_assoc, Int.mul_comm T P]
  refine ⟨?_, hd, hd0, ?_, ?_, hr0, hr⟩
  · rw [elo]; omega
  · have : (hi + 1) * P ≤ y * P := Int.mul_le_mul_of_nonneg_right (by omega) (by omega)
    rw [Int.add_mul] at this
    omega
  · rw [Int.add_mul (hi * 18446744073709551616), elo, Int.mul_right_comm hi, Int.add_mul]
    omega
theorem j2_eq (Y s y1 y0 U u1 u0 : Int) (hs : 0 ≤ s) (hy : Y = y1 * 4294967296 + y0) (h1 : 2147483648 ≤ y1) (h1' : y1 < 4294967296) (h0 : 0 ≤ y0) (h0' : y0 < 4294967296) (hU0 : 0 ≤ U) (hU : U < Y) (d0 : 0 ≤ u1) (d1 : u1 < 4294967296) (e0 : 0 ≤ u0) (e1 : u0 < 4294967296) :
    ∃ z, ∀ k, 7 ≤ k → bits_Div64.j2 k Y s y1 y0 U u1 u0 ((U * 4294967296 + u1) / Y) = some ((U * 18446744073709551616 + u1 * 4294967296 + u0) / Y, z) := by
  have hY : 0 < Y := by omega
  have hm := Int.emod_nonneg (U * 4294967296 + u1) (show Y ≠ 0 by omega)
  have hm' := Int.emod_lt_of_pos (U * 4294967296 + u1) hY
  obtain ⟨t1, t2, t3, t4, t5⟩ := two_digits U u1 u0 Y hY hU0 d0 d1 e0 e1 hU
  have hrest := div_rest Y U u1 hY (by omega) hU0 d0 d1
  obtain ⟨s1, s2, s3, s4, s5, s6, s7, s8⟩ := div_start Y y1 y0 ((U * 4294967296 + u1) % Y) u0 hy h1 h1' h0 h0' hm hm' e0 e1
  refine ⟨shr .u64 (IntKind.u64.wrap ((IntKind.u64.wrap ((IntKind.u64.wrap ((U * 4294967296 + u1) % Y * 4294967296)) + u0)) - (IntKind.u64.wrap (((U * 4294967296 + u1) % Y * 4294967296 + u0) / Y * Y)))) s, fun k hk => ?_⟩
  obtain ⟨k, rfl⟩ : ∃ m, k = m + 2 + 1 := ⟨k - 3, by omega⟩
  simp only [bits_Div64.j2]
  rw [if_neg (by omega), hrest, s1, s2, div_l1 Y s y1 y0 ((U * 4294967296 + u1) % Y) u0 ((U * 4294967296 + u1) / Y) hs hy h1 h1' h0 h0' hm hm' e0 e1 2 k _ _ (by omega) (by omega) s3 s4 s5 s6 s7 s8, ← t1]
  generalize (U * 4294967296 + u1) / Y = a at *
  rw [u64in (a * 4294967296) (by omega) (by omega), u64in (a * 4294967296 + ((U * 4294967296 + u1) % Y * 4294967296 + u0) / Y) (by omega) (by omega)]
theorem norm_eq (Y s U V : Int) (hs : 0 ≤ s) (hY : 9223372036854775808 ≤ Y) (hY' : Y < 18446744073709551616) (hU0 : 0 ≤ U) (hU : U < Y) (hV : 0 ≤ V) (hV' : V < 18446744073709551616) :
    ∃ z, ∀ k, 13 ≤ k → bits_Div64.l0 k Y s (Y / 4294967296) (Go.bits .and .u64 Y 4294967295) U (V / 4294967296) (Go.bits .and .u64 V 4294967295) (IntKind.u64.wrap (Int.tdiv U (Y / 4294967296))) (IntKind.u64.wrap (U - IntKind.u64.wrap (IntKind.u64.wrap (Int.tdiv U (Y / 4294967296)) * (Y / 4294967296)))) = some ((U * 18446744073709551616 + V) / Y, z) := by
  rw [and32 Y (by omega) (by omega), and32 V hV hV']
  have hy : Y = Y / 4294967296 * 4294967296 + Y % 4294967296 := by omega
  have ev : U * 18446744073709551616 + V = U * 18446744073709551616 + V / 4294967296 * 4294967296 + V % 4294967296 := by omega
  obtain ⟨s1, s2, s3, s4, s5, s6, s7, s8⟩ := div_start Y (Y / 4294967296) (Y % 4294967296) U (V / 4294967296) hy (by omega) (by omega) (by omega) (by omega) hU0 hU (by omega) (by omega)
  rw [s1, s2]
  obtain ⟨z, hj⟩ := j2_eq Y s (Y / 4294967296) (Y % 4294967296) U (V / 4294967296) (V % 4294967296) hs hy (by omega) (by omega) (by omega) (by omega) hU0 hU (by omega) (by omega) (by omega) (by omega)
  refine ⟨z, fun k hk => ?_⟩
  obtain ⟨k, rfl⟩ : ∃ m, k = m + 2 := ⟨k - 2, by omega⟩
  rw [ev]
  exact div_l0 Y s (Y / 4294967296) (Y % 4294967296) U (V / 4294967296) (V % 4294967296) hy (by omega) (by omega) (by omega) (by omega) hU0 hU (by omega) (by omega) 7 _ 2 k _ _ (by omega) (by omega) s3 s4 s5 s6 s7 s8 hj
theorem div64_eq (hi lo y : Int) (hy : 0 < y) (hy' : y < 18446744073709551616) (hh : 0 ≤ hi) (hhy : hi < y) (hl : 0 ≤ lo) (hl' : lo < 18446744073709551616) : ∃ z, ∀ k, 13 ≤ k → bits_Div64.f k hi lo y = some ((hi * 18446744073709551616 + lo) / y, z) := by
  by_cases h0 : hi = 0
  · subst h0
    refine ⟨Int.tmod lo y, fun k hk => ?_⟩
    have hd : 0 ≤ lo / y := Int.ediv_nonneg hl (by omega)
    have hd' : lo / y ≤ lo := Int.ediv_le_self _ hl
    unfold bits_Div64.f
    rw [if_neg (by omega), if_neg (by omega), if_pos rfl, Int.tdiv_eq_ediv_of_nonneg hl, u64in _ hd (by omega), Int.zero_mul, Int.zero_add]
  · obtain ⟨n, rfl⟩ := Int.eq_ofNat_of_zero_le (show 0 ≤ y by omega)
    obtain ⟨g1, g2, g3⟩ := lg_of n (by omega)
    have g4 := lg_le n 64 (by omega)
    obtain ⟨s, hs⟩ : ∃ s, s = 64 - lg n := ⟨_, rfl⟩
    have hPT : (2 : Int) ^ s * 2 ^ (lg n) = 18446744073709551616 := by
      rw [← Int.pow_add, show s + lg n = 64 by omega]; rfl
    have hP : (0 : Int) < 2 ^ s := Int.pow_pos (by decide)
    have hT : (0 : Int) < 2 ^ (lg n) := Int.pow_pos (by decide)
    have g3' : (n : Int) < 2 ^ (lg n) := by exact_mod_cast g3
    have g2' : (2 : Int) ^ (lg n) ≤ n * 2 := by
      have : 2 ^ (lg n) = 2 ^ (lg n - 1) * 2 := by rw [← Nat.pow_succ]; congr 1; omega
      have h2 : 2 ^ (lg n) ≤ n * 2 := by rw [this]; omega
      exact_mod_cast h2
    obtain ⟨f1, f2, f3, f4, f5, f6, f7⟩ := shifted hi lo (n : Int) (2 ^ s) (2 ^ (lg n)) hPT hP hT hh hl hl' hhy
    have hYlo : 9223372036854775808 ≤ (n : Int) * 2 ^ s := by
      have : 2 ^ s * (2 : Int) ^ (lg n) ≤ 2 ^ s * (n * 2) := Int.mul_le_mul_of_nonneg_left g2' (by omega)
      rw [hPT, ← Int.mul_assoc, Int.mul_comm (2 ^ s)] at this
      omega
    have hYhi : (n : Int) * 2 ^ s < 18446744073709551616 := by
      have : 2 ^ s * (n : Int) < 2 ^ s * 2 ^ (lg n) := Int.mul_lt_mul_of_pos_left g3' hP
      rw [hPT, Int.mul_comm] at this
      exact this
    have hhP : 0 ≤ hi * 2 ^ s := Int.mul_nonneg hh (by omega)
    have hm0 : hi * 2 ^ s % 2 ^ s = 0 := Int.mul_emod_left _ _
    obtain ⟨z, hz⟩ := norm_eq ((n : Int) * 2 ^ s) (s : Int) (hi * 2 ^ s + lo / 2 ^ (lg n)) (lo % 2 ^ (lg n) * 2 ^ s) (by omega) hYlo hYhi (by omega) f4 f6 f7
    refine ⟨z, fun k hk => ?_⟩
    obtain ⟨k, rfl⟩ : ∃ m, k = m + 1 := ⟨k - 1, by omega⟩
    have hlead : bits_LeadingZeros64.f (k + 1) (n : Int) = some ((s : Nat) : Int) := by rw [lead_eq n k (by omega), hs]
    have w1 : IntKind.u64.wrap ((s : Nat) : Int) = (s : Int) := u64in _ (by omega) (by omega)
    have w2 : IntKind.u64.wrap (64 - (s : Int)) = ((lg n : Nat) : Int) := by rw [u64in _ (by omega) (by omega)]; omega
    have sh : ∀ x : Int, 0 ≤ x → shl .u64 x (s : Int) = x * 2 ^ s % 18446744073709551616 := fun x _ => by
      unfold shl
      rw [u64w, Int.toNat_natCast, Nat.min_eq_left (show s ≤ IntKind.u64.bits by show s ≤ 64; omega)]
    have sr : shr .u64 lo ((lg n : Nat) : Int) = lo / 2 ^ (lg n) := by
      unfold shr
      rw [Int.toNat_natCast, Nat.min_eq_left (show lg n ≤ IntKind.u64.bits by show lg n ≤ 64; omega)]
    have sy : shl .u64 (n : Int) (s : Int) = (n : Int) * 2 ^ s := by rw [sh _ (by omega)]; omega
    have sl : shl .u64 lo (s : Int) = lo % 2 ^ (lg n) * 2 ^ s := by rw [sh _ hl, f1]
    have sh' : shl .u64 hi (s : Int) = hi * 2 ^ s := by rw [sh _ hh]; omega
    unfold bits_Div64.f
    rw [if_neg (by omega), if_neg (by omega), if_neg h0, hlead, Option.bind_some, w1, if_pos (by omega), w2, if_pos (by omega), sy, sl, sh', sr, or64 s (by omega) _ _ hhP hm0 (by omega) f3 f2, if_neg (by omega)]
    rw [hz (k + 1) hk, f5, Int.mul_ediv_mul_of_pos_left _ _ hP]
end Go.Proofs.Ytfgnhghadghdkaa.Pure
