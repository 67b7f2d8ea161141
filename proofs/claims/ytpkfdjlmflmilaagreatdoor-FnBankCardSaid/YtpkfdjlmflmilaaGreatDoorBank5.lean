-- Texts of this seat, cut down to what the claim's theorem reaches and joined (by shake.py).
import Derived.Deep.QuietTactic
import Derived.Deep.RegionLaw
import Derived.Test.YtpkfdjlmflmilaaGreatDoorBank2
import Derived.Test.YtpkfdjlmflmilaaGreatDoorBank3
import Derived.Test.YtpkfdjlmflmilaaGreatDoorBank4
section
namespace Go.Proofs.YtpkfdjlmflmilaaGreatDoor.Q
open Go.RowKit Go.Proofs.YtpkfdjlmflmilaaGreatDoorW.PrintWords Go.Proofs.YtpkfdjlmflmilaaGreatDoorW.PrintLast Go.Proofs.YtpkfdjlmflmilaaGreatDoorW.PrintMore Go.Proofs.YtpkfdjlmflmilaaGreatDoor.Pure
set_option linter.unusedVariables false
set_option linter.unusedSimpArgs false
theorem fdB_cond (l : List S56) (a : ByteArray) : (lbN l a < l.length ∧ ((l.getD (lbN l a) z56).f0.toList == a.toList) = true) ↔ fdB l a = true := by
  unfold fdB
  rw [Bool.and_eq_true, decide_eq_true_iff, Lib.toList_data, Lib.toList_data]
theorem dropT_eq (l : List S56) (a : ByteArray) : dropT l (lbN l a) a = dropN l a := by
  unfold dropT dropN
  by_cases h : fdB l a = true
  · rw [if_pos h, if_pos ((fdB_cond l a).2 h)]
  · rw [if_neg h, if_neg (fun e => h ((fdB_cond l a).1 e))]
theorem putT_eq (l : List S56) (a v : ByteArray) : putT l (lbN l a) a v = putN l a v := by
  unfold putT putN
  by_cases h : fdB l a = true
  · rw [if_pos h, if_pos ((fdB_cond l a).2 h)]
  · rw [if_neg h, if_neg (fun e => h ((fdB_cond l a).1 e))]
theorem RV_below {W W' : World} {v : Value} {r : List S56} (h : RV W v r) (hb : Below W.heap.size W W') : RV W' v r := by
  obtain ⟨A, c, rfl, hc, hC⟩ := h
  exact ⟨A, c, rfl, hc, Kd.C_below hC hb⟩
theorem dig_eq (m : Nat) (hm : m ≤ 1000000000000000000) : spec_l00Digits.f 30 (m : Int) = some (itoaT (m : Int)) := by
  have h30 : (10 : Nat) ^ 30 = 1000000000000000000000000000000 := by decide
  rw [digits_eq 30 m (by omega) (by omega) (by omega) (by omega), itoaT_num]
  rfl
set_option maxHeartbeats 8000000 in
set_option maxRecDepth 100000 in
theorem l05Write_calls (A0 : Option Addr) (c0 : Nat) (l0 : List S56) (a1 : ByteArray) (n : Int) (w : World) (hr0 : Kd.C k56 w A0 l0.length l0) (hc0 : l0.length ≤ c0) (hl : l0.length ≤ 5000) (h0 : 0 ≤ n) (h1 : n ≤ 1000000000000000000) :
    Calls Tryz.prog 87 #[.slice A0 l0.length c0, .string a1, .int .i64 n] w fun e w' => ∃ v, e = .returned (.tuple #[v, .int .i64 (wrN l0 a1 n).2]) ∧ RO w.heap.size (.slice A0 l0.length c0) l0 w' v (wrN l0 a1 n).1 ∧ Below w.heap.size w w' := by
  have hat := spec_at l0 a1 (by omega) (l0.length + 1) (by omega)
  have hle := lbN_le l0 a1
  by_cases hz : n = 0
  · subst hz
    have HD := l03Drop_calls (l0.length + 1) A0 c0 l0 a1 (lbN l0 a1) w hr0 hc0 hat hle (by omega)
    rw [dropT_eq] at HD
    have e : wrN l0 a1 0 = ((dropN l0 a1).1, 0) := by unfold wrN; rw [if_pos rfl]
    rw [e]
    clear e hat hle hr0 hc0
    generalize (dropN l0 a1).1 = r1 at *
    generalize (dropN l0 a1).2 = r2 at *
    generalize l0.length = m at *
    have HX := Aside0.mk HD
    clear HD
    go_enter Tryz.func87, Tryz.ntmps87
    go_wp2_with (go_at_call 106; refine HX.out.mono ?_; rintro e w1 ⟨v, rfl, hRV, hb1⟩; have HR1 := Aside0.mk hRV; have HB1 := Aside0.mk hb1; clear hRV hb1)
    go_ret2
    exact ⟨_, rfl, HR1.out, HB1.out⟩
  · obtain ⟨d, rfl⟩ := Int.eq_ofNat_of_zero_le h0
    have HDG := Aside0.mk (spec_l00Digits.calls 30 (d : Int) _ w (dig_eq d (by omega)))
    have HP : ∀ W, Kd.C k56 W A0 l0.length l0 → _ := fun W hr => l03Put_calls (l0.length + 1) A0 c0 l0 a1 (itoaT ((d : Nat) : Int)) (lbN l0 a1) W hr hc0 hat hle (by omega)
    rw [putT_eq] at HP
    have e : wrN l0 a1 ((d : Nat) : Int) = putN l0 a1 (itoaT ((d : Nat) : Int)) := by unfold wrN; rw [if_neg hz]
    rw [e]
    clear e hat hle
    have HC := Aside0.mk hr0
    have HX := Aside0.mk HP
    clear HP hr0
    generalize (putN l0 a1 (itoaT ((d : Nat) : Int))).1 = r1 at *
    generalize (putN l0 a1 (itoaT ((d : Nat) : Int))).2 = r2 at *
    generalize itoaT ((d : Nat) : Int) = t at *
    generalize ((d : Nat) : Int) = n at *
    have hz1 : (n == 0) = false := by simpa using hz
    have hz2 : (n != 0) = true := by simpa using hz
    clear hz
    go_enter Tryz.func87, Tryz.ntmps87
    go_wp2_with (first
      | (go_at_call 108; refine HDG.out.mono ?_; rintro e w1 ⟨rfl, hb1⟩; have HB1 := Aside0.mk hb1; clear hb1)
      | (go_at_call 107; refine (HX.out _ (Kd.C_below HC.out HB1.out)).mono ?_; rintro e w2 ⟨v, rfl, hRV, hb2⟩; have HR2 := Aside0.mk hRV; have HB2 := Aside0.mk hb2; clear hRV hb2))
    go_ret2
    exact ⟨_, rfl, RO_lower HR2.out HB1.out.size, HB1.out.trans (HB2.out.mono HB1.out.size)⟩
set_option maxHeartbeats 8000000 in
set_option maxRecDepth 100000 in
theorem l05Add_calls (A0 : Option Addr) (c0 : Nat) (l0 : List S56) (a1 : ByteArray) (n : Int) (w : World) (hr0 : Kd.C k56 w A0 l0.length l0) (hc0 : l0.length ≤ c0) (hl : l0.length ≤ 5000) (hv : okV l0) (h0 : -1000000000000000000 ≤ n) (h1 : n ≤ 1000000000000000000) :
    Calls Tryz.prog 58 #[.slice A0 l0.length c0, .string a1, .int .i64 n] w fun e w' => ∃ v, e = .returned (.tuple #[v, .int .i64 (addN l0 a1 n).2]) ∧ RO w.heap.size (.slice A0 l0.length c0) l0 w' v (addN l0 a1 n).1 ∧ Below w.heap.size w w' := by
  have HRD := Aside0.mk (spec_l05Read.calls 140000 A0 c0 l0 a1 _ w hr0 hc0 (spec_am hv (by omega) a1 140000 (by omega)))
  have hrg := amN_range l0 a1
  have HC := Aside0.mk hr0
  have HK := Aside0.mk hc0
  have HL := Aside0.mk hl
  have hW : ∀ y W, amN l0 a1 + n = y → Kd.C k56 W A0 l0.length l0 → 0 ≤ y → y ≤ 1000000000000000000 → _ := fun y W _ hr g0 g1 => l05Write_calls A0 c0 l0 a1 y W hr hc0 hl g0 g1
  have HX := Aside0.mk hW
  clear hW
  unfold addN
  generalize amN l0 a1 = x at *
  have hw : wrap64 (x + n) = x + n := by unfold wrap64; omega
  rw [← hw]
  generalize hy : wrap64 (x + n) = y at hw ⊢
  have HY := Aside0.mk hw.symm
  have hxy : -1000000000000000000 ≤ y ∧ y ≤ 2000000000000000000 := by omega
  clear hw
  clear h0 h1 hrg hr0 hc0 hl hv
  by_cases c1 : y < 0
  · rw [if_pos c1]
    have c1b : decide (y < 0) = true := decide_eq_true c1
    clear c1 hxy
    clear HX
    generalize hlen : l0.length = m at *
    go_enter Tryz.func58, Tryz.ntmps58
    go_wp2_with (go_at_call 46; refine HRD.out.mono ?_; rintro e w1 ⟨rfl, hb1⟩; have HB1 := Aside0.mk hb1; clear hb1)
    go_ret2
    exact ⟨_, rfl, .inl ⟨rfl, rfl⟩, HB1.out⟩
  · rw [if_neg c1]
    have c1b : decide (y < 0) = false := decide_eq_false c1
    by_cases c2 : y > 1000000000000000000
    · rw [if_pos c2]
      have c2b : decide (1000000000000000000 < y) = true := decide_eq_true c2
      clear c1 c2 hxy HX
      generalize hlen : l0.length = m at *
      go_enter Tryz.func58, Tryz.ntmps58
      go_wp2_with (go_at_call 46; refine HRD.out.mono ?_; rintro e w1 ⟨rfl, hb1⟩; have HB1 := Aside0.mk hb1; clear hb1)
      go_ret2
      exact ⟨_, rfl, .inl ⟨rfl, rfl⟩, HB1.out⟩
    · rw [if_neg c2]
      have c2b : decide (1000000000000000000 < y) = false := decide_eq_false c2
      have g0 := Aside0.mk (show 0 ≤ y by omega)
      have g1 := Aside0.mk (show y ≤ 1000000000000000000 by omega)
      clear c1 c2 hxy
      generalize hlen : l0.length = m at *
      go_enter Tryz.func58, Tryz.ntmps58
      go_wp2_with (first
        | (go_at_call 46; refine HRD.out.mono ?_; rintro e w1 ⟨rfl, hb1⟩; have HB1 := Aside0.mk hb1; clear hb1)
        | (go_at_call 87; refine (HX.out y _ HY.out (Kd.C_below HC.out HB1.out) g0.out g1.out).mono ?_; rintro e w2 ⟨v, rfl, hRV, hb2⟩; have HR2 := Aside0.mk hRV; have HB2 := Aside0.mk hb2; clear hRV hb2))
      go_ret2
      exact ⟨_, rfl, RO_lower HR2.out HB1.out.size, HB1.out.trans (HB2.out.mono HB1.out.size)⟩
end Go.Proofs.YtpkfdjlmflmilaaGreatDoor.Q
end
section
namespace Go.Proofs.YtpkfdjlmflmilaaGreatDoor.Q
open Go.RowKit Go.Proofs.YtpkfdjlmflmilaaGreatDoorW.PrintWords Go.Proofs.YtpkfdjlmflmilaaGreatDoorW.PrintLast Go.Proofs.YtpkfdjlmflmilaaGreatDoorW.PrintMore Go.Proofs.YtpkfdjlmflmilaaGreatDoor.Pure
set_option linter.unusedVariables false
set_option linter.unusedSimpArgs false
theorem zs2 (d : ByteArray) : ((⟨#[98, 47]⟩ : ByteArray) ++ d).size = 2 + d.size := by rw [ByteArray.size_append]; rfl
theorem zs3 (d : ByteArray) : (((⟨#[98, 47]⟩ : ByteArray) ++ d) ++ (⟨#[47]⟩ : ByteArray)).size = 3 + d.size := by rw [ByteArray.size_append, zs2, show (⟨#[47]⟩ : ByteArray).size = 1 from rfl]; omega
theorem spec_bkey (a d : ByteArray) (ha : a.size ≤ 65536) (hd : d.size ≤ 65536) : spec_l05Key.f a d = some (bKey a d) := by
  unfold spec_l05Key.f bKey
  rw [zs2, zs3, if_pos (by omega), if_pos (by omega), if_pos (by omega)]
theorem spec_skey (d : ByteArray) (hd : d.size ≤ 65536) : spec_l05Supply.f d = some (sKey d) := by
  unfold spec_l05Supply.f sKey
  rw [if_pos (by omega)]
/-- The second change, at whatever the first gave. -/
theorem add_RV {W : World} {v0 : Value} {r : List S56} (a : ByteArray) (n : Int) (h : RV W v0 r) (hl : r.length ≤ 5000) (hv : okV r) (h0 : -1000000000000000000 ≤ n) (h1 : n ≤ 1000000000000000000) :
    Calls Tryz.prog 58 #[v0, .string a, .int .i64 n] W fun e w' => ∃ v, e = .returned (.tuple #[v, .int .i64 (addN r a n).2]) ∧ RO W.heap.size v0 r w' v (addN r a n).1 ∧ Below W.heap.size W w' := by
  obtain ⟨A, c, rfl, hc, hC⟩ := h
  exact l05Add_calls A c r a n W hC hc hl hv h0 h1

set_option maxHeartbeats 8000000 in
set_option maxRecDepth 100000 in
theorem l05Burn_or (A0 : Option Addr) (c0 : Nat) (l0 : List S56) (account : ByteArray) (denom : ByteArray) (n : Int) (w : World) (hr0 : Kd.C k56 w A0 l0.length l0) (hc0 : l0.length ≤ c0) (hl : l0.length ≤ 4500) (hv : okV l0) (haccount : account.size ≤ 65536) (hdenom : denom.size ≤ 65536) (h0 : 1 ≤ n) (h1 : n ≤ 1000000000000000000) :
    Calls Tryz.prog 32 #[.slice A0 l0.length c0, .string account, .string denom, .int .i64 n] w fun e w' => ∃ v, e = .returned (.tuple #[v, .int .i64 (twoN l0 (bKey account denom) (-n) (sKey denom) (-n)).2]) ∧ RO w.heap.size (.slice A0 l0.length c0) l0 w' v (twoN l0 (bKey account denom) (-n) (sKey denom) (-n)).1 ∧ Below w.heap.size w w' := by
  have HK_account := Aside0.mk (fun W => spec_l05Key.calls account denom (bKey account denom) W (spec_bkey account denom haccount hdenom))
  have HK_s := Aside0.mk (fun W => spec_l05Supply.calls denom (sKey denom) W (spec_skey denom hdenom))
  have HRV : ∀ W, Below w.heap.size w W → RV W (.slice A0 l0.length c0) l0 := fun W hb => ⟨A0, c0, rfl, hc0, Kd.C_below hr0 hb⟩
  have hlen := add_len l0 (bKey account denom) (-n)
  have hok := add_ok hv (bKey account denom) (-n)
  have X1 := Aside0.mk (fun (W : World) (h : RV W (.slice A0 l0.length c0) l0) => add_RV (bKey account denom) (-n) h (by omega) hv (by omega) (by omega))
  have X2 := Aside0.mk (fun (W : World) (v : Value) (h : RV W v (addN l0 (bKey account denom) (-n)).1) => add_RV (sKey denom) (-n) h (by omega) hok (by omega) (by omega))
  unfold twoN
  generalize bKey account denom = q1 at *
  generalize sKey denom = q2 at *
  obtain ⟨r1, e1, hp1⟩ : ∃ r e, addN l0 q1 (-n) = (r, e) := ⟨_, _, rfl⟩
  rw [hp1] at hlen hok X1 X2 ⊢
  obtain ⟨r2, e2, hp2⟩ : ∃ r e, addN r1 q2 (-n) = (r, e) := ⟨_, _, rfl⟩
  rw [hp2] at X2 ⊢
  simp only [] at X1 X2 ⊢
  clear hp1 hp2 hlen hok hl hv hr0 hc0 haccount hdenom
  have hn : wrap64 (-n) = -n := by unfold wrap64; omega
  generalize hm : -n = m at X1 X2 hn
  have hn2 : wrap64 (-n) = m := by rw [hm]; exact hn
  clear hn hm
  clear h0 h1
  have HR := Aside0.mk HRV
  clear HRV
  generalize l0.length = len at *
  by_cases c1 : e1 = 0
  · subst c1
    rw [if_pos rfl]
    by_cases c_ : e2 = 0
    · subst c_
      rw [if_pos rfl]
      go_enter Tryz.func32, Tryz.ntmps32
      go_wp2_with (first | (go_at_call 59; refine (HK_account.out _).mono ?_; rintro e w1 ⟨rfl, hd1⟩; have HB1 := Aside0.mk hd1.below; clear hd1) | (go_at_call 58; refine (X1.out _ (HR.out _ HB1.out)).mono ?_; rintro e w2 ⟨v2, rfl, hR2, hb2⟩; have HB2 := Aside0.mk (HB1.out.trans (hb2.mono HB1.out.size)); have HO2 := Aside0.mk (RO_lower hR2 HB1.out.size); have HR2 := Aside0.mk (RO_reads hR2 (HR.out _ HB2.out)); clear hR2 hb2 HB1) | (go_at_call 47; refine (HK_s.out _).mono ?_; rintro e w3 ⟨rfl, hd3⟩; have HR3 := Aside0.mk (RV_below HR2.out hd3.below); have HO3 := Aside0.mk (RO_below HO2.out hd3.below); have HB3 := Aside0.mk (HB2.out.trans (hd3.below.mono HB2.out.size)); clear hd3 HB2 HR2 HO2) | (go_at_call 58; refine (X2.out _ _ HR3.out).mono ?_; rintro e w4 ⟨v4, rfl, hR4, hb4⟩; have HR4 := Aside0.mk (RO_trans HO3.out hR4 hb4 HB3.out.size); have HB4 := Aside0.mk (HB3.out.trans (hb4.mono HB3.out.size)); clear hR4 hb4 HB3))
      go_ret2
      exact ⟨_, rfl, HR4.out, HB4.out⟩
    · rw [if_neg c_]
      have z1 : (e2 == 0) = false := by simpa using c_
      have z2 : (e2 != 0) = true := by simpa using c_
      clear c_
      go_enter Tryz.func32, Tryz.ntmps32
      go_wp2_with (first | (go_at_call 59; refine (HK_account.out _).mono ?_; rintro e w1 ⟨rfl, hd1⟩; have HB1 := Aside0.mk hd1.below; clear hd1) | (go_at_call 58; refine (X1.out _ (HR.out _ HB1.out)).mono ?_; rintro e w2 ⟨v2, rfl, hR2, hb2⟩; have HB2 := Aside0.mk (HB1.out.trans (hb2.mono HB1.out.size)); have HO2 := Aside0.mk (RO_lower hR2 HB1.out.size); have HR2 := Aside0.mk (RO_reads hR2 (HR.out _ HB2.out)); clear hR2 hb2 HB1) | (go_at_call 47; refine (HK_s.out _).mono ?_; rintro e w3 ⟨rfl, hd3⟩; have HR3 := Aside0.mk (RV_below HR2.out hd3.below); have HO3 := Aside0.mk (RO_below HO2.out hd3.below); have HB3 := Aside0.mk (HB2.out.trans (hd3.below.mono HB2.out.size)); clear hd3 HB2 HR2 HO2) | (go_at_call 58; refine (X2.out _ _ HR3.out).mono ?_; rintro e w4 ⟨v4, rfl, hR4, hb4⟩; have HR4 := Aside0.mk (RO_trans HO3.out hR4 hb4 HB3.out.size); have HB4 := Aside0.mk (HB3.out.trans (hb4.mono HB3.out.size)); clear hR4 hb4 HB3))
      go_ret2
      exact ⟨_, rfl, .inl ⟨rfl, rfl⟩, HB4.out⟩
  · rw [if_neg c1]
    have c_ := c1
    clear c1
    have z1 : (e1 == 0) = false := by simpa using c_
    have z2 : (e1 != 0) = true := by simpa using c_
    clear c_
    go_enter Tryz.func32, Tryz.ntmps32
    go_wp2_with (first | (go_at_call 59; refine (HK_account.out _).mono ?_; rintro e w1 ⟨rfl, hd1⟩; have HB1 := Aside0.mk hd1.below; clear hd1) | (go_at_call 58; refine (X1.out _ (HR.out _ HB1.out)).mono ?_; rintro e w2 ⟨v2, rfl, hR2, hb2⟩; have HB2 := Aside0.mk (HB1.out.trans (hb2.mono HB1.out.size)); have HO2 := Aside0.mk (RO_lower hR2 HB1.out.size); have HR2 := Aside0.mk (RO_reads hR2 (HR.out _ HB2.out)); clear hR2 hb2 HB1))
    go_ret2
    exact ⟨_, rfl, .inl ⟨rfl, rfl⟩, HB2.out⟩
theorem l05Burn_calls (A0 : Option Addr) (c0 : Nat) (l0 : List S56) (account : ByteArray) (denom : ByteArray) (n : Int) (w : World) (hr0 : Kd.C k56 w A0 l0.length l0) (hc0 : l0.length ≤ c0) (hl : l0.length ≤ 4500) (hv : okV l0) (haccount : account.size ≤ 65536) (hdenom : denom.size ≤ 65536) (h0 : 1 ≤ n) (h1 : n ≤ 1000000000000000000) :
    Calls Tryz.prog 32 #[.slice A0 l0.length c0, .string account, .string denom, .int .i64 n] w fun e w' => ∃ v, e = .returned (.tuple #[v, .int .i64 (twoN l0 (bKey account denom) (-n) (sKey denom) (-n)).2]) ∧ RV w' v (twoN l0 (bKey account denom) (-n) (sKey denom) (-n)).1 ∧ Below w.heap.size w w' := by
  refine (l05Burn_or A0 c0 l0 account denom n w hr0 hc0 hl hv haccount hdenom h0 h1).mono ?_
  rintro e w' ⟨v, rfl, hR, hb⟩
  exact ⟨v, rfl, RO_reads hR ⟨A0, c0, rfl, hc0, Kd.C_below hr0 hb⟩, hb⟩
set_option maxHeartbeats 8000000 in
set_option maxRecDepth 100000 in
theorem l05Mint_or (A0 : Option Addr) (c0 : Nat) (l0 : List S56) (account : ByteArray) (denom : ByteArray) (n : Int) (w : World) (hr0 : Kd.C k56 w A0 l0.length l0) (hc0 : l0.length ≤ c0) (hl : l0.length ≤ 4500) (hv : okV l0) (haccount : account.size ≤ 65536) (hdenom : denom.size ≤ 65536) (h0 : 1 ≤ n) (h1 : n ≤ 1000000000000000000) :
    Calls Tryz.prog 38 #[.slice A0 l0.length c0, .string account, .string denom, .int .i64 n] w fun e w' => ∃ v, e = .returned (.tuple #[v, .int .i64 (twoN l0 (sKey denom) n (bKey account denom) n).2]) ∧ RO w.heap.size (.slice A0 l0.length c0) l0 w' v (twoN l0 (sKey denom) n (bKey account denom) n).1 ∧ Below w.heap.size w w' := by
  have HK_s := Aside0.mk (fun W => spec_l05Supply.calls denom (sKey denom) W (spec_skey denom hdenom))
  have HK_account := Aside0.mk (fun W => spec_l05Key.calls account denom (bKey account denom) W (spec_bkey account denom haccount hdenom))
  have HRV : ∀ W, Below w.heap.size w W → RV W (.slice A0 l0.length c0) l0 := fun W hb => ⟨A0, c0, rfl, hc0, Kd.C_below hr0 hb⟩
  have hlen := add_len l0 (sKey denom) n
  have hok := add_ok hv (sKey denom) n
  have X1 := Aside0.mk (fun (W : World) (h : RV W (.slice A0 l0.length c0) l0) => add_RV (sKey denom) n h (by omega) hv (by omega) (by omega))
  have X2 := Aside0.mk (fun (W : World) (v : Value) (h : RV W v (addN l0 (sKey denom) n).1) => add_RV (bKey account denom) n h (by omega) hok (by omega) (by omega))
  unfold twoN
  generalize sKey denom = q1 at *
  generalize bKey account denom = q2 at *
  obtain ⟨r1, e1, hp1⟩ : ∃ r e, addN l0 q1 n = (r, e) := ⟨_, _, rfl⟩
  rw [hp1] at hlen hok X1 X2 ⊢
  obtain ⟨r2, e2, hp2⟩ : ∃ r e, addN r1 q2 n = (r, e) := ⟨_, _, rfl⟩
  rw [hp2] at X2 ⊢
  simp only [] at X1 X2 ⊢
  clear hp1 hp2 hlen hok hl hv hr0 hc0 haccount hdenom
  clear h0 h1
  have HR := Aside0.mk HRV
  clear HRV
  generalize l0.length = len at *
  by_cases c1 : e1 = 0
  · subst c1
    rw [if_pos rfl]
    by_cases c_ : e2 = 0
    · subst c_
      rw [if_pos rfl]
      go_enter Tryz.func38, Tryz.ntmps38
      go_wp2_with (first | (go_at_call 47; refine (HK_s.out _).mono ?_; rintro e w1 ⟨rfl, hd1⟩; have HB1 := Aside0.mk hd1.below; clear hd1) | (go_at_call 58; refine (X1.out _ (HR.out _ HB1.out)).mono ?_; rintro e w2 ⟨v2, rfl, hR2, hb2⟩; have HB2 := Aside0.mk (HB1.out.trans (hb2.mono HB1.out.size)); have HO2 := Aside0.mk (RO_lower hR2 HB1.out.size); have HR2 := Aside0.mk (RO_reads hR2 (HR.out _ HB2.out)); clear hR2 hb2 HB1) | (go_at_call 59; refine (HK_account.out _).mono ?_; rintro e w3 ⟨rfl, hd3⟩; have HR3 := Aside0.mk (RV_below HR2.out hd3.below); have HO3 := Aside0.mk (RO_below HO2.out hd3.below); have HB3 := Aside0.mk (HB2.out.trans (hd3.below.mono HB2.out.size)); clear hd3 HB2 HR2 HO2) | (go_at_call 58; refine (X2.out _ _ HR3.out).mono ?_; rintro e w4 ⟨v4, rfl, hR4, hb4⟩; have HR4 := Aside0.mk (RO_trans HO3.out hR4 hb4 HB3.out.size); have HB4 := Aside0.mk (HB3.out.trans (hb4.mono HB3.out.size)); clear hR4 hb4 HB3))
      go_ret2
      exact ⟨_, rfl, HR4.out, HB4.out⟩
    · rw [if_neg c_]
      have z1 : (e2 == 0) = false := by simpa using c_
      have z2 : (e2 != 0) = true := by simpa using c_
      clear c_
      go_enter Tryz.func38, Tryz.ntmps38
      go_wp2_with (first | (go_at_call 47; refine (HK_s.out _).mono ?_; rintro e w1 ⟨rfl, hd1⟩; have HB1 := Aside0.mk hd1.below; clear hd1) | (go_at_call 58; refine (X1.out _ (HR.out _ HB1.out)).mono ?_; rintro e w2 ⟨v2, rfl, hR2, hb2⟩; have HB2 := Aside0.mk (HB1.out.trans (hb2.mono HB1.out.size)); have HO2 := Aside0.mk (RO_lower hR2 HB1.out.size); have HR2 := Aside0.mk (RO_reads hR2 (HR.out _ HB2.out)); clear hR2 hb2 HB1) | (go_at_call 59; refine (HK_account.out _).mono ?_; rintro e w3 ⟨rfl, hd3⟩; have HR3 := Aside0.mk (RV_below HR2.out hd3.below); have HO3 := Aside0.mk (RO_below HO2.out hd3.below); have HB3 := Aside0.mk (HB2.out.trans (hd3.below.mono HB2.out.size)); clear hd3 HB2 HR2 HO2) | (go_at_call 58; refine (X2.out _ _ HR3.out).mono ?_; rintro e w4 ⟨v4, rfl, hR4, hb4⟩; have HR4 := Aside0.mk (RO_trans HO3.out hR4 hb4 HB3.out.size); have HB4 := Aside0.mk (HB3.out.trans (hb4.mono HB3.out.size)); clear hR4 hb4 HB3))
      go_ret2
      exact ⟨_, rfl, .inl ⟨rfl, rfl⟩, HB4.out⟩
  · rw [if_neg c1]
    have c_ := c1
    clear c1
    have z1 : (e1 == 0) = false := by simpa using c_
    have z2 : (e1 != 0) = true := by simpa using c_
    clear c_
    go_enter Tryz.func38, Tryz.ntmps38
    go_wp2_with (first | (go_at_call 47; refine (HK_s.out _).mono ?_; rintro e w1 ⟨rfl, hd1⟩; have HB1 := Aside0.mk hd1.below; clear hd1) | (go_at_call 58; refine (X1.out _ (HR.out _ HB1.out)).mono ?_; rintro e w2 ⟨v2, rfl, hR2, hb2⟩; have HB2 := Aside0.mk (HB1.out.trans (hb2.mono HB1.out.size)); have HO2 := Aside0.mk (RO_lower hR2 HB1.out.size); have HR2 := Aside0.mk (RO_reads hR2 (HR.out _ HB2.out)); clear hR2 hb2 HB1))
    go_ret2
    exact ⟨_, rfl, .inl ⟨rfl, rfl⟩, HB2.out⟩
theorem l05Mint_calls (A0 : Option Addr) (c0 : Nat) (l0 : List S56) (account : ByteArray) (denom : ByteArray) (n : Int) (w : World) (hr0 : Kd.C k56 w A0 l0.length l0) (hc0 : l0.length ≤ c0) (hl : l0.length ≤ 4500) (hv : okV l0) (haccount : account.size ≤ 65536) (hdenom : denom.size ≤ 65536) (h0 : 1 ≤ n) (h1 : n ≤ 1000000000000000000) :
    Calls Tryz.prog 38 #[.slice A0 l0.length c0, .string account, .string denom, .int .i64 n] w fun e w' => ∃ v, e = .returned (.tuple #[v, .int .i64 (twoN l0 (sKey denom) n (bKey account denom) n).2]) ∧ RV w' v (twoN l0 (sKey denom) n (bKey account denom) n).1 ∧ Below w.heap.size w w' := by
  refine (l05Mint_or A0 c0 l0 account denom n w hr0 hc0 hl hv haccount hdenom h0 h1).mono ?_
  rintro e w' ⟨v, rfl, hR, hb⟩
  exact ⟨v, rfl, RO_reads hR ⟨A0, c0, rfl, hc0, Kd.C_below hr0 hb⟩, hb⟩
set_option maxHeartbeats 8000000 in
set_option maxRecDepth 100000 in
theorem l05Move_or (A0 : Option Addr) (c0 : Nat) (l0 : List S56) (from_ : ByteArray) (to_ : ByteArray) (denom : ByteArray) (n : Int) (w : World) (hr0 : Kd.C k56 w A0 l0.length l0) (hc0 : l0.length ≤ c0) (hl : l0.length ≤ 4500) (hv : okV l0) (hfrom_ : from_.size ≤ 65536) (hto_ : to_.size ≤ 65536) (hdenom : denom.size ≤ 65536) (h0 : 1 ≤ n) (h1 : n ≤ 1000000000000000000) :
    Calls Tryz.prog 40 #[.slice A0 l0.length c0, .string from_, .string to_, .string denom, .int .i64 n] w fun e w' => ∃ v, e = .returned (.tuple #[v, .int .i64 (twoN l0 (bKey from_ denom) (-n) (bKey to_ denom) n).2]) ∧ RO w.heap.size (.slice A0 l0.length c0) l0 w' v (twoN l0 (bKey from_ denom) (-n) (bKey to_ denom) n).1 ∧ Below w.heap.size w w' := by
  have HK_from_ := Aside0.mk (fun W => spec_l05Key.calls from_ denom (bKey from_ denom) W (spec_bkey from_ denom hfrom_ hdenom))
  have HK_to_ := Aside0.mk (fun W => spec_l05Key.calls to_ denom (bKey to_ denom) W (spec_bkey to_ denom hto_ hdenom))
  have HRV : ∀ W, Below w.heap.size w W → RV W (.slice A0 l0.length c0) l0 := fun W hb => ⟨A0, c0, rfl, hc0, Kd.C_below hr0 hb⟩
  have hlen := add_len l0 (bKey from_ denom) (-n)
  have hok := add_ok hv (bKey from_ denom) (-n)
  have X1 := Aside0.mk (fun (W : World) (h : RV W (.slice A0 l0.length c0) l0) => add_RV (bKey from_ denom) (-n) h (by omega) hv (by omega) (by omega))
  have X2 := Aside0.mk (fun (W : World) (v : Value) (h : RV W v (addN l0 (bKey from_ denom) (-n)).1) => add_RV (bKey to_ denom) n h (by omega) hok (by omega) (by omega))
  unfold twoN
  generalize bKey from_ denom = q1 at *
  generalize bKey to_ denom = q2 at *
  obtain ⟨r1, e1, hp1⟩ : ∃ r e, addN l0 q1 (-n) = (r, e) := ⟨_, _, rfl⟩
  rw [hp1] at hlen hok X1 X2 ⊢
  obtain ⟨r2, e2, hp2⟩ : ∃ r e, addN r1 q2 n = (r, e) := ⟨_, _, rfl⟩
  rw [hp2] at X2 ⊢
  simp only [] at X1 X2 ⊢
  clear hp1 hp2 hlen hok hl hv hr0 hc0 hfrom_ hto_ hdenom
  have hn : wrap64 (-n) = -n := by unfold wrap64; omega
  generalize hm : -n = m at X1 X2 hn
  have hn2 : wrap64 (-n) = m := by rw [hm]; exact hn
  clear hn hm
  clear h0 h1
  have HR := Aside0.mk HRV
  clear HRV
  generalize l0.length = len at *
  by_cases c1 : e1 = 0
  · subst c1
    rw [if_pos rfl]
    by_cases c_ : e2 = 0
    · subst c_
      rw [if_pos rfl]
      go_enter Tryz.func40, Tryz.ntmps40
      go_wp2_with (first | (go_at_call 59; refine (HK_from_.out _).mono ?_; rintro e w1 ⟨rfl, hd1⟩; have HB1 := Aside0.mk hd1.below; clear hd1) | (go_at_call 58; refine (X1.out _ (HR.out _ HB1.out)).mono ?_; rintro e w2 ⟨v2, rfl, hR2, hb2⟩; have HB2 := Aside0.mk (HB1.out.trans (hb2.mono HB1.out.size)); have HO2 := Aside0.mk (RO_lower hR2 HB1.out.size); have HR2 := Aside0.mk (RO_reads hR2 (HR.out _ HB2.out)); clear hR2 hb2 HB1) | (go_at_call 59; refine (HK_to_.out _).mono ?_; rintro e w3 ⟨rfl, hd3⟩; have HR3 := Aside0.mk (RV_below HR2.out hd3.below); have HO3 := Aside0.mk (RO_below HO2.out hd3.below); have HB3 := Aside0.mk (HB2.out.trans (hd3.below.mono HB2.out.size)); clear hd3 HB2 HR2 HO2) | (go_at_call 58; refine (X2.out _ _ HR3.out).mono ?_; rintro e w4 ⟨v4, rfl, hR4, hb4⟩; have HR4 := Aside0.mk (RO_trans HO3.out hR4 hb4 HB3.out.size); have HB4 := Aside0.mk (HB3.out.trans (hb4.mono HB3.out.size)); clear hR4 hb4 HB3))
      go_ret2
      exact ⟨_, rfl, HR4.out, HB4.out⟩
    · rw [if_neg c_]
      have z1 : (e2 == 0) = false := by simpa using c_
      have z2 : (e2 != 0) = true := by simpa using c_
      clear c_
      go_enter Tryz.func40, Tryz.ntmps40
      go_wp2_with (first | (go_at_call 59; refine (HK_from_.out _).mono ?_; rintro e w1 ⟨rfl, hd1⟩; have HB1 := Aside0.mk hd1.below; clear hd1) | (go_at_call 58; refine (X1.out _ (HR.out _ HB1.out)).mono ?_; rintro e w2 ⟨v2, rfl, hR2, hb2⟩; have HB2 := Aside0.mk (HB1.out.trans (hb2.mono HB1.out.size)); have HO2 := Aside0.mk (RO_lower hR2 HB1.out.size); have HR2 := Aside0.mk (RO_reads hR2 (HR.out _ HB2.out)); clear hR2 hb2 HB1) | (go_at_call 59; refine (HK_to_.out _).mono ?_; rintro e w3 ⟨rfl, hd3⟩; have HR3 := Aside0.mk (RV_below HR2.out hd3.below); have HO3 := Aside0.mk (RO_below HO2.out hd3.below); have HB3 := Aside0.mk (HB2.out.trans (hd3.below.mono HB2.out.size)); clear hd3 HB2 HR2 HO2) | (go_at_call 58; refine (X2.out _ _ HR3.out).mono ?_; rintro e w4 ⟨v4, rfl, hR4, hb4⟩; have HR4 := Aside0.mk (RO_trans HO3.out hR4 hb4 HB3.out.size); have HB4 := Aside0.mk (HB3.out.trans (hb4.mono HB3.out.size)); clear hR4 hb4 HB3))
      go_ret2
      exact ⟨_, rfl, .inl ⟨rfl, rfl⟩, HB4.out⟩
  · rw [if_neg c1]
    have c_ := c1
    clear c1
    have z1 : (e1 == 0) = false := by simpa using c_
    have z2 : (e1 != 0) = true := by simpa using c_
    clear c_
    go_enter Tryz.func40, Tryz.ntmps40
    go_wp2_with (first | (go_at_call 59; refine (HK_from_.out _).mono ?_; rintro e w1 ⟨rfl, hd1⟩; have HB1 := Aside0.mk hd1.below; clear hd1) | (go_at_call 58; refine (X1.out _ (HR.out _ HB1.out)).mono ?_; rintro e w2 ⟨v2, rfl, hR2, hb2⟩; have HB2 := Aside0.mk (HB1.out.trans (hb2.mono HB1.out.size)); have HO2 := Aside0.mk (RO_lower hR2 HB1.out.size); have HR2 := Aside0.mk (RO_reads hR2 (HR.out _ HB2.out)); clear hR2 hb2 HB1))
    go_ret2
    exact ⟨_, rfl, .inl ⟨rfl, rfl⟩, HB2.out⟩
theorem l05Move_calls (A0 : Option Addr) (c0 : Nat) (l0 : List S56) (from_ : ByteArray) (to_ : ByteArray) (denom : ByteArray) (n : Int) (w : World) (hr0 : Kd.C k56 w A0 l0.length l0) (hc0 : l0.length ≤ c0) (hl : l0.length ≤ 4500) (hv : okV l0) (hfrom_ : from_.size ≤ 65536) (hto_ : to_.size ≤ 65536) (hdenom : denom.size ≤ 65536) (h0 : 1 ≤ n) (h1 : n ≤ 1000000000000000000) :
    Calls Tryz.prog 40 #[.slice A0 l0.length c0, .string from_, .string to_, .string denom, .int .i64 n] w fun e w' => ∃ v, e = .returned (.tuple #[v, .int .i64 (twoN l0 (bKey from_ denom) (-n) (bKey to_ denom) n).2]) ∧ RV w' v (twoN l0 (bKey from_ denom) (-n) (bKey to_ denom) n).1 ∧ Below w.heap.size w w' := by
  refine (l05Move_or A0 c0 l0 from_ to_ denom n w hr0 hc0 hl hv hfrom_ hto_ hdenom h0 h1).mono ?_
  rintro e w' ⟨v, rfl, hR, hb⟩
  exact ⟨v, rfl, RO_reads hR ⟨A0, c0, rfl, hc0, Kd.C_below hr0 hb⟩, hb⟩
end Go.Proofs.YtpkfdjlmflmilaaGreatDoor.Q
end
section
namespace Go.Proofs.YtpkfdjlmflmilaaGreatDoor.Q
open Go.RowKit Go.Proofs.YtpkfdjlmflmilaaGreatDoorW.PrintWords Go.Proofs.YtpkfdjlmflmilaaGreatDoorW.PrintLast Go.Proofs.YtpkfdjlmflmilaaGreatDoorW.PrintMore Go.Proofs.YtpkfdjlmflmilaaGreatDoor.Pure
set_option linter.unusedVariables false
/-- What a change asks of its row. -/
def okVB (l : List S56) : Bool := l.all fun x => decide (x.f1.size ≤ 1000)
theorem okV_of {l : List S56} (h : okVB l = true) : okV l := fun x hx => of_decide_eq_true (List.all_eq_true.1 h x hx)
def spec_l05Burn.f (l0 : List S56) (a1 a2 : ByteArray) (a3 : Int) : Option (List S56 × Int) := if l0.length ≤ 4000 ∧ okVB l0 = true ∧ a1.size ≤ 65536 ∧ a2.size ≤ 65536 ∧ 1 ≤ a3 ∧ a3 ≤ 1000000000000000000 then some (twoN l0 (bKey a1 a2) (-a3) (sKey a2) (-a3)) else none
theorem spec_l05Burn.calls (A0 : Option Addr) (c0 : Nat) (l0 : List S56) (a1 a2 : ByteArray) (a3 : Int) (r1 : List S56) (r2 : Int) (w : World) (hr0 : Kd.C k56 w A0 l0.length l0) (hc0 : l0.length ≤ c0) (h : spec_l05Burn.f l0 a1 a2 a3 = some (r1, r2)) :
    Calls Tryz.prog 32 #[.slice A0 l0.length c0, .string a1, .string a2, .int .i64 a3] w fun e w' => ∃ v0_ : Value, e = .returned (.tuple #[v0_, .int .i64 r2]) ∧ RO w.heap.size (.slice A0 l0.length c0) l0 w' v0_ r1 ∧ Below w.heap.size w w' := by
  unfold spec_l05Burn.f at h
  by_cases hc : l0.length ≤ 4000 ∧ okVB l0 = true ∧ a1.size ≤ 65536 ∧ a2.size ≤ 65536 ∧ 1 ≤ a3 ∧ a3 ≤ 1000000000000000000
  · rw [if_pos hc] at h
    injection h with h
    have e1 : (twoN l0 (bKey a1 a2) (-a3) (sKey a2) (-a3)).1 = r1 := congrArg Prod.fst h
    have e2 : (twoN l0 (bKey a1 a2) (-a3) (sKey a2) (-a3)).2 = r2 := congrArg Prod.snd h
    rw [← e1, ← e2]
    obtain ⟨h1, h2, hs0, hs1, h3, h4⟩ := hc
    exact l05Burn_or A0 c0 l0 a1 a2 a3 w hr0 hc0 (by omega) (okV_of h2) hs0 hs1 h3 h4
  · rw [if_neg hc] at h
    cases h
def spec_l05Mint.f (l0 : List S56) (a1 a2 : ByteArray) (a3 : Int) : Option (List S56 × Int) := if l0.length ≤ 4000 ∧ okVB l0 = true ∧ a1.size ≤ 65536 ∧ a2.size ≤ 65536 ∧ 1 ≤ a3 ∧ a3 ≤ 1000000000000000000 then some (twoN l0 (sKey a2) a3 (bKey a1 a2) a3) else none
theorem spec_l05Mint.calls (A0 : Option Addr) (c0 : Nat) (l0 : List S56) (a1 a2 : ByteArray) (a3 : Int) (r1 : List S56) (r2 : Int) (w : World) (hr0 : Kd.C k56 w A0 l0.length l0) (hc0 : l0.length ≤ c0) (h : spec_l05Mint.f l0 a1 a2 a3 = some (r1, r2)) :
    Calls Tryz.prog 38 #[.slice A0 l0.length c0, .string a1, .string a2, .int .i64 a3] w fun e w' => ∃ v0_ : Value, e = .returned (.tuple #[v0_, .int .i64 r2]) ∧ RO w.heap.size (.slice A0 l0.length c0) l0 w' v0_ r1 ∧ Below w.heap.size w w' := by
  unfold spec_l05Mint.f at h
  by_cases hc : l0.length ≤ 4000 ∧ okVB l0 = true ∧ a1.size ≤ 65536 ∧ a2.size ≤ 65536 ∧ 1 ≤ a3 ∧ a3 ≤ 1000000000000000000
  · rw [if_pos hc] at h
    injection h with h
    have e1 : (twoN l0 (sKey a2) a3 (bKey a1 a2) a3).1 = r1 := congrArg Prod.fst h
    have e2 : (twoN l0 (sKey a2) a3 (bKey a1 a2) a3).2 = r2 := congrArg Prod.snd h
    rw [← e1, ← e2]
    obtain ⟨h1, h2, hs0, hs1, h3, h4⟩ := hc
    exact l05Mint_or A0 c0 l0 a1 a2 a3 w hr0 hc0 (by omega) (okV_of h2) hs0 hs1 h3 h4
  · rw [if_neg hc] at h
    cases h
def spec_l05Move.f (l0 : List S56) (a1 a2 a3 : ByteArray) (a4 : Int) : Option (List S56 × Int) := if l0.length ≤ 4000 ∧ okVB l0 = true ∧ a1.size ≤ 65536 ∧ a2.size ≤ 65536 ∧ a3.size ≤ 65536 ∧ 1 ≤ a4 ∧ a4 ≤ 1000000000000000000 then some (twoN l0 (bKey a1 a3) (-a4) (bKey a2 a3) a4) else none
theorem spec_l05Move.calls (A0 : Option Addr) (c0 : Nat) (l0 : List S56) (a1 a2 a3 : ByteArray) (a4 : Int) (r1 : List S56) (r2 : Int) (w : World) (hr0 : Kd.C k56 w A0 l0.length l0) (hc0 : l0.length ≤ c0) (h : spec_l05Move.f l0 a1 a2 a3 a4 = some (r1, r2)) :
    Calls Tryz.prog 40 #[.slice A0 l0.length c0, .string a1, .string a2, .string a3, .int .i64 a4] w fun e w' => ∃ v0_ : Value, e = .returned (.tuple #[v0_, .int .i64 r2]) ∧ RO w.heap.size (.slice A0 l0.length c0) l0 w' v0_ r1 ∧ Below w.heap.size w w' := by
  unfold spec_l05Move.f at h
  by_cases hc : l0.length ≤ 4000 ∧ okVB l0 = true ∧ a1.size ≤ 65536 ∧ a2.size ≤ 65536 ∧ a3.size ≤ 65536 ∧ 1 ≤ a4 ∧ a4 ≤ 1000000000000000000
  · rw [if_pos hc] at h
    injection h with h
    have e1 : (twoN l0 (bKey a1 a3) (-a4) (bKey a2 a3) a4).1 = r1 := congrArg Prod.fst h
    have e2 : (twoN l0 (bKey a1 a3) (-a4) (bKey a2 a3) a4).2 = r2 := congrArg Prod.snd h
    rw [← e1, ← e2]
    obtain ⟨h1, h2, hs0, hs1, hs2, h3, h4⟩ := hc
    exact l05Move_or A0 c0 l0 a1 a2 a3 a4 w hr0 hc0 (by omega) (okV_of h2) hs0 hs1 hs2 h3 h4
  · rw [if_neg hc] at h
    cases h
end Go.Proofs.YtpkfdjlmflmilaaGreatDoor.Q
end
section
namespace Go.Proofs.YtpkfdjlmflmilaaGreatDoor.Q
open Go.RowKit Go.Proofs.YtpkfdjlmflmilaaGreatDoorW.PrintWords Go.Proofs.YtpkfdjlmflmilaaGreatDoorW.PrintLast Go.Proofs.YtpkfdjlmflmilaaGreatDoorW.PrintMore
attribute [local go_sem] max2_int min2_int max_two min_two max_three min_three max_four min_four   -- for this text's walks alone
set_option linter.unusedVariables false
set_option linter.unusedSimpArgs false

/-! ### spec_l00Src_bank: function 43 -/
def spec_l00Src_bank.l0 : Nat → List (S56) → Int → List Int → Int → Int → Option ((List (S56)) × Int × Int)
  | 0, _, _, _, _, _ => none
  | k + 1, x3, x4, x1000, x1001, x1002 => if x4 > 0 then ((spec_l00Src_next.f x1000 x1001 x1002 1000).bind fun bt424 => ((spec_l00Src_next.f x1000 bt424.2.1 bt424.2.2 4).bind fun bt427 => (if bt427.1 = 0 then ((spec_l00Src_account.f x1000 bt427.2.1 bt427.2.2).bind fun bt430 => ((spec_l00Src_account.f x1000 bt430.2.1 bt430.2.2).bind fun bt433 => ((spec_l00Src_denom.f x1000 bt433.2.1 bt433.2.2).bind fun bt436 => ((spec_l05Move.f x3 bt430.1 bt433.1 bt436.1 (wrap64 (1 + bt424.1))).bind fun bt439 => (spec_l00Src_bank.l0 k bt439.1 (wrap64 (x4 - 1)) x1000 bt436.2.1 bt436.2.2))))) else (if bt427.1 = 1 then ((spec_l00Src_account.f x1000 bt427.2.1 bt427.2.2).bind fun bt443 => ((spec_l00Src_denom.f x1000 bt443.2.1 bt443.2.2).bind fun bt446 => ((spec_l05Burn.f x3 bt443.1 bt446.1 (wrap64 (1 + bt424.1))).bind fun bt449 => (spec_l00Src_bank.l0 k bt449.1 (wrap64 (x4 - 1)) x1000 bt446.2.1 bt446.2.2)))) else ((spec_l00Src_account.f x1000 bt427.2.1 bt427.2.2).bind fun bt453 => ((spec_l00Src_denom.f x1000 bt453.2.1 bt453.2.2).bind fun bt456 => ((spec_l05Mint.f x3 bt453.1 bt456.1 (wrap64 (1 + bt424.1))).bind fun bt459 => (spec_l00Src_bank.l0 k bt459.1 (wrap64 (x4 - 1)) x1000 bt456.2.1 bt456.2.2)))))))) else ((some (([] : List (S56)) : List (S56))).bind fun y418 => (if y418.length + x3.length < 4398046511104 then (some ((y418 ++ x3), x1001, x1002)) else (none)))
def spec_l00Src_bank.f (k : Nat) (s0_0 : List Int) (s0_1 : Int) (s0_2 : Int) : Option ((List (S56)) × Int × Int) := (spec_l00Src_next.f s0_0 s0_1 s0_2 8).bind fun bt415 => (spec_l00Src_bank.l0 k (([] : List (S56))) bt415.1 s0_0 bt415.2.1 bt415.2.2)
set_option maxHeartbeats 8000000 in
set_option maxRecDepth 100000 in
theorem spec_l00Src_bank.calls (k : Nat) (g : Nat) (s0_0 : List Int) (s0_1 : Int) (s0_2 : Int) (r1 : List (S56)) (r2 : Int) (r3 : Int) (w0 w : World) (hI : IsS80 w0 w g s0_0 s0_1 s0_2) (hB : Below w0.heap.size w0 w) (h : spec_l00Src_bank.f k s0_0 s0_1 s0_2 = some (r1, r2, r3)) :
    Calls Tryz.prog 43 #[.pointer (some ⟨g, 0, none⟩)] w fun e w' => ∃ v0_ : Value, e = .returned (v0_) ∧ Kd.R k56 56 w' w.heap.size (fun _ => True) v0_ r1 ∧ IsS80 w0 w' g s0_0 r2 r3 ∧ Below w0.heap.size w0 w' ∧ KeepBut w w' g none := by
  have HI0 := Aside0.mk hI
  have HK := Aside0.mk (KeepBut.refl w g none)
  have HL := Aside0.mk hB.size
  clear hI
  have HW0 := Aside0.mk hB.size
  have HB := Aside0.mk hB
  clear hB
  have H : ((spec_l00Src_next.f s0_0 s0_1 s0_2 8).bind fun bt415 => (spec_l00Src_bank.l0 k (([] : List (S56))) bt415.1 s0_0 bt415.2.1 bt415.2.2)) = some (r1, r2, r3) := h
  clear h
  obtain ⟨y412, hy412⟩ : ∃ y_ : List (S56), y_ = (([] : List (S56))) := ⟨_, rfl⟩
  replace H : ((spec_l00Src_next.f s0_0 s0_1 s0_2 8).bind fun bt415 => (spec_l00Src_bank.l0 k y412 bt415.1 s0_0 bt415.2.1 bt415.2.2)) = some (r1, r2, r3) := by first | (rw [hy412]; with_reducible exact H) | (have H2_ := (Option.bind_some _ _).symm.trans H; rw [hy412]; with_reducible exact H2_) | (have H2_ := (Option.bind_some _ _).symm.trans H; with_reducible exact H2_) | with_reducible exact H | (rw [hy412]; exact H) | exact H
  have Ny412 := Aside0.mk hy412
  clear hy412
  replace H := Option.bind_eq_some_iff.mp H
  obtain ⟨⟨t415, t416, t417⟩, A20, H⟩ := H
  replace H : (spec_l00Src_bank.l0 k y412 t415 s0_0 t416 t417) = some (r1, r2, r3) := H
  have A2 := Aside0.mk A20
  clear A20
  have H' := Aside0.mk H
  clear H
  go_enter Tryz.func43, Tryz.ntmps43
  go_wp2_with (first | ((with_reducible refine gate_dst (N := 6) rfl ?_); refine Kd.R_lit k56 _ 56 ?hg (N := 6) ?hd (xs := ([] : List (S56))) (inner := []) (ok := fun _ => True) (okp := fun _ => True) ?hr ?hp (fun _ hk => hk) trivial (Below.refl _ _) (Nat.le_refl _) (by simp) ?_; (case hd => rfl); (case hg => rfl); (case hr => first | (go_simp; done) | (go_simp; rfl)); (case hp => exact (Reps.none _ _)); intro v413 w3 ho4 hb hg_ hnew_; clear hg_ hnew_; (first | rw [← Ny412.out] at ho4 | (simp only [Int.reduceToNat] at ho4; rw [← Ny412.out] at ho4)); have n0_ := Aside0.mk (Kd.R_lower ho4 (keep_size (w := w) (g := g) (row := none) (by repeat (first | (with_reducible first | exact HK.out | apply KeepBut.set_ | apply keep_drewN | apply keep_drew | apply keep_alloc) | exact HK.out)))); have n1_ := Aside0.mk (IsS80.below (by repeat (first | (with_reducible first | exact HI0.out | apply IsS80.alloc | apply IsS80.drewN | apply IsS80.drew | apply IsS80.set_1 | apply IsS80.set_2) | exact HI0.out)) hb); have n2_ := Aside0.mk (KeepBut.trans (by repeat (first | (with_reducible first | exact HK.out | apply KeepBut.set_ | apply keep_drewN | apply keep_drew | apply keep_alloc) | exact HK.out)) (KeepBut.of_below hb g none) (.inl rfl)); have n3_ := Aside0.mk (below_step (by repeat (first | (with_reducible first | exact HB.out | apply below_alloc | apply pw_below_drewN | apply below_drew1 | refine below_set ?_ (IsS80.ge HI0.out)) | exact HB.out)) hb); clear HI0; clear HK; clear HB; have HO414 := n0_; have HI0 := n1_; have HK := n2_; have HB := n3_; clear n0_ n1_ n2_ n3_; clear hb ho4) | ((with_reducible refine gate_callee (f := 73) rfl ?_); refine goesL_ (some 8) rfl rfl Tryz.func73 (by kernel_rfl) rfl #[.pointer (some ⟨g, 0, none⟩), .int .i64 8] rfl (by (try simp only [List.map_toArray, List.map_cons, List.map_nil]); first | done | rfl | (simp only [List.length_drop, List.length_take]; rfl)) ?_; (with_reducible refine (spec_l00Src_next.calls g s0_0 s0_1 s0_2 8 t415 t416 t417 w0 _ ?side1 ?side2 A2.out).mono ?_); (case side1 => repeat (first | (with_reducible first | exact HI0.out | apply IsS80.alloc | apply IsS80.drewN | apply IsS80.drew | apply IsS80.set_1 | apply IsS80.set_2) | exact HI0.out)); (case side2 => repeat (first | (with_reducible first | exact HB.out | apply below_alloc | apply pw_below_drewN | apply below_drew1 | refine below_set ?_ (IsS80.ge HI0.out)) | exact HB.out)); rintro e w5 ⟨rfl, hi, hb, hk⟩; refine ⟨_, rfl, ?_⟩; have n0_ := Aside0.mk (Kd.R_mono (Kd.R_keep (IsS80.apart (show IsS80 w0 _ g s0_0 s0_1 s0_2 from by repeat (first | (with_reducible first | exact HI0.out | apply IsS80.alloc | apply IsS80.drewN | apply IsS80.drew | apply IsS80.set_1 | apply IsS80.set_2) | exact HI0.out)) (by (with_reducible repeat (first | apply Kd.R_alloc | apply Kd.R_drewN | apply Kd.R_drew)); exact HO414.out) (by decide)) hk (fun _ h => h.2)) (fun _ h => h.1)); have n1_ := Aside0.mk (KeepBut.trans (by repeat (first | (with_reducible first | exact HK.out | apply KeepBut.set_ | apply keep_drewN | apply keep_drew | apply keep_alloc) | exact HK.out)) hk (.inl rfl)); have n2_ := Aside0.mk (hb); have n3_ := Aside0.mk (hi); clear HO414; clear HK; clear HB; clear HI0; have HO414 := n0_; have HK := n1_; have HB := n2_; have HI0 := n3_; clear n0_ n1_ n2_ n3_; (try clear hb); (try clear hb2); (try clear hk); (try clear hi)))
  go_loopg [3, 4] k (fun kq v3 v4 w' => ∃ (x3_1 : List (S56)) (x4_1 : Int) (x1001_1 : Int) (x1002_1 : Int), v4 = .int .i64 x4_1 ∧ Aside0 (spec_l00Src_bank.l0 kq x3_1 x4_1 s0_0 x1001_1 x1002_1 = some (r1, r2, r3)) ∧ Aside0 (kq ≤ k) ∧ Aside0 (Kd.R k56 56 w' w.heap.size (fun _ => True) v3 x3_1) ∧ Aside0 (IsS80 w0 w' g s0_0 x1001_1 x1002_1) ∧ Aside0 (KeepBut w w' g none) ∧ Aside0 (Below w0.heap.size w0 w'))
  case atStart => exact ⟨(y412), (t415), (t416), (t417), (by first | rfl | (simp; done) | (simp [*]; done)), H', ⟨Nat.le_refl _⟩, ⟨by (with_reducible repeat (first | apply Kd.R_alloc | apply Kd.R_drewN | apply Kd.R_drew)); exact HO414.out⟩, ⟨by repeat (first | (with_reducible first | exact HI0.out | apply IsS80.alloc | apply IsS80.drewN | apply IsS80.drew | apply IsS80.set_1 | apply IsS80.set_2) | exact HI0.out)⟩, ⟨by repeat (first | (with_reducible first | exact HK.out | apply KeepBut.set_ | apply keep_drewN | apply keep_drew | apply keep_alloc) | exact HK.out)⟩, ⟨by repeat (first | (with_reducible first | exact HB.out | apply below_alloc | apply pw_below_drewN | apply below_drew1 | refine below_set ?_ (IsS80.ge HI0.out)) | exact HB.out)⟩⟩
  case round =>
    clear H'
    try clear p2
    try clear c4
    obtain ⟨x3_1, x4_1, x1001_1, x1002_1, rfl, HA, HK1, HO_3, HI0, HK, HB⟩ := hrel
    cases gk with
    | zero => exact absurd HA.out (by simp [spec_l00Src_bank.l0])
    | succ k1 =>
      have H := HA.out
      clear HA
      simp only [spec_l00Src_bank.l0] at H
      by_cases c6 : x4_1 > 0
      · rw [if_pos c6] at H
        have c6b0 : decide (0 < x4_1) = true := decide_eq_true c6
        clear c6
        replace H := Option.bind_eq_some_iff.mp H
        obtain ⟨⟨t424, t425, t426⟩, A70, H⟩ := H
        replace H : ((spec_l00Src_next.f s0_0 t425 t426 4).bind fun bt427 => (if bt427.1 = 0 then ((spec_l00Src_account.f s0_0 bt427.2.1 bt427.2.2).bind fun bt430 => ((spec_l00Src_account.f s0_0 bt430.2.1 bt430.2.2).bind fun bt433 => ((spec_l00Src_denom.f s0_0 bt433.2.1 bt433.2.2).bind fun bt436 => ((spec_l05Move.f x3_1 bt430.1 bt433.1 bt436.1 (wrap64 (1 + t424))).bind fun bt439 => (spec_l00Src_bank.l0 k1 bt439.1 (wrap64 (x4_1 - 1)) s0_0 bt436.2.1 bt436.2.2))))) else (if bt427.1 = 1 then ((spec_l00Src_account.f s0_0 bt427.2.1 bt427.2.2).bind fun bt443 => ((spec_l00Src_denom.f s0_0 bt443.2.1 bt443.2.2).bind fun bt446 => ((spec_l05Burn.f x3_1 bt443.1 bt446.1 (wrap64 (1 + t424))).bind fun bt449 => (spec_l00Src_bank.l0 k1 bt449.1 (wrap64 (x4_1 - 1)) s0_0 bt446.2.1 bt446.2.2)))) else ((spec_l00Src_account.f s0_0 bt427.2.1 bt427.2.2).bind fun bt453 => ((spec_l00Src_denom.f s0_0 bt453.2.1 bt453.2.2).bind fun bt456 => ((spec_l05Mint.f x3_1 bt453.1 bt456.1 (wrap64 (1 + t424))).bind fun bt459 => (spec_l00Src_bank.l0 k1 bt459.1 (wrap64 (x4_1 - 1)) s0_0 bt456.2.1 bt456.2.2))))))) = some (r1, r2, r3) := H
        have A7 := Aside0.mk A70
        clear A70
        replace H := Option.bind_eq_some_iff.mp H
        obtain ⟨⟨t427, t428, t429⟩, A80, H⟩ := H
        replace H : (if t427 = 0 then ((spec_l00Src_account.f s0_0 t428 t429).bind fun bt430 => ((spec_l00Src_account.f s0_0 bt430.2.1 bt430.2.2).bind fun bt433 => ((spec_l00Src_denom.f s0_0 bt433.2.1 bt433.2.2).bind fun bt436 => ((spec_l05Move.f x3_1 bt430.1 bt433.1 bt436.1 (wrap64 (1 + t424))).bind fun bt439 => (spec_l00Src_bank.l0 k1 bt439.1 (wrap64 (x4_1 - 1)) s0_0 bt436.2.1 bt436.2.2))))) else (if t427 = 1 then ((spec_l00Src_account.f s0_0 t428 t429).bind fun bt443 => ((spec_l00Src_denom.f s0_0 bt443.2.1 bt443.2.2).bind fun bt446 => ((spec_l05Burn.f x3_1 bt443.1 bt446.1 (wrap64 (1 + t424))).bind fun bt449 => (spec_l00Src_bank.l0 k1 bt449.1 (wrap64 (x4_1 - 1)) s0_0 bt446.2.1 bt446.2.2)))) else ((spec_l00Src_account.f s0_0 t428 t429).bind fun bt453 => ((spec_l00Src_denom.f s0_0 bt453.2.1 bt453.2.2).bind fun bt456 => ((spec_l05Mint.f x3_1 bt453.1 bt456.1 (wrap64 (1 + t424))).bind fun bt459 => (spec_l00Src_bank.l0 k1 bt459.1 (wrap64 (x4_1 - 1)) s0_0 bt456.2.1 bt456.2.2)))))) = some (r1, r2, r3) := H
        have A8 := Aside0.mk A80
        clear A80
        by_cases c9 : t427 = 0
        · rw [if_pos c9] at H
          have c9b0 : (t427 == 0) = true := beq_iff_eq.mpr c9
          have c9b1 : (t427 != 0) = false := bne_eq_false_iff_eq.mpr c9
          clear c9
          replace H := Option.bind_eq_some_iff.mp H
          obtain ⟨⟨t430, t431, t432⟩, A100, H⟩ := H
          replace H : ((spec_l00Src_account.f s0_0 t431 t432).bind fun bt433 => ((spec_l00Src_denom.f s0_0 bt433.2.1 bt433.2.2).bind fun bt436 => ((spec_l05Move.f x3_1 t430 bt433.1 bt436.1 (wrap64 (1 + t424))).bind fun bt439 => (spec_l00Src_bank.l0 k1 bt439.1 (wrap64 (x4_1 - 1)) s0_0 bt436.2.1 bt436.2.2)))) = some (r1, r2, r3) := H
          have A10 := Aside0.mk A100
          clear A100
          replace H := Option.bind_eq_some_iff.mp H
          obtain ⟨⟨t433, t434, t435⟩, A110, H⟩ := H
          replace H : ((spec_l00Src_denom.f s0_0 t434 t435).bind fun bt436 => ((spec_l05Move.f x3_1 t430 t433 bt436.1 (wrap64 (1 + t424))).bind fun bt439 => (spec_l00Src_bank.l0 k1 bt439.1 (wrap64 (x4_1 - 1)) s0_0 bt436.2.1 bt436.2.2))) = some (r1, r2, r3) := H
          have A11 := Aside0.mk A110
          clear A110
          replace H := Option.bind_eq_some_iff.mp H
          obtain ⟨⟨t436, t437, t438⟩, A120, H⟩ := H
          replace H : ((spec_l05Move.f x3_1 t430 t433 t436 (wrap64 (1 + t424))).bind fun bt439 => (spec_l00Src_bank.l0 k1 bt439.1 (wrap64 (x4_1 - 1)) s0_0 t437 t438)) = some (r1, r2, r3) := H
          have A12 := Aside0.mk A120
          clear A120
          replace H := Option.bind_eq_some_iff.mp H
          obtain ⟨⟨t439, t440⟩, A130, H⟩ := H
          replace H : (spec_l00Src_bank.l0 k1 t439 (wrap64 (x4_1 - 1)) s0_0 t437 t438) = some (r1, r2, r3) := H
          have A13 := Aside0.mk A130
          clear A130
          have H' := Aside0.mk H
          clear H
          go_wp2_with (first | ((with_reducible refine gate_callee (f := 73) rfl ?_); refine goesL_ (some 14) rfl rfl Tryz.func73 (by kernel_rfl) rfl #[.pointer (some ⟨g, 0, none⟩), .int .i64 1000] rfl (by (try simp only [List.map_toArray, List.map_cons, List.map_nil]); first | done | rfl | (simp only [List.length_drop, List.length_take]; rfl)) ?_; (with_reducible refine (spec_l00Src_next.calls g s0_0 x1001_1 x1002_1 1000 t424 t425 t426 w0 _ ?side1 ?side2 A7.out).mono ?_); (case side1 => repeat (first | (with_reducible first | exact HI0.out | apply IsS80.alloc | apply IsS80.drewN | apply IsS80.drew | apply IsS80.set_1 | apply IsS80.set_2) | exact HI0.out)); (case side2 => repeat (first | (with_reducible first | exact HB.out | apply below_alloc | apply pw_below_drewN | apply below_drew1 | refine below_set ?_ (IsS80.ge HI0.out)) | exact HB.out)); rintro e w14 ⟨rfl, hi, hb, hk⟩; refine ⟨_, rfl, ?_⟩; have n0_ := Aside0.mk (Kd.R_mono (Kd.R_keep (IsS80.apart (show IsS80 w0 _ g s0_0 x1001_1 x1002_1 from by repeat (first | (with_reducible first | exact HI0.out | apply IsS80.alloc | apply IsS80.drewN | apply IsS80.drew | apply IsS80.set_1 | apply IsS80.set_2) | exact HI0.out)) (by (with_reducible repeat (first | apply Kd.R_alloc | apply Kd.R_drewN | apply Kd.R_drew)); exact HO_3.out) (by decide)) hk (fun _ h => h.2)) (fun _ h => h.1)); have n1_ := Aside0.mk (KeepBut.trans (by repeat (first | (with_reducible first | exact HK.out | apply KeepBut.set_ | apply keep_drewN | apply keep_drew | apply keep_alloc) | exact HK.out)) hk (.inl rfl)); have n2_ := Aside0.mk (hb); have n3_ := Aside0.mk (hi); clear HO_3; clear HK; clear HB; clear HI0; have HO_3 := n0_; have HK := n1_; have HB := n2_; have HI0 := n3_; clear n0_ n1_ n2_ n3_; (try clear hb); (try clear hb2); (try clear hk); (try clear hi)) | ((with_reducible refine gate_callee (f := 73) rfl ?_); refine goesL_ (some 17) rfl rfl Tryz.func73 (by kernel_rfl) rfl #[.pointer (some ⟨g, 0, none⟩), .int .i64 4] rfl (by (try simp only [List.map_toArray, List.map_cons, List.map_nil]); first | done | rfl | (simp only [List.length_drop, List.length_take]; rfl)) ?_; (with_reducible refine (spec_l00Src_next.calls g s0_0 t425 t426 4 t427 t428 t429 w0 _ ?side1 ?side2 A8.out).mono ?_); (case side1 => repeat (first | (with_reducible first | exact HI0.out | apply IsS80.alloc | apply IsS80.drewN | apply IsS80.drew | apply IsS80.set_1 | apply IsS80.set_2) | exact HI0.out)); (case side2 => repeat (first | (with_reducible first | exact HB.out | apply below_alloc | apply pw_below_drewN | apply below_drew1 | refine below_set ?_ (IsS80.ge HI0.out)) | exact HB.out)); rintro e w15 ⟨rfl, hi, hb, hk⟩; refine ⟨_, rfl, ?_⟩; have n0_ := Aside0.mk (Kd.R_mono (Kd.R_keep (IsS80.apart (show IsS80 w0 _ g s0_0 t425 t426 from by repeat (first | (with_reducible first | exact HI0.out | apply IsS80.alloc | apply IsS80.drewN | apply IsS80.drew | apply IsS80.set_1 | apply IsS80.set_2) | exact HI0.out)) (by (with_reducible repeat (first | apply Kd.R_alloc | apply Kd.R_drewN | apply Kd.R_drew)); exact HO_3.out) (by decide)) hk (fun _ h => h.2)) (fun _ h => h.1)); have n1_ := Aside0.mk (KeepBut.trans (by repeat (first | (with_reducible first | exact HK.out | apply KeepBut.set_ | apply keep_drewN | apply keep_drew | apply keep_alloc) | exact HK.out)) hk (.inl rfl)); have n2_ := Aside0.mk (hb); have n3_ := Aside0.mk (hi); clear HO_3; clear HK; clear HB; clear HI0; have HO_3 := n0_; have HK := n1_; have HB := n2_; have HI0 := n3_; clear n0_ n1_ n2_ n3_; (try clear hb); (try clear hb2); (try clear hk); (try clear hi)) | ((with_reducible refine gate_callee (f := 44) rfl ?_); refine goesL_ (some 33) rfl rfl Tryz.func44 (by kernel_rfl) rfl #[.pointer (some ⟨g, 0, none⟩)] rfl (by (try simp only [List.map_toArray, List.map_cons, List.map_nil]); first | done | rfl | (simp only [List.length_drop, List.length_take]; rfl)) ?_; (with_reducible refine (spec_l00Src_account.calls g s0_0 t428 t429 t430 t431 t432 w0 _ ?side1 ?side2 A10.out).mono ?_); (case side1 => repeat (first | (with_reducible first | exact HI0.out | apply IsS80.alloc | apply IsS80.drewN | apply IsS80.drew | apply IsS80.set_1 | apply IsS80.set_2) | exact HI0.out)); (case side2 => repeat (first | (with_reducible first | exact HB.out | apply below_alloc | apply pw_below_drewN | apply below_drew1 | refine below_set ?_ (IsS80.ge HI0.out)) | exact HB.out)); rintro e w16 ⟨rfl, hi, hb, hk⟩; refine ⟨_, rfl, ?_⟩; have n0_ := Aside0.mk (Kd.R_mono (Kd.R_keep (IsS80.apart (show IsS80 w0 _ g s0_0 t428 t429 from by repeat (first | (with_reducible first | exact HI0.out | apply IsS80.alloc | apply IsS80.drewN | apply IsS80.drew | apply IsS80.set_1 | apply IsS80.set_2) | exact HI0.out)) (by (with_reducible repeat (first | apply Kd.R_alloc | apply Kd.R_drewN | apply Kd.R_drew)); exact HO_3.out) (by decide)) hk (fun _ h => h.2)) (fun _ h => h.1)); have n1_ := Aside0.mk (KeepBut.trans (by repeat (first | (with_reducible first | exact HK.out | apply KeepBut.set_ | apply keep_drewN | apply keep_drew | apply keep_alloc) | exact HK.out)) hk (.inl rfl)); have n2_ := Aside0.mk (hb); have n3_ := Aside0.mk (hi); clear HO_3; clear HK; clear HB; clear HI0; have HO_3 := n0_; have HK := n1_; have HB := n2_; have HI0 := n3_; clear n0_ n1_ n2_ n3_; (try clear hb); (try clear hb2); (try clear hk); (try clear hi)) | ((with_reducible refine gate_callee (f := 44) rfl ?_); refine goesL_ (some 35) rfl rfl Tryz.func44 (by kernel_rfl) rfl #[.pointer (some ⟨g, 0, none⟩)] rfl (by (try simp only [List.map_toArray, List.map_cons, List.map_nil]); first | done | rfl | (simp only [List.length_drop, List.length_take]; rfl)) ?_; (with_reducible refine (spec_l00Src_account.calls g s0_0 t431 t432 t433 t434 t435 w0 _ ?side1 ?side2 A11.out).mono ?_); (case side1 => repeat (first | (with_reducible first | exact HI0.out | apply IsS80.alloc | apply IsS80.drewN | apply IsS80.drew | apply IsS80.set_1 | apply IsS80.set_2) | exact HI0.out)); (case side2 => repeat (first | (with_reducible first | exact HB.out | apply below_alloc | apply pw_below_drewN | apply below_drew1 | refine below_set ?_ (IsS80.ge HI0.out)) | exact HB.out)); rintro e w17 ⟨rfl, hi, hb, hk⟩; refine ⟨_, rfl, ?_⟩; have n0_ := Aside0.mk (Kd.R_mono (Kd.R_keep (IsS80.apart (show IsS80 w0 _ g s0_0 t431 t432 from by repeat (first | (with_reducible first | exact HI0.out | apply IsS80.alloc | apply IsS80.drewN | apply IsS80.drew | apply IsS80.set_1 | apply IsS80.set_2) | exact HI0.out)) (by (with_reducible repeat (first | apply Kd.R_alloc | apply Kd.R_drewN | apply Kd.R_drew)); exact HO_3.out) (by decide)) hk (fun _ h => h.2)) (fun _ h => h.1)); have n1_ := Aside0.mk (KeepBut.trans (by repeat (first | (with_reducible first | exact HK.out | apply KeepBut.set_ | apply keep_drewN | apply keep_drew | apply keep_alloc) | exact HK.out)) hk (.inl rfl)); have n2_ := Aside0.mk (hb); have n3_ := Aside0.mk (hi); clear HO_3; clear HK; clear HB; clear HI0; have HO_3 := n0_; have HK := n1_; have HB := n2_; have HI0 := n3_; clear n0_ n1_ n2_ n3_; (try clear hb); (try clear hb2); (try clear hk); (try clear hi)) | ((with_reducible refine gate_callee (f := 45) rfl ?_); refine goesL_ (some 37) rfl rfl Tryz.func45 (by kernel_rfl) rfl #[.pointer (some ⟨g, 0, none⟩)] rfl (by (try simp only [List.map_toArray, List.map_cons, List.map_nil]); first | done | rfl | (simp only [List.length_drop, List.length_take]; rfl)) ?_; (with_reducible refine (spec_l00Src_denom.calls g s0_0 t434 t435 t436 t437 t438 w0 _ ?side1 ?side2 A12.out).mono ?_); (case side1 => repeat (first | (with_reducible first | exact HI0.out | apply IsS80.alloc | apply IsS80.drewN | apply IsS80.drew | apply IsS80.set_1 | apply IsS80.set_2) | exact HI0.out)); (case side2 => repeat (first | (with_reducible first | exact HB.out | apply below_alloc | apply pw_below_drewN | apply below_drew1 | refine below_set ?_ (IsS80.ge HI0.out)) | exact HB.out)); rintro e w18 ⟨rfl, hi, hb, hk⟩; refine ⟨_, rfl, ?_⟩; have n0_ := Aside0.mk (Kd.R_mono (Kd.R_keep (IsS80.apart (show IsS80 w0 _ g s0_0 t434 t435 from by repeat (first | (with_reducible first | exact HI0.out | apply IsS80.alloc | apply IsS80.drewN | apply IsS80.drew | apply IsS80.set_1 | apply IsS80.set_2) | exact HI0.out)) (by (with_reducible repeat (first | apply Kd.R_alloc | apply Kd.R_drewN | apply Kd.R_drew)); exact HO_3.out) (by decide)) hk (fun _ h => h.2)) (fun _ h => h.1)); have n1_ := Aside0.mk (KeepBut.trans (by repeat (first | (with_reducible first | exact HK.out | apply KeepBut.set_ | apply keep_drewN | apply keep_drew | apply keep_alloc) | exact HK.out)) hk (.inl rfl)); have n2_ := Aside0.mk (hb); have n3_ := Aside0.mk (hi); clear HO_3; clear HK; clear HB; clear HI0; have HO_3 := n0_; have HK := n1_; have HB := n2_; have HI0 := n3_; clear n0_ n1_ n2_ n3_; (try clear hb); (try clear hb2); (try clear hk); (try clear hi); obtain ⟨Ao19, co19, eo19⟩ := Kd.R_slice HO_3.out; subst eo19) | ((with_reducible refine gate_callee (f := 40) rfl ?_); refine goesL_ (some 39) rfl rfl Tryz.func40 (by kernel_rfl) rfl #[.slice Ao19 x3_1.length co19, .string t430, .string t433, .string t436, .int .i64 (wrap64 (1 + t424))] rfl (by (try simp only [List.map_toArray, List.map_cons, List.map_nil]); first | done | rfl | (simp only [List.length_drop, List.length_take]; rfl)) ?_; (with_reducible refine (spec_l05Move.calls _ _ x3_1 t430 t433 t436 (wrap64 (1 + t424)) t439 t440 _ ?side1 ?side2 A13.out).mono ?_); (case side1 => repeat (first | exact (Kd.R_reads' HO_3.out).2.2 | (with_reducible refine Kd.C_alloc ?_ _) | (with_reducible refine Kd.C_drewN ?_ _) | (with_reducible refine Kd.C_drew ?_))); (case side2 => exact (Kd.R_reads' HO_3.out).2.1); rintro e w20 ⟨v441, rfl, ho0, hb⟩; refine ⟨_, rfl, ?_⟩; have n0_ := Aside0.mk (Kd.R_below (by (with_reducible repeat (first | apply Kd.R_alloc | apply Kd.R_drewN | apply Kd.R_drew)); exact HO_3.out) hb); have n1_ := Aside0.mk (RO_own (RO_lower ho0 (keep_size (w := w) (g := g) (row := none) (by repeat (first | (with_reducible first | exact HK.out | apply KeepBut.set_ | apply keep_drewN | apply keep_drew | apply keep_alloc) | exact HK.out)))) (Kd.R_mono n0_.out (fun _ _ => trivial))); have n2_ := Aside0.mk (IsS80.below (by repeat (first | (with_reducible first | exact HI0.out | apply IsS80.alloc | apply IsS80.drewN | apply IsS80.drew | apply IsS80.set_1 | apply IsS80.set_2) | exact HI0.out)) hb); have n3_ := Aside0.mk (KeepBut.trans (by repeat (first | (with_reducible first | exact HK.out | apply KeepBut.set_ | apply keep_drewN | apply keep_drew | apply keep_alloc) | exact HK.out)) (KeepBut.of_below hb g none) (.inl rfl)); have n4_ := Aside0.mk (below_step (by repeat (first | (with_reducible first | exact HB.out | apply below_alloc | apply pw_below_drewN | apply below_drew1 | refine below_set ?_ (IsS80.ge HI0.out)) | exact HB.out)) hb); clear HO_3; clear HI0; clear HK; clear HB; have HO_3 := n0_; have HO442 := n1_; have HI0 := n2_; have HK := n3_; have HB := n4_; clear n0_ n1_ n2_ n3_ n4_; (try clear hb); (try clear hb2); (try clear hk); (try clear hi); (try clear ho0)))
          go_roundg k1
          case measure => have := HK1.out; omega
          case rel => exact ⟨(t439), (wrap64 (x4_1 - 1)), (t437), (t438), (by first | rfl | (simp; done) | (simp [*]; done)), H', ⟨by have := HK1.out; omega⟩, ⟨by (with_reducible repeat (first | apply Kd.R_alloc | apply Kd.R_drewN | apply Kd.R_drew)); exact Kd.R_mono HO442.out (fun _ hk => trivial)⟩, ⟨by repeat (first | (with_reducible first | exact HI0.out | apply IsS80.alloc | apply IsS80.drewN | apply IsS80.drew | apply IsS80.set_1 | apply IsS80.set_2) | exact HI0.out)⟩, ⟨by repeat (first | (with_reducible first | exact HK.out | apply KeepBut.set_ | apply keep_drewN | apply keep_drew | apply keep_alloc) | exact HK.out)⟩, ⟨by repeat (first | (with_reducible first | exact HB.out | apply below_alloc | apply pw_below_drewN | apply below_drew1 | refine below_set ?_ (IsS80.ge HI0.out)) | exact HB.out)⟩⟩
        · rw [if_neg c9] at H
          have c9b0 : (t427 == 0) = false := beq_eq_false_iff_ne.mpr c9
          have c9b1 : (t427 != 0) = true := bne_iff_ne.mpr c9
          by_cases c21 : t427 = 1
          · rw [if_pos c21] at H
            have c21b0 : (t427 == 1) = true := beq_iff_eq.mpr c21
            have c21b1 : (t427 != 1) = false := bne_eq_false_iff_eq.mpr c21
            clear c21
            replace H := Option.bind_eq_some_iff.mp H
            obtain ⟨⟨t443, t444, t445⟩, A220, H⟩ := H
            replace H : ((spec_l00Src_denom.f s0_0 t444 t445).bind fun bt446 => ((spec_l05Burn.f x3_1 t443 bt446.1 (wrap64 (1 + t424))).bind fun bt449 => (spec_l00Src_bank.l0 k1 bt449.1 (wrap64 (x4_1 - 1)) s0_0 bt446.2.1 bt446.2.2))) = some (r1, r2, r3) := H
            have A22 := Aside0.mk A220
            clear A220
            replace H := Option.bind_eq_some_iff.mp H
            obtain ⟨⟨t446, t447, t448⟩, A230, H⟩ := H
            replace H : ((spec_l05Burn.f x3_1 t443 t446 (wrap64 (1 + t424))).bind fun bt449 => (spec_l00Src_bank.l0 k1 bt449.1 (wrap64 (x4_1 - 1)) s0_0 t447 t448)) = some (r1, r2, r3) := H
            have A23 := Aside0.mk A230
            clear A230
            replace H := Option.bind_eq_some_iff.mp H
            obtain ⟨⟨t449, t450⟩, A240, H⟩ := H
            replace H : (spec_l00Src_bank.l0 k1 t449 (wrap64 (x4_1 - 1)) s0_0 t447 t448) = some (r1, r2, r3) := H
            have A24 := Aside0.mk A240
            clear A240
            have H' := Aside0.mk H
            clear H
            go_wp2_with (first | ((with_reducible refine gate_callee (f := 73) rfl ?_); refine goesL_ (some 14) rfl rfl Tryz.func73 (by kernel_rfl) rfl #[.pointer (some ⟨g, 0, none⟩), .int .i64 1000] rfl (by (try simp only [List.map_toArray, List.map_cons, List.map_nil]); first | done | rfl | (simp only [List.length_drop, List.length_take]; rfl)) ?_; (with_reducible refine (spec_l00Src_next.calls g s0_0 x1001_1 x1002_1 1000 t424 t425 t426 w0 _ ?side1 ?side2 A7.out).mono ?_); (case side1 => repeat (first | (with_reducible first | exact HI0.out | apply IsS80.alloc | apply IsS80.drewN | apply IsS80.drew | apply IsS80.set_1 | apply IsS80.set_2) | exact HI0.out)); (case side2 => repeat (first | (with_reducible first | exact HB.out | apply below_alloc | apply pw_below_drewN | apply below_drew1 | refine below_set ?_ (IsS80.ge HI0.out)) | exact HB.out)); rintro e w25 ⟨rfl, hi, hb, hk⟩; refine ⟨_, rfl, ?_⟩; have n0_ := Aside0.mk (Kd.R_mono (Kd.R_keep (IsS80.apart (show IsS80 w0 _ g s0_0 x1001_1 x1002_1 from by repeat (first | (with_reducible first | exact HI0.out | apply IsS80.alloc | apply IsS80.drewN | apply IsS80.drew | apply IsS80.set_1 | apply IsS80.set_2) | exact HI0.out)) (by (with_reducible repeat (first | apply Kd.R_alloc | apply Kd.R_drewN | apply Kd.R_drew)); exact HO_3.out) (by decide)) hk (fun _ h => h.2)) (fun _ h => h.1)); have n1_ := Aside0.mk (KeepBut.trans (by repeat (first | (with_reducible first | exact HK.out | apply KeepBut.set_ | apply keep_drewN | apply keep_drew | apply keep_alloc) | exact HK.out)) hk (.inl rfl)); have n2_ := Aside0.mk (hb); have n3_ := Aside0.mk (hi); clear HO_3; clear HK; clear HB; clear HI0; have HO_3 := n0_; have HK := n1_; have HB := n2_; have HI0 := n3_; clear n0_ n1_ n2_ n3_; (try clear hb); (try clear hb2); (try clear hk); (try clear hi)) | ((with_reducible refine gate_callee (f := 73) rfl ?_); refine goesL_ (some 17) rfl rfl Tryz.func73 (by kernel_rfl) rfl #[.pointer (some ⟨g, 0, none⟩), .int .i64 4] rfl (by (try simp only [List.map_toArray, List.map_cons, List.map_nil]); first | done | rfl | (simp only [List.length_drop, List.length_take]; rfl)) ?_; (with_reducible refine (spec_l00Src_next.calls g s0_0 t425 t426 4 t427 t428 t429 w0 _ ?side1 ?side2 A8.out).mono ?_); (case side1 => repeat (first | (with_reducible first | exact HI0.out | apply IsS80.alloc | apply IsS80.drewN | apply IsS80.drew | apply IsS80.set_1 | apply IsS80.set_2) | exact HI0.out)); (case side2 => repeat (first | (with_reducible first | exact HB.out | apply below_alloc | apply pw_below_drewN | apply below_drew1 | refine below_set ?_ (IsS80.ge HI0.out)) | exact HB.out)); rintro e w26 ⟨rfl, hi, hb, hk⟩; refine ⟨_, rfl, ?_⟩; have n0_ := Aside0.mk (Kd.R_mono (Kd.R_keep (IsS80.apart (show IsS80 w0 _ g s0_0 t425 t426 from by repeat (first | (with_reducible first | exact HI0.out | apply IsS80.alloc | apply IsS80.drewN | apply IsS80.drew | apply IsS80.set_1 | apply IsS80.set_2) | exact HI0.out)) (by (with_reducible repeat (first | apply Kd.R_alloc | apply Kd.R_drewN | apply Kd.R_drew)); exact HO_3.out) (by decide)) hk (fun _ h => h.2)) (fun _ h => h.1)); have n1_ := Aside0.mk (KeepBut.trans (by repeat (first | (with_reducible first | exact HK.out | apply KeepBut.set_ | apply keep_drewN | apply keep_drew | apply keep_alloc) | exact HK.out)) hk (.inl rfl)); have n2_ := Aside0.mk (hb); have n3_ := Aside0.mk (hi); clear HO_3; clear HK; clear HB; clear HI0; have HO_3 := n0_; have HK := n1_; have HB := n2_; have HI0 := n3_; clear n0_ n1_ n2_ n3_; (try clear hb); (try clear hb2); (try clear hk); (try clear hi)) | ((with_reducible refine gate_callee (f := 44) rfl ?_); refine goesL_ (some 47) rfl rfl Tryz.func44 (by kernel_rfl) rfl #[.pointer (some ⟨g, 0, none⟩)] rfl (by (try simp only [List.map_toArray, List.map_cons, List.map_nil]); first | done | rfl | (simp only [List.length_drop, List.length_take]; rfl)) ?_; (with_reducible refine (spec_l00Src_account.calls g s0_0 t428 t429 t443 t444 t445 w0 _ ?side1 ?side2 A22.out).mono ?_); (case side1 => repeat (first | (with_reducible first | exact HI0.out | apply IsS80.alloc | apply IsS80.drewN | apply IsS80.drew | apply IsS80.set_1 | apply IsS80.set_2) | exact HI0.out)); (case side2 => repeat (first | (with_reducible first | exact HB.out | apply below_alloc | apply pw_below_drewN | apply below_drew1 | refine below_set ?_ (IsS80.ge HI0.out)) | exact HB.out)); rintro e w27 ⟨rfl, hi, hb, hk⟩; refine ⟨_, rfl, ?_⟩; have n0_ := Aside0.mk (Kd.R_mono (Kd.R_keep (IsS80.apart (show IsS80 w0 _ g s0_0 t428 t429 from by repeat (first | (with_reducible first | exact HI0.out | apply IsS80.alloc | apply IsS80.drewN | apply IsS80.drew | apply IsS80.set_1 | apply IsS80.set_2) | exact HI0.out)) (by (with_reducible repeat (first | apply Kd.R_alloc | apply Kd.R_drewN | apply Kd.R_drew)); exact HO_3.out) (by decide)) hk (fun _ h => h.2)) (fun _ h => h.1)); have n1_ := Aside0.mk (KeepBut.trans (by repeat (first | (with_reducible first | exact HK.out | apply KeepBut.set_ | apply keep_drewN | apply keep_drew | apply keep_alloc) | exact HK.out)) hk (.inl rfl)); have n2_ := Aside0.mk (hb); have n3_ := Aside0.mk (hi); clear HO_3; clear HK; clear HB; clear HI0; have HO_3 := n0_; have HK := n1_; have HB := n2_; have HI0 := n3_; clear n0_ n1_ n2_ n3_; (try clear hb); (try clear hb2); (try clear hk); (try clear hi)) | ((with_reducible refine gate_callee (f := 45) rfl ?_); refine goesL_ (some 49) rfl rfl Tryz.func45 (by kernel_rfl) rfl #[.pointer (some ⟨g, 0, none⟩)] rfl (by (try simp only [List.map_toArray, List.map_cons, List.map_nil]); first | done | rfl | (simp only [List.length_drop, List.length_take]; rfl)) ?_; (with_reducible refine (spec_l00Src_denom.calls g s0_0 t444 t445 t446 t447 t448 w0 _ ?side1 ?side2 A23.out).mono ?_); (case side1 => repeat (first | (with_reducible first | exact HI0.out | apply IsS80.alloc | apply IsS80.drewN | apply IsS80.drew | apply IsS80.set_1 | apply IsS80.set_2) | exact HI0.out)); (case side2 => repeat (first | (with_reducible first | exact HB.out | apply below_alloc | apply pw_below_drewN | apply below_drew1 | refine below_set ?_ (IsS80.ge HI0.out)) | exact HB.out)); rintro e w28 ⟨rfl, hi, hb, hk⟩; refine ⟨_, rfl, ?_⟩; have n0_ := Aside0.mk (Kd.R_mono (Kd.R_keep (IsS80.apart (show IsS80 w0 _ g s0_0 t444 t445 from by repeat (first | (with_reducible first | exact HI0.out | apply IsS80.alloc | apply IsS80.drewN | apply IsS80.drew | apply IsS80.set_1 | apply IsS80.set_2) | exact HI0.out)) (by (with_reducible repeat (first | apply Kd.R_alloc | apply Kd.R_drewN | apply Kd.R_drew)); exact HO_3.out) (by decide)) hk (fun _ h => h.2)) (fun _ h => h.1)); have n1_ := Aside0.mk (KeepBut.trans (by repeat (first | (with_reducible first | exact HK.out | apply KeepBut.set_ | apply keep_drewN | apply keep_drew | apply keep_alloc) | exact HK.out)) hk (.inl rfl)); have n2_ := Aside0.mk (hb); have n3_ := Aside0.mk (hi); clear HO_3; clear HK; clear HB; clear HI0; have HO_3 := n0_; have HK := n1_; have HB := n2_; have HI0 := n3_; clear n0_ n1_ n2_ n3_; (try clear hb); (try clear hb2); (try clear hk); (try clear hi); obtain ⟨Ao29, co29, eo29⟩ := Kd.R_slice HO_3.out; subst eo29) | ((with_reducible refine gate_callee (f := 32) rfl ?_); refine goesL_ (some 51) rfl rfl Tryz.func32 (by kernel_rfl) rfl #[.slice Ao29 x3_1.length co29, .string t443, .string t446, .int .i64 (wrap64 (1 + t424))] rfl (by (try simp only [List.map_toArray, List.map_cons, List.map_nil]); first | done | rfl | (simp only [List.length_drop, List.length_take]; rfl)) ?_; (with_reducible refine (spec_l05Burn.calls _ _ x3_1 t443 t446 (wrap64 (1 + t424)) t449 t450 _ ?side1 ?side2 A24.out).mono ?_); (case side1 => repeat (first | exact (Kd.R_reads' HO_3.out).2.2 | (with_reducible refine Kd.C_alloc ?_ _) | (with_reducible refine Kd.C_drewN ?_ _) | (with_reducible refine Kd.C_drew ?_))); (case side2 => exact (Kd.R_reads' HO_3.out).2.1); rintro e w30 ⟨v451, rfl, ho0, hb⟩; refine ⟨_, rfl, ?_⟩; have n0_ := Aside0.mk (Kd.R_below (by (with_reducible repeat (first | apply Kd.R_alloc | apply Kd.R_drewN | apply Kd.R_drew)); exact HO_3.out) hb); have n1_ := Aside0.mk (RO_own (RO_lower ho0 (keep_size (w := w) (g := g) (row := none) (by repeat (first | (with_reducible first | exact HK.out | apply KeepBut.set_ | apply keep_drewN | apply keep_drew | apply keep_alloc) | exact HK.out)))) (Kd.R_mono n0_.out (fun _ _ => trivial))); have n2_ := Aside0.mk (IsS80.below (by repeat (first | (with_reducible first | exact HI0.out | apply IsS80.alloc | apply IsS80.drewN | apply IsS80.drew | apply IsS80.set_1 | apply IsS80.set_2) | exact HI0.out)) hb); have n3_ := Aside0.mk (KeepBut.trans (by repeat (first | (with_reducible first | exact HK.out | apply KeepBut.set_ | apply keep_drewN | apply keep_drew | apply keep_alloc) | exact HK.out)) (KeepBut.of_below hb g none) (.inl rfl)); have n4_ := Aside0.mk (below_step (by repeat (first | (with_reducible first | exact HB.out | apply below_alloc | apply pw_below_drewN | apply below_drew1 | refine below_set ?_ (IsS80.ge HI0.out)) | exact HB.out)) hb); clear HO_3; clear HI0; clear HK; clear HB; have HO_3 := n0_; have HO452 := n1_; have HI0 := n2_; have HK := n3_; have HB := n4_; clear n0_ n1_ n2_ n3_ n4_; (try clear hb); (try clear hb2); (try clear hk); (try clear hi); (try clear ho0)))
            go_roundg k1
            case measure => have := HK1.out; omega
            case rel => exact ⟨(t449), (wrap64 (x4_1 - 1)), (t447), (t448), (by first | rfl | (simp; done) | (simp [*]; done)), H', ⟨by have := HK1.out; omega⟩, ⟨by (with_reducible repeat (first | apply Kd.R_alloc | apply Kd.R_drewN | apply Kd.R_drew)); exact Kd.R_mono HO452.out (fun _ hk => trivial)⟩, ⟨by repeat (first | (with_reducible first | exact HI0.out | apply IsS80.alloc | apply IsS80.drewN | apply IsS80.drew | apply IsS80.set_1 | apply IsS80.set_2) | exact HI0.out)⟩, ⟨by repeat (first | (with_reducible first | exact HK.out | apply KeepBut.set_ | apply keep_drewN | apply keep_drew | apply keep_alloc) | exact HK.out)⟩, ⟨by repeat (first | (with_reducible first | exact HB.out | apply below_alloc | apply pw_below_drewN | apply below_drew1 | refine below_set ?_ (IsS80.ge HI0.out)) | exact HB.out)⟩⟩
          · rw [if_neg c21] at H
            have c21b0 : (t427 == 1) = false := beq_eq_false_iff_ne.mpr c21
            have c21b1 : (t427 != 1) = true := bne_iff_ne.mpr c21
            replace H := Option.bind_eq_some_iff.mp H
            obtain ⟨⟨t453, t454, t455⟩, A310, H⟩ := H
            replace H : ((spec_l00Src_denom.f s0_0 t454 t455).bind fun bt456 => ((spec_l05Mint.f x3_1 t453 bt456.1 (wrap64 (1 + t424))).bind fun bt459 => (spec_l00Src_bank.l0 k1 bt459.1 (wrap64 (x4_1 - 1)) s0_0 bt456.2.1 bt456.2.2))) = some (r1, r2, r3) := H
            have A31 := Aside0.mk A310
            clear A310
            replace H := Option.bind_eq_some_iff.mp H
            obtain ⟨⟨t456, t457, t458⟩, A320, H⟩ := H
            replace H : ((spec_l05Mint.f x3_1 t453 t456 (wrap64 (1 + t424))).bind fun bt459 => (spec_l00Src_bank.l0 k1 bt459.1 (wrap64 (x4_1 - 1)) s0_0 t457 t458)) = some (r1, r2, r3) := H
            have A32 := Aside0.mk A320
            clear A320
            replace H := Option.bind_eq_some_iff.mp H
            obtain ⟨⟨t459, t460⟩, A330, H⟩ := H
            replace H : (spec_l00Src_bank.l0 k1 t459 (wrap64 (x4_1 - 1)) s0_0 t457 t458) = some (r1, r2, r3) := H
            have A33 := Aside0.mk A330
            clear A330
            have H' := Aside0.mk H
            clear H
            go_wp2_with (first | ((with_reducible refine gate_callee (f := 73) rfl ?_); refine goesL_ (some 14) rfl rfl Tryz.func73 (by kernel_rfl) rfl #[.pointer (some ⟨g, 0, none⟩), .int .i64 1000] rfl (by (try simp only [List.map_toArray, List.map_cons, List.map_nil]); first | done | rfl | (simp only [List.length_drop, List.length_take]; rfl)) ?_; (with_reducible refine (spec_l00Src_next.calls g s0_0 x1001_1 x1002_1 1000 t424 t425 t426 w0 _ ?side1 ?side2 A7.out).mono ?_); (case side1 => repeat (first | (with_reducible first | exact HI0.out | apply IsS80.alloc | apply IsS80.drewN | apply IsS80.drew | apply IsS80.set_1 | apply IsS80.set_2) | exact HI0.out)); (case side2 => repeat (first | (with_reducible first | exact HB.out | apply below_alloc | apply pw_below_drewN | apply below_drew1 | refine below_set ?_ (IsS80.ge HI0.out)) | exact HB.out)); rintro e w34 ⟨rfl, hi, hb, hk⟩; refine ⟨_, rfl, ?_⟩; have n0_ := Aside0.mk (Kd.R_mono (Kd.R_keep (IsS80.apart (show IsS80 w0 _ g s0_0 x1001_1 x1002_1 from by repeat (first | (with_reducible first | exact HI0.out | apply IsS80.alloc | apply IsS80.drewN | apply IsS80.drew | apply IsS80.set_1 | apply IsS80.set_2) | exact HI0.out)) (by (with_reducible repeat (first | apply Kd.R_alloc | apply Kd.R_drewN | apply Kd.R_drew)); exact HO_3.out) (by decide)) hk (fun _ h => h.2)) (fun _ h => h.1)); have n1_ := Aside0.mk (KeepBut.trans (by repeat (first | (with_reducible first | exact HK.out | apply KeepBut.set_ | apply keep_drewN | apply keep_drew | apply keep_alloc) | exact HK.out)) hk (.inl rfl)); have n2_ := Aside0.mk (hb); have n3_ := Aside0.mk (hi); clear HO_3; clear HK; clear HB; clear HI0; have HO_3 := n0_; have HK := n1_; have HB := n2_; have HI0 := n3_; clear n0_ n1_ n2_ n3_; (try clear hb); (try clear hb2); (try clear hk); (try clear hi)) | ((with_reducible refine gate_callee (f := 73) rfl ?_); refine goesL_ (some 17) rfl rfl Tryz.func73 (by kernel_rfl) rfl #[.pointer (some ⟨g, 0, none⟩), .int .i64 4] rfl (by (try simp only [List.map_toArray, List.map_cons, List.map_nil]); first | done | rfl | (simp only [List.length_drop, List.length_take]; rfl)) ?_; (with_reducible refine (spec_l00Src_next.calls g s0_0 t425 t426 4 t427 t428 t429 w0 _ ?side1 ?side2 A8.out).mono ?_); (case side1 => repeat (first | (with_reducible first | exact HI0.out | apply IsS80.alloc | apply IsS80.drewN | apply IsS80.drew | apply IsS80.set_1 | apply IsS80.set_2) | exact HI0.out)); (case side2 => repeat (first | (with_reducible first | exact HB.out | apply below_alloc | apply pw_below_drewN | apply below_drew1 | refine below_set ?_ (IsS80.ge HI0.out)) | exact HB.out)); rintro e w35 ⟨rfl, hi, hb, hk⟩; refine ⟨_, rfl, ?_⟩; have n0_ := Aside0.mk (Kd.R_mono (Kd.R_keep (IsS80.apart (show IsS80 w0 _ g s0_0 t425 t426 from by repeat (first | (with_reducible first | exact HI0.out | apply IsS80.alloc | apply IsS80.drewN | apply IsS80.drew | apply IsS80.set_1 | apply IsS80.set_2) | exact HI0.out)) (by (with_reducible repeat (first | apply Kd.R_alloc | apply Kd.R_drewN | apply Kd.R_drew)); exact HO_3.out) (by decide)) hk (fun _ h => h.2)) (fun _ h => h.1)); have n1_ := Aside0.mk (KeepBut.trans (by repeat (first | (with_reducible first | exact HK.out | apply KeepBut.set_ | apply keep_drewN | apply keep_drew | apply keep_alloc) | exact HK.out)) hk (.inl rfl)); have n2_ := Aside0.mk (hb); have n3_ := Aside0.mk (hi); clear HO_3; clear HK; clear HB; clear HI0; have HO_3 := n0_; have HK := n1_; have HB := n2_; have HI0 := n3_; clear n0_ n1_ n2_ n3_; (try clear hb); (try clear hb2); (try clear hk); (try clear hi)) | ((with_reducible refine gate_callee (f := 44) rfl ?_); refine goesL_ (some 21) rfl rfl Tryz.func44 (by kernel_rfl) rfl #[.pointer (some ⟨g, 0, none⟩)] rfl (by (try simp only [List.map_toArray, List.map_cons, List.map_nil]); first | done | rfl | (simp only [List.length_drop, List.length_take]; rfl)) ?_; (with_reducible refine (spec_l00Src_account.calls g s0_0 t428 t429 t453 t454 t455 w0 _ ?side1 ?side2 A31.out).mono ?_); (case side1 => repeat (first | (with_reducible first | exact HI0.out | apply IsS80.alloc | apply IsS80.drewN | apply IsS80.drew | apply IsS80.set_1 | apply IsS80.set_2) | exact HI0.out)); (case side2 => repeat (first | (with_reducible first | exact HB.out | apply below_alloc | apply pw_below_drewN | apply below_drew1 | refine below_set ?_ (IsS80.ge HI0.out)) | exact HB.out)); rintro e w36 ⟨rfl, hi, hb, hk⟩; refine ⟨_, rfl, ?_⟩; have n0_ := Aside0.mk (Kd.R_mono (Kd.R_keep (IsS80.apart (show IsS80 w0 _ g s0_0 t428 t429 from by repeat (first | (with_reducible first | exact HI0.out | apply IsS80.alloc | apply IsS80.drewN | apply IsS80.drew | apply IsS80.set_1 | apply IsS80.set_2) | exact HI0.out)) (by (with_reducible repeat (first | apply Kd.R_alloc | apply Kd.R_drewN | apply Kd.R_drew)); exact HO_3.out) (by decide)) hk (fun _ h => h.2)) (fun _ h => h.1)); have n1_ := Aside0.mk (KeepBut.trans (by repeat (first | (with_reducible first | exact HK.out | apply KeepBut.set_ | apply keep_drewN | apply keep_drew | apply keep_alloc) | exact HK.out)) hk (.inl rfl)); have n2_ := Aside0.mk (hb); have n3_ := Aside0.mk (hi); clear HO_3; clear HK; clear HB; clear HI0; have HO_3 := n0_; have HK := n1_; have HB := n2_; have HI0 := n3_; clear n0_ n1_ n2_ n3_; (try clear hb); (try clear hb2); (try clear hk); (try clear hi)) | ((with_reducible refine gate_callee (f := 45) rfl ?_); refine goesL_ (some 23) rfl rfl Tryz.func45 (by kernel_rfl) rfl #[.pointer (some ⟨g, 0, none⟩)] rfl (by (try simp only [List.map_toArray, List.map_cons, List.map_nil]); first | done | rfl | (simp only [List.length_drop, List.length_take]; rfl)) ?_; (with_reducible refine (spec_l00Src_denom.calls g s0_0 t454 t455 t456 t457 t458 w0 _ ?side1 ?side2 A32.out).mono ?_); (case side1 => repeat (first | (with_reducible first | exact HI0.out | apply IsS80.alloc | apply IsS80.drewN | apply IsS80.drew | apply IsS80.set_1 | apply IsS80.set_2) | exact HI0.out)); (case side2 => repeat (first | (with_reducible first | exact HB.out | apply below_alloc | apply pw_below_drewN | apply below_drew1 | refine below_set ?_ (IsS80.ge HI0.out)) | exact HB.out)); rintro e w37 ⟨rfl, hi, hb, hk⟩; refine ⟨_, rfl, ?_⟩; have n0_ := Aside0.mk (Kd.R_mono (Kd.R_keep (IsS80.apart (show IsS80 w0 _ g s0_0 t454 t455 from by repeat (first | (with_reducible first | exact HI0.out | apply IsS80.alloc | apply IsS80.drewN | apply IsS80.drew | apply IsS80.set_1 | apply IsS80.set_2) | exact HI0.out)) (by (with_reducible repeat (first | apply Kd.R_alloc | apply Kd.R_drewN | apply Kd.R_drew)); exact HO_3.out) (by decide)) hk (fun _ h => h.2)) (fun _ h => h.1)); have n1_ := Aside0.mk (KeepBut.trans (by repeat (first | (with_reducible first | exact HK.out | apply KeepBut.set_ | apply keep_drewN | apply keep_drew | apply keep_alloc) | exact HK.out)) hk (.inl rfl)); have n2_ := Aside0.mk (hb); have n3_ := Aside0.mk (hi); clear HO_3; clear HK; clear HB; clear HI0; have HO_3 := n0_; have HK := n1_; have HB := n2_; have HI0 := n3_; clear n0_ n1_ n2_ n3_; (try clear hb); (try clear hb2); (try clear hk); (try clear hi); obtain ⟨Ao38, co38, eo38⟩ := Kd.R_slice HO_3.out; subst eo38) | ((with_reducible refine gate_callee (f := 38) rfl ?_); refine goesL_ (some 25) rfl rfl Tryz.func38 (by kernel_rfl) rfl #[.slice Ao38 x3_1.length co38, .string t453, .string t456, .int .i64 (wrap64 (1 + t424))] rfl (by (try simp only [List.map_toArray, List.map_cons, List.map_nil]); first | done | rfl | (simp only [List.length_drop, List.length_take]; rfl)) ?_; (with_reducible refine (spec_l05Mint.calls _ _ x3_1 t453 t456 (wrap64 (1 + t424)) t459 t460 _ ?side1 ?side2 A33.out).mono ?_); (case side1 => repeat (first | exact (Kd.R_reads' HO_3.out).2.2 | (with_reducible refine Kd.C_alloc ?_ _) | (with_reducible refine Kd.C_drewN ?_ _) | (with_reducible refine Kd.C_drew ?_))); (case side2 => exact (Kd.R_reads' HO_3.out).2.1); rintro e w39 ⟨v461, rfl, ho0, hb⟩; refine ⟨_, rfl, ?_⟩; have n0_ := Aside0.mk (Kd.R_below (by (with_reducible repeat (first | apply Kd.R_alloc | apply Kd.R_drewN | apply Kd.R_drew)); exact HO_3.out) hb); have n1_ := Aside0.mk (RO_own (RO_lower ho0 (keep_size (w := w) (g := g) (row := none) (by repeat (first | (with_reducible first | exact HK.out | apply KeepBut.set_ | apply keep_drewN | apply keep_drew | apply keep_alloc) | exact HK.out)))) (Kd.R_mono n0_.out (fun _ _ => trivial))); have n2_ := Aside0.mk (IsS80.below (by repeat (first | (with_reducible first | exact HI0.out | apply IsS80.alloc | apply IsS80.drewN | apply IsS80.drew | apply IsS80.set_1 | apply IsS80.set_2) | exact HI0.out)) hb); have n3_ := Aside0.mk (KeepBut.trans (by repeat (first | (with_reducible first | exact HK.out | apply KeepBut.set_ | apply keep_drewN | apply keep_drew | apply keep_alloc) | exact HK.out)) (KeepBut.of_below hb g none) (.inl rfl)); have n4_ := Aside0.mk (below_step (by repeat (first | (with_reducible first | exact HB.out | apply below_alloc | apply pw_below_drewN | apply below_drew1 | refine below_set ?_ (IsS80.ge HI0.out)) | exact HB.out)) hb); clear HO_3; clear HI0; clear HK; clear HB; have HO_3 := n0_; have HO462 := n1_; have HI0 := n2_; have HK := n3_; have HB := n4_; clear n0_ n1_ n2_ n3_ n4_; (try clear hb); (try clear hb2); (try clear hk); (try clear hi); (try clear ho0)))
            go_roundg k1
            case measure => have := HK1.out; omega
            case rel => exact ⟨(t459), (wrap64 (x4_1 - 1)), (t457), (t458), (by first | rfl | (simp; done) | (simp [*]; done)), H', ⟨by have := HK1.out; omega⟩, ⟨by (with_reducible repeat (first | apply Kd.R_alloc | apply Kd.R_drewN | apply Kd.R_drew)); exact Kd.R_mono HO462.out (fun _ hk => trivial)⟩, ⟨by repeat (first | (with_reducible first | exact HI0.out | apply IsS80.alloc | apply IsS80.drewN | apply IsS80.drew | apply IsS80.set_1 | apply IsS80.set_2) | exact HI0.out)⟩, ⟨by repeat (first | (with_reducible first | exact HK.out | apply KeepBut.set_ | apply keep_drewN | apply keep_drew | apply keep_alloc) | exact HK.out)⟩, ⟨by repeat (first | (with_reducible first | exact HB.out | apply below_alloc | apply pw_below_drewN | apply below_drew1 | refine below_set ?_ (IsS80.ge HI0.out)) | exact HB.out)⟩⟩
      · rw [if_neg c6] at H
        have c6b0 : decide (0 < x4_1) = false := decide_eq_false c6
        clear c6
        obtain ⟨y418, hy418⟩ : ∃ y_ : List (S56), y_ = (([] : List (S56))) := ⟨_, rfl⟩
        replace H : (if y418.length + x3_1.length < 4398046511104 then (some ((y418 ++ x3_1), x1001_1, x1002_1)) else (none)) = some (r1, r2, r3) := by first | (rw [hy418]; with_reducible exact H) | (have H2_ := (Option.bind_some _ _).symm.trans H; rw [hy418]; with_reducible exact H2_) | (have H2_ := (Option.bind_some _ _).symm.trans H; with_reducible exact H2_) | with_reducible exact H | (rw [hy418]; exact H) | exact H
        have Ny418 := Aside0.mk hy418
        clear hy418
        by_cases c40 : y418.length + x3_1.length < 4398046511104
        · rw [if_pos c40] at H
          have LMc40 := Aside0.mk c40
          clear c40
          obtain ⟨y421, hy421⟩ : ∃ y_ : List (S56), y_ = (y418 ++ x3_1) := ⟨_, rfl⟩
          replace H : (some (y421, x1001_1, x1002_1)) = some (r1, r2, r3) := by first | (rw [hy421]; with_reducible exact H) | (have H2_ := (Option.bind_some _ _).symm.trans H; rw [hy421]; with_reducible exact H2_) | (have H2_ := (Option.bind_some _ _).symm.trans H; with_reducible exact H2_) | with_reducible exact H | (rw [hy421]; exact H) | exact H
          have Ny421 := Aside0.mk hy421
          clear hy421
          simp only [Option.some.injEq, Prod.mk.injEq] at H
          obtain ⟨rfl, rfl, rfl⟩ := H
          go_wp2_with (first | ((with_reducible refine gate_dst (N := 54) rfl ?_); refine Kd.R_lit k56 _ 56 ?hg (N := 54) ?hd (xs := ([] : List (S56))) (inner := []) (ok := fun _ => True) (okp := fun _ => True) ?hr ?hp (fun _ hk => hk) trivial (Below.refl _ _) (Nat.le_refl _) (by simp) ?_; (case hd => rfl); (case hg => rfl); (case hr => first | (go_simp; done) | (go_simp; rfl)); (case hp => exact (Reps.none _ _)); intro v419 w41 ho42 hb hg_ hnew_; clear hg_ hnew_; (first | rw [← Ny418.out] at ho42 | (simp only [Int.reduceToNat] at ho42; rw [← Ny418.out] at ho42)); have n0_ := Aside0.mk (Kd.R_elder' (by (with_reducible repeat (first | apply Kd.R_alloc | apply Kd.R_drewN | apply Kd.R_drew)); exact HO_3.out) (Kd.R_base ho42) hb); have n1_ := Aside0.mk (Kd.R_lower (Kd.R_new' ho42 (Kd.R_lt (by (with_reducible repeat (first | apply Kd.R_alloc | apply Kd.R_drewN | apply Kd.R_drew)); exact HO_3.out))) (keep_size (w := w) (g := g) (row := none) (by repeat (first | (with_reducible first | exact HK.out | apply KeepBut.set_ | apply keep_drewN | apply keep_drew | apply keep_alloc) | exact HK.out)))); have n2_ := Aside0.mk (IsS80.below (by repeat (first | (with_reducible first | exact HI0.out | apply IsS80.alloc | apply IsS80.drewN | apply IsS80.drew | apply IsS80.set_1 | apply IsS80.set_2) | exact HI0.out)) hb); have n3_ := Aside0.mk (KeepBut.trans (by repeat (first | (with_reducible first | exact HK.out | apply KeepBut.set_ | apply keep_drewN | apply keep_drew | apply keep_alloc) | exact HK.out)) (KeepBut.of_below hb g none) (.inl rfl)); have n4_ := Aside0.mk (below_step (by repeat (first | (with_reducible first | exact HB.out | apply below_alloc | apply pw_below_drewN | apply below_drew1 | refine below_set ?_ (IsS80.ge HI0.out)) | exact HB.out)) hb); clear HO_3; clear HI0; clear HK; clear HB; have HO_3 := n0_; have HO420 := n1_; have HI0 := n2_; have HK := n3_; have HB := n4_; clear n0_ n1_ n2_ n3_ n4_; clear hb ho42; obtain ⟨Ao44, co44, eo44⟩ := Kd.R_slice HO_3.out; subst eo44) | ((with_reducible refine gate_builtin (b := .append) (xs := #[.tmp 54, .tmp 55]) rfl ?_); at_builtin; refine Kd.R_append_rows k56 w.heap.size rfl (.tmp 54) (.tmp 55) 24 56 (.agg #[(.string ⟨#[]⟩), (.string ⟨#[]⟩)]) 32 rfl Tryz.underlying24 info56 rfl (by decide) (by omega) v419 y418 x3_1 _ _ _ (fun k_ => some k_ ≠ (.slice Ao44 x3_1.length co44 : Value).ownBlock) (fun _ => False) rfl rfl ?aO ?aR (fun _ _ h => h) (fun _ h => h.elim) ?aF (Below.refl _ _) ?aS ?aL ?_; (case aR => repeat (first | exact (Kd.R_reads' HO_3.out).2.2 | (with_reducible refine Kd.C_alloc ?_ _) | (with_reducible refine Kd.C_drewN ?_ _) | (with_reducible refine Kd.C_drew ?_))); (case aF => exact (fun k_ hk => Kd.fresh' (Kd.R_lt (by (with_reducible repeat (first | apply Kd.R_alloc | apply Kd.R_drewN | apply Kd.R_drew)); exact HO_3.out)) k_ hk)); (case aO => exact (by (with_reducible repeat (first | apply Kd.R_alloc | apply Kd.R_drewN | apply Kd.R_drew)); exact Kd.R_mono HO420.out (fun _ hk => hk.2))); (case aS => exact (keep_size (w := w) (g := g) (row := none) (by repeat (first | (with_reducible first | exact HK.out | apply KeepBut.set_ | apply keep_drewN | apply keep_drew | apply keep_alloc) | exact HK.out)))); (case aL => have := LMc40.out; omega); intro v422 w43 ho hb hg hat; rw [← Ny421.out] at ho; have n0_ := Aside0.mk (Kd.R_after (ok := (fun _ => True)) (by (with_reducible repeat (first | apply Kd.R_alloc | apply Kd.R_drewN | apply Kd.R_drew)); exact HO_3.out) hg hat); have n1_ := Aside0.mk (IsS80.grown (by repeat (first | (with_reducible first | exact HI0.out | apply IsS80.alloc | apply IsS80.drewN | apply IsS80.drew | apply IsS80.set_1 | apply IsS80.set_2) | exact HI0.out)) hg (IsS80.own_ne HI0.out HO420.out (by decide))); have n2_ := Aside0.mk (below_weaken (by repeat (first | (with_reducible first | exact HB.out | apply below_alloc | apply pw_below_drewN | apply below_drew1 | refine below_set ?_ (IsS80.ge HI0.out)) | exact HB.out)) HL.out hb); have n3_ := Aside0.mk (KeepBut.trans (by repeat (first | (with_reducible first | exact HK.out | apply KeepBut.set_ | apply keep_drewN | apply keep_drew | apply keep_alloc) | exact HK.out)) (KeepBut.of_grown hg g) (Kd.R_base2 HO420.out)); have n4_ := Aside0.mk (ho); clear HO_3; clear HI0; clear HB; clear HK; clear HO420; have HO_3 := n0_; have HI0 := n1_; have HB := n2_; have HK := n3_; have HO423 := n4_; clear n0_ n1_ n2_ n3_ n4_; clear ho hb hg hat))
          go_ret
          exact ⟨_, by first | rfl | (simp [errW_none, errW_some] <;> rfl) | (simp [*, errW_none, errW_some] <;> rfl), by (with_reducible repeat (first | apply Kd.R_alloc | apply Kd.R_drewN | apply Kd.R_drew)); exact Kd.R_mono HO423.out (fun _ hk => trivial), by repeat (first | (with_reducible first | exact HI0.out | apply IsS80.alloc | apply IsS80.drewN | apply IsS80.drew | apply IsS80.set_1 | apply IsS80.set_2) | exact HI0.out), by repeat (first | (with_reducible first | exact HB.out | apply below_alloc | apply pw_below_drewN | apply below_drew1 | refine below_set ?_ (IsS80.ge HI0.out)) | exact HB.out), by repeat (first | (with_reducible first | exact HK.out | apply KeepBut.set_ | apply keep_drewN | apply keep_drew | apply keep_alloc) | exact HK.out)⟩
        · rw [if_neg c40] at H
          exact absurd H (by simp)

/-! ### spec_BankOf: function 18 -/
def spec_BankOf.f (k : Nat) (l0 : List Int) : Option ((List (S56))) := (spec_l00Source.f l0).bind fun bt463 => ((spec_l00Src_bank.f k bt463.1 bt463.2.1 bt463.2.2).bind fun bt467 => (some bt467.1))
set_option maxHeartbeats 8000000 in
set_option maxRecDepth 100000 in
theorem spec_BankOf.calls (k : Nat) (A0 : Option Addr) (c0 : Nat) (l0 : List Int) (r : List (S56)) (w : World) (hr0 : Kd.C (Kd.int .u8) w A0 l0.length l0) (hc0 : l0.length ≤ c0) (h : spec_BankOf.f k l0 = some r) :
    Calls Tryz.prog 18 #[.slice A0 l0.length c0] w fun e w' => ∃ v0_ : Value, e = .returned (v0_) ∧ Kd.R k56 56 w' w.heap.size (fun _ => True) v0_ r ∧ Below w.heap.size w w' := by
  have HR0 := Aside0.mk hr0
  have HC0 := Aside0.mk hc0
  clear hr0 hc0
  have HB := Aside0.mk (Below.refl w.heap.size w)
  have H : ((spec_l00Source.f l0).bind fun bt463 => ((spec_l00Src_bank.f k bt463.1 bt463.2.1 bt463.2.2).bind fun bt467 => (some bt467.1))) = some r := h
  clear h
  replace H := Option.bind_eq_some_iff.mp H
  obtain ⟨⟨t463, t464, t465⟩, A20, H⟩ := H
  replace H : ((spec_l00Src_bank.f k t463 t464 t465).bind fun bt467 => (some bt467.1)) = some r := H
  have A2 := Aside0.mk A20
  clear A20
  replace H := Option.bind_eq_some_iff.mp H
  obtain ⟨⟨t467, t470, t471⟩, A30, H⟩ := H
  replace H : (some t467) = some r := H
  have A3 := Aside0.mk A30
  clear A30
  obtain rfl := Option.some.inj H
  go_enter Tryz.func18, Tryz.ntmps18
  go_wp2_with (first | ((with_reducible refine gate_callee (f := 42) rfl ?_); refine goesL_ (some 4) rfl rfl Tryz.func42 (by kernel_rfl) rfl #[.slice A0 l0.length c0] rfl (by (try simp only [List.map_toArray, List.map_cons, List.map_nil]); first | done | rfl | (simp only [List.length_drop, List.length_take]; rfl)) ?_; (with_reducible refine (spec_l00Source.calls _ _ l0 t463 t464 t465 w _ ?side1 ?side2 ?side3 A2.out).mono ?_); (case side1 => repeat (first | (with_reducible first | exact HB.out | apply below_alloc | apply pw_below_drewN | apply below_drew1) | exact HB.out)); (case side2 => exact HR0.out); (case side3 => exact HC0.out); rintro e w4 ⟨g466, rfl, hi, hb, hb2⟩; refine ⟨_, rfl, ?_⟩; have n0_ := Aside0.mk (hb); have n1_ := Aside0.mk (hi); clear HB; have HB := n0_; have HI466 := n1_; clear n0_ n1_; (try clear hb); (try clear hb2); (try clear hk); (try clear hi)) | ((with_reducible refine gate_callee (f := 43) rfl ?_); refine goesL_ (some 5) rfl rfl Tryz.func43 (by kernel_rfl) rfl #[.pointer (some ⟨g466, 0, none⟩)] rfl (by (try simp only [List.map_toArray, List.map_cons, List.map_nil]); first | done | rfl | (simp only [List.length_drop, List.length_take]; rfl)) ?_; (with_reducible refine (spec_l00Src_bank.calls k g466 t463 t464 t465 t467 t470 t471 w _ ?side1 ?side2 A3.out).mono ?_); (case side1 => repeat (first | (with_reducible first | exact HI466.out | apply IsS80.alloc | apply IsS80.drewN | apply IsS80.drew | apply IsS80.set_1 | apply IsS80.set_2) | exact HI466.out)); (case side2 => repeat (first | (with_reducible first | exact HB.out | apply below_alloc | apply pw_below_drewN | apply below_drew1 | refine below_set ?_ (IsS80.ge HI466.out)) | exact HB.out)); rintro e w5 ⟨v468, rfl, ho0, hi, hb, hk⟩; refine ⟨_, rfl, ?_⟩; have n0_ := Aside0.mk (Kd.R_lower ho0 (below_size (by repeat (first | (with_reducible first | exact HB.out | apply below_alloc | apply pw_below_drewN | apply below_drew1 | refine below_set ?_ (IsS80.ge HI466.out)) | exact HB.out)))); have n1_ := Aside0.mk (hb); have n2_ := Aside0.mk (hi); clear HB; clear HI466; have HO469 := n0_; have HB := n1_; have HI466 := n2_; clear n0_ n1_ n2_; (try clear hb); (try clear hb2); (try clear hk); (try clear hi); (try clear ho0)))
  go_ret
  exact ⟨_, by first | rfl | (simp [errW_none, errW_some] <;> rfl) | (simp [*, errW_none, errW_some] <;> rfl), by (with_reducible repeat (first | apply Kd.R_alloc | apply Kd.R_drewN | apply Kd.R_drew)); exact HO469.out, by repeat (first | (with_reducible first | exact HB.out | apply below_alloc | apply pw_below_drewN | apply below_drew1 | refine below_set ?_ (IsS80.ge HI466.out)) | exact HB.out)⟩

/-! ### spec_AccountOf: function 19 -/
def spec_AccountOf.f (l0 : List Int) : Option (ByteArray) := (spec_l00Source.f l0).bind fun bt472 => ((spec_l00Src_account.f bt472.1 bt472.2.1 bt472.2.2).bind fun bt476 => (some bt476.1))
set_option maxHeartbeats 8000000 in
set_option maxRecDepth 100000 in
theorem spec_AccountOf.calls (A0 : Option Addr) (c0 : Nat) (l0 : List Int) (r : ByteArray) (w : World) (hr0 : Kd.C (Kd.int .u8) w A0 l0.length l0) (hc0 : l0.length ≤ c0) (h : spec_AccountOf.f l0 = some r) :
    Calls Tryz.prog 19 #[.slice A0 l0.length c0] w fun e w' => e = .returned (.string r) ∧ Below w.heap.size w w' := by
  have HR0 := Aside0.mk hr0
  have HC0 := Aside0.mk hc0
  clear hr0 hc0
  have HB := Aside0.mk (Below.refl w.heap.size w)
  have H : ((spec_l00Source.f l0).bind fun bt472 => ((spec_l00Src_account.f bt472.1 bt472.2.1 bt472.2.2).bind fun bt476 => (some bt476.1))) = some r := h
  clear h
  replace H := Option.bind_eq_some_iff.mp H
  obtain ⟨⟨t472, t473, t474⟩, A20, H⟩ := H
  replace H : ((spec_l00Src_account.f t472 t473 t474).bind fun bt476 => (some bt476.1)) = some r := H
  have A2 := Aside0.mk A20
  clear A20
  replace H := Option.bind_eq_some_iff.mp H
  obtain ⟨⟨t476, t477, t478⟩, A30, H⟩ := H
  replace H : (some t476) = some r := H
  have A3 := Aside0.mk A30
  clear A30
  obtain rfl := Option.some.inj H
  go_enter Tryz.func19, Tryz.ntmps19
  go_wp2_with (first | ((with_reducible refine gate_callee (f := 42) rfl ?_); refine goesL_ (some 4) rfl rfl Tryz.func42 (by kernel_rfl) rfl #[.slice A0 l0.length c0] rfl (by (try simp only [List.map_toArray, List.map_cons, List.map_nil]); first | done | rfl | (simp only [List.length_drop, List.length_take]; rfl)) ?_; (with_reducible refine (spec_l00Source.calls _ _ l0 t472 t473 t474 w _ ?side1 ?side2 ?side3 A2.out).mono ?_); (case side1 => repeat (first | (with_reducible first | exact HB.out | apply below_alloc | apply pw_below_drewN | apply below_drew1) | exact HB.out)); (case side2 => exact HR0.out); (case side3 => exact HC0.out); rintro e w4 ⟨g475, rfl, hi, hb, hb2⟩; refine ⟨_, rfl, ?_⟩; have n0_ := Aside0.mk (hb); have n1_ := Aside0.mk (hi); clear HB; have HB := n0_; have HI475 := n1_; clear n0_ n1_; (try clear hb); (try clear hb2); (try clear hk); (try clear hi)) | ((with_reducible refine gate_callee (f := 44) rfl ?_); refine goesL_ (some 5) rfl rfl Tryz.func44 (by kernel_rfl) rfl #[.pointer (some ⟨g475, 0, none⟩)] rfl (by (try simp only [List.map_toArray, List.map_cons, List.map_nil]); first | done | rfl | (simp only [List.length_drop, List.length_take]; rfl)) ?_; (with_reducible refine (spec_l00Src_account.calls g475 t472 t473 t474 t476 t477 t478 w _ ?side1 ?side2 A3.out).mono ?_); (case side1 => repeat (first | (with_reducible first | exact HI475.out | apply IsS80.alloc | apply IsS80.drewN | apply IsS80.drew | apply IsS80.set_1 | apply IsS80.set_2) | exact HI475.out)); (case side2 => repeat (first | (with_reducible first | exact HB.out | apply below_alloc | apply pw_below_drewN | apply below_drew1 | refine below_set ?_ (IsS80.ge HI475.out)) | exact HB.out)); rintro e w5 ⟨rfl, hi, hb, hk⟩; refine ⟨_, rfl, ?_⟩; have n0_ := Aside0.mk (hb); have n1_ := Aside0.mk (hi); clear HB; clear HI475; have HB := n0_; have HI475 := n1_; clear n0_ n1_; (try clear hb); (try clear hb2); (try clear hk); (try clear hi)))
  go_ret
  exact ⟨by first | rfl | (simp [errW_none, errW_some] <;> rfl) | (simp [*, errW_none, errW_some] <;> rfl), by repeat (first | (with_reducible first | exact HB.out | apply below_alloc | apply pw_below_drewN | apply below_drew1 | refine below_set ?_ (IsS80.ge HI475.out)) | exact HB.out)⟩

/-! ### spec_DenomOf: function 20 -/
def spec_DenomOf.f (l0 : List Int) : Option (ByteArray) := (spec_l00Source.f l0).bind fun bt479 => ((spec_l00Src_denom.f bt479.1 bt479.2.1 bt479.2.2).bind fun bt483 => (some bt483.1))
set_option maxHeartbeats 8000000 in
set_option maxRecDepth 100000 in
theorem spec_DenomOf.calls (A0 : Option Addr) (c0 : Nat) (l0 : List Int) (r : ByteArray) (w : World) (hr0 : Kd.C (Kd.int .u8) w A0 l0.length l0) (hc0 : l0.length ≤ c0) (h : spec_DenomOf.f l0 = some r) :
    Calls Tryz.prog 20 #[.slice A0 l0.length c0] w fun e w' => e = .returned (.string r) ∧ Below w.heap.size w w' := by
  have HR0 := Aside0.mk hr0
  have HC0 := Aside0.mk hc0
  clear hr0 hc0
  have HB := Aside0.mk (Below.refl w.heap.size w)
  have H : ((spec_l00Source.f l0).bind fun bt479 => ((spec_l00Src_denom.f bt479.1 bt479.2.1 bt479.2.2).bind fun bt483 => (some bt483.1))) = some r := h
  clear h
  replace H := Option.bind_eq_some_iff.mp H
  obtain ⟨⟨t479, t480, t481⟩, A20, H⟩ := H
  replace H : ((spec_l00Src_denom.f t479 t480 t481).bind fun bt483 => (some bt483.1)) = some r := H
  have A2 := Aside0.mk A20
  clear A20
  replace H := Option.bind_eq_some_iff.mp H
  obtain ⟨⟨t483, t484, t485⟩, A30, H⟩ := H
  replace H : (some t483) = some r := H
  have A3 := Aside0.mk A30
  clear A30
  obtain rfl := Option.some.inj H
  go_enter Tryz.func20, Tryz.ntmps20
  go_wp2_with (first | ((with_reducible refine gate_callee (f := 42) rfl ?_); refine goesL_ (some 4) rfl rfl Tryz.func42 (by kernel_rfl) rfl #[.slice A0 l0.length c0] rfl (by (try simp only [List.map_toArray, List.map_cons, List.map_nil]); first | done | rfl | (simp only [List.length_drop, List.length_take]; rfl)) ?_; (with_reducible refine (spec_l00Source.calls _ _ l0 t479 t480 t481 w _ ?side1 ?side2 ?side3 A2.out).mono ?_); (case side1 => repeat (first | (with_reducible first | exact HB.out | apply below_alloc | apply pw_below_drewN | apply below_drew1) | exact HB.out)); (case side2 => exact HR0.out); (case side3 => exact HC0.out); rintro e w4 ⟨g482, rfl, hi, hb, hb2⟩; refine ⟨_, rfl, ?_⟩; have n0_ := Aside0.mk (hb); have n1_ := Aside0.mk (hi); clear HB; have HB := n0_; have HI482 := n1_; clear n0_ n1_; (try clear hb); (try clear hb2); (try clear hk); (try clear hi)) | ((with_reducible refine gate_callee (f := 45) rfl ?_); refine goesL_ (some 5) rfl rfl Tryz.func45 (by kernel_rfl) rfl #[.pointer (some ⟨g482, 0, none⟩)] rfl (by (try simp only [List.map_toArray, List.map_cons, List.map_nil]); first | done | rfl | (simp only [List.length_drop, List.length_take]; rfl)) ?_; (with_reducible refine (spec_l00Src_denom.calls g482 t479 t480 t481 t483 t484 t485 w _ ?side1 ?side2 A3.out).mono ?_); (case side1 => repeat (first | (with_reducible first | exact HI482.out | apply IsS80.alloc | apply IsS80.drewN | apply IsS80.drew | apply IsS80.set_1 | apply IsS80.set_2) | exact HI482.out)); (case side2 => repeat (first | (with_reducible first | exact HB.out | apply below_alloc | apply pw_below_drewN | apply below_drew1 | refine below_set ?_ (IsS80.ge HI482.out)) | exact HB.out)); rintro e w5 ⟨rfl, hi, hb, hk⟩; refine ⟨_, rfl, ?_⟩; have n0_ := Aside0.mk (hb); have n1_ := Aside0.mk (hi); clear HB; clear HI482; have HB := n0_; have HI482 := n1_; clear n0_ n1_; (try clear hb); (try clear hb2); (try clear hk); (try clear hi)))
  go_ret
  exact ⟨by first | rfl | (simp [errW_none, errW_some] <;> rfl) | (simp [*, errW_none, errW_some] <;> rfl), by repeat (first | (with_reducible first | exact HB.out | apply below_alloc | apply pw_below_drewN | apply below_drew1 | refine below_set ?_ (IsS80.ge HI482.out)) | exact HB.out)⟩


end Go.Proofs.YtpkfdjlmflmilaaGreatDoor.Q
end
section
namespace Go.Proofs.YtpkfdjlmflmilaaGreatDoor.Q
open Go.RowKit Go.Proofs.YtpkfdjlmflmilaaGreatDoorW.PrintWords Go.Proofs.YtpkfdjlmflmilaaGreatDoorW.PrintLast Go.Proofs.YtpkfdjlmflmilaaGreatDoorW.PrintMore Go.Proofs.YtpkfdjlmflmilaaGreatDoor.Pure
set_option linter.unusedVariables false
set_option linter.unusedSimpArgs false
/-- What a bank's function gives: the code, or the two changes. -/
def bankN (l : List S56) (ns : List ByteArray) (n : Int) (a : ByteArray) (x : Int) (b : ByteArray) (y : Int) : List S56 × Int := if bcN l n ns = 0 then twoN l a x b y else ([], bcN l n ns)
theorem two_len (l : List S56) (a : ByteArray) (x : Int) (b : ByteArray) (y : Int) : (twoN l a x b y).1.length ≤ l.length + 2 := by
  have h1 := add_len l a x
  have h2 := add_len (addN l a x).1 b y
  unfold twoN
  split
  · split
    · show (addN (addN l a x).1 b y).1.length ≤ _
      omega
    · show l.length ≤ _
      omega
  · show l.length ≤ _
    omega

def spec_Burn.f (l0 : List S56) (a1 a2 : ByteArray) (a3 : Int) : Option (List S56 × Int) := some (bankN l0 [a1, a2] a3 (bKey a1 a2) (-a3) (sKey a2) (-a3))
set_option maxHeartbeats 8000000 in
set_option maxRecDepth 100000 in
theorem spec_Burn.calls (A0 : Option Addr) (c0 : Nat) (l0 : List S56) (a1 a2 : ByteArray) (a3 : Int) (r1 : List S56) (r2 : Int) (w : World) (hr0 : Kd.C k56 w A0 l0.length l0) (hc0 : l0.length ≤ c0) (h : spec_Burn.f l0 a1 a2 a3 = some (r1, r2)) :
    Calls Tryz.prog 8 #[.slice A0 l0.length c0, .string a1, .string a2, .int .i64 a3] w fun e w' => ∃ v0_ : Value, e = .returned (.tuple #[v0_, .int .i64 r2]) ∧ Kd.R k56 56 w' w.heap.size (fun _ => True) v0_ r1 ∧ Below w.heap.size w w' := by
  unfold spec_Burn.f at h
  injection h with h
  unfold bankN bcN at h
  by_cases hlong : l0.length > 4096 ∨ ([a1, a2].any fun x => decide (65536 < (x.size : Int))) = true
  · rw [if_pos hlong, if_neg (by decide)] at h
    have e1 : [] = r1 := congrArg Prod.fst h
    have e2 : (2 : Int) = r2 := congrArg Prod.snd h
    subst e1
    subst e2
    clear h hr0 hc0
    simp only [List.any_cons, List.any_nil, Bool.or_false, Bool.or_eq_true, decide_eq_true_eq] at hlong
    generalize l0.length = len at *
    by_cases hl0 : (len : Int) > 4096
    · clear hlong
      go_enter Tryz.func8, Tryz.ntmps8
      go_wp2
      go_ret2
      exact ⟨_, rfl, R_made w _ (Nat.le_refl _), (Below.refl _ _).alloc (Nat.le_refl _) _⟩
    · have hm0 : ¬ (4096 < (len : Int)) := by omega
      by_cases hl1 : (a1.size : Int) > 65536
      · clear hlong
        go_enter Tryz.func8, Tryz.ntmps8
        go_wp2
        go_ret2
        exact ⟨_, rfl, R_made w _ (Nat.le_refl _), (Below.refl _ _).alloc (Nat.le_refl _) _⟩
      · have hm1 : ¬ (65536 < (a1.size : Int)) := by omega
        have hl2 : (a2.size : Int) > 65536 := by omega
        clear hlong hl0 hl1
        go_enter Tryz.func8, Tryz.ntmps8
        go_wp2
        go_ret2
        exact ⟨_, rfl, R_made w _ (Nat.le_refl _), (Below.refl _ _).alloc (Nat.le_refl _) _⟩
  · rw [if_neg hlong] at h
    simp only [List.any_cons, List.any_nil, Bool.or_false, Bool.or_eq_true, decide_eq_true_eq] at hlong
    have hm0 : ¬ (4096 < (l0.length : Int)) := by omega
    have hm1 : ¬ (65536 < (a1.size : Int)) := by omega
    have hm2 : ¬ (65536 < (a2.size : Int)) := by omega
    have hs : ∀ x ∈ [a1, a2], x.size ≤ 65536 := by simp; omega
    have HBK := Aside0.mk (spec_bk l0 [a1, a2] (by simp) hs 20000 (by omega))
    have HRI : bkCode l0 [a1, a2] = 0 → rightB l0 = true := fun hz => (bk_zero hz).1
    clear hlong hs
    have HB := Aside0.mk (Below.refl w.heap.size w)
    have HC := Aside0.mk hr0
    have HK := Aside0.mk hc0
    clear hr0 hc0
    obtain ⟨y1, hy1⟩ : ∃ y_ : List ByteArray, y_ = [a1, a2] := ⟨_, rfl⟩
    rw [← hy1] at HBK HRI h
    have Ny1 := Aside0.mk hy1
    clear hy1
    generalize bkCode l0 y1 = c at *
    by_cases hz : c = 0
    · subst hz
      have hrt := HRI rfl
      have hlr := right_len hrt
      have hokv := okV_right hrt
      have HIN := Aside0.mk (spec_in a3 1 1000000000000000000)
      rw [if_pos rfl] at h
      by_cases hn : 1 ≤ a3 ∧ a3 ≤ 1000000000000000000
      · rw [if_pos hn, if_pos rfl] at h
        rw [decide_eq_true hn.1, decide_eq_true hn.2, Bool.and_self] at HIN
        have e1 : (twoN l0 (bKey a1 a2) (-a3) (sKey a2) (-a3)).1 = r1 := congrArg Prod.fst h
        have e2 : (twoN l0 (bKey a1 a2) (-a3) (sKey a2) (-a3)).2 = r2 := congrArg Prod.snd h
        have HX := Aside0.mk (fun (W : World) (hr : Kd.C k56 W A0 l0.length l0) => l05Burn_calls A0 c0 l0 a1 a2 a3 W hr HK.out (by omega) hokv (by omega) (by omega) hn.1 hn.2)
        have hlen := two_len l0 (bKey a1 a2) (-a3) (sKey a2) (-a3)
        rw [e1] at HX hlen
        rw [e2] at HX
        clear h e1 e2 hn hrt hokv HRI
        go_enter Tryz.func8, Tryz.ntmps8
        go_wp2_with (first | ((with_reducible refine gate_dst (N := 30) rfl ?_); (try (refine gate_guard (by rfl) ?_; dsimp only)); refine Kd.R_lit Kd.string _ 9 ?hg (N := 30) ?hd (xs := ([a1, a2] : List ByteArray)) (inner := [.string a1, .string a2]) (ok := fun _ => True) (okp := fun _ => True) ?hr ?hp (fun _ hk => hk) trivial (Below.refl _ _) (Nat.le_refl _) (by simp) ?_; (case hd => rfl); (case hg => rfl); (case hr => first | (go_simp; done) | (go_simp; rfl)); (case hp => exact (Reps.one (show Kd.M Kd.string _ _ _ a1 [.string a1] from rfl) (Reps.one (show Kd.M Kd.string _ _ _ a2 [.string a2] from rfl) (Reps.none _ _)))); intro v1 w1 ho hb hg_ hnew_; clear hg_ hnew_; (first | rw [← Ny1.out] at ho | (simp only [Int.reduceToNat] at ho; rw [← Ny1.out] at ho)); have HO1 := Aside0.mk (Kd.R_lower ho (below_size (by repeat (first | (with_reducible first | exact HB.out | apply below_alloc | apply pw_below_drewN | apply below_drew1) | exact HB.out)))); have HB1 := Aside0.mk (below_step (by repeat (first | (with_reducible first | exact HB.out | apply below_alloc | apply pw_below_drewN | apply below_drew1) | exact HB.out)) hb); clear ho hb; obtain ⟨A1, c1, eo1⟩ := Kd.R_slice HO1.out; subst eo1) | (go_at_call 30; refine (spec_l05Code.calls 20000 A0 c0 l0 A1 c1 y1 _ _ (Kd.C_below HC.out HB1.out) HK.out (Kd.R_reads' HO1.out).2.2 (Kd.R_reads' HO1.out).2.1 HBK.out).mono ?_; rintro e w2 ⟨rfl, hb2⟩; have HB2 := Aside0.mk (HB1.out.trans (hb2.mono HB1.out.size)); clear hb2) | (go_at_call 31; refine (spec_l01In.calls a3 1 1000000000000000000 _ _ HIN.out).mono ?_; rintro e w3 ⟨rfl, hd3⟩; have HB3 := Aside0.mk (HB2.out.trans (hd3.below.mono HB2.out.size)); clear hd3) | (go_at_call 32; refine (HX.out _ (Kd.C_below HC.out HB3.out)).mono ?_; rintro e w4 ⟨v, rfl, hRV, hb4⟩; have HB4 := Aside0.mk (HB3.out.trans (hb4.mono HB3.out.size)); obtain ⟨A2, c2, rfl, hl3, hC2⟩ := hRV; have HC2 := Aside0.mk hC2; clear hb4 hC2) | (at_builtin; refine wpList_rows (w0 := w) _ _ _ [] r1 A2 c2 rfl rfl rfl rfl (R_made w4 _ HB4.out.size) (Kd.C_alloc HC2.out _) (below_alloc HB4.out _) (by simp; omega) ?_; intro v3 w5 hR3 hb3 hg3; rw [List.nil_append] at hR3; have HR3 := Aside0.mk hR3; have HB5 := Aside0.mk hb3; clear hR3 hb3 hg3))
        go_ret2
        exact ⟨_, rfl, HR3.out, HB5.out⟩
      · rw [if_neg hn, if_neg (by decide)] at h
        have e1 : [] = r1 := congrArg Prod.fst h
        have e2 : (4 : Int) = r2 := congrArg Prod.snd h
        subst e1
        subst e2
        have hb : (decide (1 ≤ a3) && decide (a3 ≤ 1000000000000000000)) = false := by rw [Bool.and_eq_false_iff, decide_eq_false_iff_not, decide_eq_false_iff_not]; omega
        rw [hb] at HIN
        clear h hn hb hrt hokv hlr HRI
        go_enter Tryz.func8, Tryz.ntmps8
        go_wp2_with (first | ((with_reducible refine gate_dst (N := 30) rfl ?_); (try (refine gate_guard (by rfl) ?_; dsimp only)); refine Kd.R_lit Kd.string _ 9 ?hg (N := 30) ?hd (xs := ([a1, a2] : List ByteArray)) (inner := [.string a1, .string a2]) (ok := fun _ => True) (okp := fun _ => True) ?hr ?hp (fun _ hk => hk) trivial (Below.refl _ _) (Nat.le_refl _) (by simp) ?_; (case hd => rfl); (case hg => rfl); (case hr => first | (go_simp; done) | (go_simp; rfl)); (case hp => exact (Reps.one (show Kd.M Kd.string _ _ _ a1 [.string a1] from rfl) (Reps.one (show Kd.M Kd.string _ _ _ a2 [.string a2] from rfl) (Reps.none _ _)))); intro v1 w1 ho hb hg_ hnew_; clear hg_ hnew_; (first | rw [← Ny1.out] at ho | (simp only [Int.reduceToNat] at ho; rw [← Ny1.out] at ho)); have HO1 := Aside0.mk (Kd.R_lower ho (below_size (by repeat (first | (with_reducible first | exact HB.out | apply below_alloc | apply pw_below_drewN | apply below_drew1) | exact HB.out)))); have HB1 := Aside0.mk (below_step (by repeat (first | (with_reducible first | exact HB.out | apply below_alloc | apply pw_below_drewN | apply below_drew1) | exact HB.out)) hb); clear ho hb; obtain ⟨A1, c1, eo1⟩ := Kd.R_slice HO1.out; subst eo1) | (go_at_call 30; refine (spec_l05Code.calls 20000 A0 c0 l0 A1 c1 y1 _ _ (Kd.C_below HC.out HB1.out) HK.out (Kd.R_reads' HO1.out).2.2 (Kd.R_reads' HO1.out).2.1 HBK.out).mono ?_; rintro e w2 ⟨rfl, hb2⟩; have HB2 := Aside0.mk (HB1.out.trans (hb2.mono HB1.out.size)); clear hb2) | (go_at_call 31; refine (spec_l01In.calls a3 1 1000000000000000000 _ _ HIN.out).mono ?_; rintro e w3 ⟨rfl, hd3⟩; have HB3 := Aside0.mk (HB2.out.trans (hd3.below.mono HB2.out.size)); clear hd3))
        go_ret2
        exact ⟨_, rfl, R_made w3 _ HB3.out.size, below_alloc HB3.out _⟩
    · rw [if_neg hz, if_neg hz] at h
      have e1 : [] = r1 := congrArg Prod.fst h
      have e2 : c = r2 := congrArg Prod.snd h
      subst e1
      subst e2
      clear h HRI
      have hz1 : (c == 0) = false := by simpa using hz
      have hz2 : (c != 0) = true := by simpa using hz
      clear hz
      go_enter Tryz.func8, Tryz.ntmps8
      go_wp2_with (first | ((with_reducible refine gate_dst (N := 30) rfl ?_); (try (refine gate_guard (by rfl) ?_; dsimp only)); refine Kd.R_lit Kd.string _ 9 ?hg (N := 30) ?hd (xs := ([a1, a2] : List ByteArray)) (inner := [.string a1, .string a2]) (ok := fun _ => True) (okp := fun _ => True) ?hr ?hp (fun _ hk => hk) trivial (Below.refl _ _) (Nat.le_refl _) (by simp) ?_; (case hd => rfl); (case hg => rfl); (case hr => first | (go_simp; done) | (go_simp; rfl)); (case hp => exact (Reps.one (show Kd.M Kd.string _ _ _ a1 [.string a1] from rfl) (Reps.one (show Kd.M Kd.string _ _ _ a2 [.string a2] from rfl) (Reps.none _ _)))); intro v1 w1 ho hb hg_ hnew_; clear hg_ hnew_; (first | rw [← Ny1.out] at ho | (simp only [Int.reduceToNat] at ho; rw [← Ny1.out] at ho)); have HO1 := Aside0.mk (Kd.R_lower ho (below_size (by repeat (first | (with_reducible first | exact HB.out | apply below_alloc | apply pw_below_drewN | apply below_drew1) | exact HB.out)))); have HB1 := Aside0.mk (below_step (by repeat (first | (with_reducible first | exact HB.out | apply below_alloc | apply pw_below_drewN | apply below_drew1) | exact HB.out)) hb); clear ho hb; obtain ⟨A1, c1, eo1⟩ := Kd.R_slice HO1.out; subst eo1) | (go_at_call 30; refine (spec_l05Code.calls 20000 A0 c0 l0 A1 c1 y1 _ _ (Kd.C_below HC.out HB1.out) HK.out (Kd.R_reads' HO1.out).2.2 (Kd.R_reads' HO1.out).2.1 HBK.out).mono ?_; rintro e w2 ⟨rfl, hb2⟩; have HB2 := Aside0.mk (HB1.out.trans (hb2.mono HB1.out.size)); clear hb2))
      go_ret2
      exact ⟨_, rfl, R_made w2 _ HB2.out.size, below_alloc HB2.out _⟩
def spec_Mint.f (l0 : List S56) (a1 a2 : ByteArray) (a3 : Int) : Option (List S56 × Int) := some (bankN l0 [a1, a2] a3 (sKey a2) a3 (bKey a1 a2) a3)
set_option maxHeartbeats 8000000 in
set_option maxRecDepth 100000 in
theorem spec_Mint.calls (A0 : Option Addr) (c0 : Nat) (l0 : List S56) (a1 a2 : ByteArray) (a3 : Int) (r1 : List S56) (r2 : Int) (w : World) (hr0 : Kd.C k56 w A0 l0.length l0) (hc0 : l0.length ≤ c0) (h : spec_Mint.f l0 a1 a2 a3 = some (r1, r2)) :
    Calls Tryz.prog 14 #[.slice A0 l0.length c0, .string a1, .string a2, .int .i64 a3] w fun e w' => ∃ v0_ : Value, e = .returned (.tuple #[v0_, .int .i64 r2]) ∧ Kd.R k56 56 w' w.heap.size (fun _ => True) v0_ r1 ∧ Below w.heap.size w w' := by
  unfold spec_Mint.f at h
  injection h with h
  unfold bankN bcN at h
  by_cases hlong : l0.length > 4096 ∨ ([a1, a2].any fun x => decide (65536 < (x.size : Int))) = true
  · rw [if_pos hlong, if_neg (by decide)] at h
    have e1 : [] = r1 := congrArg Prod.fst h
    have e2 : (2 : Int) = r2 := congrArg Prod.snd h
    subst e1
    subst e2
    clear h hr0 hc0
    simp only [List.any_cons, List.any_nil, Bool.or_false, Bool.or_eq_true, decide_eq_true_eq] at hlong
    generalize l0.length = len at *
    by_cases hl0 : (len : Int) > 4096
    · clear hlong
      go_enter Tryz.func14, Tryz.ntmps14
      go_wp2
      go_ret2
      exact ⟨_, rfl, R_made w _ (Nat.le_refl _), (Below.refl _ _).alloc (Nat.le_refl _) _⟩
    · have hm0 : ¬ (4096 < (len : Int)) := by omega
      by_cases hl1 : (a1.size : Int) > 65536
      · clear hlong
        go_enter Tryz.func14, Tryz.ntmps14
        go_wp2
        go_ret2
        exact ⟨_, rfl, R_made w _ (Nat.le_refl _), (Below.refl _ _).alloc (Nat.le_refl _) _⟩
      · have hm1 : ¬ (65536 < (a1.size : Int)) := by omega
        have hl2 : (a2.size : Int) > 65536 := by omega
        clear hlong hl0 hl1
        go_enter Tryz.func14, Tryz.ntmps14
        go_wp2
        go_ret2
        exact ⟨_, rfl, R_made w _ (Nat.le_refl _), (Below.refl _ _).alloc (Nat.le_refl _) _⟩
  · rw [if_neg hlong] at h
    simp only [List.any_cons, List.any_nil, Bool.or_false, Bool.or_eq_true, decide_eq_true_eq] at hlong
    have hm0 : ¬ (4096 < (l0.length : Int)) := by omega
    have hm1 : ¬ (65536 < (a1.size : Int)) := by omega
    have hm2 : ¬ (65536 < (a2.size : Int)) := by omega
    have hs : ∀ x ∈ [a1, a2], x.size ≤ 65536 := by simp; omega
    have HBK := Aside0.mk (spec_bk l0 [a1, a2] (by simp) hs 20000 (by omega))
    have HRI : bkCode l0 [a1, a2] = 0 → rightB l0 = true := fun hz => (bk_zero hz).1
    clear hlong hs
    have HB := Aside0.mk (Below.refl w.heap.size w)
    have HC := Aside0.mk hr0
    have HK := Aside0.mk hc0
    clear hr0 hc0
    obtain ⟨y1, hy1⟩ : ∃ y_ : List ByteArray, y_ = [a1, a2] := ⟨_, rfl⟩
    rw [← hy1] at HBK HRI h
    have Ny1 := Aside0.mk hy1
    clear hy1
    generalize bkCode l0 y1 = c at *
    by_cases hz : c = 0
    · subst hz
      have hrt := HRI rfl
      have hlr := right_len hrt
      have hokv := okV_right hrt
      have HIN := Aside0.mk (spec_in a3 1 1000000000000000000)
      rw [if_pos rfl] at h
      by_cases hn : 1 ≤ a3 ∧ a3 ≤ 1000000000000000000
      · rw [if_pos hn, if_pos rfl] at h
        rw [decide_eq_true hn.1, decide_eq_true hn.2, Bool.and_self] at HIN
        have e1 : (twoN l0 (sKey a2) a3 (bKey a1 a2) a3).1 = r1 := congrArg Prod.fst h
        have e2 : (twoN l0 (sKey a2) a3 (bKey a1 a2) a3).2 = r2 := congrArg Prod.snd h
        have HX := Aside0.mk (fun (W : World) (hr : Kd.C k56 W A0 l0.length l0) => l05Mint_calls A0 c0 l0 a1 a2 a3 W hr HK.out (by omega) hokv (by omega) (by omega) hn.1 hn.2)
        have hlen := two_len l0 (sKey a2) a3 (bKey a1 a2) a3
        rw [e1] at HX hlen
        rw [e2] at HX
        clear h e1 e2 hn hrt hokv HRI
        go_enter Tryz.func14, Tryz.ntmps14
        go_wp2_with (first | ((with_reducible refine gate_dst (N := 30) rfl ?_); (try (refine gate_guard (by rfl) ?_; dsimp only)); refine Kd.R_lit Kd.string _ 9 ?hg (N := 30) ?hd (xs := ([a1, a2] : List ByteArray)) (inner := [.string a1, .string a2]) (ok := fun _ => True) (okp := fun _ => True) ?hr ?hp (fun _ hk => hk) trivial (Below.refl _ _) (Nat.le_refl _) (by simp) ?_; (case hd => rfl); (case hg => rfl); (case hr => first | (go_simp; done) | (go_simp; rfl)); (case hp => exact (Reps.one (show Kd.M Kd.string _ _ _ a1 [.string a1] from rfl) (Reps.one (show Kd.M Kd.string _ _ _ a2 [.string a2] from rfl) (Reps.none _ _)))); intro v1 w1 ho hb hg_ hnew_; clear hg_ hnew_; (first | rw [← Ny1.out] at ho | (simp only [Int.reduceToNat] at ho; rw [← Ny1.out] at ho)); have HO1 := Aside0.mk (Kd.R_lower ho (below_size (by repeat (first | (with_reducible first | exact HB.out | apply below_alloc | apply pw_below_drewN | apply below_drew1) | exact HB.out)))); have HB1 := Aside0.mk (below_step (by repeat (first | (with_reducible first | exact HB.out | apply below_alloc | apply pw_below_drewN | apply below_drew1) | exact HB.out)) hb); clear ho hb; obtain ⟨A1, c1, eo1⟩ := Kd.R_slice HO1.out; subst eo1) | (go_at_call 30; refine (spec_l05Code.calls 20000 A0 c0 l0 A1 c1 y1 _ _ (Kd.C_below HC.out HB1.out) HK.out (Kd.R_reads' HO1.out).2.2 (Kd.R_reads' HO1.out).2.1 HBK.out).mono ?_; rintro e w2 ⟨rfl, hb2⟩; have HB2 := Aside0.mk (HB1.out.trans (hb2.mono HB1.out.size)); clear hb2) | (go_at_call 31; refine (spec_l01In.calls a3 1 1000000000000000000 _ _ HIN.out).mono ?_; rintro e w3 ⟨rfl, hd3⟩; have HB3 := Aside0.mk (HB2.out.trans (hd3.below.mono HB2.out.size)); clear hd3) | (go_at_call 38; refine (HX.out _ (Kd.C_below HC.out HB3.out)).mono ?_; rintro e w4 ⟨v, rfl, hRV, hb4⟩; have HB4 := Aside0.mk (HB3.out.trans (hb4.mono HB3.out.size)); obtain ⟨A2, c2, rfl, hl3, hC2⟩ := hRV; have HC2 := Aside0.mk hC2; clear hb4 hC2) | (at_builtin; refine wpList_rows (w0 := w) _ _ _ [] r1 A2 c2 rfl rfl rfl rfl (R_made w4 _ HB4.out.size) (Kd.C_alloc HC2.out _) (below_alloc HB4.out _) (by simp; omega) ?_; intro v3 w5 hR3 hb3 hg3; rw [List.nil_append] at hR3; have HR3 := Aside0.mk hR3; have HB5 := Aside0.mk hb3; clear hR3 hb3 hg3))
        go_ret2
        exact ⟨_, rfl, HR3.out, HB5.out⟩
      · rw [if_neg hn, if_neg (by decide)] at h
        have e1 : [] = r1 := congrArg Prod.fst h
        have e2 : (4 : Int) = r2 := congrArg Prod.snd h
        subst e1
        subst e2
        have hb : (decide (1 ≤ a3) && decide (a3 ≤ 1000000000000000000)) = false := by rw [Bool.and_eq_false_iff, decide_eq_false_iff_not, decide_eq_false_iff_not]; omega
        rw [hb] at HIN
        clear h hn hb hrt hokv hlr HRI
        go_enter Tryz.func14, Tryz.ntmps14
        go_wp2_with (first | ((with_reducible refine gate_dst (N := 30) rfl ?_); (try (refine gate_guard (by rfl) ?_; dsimp only)); refine Kd.R_lit Kd.string _ 9 ?hg (N := 30) ?hd (xs := ([a1, a2] : List ByteArray)) (inner := [.string a1, .string a2]) (ok := fun _ => True) (okp := fun _ => True) ?hr ?hp (fun _ hk => hk) trivial (Below.refl _ _) (Nat.le_refl _) (by simp) ?_; (case hd => rfl); (case hg => rfl); (case hr => first | (go_simp; done) | (go_simp; rfl)); (case hp => exact (Reps.one (show Kd.M Kd.string _ _ _ a1 [.string a1] from rfl) (Reps.one (show Kd.M Kd.string _ _ _ a2 [.string a2] from rfl) (Reps.none _ _)))); intro v1 w1 ho hb hg_ hnew_; clear hg_ hnew_; (first | rw [← Ny1.out] at ho | (simp only [Int.reduceToNat] at ho; rw [← Ny1.out] at ho)); have HO1 := Aside0.mk (Kd.R_lower ho (below_size (by repeat (first | (with_reducible first | exact HB.out | apply below_alloc | apply pw_below_drewN | apply below_drew1) | exact HB.out)))); have HB1 := Aside0.mk (below_step (by repeat (first | (with_reducible first | exact HB.out | apply below_alloc | apply pw_below_drewN | apply below_drew1) | exact HB.out)) hb); clear ho hb; obtain ⟨A1, c1, eo1⟩ := Kd.R_slice HO1.out; subst eo1) | (go_at_call 30; refine (spec_l05Code.calls 20000 A0 c0 l0 A1 c1 y1 _ _ (Kd.C_below HC.out HB1.out) HK.out (Kd.R_reads' HO1.out).2.2 (Kd.R_reads' HO1.out).2.1 HBK.out).mono ?_; rintro e w2 ⟨rfl, hb2⟩; have HB2 := Aside0.mk (HB1.out.trans (hb2.mono HB1.out.size)); clear hb2) | (go_at_call 31; refine (spec_l01In.calls a3 1 1000000000000000000 _ _ HIN.out).mono ?_; rintro e w3 ⟨rfl, hd3⟩; have HB3 := Aside0.mk (HB2.out.trans (hd3.below.mono HB2.out.size)); clear hd3))
        go_ret2
        exact ⟨_, rfl, R_made w3 _ HB3.out.size, below_alloc HB3.out _⟩
    · rw [if_neg hz, if_neg hz] at h
      have e1 : [] = r1 := congrArg Prod.fst h
      have e2 : c = r2 := congrArg Prod.snd h
      subst e1
      subst e2
      clear h HRI
      have hz1 : (c == 0) = false := by simpa using hz
      have hz2 : (c != 0) = true := by simpa using hz
      clear hz
      go_enter Tryz.func14, Tryz.ntmps14
      go_wp2_with (first | ((with_reducible refine gate_dst (N := 30) rfl ?_); (try (refine gate_guard (by rfl) ?_; dsimp only)); refine Kd.R_lit Kd.string _ 9 ?hg (N := 30) ?hd (xs := ([a1, a2] : List ByteArray)) (inner := [.string a1, .string a2]) (ok := fun _ => True) (okp := fun _ => True) ?hr ?hp (fun _ hk => hk) trivial (Below.refl _ _) (Nat.le_refl _) (by simp) ?_; (case hd => rfl); (case hg => rfl); (case hr => first | (go_simp; done) | (go_simp; rfl)); (case hp => exact (Reps.one (show Kd.M Kd.string _ _ _ a1 [.string a1] from rfl) (Reps.one (show Kd.M Kd.string _ _ _ a2 [.string a2] from rfl) (Reps.none _ _)))); intro v1 w1 ho hb hg_ hnew_; clear hg_ hnew_; (first | rw [← Ny1.out] at ho | (simp only [Int.reduceToNat] at ho; rw [← Ny1.out] at ho)); have HO1 := Aside0.mk (Kd.R_lower ho (below_size (by repeat (first | (with_reducible first | exact HB.out | apply below_alloc | apply pw_below_drewN | apply below_drew1) | exact HB.out)))); have HB1 := Aside0.mk (below_step (by repeat (first | (with_reducible first | exact HB.out | apply below_alloc | apply pw_below_drewN | apply below_drew1) | exact HB.out)) hb); clear ho hb; obtain ⟨A1, c1, eo1⟩ := Kd.R_slice HO1.out; subst eo1) | (go_at_call 30; refine (spec_l05Code.calls 20000 A0 c0 l0 A1 c1 y1 _ _ (Kd.C_below HC.out HB1.out) HK.out (Kd.R_reads' HO1.out).2.2 (Kd.R_reads' HO1.out).2.1 HBK.out).mono ?_; rintro e w2 ⟨rfl, hb2⟩; have HB2 := Aside0.mk (HB1.out.trans (hb2.mono HB1.out.size)); clear hb2))
      go_ret2
      exact ⟨_, rfl, R_made w2 _ HB2.out.size, below_alloc HB2.out _⟩
def spec_MoveCoins.f (l0 : List S56) (a1 a2 a3 : ByteArray) (a4 : Int) : Option (List S56 × Int) := some (bankN l0 [a1, a2, a3] a4 (bKey a1 a3) (-a4) (bKey a2 a3) a4)
set_option maxHeartbeats 8000000 in
set_option maxRecDepth 100000 in
theorem spec_MoveCoins.calls (A0 : Option Addr) (c0 : Nat) (l0 : List S56) (a1 a2 a3 : ByteArray) (a4 : Int) (r1 : List S56) (r2 : Int) (w : World) (hr0 : Kd.C k56 w A0 l0.length l0) (hc0 : l0.length ≤ c0) (h : spec_MoveCoins.f l0 a1 a2 a3 a4 = some (r1, r2)) :
    Calls Tryz.prog 16 #[.slice A0 l0.length c0, .string a1, .string a2, .string a3, .int .i64 a4] w fun e w' => ∃ v0_ : Value, e = .returned (.tuple #[v0_, .int .i64 r2]) ∧ Kd.R k56 56 w' w.heap.size (fun _ => True) v0_ r1 ∧ Below w.heap.size w w' := by
  unfold spec_MoveCoins.f at h
  injection h with h
  unfold bankN bcN at h
  by_cases hlong : l0.length > 4096 ∨ ([a1, a2, a3].any fun x => decide (65536 < (x.size : Int))) = true
  · rw [if_pos hlong, if_neg (by decide)] at h
    have e1 : [] = r1 := congrArg Prod.fst h
    have e2 : (2 : Int) = r2 := congrArg Prod.snd h
    subst e1
    subst e2
    clear h hr0 hc0
    simp only [List.any_cons, List.any_nil, Bool.or_false, Bool.or_eq_true, decide_eq_true_eq] at hlong
    generalize l0.length = len at *
    by_cases hl0 : (len : Int) > 4096
    · clear hlong
      go_enter Tryz.func16, Tryz.ntmps16
      go_wp2
      go_ret2
      exact ⟨_, rfl, R_made w _ (Nat.le_refl _), (Below.refl _ _).alloc (Nat.le_refl _) _⟩
    · have hm0 : ¬ (4096 < (len : Int)) := by omega
      by_cases hl1 : (a1.size : Int) > 65536
      · clear hlong
        go_enter Tryz.func16, Tryz.ntmps16
        go_wp2
        go_ret2
        exact ⟨_, rfl, R_made w _ (Nat.le_refl _), (Below.refl _ _).alloc (Nat.le_refl _) _⟩
      · have hm1 : ¬ (65536 < (a1.size : Int)) := by omega
        by_cases hl2 : (a2.size : Int) > 65536
        · clear hlong
          go_enter Tryz.func16, Tryz.ntmps16
          go_wp2
          go_ret2
          exact ⟨_, rfl, R_made w _ (Nat.le_refl _), (Below.refl _ _).alloc (Nat.le_refl _) _⟩
        · have hm2 : ¬ (65536 < (a2.size : Int)) := by omega
          have hl3 : (a3.size : Int) > 65536 := by omega
          clear hlong hl0 hl1 hl2
          go_enter Tryz.func16, Tryz.ntmps16
          go_wp2
          go_ret2
          exact ⟨_, rfl, R_made w _ (Nat.le_refl _), (Below.refl _ _).alloc (Nat.le_refl _) _⟩
  · rw [if_neg hlong] at h
    simp only [List.any_cons, List.any_nil, Bool.or_false, Bool.or_eq_true, decide_eq_true_eq] at hlong
    have hm0 : ¬ (4096 < (l0.length : Int)) := by omega
    have hm1 : ¬ (65536 < (a1.size : Int)) := by omega
    have hm2 : ¬ (65536 < (a2.size : Int)) := by omega
    have hm3 : ¬ (65536 < (a3.size : Int)) := by omega
    have hs : ∀ x ∈ [a1, a2, a3], x.size ≤ 65536 := by simp; omega
    have HBK := Aside0.mk (spec_bk l0 [a1, a2, a3] (by simp) hs 20000 (by omega))
    have HRI : bkCode l0 [a1, a2, a3] = 0 → rightB l0 = true := fun hz => (bk_zero hz).1
    clear hlong hs
    have HB := Aside0.mk (Below.refl w.heap.size w)
    have HC := Aside0.mk hr0
    have HK := Aside0.mk hc0
    clear hr0 hc0
    obtain ⟨y1, hy1⟩ : ∃ y_ : List ByteArray, y_ = [a1, a2, a3] := ⟨_, rfl⟩
    rw [← hy1] at HBK HRI h
    have Ny1 := Aside0.mk hy1
    clear hy1
    generalize bkCode l0 y1 = c at *
    by_cases hz : c = 0
    · subst hz
      have hrt := HRI rfl
      have hlr := right_len hrt
      have hokv := okV_right hrt
      have HIN := Aside0.mk (spec_in a4 1 1000000000000000000)
      rw [if_pos rfl] at h
      by_cases hn : 1 ≤ a4 ∧ a4 ≤ 1000000000000000000
      · rw [if_pos hn, if_pos rfl] at h
        rw [decide_eq_true hn.1, decide_eq_true hn.2, Bool.and_self] at HIN
        have e1 : (twoN l0 (bKey a1 a3) (-a4) (bKey a2 a3) a4).1 = r1 := congrArg Prod.fst h
        have e2 : (twoN l0 (bKey a1 a3) (-a4) (bKey a2 a3) a4).2 = r2 := congrArg Prod.snd h
        have HX := Aside0.mk (fun (W : World) (hr : Kd.C k56 W A0 l0.length l0) => l05Move_calls A0 c0 l0 a1 a2 a3 a4 W hr HK.out (by omega) hokv (by omega) (by omega) (by omega) hn.1 hn.2)
        have hlen := two_len l0 (bKey a1 a3) (-a4) (bKey a2 a3) a4
        rw [e1] at HX hlen
        rw [e2] at HX
        clear h e1 e2 hn hrt hokv HRI
        go_enter Tryz.func16, Tryz.ntmps16
        go_wp2_with (first | ((with_reducible refine gate_dst (N := 38) rfl ?_); (try (refine gate_guard (by rfl) ?_; dsimp only)); refine Kd.R_lit Kd.string _ 9 ?hg (N := 38) ?hd (xs := ([a1, a2, a3] : List ByteArray)) (inner := [.string a1, .string a2, .string a3]) (ok := fun _ => True) (okp := fun _ => True) ?hr ?hp (fun _ hk => hk) trivial (Below.refl _ _) (Nat.le_refl _) (by simp) ?_; (case hd => rfl); (case hg => rfl); (case hr => first | (go_simp; done) | (go_simp; rfl)); (case hp => exact (Reps.one (show Kd.M Kd.string _ _ _ a1 [.string a1] from rfl) (Reps.one (show Kd.M Kd.string _ _ _ a2 [.string a2] from rfl) (Reps.one (show Kd.M Kd.string _ _ _ a3 [.string a3] from rfl) (Reps.none _ _))))); intro v1 w1 ho hb hg_ hnew_; clear hg_ hnew_; (first | rw [← Ny1.out] at ho | (simp only [Int.reduceToNat] at ho; rw [← Ny1.out] at ho)); have HO1 := Aside0.mk (Kd.R_lower ho (below_size (by repeat (first | (with_reducible first | exact HB.out | apply below_alloc | apply pw_below_drewN | apply below_drew1) | exact HB.out)))); have HB1 := Aside0.mk (below_step (by repeat (first | (with_reducible first | exact HB.out | apply below_alloc | apply pw_below_drewN | apply below_drew1) | exact HB.out)) hb); clear ho hb; obtain ⟨A1, c1, eo1⟩ := Kd.R_slice HO1.out; subst eo1) | (go_at_call 30; refine (spec_l05Code.calls 20000 A0 c0 l0 A1 c1 y1 _ _ (Kd.C_below HC.out HB1.out) HK.out (Kd.R_reads' HO1.out).2.2 (Kd.R_reads' HO1.out).2.1 HBK.out).mono ?_; rintro e w2 ⟨rfl, hb2⟩; have HB2 := Aside0.mk (HB1.out.trans (hb2.mono HB1.out.size)); clear hb2) | (go_at_call 31; refine (spec_l01In.calls a4 1 1000000000000000000 _ _ HIN.out).mono ?_; rintro e w3 ⟨rfl, hd3⟩; have HB3 := Aside0.mk (HB2.out.trans (hd3.below.mono HB2.out.size)); clear hd3) | (go_at_call 40; refine (HX.out _ (Kd.C_below HC.out HB3.out)).mono ?_; rintro e w4 ⟨v, rfl, hRV, hb4⟩; have HB4 := Aside0.mk (HB3.out.trans (hb4.mono HB3.out.size)); obtain ⟨A2, c2, rfl, hl3, hC2⟩ := hRV; have HC2 := Aside0.mk hC2; clear hb4 hC2) | (at_builtin; refine wpList_rows (w0 := w) _ _ _ [] r1 A2 c2 rfl rfl rfl rfl (R_made w4 _ HB4.out.size) (Kd.C_alloc HC2.out _) (below_alloc HB4.out _) (by simp; omega) ?_; intro v3 w5 hR3 hb3 hg3; rw [List.nil_append] at hR3; have HR3 := Aside0.mk hR3; have HB5 := Aside0.mk hb3; clear hR3 hb3 hg3))
        go_ret2
        exact ⟨_, rfl, HR3.out, HB5.out⟩
      · rw [if_neg hn, if_neg (by decide)] at h
        have e1 : [] = r1 := congrArg Prod.fst h
        have e2 : (4 : Int) = r2 := congrArg Prod.snd h
        subst e1
        subst e2
        have hb : (decide (1 ≤ a4) && decide (a4 ≤ 1000000000000000000)) = false := by rw [Bool.and_eq_false_iff, decide_eq_false_iff_not, decide_eq_false_iff_not]; omega
        rw [hb] at HIN
        clear h hn hb hrt hokv hlr HRI
        go_enter Tryz.func16, Tryz.ntmps16
        go_wp2_with (first | ((with_reducible refine gate_dst (N := 38) rfl ?_); (try (refine gate_guard (by rfl) ?_; dsimp only)); refine Kd.R_lit Kd.string _ 9 ?hg (N := 38) ?hd (xs := ([a1, a2, a3] : List ByteArray)) (inner := [.string a1, .string a2, .string a3]) (ok := fun _ => True) (okp := fun _ => True) ?hr ?hp (fun _ hk => hk) trivial (Below.refl _ _) (Nat.le_refl _) (by simp) ?_; (case hd => rfl); (case hg => rfl); (case hr => first | (go_simp; done) | (go_simp; rfl)); (case hp => exact (Reps.one (show Kd.M Kd.string _ _ _ a1 [.string a1] from rfl) (Reps.one (show Kd.M Kd.string _ _ _ a2 [.string a2] from rfl) (Reps.one (show Kd.M Kd.string _ _ _ a3 [.string a3] from rfl) (Reps.none _ _))))); intro v1 w1 ho hb hg_ hnew_; clear hg_ hnew_; (first | rw [← Ny1.out] at ho | (simp only [Int.reduceToNat] at ho; rw [← Ny1.out] at ho)); have HO1 := Aside0.mk (Kd.R_lower ho (below_size (by repeat (first | (with_reducible first | exact HB.out | apply below_alloc | apply pw_below_drewN | apply below_drew1) | exact HB.out)))); have HB1 := Aside0.mk (below_step (by repeat (first | (with_reducible first | exact HB.out | apply below_alloc | apply pw_below_drewN | apply below_drew1) | exact HB.out)) hb); clear ho hb; obtain ⟨A1, c1, eo1⟩ := Kd.R_slice HO1.out; subst eo1) | (go_at_call 30; refine (spec_l05Code.calls 20000 A0 c0 l0 A1 c1 y1 _ _ (Kd.C_below HC.out HB1.out) HK.out (Kd.R_reads' HO1.out).2.2 (Kd.R_reads' HO1.out).2.1 HBK.out).mono ?_; rintro e w2 ⟨rfl, hb2⟩; have HB2 := Aside0.mk (HB1.out.trans (hb2.mono HB1.out.size)); clear hb2) | (go_at_call 31; refine (spec_l01In.calls a4 1 1000000000000000000 _ _ HIN.out).mono ?_; rintro e w3 ⟨rfl, hd3⟩; have HB3 := Aside0.mk (HB2.out.trans (hd3.below.mono HB2.out.size)); clear hd3))
        go_ret2
        exact ⟨_, rfl, R_made w3 _ HB3.out.size, below_alloc HB3.out _⟩
    · rw [if_neg hz, if_neg hz] at h
      have e1 : [] = r1 := congrArg Prod.fst h
      have e2 : c = r2 := congrArg Prod.snd h
      subst e1
      subst e2
      clear h HRI
      have hz1 : (c == 0) = false := by simpa using hz
      have hz2 : (c != 0) = true := by simpa using hz
      clear hz
      go_enter Tryz.func16, Tryz.ntmps16
      go_wp2_with (first | ((with_reducible refine gate_dst (N := 38) rfl ?_); (try (refine gate_guard (by rfl) ?_; dsimp only)); refine Kd.R_lit Kd.string _ 9 ?hg (N := 38) ?hd (xs := ([a1, a2, a3] : List ByteArray)) (inner := [.string a1, .string a2, .string a3]) (ok := fun _ => True) (okp := fun _ => True) ?hr ?hp (fun _ hk => hk) trivial (Below.refl _ _) (Nat.le_refl _) (by simp) ?_; (case hd => rfl); (case hg => rfl); (case hr => first | (go_simp; done) | (go_simp; rfl)); (case hp => exact (Reps.one (show Kd.M Kd.string _ _ _ a1 [.string a1] from rfl) (Reps.one (show Kd.M Kd.string _ _ _ a2 [.string a2] from rfl) (Reps.one (show Kd.M Kd.string _ _ _ a3 [.string a3] from rfl) (Reps.none _ _))))); intro v1 w1 ho hb hg_ hnew_; clear hg_ hnew_; (first | rw [← Ny1.out] at ho | (simp only [Int.reduceToNat] at ho; rw [← Ny1.out] at ho)); have HO1 := Aside0.mk (Kd.R_lower ho (below_size (by repeat (first | (with_reducible first | exact HB.out | apply below_alloc | apply pw_below_drewN | apply below_drew1) | exact HB.out)))); have HB1 := Aside0.mk (below_step (by repeat (first | (with_reducible first | exact HB.out | apply below_alloc | apply pw_below_drewN | apply below_drew1) | exact HB.out)) hb); clear ho hb; obtain ⟨A1, c1, eo1⟩ := Kd.R_slice HO1.out; subst eo1) | (go_at_call 30; refine (spec_l05Code.calls 20000 A0 c0 l0 A1 c1 y1 _ _ (Kd.C_below HC.out HB1.out) HK.out (Kd.R_reads' HO1.out).2.2 (Kd.R_reads' HO1.out).2.1 HBK.out).mono ?_; rintro e w2 ⟨rfl, hb2⟩; have HB2 := Aside0.mk (HB1.out.trans (hb2.mono HB1.out.size)); clear hb2))
      go_ret2
      exact ⟨_, rfl, R_made w2 _ HB2.out.size, below_alloc HB2.out _⟩
end Go.Proofs.YtpkfdjlmflmilaaGreatDoor.Q
end
section
namespace Go.Proofs.YtpkfdjlmflmilaaGreatDoor.Q
open Go.RowKit Go.Proofs.YtpkfdjlmflmilaaGreatDoorW.PrintWords Go.Proofs.YtpkfdjlmflmilaaGreatDoorW.PrintLast Go.Proofs.YtpkfdjlmflmilaaGreatDoorW.PrintMore Go.Proofs.YtpkfdjlmflmilaaGreatDoor.Pure
set_option linter.unusedVariables false
set_option linter.unusedSimpArgs false
theorem is_am (x : Int) (h0 : 0 ≤ x) (h1 : x ≤ 1000000000000000000) : impl_isAmount.f x = some true := by
  unfold impl_isAmount.f impl_within.f
  rw [if_pos h0, decide_eq_true h1]
  rfl
theorem sub_eq (x n : Int) (h0 : 0 ≤ x) (h1 : x ≤ 1000000000000000000) (g0 : 1 ≤ n) (g1 : n ≤ 1000000000000000000) : impl_SubAmount.f 2 x n = some (if x + -n < 0 then (0, 12) else (x + -n, 0)) := by
  unfold impl_SubAmount.f
  rw [is_am x h0 h1, is_am n (by omega) g1, Option.bind_some, Option.bind_some, if_pos rfl]
  simp only [impl_SubAmount.j0]
  rw [if_neg (by decide)]
  by_cases h : x < n
  · rw [if_pos h, if_pos (by omega)]
  · rw [if_neg h, if_neg (by omega), show wrap64 (x - n) = x + -n by unfold wrap64; omega]
theorem sum_eq (x n : Int) (h0 : 0 ≤ x) (h1 : x ≤ 1000000000000000000) (g0 : 1 ≤ n) (g1 : n ≤ 1000000000000000000) : impl_AddAmount.f 2 x n = some (if x + n > 1000000000000000000 then (0, 13) else (x + n, 0)) := by
  unfold impl_AddAmount.f
  rw [is_am x h0 h1, is_am n (by omega) g1, Option.bind_some, Option.bind_some, if_pos rfl]
  simp only [impl_AddAmount.j0]
  rw [if_neg (by decide), show wrap64 (x + n) = x + n by unfold wrap64; omega]
  by_cases h : x + n > 1000000000000000000
  · rw [if_pos h, if_pos h]
  · rw [if_neg h, if_neg h]
theorem put_eq (l : List S56) (a : ByteArray) (y : Int) (hl : l.length ≤ 5000) (h0 : 0 ≤ y) (h1 : y ≤ 1000000000000000000) : impl_putAmount.f l a y = some (wrN l a y) := by
  unfold impl_putAmount.f wrN impl_put.f impl_drop.f
  by_cases h : y = 0
  · subst h
    rw [if_neg (by decide), if_pos (by omega), if_pos rfl, Option.bind_some]
  · have ht : impl_amountText.f y = some (itoaT y) := by
      unfold impl_amountText.f strconv_Itoa.f
      rw [if_pos (by omega)]
      rfl
    rw [if_pos (show y > 0 by omega), if_neg h, ht, Option.bind_some, if_pos (by omega)]
    rfl

set_option maxHeartbeats 8000000 in
set_option maxRecDepth 100000 in
theorem impl_fewer_calls (A0 : Option Addr) (c0 : Nat) (l0 : List S56) (a1 : ByteArray) (n : Int) (w : World) (hr0 : Kd.C k56 w A0 l0.length l0) (hc0 : l0.length ≤ c0) (htab : Tb.TB w) (hl : l0.length ≤ 5000) (hv : okV l0) (g0 : 1 ≤ n) (g1 : n ≤ 1000000000000000000) :
    Calls Tryz.prog 64 #[.slice A0 l0.length c0, .string a1, .int .i64 n] w fun e w' => ∃ v, e = .returned (.tuple #[v, .int .i64 (addN l0 a1 (-n)).2]) ∧ ((addN l0 a1 (-n)).2 = 0 → Kd.R k56 56 w' w.heap.size (fun _ => True) v (addN l0 a1 (-n)).1) ∧ Below w.heap.size w w' := by
  have HAM := Aside0.mk (impl_amountAt.calls A0 c0 l0 a1 _ w hr0 hc0 htab (impl_am hv a1))
  have hrg := amN_range l0 a1
  have HC := Aside0.mk hr0
  have HK := Aside0.mk hc0
  have HT := Aside0.mk htab
  unfold addN
  generalize amN l0 a1 = x at *
  have hs := sub_eq x n hrg.1 hrg.2 g0 g1
  by_cases c1 : x + -n < 0
  · rw [if_pos c1] at hs
    have HSU := Aside0.mk (fun W => impl_SubAmount.calls 2 x n _ _ W hs)
    have e1 : (if x + -n < 0 then (l0, (12 : Int)) else if x + -n > 1000000000000000000 then (l0, 13) else wrN l0 a1 (x + -n)) = (l0, 12) := by rw [if_pos c1]
    rw [e1]
    clear e1 hs c1 hrg hr0 hc0 htab hl hv g0 g1
    go_enter Tryz.func64, Tryz.ntmps64
    go_wp2_with (first | (go_at_call 49; refine HAM.out.mono ?_; rintro e w1 ⟨rfl, hb1⟩; have HB1 := Aside0.mk hb1; clear hb1) | (go_at_call 89; refine (HSU.out _).mono ?_; rintro e w2 ⟨rfl, hd2⟩; have HB2 := Aside0.mk (HB1.out.trans (hd2.below.mono HB1.out.size)); clear hd2))
    go_ret2
    exact ⟨_, rfl, fun h => absurd h (by decide), HB2.out⟩
  · rw [if_neg c1] at hs
    have HSU := Aside0.mk (fun W => impl_SubAmount.calls 2 x n _ _ W hs)
    have e1 : (if x + -n < 0 then (l0, (12 : Int)) else if x + -n > 1000000000000000000 then (l0, 13) else wrN l0 a1 (x + -n)) = wrN l0 a1 (x + -n) := by rw [if_neg (by omega), if_neg (by omega)]
    rw [e1]
    have HPE := Aside0.mk (put_eq l0 a1 (x + -n) hl (by omega) (by omega))
    generalize x + -n = y at *
    clear e1 hs c1 hrg hr0 hc0 htab hl hv g0 g1
    go_enter Tryz.func64, Tryz.ntmps64
    go_wp2_with (first | (go_at_call 49; refine HAM.out.mono ?_; rintro e w1 ⟨rfl, hb1⟩; have HB1 := Aside0.mk hb1; clear hb1) | (go_at_call 89; refine (HSU.out _).mono ?_; rintro e w2 ⟨rfl, hd2⟩; have HB2 := Aside0.mk (HB1.out.trans (hd2.below.mono HB1.out.size)); clear hd2) | (go_at_call 90; refine (impl_putAmount.calls A0 c0 l0 a1 y _ _ _ (Kd.C_below HC.out HB2.out) HK.out (Tb.TB.below HT.out HB2.out (Nat.le_refl _)) HPE.out).mono ?_; rintro e w3 ⟨v3, rfl, hR3, hb3⟩; have HR3 := Aside0.mk (Kd.R_lower hR3 HB2.out.size); have HB3 := Aside0.mk (HB2.out.trans (hb3.mono HB2.out.size)); clear hR3 hb3))
    go_ret2
    exact ⟨_, rfl, fun _ => HR3.out, HB3.out⟩
set_option maxHeartbeats 8000000 in
set_option maxRecDepth 100000 in
theorem impl_more_calls (A0 : Option Addr) (c0 : Nat) (l0 : List S56) (a1 : ByteArray) (n : Int) (w : World) (hr0 : Kd.C k56 w A0 l0.length l0) (hc0 : l0.length ≤ c0) (htab : Tb.TB w) (hl : l0.length ≤ 5000) (hv : okV l0) (g0 : 1 ≤ n) (g1 : n ≤ 1000000000000000000) :
    Calls Tryz.prog 68 #[.slice A0 l0.length c0, .string a1, .int .i64 n] w fun e w' => ∃ v, e = .returned (.tuple #[v, .int .i64 (addN l0 a1 n).2]) ∧ ((addN l0 a1 n).2 = 0 → Kd.R k56 56 w' w.heap.size (fun _ => True) v (addN l0 a1 n).1) ∧ Below w.heap.size w w' := by
  have HAM := Aside0.mk (impl_amountAt.calls A0 c0 l0 a1 _ w hr0 hc0 htab (impl_am hv a1))
  have hrg := amN_range l0 a1
  have HC := Aside0.mk hr0
  have HK := Aside0.mk hc0
  have HT := Aside0.mk htab
  unfold addN
  generalize amN l0 a1 = x at *
  have hs := sum_eq x n hrg.1 hrg.2 g0 g1
  by_cases c1 : x + n > 1000000000000000000
  · rw [if_pos c1] at hs
    have HSU := Aside0.mk (fun W => impl_AddAmount.calls 2 x n _ _ W hs)
    have e1 : (if x + n < 0 then (l0, (12 : Int)) else if x + n > 1000000000000000000 then (l0, 13) else wrN l0 a1 (x + n)) = (l0, 13) := by rw [if_neg (by omega), if_pos c1]
    rw [e1]
    clear e1 hs c1 hrg hr0 hc0 htab hl hv g0 g1
    go_enter Tryz.func68, Tryz.ntmps68
    go_wp2_with (first | (go_at_call 49; refine HAM.out.mono ?_; rintro e w1 ⟨rfl, hb1⟩; have HB1 := Aside0.mk hb1; clear hb1) | (go_at_call 91; refine (HSU.out _).mono ?_; rintro e w2 ⟨rfl, hd2⟩; have HB2 := Aside0.mk (HB1.out.trans (hd2.below.mono HB1.out.size)); clear hd2))
    go_ret2
    exact ⟨_, rfl, fun h => absurd h (by decide), HB2.out⟩
  · rw [if_neg c1] at hs
    have HSU := Aside0.mk (fun W => impl_AddAmount.calls 2 x n _ _ W hs)
    have e1 : (if x + n < 0 then (l0, (12 : Int)) else if x + n > 1000000000000000000 then (l0, 13) else wrN l0 a1 (x + n)) = wrN l0 a1 (x + n) := by rw [if_neg (by omega), if_neg (by omega)]
    rw [e1]
    have HPE := Aside0.mk (put_eq l0 a1 (x + n) hl (by omega) (by omega))
    generalize x + n = y at *
    clear e1 hs c1 hrg hr0 hc0 htab hl hv g0 g1
    go_enter Tryz.func68, Tryz.ntmps68
    go_wp2_with (first | (go_at_call 49; refine HAM.out.mono ?_; rintro e w1 ⟨rfl, hb1⟩; have HB1 := Aside0.mk hb1; clear hb1) | (go_at_call 91; refine (HSU.out _).mono ?_; rintro e w2 ⟨rfl, hd2⟩; have HB2 := Aside0.mk (HB1.out.trans (hd2.below.mono HB1.out.size)); clear hd2) | (go_at_call 90; refine (impl_putAmount.calls A0 c0 l0 a1 y _ _ _ (Kd.C_below HC.out HB2.out) HK.out (Tb.TB.below HT.out HB2.out (Nat.le_refl _)) HPE.out).mono ?_; rintro e w3 ⟨v3, rfl, hR3, hb3⟩; have HR3 := Aside0.mk (Kd.R_lower hR3 HB2.out.size); have HB3 := Aside0.mk (HB2.out.trans (hb3.mono HB2.out.size)); clear hR3 hb3))
    go_ret2
    exact ⟨_, rfl, fun _ => HR3.out, HB3.out⟩
end Go.Proofs.YtpkfdjlmflmilaaGreatDoor.Q
end
section
namespace Go.Proofs.YtpkfdjlmflmilaaGreatDoor.Q
open Go.RowKit Go.Proofs.YtpkfdjlmflmilaaGreatDoorW.PrintWords Go.Proofs.YtpkfdjlmflmilaaGreatDoorW.PrintLast Go.Proofs.YtpkfdjlmflmilaaGreatDoorW.PrintMore Go.Proofs.YtpkfdjlmflmilaaGreatDoor.Pure
set_option linter.unusedVariables false
set_option linter.unusedSimpArgs false
def zburn_1_1.T1 : Bool × List (List Nat × List Nat) := (true, [([], []), ([], []), ([], []), ([1, 2], [1, 2]), ([], []), ([0, 3, 4, 3], [0, 3, 4]), ([5], [5]), ([5], [5]), ([6, 5, 0, 1, 2, 3, 4, 5, 6, 7], [6]), ([7, 8, 0, 1, 2, 3, 4, 5, 6, 7, 8], [7])])
def zburn_1_1.B1 : List Nat := [0, 0, 0, 6, 0, 31, 63, 63, 255, 511]
theorem zburn_1_1.tab1 : rtab .any (opsOf Tryz.f63 1) = zburn_1_1.T1 := by kernel_rfl
theorem zburn_1_1.bits1 : waitsOk zburn_1_1.T1.2 zburn_1_1.B1 = true := by kernel_rfl
set_option maxHeartbeats 16000000 in
set_option maxRecDepth 100000 in
theorem zburn_1_1_r1 {Q : Exit → Act → World → Prop} (u0 u4 u5 u6 u7 u8 u9 u10 u11 u12 u13 u14 : Value) (g1 g2 g3 : Nat) (d a key : ByteArray) (n c : Int) (G : Value → World → Prop) (wr : World) (c0 : wr.cell? ⟨g1, 0, none⟩ = some (.string d)) (c1 : wr.cell? ⟨g2, 0, none⟩ = some (.string a)) (c2 : wr.cell? ⟨g3, 0, none⟩ = some (.int .i64 n)) (HKY : Aside0 (∀ W, Calls Tryz.prog 53 #[.string d, .string a] W fun e w' => e = .returned (.string key) ∧ Drawn0 W w')) (HFW : Aside0 (∀ W, Below wr.heap.size wr W → Calls Tryz.prog 64 #[u0, .string key, .int .i64 n] W fun e w' => ∃ v, e = .returned (.tuple #[v, .int .i64 c]) ∧ G v w' ∧ Below W.heap.size W w'))
    (hpan : ∀ c a t v w, Q (.panic c) (Act.put a (some t) v) w → Q (.panic c) a w) (hQ : Aside0 (∀ (v7 v8 v9 v10 v11 v12 v13 v14 v5 : Value) (w' : World), (G v5 w' ∧ Below wr.heap.size wr w') → Q .normal ⟨List.toArray (u0 :: .pointer (some ⟨g1, 0, none⟩) :: .pointer (some ⟨g2, 0, none⟩) :: .pointer (some ⟨g3, 0, none⟩) :: u4 :: v5 :: .int .i64 c :: v7 :: v8 :: v9 :: v10 :: v11 :: v12 :: v13 :: v14 :: []), []⟩ w')) :
    Code.wp Tryz.prog (Code.region 1 (opsOf Tryz.f63 1) true) Q ⟨List.toArray (u0 :: .pointer (some ⟨g1, 0, none⟩) :: .pointer (some ⟨g2, 0, none⟩) :: .pointer (some ⟨g3, 0, none⟩) :: u4 :: u5 :: u6 :: u7 :: u8 :: u9 :: u10 :: u11 :: u12 :: u13 :: u14 :: []), []⟩ wr := by
  conv => arg 2; arg 2; whnf
  refine start_ (n := 10) (S := fun w' => w'.cell? ⟨g1, 0, none⟩ = some (.string d) ∧ w'.cell? ⟨g2, 0, none⟩ = some (.string a) ∧ w'.cell? ⟨g3, 0, none⟩ = some (.int .i64 n)) (ds := []) #[false, false, false, false, false, false, false, false, false, false] (by kernel_rfl) rfl rfl ⟨c0, c1, c2⟩ (fun hHeld => ?_)
  refine with_tabW zburn_1_1.tab1 zburn_1_1.bits1 (fun HT_ HW_ => ?_)
  refine pure_ (i := 0) (N := some 7) (v := ?_) (a' := ?_) #[true, false, false, false, false, false, false, false, false, false] rfl rfl (any_of HT_.out (by kernel_rfl)) (fun _ _ _ h => hpan _ _ _ _ _ h) (Or.inl ⟨by rfl, ?_⟩) ?_ ?_
  rotate_left
  · intro w'
    go_simp
    with_reducible rfl
  rotate_left
  · simp only [Act.put, List.setIfInBounds_toArray, List.set_cons_zero, List.set_cons_succ, i64_w, i32_w]
    rfl
  refine take_ (i := 1) (N := some 8) (v := ?_) (a' := ?_) #[true, true, false, false, false, false, false, false, false, false] rfl rfl (take_ofW HT_.out HW_.out (by kernel_rfl)) (fun _ _ _ h => hpan _ _ _ _ _ h) (Or.inl ⟨by rfl, ?_⟩) hHeld ?_ ?_
  rotate_left
  · rintro w' ⟨s0, s1, s2⟩
    go_simp
    with_reducible rfl
  rotate_left
  · simp only [Act.put, List.setIfInBounds_toArray, List.set_cons_zero, List.set_cons_succ, i64_w, i32_w]
    rfl
  refine take_ (i := 2) (N := some 9) (v := ?_) (a' := ?_) #[true, true, true, false, false, false, false, false, false, false] rfl rfl (take_ofW HT_.out HW_.out (by kernel_rfl)) (fun _ _ _ h => hpan _ _ _ _ _ h) (Or.inl ⟨by rfl, ?_⟩) hHeld ?_ ?_
  rotate_left
  · rintro w' ⟨s0, s1, s2⟩
    go_simp
    with_reducible rfl
  rotate_left
  · simp only [Act.put, List.setIfInBounds_toArray, List.set_cons_zero, List.set_cons_succ, i64_w, i32_w]
    rfl
  refine take_ (i := 4) (N := some 11) (v := ?_) (a' := ?_) #[true, true, true, false, true, false, false, false, false, false] rfl rfl (take_ofW HT_.out HW_.out (by kernel_rfl)) (fun _ _ _ h => hpan _ _ _ _ _ h) (Or.inl ⟨by rfl, ?_⟩) hHeld ?_ ?_
  rotate_left
  · rintro w' ⟨s0, s1, s2⟩
    go_simp
    with_reducible rfl
  rotate_left
  · simp only [Act.put, List.setIfInBounds_toArray, List.set_cons_zero, List.set_cons_succ, i64_w, i32_w]
    rfl
  refine one_ (i := 3) (N := some 10) #[true, true, true, true, true, false, false, false, false, false] rfl rfl (one_of HT_.out (by kernel_rfl)) (by decide) (fun K hK => ?_)
  refine goes_ Tryz.func53 (by kernel_rfl) rfl #[.string d, .string a] (by rfl) rfl rfl (by simp only [List.map_toArray, List.map_cons, List.map_nil]; rfl) ?_
  refine (HKY.out _).mono ?_
  rintro e_ w3 ⟨rfl, d3⟩
  have b3 := d3.below
  refine ⟨_, rfl, ?_⟩
  refine hK.out _ _ ⟨(b3.cell (World.block_lt_of_cell? _ _ hHeld.1)).trans hHeld.1, (b3.cell (World.block_lt_of_cell? _ _ hHeld.2.1)).trans hHeld.2.1, (b3.cell (World.block_lt_of_cell? _ _ hHeld.2.2)).trans hHeld.2.2⟩ (fun hHeld => ?_)
  clear hK K
  refine norm_ (a' := ?_) ?_ ?_
  rotate_left
  · show Act.put _ (some 10) _ = _
    simp only [Act.put, List.setIfInBounds_toArray, List.set_cons_zero, List.set_cons_succ, i64_w, i32_w]
    rfl
  refine one_ (i := 5) (N := some 12) #[true, true, true, true, true, true, false, false, false, false] rfl rfl (one_of HT_.out (by kernel_rfl)) (by decide) (fun K hK => ?_)
  refine goes_ Tryz.func64 (by kernel_rfl) rfl #[u0, .string key, .int .i64 n] (by rfl) rfl rfl (by simp only [List.map_toArray, List.map_cons, List.map_nil]; rfl) ?_
  refine (HFW.out _ (below_step (below_drew1 (Below.refl wr.heap.size wr)) b3)).mono ?_
  rintro e_ w6 ⟨v6, rfl, g6, b6⟩
  refine ⟨_, rfl, ?_⟩
  refine hK.out _ _ ⟨(b6.cell (World.block_lt_of_cell? _ _ hHeld.1)).trans hHeld.1, (b6.cell (World.block_lt_of_cell? _ _ hHeld.2.1)).trans hHeld.2.1, (b6.cell (World.block_lt_of_cell? _ _ hHeld.2.2)).trans hHeld.2.2⟩ (fun hHeld => ?_)
  clear hK K
  refine norm_ (a' := ?_) ?_ ?_
  rotate_left
  · show Act.put _ (some 12) _ = _
    simp only [Act.put, List.setIfInBounds_toArray, List.set_cons_zero, List.set_cons_succ, i64_w, i32_w]
    rfl
  refine pure_ (i := 6) (N := some 13) (v := ?_) (a' := ?_) #[true, true, true, true, true, true, true, false, false, false] rfl rfl (any_of HT_.out (by kernel_rfl)) (fun _ _ _ h => hpan _ _ _ _ _ h) (Or.inl ⟨by rfl, ?_⟩) ?_ ?_
  rotate_left
  · intro w'
    go_simp
    with_reducible rfl
  rotate_left
  · simp only [Act.put, List.setIfInBounds_toArray, List.set_cons_zero, List.set_cons_succ, i64_w, i32_w]
    rfl
  refine pure_ (i := 7) (N := some 14) (v := ?_) (a' := ?_) #[true, true, true, true, true, true, true, true, false, false] rfl rfl (any_of HT_.out (by kernel_rfl)) (fun _ _ _ h => hpan _ _ _ _ _ h) (Or.inl ⟨by rfl, ?_⟩) ?_ ?_
  rotate_left
  · intro w'
    go_simp
    with_reducible rfl
  rotate_left
  · simp only [Act.put, List.setIfInBounds_toArray, List.set_cons_zero, List.set_cons_succ, i64_w, i32_w]
    rfl
  refine pure_ (i := 8) (N := some 5) (v := ?_) (a' := ?_) #[true, true, true, true, true, true, true, true, true, false] rfl rfl (any_of HT_.out (by kernel_rfl)) (fun _ _ _ h => hpan _ _ _ _ _ h) (Or.inl ⟨by rfl, ?_⟩) ?_ ?_
  rotate_left
  · intro w'
    go_simp
    with_reducible rfl
  rotate_left
  · simp only [Act.put, List.setIfInBounds_toArray, List.set_cons_zero, List.set_cons_succ, i64_w, i32_w]
    rfl
  refine pure_ (i := 9) (N := some 6) (v := ?_) (a' := ?_) #[true, true, true, true, true, true, true, true, true, true] rfl rfl (any_of HT_.out (by kernel_rfl)) (fun _ _ _ h => hpan _ _ _ _ _ h) (Or.inl ⟨by rfl, ?_⟩) ?_ ?_
  rotate_left
  · intro w'
    go_simp
    with_reducible rfl
  rotate_left
  · simp only [Act.put, List.setIfInBounds_toArray, List.set_cons_zero, List.set_cons_succ, i64_w, i32_w]
    rfl
  refine done_ (done_of HT_.out (by kernel_rfl)) ?_

  refine hQ.out _ _ _ _ _ _ _ _ _ _ ?_
  exact ⟨g6, below_step (below_step (below_drew1 (Below.refl wr.heap.size wr)) b3) b6⟩

set_option maxHeartbeats 8000000 in
set_option maxRecDepth 100000 in
theorem zburn_1_1_calls (u0 : Value) (g1 g2 g3 : Nat) (d a key : ByteArray) (n c : Int) (G : Value → World → Prop) (wr : World) (c0 : wr.cell? ⟨g1, 0, none⟩ = some (.string d)) (c1 : wr.cell? ⟨g2, 0, none⟩ = some (.string a)) (c2 : wr.cell? ⟨g3, 0, none⟩ = some (.int .i64 n)) (HKY : Aside0 (∀ W, Calls Tryz.prog 53 #[.string d, .string a] W fun e w' => e = .returned (.string key) ∧ Drawn0 W w')) (HFW : Aside0 (∀ W, Below wr.heap.size wr W → Calls Tryz.prog 64 #[u0, .string key, .int .i64 n] W fun e w' => ∃ v, e = .returned (.tuple #[v, .int .i64 c]) ∧ G v w' ∧ Below W.heap.size W w')) :
    Calls Tryz.prog 63 #[u0, .pointer (some ⟨g1, 0, none⟩), .pointer (some ⟨g2, 0, none⟩), .pointer (some ⟨g3, 0, none⟩)] wr fun e w' => ∃ v, e = .returned (.tuple #[v, .int .i64 c]) ∧ G v w' ∧ Below wr.heap.size wr w' := by
  go_enter Tryz.func63, Tryz.ntmps63
  go_upto_region 1 with (fail)
  refine zburn_1_1_r1 _ _ _ _ _ _ _ _ _ _ _ _ g1 g2 g3 d a key n c G _ c0 c1 c2 HKY HFW (fun _ _ _ _ _ h => h) ⟨?_⟩
  intro v7 v8 v9 v10 v11 v12 v13 v14 v5
  rintro w' ⟨hG, hB⟩
  go_wp2
  go_ret2
  exact ⟨_, rfl, hG, hB⟩
def zburn_1_2.T1 : Bool × List (List Nat × List Nat) := (true, [([], []), ([], []), ([1], [1]), ([], []), ([0, 2, 3, 2], [0, 2, 3]), ([4], [4]), ([4], [4]), ([5, 4, 0, 1, 2, 3, 4, 5, 6], [5]), ([6, 7, 0, 1, 2, 3, 4, 5, 6, 7], [6])])
def zburn_1_2.B1 : List Nat := [0, 0, 2, 0, 15, 31, 31, 127, 255]
theorem zburn_1_2.tab1 : rtab .any (opsOf Tryz.f65 1) = zburn_1_2.T1 := by kernel_rfl
theorem zburn_1_2.bits1 : waitsOk zburn_1_2.T1.2 zburn_1_2.B1 = true := by kernel_rfl
set_option maxHeartbeats 16000000 in
set_option maxRecDepth 100000 in
theorem zburn_1_2_r1 {Q : Exit → Act → World → Prop} (u0 u3 u4 u5 u6 u7 u8 u9 u10 u11 u12 : Value) (g1 g3 : Nat) (d key : ByteArray) (n c : Int) (G : Value → World → Prop) (wr : World) (c0 : wr.cell? ⟨g1, 0, none⟩ = some (.string d)) (c1 : wr.cell? ⟨g3, 0, none⟩ = some (.int .i64 n)) (HKY : Aside0 (∀ W, Calls Tryz.prog 50 #[.string d] W fun e w' => e = .returned (.string key) ∧ Drawn0 W w')) (HFW : Aside0 (∀ W, Below wr.heap.size wr W → Calls Tryz.prog 64 #[u0, .string key, .int .i64 n] W fun e w' => ∃ v, e = .returned (.tuple #[v, .int .i64 c]) ∧ G v w' ∧ Below W.heap.size W w'))
    (hpan : ∀ c a t v w, Q (.panic c) (Act.put a (some t) v) w → Q (.panic c) a w) (hQ : Aside0 (∀ (v6 v7 v8 v9 v10 v11 v12 v4 : Value) (w' : World), (G v4 w' ∧ Below wr.heap.size wr w') → Q .normal ⟨List.toArray (u0 :: .pointer (some ⟨g1, 0, none⟩) :: .pointer (some ⟨g3, 0, none⟩) :: u3 :: v4 :: .int .i64 c :: v6 :: v7 :: v8 :: v9 :: v10 :: v11 :: v12 :: []), []⟩ w')) :
    Code.wp Tryz.prog (Code.region 1 (opsOf Tryz.f65 1) true) Q ⟨List.toArray (u0 :: .pointer (some ⟨g1, 0, none⟩) :: .pointer (some ⟨g3, 0, none⟩) :: u3 :: u4 :: u5 :: u6 :: u7 :: u8 :: u9 :: u10 :: u11 :: u12 :: []), []⟩ wr := by
  conv => arg 2; arg 2; whnf
  refine start_ (n := 9) (S := fun w' => w'.cell? ⟨g1, 0, none⟩ = some (.string d) ∧ w'.cell? ⟨g3, 0, none⟩ = some (.int .i64 n)) (ds := []) #[false, false, false, false, false, false, false, false, false] (by kernel_rfl) rfl rfl ⟨c0, c1⟩ (fun hHeld => ?_)
  refine with_tabW zburn_1_2.tab1 zburn_1_2.bits1 (fun HT_ HW_ => ?_)
  refine pure_ (i := 0) (N := some 6) (v := ?_) (a' := ?_) #[true, false, false, false, false, false, false, false, false] rfl rfl (any_of HT_.out (by kernel_rfl)) (fun _ _ _ h => hpan _ _ _ _ _ h) (Or.inl ⟨by rfl, ?_⟩) ?_ ?_
  rotate_left
  · intro w'
    go_simp
    with_reducible rfl
  rotate_left
  · simp only [Act.put, List.setIfInBounds_toArray, List.set_cons_zero, List.set_cons_succ, i64_w, i32_w]
    rfl
  refine take_ (i := 1) (N := some 7) (v := ?_) (a' := ?_) #[true, true, false, false, false, false, false, false, false] rfl rfl (take_ofW HT_.out HW_.out (by kernel_rfl)) (fun _ _ _ h => hpan _ _ _ _ _ h) (Or.inl ⟨by rfl, ?_⟩) hHeld ?_ ?_
  rotate_left
  · rintro w' ⟨s0, s1⟩
    go_simp
    with_reducible rfl
  rotate_left
  · simp only [Act.put, List.setIfInBounds_toArray, List.set_cons_zero, List.set_cons_succ, i64_w, i32_w]
    rfl
  refine take_ (i := 3) (N := some 9) (v := ?_) (a' := ?_) #[true, true, false, true, false, false, false, false, false] rfl rfl (take_ofW HT_.out HW_.out (by kernel_rfl)) (fun _ _ _ h => hpan _ _ _ _ _ h) (Or.inl ⟨by rfl, ?_⟩) hHeld ?_ ?_
  rotate_left
  · rintro w' ⟨s0, s1⟩
    go_simp
    with_reducible rfl
  rotate_left
  · simp only [Act.put, List.setIfInBounds_toArray, List.set_cons_zero, List.set_cons_succ, i64_w, i32_w]
    rfl
  refine one_ (i := 2) (N := some 8) #[true, true, true, true, false, false, false, false, false] rfl rfl (one_of HT_.out (by kernel_rfl)) (by decide) (fun K hK => ?_)
  refine goes_ Tryz.func50 (by kernel_rfl) rfl #[.string d] (by rfl) rfl rfl (by simp only [List.map_toArray, List.map_cons, List.map_nil]; rfl) ?_
  refine (HKY.out _).mono ?_
  rintro e_ w3 ⟨rfl, d3⟩
  have b3 := d3.below
  refine ⟨_, rfl, ?_⟩
  refine hK.out _ _ ⟨(b3.cell (World.block_lt_of_cell? _ _ hHeld.1)).trans hHeld.1, (b3.cell (World.block_lt_of_cell? _ _ hHeld.2)).trans hHeld.2⟩ (fun hHeld => ?_)
  clear hK K
  refine norm_ (a' := ?_) ?_ ?_
  rotate_left
  · show Act.put _ (some 8) _ = _
    simp only [Act.put, List.setIfInBounds_toArray, List.set_cons_zero, List.set_cons_succ, i64_w, i32_w]
    rfl
  refine one_ (i := 4) (N := some 10) #[true, true, true, true, true, false, false, false, false] rfl rfl (one_of HT_.out (by kernel_rfl)) (by decide) (fun K hK => ?_)
  refine goes_ Tryz.func64 (by kernel_rfl) rfl #[u0, .string key, .int .i64 n] (by rfl) rfl rfl (by simp only [List.map_toArray, List.map_cons, List.map_nil]; rfl) ?_
  refine (HFW.out _ (below_step (below_drew1 (Below.refl wr.heap.size wr)) b3)).mono ?_
  rintro e_ w6 ⟨v6, rfl, g6, b6⟩
  refine ⟨_, rfl, ?_⟩
  refine hK.out _ _ ⟨(b6.cell (World.block_lt_of_cell? _ _ hHeld.1)).trans hHeld.1, (b6.cell (World.block_lt_of_cell? _ _ hHeld.2)).trans hHeld.2⟩ (fun hHeld => ?_)
  clear hK K
  refine norm_ (a' := ?_) ?_ ?_
  rotate_left
  · show Act.put _ (some 10) _ = _
    simp only [Act.put, List.setIfInBounds_toArray, List.set_cons_zero, List.set_cons_succ, i64_w, i32_w]
    rfl
  refine pure_ (i := 5) (N := some 11) (v := ?_) (a' := ?_) #[true, true, true, true, true, true, false, false, false] rfl rfl (any_of HT_.out (by kernel_rfl)) (fun _ _ _ h => hpan _ _ _ _ _ h) (Or.inl ⟨by rfl, ?_⟩) ?_ ?_
  rotate_left
  · intro w'
    go_simp
    with_reducible rfl
  rotate_left
  · simp only [Act.put, List.setIfInBounds_toArray, List.set_cons_zero, List.set_cons_succ, i64_w, i32_w]
    rfl
  refine pure_ (i := 6) (N := some 12) (v := ?_) (a' := ?_) #[true, true, true, true, true, true, true, false, false] rfl rfl (any_of HT_.out (by kernel_rfl)) (fun _ _ _ h => hpan _ _ _ _ _ h) (Or.inl ⟨by rfl, ?_⟩) ?_ ?_
  rotate_left
  · intro w'
    go_simp
    with_reducible rfl
  rotate_left
  · simp only [Act.put, List.setIfInBounds_toArray, List.set_cons_zero, List.set_cons_succ, i64_w, i32_w]
    rfl
  refine pure_ (i := 7) (N := some 4) (v := ?_) (a' := ?_) #[true, true, true, true, true, true, true, true, false] rfl rfl (any_of HT_.out (by kernel_rfl)) (fun _ _ _ h => hpan _ _ _ _ _ h) (Or.inl ⟨by rfl, ?_⟩) ?_ ?_
  rotate_left
  · intro w'
    go_simp
    with_reducible rfl
  rotate_left
  · simp only [Act.put, List.setIfInBounds_toArray, List.set_cons_zero, List.set_cons_succ, i64_w, i32_w]
    rfl
  refine pure_ (i := 8) (N := some 5) (v := ?_) (a' := ?_) #[true, true, true, true, true, true, true, true, true] rfl rfl (any_of HT_.out (by kernel_rfl)) (fun _ _ _ h => hpan _ _ _ _ _ h) (Or.inl ⟨by rfl, ?_⟩) ?_ ?_
  rotate_left
  · intro w'
    go_simp
    with_reducible rfl
  rotate_left
  · simp only [Act.put, List.setIfInBounds_toArray, List.set_cons_zero, List.set_cons_succ, i64_w, i32_w]
    rfl
  refine done_ (done_of HT_.out (by kernel_rfl)) ?_

  refine hQ.out _ _ _ _ _ _ _ _ _ ?_
  exact ⟨g6, below_step (below_step (below_drew1 (Below.refl wr.heap.size wr)) b3) b6⟩

set_option maxHeartbeats 8000000 in
set_option maxRecDepth 100000 in
theorem zburn_1_2_calls (u0 : Value) (g1 g3 : Nat) (d key : ByteArray) (n c : Int) (G : Value → World → Prop) (wr : World) (c0 : wr.cell? ⟨g1, 0, none⟩ = some (.string d)) (c1 : wr.cell? ⟨g3, 0, none⟩ = some (.int .i64 n)) (HKY : Aside0 (∀ W, Calls Tryz.prog 50 #[.string d] W fun e w' => e = .returned (.string key) ∧ Drawn0 W w')) (HFW : Aside0 (∀ W, Below wr.heap.size wr W → Calls Tryz.prog 64 #[u0, .string key, .int .i64 n] W fun e w' => ∃ v, e = .returned (.tuple #[v, .int .i64 c]) ∧ G v w' ∧ Below W.heap.size W w')) :
    Calls Tryz.prog 65 #[u0, .pointer (some ⟨g1, 0, none⟩), .pointer (some ⟨g3, 0, none⟩)] wr fun e w' => ∃ v, e = .returned (.tuple #[v, .int .i64 c]) ∧ G v w' ∧ Below wr.heap.size wr w' := by
  go_enter Tryz.func65, Tryz.ntmps65
  go_upto_region 1 with (fail)
  refine zburn_1_2_r1 _ _ _ _ _ _ _ _ _ _ _ g1 g3 d key n c G _ c0 c1 HKY HFW (fun _ _ _ _ _ h => h) ⟨?_⟩
  intro v6 v7 v8 v9 v10 v11 v12 v4
  rintro w' ⟨hG, hB⟩
  go_wp2
  go_ret2
  exact ⟨_, rfl, hG, hB⟩
def zmint_1_1.T1 : Bool × List (List Nat × List Nat) := (true, [([], []), ([], []), ([1], [1]), ([], []), ([0, 2, 3, 2], [0, 2, 3]), ([4], [4]), ([4], [4]), ([5, 4, 0, 1, 2, 3, 4, 5, 6], [5]), ([6, 7, 0, 1, 2, 3, 4, 5, 6, 7], [6])])
def zmint_1_1.B1 : List Nat := [0, 0, 2, 0, 15, 31, 31, 127, 255]
theorem zmint_1_1.tab1 : rtab .any (opsOf Tryz.f67 1) = zmint_1_1.T1 := by kernel_rfl
theorem zmint_1_1.bits1 : waitsOk zmint_1_1.T1.2 zmint_1_1.B1 = true := by kernel_rfl
set_option maxHeartbeats 16000000 in
set_option maxRecDepth 100000 in
theorem zmint_1_1_r1 {Q : Exit → Act → World → Prop} (u0 u3 u4 u5 u6 u7 u8 u9 u10 u11 u12 : Value) (g1 g3 : Nat) (d key : ByteArray) (n c : Int) (G : Value → World → Prop) (wr : World) (c0 : wr.cell? ⟨g1, 0, none⟩ = some (.string d)) (c1 : wr.cell? ⟨g3, 0, none⟩ = some (.int .i64 n)) (HKY : Aside0 (∀ W, Calls Tryz.prog 50 #[.string d] W fun e w' => e = .returned (.string key) ∧ Drawn0 W w')) (HFW : Aside0 (∀ W, Below wr.heap.size wr W → Calls Tryz.prog 68 #[u0, .string key, .int .i64 n] W fun e w' => ∃ v, e = .returned (.tuple #[v, .int .i64 c]) ∧ G v w' ∧ Below W.heap.size W w'))
    (hpan : ∀ c a t v w, Q (.panic c) (Act.put a (some t) v) w → Q (.panic c) a w) (hQ : Aside0 (∀ (v6 v7 v8 v9 v10 v11 v12 v4 : Value) (w' : World), (G v4 w' ∧ Below wr.heap.size wr w') → Q .normal ⟨List.toArray (u0 :: .pointer (some ⟨g1, 0, none⟩) :: .pointer (some ⟨g3, 0, none⟩) :: u3 :: v4 :: .int .i64 c :: v6 :: v7 :: v8 :: v9 :: v10 :: v11 :: v12 :: []), []⟩ w')) :
    Code.wp Tryz.prog (Code.region 1 (opsOf Tryz.f67 1) true) Q ⟨List.toArray (u0 :: .pointer (some ⟨g1, 0, none⟩) :: .pointer (some ⟨g3, 0, none⟩) :: u3 :: u4 :: u5 :: u6 :: u7 :: u8 :: u9 :: u10 :: u11 :: u12 :: []), []⟩ wr := by
  conv => arg 2; arg 2; whnf
  refine start_ (n := 9) (S := fun w' => w'.cell? ⟨g1, 0, none⟩ = some (.string d) ∧ w'.cell? ⟨g3, 0, none⟩ = some (.int .i64 n)) (ds := []) #[false, false, false, false, false, false, false, false, false] (by kernel_rfl) rfl rfl ⟨c0, c1⟩ (fun hHeld => ?_)
  refine with_tabW zmint_1_1.tab1 zmint_1_1.bits1 (fun HT_ HW_ => ?_)
  refine pure_ (i := 0) (N := some 6) (v := ?_) (a' := ?_) #[true, false, false, false, false, false, false, false, false] rfl rfl (any_of HT_.out (by kernel_rfl)) (fun _ _ _ h => hpan _ _ _ _ _ h) (Or.inl ⟨by rfl, ?_⟩) ?_ ?_
  rotate_left
  · intro w'
    go_simp
    with_reducible rfl
  rotate_left
  · simp only [Act.put, List.setIfInBounds_toArray, List.set_cons_zero, List.set_cons_succ, i64_w, i32_w]
    rfl
  refine take_ (i := 1) (N := some 7) (v := ?_) (a' := ?_) #[true, true, false, false, false, false, false, false, false] rfl rfl (take_ofW HT_.out HW_.out (by kernel_rfl)) (fun _ _ _ h => hpan _ _ _ _ _ h) (Or.inl ⟨by rfl, ?_⟩) hHeld ?_ ?_
  rotate_left
  · rintro w' ⟨s0, s1⟩
    go_simp
    with_reducible rfl
  rotate_left
  · simp only [Act.put, List.setIfInBounds_toArray, List.set_cons_zero, List.set_cons_succ, i64_w, i32_w]
    rfl
  refine take_ (i := 3) (N := some 9) (v := ?_) (a' := ?_) #[true, true, false, true, false, false, false, false, false] rfl rfl (take_ofW HT_.out HW_.out (by kernel_rfl)) (fun _ _ _ h => hpan _ _ _ _ _ h) (Or.inl ⟨by rfl, ?_⟩) hHeld ?_ ?_
  rotate_left
  · rintro w' ⟨s0, s1⟩
    go_simp
    with_reducible rfl
  rotate_left
  · simp only [Act.put, List.setIfInBounds_toArray, List.set_cons_zero, List.set_cons_succ, i64_w, i32_w]
    rfl
  refine one_ (i := 2) (N := some 8) #[true, true, true, true, false, false, false, false, false] rfl rfl (one_of HT_.out (by kernel_rfl)) (by decide) (fun K hK => ?_)
  refine goes_ Tryz.func50 (by kernel_rfl) rfl #[.string d] (by rfl) rfl rfl (by simp only [List.map_toArray, List.map_cons, List.map_nil]; rfl) ?_
  refine (HKY.out _).mono ?_
  rintro e_ w3 ⟨rfl, d3⟩
  have b3 := d3.below
  refine ⟨_, rfl, ?_⟩
  refine hK.out _ _ ⟨(b3.cell (World.block_lt_of_cell? _ _ hHeld.1)).trans hHeld.1, (b3.cell (World.block_lt_of_cell? _ _ hHeld.2)).trans hHeld.2⟩ (fun hHeld => ?_)
  clear hK K
  refine norm_ (a' := ?_) ?_ ?_
  rotate_left
  · show Act.put _ (some 8) _ = _
    simp only [Act.put, List.setIfInBounds_toArray, List.set_cons_zero, List.set_cons_succ, i64_w, i32_w]
    rfl
  refine one_ (i := 4) (N := some 10) #[true, true, true, true, true, false, false, false, false] rfl rfl (one_of HT_.out (by kernel_rfl)) (by decide) (fun K hK => ?_)
  refine goes_ Tryz.func68 (by kernel_rfl) rfl #[u0, .string key, .int .i64 n] (by rfl) rfl rfl (by simp only [List.map_toArray, List.map_cons, List.map_nil]; rfl) ?_
  refine (HFW.out _ (below_step (below_drew1 (Below.refl wr.heap.size wr)) b3)).mono ?_
  rintro e_ w6 ⟨v6, rfl, g6, b6⟩
  refine ⟨_, rfl, ?_⟩
  refine hK.out _ _ ⟨(b6.cell (World.block_lt_of_cell? _ _ hHeld.1)).trans hHeld.1, (b6.cell (World.block_lt_of_cell? _ _ hHeld.2)).trans hHeld.2⟩ (fun hHeld => ?_)
  clear hK K
  refine norm_ (a' := ?_) ?_ ?_
  rotate_left
  · show Act.put _ (some 10) _ = _
    simp only [Act.put, List.setIfInBounds_toArray, List.set_cons_zero, List.set_cons_succ, i64_w, i32_w]
    rfl
  refine pure_ (i := 5) (N := some 11) (v := ?_) (a' := ?_) #[true, true, true, true, true, true, false, false, false] rfl rfl (any_of HT_.out (by kernel_rfl)) (fun _ _ _ h => hpan _ _ _ _ _ h) (Or.inl ⟨by rfl, ?_⟩) ?_ ?_
  rotate_left
  · intro w'
    go_simp
    with_reducible rfl
  rotate_left
  · simp only [Act.put, List.setIfInBounds_toArray, List.set_cons_zero, List.set_cons_succ, i64_w, i32_w]
    rfl
  refine pure_ (i := 6) (N := some 12) (v := ?_) (a' := ?_) #[true, true, true, true, true, true, true, false, false] rfl rfl (any_of HT_.out (by kernel_rfl)) (fun _ _ _ h => hpan _ _ _ _ _ h) (Or.inl ⟨by rfl, ?_⟩) ?_ ?_
  rotate_left
  · intro w'
    go_simp
    with_reducible rfl
  rotate_left
  · simp only [Act.put, List.setIfInBounds_toArray, List.set_cons_zero, List.set_cons_succ, i64_w, i32_w]
    rfl
  refine pure_ (i := 7) (N := some 4) (v := ?_) (a' := ?_) #[true, true, true, true, true, true, true, true, false] rfl rfl (any_of HT_.out (by kernel_rfl)) (fun _ _ _ h => hpan _ _ _ _ _ h) (Or.inl ⟨by rfl, ?_⟩) ?_ ?_
  rotate_left
  · intro w'
    go_simp
    with_reducible rfl
  rotate_left
  · simp only [Act.put, List.setIfInBounds_toArray, List.set_cons_zero, List.set_cons_succ, i64_w, i32_w]
    rfl
  refine pure_ (i := 8) (N := some 5) (v := ?_) (a' := ?_) #[true, true, true, true, true, true, true, true, true] rfl rfl (any_of HT_.out (by kernel_rfl)) (fun _ _ _ h => hpan _ _ _ _ _ h) (Or.inl ⟨by rfl, ?_⟩) ?_ ?_
  rotate_left
  · intro w'
    go_simp
    with_reducible rfl
  rotate_left
  · simp only [Act.put, List.setIfInBounds_toArray, List.set_cons_zero, List.set_cons_succ, i64_w, i32_w]
    rfl
  refine done_ (done_of HT_.out (by kernel_rfl)) ?_

  refine hQ.out _ _ _ _ _ _ _ _ _ ?_
  exact ⟨g6, below_step (below_step (below_drew1 (Below.refl wr.heap.size wr)) b3) b6⟩

set_option maxHeartbeats 8000000 in
set_option maxRecDepth 100000 in
theorem zmint_1_1_calls (u0 : Value) (g1 g3 : Nat) (d key : ByteArray) (n c : Int) (G : Value → World → Prop) (wr : World) (c0 : wr.cell? ⟨g1, 0, none⟩ = some (.string d)) (c1 : wr.cell? ⟨g3, 0, none⟩ = some (.int .i64 n)) (HKY : Aside0 (∀ W, Calls Tryz.prog 50 #[.string d] W fun e w' => e = .returned (.string key) ∧ Drawn0 W w')) (HFW : Aside0 (∀ W, Below wr.heap.size wr W → Calls Tryz.prog 68 #[u0, .string key, .int .i64 n] W fun e w' => ∃ v, e = .returned (.tuple #[v, .int .i64 c]) ∧ G v w' ∧ Below W.heap.size W w')) :
    Calls Tryz.prog 67 #[u0, .pointer (some ⟨g1, 0, none⟩), .pointer (some ⟨g3, 0, none⟩)] wr fun e w' => ∃ v, e = .returned (.tuple #[v, .int .i64 c]) ∧ G v w' ∧ Below wr.heap.size wr w' := by
  go_enter Tryz.func67, Tryz.ntmps67
  go_upto_region 1 with (fail)
  refine zmint_1_1_r1 _ _ _ _ _ _ _ _ _ _ _ g1 g3 d key n c G _ c0 c1 HKY HFW (fun _ _ _ _ _ h => h) ⟨?_⟩
  intro v6 v7 v8 v9 v10 v11 v12 v4
  rintro w' ⟨hG, hB⟩
  go_wp2
  go_ret2
  exact ⟨_, rfl, hG, hB⟩
def zmint_1_2.T1 : Bool × List (List Nat × List Nat) := (true, [([], []), ([], []), ([], []), ([1, 2], [1, 2]), ([], []), ([0, 3, 4, 3], [0, 3, 4]), ([5], [5]), ([5], [5]), ([6, 5, 0, 1, 2, 3, 4, 5, 6, 7], [6]), ([7, 8, 0, 1, 2, 3, 4, 5, 6, 7, 8], [7])])
def zmint_1_2.B1 : List Nat := [0, 0, 0, 6, 0, 31, 63, 63, 255, 511]
theorem zmint_1_2.tab1 : rtab .any (opsOf Tryz.f69 1) = zmint_1_2.T1 := by kernel_rfl
theorem zmint_1_2.bits1 : waitsOk zmint_1_2.T1.2 zmint_1_2.B1 = true := by kernel_rfl
set_option maxHeartbeats 16000000 in
set_option maxRecDepth 100000 in
theorem zmint_1_2_r1 {Q : Exit → Act → World → Prop} (u0 u4 u5 u6 u7 u8 u9 u10 u11 u12 u13 u14 : Value) (g1 g2 g3 : Nat) (d a key : ByteArray) (n c : Int) (G : Value → World → Prop) (wr : World) (c0 : wr.cell? ⟨g1, 0, none⟩ = some (.string d)) (c1 : wr.cell? ⟨g2, 0, none⟩ = some (.string a)) (c2 : wr.cell? ⟨g3, 0, none⟩ = some (.int .i64 n)) (HKY : Aside0 (∀ W, Calls Tryz.prog 53 #[.string d, .string a] W fun e w' => e = .returned (.string key) ∧ Drawn0 W w')) (HFW : Aside0 (∀ W, Below wr.heap.size wr W → Calls Tryz.prog 68 #[u0, .string key, .int .i64 n] W fun e w' => ∃ v, e = .returned (.tuple #[v, .int .i64 c]) ∧ G v w' ∧ Below W.heap.size W w'))
    (hpan : ∀ c a t v w, Q (.panic c) (Act.put a (some t) v) w → Q (.panic c) a w) (hQ : Aside0 (∀ (v7 v8 v9 v10 v11 v12 v13 v14 v5 : Value) (w' : World), (G v5 w' ∧ Below wr.heap.size wr w') → Q .normal ⟨List.toArray (u0 :: .pointer (some ⟨g1, 0, none⟩) :: .pointer (some ⟨g2, 0, none⟩) :: .pointer (some ⟨g3, 0, none⟩) :: u4 :: v5 :: .int .i64 c :: v7 :: v8 :: v9 :: v10 :: v11 :: v12 :: v13 :: v14 :: []), []⟩ w')) :
    Code.wp Tryz.prog (Code.region 1 (opsOf Tryz.f69 1) true) Q ⟨List.toArray (u0 :: .pointer (some ⟨g1, 0, none⟩) :: .pointer (some ⟨g2, 0, none⟩) :: .pointer (some ⟨g3, 0, none⟩) :: u4 :: u5 :: u6 :: u7 :: u8 :: u9 :: u10 :: u11 :: u12 :: u13 :: u14 :: []), []⟩ wr := by
  conv => arg 2; arg 2; whnf
  refine start_ (n := 10) (S := fun w' => w'.cell? ⟨g1, 0, none⟩ = some (.string d) ∧ w'.cell? ⟨g2, 0, none⟩ = some (.string a) ∧ w'.cell? ⟨g3, 0, none⟩ = some (.int .i64 n)) (ds := []) #[false, false, false, false, false, false, false, false, false, false] (by kernel_rfl) rfl rfl ⟨c0, c1, c2⟩ (fun hHeld => ?_)
  refine with_tabW zmint_1_2.tab1 zmint_1_2.bits1 (fun HT_ HW_ => ?_)
  refine pure_ (i := 0) (N := some 7) (v := ?_) (a' := ?_) #[true, false, false, false, false, false, false, false, false, false] rfl rfl (any_of HT_.out (by kernel_rfl)) (fun _ _ _ h => hpan _ _ _ _ _ h) (Or.inl ⟨by rfl, ?_⟩) ?_ ?_
  rotate_left
  · intro w'
    go_simp
    with_reducible rfl
  rotate_left
  · simp only [Act.put, List.setIfInBounds_toArray, List.set_cons_zero, List.set_cons_succ, i64_w, i32_w]
    rfl
  refine take_ (i := 1) (N := some 8) (v := ?_) (a' := ?_) #[true, true, false, false, false, false, false, false, false, false] rfl rfl (take_ofW HT_.out HW_.out (by kernel_rfl)) (fun _ _ _ h => hpan _ _ _ _ _ h) (Or.inl ⟨by rfl, ?_⟩) hHeld ?_ ?_
  rotate_left
  · rintro w' ⟨s0, s1, s2⟩
    go_simp
    with_reducible rfl
  rotate_left
  · simp only [Act.put, List.setIfInBounds_toArray, List.set_cons_zero, List.set_cons_succ, i64_w, i32_w]
    rfl
  refine take_ (i := 2) (N := some 9) (v := ?_) (a' := ?_) #[true, true, true, false, false, false, false, false, false, false] rfl rfl (take_ofW HT_.out HW_.out (by kernel_rfl)) (fun _ _ _ h => hpan _ _ _ _ _ h) (Or.inl ⟨by rfl, ?_⟩) hHeld ?_ ?_
  rotate_left
  · rintro w' ⟨s0, s1, s2⟩
    go_simp
    with_reducible rfl
  rotate_left
  · simp only [Act.put, List.setIfInBounds_toArray, List.set_cons_zero, List.set_cons_succ, i64_w, i32_w]
    rfl
  refine take_ (i := 4) (N := some 11) (v := ?_) (a' := ?_) #[true, true, true, false, true, false, false, false, false, false] rfl rfl (take_ofW HT_.out HW_.out (by kernel_rfl)) (fun _ _ _ h => hpan _ _ _ _ _ h) (Or.inl ⟨by rfl, ?_⟩) hHeld ?_ ?_
  rotate_left
  · rintro w' ⟨s0, s1, s2⟩
    go_simp
    with_reducible rfl
  rotate_left
  · simp only [Act.put, List.setIfInBounds_toArray, List.set_cons_zero, List.set_cons_succ, i64_w, i32_w]
    rfl
  refine one_ (i := 3) (N := some 10) #[true, true, true, true, true, false, false, false, false, false] rfl rfl (one_of HT_.out (by kernel_rfl)) (by decide) (fun K hK => ?_)
  refine goes_ Tryz.func53 (by kernel_rfl) rfl #[.string d, .string a] (by rfl) rfl rfl (by simp only [List.map_toArray, List.map_cons, List.map_nil]; rfl) ?_
  refine (HKY.out _).mono ?_
  rintro e_ w3 ⟨rfl, d3⟩
  have b3 := d3.below
  refine ⟨_, rfl, ?_⟩
  refine hK.out _ _ ⟨(b3.cell (World.block_lt_of_cell? _ _ hHeld.1)).trans hHeld.1, (b3.cell (World.block_lt_of_cell? _ _ hHeld.2.1)).trans hHeld.2.1, (b3.cell (World.block_lt_of_cell? _ _ hHeld.2.2)).trans hHeld.2.2⟩ (fun hHeld => ?_)
  clear hK K
  refine norm_ (a' := ?_) ?_ ?_
  rotate_left
  · show Act.put _ (some 10) _ = _
    simp only [Act.put, List.setIfInBounds_toArray, List.set_cons_zero, List.set_cons_succ, i64_w, i32_w]
    rfl
  refine one_ (i := 5) (N := some 12) #[true, true, true, true, true, true, false, false, false, false] rfl rfl (one_of HT_.out (by kernel_rfl)) (by decide) (fun K hK => ?_)
  refine goes_ Tryz.func68 (by kernel_rfl) rfl #[u0, .string key, .int .i64 n] (by rfl) rfl rfl (by simp only [List.map_toArray, List.map_cons, List.map_nil]; rfl) ?_
  refine (HFW.out _ (below_step (below_drew1 (Below.refl wr.heap.size wr)) b3)).mono ?_
  rintro e_ w6 ⟨v6, rfl, g6, b6⟩
  refine ⟨_, rfl, ?_⟩
  refine hK.out _ _ ⟨(b6.cell (World.block_lt_of_cell? _ _ hHeld.1)).trans hHeld.1, (b6.cell (World.block_lt_of_cell? _ _ hHeld.2.1)).trans hHeld.2.1, (b6.cell (World.block_lt_of_cell? _ _ hHeld.2.2)).trans hHeld.2.2⟩ (fun hHeld => ?_)
  clear hK K
  refine norm_ (a' := ?_) ?_ ?_
  rotate_left
  · show Act.put _ (some 12) _ = _
    simp only [Act.put, List.setIfInBounds_toArray, List.set_cons_zero, List.set_cons_succ, i64_w, i32_w]
    rfl
  refine pure_ (i := 6) (N := some 13) (v := ?_) (a' := ?_) #[true, true, true, true, true, true, true, false, false, false] rfl rfl (any_of HT_.out (by kernel_rfl)) (fun _ _ _ h => hpan _ _ _ _ _ h) (Or.inl ⟨by rfl, ?_⟩) ?_ ?_
  rotate_left
  · intro w'
    go_simp
    with_reducible rfl
  rotate_left
  · simp only [Act.put, List.setIfInBounds_toArray, List.set_cons_zero, List.set_cons_succ, i64_w, i32_w]
    rfl
  refine pure_ (i := 7) (N := some 14) (v := ?_) (a' := ?_) #[true, true, true, true, true, true, true, true, false, false] rfl rfl (any_of HT_.out (by kernel_rfl)) (fun _ _ _ h => hpan _ _ _ _ _ h) (Or.inl ⟨by rfl, ?_⟩) ?_ ?_
  rotate_left
  · intro w'
    go_simp
    with_reducible rfl
  rotate_left
  · simp only [Act.put, List.setIfInBounds_toArray, List.set_cons_zero, List.set_cons_succ, i64_w, i32_w]
    rfl
  refine pure_ (i := 8) (N := some 5) (v := ?_) (a' := ?_) #[true, true, true, true, true, true, true, true, true, false] rfl rfl (any_of HT_.out (by kernel_rfl)) (fun _ _ _ h => hpan _ _ _ _ _ h) (Or.inl ⟨by rfl, ?_⟩) ?_ ?_
  rotate_left
  · intro w'
    go_simp
    with_reducible rfl
  rotate_left
  · simp only [Act.put, List.setIfInBounds_toArray, List.set_cons_zero, List.set_cons_succ, i64_w, i32_w]
    rfl
  refine pure_ (i := 9) (N := some 6) (v := ?_) (a' := ?_) #[true, true, true, true, true, true, true, true, true, true] rfl rfl (any_of HT_.out (by kernel_rfl)) (fun _ _ _ h => hpan _ _ _ _ _ h) (Or.inl ⟨by rfl, ?_⟩) ?_ ?_
  rotate_left
  · intro w'
    go_simp
    with_reducible rfl
  rotate_left
  · simp only [Act.put, List.setIfInBounds_toArray, List.set_cons_zero, List.set_cons_succ, i64_w, i32_w]
    rfl
  refine done_ (done_of HT_.out (by kernel_rfl)) ?_

  refine hQ.out _ _ _ _ _ _ _ _ _ _ ?_
  exact ⟨g6, below_step (below_step (below_drew1 (Below.refl wr.heap.size wr)) b3) b6⟩

set_option maxHeartbeats 8000000 in
set_option maxRecDepth 100000 in
theorem zmint_1_2_calls (u0 : Value) (g1 g2 g3 : Nat) (d a key : ByteArray) (n c : Int) (G : Value → World → Prop) (wr : World) (c0 : wr.cell? ⟨g1, 0, none⟩ = some (.string d)) (c1 : wr.cell? ⟨g2, 0, none⟩ = some (.string a)) (c2 : wr.cell? ⟨g3, 0, none⟩ = some (.int .i64 n)) (HKY : Aside0 (∀ W, Calls Tryz.prog 53 #[.string d, .string a] W fun e w' => e = .returned (.string key) ∧ Drawn0 W w')) (HFW : Aside0 (∀ W, Below wr.heap.size wr W → Calls Tryz.prog 68 #[u0, .string key, .int .i64 n] W fun e w' => ∃ v, e = .returned (.tuple #[v, .int .i64 c]) ∧ G v w' ∧ Below W.heap.size W w')) :
    Calls Tryz.prog 69 #[u0, .pointer (some ⟨g1, 0, none⟩), .pointer (some ⟨g2, 0, none⟩), .pointer (some ⟨g3, 0, none⟩)] wr fun e w' => ∃ v, e = .returned (.tuple #[v, .int .i64 c]) ∧ G v w' ∧ Below wr.heap.size wr w' := by
  go_enter Tryz.func69, Tryz.ntmps69
  go_upto_region 1 with (fail)
  refine zmint_1_2_r1 _ _ _ _ _ _ _ _ _ _ _ _ g1 g2 g3 d a key n c G _ c0 c1 c2 HKY HFW (fun _ _ _ _ _ h => h) ⟨?_⟩
  intro v7 v8 v9 v10 v11 v12 v13 v14 v5
  rintro w' ⟨hG, hB⟩
  go_wp2
  go_ret2
  exact ⟨_, rfl, hG, hB⟩
def zmove_1_1.T1 : Bool × List (List Nat × List Nat) := (true, [([], []), ([], []), ([], []), ([1, 2], [1, 2]), ([], []), ([0, 3, 4, 3], [0, 3, 4]), ([5], [5]), ([5], [5]), ([6, 5, 0, 1, 2, 3, 4, 5, 6, 7], [6]), ([7, 8, 0, 1, 2, 3, 4, 5, 6, 7, 8], [7])])
def zmove_1_1.B1 : List Nat := [0, 0, 0, 6, 0, 31, 63, 63, 255, 511]
theorem zmove_1_1.tab1 : rtab .any (opsOf Tryz.f71 1) = zmove_1_1.T1 := by kernel_rfl
theorem zmove_1_1.bits1 : waitsOk zmove_1_1.T1.2 zmove_1_1.B1 = true := by kernel_rfl
set_option maxHeartbeats 16000000 in
set_option maxRecDepth 100000 in
theorem zmove_1_1_r1 {Q : Exit → Act → World → Prop} (u0 u4 u5 u6 u7 u8 u9 u10 u11 u12 u13 u14 : Value) (g1 g2 g3 : Nat) (d a key : ByteArray) (n c : Int) (G : Value → World → Prop) (wr : World) (c0 : wr.cell? ⟨g1, 0, none⟩ = some (.string d)) (c1 : wr.cell? ⟨g2, 0, none⟩ = some (.string a)) (c2 : wr.cell? ⟨g3, 0, none⟩ = some (.int .i64 n)) (HKY : Aside0 (∀ W, Calls Tryz.prog 53 #[.string d, .string a] W fun e w' => e = .returned (.string key) ∧ Drawn0 W w')) (HFW : Aside0 (∀ W, Below wr.heap.size wr W → Calls Tryz.prog 64 #[u0, .string key, .int .i64 n] W fun e w' => ∃ v, e = .returned (.tuple #[v, .int .i64 c]) ∧ G v w' ∧ Below W.heap.size W w'))
    (hpan : ∀ c a t v w, Q (.panic c) (Act.put a (some t) v) w → Q (.panic c) a w) (hQ : Aside0 (∀ (v7 v8 v9 v10 v11 v12 v13 v14 v5 : Value) (w' : World), (G v5 w' ∧ Below wr.heap.size wr w') → Q .normal ⟨List.toArray (u0 :: .pointer (some ⟨g1, 0, none⟩) :: .pointer (some ⟨g2, 0, none⟩) :: .pointer (some ⟨g3, 0, none⟩) :: u4 :: v5 :: .int .i64 c :: v7 :: v8 :: v9 :: v10 :: v11 :: v12 :: v13 :: v14 :: []), []⟩ w')) :
    Code.wp Tryz.prog (Code.region 1 (opsOf Tryz.f71 1) true) Q ⟨List.toArray (u0 :: .pointer (some ⟨g1, 0, none⟩) :: .pointer (some ⟨g2, 0, none⟩) :: .pointer (some ⟨g3, 0, none⟩) :: u4 :: u5 :: u6 :: u7 :: u8 :: u9 :: u10 :: u11 :: u12 :: u13 :: u14 :: []), []⟩ wr := by
  conv => arg 2; arg 2; whnf
  refine start_ (n := 10) (S := fun w' => w'.cell? ⟨g1, 0, none⟩ = some (.string d) ∧ w'.cell? ⟨g2, 0, none⟩ = some (.string a) ∧ w'.cell? ⟨g3, 0, none⟩ = some (.int .i64 n)) (ds := []) #[false, false, false, false, false, false, false, false, false, false] (by kernel_rfl) rfl rfl ⟨c0, c1, c2⟩ (fun hHeld => ?_)
  refine with_tabW zmove_1_1.tab1 zmove_1_1.bits1 (fun HT_ HW_ => ?_)
  refine pure_ (i := 0) (N := some 7) (v := ?_) (a' := ?_) #[true, false, false, false, false, false, false, false, false, false] rfl rfl (any_of HT_.out (by kernel_rfl)) (fun _ _ _ h => hpan _ _ _ _ _ h) (Or.inl ⟨by rfl, ?_⟩) ?_ ?_
  rotate_left
  · intro w'
    go_simp
    with_reducible rfl
  rotate_left
  · simp only [Act.put, List.setIfInBounds_toArray, List.set_cons_zero, List.set_cons_succ, i64_w, i32_w]
    rfl
  refine take_ (i := 1) (N := some 8) (v := ?_) (a' := ?_) #[true, true, false, false, false, false, false, false, false, false] rfl rfl (take_ofW HT_.out HW_.out (by kernel_rfl)) (fun _ _ _ h => hpan _ _ _ _ _ h) (Or.inl ⟨by rfl, ?_⟩) hHeld ?_ ?_
  rotate_left
  · rintro w' ⟨s0, s1, s2⟩
    go_simp
    with_reducible rfl
  rotate_left
  · simp only [Act.put, List.setIfInBounds_toArray, List.set_cons_zero, List.set_cons_succ, i64_w, i32_w]
    rfl
  refine take_ (i := 2) (N := some 9) (v := ?_) (a' := ?_) #[true, true, true, false, false, false, false, false, false, false] rfl rfl (take_ofW HT_.out HW_.out (by kernel_rfl)) (fun _ _ _ h => hpan _ _ _ _ _ h) (Or.inl ⟨by rfl, ?_⟩) hHeld ?_ ?_
  rotate_left
  · rintro w' ⟨s0, s1, s2⟩
    go_simp
    with_reducible rfl
  rotate_left
  · simp only [Act.put, List.setIfInBounds_toArray, List.set_cons_zero, List.set_cons_succ, i64_w, i32_w]
    rfl
  refine take_ (i := 4) (N := some 11) (v := ?_) (a' := ?_) #[true, true, true, false, true, false, false, false, false, false] rfl rfl (take_ofW HT_.out HW_.out (by kernel_rfl)) (fun _ _ _ h => hpan _ _ _ _ _ h) (Or.inl ⟨by rfl, ?_⟩) hHeld ?_ ?_
  rotate_left
  · rintro w' ⟨s0, s1, s2⟩
    go_simp
    with_reducible rfl
  rotate_left
  · simp only [Act.put, List.setIfInBounds_toArray, List.set_cons_zero, List.set_cons_succ, i64_w, i32_w]
    rfl
  refine one_ (i := 3) (N := some 10) #[true, true, true, true, true, false, false, false, false, false] rfl rfl (one_of HT_.out (by kernel_rfl)) (by decide) (fun K hK => ?_)
  refine goes_ Tryz.func53 (by kernel_rfl) rfl #[.string d, .string a] (by rfl) rfl rfl (by simp only [List.map_toArray, List.map_cons, List.map_nil]; rfl) ?_
  refine (HKY.out _).mono ?_
  rintro e_ w3 ⟨rfl, d3⟩
  have b3 := d3.below
  refine ⟨_, rfl, ?_⟩
  refine hK.out _ _ ⟨(b3.cell (World.block_lt_of_cell? _ _ hHeld.1)).trans hHeld.1, (b3.cell (World.block_lt_of_cell? _ _ hHeld.2.1)).trans hHeld.2.1, (b3.cell (World.block_lt_of_cell? _ _ hHeld.2.2)).trans hHeld.2.2⟩ (fun hHeld => ?_)
  clear hK K
  refine norm_ (a' := ?_) ?_ ?_
  rotate_left
  · show Act.put _ (some 10) _ = _
    simp only [Act.put, List.setIfInBounds_toArray, List.set_cons_zero, List.set_cons_succ, i64_w, i32_w]
    rfl
  refine one_ (i := 5) (N := some 12) #[true, true, true, true, true, true, false, false, false, false] rfl rfl (one_of HT_.out (by kernel_rfl)) (by decide) (fun K hK => ?_)
  refine goes_ Tryz.func64 (by kernel_rfl) rfl #[u0, .string key, .int .i64 n] (by rfl) rfl rfl (by simp only [List.map_toArray, List.map_cons, List.map_nil]; rfl) ?_
  refine (HFW.out _ (below_step (below_drew1 (Below.refl wr.heap.size wr)) b3)).mono ?_
  rintro e_ w6 ⟨v6, rfl, g6, b6⟩
  refine ⟨_, rfl, ?_⟩
  refine hK.out _ _ ⟨(b6.cell (World.block_lt_of_cell? _ _ hHeld.1)).trans hHeld.1, (b6.cell (World.block_lt_of_cell? _ _ hHeld.2.1)).trans hHeld.2.1, (b6.cell (World.block_lt_of_cell? _ _ hHeld.2.2)).trans hHeld.2.2⟩ (fun hHeld => ?_)
  clear hK K
  refine norm_ (a' := ?_) ?_ ?_
  rotate_left
  · show Act.put _ (some 12) _ = _
    simp only [Act.put, List.setIfInBounds_toArray, List.set_cons_zero, List.set_cons_succ, i64_w, i32_w]
    rfl
  refine pure_ (i := 6) (N := some 13) (v := ?_) (a' := ?_) #[true, true, true, true, true, true, true, false, false, false] rfl rfl (any_of HT_.out (by kernel_rfl)) (fun _ _ _ h => hpan _ _ _ _ _ h) (Or.inl ⟨by rfl, ?_⟩) ?_ ?_
  rotate_left
  · intro w'
    go_simp
    with_reducible rfl
  rotate_left
  · simp only [Act.put, List.setIfInBounds_toArray, List.set_cons_zero, List.set_cons_succ, i64_w, i32_w]
    rfl
  refine pure_ (i := 7) (N := some 14) (v := ?_) (a' := ?_) #[true, true, true, true, true, true, true, true, false, false] rfl rfl (any_of HT_.out (by kernel_rfl)) (fun _ _ _ h => hpan _ _ _ _ _ h) (Or.inl ⟨by rfl, ?_⟩) ?_ ?_
  rotate_left
  · intro w'
    go_simp
    with_reducible rfl
  rotate_left
  · simp only [Act.put, List.setIfInBounds_toArray, List.set_cons_zero, List.set_cons_succ, i64_w, i32_w]
    rfl
  refine pure_ (i := 8) (N := some 5) (v := ?_) (a' := ?_) #[true, true, true, true, true, true, true, true, true, false] rfl rfl (any_of HT_.out (by kernel_rfl)) (fun _ _ _ h => hpan _ _ _ _ _ h) (Or.inl ⟨by rfl, ?_⟩) ?_ ?_
  rotate_left
  · intro w'
    go_simp
    with_reducible rfl
  rotate_left
  · simp only [Act.put, List.setIfInBounds_toArray, List.set_cons_zero, List.set_cons_succ, i64_w, i32_w]
    rfl
  refine pure_ (i := 9) (N := some 6) (v := ?_) (a' := ?_) #[true, true, true, true, true, true, true, true, true, true] rfl rfl (any_of HT_.out (by kernel_rfl)) (fun _ _ _ h => hpan _ _ _ _ _ h) (Or.inl ⟨by rfl, ?_⟩) ?_ ?_
  rotate_left
  · intro w'
    go_simp
    with_reducible rfl
  rotate_left
  · simp only [Act.put, List.setIfInBounds_toArray, List.set_cons_zero, List.set_cons_succ, i64_w, i32_w]
    rfl
  refine done_ (done_of HT_.out (by kernel_rfl)) ?_

  refine hQ.out _ _ _ _ _ _ _ _ _ _ ?_
  exact ⟨g6, below_step (below_step (below_drew1 (Below.refl wr.heap.size wr)) b3) b6⟩

set_option maxHeartbeats 8000000 in
set_option maxRecDepth 100000 in
theorem zmove_1_1_calls (u0 : Value) (g1 g2 g3 : Nat) (d a key : ByteArray) (n c : Int) (G : Value → World → Prop) (wr : World) (c0 : wr.cell? ⟨g1, 0, none⟩ = some (.string d)) (c1 : wr.cell? ⟨g2, 0, none⟩ = some (.string a)) (c2 : wr.cell? ⟨g3, 0, none⟩ = some (.int .i64 n)) (HKY : Aside0 (∀ W, Calls Tryz.prog 53 #[.string d, .string a] W fun e w' => e = .returned (.string key) ∧ Drawn0 W w')) (HFW : Aside0 (∀ W, Below wr.heap.size wr W → Calls Tryz.prog 64 #[u0, .string key, .int .i64 n] W fun e w' => ∃ v, e = .returned (.tuple #[v, .int .i64 c]) ∧ G v w' ∧ Below W.heap.size W w')) :
    Calls Tryz.prog 71 #[u0, .pointer (some ⟨g1, 0, none⟩), .pointer (some ⟨g2, 0, none⟩), .pointer (some ⟨g3, 0, none⟩)] wr fun e w' => ∃ v, e = .returned (.tuple #[v, .int .i64 c]) ∧ G v w' ∧ Below wr.heap.size wr w' := by
  go_enter Tryz.func71, Tryz.ntmps71
  go_upto_region 1 with (fail)
  refine zmove_1_1_r1 _ _ _ _ _ _ _ _ _ _ _ _ g1 g2 g3 d a key n c G _ c0 c1 c2 HKY HFW (fun _ _ _ _ _ h => h) ⟨?_⟩
  intro v7 v8 v9 v10 v11 v12 v13 v14 v5
  rintro w' ⟨hG, hB⟩
  go_wp2
  go_ret2
  exact ⟨_, rfl, hG, hB⟩
def zmove_1_2.T1 : Bool × List (List Nat × List Nat) := (true, [([], []), ([], []), ([], []), ([1, 2], [1, 2]), ([], []), ([0, 3, 4, 3], [0, 3, 4]), ([5], [5]), ([5], [5]), ([6, 5, 0, 1, 2, 3, 4, 5, 6, 7], [6]), ([7, 8, 0, 1, 2, 3, 4, 5, 6, 7, 8], [7])])
def zmove_1_2.B1 : List Nat := [0, 0, 0, 6, 0, 31, 63, 63, 255, 511]
theorem zmove_1_2.tab1 : rtab .any (opsOf Tryz.f72 1) = zmove_1_2.T1 := by kernel_rfl
theorem zmove_1_2.bits1 : waitsOk zmove_1_2.T1.2 zmove_1_2.B1 = true := by kernel_rfl
set_option maxHeartbeats 16000000 in
set_option maxRecDepth 100000 in
theorem zmove_1_2_r1 {Q : Exit → Act → World → Prop} (u0 u4 u5 u6 u7 u8 u9 u10 u11 u12 u13 u14 : Value) (g1 g2 g3 : Nat) (d a key : ByteArray) (n c : Int) (G : Value → World → Prop) (wr : World) (c0 : wr.cell? ⟨g1, 0, none⟩ = some (.string d)) (c1 : wr.cell? ⟨g2, 0, none⟩ = some (.string a)) (c2 : wr.cell? ⟨g3, 0, none⟩ = some (.int .i64 n)) (HKY : Aside0 (∀ W, Calls Tryz.prog 53 #[.string d, .string a] W fun e w' => e = .returned (.string key) ∧ Drawn0 W w')) (HFW : Aside0 (∀ W, Below wr.heap.size wr W → Calls Tryz.prog 68 #[u0, .string key, .int .i64 n] W fun e w' => ∃ v, e = .returned (.tuple #[v, .int .i64 c]) ∧ G v w' ∧ Below W.heap.size W w'))
    (hpan : ∀ c a t v w, Q (.panic c) (Act.put a (some t) v) w → Q (.panic c) a w) (hQ : Aside0 (∀ (v7 v8 v9 v10 v11 v12 v13 v14 v5 : Value) (w' : World), (G v5 w' ∧ Below wr.heap.size wr w') → Q .normal ⟨List.toArray (u0 :: .pointer (some ⟨g1, 0, none⟩) :: .pointer (some ⟨g2, 0, none⟩) :: .pointer (some ⟨g3, 0, none⟩) :: u4 :: v5 :: .int .i64 c :: v7 :: v8 :: v9 :: v10 :: v11 :: v12 :: v13 :: v14 :: []), []⟩ w')) :
    Code.wp Tryz.prog (Code.region 1 (opsOf Tryz.f72 1) true) Q ⟨List.toArray (u0 :: .pointer (some ⟨g1, 0, none⟩) :: .pointer (some ⟨g2, 0, none⟩) :: .pointer (some ⟨g3, 0, none⟩) :: u4 :: u5 :: u6 :: u7 :: u8 :: u9 :: u10 :: u11 :: u12 :: u13 :: u14 :: []), []⟩ wr := by
  conv => arg 2; arg 2; whnf
  refine start_ (n := 10) (S := fun w' => w'.cell? ⟨g1, 0, none⟩ = some (.string d) ∧ w'.cell? ⟨g2, 0, none⟩ = some (.string a) ∧ w'.cell? ⟨g3, 0, none⟩ = some (.int .i64 n)) (ds := []) #[false, false, false, false, false, false, false, false, false, false] (by kernel_rfl) rfl rfl ⟨c0, c1, c2⟩ (fun hHeld => ?_)
  refine with_tabW zmove_1_2.tab1 zmove_1_2.bits1 (fun HT_ HW_ => ?_)
  refine pure_ (i := 0) (N := some 7) (v := ?_) (a' := ?_) #[true, false, false, false, false, false, false, false, false, false] rfl rfl (any_of HT_.out (by kernel_rfl)) (fun _ _ _ h => hpan _ _ _ _ _ h) (Or.inl ⟨by rfl, ?_⟩) ?_ ?_
  rotate_left
  · intro w'
    go_simp
    with_reducible rfl
  rotate_left
  · simp only [Act.put, List.setIfInBounds_toArray, List.set_cons_zero, List.set_cons_succ, i64_w, i32_w]
    rfl
  refine take_ (i := 1) (N := some 8) (v := ?_) (a' := ?_) #[true, true, false, false, false, false, false, false, false, false] rfl rfl (take_ofW HT_.out HW_.out (by kernel_rfl)) (fun _ _ _ h => hpan _ _ _ _ _ h) (Or.inl ⟨by rfl, ?_⟩) hHeld ?_ ?_
  rotate_left
  · rintro w' ⟨s0, s1, s2⟩
    go_simp
    with_reducible rfl
  rotate_left
  · simp only [Act.put, List.setIfInBounds_toArray, List.set_cons_zero, List.set_cons_succ, i64_w, i32_w]
    rfl
  refine take_ (i := 2) (N := some 9) (v := ?_) (a' := ?_) #[true, true, true, false, false, false, false, false, false, false] rfl rfl (take_ofW HT_.out HW_.out (by kernel_rfl)) (fun _ _ _ h => hpan _ _ _ _ _ h) (Or.inl ⟨by rfl, ?_⟩) hHeld ?_ ?_
  rotate_left
  · rintro w' ⟨s0, s1, s2⟩
    go_simp
    with_reducible rfl
  rotate_left
  · simp only [Act.put, List.setIfInBounds_toArray, List.set_cons_zero, List.set_cons_succ, i64_w, i32_w]
    rfl
  refine take_ (i := 4) (N := some 11) (v := ?_) (a' := ?_) #[true, true, true, false, true, false, false, false, false, false] rfl rfl (take_ofW HT_.out HW_.out (by kernel_rfl)) (fun _ _ _ h => hpan _ _ _ _ _ h) (Or.inl ⟨by rfl, ?_⟩) hHeld ?_ ?_
  rotate_left
  · rintro w' ⟨s0, s1, s2⟩
    go_simp
    with_reducible rfl
  rotate_left
  · simp only [Act.put, List.setIfInBounds_toArray, List.set_cons_zero, List.set_cons_succ, i64_w, i32_w]
    rfl
  refine one_ (i := 3) (N := some 10) #[true, true, true, true, true, false, false, false, false, false] rfl rfl (one_of HT_.out (by kernel_rfl)) (by decide) (fun K hK => ?_)
  refine goes_ Tryz.func53 (by kernel_rfl) rfl #[.string d, .string a] (by rfl) rfl rfl (by simp only [List.map_toArray, List.map_cons, List.map_nil]; rfl) ?_
  refine (HKY.out _).mono ?_
  rintro e_ w3 ⟨rfl, d3⟩
  have b3 := d3.below
  refine ⟨_, rfl, ?_⟩
  refine hK.out _ _ ⟨(b3.cell (World.block_lt_of_cell? _ _ hHeld.1)).trans hHeld.1, (b3.cell (World.block_lt_of_cell? _ _ hHeld.2.1)).trans hHeld.2.1, (b3.cell (World.block_lt_of_cell? _ _ hHeld.2.2)).trans hHeld.2.2⟩ (fun hHeld => ?_)
  clear hK K
  refine norm_ (a' := ?_) ?_ ?_
  rotate_left
  · show Act.put _ (some 10) _ = _
    simp only [Act.put, List.setIfInBounds_toArray, List.set_cons_zero, List.set_cons_succ, i64_w, i32_w]
    rfl
  refine one_ (i := 5) (N := some 12) #[true, true, true, true, true, true, false, false, false, false] rfl rfl (one_of HT_.out (by kernel_rfl)) (by decide) (fun K hK => ?_)
  refine goes_ Tryz.func68 (by kernel_rfl) rfl #[u0, .string key, .int .i64 n] (by rfl) rfl rfl (by simp only [List.map_toArray, List.map_cons, List.map_nil]; rfl) ?_
  refine (HFW.out _ (below_step (below_drew1 (Below.refl wr.heap.size wr)) b3)).mono ?_
  rintro e_ w6 ⟨v6, rfl, g6, b6⟩
  refine ⟨_, rfl, ?_⟩
  refine hK.out _ _ ⟨(b6.cell (World.block_lt_of_cell? _ _ hHeld.1)).trans hHeld.1, (b6.cell (World.block_lt_of_cell? _ _ hHeld.2.1)).trans hHeld.2.1, (b6.cell (World.block_lt_of_cell? _ _ hHeld.2.2)).trans hHeld.2.2⟩ (fun hHeld => ?_)
  clear hK K
  refine norm_ (a' := ?_) ?_ ?_
  rotate_left
  · show Act.put _ (some 12) _ = _
    simp only [Act.put, List.setIfInBounds_toArray, List.set_cons_zero, List.set_cons_succ, i64_w, i32_w]
    rfl
  refine pure_ (i := 6) (N := some 13) (v := ?_) (a' := ?_) #[true, true, true, true, true, true, true, false, false, false] rfl rfl (any_of HT_.out (by kernel_rfl)) (fun _ _ _ h => hpan _ _ _ _ _ h) (Or.inl ⟨by rfl, ?_⟩) ?_ ?_
  rotate_left
  · intro w'
    go_simp
    with_reducible rfl
  rotate_left
  · simp only [Act.put, List.setIfInBounds_toArray, List.set_cons_zero, List.set_cons_succ, i64_w, i32_w]
    rfl
  refine pure_ (i := 7) (N := some 14) (v := ?_) (a' := ?_) #[true, true, true, true, true, true, true, true, false, false] rfl rfl (any_of HT_.out (by kernel_rfl)) (fun _ _ _ h => hpan _ _ _ _ _ h) (Or.inl ⟨by rfl, ?_⟩) ?_ ?_
  rotate_left
  · intro w'
    go_simp
    with_reducible rfl
  rotate_left
  · simp only [Act.put, List.setIfInBounds_toArray, List.set_cons_zero, List.set_cons_succ, i64_w, i32_w]
    rfl
  refine pure_ (i := 8) (N := some 5) (v := ?_) (a' := ?_) #[true, true, true, true, true, true, true, true, true, false] rfl rfl (any_of HT_.out (by kernel_rfl)) (fun _ _ _ h => hpan _ _ _ _ _ h) (Or.inl ⟨by rfl, ?_⟩) ?_ ?_
  rotate_left
  · intro w'
    go_simp
    with_reducible rfl
  rotate_left
  · simp only [Act.put, List.setIfInBounds_toArray, List.set_cons_zero, List.set_cons_succ, i64_w, i32_w]
    rfl
  refine pure_ (i := 9) (N := some 6) (v := ?_) (a' := ?_) #[true, true, true, true, true, true, true, true, true, true] rfl rfl (any_of HT_.out (by kernel_rfl)) (fun _ _ _ h => hpan _ _ _ _ _ h) (Or.inl ⟨by rfl, ?_⟩) ?_ ?_
  rotate_left
  · intro w'
    go_simp
    with_reducible rfl
  rotate_left
  · simp only [Act.put, List.setIfInBounds_toArray, List.set_cons_zero, List.set_cons_succ, i64_w, i32_w]
    rfl
  refine done_ (done_of HT_.out (by kernel_rfl)) ?_

  refine hQ.out _ _ _ _ _ _ _ _ _ _ ?_
  exact ⟨g6, below_step (below_step (below_drew1 (Below.refl wr.heap.size wr)) b3) b6⟩

set_option maxHeartbeats 8000000 in
set_option maxRecDepth 100000 in
theorem zmove_1_2_calls (u0 : Value) (g1 g2 g3 : Nat) (d a key : ByteArray) (n c : Int) (G : Value → World → Prop) (wr : World) (c0 : wr.cell? ⟨g1, 0, none⟩ = some (.string d)) (c1 : wr.cell? ⟨g2, 0, none⟩ = some (.string a)) (c2 : wr.cell? ⟨g3, 0, none⟩ = some (.int .i64 n)) (HKY : Aside0 (∀ W, Calls Tryz.prog 53 #[.string d, .string a] W fun e w' => e = .returned (.string key) ∧ Drawn0 W w')) (HFW : Aside0 (∀ W, Below wr.heap.size wr W → Calls Tryz.prog 68 #[u0, .string key, .int .i64 n] W fun e w' => ∃ v, e = .returned (.tuple #[v, .int .i64 c]) ∧ G v w' ∧ Below W.heap.size W w')) :
    Calls Tryz.prog 72 #[u0, .pointer (some ⟨g1, 0, none⟩), .pointer (some ⟨g2, 0, none⟩), .pointer (some ⟨g3, 0, none⟩)] wr fun e w' => ∃ v, e = .returned (.tuple #[v, .int .i64 c]) ∧ G v w' ∧ Below wr.heap.size wr w' := by
  go_enter Tryz.func72, Tryz.ntmps72
  go_upto_region 1 with (fail)
  refine zmove_1_2_r1 _ _ _ _ _ _ _ _ _ _ _ _ g1 g2 g3 d a key n c G _ c0 c1 c2 HKY HFW (fun _ _ _ _ _ h => h) ⟨?_⟩
  intro v7 v8 v9 v10 v11 v12 v13 v14 v5
  rintro w' ⟨hG, hB⟩
  go_wp2
  go_ret2
  exact ⟨_, rfl, hG, hB⟩
end Go.Proofs.YtpkfdjlmflmilaaGreatDoor.Q
end
section
namespace Go.Proofs.YtpkfdjlmflmilaaGreatDoor.Q
open Go.RowKit Go.Proofs.YtpkfdjlmflmilaaGreatDoorW.PrintWords Go.Proofs.YtpkfdjlmflmilaaGreatDoorW.PrintLast Go.Proofs.YtpkfdjlmflmilaaGreatDoorW.PrintMore Go.Proofs.YtpkfdjlmflmilaaGreatDoor.Pure
set_option linter.unusedVariables false
set_option linter.unusedSimpArgs false
theorem drop_empty {l : List S56} (hr : rightB l = true) : dropN l ⟨#[]⟩ = (l, 5) := by
  have h : fdB l ⟨#[]⟩ = false := by
    rw [Bool.eq_false_iff]
    intro h
    have hi := fdB_lt h
    have hk := fdB_key h
    have h2 := (right_key hr (lbN l ⟨#[]⟩) hi).1
    have e : key l (lbN l ⟨#[]⟩) = (⟨#[]⟩ : ByteArray) := hk
    rw [e] at h2
    revert h2
    decide
  unfold dropN
  rw [h, if_neg (by decide)]
set_option maxHeartbeats 8000000 in
set_option maxRecDepth 100000 in
theorem all_burn_calls (A0 : Option Addr) (c0 gr g1 g2 g3 : Nat) (l0 r1 r2 : List S56) (e1 e2 : Int) (w : World) (hgr : gr < w.heap.size) (hc0 : w.cell? ⟨gr, 0, none⟩ = some (.func (.func 63) #[] #[.pointer (some ⟨g1, 0, none⟩), .pointer (some ⟨g2, 0, none⟩), .pointer (some ⟨g3, 0, none⟩)])) (hc1 : w.cell? ⟨gr, 1, none⟩ = some (.func (.func 65) #[] #[.pointer (some ⟨g1, 0, none⟩), .pointer (some ⟨g3, 0, none⟩)]))
    (XD : Aside0 (∀ W, Below w.heap.size w W → Calls Tryz.prog 88 #[.slice A0 l0.length c0, .string ⟨#[]⟩] W fun e w' => ∃ v, e = .returned (.tuple #[v, .int .i64 5]) ∧ Kd.R k56 56 w' W.heap.size (fun _ => True) v l0 ∧ Below W.heap.size W w'))
    (X1 : Aside0 (∀ (W : World) (A : Option Addr) (c : Nat), Below w.heap.size w W → Kd.C k56 W A l0.length l0 → l0.length ≤ c → Calls Tryz.prog 63 #[.slice A l0.length c, .pointer (some ⟨g1, 0, none⟩), .pointer (some ⟨g2, 0, none⟩), .pointer (some ⟨g3, 0, none⟩)] W fun e w' => ∃ v, e = .returned (.tuple #[v, .int .i64 e1]) ∧ (e1 = 0 → Kd.R k56 56 w' w.heap.size (fun _ => True) v r1) ∧ Below w.heap.size W w'))
    (X2 : Aside0 (∀ (W : World) (A : Option Addr) (c : Nat), Below w.heap.size w W → Kd.C k56 W A r1.length r1 → r1.length ≤ c → Calls Tryz.prog 65 #[.slice A r1.length c, .pointer (some ⟨g1, 0, none⟩), .pointer (some ⟨g3, 0, none⟩)] W fun e w' => ∃ v, e = .returned (.tuple #[v, .int .i64 e2]) ∧ (e2 = 0 → Kd.R k56 56 w' w.heap.size (fun _ => True) v r2) ∧ Below w.heap.size W w')) :
    Calls Tryz.prog 62 #[.slice A0 l0.length c0, .slice (some ⟨gr, 0, none⟩) 2 2] w fun e w' => ∃ v, e = .returned (.tuple #[v, .int .i64 (if e1 = 0 then (if e2 = 0 then 0 else e2) else e1)]) ∧ Kd.R k56 56 w' w.heap.size (fun _ => True) v (if e1 = 0 then (if e2 = 0 then r2 else l0) else l0) ∧ Below w.heap.size w w' := by
  have HBr := Aside0.mk (Below.refl w.heap.size w)
  go_enter Tryz.func62, Tryz.ntmps62
  go_wp2_with (first | (go_at_call 88; refine (XD.out _ HBr.out).mono ?_; rintro e wd ⟨vd, rfl, hRd, hbd⟩; have HRd := Aside0.mk (Kd.R_lower hRd (HBr.out).size); have HBd := Aside0.mk ((HBr.out).trans (hbd.mono (HBr.out).size)); clear hRd hbd))
  go_loopg [6, 21] 3 (fun gk v6 v21 w' => (gk = 3 ∧ v21 = .int .i64 0 ∧ Aside0 (Kd.R k56 56 w' w.heap.size (fun _ => True) v6 l0) ∧ Aside0 (Below w.heap.size w w')) ∨ (gk = 2 ∧ v21 = .int .i64 1 ∧ e1 = 0 ∧ Aside0 (Kd.R k56 56 w' w.heap.size (fun _ => True) v6 r1) ∧ Aside0 (Below w.heap.size w w')) ∨ (gk = 1 ∧ v21 = .int .i64 2 ∧ e1 = 0 ∧ e2 = 0 ∧ Aside0 (Kd.R k56 56 w' w.heap.size (fun _ => True) v6 r2) ∧ Aside0 (Below w.heap.size w w')))
  case atStart => exact .inl ⟨rfl, rfl, ⟨HRd.out⟩, ⟨HBd.out⟩⟩
  case round =>
    rcases hrel with hrel | hrel | hrel
    · obtain ⟨hk, hv, HR, HB⟩ := hrel
      subst hk
      subst hv
      obtain ⟨Ao, co, eo⟩ := Kd.R_slice HR.out
      subst eo
      have HCC := Aside0.mk (Kd.R_reads' HR.out).2.2
      have HCL := Aside0.mk (Kd.R_reads' HR.out).2.1
      have hcell : wr.cell? ⟨gr, 0, none⟩ = some (.func (.func 63) #[] #[.pointer (some ⟨g1, 0, none⟩), .pointer (some ⟨g2, 0, none⟩), .pointer (some ⟨g3, 0, none⟩)]) := (HB.out.cell hgr).trans hc0
      by_cases c_ : e1 = 0
      · subst c_
        go_wp2_with (first | (go_at_call 63; refine (X1.out _ _ _ HB.out HCC.out HCL.out).mono ?_; rintro e w2 ⟨v2, rfl, hR2, hb2⟩; have HR2 := Aside0.mk hR2; have HB2 := Aside0.mk (HB.out.trans hb2); clear hR2 hb2))
        go_roundg 2
        case measure => omega
        case rel => exact .inr (.inl ⟨rfl, rfl, (by first | trivial | rfl), ⟨HR2.out (by first | trivial | rfl)⟩, ⟨HB2.out⟩⟩)
      · have z1 : (e1 == 0) = false := by simpa using c_
        have z2 : (e1 != 0) = true := by simpa using c_
        go_wp2_with (first | (go_at_call 63; refine (X1.out _ _ _ HB.out HCC.out HCL.out).mono ?_; rintro e w2 ⟨v2, rfl, hR2, hb2⟩; have HR2 := Aside0.mk hR2; have HB2 := Aside0.mk (HB.out.trans hb2); clear hR2 hb2) | (go_at_call 88; refine (XD.out _ HB2.out).mono ?_; rintro e wd ⟨vd, rfl, hRd, hbd⟩; have HRd := Aside0.mk (Kd.R_lower hRd (HB2.out).size); have HBd := Aside0.mk ((HB2.out).trans (hbd.mono (HB2.out).size)); clear hRd hbd))
        go_ret2
        exact ⟨_, rfl, by skip; exact HRd.out, HBd.out⟩
    · obtain ⟨hk, hv, he1, HR, HB⟩ := hrel
      subst hk
      subst hv
      obtain ⟨Ao, co, eo⟩ := Kd.R_slice HR.out
      subst eo
      have HCC := Aside0.mk (Kd.R_reads' HR.out).2.2
      have HCL := Aside0.mk (Kd.R_reads' HR.out).2.1
      have hcell : wr.cell? ⟨gr, 1, none⟩ = some (.func (.func 65) #[] #[.pointer (some ⟨g1, 0, none⟩), .pointer (some ⟨g3, 0, none⟩)]) := (HB.out.cell hgr).trans hc1
      by_cases c_ : e2 = 0
      · subst c_
        go_wp2_with (first | (go_at_call 65; refine (X2.out _ _ _ HB.out HCC.out HCL.out).mono ?_; rintro e w2 ⟨v2, rfl, hR2, hb2⟩; have HR2 := Aside0.mk hR2; have HB2 := Aside0.mk (HB.out.trans hb2); clear hR2 hb2))
        go_roundg 1
        case measure => omega
        case rel => exact .inr (.inr ⟨rfl, rfl, (by first | exact he1 | trivial | rfl), (by first | trivial | rfl), ⟨HR2.out (by first | trivial | rfl)⟩, ⟨HB2.out⟩⟩)
      · have z1 : (e2 == 0) = false := by simpa using c_
        have z2 : (e2 != 0) = true := by simpa using c_
        go_wp2_with (first | (go_at_call 65; refine (X2.out _ _ _ HB.out HCC.out HCL.out).mono ?_; rintro e w2 ⟨v2, rfl, hR2, hb2⟩; have HR2 := Aside0.mk hR2; have HB2 := Aside0.mk (HB.out.trans hb2); clear hR2 hb2) | (go_at_call 88; refine (XD.out _ HB2.out).mono ?_; rintro e wd ⟨vd, rfl, hRd, hbd⟩; have HRd := Aside0.mk (Kd.R_lower hRd (HB2.out).size); have HBd := Aside0.mk ((HB2.out).trans (hbd.mono (HB2.out).size)); clear hRd hbd))
        go_ret2
        exact ⟨_, rfl, by skip; exact HRd.out, HBd.out⟩
    · obtain ⟨hk, hv, he1, he2, HR, HB⟩ := hrel
      subst hk
      subst hv
      subst he1
      subst he2
      go_wp2
      go_ret2
      exact ⟨_, rfl, HR.out, HB.out⟩
set_option maxHeartbeats 8000000 in
set_option maxRecDepth 100000 in
theorem all_mint_calls (A0 : Option Addr) (c0 gr g1 g2 g3 : Nat) (l0 r1 r2 : List S56) (e1 e2 : Int) (w : World) (hgr : gr < w.heap.size) (hc0 : w.cell? ⟨gr, 0, none⟩ = some (.func (.func 67) #[] #[.pointer (some ⟨g1, 0, none⟩), .pointer (some ⟨g3, 0, none⟩)])) (hc1 : w.cell? ⟨gr, 1, none⟩ = some (.func (.func 69) #[] #[.pointer (some ⟨g1, 0, none⟩), .pointer (some ⟨g2, 0, none⟩), .pointer (some ⟨g3, 0, none⟩)]))
    (XD : Aside0 (∀ W, Below w.heap.size w W → Calls Tryz.prog 88 #[.slice A0 l0.length c0, .string ⟨#[]⟩] W fun e w' => ∃ v, e = .returned (.tuple #[v, .int .i64 5]) ∧ Kd.R k56 56 w' W.heap.size (fun _ => True) v l0 ∧ Below W.heap.size W w'))
    (X1 : Aside0 (∀ (W : World) (A : Option Addr) (c : Nat), Below w.heap.size w W → Kd.C k56 W A l0.length l0 → l0.length ≤ c → Calls Tryz.prog 67 #[.slice A l0.length c, .pointer (some ⟨g1, 0, none⟩), .pointer (some ⟨g3, 0, none⟩)] W fun e w' => ∃ v, e = .returned (.tuple #[v, .int .i64 e1]) ∧ (e1 = 0 → Kd.R k56 56 w' w.heap.size (fun _ => True) v r1) ∧ Below w.heap.size W w'))
    (X2 : Aside0 (∀ (W : World) (A : Option Addr) (c : Nat), Below w.heap.size w W → Kd.C k56 W A r1.length r1 → r1.length ≤ c → Calls Tryz.prog 69 #[.slice A r1.length c, .pointer (some ⟨g1, 0, none⟩), .pointer (some ⟨g2, 0, none⟩), .pointer (some ⟨g3, 0, none⟩)] W fun e w' => ∃ v, e = .returned (.tuple #[v, .int .i64 e2]) ∧ (e2 = 0 → Kd.R k56 56 w' w.heap.size (fun _ => True) v r2) ∧ Below w.heap.size W w')) :
    Calls Tryz.prog 62 #[.slice A0 l0.length c0, .slice (some ⟨gr, 0, none⟩) 2 2] w fun e w' => ∃ v, e = .returned (.tuple #[v, .int .i64 (if e1 = 0 then (if e2 = 0 then 0 else e2) else e1)]) ∧ Kd.R k56 56 w' w.heap.size (fun _ => True) v (if e1 = 0 then (if e2 = 0 then r2 else l0) else l0) ∧ Below w.heap.size w w' := by
  have HBr := Aside0.mk (Below.refl w.heap.size w)
  go_enter Tryz.func62, Tryz.ntmps62
  go_wp2_with (first | (go_at_call 88; refine (XD.out _ HBr.out).mono ?_; rintro e wd ⟨vd, rfl, hRd, hbd⟩; have HRd := Aside0.mk (Kd.R_lower hRd (HBr.out).size); have HBd := Aside0.mk ((HBr.out).trans (hbd.mono (HBr.out).size)); clear hRd hbd))
  go_loopg [6, 21] 3 (fun gk v6 v21 w' => (gk = 3 ∧ v21 = .int .i64 0 ∧ Aside0 (Kd.R k56 56 w' w.heap.size (fun _ => True) v6 l0) ∧ Aside0 (Below w.heap.size w w')) ∨ (gk = 2 ∧ v21 = .int .i64 1 ∧ e1 = 0 ∧ Aside0 (Kd.R k56 56 w' w.heap.size (fun _ => True) v6 r1) ∧ Aside0 (Below w.heap.size w w')) ∨ (gk = 1 ∧ v21 = .int .i64 2 ∧ e1 = 0 ∧ e2 = 0 ∧ Aside0 (Kd.R k56 56 w' w.heap.size (fun _ => True) v6 r2) ∧ Aside0 (Below w.heap.size w w')))
  case atStart => exact .inl ⟨rfl, rfl, ⟨HRd.out⟩, ⟨HBd.out⟩⟩
  case round =>
    rcases hrel with hrel | hrel | hrel
    · obtain ⟨hk, hv, HR, HB⟩ := hrel
      subst hk
      subst hv
      obtain ⟨Ao, co, eo⟩ := Kd.R_slice HR.out
      subst eo
      have HCC := Aside0.mk (Kd.R_reads' HR.out).2.2
      have HCL := Aside0.mk (Kd.R_reads' HR.out).2.1
      have hcell : wr.cell? ⟨gr, 0, none⟩ = some (.func (.func 67) #[] #[.pointer (some ⟨g1, 0, none⟩), .pointer (some ⟨g3, 0, none⟩)]) := (HB.out.cell hgr).trans hc0
      by_cases c_ : e1 = 0
      · subst c_
        go_wp2_with (first | (go_at_call 67; refine (X1.out _ _ _ HB.out HCC.out HCL.out).mono ?_; rintro e w2 ⟨v2, rfl, hR2, hb2⟩; have HR2 := Aside0.mk hR2; have HB2 := Aside0.mk (HB.out.trans hb2); clear hR2 hb2))
        go_roundg 2
        case measure => omega
        case rel => exact .inr (.inl ⟨rfl, rfl, (by first | trivial | rfl), ⟨HR2.out (by first | trivial | rfl)⟩, ⟨HB2.out⟩⟩)
      · have z1 : (e1 == 0) = false := by simpa using c_
        have z2 : (e1 != 0) = true := by simpa using c_
        go_wp2_with (first | (go_at_call 67; refine (X1.out _ _ _ HB.out HCC.out HCL.out).mono ?_; rintro e w2 ⟨v2, rfl, hR2, hb2⟩; have HR2 := Aside0.mk hR2; have HB2 := Aside0.mk (HB.out.trans hb2); clear hR2 hb2) | (go_at_call 88; refine (XD.out _ HB2.out).mono ?_; rintro e wd ⟨vd, rfl, hRd, hbd⟩; have HRd := Aside0.mk (Kd.R_lower hRd (HB2.out).size); have HBd := Aside0.mk ((HB2.out).trans (hbd.mono (HB2.out).size)); clear hRd hbd))
        go_ret2
        exact ⟨_, rfl, by skip; exact HRd.out, HBd.out⟩
    · obtain ⟨hk, hv, he1, HR, HB⟩ := hrel
      subst hk
      subst hv
      obtain ⟨Ao, co, eo⟩ := Kd.R_slice HR.out
      subst eo
      have HCC := Aside0.mk (Kd.R_reads' HR.out).2.2
      have HCL := Aside0.mk (Kd.R_reads' HR.out).2.1
      have hcell : wr.cell? ⟨gr, 1, none⟩ = some (.func (.func 69) #[] #[.pointer (some ⟨g1, 0, none⟩), .pointer (some ⟨g2, 0, none⟩), .pointer (some ⟨g3, 0, none⟩)]) := (HB.out.cell hgr).trans hc1
      by_cases c_ : e2 = 0
      · subst c_
        go_wp2_with (first | (go_at_call 69; refine (X2.out _ _ _ HB.out HCC.out HCL.out).mono ?_; rintro e w2 ⟨v2, rfl, hR2, hb2⟩; have HR2 := Aside0.mk hR2; have HB2 := Aside0.mk (HB.out.trans hb2); clear hR2 hb2))
        go_roundg 1
        case measure => omega
        case rel => exact .inr (.inr ⟨rfl, rfl, (by first | exact he1 | trivial | rfl), (by first | trivial | rfl), ⟨HR2.out (by first | trivial | rfl)⟩, ⟨HB2.out⟩⟩)
      · have z1 : (e2 == 0) = false := by simpa using c_
        have z2 : (e2 != 0) = true := by simpa using c_
        go_wp2_with (first | (go_at_call 69; refine (X2.out _ _ _ HB.out HCC.out HCL.out).mono ?_; rintro e w2 ⟨v2, rfl, hR2, hb2⟩; have HR2 := Aside0.mk hR2; have HB2 := Aside0.mk (HB.out.trans hb2); clear hR2 hb2) | (go_at_call 88; refine (XD.out _ HB2.out).mono ?_; rintro e wd ⟨vd, rfl, hRd, hbd⟩; have HRd := Aside0.mk (Kd.R_lower hRd (HB2.out).size); have HBd := Aside0.mk ((HB2.out).trans (hbd.mono (HB2.out).size)); clear hRd hbd))
        go_ret2
        exact ⟨_, rfl, by skip; exact HRd.out, HBd.out⟩
    · obtain ⟨hk, hv, he1, he2, HR, HB⟩ := hrel
      subst hk
      subst hv
      subst he1
      subst he2
      go_wp2
      go_ret2
      exact ⟨_, rfl, HR.out, HB.out⟩
set_option maxHeartbeats 8000000 in
set_option maxRecDepth 100000 in
theorem all_move_calls (A0 : Option Addr) (c0 gr g1 g2 g3 g4 : Nat) (l0 r1 r2 : List S56) (e1 e2 : Int) (w : World) (hgr : gr < w.heap.size) (hc0 : w.cell? ⟨gr, 0, none⟩ = some (.func (.func 71) #[] #[.pointer (some ⟨g1, 0, none⟩), .pointer (some ⟨g2, 0, none⟩), .pointer (some ⟨g3, 0, none⟩)])) (hc1 : w.cell? ⟨gr, 1, none⟩ = some (.func (.func 72) #[] #[.pointer (some ⟨g1, 0, none⟩), .pointer (some ⟨g4, 0, none⟩), .pointer (some ⟨g3, 0, none⟩)]))
    (XD : Aside0 (∀ W, Below w.heap.size w W → Calls Tryz.prog 88 #[.slice A0 l0.length c0, .string ⟨#[]⟩] W fun e w' => ∃ v, e = .returned (.tuple #[v, .int .i64 5]) ∧ Kd.R k56 56 w' W.heap.size (fun _ => True) v l0 ∧ Below W.heap.size W w'))
    (X1 : Aside0 (∀ (W : World) (A : Option Addr) (c : Nat), Below w.heap.size w W → Kd.C k56 W A l0.length l0 → l0.length ≤ c → Calls Tryz.prog 71 #[.slice A l0.length c, .pointer (some ⟨g1, 0, none⟩), .pointer (some ⟨g2, 0, none⟩), .pointer (some ⟨g3, 0, none⟩)] W fun e w' => ∃ v, e = .returned (.tuple #[v, .int .i64 e1]) ∧ (e1 = 0 → Kd.R k56 56 w' w.heap.size (fun _ => True) v r1) ∧ Below w.heap.size W w'))
    (X2 : Aside0 (∀ (W : World) (A : Option Addr) (c : Nat), Below w.heap.size w W → Kd.C k56 W A r1.length r1 → r1.length ≤ c → Calls Tryz.prog 72 #[.slice A r1.length c, .pointer (some ⟨g1, 0, none⟩), .pointer (some ⟨g4, 0, none⟩), .pointer (some ⟨g3, 0, none⟩)] W fun e w' => ∃ v, e = .returned (.tuple #[v, .int .i64 e2]) ∧ (e2 = 0 → Kd.R k56 56 w' w.heap.size (fun _ => True) v r2) ∧ Below w.heap.size W w')) :
    Calls Tryz.prog 62 #[.slice A0 l0.length c0, .slice (some ⟨gr, 0, none⟩) 2 2] w fun e w' => ∃ v, e = .returned (.tuple #[v, .int .i64 (if e1 = 0 then (if e2 = 0 then 0 else e2) else e1)]) ∧ Kd.R k56 56 w' w.heap.size (fun _ => True) v (if e1 = 0 then (if e2 = 0 then r2 else l0) else l0) ∧ Below w.heap.size w w' := by
  have HBr := Aside0.mk (Below.refl w.heap.size w)
  go_enter Tryz.func62, Tryz.ntmps62
  go_wp2_with (first | (go_at_call 88; refine (XD.out _ HBr.out).mono ?_; rintro e wd ⟨vd, rfl, hRd, hbd⟩; have HRd := Aside0.mk (Kd.R_lower hRd (HBr.out).size); have HBd := Aside0.mk ((HBr.out).trans (hbd.mono (HBr.out).size)); clear hRd hbd))
  go_loopg [6, 21] 3 (fun gk v6 v21 w' => (gk = 3 ∧ v21 = .int .i64 0 ∧ Aside0 (Kd.R k56 56 w' w.heap.size (fun _ => True) v6 l0) ∧ Aside0 (Below w.heap.size w w')) ∨ (gk = 2 ∧ v21 = .int .i64 1 ∧ e1 = 0 ∧ Aside0 (Kd.R k56 56 w' w.heap.size (fun _ => True) v6 r1) ∧ Aside0 (Below w.heap.size w w')) ∨ (gk = 1 ∧ v21 = .int .i64 2 ∧ e1 = 0 ∧ e2 = 0 ∧ Aside0 (Kd.R k56 56 w' w.heap.size (fun _ => True) v6 r2) ∧ Aside0 (Below w.heap.size w w')))
  case atStart => exact .inl ⟨rfl, rfl, ⟨HRd.out⟩, ⟨HBd.out⟩⟩
  case round =>
    rcases hrel with hrel | hrel | hrel
    · obtain ⟨hk, hv, HR, HB⟩ := hrel
      subst hk
      subst hv
      obtain ⟨Ao, co, eo⟩ := Kd.R_slice HR.out
      subst eo
      have HCC := Aside0.mk (Kd.R_reads' HR.out).2.2
      have HCL := Aside0.mk (Kd.R_reads' HR.out).2.1
      have hcell : wr.cell? ⟨gr, 0, none⟩ = some (.func (.func 71) #[] #[.pointer (some ⟨g1, 0, none⟩), .pointer (some ⟨g2, 0, none⟩), .pointer (some ⟨g3, 0, none⟩)]) := (HB.out.cell hgr).trans hc0
      by_cases c_ : e1 = 0
      · subst c_
        go_wp2_with (first | (go_at_call 71; refine (X1.out _ _ _ HB.out HCC.out HCL.out).mono ?_; rintro e w2 ⟨v2, rfl, hR2, hb2⟩; have HR2 := Aside0.mk hR2; have HB2 := Aside0.mk (HB.out.trans hb2); clear hR2 hb2))
        go_roundg 2
        case measure => omega
        case rel => exact .inr (.inl ⟨rfl, rfl, (by first | trivial | rfl), ⟨HR2.out (by first | trivial | rfl)⟩, ⟨HB2.out⟩⟩)
      · have z1 : (e1 == 0) = false := by simpa using c_
        have z2 : (e1 != 0) = true := by simpa using c_
        go_wp2_with (first | (go_at_call 71; refine (X1.out _ _ _ HB.out HCC.out HCL.out).mono ?_; rintro e w2 ⟨v2, rfl, hR2, hb2⟩; have HR2 := Aside0.mk hR2; have HB2 := Aside0.mk (HB.out.trans hb2); clear hR2 hb2) | (go_at_call 88; refine (XD.out _ HB2.out).mono ?_; rintro e wd ⟨vd, rfl, hRd, hbd⟩; have HRd := Aside0.mk (Kd.R_lower hRd (HB2.out).size); have HBd := Aside0.mk ((HB2.out).trans (hbd.mono (HB2.out).size)); clear hRd hbd))
        go_ret2
        exact ⟨_, rfl, by skip; exact HRd.out, HBd.out⟩
    · obtain ⟨hk, hv, he1, HR, HB⟩ := hrel
      subst hk
      subst hv
      obtain ⟨Ao, co, eo⟩ := Kd.R_slice HR.out
      subst eo
      have HCC := Aside0.mk (Kd.R_reads' HR.out).2.2
      have HCL := Aside0.mk (Kd.R_reads' HR.out).2.1
      have hcell : wr.cell? ⟨gr, 1, none⟩ = some (.func (.func 72) #[] #[.pointer (some ⟨g1, 0, none⟩), .pointer (some ⟨g4, 0, none⟩), .pointer (some ⟨g3, 0, none⟩)]) := (HB.out.cell hgr).trans hc1
      by_cases c_ : e2 = 0
      · subst c_
        go_wp2_with (first | (go_at_call 72; refine (X2.out _ _ _ HB.out HCC.out HCL.out).mono ?_; rintro e w2 ⟨v2, rfl, hR2, hb2⟩; have HR2 := Aside0.mk hR2; have HB2 := Aside0.mk (HB.out.trans hb2); clear hR2 hb2))
        go_roundg 1
        case measure => omega
        case rel => exact .inr (.inr ⟨rfl, rfl, (by first | exact he1 | trivial | rfl), (by first | trivial | rfl), ⟨HR2.out (by first | trivial | rfl)⟩, ⟨HB2.out⟩⟩)
      · have z1 : (e2 == 0) = false := by simpa using c_
        have z2 : (e2 != 0) = true := by simpa using c_
        go_wp2_with (first | (go_at_call 72; refine (X2.out _ _ _ HB.out HCC.out HCL.out).mono ?_; rintro e w2 ⟨v2, rfl, hR2, hb2⟩; have HR2 := Aside0.mk hR2; have HB2 := Aside0.mk (HB.out.trans hb2); clear hR2 hb2) | (go_at_call 88; refine (XD.out _ HB2.out).mono ?_; rintro e wd ⟨vd, rfl, hRd, hbd⟩; have HRd := Aside0.mk (Kd.R_lower hRd (HB2.out).size); have HBd := Aside0.mk ((HB2.out).trans (hbd.mono (HB2.out).size)); clear hRd hbd))
        go_ret2
        exact ⟨_, rfl, by skip; exact HRd.out, HBd.out⟩
    · obtain ⟨hk, hv, he1, he2, HR, HB⟩ := hrel
      subst hk
      subst hv
      subst he1
      subst he2
      go_wp2
      go_ret2
      exact ⟨_, rfl, HR.out, HB.out⟩
end Go.Proofs.YtpkfdjlmflmilaaGreatDoor.Q
end
section
namespace Go.Proofs.YtpkfdjlmflmilaaGreatDoor.Q
open Go.RowKit Go.Proofs.YtpkfdjlmflmilaaGreatDoorW.PrintWords Go.Proofs.YtpkfdjlmflmilaaGreatDoorW.PrintLast Go.Proofs.YtpkfdjlmflmilaaGreatDoorW.PrintMore Go.Proofs.YtpkfdjlmflmilaaGreatDoor.Pure
set_option linter.unusedVariables false
set_option linter.unusedSimpArgs false
theorem ys2 (d : ByteArray) : ((⟨#[98, 47]⟩ : ByteArray) ++ d).size = 2 + d.size := by rw [ByteArray.size_append]; rfl
theorem ys3 (d : ByteArray) : (((⟨#[98, 47]⟩ : ByteArray) ++ d) ++ (⟨#[47]⟩ : ByteArray)).size = 3 + d.size := by rw [ByteArray.size_append, ys2, show (⟨#[47]⟩ : ByteArray).size = 1 from rfl]; omega
theorem impl_bkeyY (a d : ByteArray) (ha : a.size ≤ 65536) (hd : d.size ≤ 65536) : impl_balanceKey.f d a = some (bKey a d) := by
  unfold impl_balanceKey.f bKey
  rw [ys2, ys3, if_pos (by omega), if_pos (by omega), if_pos (by omega)]
theorem impl_skeyY (d : ByteArray) (hd : d.size ≤ 65536) : impl_supplyKey.f d = some (sKey d) := by
  unfold impl_supplyKey.f sKey
  rw [if_pos (by omega)]
/-- A change by fewer, at any row that reads so, in any world behind. -/
theorem fewer_at {w W W' : World} {A : Option Addr} {c : Nat} {l : List S56} (key : ByteArray) (n : Int) (hb : Below w.heap.size w W) (hC : Kd.C k56 W A l.length l) (hc : l.length ≤ c) (htab : Tb.TB w) (hl : l.length ≤ 5000) (hv : okV l) (g0 : 1 ≤ n) (g1 : n ≤ 1000000000000000000) (hb2 : Below W.heap.size W W') :
    Calls Tryz.prog 64 #[.slice A l.length c, .string key, .int .i64 n] W' fun e w' => ∃ v, e = .returned (.tuple #[v, .int .i64 (addN l key (-n)).2]) ∧ ((addN l key (-n)).2 = 0 → Kd.R k56 56 w' w.heap.size (fun _ => True) v (addN l key (-n)).1) ∧ Below W'.heap.size W' w' := by
  have hbb : Below w.heap.size w W' := hb.trans (hb2.mono hb.size)
  refine (impl_fewer_calls A c l key n W' (Kd.C_below hC hb2) hc (Tb.TB.below htab hbb (Nat.le_refl _)) hl hv g0 g1).mono ?_
  rintro e w' ⟨v, rfl, hR, hB⟩
  exact ⟨v, rfl, fun h => Kd.R_lower (hR h) hbb.size, hB⟩
theorem more_at {w W W' : World} {A : Option Addr} {c : Nat} {l : List S56} (key : ByteArray) (n : Int) (hb : Below w.heap.size w W) (hC : Kd.C k56 W A l.length l) (hc : l.length ≤ c) (htab : Tb.TB w) (hl : l.length ≤ 5000) (hv : okV l) (g0 : 1 ≤ n) (g1 : n ≤ 1000000000000000000) (hb2 : Below W.heap.size W W') :
    Calls Tryz.prog 68 #[.slice A l.length c, .string key, .int .i64 n] W' fun e w' => ∃ v, e = .returned (.tuple #[v, .int .i64 (addN l key n).2]) ∧ ((addN l key n).2 = 0 → Kd.R k56 56 w' w.heap.size (fun _ => True) v (addN l key n).1) ∧ Below W'.heap.size W' w' := by
  have hbb : Below w.heap.size w W' := hb.trans (hb2.mono hb.size)
  refine (impl_more_calls A c l key n W' (Kd.C_below hC hb2) hc (Tb.TB.below htab hbb (Nat.le_refl _)) hl hv g0 g1).mono ?_
  rintro e w' ⟨v, rfl, hR, hB⟩
  exact ⟨v, rfl, fun h => Kd.R_lower (hR h) hbb.size, hB⟩
theorem alloc_lt (w : World) (o : Obj) : w.heap.size < (w.alloc o).heap.size := by simp
theorem cell_keep {w W : World} {g : Nat} {v : Value} (h : w.cell? ⟨g, 0, none⟩ = some v) (hb : Below w.heap.size w W) : W.cell? ⟨g, 0, none⟩ = some v := (hb.cell (World.block_lt_of_cell? _ _ h)).trans h
set_option maxHeartbeats 8000000 in
set_option maxRecDepth 100000 in
/-- The two changes of burn, done by all, in the world where their row lies. -/
theorem all_burn (A0 : Option Addr) (c0 gr g1 g2 g3 : Nat) (l0 : List S56) (d a : ByteArray) (n : Int) (w : World) (hr0 : Kd.C k56 w A0 l0.length l0) (hc0 : l0.length ≤ c0) (htab : Tb.TB w) (hrt : rightB l0 = true) (ha : a.size ≤ 65536) (hd : d.size ≤ 65536) (h0 : 1 ≤ n) (h1 : n ≤ 1000000000000000000)
    (b1 : w.cell? ⟨g1, 0, none⟩ = some (.string d)) (b2 : w.cell? ⟨g2, 0, none⟩ = some (.string a)) (b3 : w.cell? ⟨g3, 0, none⟩ = some (.int .i64 n)) (hgr : gr < w.heap.size)
    (hx0 : w.cell? ⟨gr, 0, none⟩ = some (.func (.func 63) #[] #[.pointer (some ⟨g1, 0, none⟩), .pointer (some ⟨g2, 0, none⟩), .pointer (some ⟨g3, 0, none⟩)])) (hx1 : w.cell? ⟨gr, 1, none⟩ = some (.func (.func 65) #[] #[.pointer (some ⟨g1, 0, none⟩), .pointer (some ⟨g3, 0, none⟩)])) :
    Calls Tryz.prog 62 #[.slice A0 l0.length c0, .slice (some ⟨gr, 0, none⟩) 2 2] w fun e w' => ∃ v, e = .returned (.tuple #[v, .int .i64 (twoN l0 (bKey a d) (-n) (sKey d) (-n)).2]) ∧ Kd.R k56 56 w' w.heap.size (fun _ => True) v (twoN l0 (bKey a d) (-n) (sKey d) (-n)).1 ∧ Below w.heap.size w w' := by
  have hlr := right_len hrt
  have hokv := okV_right hrt
  have hl2 := add_len l0 (bKey a d) (-n)
  have ho2 := add_ok hokv (bKey a d) (-n)
  have hde := drop_empty hrt
  have HA := all_burn_calls A0 c0 gr g1 g2 g3 l0 (addN l0 (bKey a d) (-n)).1 (addN (addN l0 (bKey a d) (-n)).1 (sKey d) (-n)).1 (addN l0 (bKey a d) (-n)).2 (addN (addN l0 (bKey a d) (-n)).1 (sKey d) (-n)).2 w hgr hx0 hx1
    ⟨fun W hb => (impl_drop.calls A0 c0 l0 ⟨#[]⟩ l0 5 W (Kd.C_below hr0 hb) hc0 (by unfold impl_drop.f; rw [if_pos (by omega), hde])).mono fun e w' h => h⟩
    ⟨fun W A c hb hC hc => Calls.mono (zburn_1_1_calls (.slice A l0.length c) g1 g2 g3 d a (bKey a d) n _ _ W (cell_keep b1 hb) (cell_keep b2 hb) (cell_keep b3 hb) ⟨fun W => impl_balanceKey.calls d a _ W (impl_bkeyY a d ha hd)⟩ ⟨fun W' hb2 => fewer_at (bKey a d) n hb hC hc htab (by omega) hokv h0 h1 hb2⟩) (fun e w' ⟨v, he, hR, hB⟩ => ⟨v, he, hR, hB.mono hb.size⟩)⟩
    ⟨fun W A c hb hC hc => Calls.mono (zburn_1_2_calls (.slice A (addN l0 (bKey a d) (-n)).1.length c) g1 g3 d (sKey d) n _ _ W (cell_keep b1 hb) (cell_keep b3 hb) ⟨fun W => impl_supplyKey.calls d _ W (impl_skeyY d hd)⟩ ⟨fun W' hb2 => fewer_at (sKey d) n hb hC hc htab (by omega) ho2 h0 h1 hb2⟩) (fun e w' ⟨v, he, hR, hB⟩ => ⟨v, he, hR, hB.mono hb.size⟩)⟩
  refine HA.mono ?_
  rintro e w' ⟨v, rfl, hR, hB⟩
  refine ⟨v, ?_, ?_, hB⟩
  · unfold twoN
    by_cases c1 : (addN l0 (bKey a d) (-n)).2 = 0
    · rw [if_pos c1, if_pos c1]
      by_cases c2 : (addN (addN l0 (bKey a d) (-n)).1 (sKey d) (-n)).2 = 0
      · rw [if_pos c2, if_pos c2]
      · rw [if_neg c2, if_neg c2]
    · rw [if_neg c1, if_neg c1]
  · unfold twoN
    by_cases c1 : (addN l0 (bKey a d) (-n)).2 = 0
    · rw [if_pos c1] at hR ⊢
      by_cases c2 : (addN (addN l0 (bKey a d) (-n)).1 (sKey d) (-n)).2 = 0
      · rw [if_pos c2] at hR ⊢
        exact hR
      · rw [if_neg c2] at hR ⊢
        exact hR
    · rw [if_neg c1] at hR ⊢
      exact hR
set_option maxHeartbeats 8000000 in
set_option maxRecDepth 100000 in
/-- burn's own closure. -/
theorem burn1_calls (A0 : Option Addr) (c0 g1 g2 g3 : Nat) (l0 : List S56) (d a : ByteArray) (n : Int) (w : World) (hr0 : Kd.C k56 w A0 l0.length l0) (hc0 : l0.length ≤ c0) (htab : Tb.TB w) (hrt : rightB l0 = true) (ha : a.size ≤ 65536) (hd : d.size ≤ 65536) (h0 : 1 ≤ n) (h1 : n ≤ 1000000000000000000)
    (b1 : w.cell? ⟨g1, 0, none⟩ = some (.string d)) (b2 : w.cell? ⟨g2, 0, none⟩ = some (.string a)) (b3 : w.cell? ⟨g3, 0, none⟩ = some (.int .i64 n)) :
    Calls Tryz.prog 61 #[.slice A0 l0.length c0, .pointer (some ⟨g1, 0, none⟩), .pointer (some ⟨g2, 0, none⟩), .pointer (some ⟨g3, 0, none⟩)] w fun e w' => ∃ v, e = .returned (.tuple #[v, .int .i64 (twoN l0 (bKey a d) (-n) (sKey d) (-n)).2]) ∧ Kd.R k56 56 w' w.heap.size (fun _ => True) v (twoN l0 (bKey a d) (-n) (sKey d) (-n)).1 ∧ Below w.heap.size w w' := by
  have HX := Aside0.mk (fun (W : World) (gr : Nat) (hb : Below w.heap.size w W) => all_burn A0 c0 gr g1 g2 g3 l0 d a n W (Kd.C_below hr0 hb) hc0 (Tb.TB.below htab hb (Nat.le_refl _)) hrt ha hd h0 h1 (cell_keep b1 hb) (cell_keep b2 hb) (cell_keep b3 hb))
  have HBr := Aside0.mk (Below.refl w.heap.size w)
  clear hr0 hc0 htab hrt ha hd h0 h1 b1 b2 b3
  generalize (twoN l0 (bKey a d) (-n) (sKey d) (-n)).1 = rr at *
  generalize (twoN l0 (bKey a d) (-n) (sKey d) (-n)).2 = ee at *
  generalize l0.length = len at *
  go_enter Tryz.func61, Tryz.ntmps61
  go_wp2_with (go_at_call 62; (refine (HX.out _ w.heap.size (below_alloc HBr.out _) (alloc_lt _ _) ((blk_cell (heap_alloc_new w _) 0).trans rfl) ((blk_cell (heap_alloc_new w _) 1).trans rfl)).mono ?_; rintro e w2 ⟨v2, rfl, hR2, hb2⟩; have HR2 := Aside0.mk (Kd.R_lower hR2 (below_alloc HBr.out _).size); have HB2 := Aside0.mk ((below_alloc HBr.out _).trans (hb2.mono (below_alloc HBr.out _).size)); clear hR2 hb2))
  go_ret2
  exact ⟨_, rfl, HR2.out, HB2.out⟩
end Go.Proofs.YtpkfdjlmflmilaaGreatDoor.Q
end
section
namespace Go.Proofs.YtpkfdjlmflmilaaGreatDoor.Q
open Go.RowKit Go.Proofs.YtpkfdjlmflmilaaGreatDoorW.PrintWords Go.Proofs.YtpkfdjlmflmilaaGreatDoorW.PrintLast Go.Proofs.YtpkfdjlmflmilaaGreatDoorW.PrintMore Go.Proofs.YtpkfdjlmflmilaaGreatDoor.Pure
set_option linter.unusedVariables false
set_option linter.unusedSimpArgs false
theorem c_new (w : World) (v : Value) (t : TypeId) : (w.alloc (Obj.cells #[v] t)).cell? ⟨w.heap.size, 0, none⟩ = some v := (blk_cell (heap_alloc_new w _) 0).trans rfl
theorem size_one (w : World) (o : Obj) : (w.alloc o).heap.size = w.heap.size + 1 := by simp
theorem R_nil (W : World) (b : Nat) : Kd.R k56 56 W b (fun _ => True) (.slice none 0 0) ([] : List S56) := ⟨fun _ _ => trivial, [], ⟨rfl, .inl ⟨rfl, rfl⟩⟩, Reps.none _ _⟩
set_option maxHeartbeats 8000000 in
set_option maxRecDepth 100000 in
theorem burn_calls (a d : ByteArray) (n : Int) (w : World) :
    Calls Tryz.prog 35 #[.string a, .string d, .int .i64 n] w fun e w' => ∃ g1 g2 g3, e = .returned (.func (.func 61) #[] #[.pointer (some ⟨g1, 0, none⟩), .pointer (some ⟨g2, 0, none⟩), .pointer (some ⟨g3, 0, none⟩)]) ∧
      w'.cell? ⟨g1, 0, none⟩ = some (.string d) ∧ w'.cell? ⟨g2, 0, none⟩ = some (.string a) ∧ w'.cell? ⟨g3, 0, none⟩ = some (.int .i64 n) ∧ Below w.heap.size w w' := by
  go_enter Tryz.func35, Tryz.ntmps35
  go_wp2
  go_ret
  refine ⟨_, _, _, rfl, ?_, ?_, ?_, ?_⟩
  · have h := c_new (w.alloc (Obj.cells #[Value.string a] 9)) (Value.string d) 9
    rw [size_one] at h
    exact cell_keep h ((Below.refl _ _).alloc (Nat.le_refl _) _)
  · exact cell_keep (cell_keep (c_new w (Value.string a) 9) ((Below.refl _ _).alloc (Nat.le_refl _) _)) ((Below.refl _ _).alloc (Nat.le_refl _) _)
  · have h := c_new ((w.alloc (Obj.cells #[Value.string a] 9)).alloc (Obj.cells #[Value.string d] 9)) (Value.int .i64 n) 3
    rw [size_one, size_one] at h
    exact h
  · exact below_alloc (below_alloc (below_alloc (Below.refl _ _) _) _) _
def impl_Burn.f (l0 : List S56) (a1 a2 : ByteArray) (a3 : Int) : Option (List S56 × Int) := some (bankN l0 [a1, a2] a3 (bKey a1 a2) (-a3) (sKey a2) (-a3))
set_option maxHeartbeats 8000000 in
set_option maxRecDepth 100000 in
theorem impl_Burn.calls (A0 : Option Addr) (c0 : Nat) (l0 : List S56) (a1 a2 : ByteArray) (a3 : Int) (r1 : List S56) (r2 : Int) (w : World) (hr0 : Kd.C k56 w A0 l0.length l0) (hc0 : l0.length ≤ c0) (htab : Tb.TB w) (h : impl_Burn.f l0 a1 a2 a3 = some (r1, r2)) :
    Calls Tryz.prog 10 #[.slice A0 l0.length c0, .string a1, .string a2, .int .i64 a3] w fun e w' => ∃ v0_ : Value, e = .returned (.tuple #[v0_, .int .i64 r2]) ∧ Kd.R k56 56 w' w.heap.size (fun _ => True) v0_ r1 ∧ Below w.heap.size w w' := by
  unfold impl_Burn.f at h
  injection h with h
  unfold bankN at h
  have HB := Aside0.mk (Below.refl w.heap.size w)
  have HC := Aside0.mk hr0
  have HK := Aside0.mk hc0
  have HBK := Aside0.mk (impl_bc l0 a3 [a1, a2] (by simp) 140000 (by omega))
  obtain ⟨y1, hy1⟩ : ∃ y_ : List ByteArray, y_ = [a1, a2] := ⟨_, rfl⟩
  have HPR : bcN l0 a3 y1 = 0 → rightB l0 = true ∧ a1.size ≤ 65536 ∧ a2.size ≤ 65536 ∧ 1 ≤ a3 ∧ a3 ≤ 1000000000000000000 := by
    intro hz
    rw [hy1] at hz
    unfold bcN at hz
    split at hz
    · exact absurd hz (by decide)
    · rename_i hlong
      simp only [List.any_cons, List.any_nil, Bool.or_false, Bool.or_eq_true, decide_eq_true_eq] at hlong
      split at hz
      · rename_i hbk
        split at hz
        · rename_i hn
          exact ⟨(bk_zero hbk).1, by omega, by omega, hn.1, hn.2⟩
        · exact absurd hz (by decide)
      · rename_i hbk
        exact absurd hz hbk
  rw [← hy1] at HBK h
  have Ny1 := Aside0.mk hy1
  clear hy1
  generalize bcN l0 a3 y1 = c at *
  by_cases hz : c = 0
  · subst hz
    obtain ⟨hrt, hs1, hs2, hn1, hn2⟩ := HPR rfl
    rw [if_pos rfl] at h
    have e1 : (twoN l0 (bKey a1 a2) (-a3) (sKey a2) (-a3)).1 = r1 := congrArg Prod.fst h
    have e2 : (twoN l0 (bKey a1 a2) (-a3) (sKey a2) (-a3)).2 = r2 := congrArg Prod.snd h
    have HX := Aside0.mk (fun (W : World) (g1 g2 g3 : Nat) (hb : Below w.heap.size w W) => burn1_calls A0 c0 g1 g2 g3 l0 a2 a1 a3 W (Kd.C_below hr0 hb) hc0 (Tb.TB.below htab hb (Nat.le_refl _)) hrt hs1 hs2 hn1 hn2)
    rw [e1, e2] at HX
    clear h e1 e2 hn1 hn2 hrt hs1 hs2 HPR hr0 hc0 htab
    go_enter Tryz.func10, Tryz.ntmps10
    go_wp2_with (first | ((with_reducible refine gate_dst (N := 15) rfl ?_); (try (refine gate_guard (by rfl) ?_; dsimp only)); refine Kd.R_lit Kd.string _ 9 ?hg (N := 15) ?hd (xs := ([a1, a2] : List ByteArray)) (inner := [.string a1, .string a2]) (ok := fun _ => True) (okp := fun _ => True) ?hr ?hp (fun _ hk => hk) trivial (Below.refl _ _) (Nat.le_refl _) (by simp) ?_; (case hd => rfl); (case hg => rfl); (case hr => first | (go_simp; done) | (go_simp; rfl)); (case hp => exact (Reps.one (show Kd.M Kd.string _ _ _ a1 [.string a1] from rfl) (Reps.one (show Kd.M Kd.string _ _ _ a2 [.string a2] from rfl) (Reps.none _ _)))); intro v1 w1 ho hb hg_ hnew_; clear hg_ hnew_; (first | rw [← Ny1.out] at ho | (simp only [Int.reduceToNat] at ho; rw [← Ny1.out] at ho)); have HO1 := Aside0.mk (Kd.R_lower ho (below_size (by repeat (first | (with_reducible first | exact HB.out | apply below_alloc | apply pw_below_drewN | apply below_drew1) | exact HB.out)))); have HB1 := Aside0.mk (below_step (by repeat (first | (with_reducible first | exact HB.out | apply below_alloc | apply pw_below_drewN | apply below_drew1) | exact HB.out)) hb); clear ho hb; obtain ⟨A1, c1, eo1⟩ := Kd.R_slice HO1.out; subst eo1) | (go_at_call 34; refine (impl_bankCode.calls 140000 A0 c0 l0 a3 A1 c1 y1 _ _ (Kd.C_below HC.out HB1.out) HK.out (Kd.R_reads' HO1.out).2.2 (Kd.R_reads' HO1.out).2.1 HBK.out).mono ?_; rintro e w2 ⟨rfl, hb2⟩; have HB2 := Aside0.mk (HB1.out.trans (hb2.mono HB1.out.size)); clear hb2) | (go_at_call 35; refine (burn_calls a1 a2 a3 _).mono ?_; rintro e w3 ⟨g1, g2, g3, rfl, b1, b2, b3, hb3⟩; have HC1 := Aside0.mk b1; have HC2 := Aside0.mk b2; have HC3 := Aside0.mk b3; have HB3 := Aside0.mk (HB2.out.trans (hb3.mono HB2.out.size)); clear b1 b2 b3 hb3) | (go_at_call 61; refine (HX.out _ g1 g2 g3 HB3.out HC1.out HC2.out HC3.out).mono ?_; rintro e w4 ⟨v4, rfl, hR4, hb4⟩; have HR4 := Aside0.mk (Kd.R_lower hR4 HB3.out.size); have HB4 := Aside0.mk (HB3.out.trans (hb4.mono HB3.out.size)); clear hR4 hb4))
    go_ret2
    exact ⟨_, rfl, HR4.out, HB4.out⟩
  · rw [if_neg hz] at h
    have e1 : [] = r1 := congrArg Prod.fst h
    have e2 : c = r2 := congrArg Prod.snd h
    subst e1
    subst e2
    clear h HPR hr0 hc0 htab
    have hz1 : (c == 0) = false := by simpa using hz
    have hz2 : (c != 0) = true := by simpa using hz
    clear hz
    go_enter Tryz.func10, Tryz.ntmps10
    go_wp2_with (first | ((with_reducible refine gate_dst (N := 15) rfl ?_); (try (refine gate_guard (by rfl) ?_; dsimp only)); refine Kd.R_lit Kd.string _ 9 ?hg (N := 15) ?hd (xs := ([a1, a2] : List ByteArray)) (inner := [.string a1, .string a2]) (ok := fun _ => True) (okp := fun _ => True) ?hr ?hp (fun _ hk => hk) trivial (Below.refl _ _) (Nat.le_refl _) (by simp) ?_; (case hd => rfl); (case hg => rfl); (case hr => first | (go_simp; done) | (go_simp; rfl)); (case hp => exact (Reps.one (show Kd.M Kd.string _ _ _ a1 [.string a1] from rfl) (Reps.one (show Kd.M Kd.string _ _ _ a2 [.string a2] from rfl) (Reps.none _ _)))); intro v1 w1 ho hb hg_ hnew_; clear hg_ hnew_; (first | rw [← Ny1.out] at ho | (simp only [Int.reduceToNat] at ho; rw [← Ny1.out] at ho)); have HO1 := Aside0.mk (Kd.R_lower ho (below_size (by repeat (first | (with_reducible first | exact HB.out | apply below_alloc | apply pw_below_drewN | apply below_drew1) | exact HB.out)))); have HB1 := Aside0.mk (below_step (by repeat (first | (with_reducible first | exact HB.out | apply below_alloc | apply pw_below_drewN | apply below_drew1) | exact HB.out)) hb); clear ho hb; obtain ⟨A1, c1, eo1⟩ := Kd.R_slice HO1.out; subst eo1) | (go_at_call 34; refine (impl_bankCode.calls 140000 A0 c0 l0 a3 A1 c1 y1 _ _ (Kd.C_below HC.out HB1.out) HK.out (Kd.R_reads' HO1.out).2.2 (Kd.R_reads' HO1.out).2.1 HBK.out).mono ?_; rintro e w2 ⟨rfl, hb2⟩; have HB2 := Aside0.mk (HB1.out.trans (hb2.mono HB1.out.size)); clear hb2))
    go_ret2
    exact ⟨_, rfl, R_nil w2 _, HB2.out⟩
end Go.Proofs.YtpkfdjlmflmilaaGreatDoor.Q
end
