/- The contract of the law FnExactFieldsBytes, walked call by call. -/
import Derived.Test.YtfgnhghadghdkaaF1
import Derived.Test.YtfgnhghadghdkaaF2
import Derived.Test.YtfgnhghadghdkaaFE13
import Derived.Test.YtfgnhghadghdkaaFE14
import Derived.Test.YtfgnhghadghdkaaFLb
namespace Go.Proofs.Ytfgnhghadghdkaa.F
open Go.RowKit Go.Proofs.YtfgnhghadghdkaaW.PrintWords Go.Proofs.YtfgnhghadghdkaaW.PrintLast Go.Proofs.YtfgnhghadghdkaaW.PrintMore
set_option linter.unusedVariables false
set_option linter.unusedSimpArgs false
-- EXT loop.example/g00298/laws.FnExactFieldsBytes laws_FnExactFieldsBytes 1 1
def laws_FnExactFieldsBytes.f (k : Nat) (l0 : List ByteArray) : Option Bool :=
  (laws_szStringS.f k l0 1048576).bind fun z => if z < 0 then some true else (laws_toStringS.f k l0).bind fun l1 => (spec_FieldsBytes.f k l0).bind fun p => (impl_FieldsBytes.f k l0).bind fun q => (laws_eqStringS.f k l0 l0).bind fun b => (laws_markStringS.f k l0 1).bind fun m =>
    if p = q ∧ p.1.length ≤ 1073741824 ∧ l1 = l0 ∧ b = true ∧ m.1 = ((1 + l0.length : Nat) : Int) then some true else none
theorem R_toldS {W : World} {b : Nat} {v : Value} {l : List ByteArray} (h : Kd.R Kd.string 9 W b (fun _ => True) v l) : Kd.R Kd.string 9 W b (fun k => b ≤ k ∧ k < W.heap.size) v l :=
  Kd.R_mono (Kd.R_bound h) (fun k hk => ⟨hk.2.1, hk.2.2.1⟩)
set_option maxHeartbeats 16000000 in
set_option maxRecDepth 100000 in
theorem laws_FnExactFieldsBytes.calls (k : Nat) (A0 : Option Addr) (c0 : Nat) (l0 : List ByteArray) (r : Bool) (w : World) (hr0 : Kd.C Kd.string w A0 l0.length l0) (hc0 : l0.length ≤ c0) (h : laws_FnExactFieldsBytes.f k l0 = some r) :
    Calls Try.prog 8 #[.slice A0 l0.length c0] w fun e w' => e = .returned (.bool r) ∧ Below w.heap.size w w' := by
  unfold laws_FnExactFieldsBytes.f at h
  obtain ⟨z, hz, h⟩ := Option.bind_eq_some_iff.1 h
  have HSZ := Aside0.mk (fun (W : World) (hC : Kd.C Kd.string W A0 l0.length l0) => laws_szStringS.calls k A0 c0 l0 1048576 z W hC hc0 hz)
  by_cases hneg : z < 0
  · rw [if_pos hneg] at h
    injection h with h
    subst h
    have HR0 := Aside0.mk hr0
    have hd : decide (z < 0) = true := decide_eq_true hneg
    clear hz hr0 hneg
    generalize l0.length = n at *
    go_enter Try.func8, Try.ntmps8
    go_wp2_with (go_at_call 26; refine (HSZ.out _ (by first | exact HR0.out | exact Kd.C_drewN HR0.out _)).mono ?_; rintro e w1 ⟨rfl, hd1⟩; obtain ⟨⟨nd1, rfl⟩⟩ := hd1)
    go_ret
    exact ⟨rfl, pw_below_drewN (Below.refl _ w) _⟩
  · rw [if_neg hneg] at h
    obtain ⟨l1, ht, h⟩ := Option.bind_eq_some_iff.1 h
    obtain ⟨⟨L, c⟩, hp, h⟩ := Option.bind_eq_some_iff.1 h
    obtain ⟨q, hq, h⟩ := Option.bind_eq_some_iff.1 h
    obtain ⟨b, hb, h⟩ := Option.bind_eq_some_iff.1 h
    obtain ⟨⟨mm, ms⟩, hm, h⟩ := Option.bind_eq_some_iff.1 h
    by_cases hc : (L, c) = q ∧ (L, c).1.length ≤ 1073741824 ∧ l1 = l0 ∧ b = true ∧ (mm, ms).1 = ((1 + l0.length : Nat) : Int)
    · rw [if_pos hc] at h
      injection h with h
      subst h
      obtain ⟨rfl, hlen, rfl, rfl, hmm⟩ := hc
      have hmm' : mm = ((1 + l1.length : Nat) : Int) := hmm
      subst hmm'
      have hlen' : L.length ≤ 1073741824 := hlen
      have hbig0 := hr0.2.1
      have hsm : (((1 + l1.length : Nat) : Int) < 0) = False := by simp; omega
      have hd : decide (z < 0) = false := decide_eq_false hneg
      have HSP := Aside0.mk (fun A cc W (hC : Kd.C Kd.string W A l1.length l1) (hcc : l1.length ≤ cc) => spec_FieldsBytes.calls k A cc l1 L c W hC hcc hp)
      have HIM := Aside0.mk (fun A cc W (hC : Kd.C Kd.string W A l1.length l1) (hcc : l1.length ≤ cc) => impl_FieldsBytes.calls k A cc l1 L c W hC hcc hq)
      have HTO := Aside0.mk (fun W (hC : Kd.C Kd.string W A0 l1.length l1) => laws_toStringS.calls k A0 c0 l1 l1 W hC hc0 ht)
      have HES := Aside0.mk (fun A cc A' cc' W (hC : Kd.C Kd.string W A l1.length l1) (hcc : l1.length ≤ cc) (hC' : Kd.C Kd.string W A' l1.length l1) (hcc' : l1.length ≤ cc') => laws_eqStringS.calls k A cc l1 A' cc' l1 true W hC hcc hC' hcc' hb)
      have HMS := Aside0.mk (fun P0 u wa wb hB ho => laws_markStringS.calls k P0 u l1 1 ((1 + l1.length : Nat) : Int) ms wa wb hB ho hm)
      have HEQ := Aside0.mk (fun A0 c0 A1 c1 W h0 h1 h2 h3 => laws_eqByteS.calls (L.length + 1) A0 c0 L A1 c1 L true W h0 h1 h2 h3 (eqB_refl L hlen'))
      have HMK := Aside0.mk (fun W B v (hm : MB W B v L) => mark_MB W B v L hm hlen')
      have HHE := Aside0.mk (fun (A0 : Option Addr) (c0 : Nat) (W : World) (h0 : Kd.C (Kd.int .u8) W A0 L.length (marked L.length)) (h1 : L.length ≤ c0) => (by
        have z := laws_heldByteS.calls (L.length + 1) A0 c0 (marked L.length) 1 ((1 + L.length : Nat) : Int) W (by rw [marked_len]; exact h0) (by rw [marked_len]; exact h1) (heldB L.length hlen')
        rwa [marked_len] at z : Calls Try.prog 30 #[.slice A0 L.length c0, .int .i64 1] W fun e w' => e = .returned (.int .i64 ((1 + L.length : Nat) : Int)) ∧ Drawn0 W w'))
      have HR0 := Aside0.mk hr0
      clear hz ht hp hq hb hm hlen hmm hneg hr0
      generalize hn : L.length = n at *
      have HN := Aside0.mk hn
      clear hn
      generalize hn2 : l1.length = n2 at *
      have HN2 := Aside0.mk hn2
      clear hn2
      have hbig : (n : Int) ≤ 1073741824 := by omega
      go_enter Try.func8, Try.ntmps8
      go_wp2_with fail
      refine (HSZ.out _ (by first | exact HR0.out | exact Kd.C_drewN HR0.out _)).mono ?_
      rintro e w1 ⟨rfl, hd1⟩
      obtain ⟨⟨nd1, rfl⟩⟩ := hd1
      have BL1 := Aside0.mk (pw_below_drewN (Below.refl w.heap.size w) nd1)
      go_wp2_with fail
      refine (HTO.out _ (Kd.C_below HR0.out BL1.out)).mono ?_
      rintro e w2 ⟨v2, rfl, hR2, hb2⟩
      have BL2 := Aside0.mk (BL1.out.trans (hb2.mono BL1.out.size))
      obtain ⟨A2, c2, rfl, hl2, hC2⟩ := Kd.R_reads hR2
      rw [HN2.out] at hl2 hC2 ⊢
      have HC2 := Aside0.mk hC2
      clear hb2 hR2 hC2
      go_wp2_with fail
      refine (HSP.out A2 c2 _ HC2.out hl2).mono ?_
      rintro e w3 ⟨v3, rfl, hR, hb3⟩
      have BL3 := Aside0.mk (BL2.out.trans (hb3.mono BL2.out.size))
      obtain ⟨A3, c3, rfl, hl3, _⟩ := Kd.R_reads hR
      rw [HN.out] at hl3 hR ⊢
      have HR3 := Aside0.mk (R_told hR)
      clear hb3 hR
      go_wp2_with fail
      refine (HTO.out _ (Kd.C_below HR0.out BL3.out)).mono ?_
      rintro e w4 ⟨v4, rfl, hX4, hb4⟩
      have BL4 := Aside0.mk (BL3.out.trans (hb4.mono BL3.out.size))
      have B34 := Aside0.mk hb4
      obtain ⟨A4, c4, rfl, hl4, hC4⟩ := Kd.R_reads hX4
      rw [HN2.out] at hl4 hC4 hX4 ⊢
      have HX4 := Aside0.mk (R_toldS hX4)
      have HC4 := Aside0.mk hC4
      have HR4 := Aside0.mk (Kd.R_below HR3.out hb4)
      clear hb4 hX4 hC4
      go_wp2_with fail
      refine (HIM.out A4 c4 _ HC4.out hl4).mono ?_
      rintro e w5 ⟨g0, rfl, hM, hb5⟩
      have BL5 := Aside0.mk (BL4.out.trans (hb5.mono BL4.out.size))
      have B35 := Aside0.mk (B34.out.trans (hb5.mono B34.out.size))
      have HR5 := Aside0.mk (Kd.R_below HR4.out hb5)
      have HX5 := Aside0.mk (Kd.R_below HX4.out hb5)
      obtain ⟨A5, c5, rfl, hl5, hC5⟩ := MB_reads hM
      rw [HN.out] at hl5 hC5 hM ⊢
      have HC5 := Aside0.mk hC5
      have HM5 := Aside0.mk hM
      clear hb5 hM hC5
      go_wp2_with fail
      refine (HEQ.out A5 c5 A3 c3 _ HC5.out hl5 (by have z := (Kd.R_reads' HR5.out).2.2; rw [HN.out] at z; exact z) hl3).mono ?_
      rintro e w6 ⟨rfl, ⟨⟨nd6, rfl⟩⟩⟩
      go_wp2_with fail
      refine (HTO.out _ (Kd.C_drewN (Kd.C_below HR0.out BL5.out) _)).mono ?_
      rintro e w7 ⟨v7, rfl, hX7, hb7⟩
      have BL7 := Aside0.mk ((pw_below_drewN BL5.out nd6).trans (hb7.mono BL5.out.size))
      have B37 := Aside0.mk ((pw_below_drewN B35.out nd6).trans (hb7.mono B35.out.size))
      have HR7 := Aside0.mk (Kd.R_below (Kd.R_drewN HR5.out nd6) hb7)
      have HY7 := Aside0.mk (Kd.R_below (Kd.R_drewN HX5.out nd6) hb7)
      have HM7 := Aside0.mk (MB_below (W := w5.drewN nd6) (MB_move HM5.out (fun _ _ => rfl)) hb7)
      obtain ⟨A7, c7, rfl, hl7, hC7⟩ := Kd.R_reads hX7
      rw [HN2.out] at hl7 hC7 ⊢
      have HC7 := Aside0.mk hC7
      clear hb7 hX7 hC7
      go_wp2_with fail
      refine (HES.out A4 c4 A7 c7 _ (by have z := (Kd.R_reads' HY7.out).2.2; rw [HN2.out] at z; exact z) hl4 HC7.out hl7).mono ?_
      rintro e w8 ⟨rfl, ⟨⟨nd8, rfl⟩⟩⟩
      go_wp2_with fail
      refine (HMS.out (fun k => w3.heap.size ≤ k ∧ k < w4.heap.size) (.slice A4 n2 c4) w3 (w7.drewN nd8) (pw_below_drewN B37.out nd8) (Kd.R_drewN HY7.out nd8)).mono ?_
      rintro e w9 ⟨rfl, hX9, hb9, hk9⟩
      have BL9 := Aside0.mk (BL3.out.trans (hb9.mono BL3.out.size))
      have HR9 := Aside0.mk (Kd.R_kept (Kd.R_drewN HR7.out nd8) hk9 (fun k hk hh => by have := hh.1; omega))
      have HM9 : Aside0 (MB w9 w4.heap.size (.slice A5 n c5) L) := ⟨MB_move (W := w7.drewN nd8) (MB_move HM7.out (fun _ _ => rfl)) (fun k hk => hk9.2 k (MB_block HM7.out k hk).2 (fun hh => by have := (MB_block HM7.out k hk).1; have := hh.2; omega))⟩
      have S34 := Aside0.mk B34.out.size
      clear hX9 hb9 hk9
      go_wp2_with fail
      refine (HEQ.out A5 c5 A3 c3 _ (by obtain ⟨A9, c9, e9, _, hC9⟩ := MB_reads HM9.out; rw [HN.out] at e9 hC9; injection e9 with ea _ _; rw [ea]; exact hC9) hl5 (by have z := (Kd.R_reads' HR9.out).2.2; rw [HN.out] at z; exact z) hl3).mono ?_
      rintro e w10 ⟨rfl, ⟨⟨nd10, rfl⟩⟩⟩
      go_wp2_with fail
      refine (HMK.out (w9.drewN nd10) w4.heap.size _ (MB_move (W1 := w9.drewN nd10) HM9.out (fun _ _ => rfl))).mono ?_
      rintro e w11 ⟨rfl, hM11, hB11, hK11⟩
      have BL11 := Aside0.mk ((pw_below_drewN BL9.out nd10).trans (hB11 w.heap.size BL4.out.size))
      have hne11 : ∀ k, (Value.slice A5 n c5).ownBlock = some k → w4.heap.size ≤ k := fun k hk => (MB_block HM9.out k hk).1
      have HR11 : Aside0 (Kd.R (Kd.int .u8) 5 w11 w2.heap.size (fun k => k < w3.heap.size) (.slice A3 n c3) L) := ⟨R_apart (u := .slice A5 n c5) (W := w9.drewN nd10) (Kd.R_drewN HR9.out nd10) (fun k hk => Nat.le_trans S34.out (hne11 k hk)) hK11⟩
      obtain ⟨A11, c11, e11, hl11, hC11⟩ := MB_reads hM11
      rw [marked_len] at e11 hl11 hC11
      injection e11 with ea _ ec
      subst ea
      subst ec
      have HM11 := Aside0.mk hM11
      have HC11 := Aside0.mk hC11
      clear hM11 hB11 hK11 hC11 hne11
      go_wp2_with fail
      refine (HHE.out A5 c5 _ HC11.out hl11).mono ?_
      rintro e w12 ⟨rfl, ⟨⟨nd12, rfl⟩⟩⟩
      go_wp2_with fail
      refine (HTO.out _ (Kd.C_drewN (Kd.C_below HR0.out BL11.out) _)).mono ?_
      rintro e w13 ⟨v13, rfl, hX13, hb13⟩
      have BL13 := Aside0.mk ((pw_below_drewN BL11.out nd12).trans (hb13.mono BL11.out.size))
      have HR13 := Aside0.mk (Kd.R_below (Kd.R_drewN HR11.out nd12) hb13)
      have HM13 := Aside0.mk (MB_below (W := w11.drewN nd12) (MB_move HM11.out (fun _ _ => rfl)) hb13)
      obtain ⟨A13, c13, rfl, hl13, hC13⟩ := Kd.R_reads hX13
      rw [HN2.out] at hl13 hC13 ⊢
      have HC13 := Aside0.mk hC13
      clear hb13 hX13 hC13
      go_wp2_with fail
      refine (HIM.out A13 c13 _ HC13.out hl13).mono ?_
      rintro e w14 ⟨h0, rfl, hM14, hb14⟩
      have BL14 := Aside0.mk (BL13.out.trans (hb14.mono BL13.out.size))
      have HR14 := Aside0.mk (Kd.R_below HR13.out hb14)
      have HG14 := Aside0.mk (MB_below HM13.out hb14)
      obtain ⟨A14, c14, rfl, hl14, hC14⟩ := MB_reads hM14
      rw [HN.out] at hl14 hC14 ⊢
      have HC14 := Aside0.mk hC14
      clear hb14 hM14 hC14
      go_wp2_with fail
      refine (HEQ.out A14 c14 A3 c3 _ HC14.out hl14 (by have z := (Kd.R_reads' HR14.out).2.2; rw [HN.out] at z; exact z) hl3).mono ?_
      rintro e w15 ⟨rfl, ⟨⟨nd15, rfl⟩⟩⟩
      go_wp2_with fail
      refine (HHE.out A5 c5 _ (by obtain ⟨A9, c9, e9, _, hC9⟩ := MB_reads (MB_move (W1 := w14.drewN nd15) HG14.out (fun _ _ => rfl)); rw [marked_len] at e9 hC9; injection e9 with ea _ _; rw [ea]; exact hC9) hl11).mono ?_
      rintro e w16 ⟨rfl, ⟨⟨nd16, rfl⟩⟩⟩
      go_wp2
      go_ret
      exact ⟨rfl, pw_below_drewN BL14.out _⟩
    · rw [if_neg hc] at h
      cases h
end Go.Proofs.Ytfgnhghadghdkaa.F
