/- The contract of the law FnFields, walked call by call. -/
import Derived.Test.YtfgnhghadghdkaaG1
import Derived.Test.YtfgnhghadghdkaaG2
import Derived.Test.YtfgnhghadghdkaaG3
import Derived.Test.YtfgnhghadghdkaaG4
import Derived.Test.YtfgnhghadghdkaaGE13
import Derived.Test.YtfgnhghadghdkaaGE14
namespace Go.Proofs.Ytfgnhghadghdkaa.G
open Go.RowKit Go.Proofs.YtfgnhghadghdkaaW.PrintWords Go.Proofs.YtfgnhghadghdkaaW.PrintLast Go.Proofs.YtfgnhghadghdkaaW.PrintMore
set_option linter.unusedVariables false
set_option linter.unusedSimpArgs false
-- EXT loop.example/g00298/laws.FnFields laws_FnFields 1 1
def laws_FnFields.f (k : Nat) (c : List Int) (m : List Int) : Option Bool :=
  if 1048576 < (c.length : Int) ∨ 1048576 < (m.length : Int) then some true else
  (spec_FieldsOf.f k c).bind fun l => (impl_FieldsBytes.f k l).bind fun p => (spec_FieldsBytes.f k l).bind fun q => (impl_ReadFields.f k p.1).bind fun b => (laws_sameTexts.f k b.1 l).bind fun t => (impl_ReadFields.f k m).bind fun x => (spec_ReadFields.f k m).bind fun y =>
    if p = q ∧ p.2 = 0 ∧ b.2 = 0 ∧ t = true ∧ x.2 = y.2 then (if x.2 = 0 then (impl_FieldsBytes.f k x.1).bind fun g => if g = (m, 0) then some true else none else some true) else none
set_option maxHeartbeats 16000000 in
set_option maxRecDepth 100000 in
theorem laws_FnFields.calls (k : Nat) (A0 : Option Addr) (c0 : Nat) (l0 : List Int) (A1 : Option Addr) (c1 : Nat) (l1 : List Int) (r : Bool) (w : World) (hr0 : Kd.C (Kd.int .u8) w A0 l0.length l0) (hc0 : l0.length ≤ c0) (hr1 : Kd.C (Kd.int .u8) w A1 l1.length l1) (hc1 : l1.length ≤ c1) (h : laws_FnFields.f k l0 l1 = some r) :
    Calls Try.prog 9 #[.slice A0 l0.length c0, .slice A1 l1.length c1] w fun e w' => e = .returned (.bool r) ∧ Below w.heap.size w w' := by
  unfold laws_FnFields.f at h
  by_cases hlong : 1048576 < (l0.length : Int) ∨ 1048576 < (l1.length : Int)
  · rw [if_pos hlong] at h
    injection h with h
    subst h
    clear hr0 hr1
    generalize l0.length = n0 at *
    generalize l1.length = n1 at *
    by_cases h0 : 1048576 < (n0 : Int)
    · clear hlong
      go_enter Try.func9, Try.ntmps9
      go_wp2
      go_ret
      exact ⟨rfl, Below.refl _ _⟩
    · have h1 : 1048576 < (n1 : Int) := by omega
      clear hlong
      go_enter Try.func9, Try.ntmps9
      go_wp2
      go_ret
      exact ⟨rfl, Below.refl _ _⟩
  · rw [if_neg hlong] at h
    obtain ⟨l, hl, h⟩ := Option.bind_eq_some_iff.1 h
    obtain ⟨⟨L, cp⟩, hp, h⟩ := Option.bind_eq_some_iff.1 h
    obtain ⟨q, hq, h⟩ := Option.bind_eq_some_iff.1 h
    obtain ⟨⟨bl, bc⟩, hb, h⟩ := Option.bind_eq_some_iff.1 h
    obtain ⟨t, ht, h⟩ := Option.bind_eq_some_iff.1 h
    obtain ⟨⟨xl, xc⟩, hx, h⟩ := Option.bind_eq_some_iff.1 h
    obtain ⟨⟨yl, yc⟩, hy, h⟩ := Option.bind_eq_some_iff.1 h
    by_cases hc : (L, cp) = q ∧ (L, cp).2 = 0 ∧ (bl, bc).2 = 0 ∧ t = true ∧ (xl, xc).2 = (yl, yc).2
    · rw [if_pos hc] at h
      have HFIN := Aside0.mk h
      clear h
      obtain ⟨rfl, e1, e2, rfl, e3⟩ := hc
      have e1' : cp = 0 := e1
      have e2' : bc = 0 := e2
      have e3' : xc = yc := e3
      subst e1' e2' e3'
      have hn0 : ¬ (1048576 < (l0.length : Int)) := fun hh => hlong (.inl hh)
      have hn1 : ¬ (1048576 < (l1.length : Int)) := fun hh => hlong (.inr hh)
      have HFO := Aside0.mk (fun W (hC : Kd.C (Kd.int .u8) W A0 l0.length l0) => spec_FieldsOf.calls k A0 c0 l0 l W hC hc0 hl)
      have HFB := Aside0.mk (fun A cc W (hC : Kd.C Kd.string W A l.length l) (hcc : l.length ≤ cc) => impl_FieldsBytes.calls k A cc l L 0 W hC hcc hp)
      have HSB := Aside0.mk (fun A cc W (hC : Kd.C Kd.string W A l.length l) (hcc : l.length ≤ cc) => spec_FieldsBytes.calls k A cc l L 0 W hC hcc hq)
      have HRF := Aside0.mk (fun A cc W (hC : Kd.C (Kd.int .u8) W A L.length L) (hcc : L.length ≤ cc) => impl_ReadFields.calls k A cc L bl 0 W hC hcc hb)
      have HST := Aside0.mk (fun A cc A' cc' W (hC : Kd.C Kd.string W A bl.length bl) (hcc : bl.length ≤ cc) (hC' : Kd.C Kd.string W A' l.length l) (hcc' : l.length ≤ cc') => laws_sameTexts.calls k A cc bl A' cc' l true W hC hcc hC' hcc' ht)
      have HRM := Aside0.mk (fun W (hC : Kd.C (Kd.int .u8) W A1 l1.length l1) => impl_ReadFields.calls k A1 c1 l1 xl xc W hC hc1 hx)
      have HSM := Aside0.mk (fun W (hC : Kd.C (Kd.int .u8) W A1 l1.length l1) => spec_ReadFields.calls k A1 c1 l1 yl xc W hC hc1 hy)
      have HR0 := Aside0.mk hr0
      have HR1 := Aside0.mk hr1
      clear hl hp hq hb ht hx hy hr0 hr1 hlong e1 e2 e3
      generalize hz0 : l0.length = n0 at *
      generalize hz1 : l1.length = n1 at *
      generalize hzl : l.length = nl at *
      generalize hzL : L.length = nL at *
      generalize hzb : bl.length = nb at *
      have Z1 := Aside0.mk hz1
      have ZL := Aside0.mk hzL
      have Zl := Aside0.mk hzl
      have Zb := Aside0.mk hzb
      clear hz0 hz1 hzl hzL hzb
      go_enter Try.func9, Try.ntmps9
      go_wp2_with fail
      refine (HFO.out _ HR0.out).mono ?_
      rintro e w1 ⟨v1, rfl, hR1, hb1⟩
      have BL1 := Aside0.mk hb1
      obtain ⟨A2, c2, rfl, hl2, hC2⟩ := Kd.R_reads hR1
      rw [Zl.out] at hl2 hC2 ⊢
      have HC1 := Aside0.mk hC2
      clear hb1 hR1 hC2
      go_wp2_with fail
      refine (HFB.out A2 c2 _ HC1.out hl2).mono ?_
      rintro e w2 ⟨g0, rfl, hM, hb2⟩
      have BL2 := Aside0.mk (BL1.out.trans (hb2.mono BL1.out.size))
      have HC2 := Aside0.mk (Kd.C_below HC1.out hb2)
      obtain ⟨A3, c3, rfl, hl3, hC3⟩ := MB_reads hM
      rw [ZL.out] at hl3 hC3 ⊢
      have HG2 := Aside0.mk hC3
      clear hb2 hM hC3
      go_wp2_with fail
      refine (HSB.out A2 c2 _ HC2.out hl2).mono ?_
      rintro e w3 ⟨v3, rfl, hR3, hb3⟩
      have BL3 := Aside0.mk (BL2.out.trans (hb3.mono BL2.out.size))
      have HC3 := Aside0.mk (Kd.C_below HC2.out hb3)
      have HG3 := Aside0.mk (Kd.C_below HG2.out hb3)
      obtain ⟨A4, c4, rfl, hl4, hC4⟩ := Kd.R_reads hR3
      rw [ZL.out] at hl4 hC4 ⊢
      have HW3 := Aside0.mk hC4
      clear hb3 hR3 hC4
      go_wp2_with fail
      refine (HRF.out A3 c3 _ HG3.out hl3).mono ?_
      rintro e w4 ⟨v4, rfl, hR4, hb4⟩
      have BL4 := Aside0.mk (BL3.out.trans (hb4.mono BL3.out.size))
      have HC4 := Aside0.mk (Kd.C_below HC3.out hb4)
      have HG4 := Aside0.mk (Kd.C_below HG3.out hb4)
      have HW4 := Aside0.mk (Kd.C_below HW3.out hb4)
      obtain ⟨A5, c5, rfl, hl5, hC5⟩ := Kd.R_reads hR4
      rw [Zb.out] at hl5 hC5 ⊢
      have HB4 := Aside0.mk hC5
      clear hb4 hR4 hC5
      have hcv1 := Kd.C_string (P := Try.prog) (A := A3) (c := c3) Try.underlying27 Try.underlying5 Try.underlying9 HG4.out
      have hcv2 := Kd.C_string (P := Try.prog) (A := A4) (c := c4) Try.underlying27 Try.underlying5 Try.underlying9 HW4.out
      go_wp2_with fail
      refine (HST.out A5 c5 A2 c2 _ HB4.out hl5 HC4.out hl2).mono ?_
      rintro e w5 ⟨rfl, ⟨⟨nd5, rfl⟩⟩⟩
      clear hcv1 hcv2
      have BL5 := Aside0.mk (pw_below_drewN BL4.out nd5)
      go_wp2_with fail
      refine (HRM.out _ (Kd.C_below HR1.out BL5.out)).mono ?_
      rintro e w6 ⟨v6, rfl, hR6, hb6⟩
      have BL6 := Aside0.mk (BL5.out.trans (hb6.mono BL5.out.size))
      obtain ⟨A6, c6, rfl, hl6, hC6⟩ := Kd.R_reads hR6
      have HX6 := Aside0.mk hC6
      generalize hzx : xl.length = nx at *
      have Zx := Aside0.mk hzx
      clear hb6 hR6 hC6 hzx
      go_wp2_with fail
      refine (HSM.out _ (Kd.C_below HR1.out BL6.out)).mono ?_
      rintro e w7 ⟨v7, rfl, hR7, hb7⟩
      have BL7 := Aside0.mk (BL6.out.trans (hb7.mono BL6.out.size))
      have HX7 := Aside0.mk (Kd.C_below HX6.out hb7)
      obtain ⟨A7, c7, rfl, hl7, _⟩ := Kd.R_reads hR7
      generalize yl.length = ny at *
      clear hb7 hR7
      have hfin := HFIN.out
      clear HFIN
      by_cases hz : (xl, xc).2 = 0
      · rw [if_pos hz] at hfin
        have hz' : xc = 0 := hz
        subst hz'
        obtain ⟨g, hg, hfin⟩ := Option.bind_eq_some_iff.1 hfin
        by_cases hgm : g = (l1, 0)
        · rw [if_pos hgm] at hfin
          injection hfin with hfin
          subst hfin
          subst hgm
          have HFX := Aside0.mk (fun A cc W (hC : Kd.C Kd.string W A xl.length xl) (hcc : xl.length ≤ cc) => impl_FieldsBytes.calls k A cc xl l1 0 W hC hcc hg)
          rw [Zx.out] at HFX
          clear hg hz
          go_wp2_with fail
          refine (HFX.out A6 c6 _ HX7.out hl6).mono ?_
          rintro e w8 ⟨g8, rfl, hM8, hb8⟩
          have BL8 := Aside0.mk (BL7.out.trans (hb8.mono BL7.out.size))
          obtain ⟨A8, c8, rfl, hl8, hC8⟩ := MB_reads hM8
          rw [Z1.out] at hl8 hC8 ⊢
          have HG8 := Aside0.mk hC8
          have HM8 := Aside0.mk (Kd.C_below HR1.out BL8.out)
          clear hb8 hM8 hC8
          have hcv1 := Kd.C_string (P := Try.prog) (A := A8) (c := c8) Try.underlying27 Try.underlying5 Try.underlying9 HG8.out
          have hcv2 := Kd.C_string (P := Try.prog) (A := A1) (c := c1) Try.underlying27 Try.underlying5 Try.underlying9 HM8.out
          go_wp2
          go_ret
          exact ⟨rfl, BL8.out⟩
        · rw [if_neg hgm] at hfin
          cases hfin
      · rw [if_neg hz] at hfin
        injection hfin with hfin
        subst hfin
        have hz' : ¬ (xc = 0) := hz
        have hzb : (xc == 0) = false := by simpa using hz'
        have hzn : (xc != 0) = true := by simpa using hz'
        go_wp2
        go_ret
        exact ⟨rfl, BL7.out⟩
    · rw [if_neg hc] at h
      cases h
end Go.Proofs.Ytfgnhghadghdkaa.G
