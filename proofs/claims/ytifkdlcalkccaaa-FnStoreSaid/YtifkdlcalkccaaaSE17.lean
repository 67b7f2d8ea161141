/- The contract of the law FnStore, walked call by call. -/
import Derived.Test.YtifkdlcalkccaaaS10
import Derived.Test.YtifkdlcalkccaaaS3
import Derived.Test.YtifkdlcalkccaaaS4
import Derived.Test.YtifkdlcalkccaaaS5
import Derived.Test.YtifkdlcalkccaaaS8
import Derived.Test.YtifkdlcalkccaaaSE4
import Derived.Test.YtifkdlcalkccaaaSE6
namespace Go.Proofs.Ytifkdlcalkccaaa.S
open Go.RowKit Go.Proofs.YtifkdlcalkccaaaW.PrintWords Go.Proofs.YtifkdlcalkccaaaW.PrintLast Go.Proofs.YtifkdlcalkccaaaW.PrintMore
set_option linter.unusedVariables false
set_option linter.unusedSimpArgs false
-- EXT loop.example/g00298/laws.FnStore laws_FnStore 1 1
def begT (a : ByteArray) (x : S50) : Bool := decide (a.size ≤ x.f0.size) && ((x.f0.extract 0 a.size).toList == a.toList)
open Classical in
noncomputable def laws_FnStore.f (k : Nat) (c m : List Int) : Option Bool :=
  if 1048576 < (c.length : Int) ∨ 1048576 < (m.length : Int) then some true else
  (spec_StoreOf.f k c).bind fun l => (spec_KeyOf.f m).bind fun a => (impl_StorePut.f k l a (⟨#[110, 101, 119, 32, 118, 97, 108, 117, 101]⟩ : ByteArray)).bind fun p => (spec_StorePut.f k l a (⟨#[110, 101, 119, 32, 118, 97, 108, 117, 101]⟩ : ByteArray)).bind fun q => (impl_StoreGet.f k p.1 a).bind fun g => (impl_StoreDrop.f k p.1 a).bind fun d => (impl_StoreGet.f k d.1 a).bind fun n => (laws_samePairs.f k p.1 q.1).bind fun s => (impl_StoreScan.f k l a).bind fun sc =>
    if p.2 = 0 ∧ s = true ∧ g = ((⟨#[110, 101, 119, 32, 118, 97, 108, 117, 101]⟩ : ByteArray), 0) ∧ d.2 = 0 ∧ n.2 = 5 ∧ rightB p.1 = true ∧ (∀ x ∈ l, x.f0 ≠ a → impl_StoreGet.f k p.1 x.f0 = some (x.f1, 0) ∧ impl_StoreGet.f k d.1 x.f0 = some (x.f1, 0)) ∧ sc = (l.filter (begT a), 0) ∧ l.length ≤ 400 then some true else none
set_option maxHeartbeats 16000000 in
set_option maxRecDepth 100000 in
theorem laws_FnStore.calls (k : Nat) (A0 : Option Addr) (c0 : Nat) (l0 : List Int) (A1 : Option Addr) (c1 : Nat) (l1 : List Int) (r : Bool) (w : World) (hr0 : Kd.C (Kd.int .u8) w A0 l0.length l0) (hc0 : l0.length ≤ c0) (hr1 : Kd.C (Kd.int .u8) w A1 l1.length l1) (hc1 : l1.length ≤ c1) (h : laws_FnStore.f k l0 l1 = some r) :
    Calls Try.prog 9 #[.slice A0 l0.length c0, .slice A1 l1.length c1] w fun e w' => e = .returned (.bool r) ∧ Below w.heap.size w w' := by
  unfold laws_FnStore.f at h
  by_cases hlong : 1048576 < (l0.length : Int) ∨ 1048576 < (l1.length : Int)
  · rw [if_pos hlong] at h
    injection h with h
    subst h
    clear hr0 hr1
    generalize l0.length = n0 at *
    generalize l1.length = n1 at *
    by_cases h0 : 1048576 < (n0 : Int)
    · clear hlong
      go_enter Try.func9, Try.ntmps9
      go_wp2
      go_ret
      exact ⟨rfl, Below.refl _ _⟩
    · have h1 : 1048576 < (n1 : Int) := by omega
      clear hlong
      go_enter Try.func9, Try.ntmps9
      go_wp2
      go_ret
      exact ⟨rfl, Below.refl _ _⟩
  · rw [if_neg hlong] at h
    obtain ⟨l, hl, h⟩ := Option.bind_eq_some_iff.1 h
    obtain ⟨a, ha, h⟩ := Option.bind_eq_some_iff.1 h
    obtain ⟨⟨P, pc⟩, hp, h⟩ := Option.bind_eq_some_iff.1 h
    obtain ⟨⟨Q, qc⟩, hq, h⟩ := Option.bind_eq_some_iff.1 h
    obtain ⟨⟨gv, gc⟩, hg, h⟩ := Option.bind_eq_some_iff.1 h
    obtain ⟨⟨D, dc⟩, hd, h⟩ := Option.bind_eq_some_iff.1 h
    obtain ⟨⟨xv, xc⟩, hx, h⟩ := Option.bind_eq_some_iff.1 h
    obtain ⟨s, hs, h⟩ := Option.bind_eq_some_iff.1 h
    obtain ⟨⟨sl, sc⟩, hsc, h⟩ := Option.bind_eq_some_iff.1 h
    split at h
    case isFalse => cases h
    case isTrue hc =>
      have HFIN := Aside0.mk h
      clear h
      obtain ⟨e1, rfl, e2, e3, e4, hrb, hall, e5, hl400⟩ := hc
      have e1' : pc = 0 := e1
      have e3' : dc = 0 := e3
      have e4' : xc = 5 := e4
      have e2a : gv = (⟨#[110, 101, 119, 32, 118, 97, 108, 117, 101]⟩ : ByteArray) := congrArg Prod.fst e2
      have e2b : gc = 0 := congrArg Prod.snd e2
      have e5a : sl = l.filter (begT a) := congrArg Prod.fst e5
      have e5b : sc = 0 := congrArg Prod.snd e5
      clear e1 e2 e3 e4 e5
      subst e1' e3' e4' e2a e2b e5a e5b
      have hfin := HFIN.out
      injection hfin with hfin
      subst hfin
      have hn0 : ¬ (1048576 < (l0.length : Int)) := fun hh => hlong (.inl hh)
      have hn1 : ¬ (1048576 < (l1.length : Int)) := fun hh => hlong (.inr hh)
      have HSO := Aside0.mk (fun W (hC : Kd.C (Kd.int .u8) W A0 l0.length l0) => spec_StoreOf.calls k A0 c0 l0 l W hC hc0 hl)
      have HKO := Aside0.mk (fun W (hC : Kd.C (Kd.int .u8) W A1 l1.length l1) => spec_KeyOf.calls A1 c1 l1 a W hC hc1 ha)
      have HIP := Aside0.mk (fun A cc W (hC : Kd.C k50 W A l.length l) (hcc : l.length ≤ cc) => impl_StorePut.calls k A cc l a (⟨#[110, 101, 119, 32, 118, 97, 108, 117, 101]⟩ : ByteArray) P 0 W hC hcc hp)
      have HSP := Aside0.mk (fun A cc W (hC : Kd.C k50 W A l.length l) (hcc : l.length ≤ cc) => spec_StorePut.calls k A cc l a (⟨#[110, 101, 119, 32, 118, 97, 108, 117, 101]⟩ : ByteArray) Q qc W hC hcc hq)
      have HGA := Aside0.mk (fun A cc W (hC : Kd.C k50 W A P.length P) (hcc : P.length ≤ cc) => impl_StoreGet.calls k A cc P a _ 0 W hC hcc hg)
      have HDR := Aside0.mk (fun A cc W (hC : Kd.C k50 W A P.length P) (hcc : P.length ≤ cc) => impl_StoreDrop.calls k A cc P a D 0 W hC hcc hd)
      have HGN := Aside0.mk (fun A cc W (hC : Kd.C k50 W A D.length D) (hcc : D.length ≤ cc) => impl_StoreGet.calls k A cc D a xv 5 W hC hcc hx)
      have HSA := Aside0.mk (fun A cc A' cc' W (hC : Kd.C k50 W A P.length P) (hcc : P.length ≤ cc) (hC' : Kd.C k50 W A' Q.length Q) (hcc' : Q.length ≤ cc') => laws_samePairs.calls k A cc P A' cc' Q true W hC hcc hC' hcc' hs)
      have HOK := Aside0.mk (fun A cc W (hC : Kd.C k50 W A P.length P) (hcc : P.length ≤ cc) => impl_StoreOK.calls A cc P true W hC hcc (by unfold impl_StoreOK.f; rw [hrb]))
      have HSC := Aside0.mk (fun A cc W (hC : Kd.C k50 W A l.length l) (hcc : l.length ≤ cc) => impl_StoreScan.calls k A cc l a (l.filter (begT a)) 0 W hC hcc hsc)
      have HGP := Aside0.mk (fun x (hxl : x ∈ l) (hne : x.f0 ≠ a) A cc W (hC : Kd.C k50 W A P.length P) (hcc : P.length ≤ cc) => impl_StoreGet.calls k A cc P x.f0 x.f1 0 W hC hcc (hall x hxl hne).1)
      have HGD := Aside0.mk (fun x (hxl : x ∈ l) (hne : x.f0 ≠ a) A cc W (hC : Kd.C k50 W A D.length D) (hcc : D.length ≤ cc) => impl_StoreGet.calls k A cc D x.f0 x.f1 0 W hC hcc (hall x hxl hne).2)
      have HR0 := Aside0.mk hr0
      have HR1 := Aside0.mk hr1
      clear hl ha hp hq hg hd hx hs hsc hr0 hr1 hlong hall hrb HFIN
      generalize hz0 : l0.length = n0 at *
      generalize hz1 : l1.length = n1 at *
      generalize hzl : l.length = nl at *
      generalize hzP : P.length = nP at *
      generalize hzQ : Q.length = nQ at *
      generalize hzD : D.length = nD at *
      have Zl := Aside0.mk hzl
      have ZP := Aside0.mk hzP
      have ZQ := Aside0.mk hzQ
      have ZD := Aside0.mk hzD
      clear hz0 hz1 hzl hzP hzQ hzD
      go_enter Try.func9, Try.ntmps9
      go_wp2_with fail
      refine (HSO.out _ HR0.out).mono ?_
      rintro e w1 ⟨v1, rfl, hR1, hb1⟩
      have BL1 := Aside0.mk hb1
      obtain ⟨AL, cL, rfl, hlL, hCL⟩ := Kd.R_reads hR1
      rw [Zl.out] at hlL hCL ⊢
      have HL1 := Aside0.mk hCL
      clear hb1 hR1 hCL
      go_wp2_with fail
      refine (HKO.out _ (Kd.C_below HR1.out BL1.out)).mono ?_
      rintro e w2 ⟨rfl, hb2⟩
      have BL2 := Aside0.mk (BL1.out.trans (hb2.mono BL1.out.size))
      have HL2 := Aside0.mk (Kd.C_below HL1.out hb2)
      clear hb2
      go_wp2_with fail
      refine (HIP.out AL cL _ HL2.out hlL).mono ?_
      rintro e w3 ⟨v3, rfl, hR3, hb3⟩
      have BL3 := Aside0.mk (BL2.out.trans (hb3.mono BL2.out.size))
      have HL3 := Aside0.mk (Kd.C_below HL2.out hb3)
      obtain ⟨AP, cP, rfl, hlP, hCP⟩ := Kd.R_reads hR3
      rw [ZP.out] at hlP hCP ⊢
      have HP3 := Aside0.mk hCP
      clear hb3 hR3 hCP
      go_wp2_with fail
      refine (HSP.out AL cL _ HL3.out hlL).mono ?_
      rintro e w4 ⟨v4, rfl, hR4, hb4⟩
      have BL4 := Aside0.mk (BL3.out.trans (hb4.mono BL3.out.size))
      have HL4 := Aside0.mk (Kd.C_below HL3.out hb4)
      have HP4 := Aside0.mk (Kd.C_below HP3.out hb4)
      obtain ⟨AQ, cQ, rfl, hlQ, hCQ⟩ := Kd.R_reads hR4
      rw [ZQ.out] at hlQ hCQ ⊢
      have HQ4 := Aside0.mk hCQ
      clear hb4 hR4 hCQ
      go_wp2_with fail
      refine (HGA.out AP cP _ HP4.out hlP).mono ?_
      rintro e w5 ⟨rfl, hb5⟩
      have BL5 := Aside0.mk (BL4.out.trans (hb5.mono BL4.out.size))
      have HL5 := Aside0.mk (Kd.C_below HL4.out hb5)
      have HP5 := Aside0.mk (Kd.C_below HP4.out hb5)
      have HQ5 := Aside0.mk (Kd.C_below HQ4.out hb5)
      clear hb5
      go_wp2_with fail
      refine (HDR.out AP cP _ HP5.out hlP).mono ?_
      rintro e w6 ⟨v6, rfl, hR6, hb6⟩
      have BL6 := Aside0.mk (BL5.out.trans (hb6.mono BL5.out.size))
      have HL6 := Aside0.mk (Kd.C_below HL5.out hb6)
      have HP6 := Aside0.mk (Kd.C_below HP5.out hb6)
      have HQ6 := Aside0.mk (Kd.C_below HQ5.out hb6)
      obtain ⟨AD, cD, rfl, hlD, hCD⟩ := Kd.R_reads hR6
      rw [ZD.out] at hlD hCD ⊢
      have HD6 := Aside0.mk hCD
      clear hb6 hR6 hCD
      go_wp2_with fail
      refine (HGN.out AD cD _ HD6.out hlD).mono ?_
      rintro e w7 ⟨rfl, hb7⟩
      have BL7 := Aside0.mk (BL6.out.trans (hb7.mono BL6.out.size))
      have HL7 := Aside0.mk (Kd.C_below HL6.out hb7)
      have HP7 := Aside0.mk (Kd.C_below HP6.out hb7)
      have HQ7 := Aside0.mk (Kd.C_below HQ6.out hb7)
      have HD7 := Aside0.mk (Kd.C_below HD6.out hb7)
      clear hb7
      go_wp2_with fail
      refine (HSA.out AP cP AQ cQ _ HP7.out hlP HQ7.out hlQ).mono ?_
      rintro e w8 ⟨rfl, ⟨⟨nd8, rfl⟩⟩⟩
      go_wp2_with fail
      refine (HOK.out AP cP _ (Kd.C_drewN HP7.out _) hlP).mono ?_
      rintro e w9 ⟨rfl, hb9⟩
      have BL9 := Aside0.mk ((pw_below_drewN BL7.out nd8).trans (hb9.mono BL7.out.size))
      have HL9 := Aside0.mk (Kd.C_below (Kd.C_drewN HL7.out nd8) hb9)
      have HP9 := Aside0.mk (Kd.C_below (Kd.C_drewN HP7.out nd8) hb9)
      have HD9 := Aside0.mk (Kd.C_below (Kd.C_drewN HD7.out nd8) hb9)
      clear hb9
      go_wp2
      go_loopg [17] nl (fun gg s17 wr => ∃ i : Nat, i ≤ nl ∧ nl - i ≤ gg ∧ s17 = .int .i64 i ∧ Aside0 (Below w9.heap.size w9 wr))
      case atStart => exact ⟨0, Nat.zero_le _, by omega, rfl, ⟨by first | exact Below.refl _ _ | exact pw_below_drewN (Below.refl _ _) _⟩⟩
      case round =>
        obtain ⟨i, hin, hgg, rfl, HB⟩ := hrel
        by_cases hlt : i < nl
        · have h1 : (i : Int) < (nl : Int) := by omega
          have hil : i < l.length := by rw [Zl.out]; exact hlt
          obtain ⟨ad, hA, hx0, hx1⟩ := at_T50 HL9.out (i : Int) (by omega) h1
          subst hA
          have hrd : rd_T50 l (i : Int) = l[i] := by simp [rd_T50, List.getD, List.getElem?_eq_getElem hil]
          rw [hrd] at hx0 hx1
          simp only [Int.toNat_natCast] at hx0 hx1
          have HX0 := Aside0.mk hx0
          have HX1 := Aside0.mk hx1
          have hy0 := (HB.out.cell (World.block_lt_of_cell? _ _ hx0)).trans hx0
          have hy1 := (HB.out.cell (World.block_lt_of_cell? _ _ hx1)).trans hx1
          have HMEM := Aside0.mk (List.getElem_mem hil)
          clear hx0 hx1 hrd
          generalize l[i] = x at *
          by_cases he : x.f0 = a
          · have hq : (x.f0.toList == a.toList) = true := by rw [he]; simp
            go_wp2
            go_roundg (nl - (i + 1))
            case measure => omega
            case rel => exact ⟨i + 1, by omega, by omega, by go_num, by first | exact HB | exact ⟨pw_below_drewN HB.out _⟩⟩
          · have hq : (x.f0.toList == a.toList) = false := by
              rw [Bool.eq_false_iff]
              intro hh
              exact he (Go.WideShapes.bytes_inj (by rw [← Lib.toList_data, ← Lib.toList_data]; exact eq_of_beq hh))
            go_wp2_with fail
            refine (HGP.out x HMEM.out he AP cP _ (Kd.C_below HP9.out HB.out) hlP).mono ?_
            rintro e w10 ⟨rfl, hb10⟩
            have HB1 := Aside0.mk (HB.out.trans (hb10.mono HB.out.size))
            have hz0 := (HB1.out.cell (World.block_lt_of_cell? _ _ HX0.out)).trans HX0.out
            clear hb10
            go_wp2_with fail
            refine (HGD.out x HMEM.out he AD cD _ (Kd.C_below HD9.out HB1.out) hlD).mono ?_
            rintro e w11 ⟨rfl, hb11⟩
            have HB2 := Aside0.mk (HB1.out.trans (hb11.mono HB1.out.size))
            have hu1 := (HB2.out.cell (World.block_lt_of_cell? _ _ HX1.out)).trans HX1.out
            clear hb11
            go_wp2
            go_roundg (nl - (i + 1))
            case measure => omega
            case rel => exact ⟨i + 1, by omega, by omega, by go_num, by first | exact HB2 | exact ⟨pw_below_drewN HB2.out _⟩⟩
        · obtain rfl : i = nl := by omega
          have h1 : ¬ ((i : Int) < (i : Int)) := by omega
          go_wp2_with fail
          refine (HSC.out AL cL _ (Kd.C_below HL9.out HB.out) hlL).mono ?_
          rintro e w12 ⟨v12, rfl, hR12, hb12⟩
          have BL12 := Aside0.mk ((BL9.out.trans (HB.out.mono BL9.out.size)).trans (hb12.mono (Nat.le_trans BL9.out.size HB.out.size)))
          have HL12 := Aside0.mk (Kd.C_below (Kd.C_below HL9.out HB.out) hb12)
          obtain ⟨AS, cS, rfl, hlS, hCS⟩ := Kd.R_reads hR12
          have HS12 := Aside0.mk hCS
          clear hb12 hR12 hCS
          have hns : (l.filter (begT a)).length ≤ l.length := List.length_filter_le _ _
          rw [Zl.out] at hns
          have hHS := HS12.out
          clear HS12
          generalize hsl : l.filter (begT a) = sl at *
          have HSL := Aside0.mk hsl
          clear hsl
          generalize hzs : sl.length = ns at *
          have ZS := Aside0.mk hzs
          have HS12 := Aside0.mk hHS
          clear hzs hHS
          go_wp2
          go_loopg [24, 25] i (fun gg s24 s25 wr => ∃ j : Nat, j ≤ i ∧ i - j ≤ gg ∧ s24 = .int .i64 (((l.take j).filter (begT a)).length : Nat) ∧ s25 = .int .i64 j ∧ Aside0 (Below w12.heap.size w12 wr))
          case atStart => exact ⟨0, Nat.zero_le _, by omega, by simp, rfl, ⟨by first | exact Below.refl _ _ | exact pw_below_drewN (Below.refl _ _) _⟩⟩
          case round =>
            obtain ⟨j, hj, hgj, rfl, rfl, HB⟩ := hrel
            by_cases hlt : j < i
            · have h1 : (j : Int) < (i : Int) := by omega
              have hil : j < l.length := by rw [Zl.out]; exact hlt
              obtain ⟨ad, hA, hx0, hx1⟩ := at_T50 HL12.out (j : Int) (by omega) h1
              subst hA
              have hrd : rd_T50 l (j : Int) = l[j] := by simp [rd_T50, List.getD, List.getElem?_eq_getElem hil]
              rw [hrd] at hx0 hx1
              simp only [Int.toNat_natCast] at hx0 hx1
              have hy0 := (HB.out.cell (World.block_lt_of_cell? _ _ hx0)).trans hx0
              have hy1 := (HB.out.cell (World.block_lt_of_cell? _ _ hx1)).trans hx1
              have htk : (l.take (j + 1)).filter (begT a) = (l.take j).filter (begT a) ++ [l[j]].filter (begT a) := by rw [List.take_succ_eq_append_getElem hil, List.filter_append]
              have hnb : ((l.take j).filter (begT a)).length ≤ j := by
                have h1 := List.length_filter_le (begT a) (l.take j)
                rw [List.length_take] at h1
                omega
              have hsp : begT a l[j] = true → sl[((l.take j).filter (begT a)).length]? = some l[j] := by
                intro hb
                rw [← HSL.out]
                conv => lhs; arg 1; arg 2; rw [← List.take_append_drop j l]
                rw [List.filter_append, List.drop_eq_getElem_cons hil, List.filter_cons, if_pos hb, List.getElem?_append_right (Nat.le_refl _), Nat.sub_self]
                rfl
              clear hx0 hx1 hrd
              generalize hzn : ((l.take j).filter (begT a)).length = n at *
              generalize l[j] = x at *
              have HTK := Aside0.mk htk
              have HSP := Aside0.mk hsp
              have HZN := Aside0.mk hzn
              clear htk hsp hzn
              have hnx : Aside0 (begT a x = false → ((l.take (j + 1)).filter (begT a)).length = n) := by
                refine ⟨fun hb => ?_⟩
                rw [HTK.out, List.length_append, HZN.out, List.filter_cons, hb]
                rfl
              have hnx1 : Aside0 (begT a x = true → ((l.take (j + 1)).filter (begT a)).length = n + 1) := by
                refine ⟨fun hb => ?_⟩
                rw [HTK.out, List.length_append, HZN.out, List.filter_cons, hb]
                rfl
              by_cases hs : a.size ≤ x.f0.size
              · have hs1 : (a.size : Int) ≤ (x.f0.size : Int) := by omega
                cases hq : ((x.f0.extract 0 a.size).toList == a.toList) with
                | false =>
                  have hb : Aside0 (begT a x = false) := ⟨by unfold begT; rw [hq]; simp⟩
                  go_wp2
                  go_roundg (i - (j + 1))
                  case measure => omega
                  case rel => exact ⟨j + 1, by omega, by omega, by rw [hnx.out hb.out], by go_num, by first | exact HB | exact ⟨pw_below_drewN HB.out _⟩⟩
                | true =>
                  have hb : Aside0 (begT a x = true) := ⟨by unfold begT; rw [hq, decide_eq_true hs]; rfl⟩
                  obtain ⟨hn2, hget⟩ := List.getElem?_eq_some_iff.1 (HSP.out hb.out)
                  have hns2 : (n : Int) < (ns : Int) := by rw [ZS.out] at hn2; omega
                  have hns3 : ¬ ((ns : Int) ≤ (n : Int)) := by omega
                  obtain ⟨ad2, hA2, hz0, hz1⟩ := at_T50 HS12.out (n : Int) (by omega) hns2
                  subst hA2
                  have hrd2 : rd_T50 sl (n : Int) = x := by rw [← hget]; simp [rd_T50, List.getD, List.getElem?_eq_getElem hn2]
                  rw [hrd2] at hz0 hz1
                  simp only [Int.toNat_natCast] at hz0 hz1
                  have hu0 := (HB.out.cell (World.block_lt_of_cell? _ _ hz0)).trans hz0
                  have hu1 := (HB.out.cell (World.block_lt_of_cell? _ _ hz1)).trans hz1
                  clear hz0 hz1 hrd2 hget hn2
                  have ht0 : (!(x.f0.toList == x.f0.toList) || !(x.f1.toList == x.f1.toList)) = false := by simp
                  have ht1 : decide ((ns : Int) ≤ (n : Int)) = false := decide_eq_false hns3
                  have ht2 := eq_true (show 0 ≤ (n : Int) by omega)
                  have ht3 := eq_true hns2
                  have ht4 := eq_true (show 0 ≤ (j : Int) by omega)
                  have ht5 := eq_true h1
                  have ht6 : decide (ns ≤ n) = false := decide_eq_false (by omega)
                  have ht7 := eq_true (show n < ns by omega)
                  have ht8 := eq_false (show ¬ ns ≤ n by omega)
                  have ht9 := eq_false (show ¬ (x.f0.toList == x.f0.toList) = false by simp)
                  have ht10 : (x.f0.toList == x.f0.toList) = true := by simp
                  have ht11 : (x.f1.toList == x.f1.toList) = true := by simp
                  go_wp2
                  go_region
                  go_wp2
                  go_roundg (i - (j + 1))
                  case measure => omega
                  case rel => exact ⟨j + 1, by omega, by omega, by rw [hnx1.out hb.out]; go_num, by go_num, by first | exact HB | exact ⟨pw_below_drewN HB.out _⟩⟩
              · have hs1 : ¬ ((a.size : Int) ≤ (x.f0.size : Int)) := by omega
                have hb : Aside0 (begT a x = false) := ⟨by unfold begT; rw [decide_eq_false hs]; rfl⟩
                go_wp2
                go_roundg (i - (j + 1))
                case measure => omega
                case rel => exact ⟨j + 1, by omega, by omega, by rw [hnx.out hb.out], by go_num, by first | exact HB | exact ⟨pw_below_drewN HB.out _⟩⟩
            · obtain rfl : j = i := by omega
              have h1 : ¬ ((j : Int) < (j : Int)) := by omega
              have he : l.take j = l := List.take_of_length_le (by rw [Zl.out]; exact Nat.le_refl _)
              rw [he, HSL.out, ZS.out]
              go_wp2
              go_ret
              exact ⟨by simp, (BL12.out.trans (HB.out.mono BL12.out.size))⟩
end Go.Proofs.Ytifkdlcalkccaaa.S
