/- The contract of the law FnExactHeaderBytes, walked call by call. -/
import Derived.Test.YtifkdlcalkccaaaP2
import Derived.Test.YtifkdlcalkccaaaPE11
import Derived.Test.YtifkdlcalkccaaaPLb
namespace Go.Proofs.Ytifkdlcalkccaaa.P
open Go.RowKit Go.Proofs.YtifkdlcalkccaaaW.PrintWords Go.Proofs.YtifkdlcalkccaaaW.PrintLast Go.Proofs.YtifkdlcalkccaaaW.PrintMore
set_option linter.unusedVariables false
set_option linter.unusedSimpArgs false
-- EXT loop.example/g00298/laws.FnExactHeaderBytes laws_FnExactHeaderBytes 1 1
def laws_FnExactHeaderBytes.f (k : Nat) (a b : Int) (s u : ByteArray) : Option Bool :=
  (laws_szHeader.f a b s u 1048576).bind fun z => if z < 0 then some true else (spec_HeaderBytes.f a b s u).bind fun p => (impl_HeaderBytes.f k a b s u).bind fun q => if p = q ∧ p.1.length ≤ 1073741824 then some true else none
set_option maxHeartbeats 16000000 in
set_option maxRecDepth 100000 in
theorem laws_FnExactHeaderBytes.calls (k : Nat) (a b : Int) (s u : ByteArray) (r : Bool) (w : World) (h : laws_FnExactHeaderBytes.f k a b s u = some r) :
    Calls Try.prog 11 #[.agg #[.int .i64 a, .int .i64 b, .string s, .string u]] w fun e w' => e = .returned (.bool r) ∧ Below w.heap.size w w' := by
  unfold laws_FnExactHeaderBytes.f at h
  obtain ⟨z, hz, h⟩ := Option.bind_eq_some_iff.1 h
  have hu := Try.underlying62
  have HSZ := Aside0.mk (fun W => laws_szHeader.calls a b s u 1048576 z W hz)
  by_cases hneg : z < 0
  · rw [if_pos hneg] at h
    injection h with h
    subst h
    clear hz
    go_enter Try.func11, Try.ntmps11
    go_wp2_with (go_at_call 42; refine (HSZ.out _).mono ?_; rintro e w1 ⟨rfl, hb1⟩; have HB1 := Aside0.mk hb1; clear hb1)
    go_ret
    exact ⟨rfl, ((Below.refl _ w).alloc (Nat.le_refl _) _).trans (HB1.out.mono (by simp))⟩
  · rw [if_neg hneg] at h
    obtain ⟨⟨L, c⟩, hp, h⟩ := Option.bind_eq_some_iff.1 h
    obtain ⟨q, hq, h⟩ := Option.bind_eq_some_iff.1 h
    by_cases hc : (L, c) = q ∧ (L, c).1.length ≤ 1073741824
    · rw [if_pos hc] at h
      injection h with h
      subst h
      obtain ⟨rfl, hlen⟩ := hc
      have hlen' : L.length ≤ 1073741824 := hlen
      have HSP := Aside0.mk (fun W => spec_HeaderBytes.calls a b s u L c W hp)
      have HIM := Aside0.mk (fun W => impl_HeaderBytes.calls k a b s u L c W hq)
      have HTO := Aside0.mk (fun W => laws_toHeader.calls a b s u a b s u W rfl)
      have HEQ := Aside0.mk (fun A0 c0 A1 c1 W h0 h1 h2 h3 => laws_eqByteS.calls (L.length + 1) A0 c0 L A1 c1 L true W h0 h1 h2 h3 (eqB_refl L hlen'))
      have HMK := Aside0.mk (fun W B v (hm : MB W B v L) => mark_MB W B v L hm hlen')
      have HHE := Aside0.mk (fun (A0 : Option Addr) (c0 : Nat) (W : World) (h0 : Kd.C (Kd.int .u8) W A0 L.length (marked L.length)) (h1 : L.length ≤ c0) => (by
        have z := laws_heldByteS.calls (L.length + 1) A0 c0 (marked L.length) 1 ((1 + L.length : Nat) : Int) W (by rw [marked_len]; exact h0) (by rw [marked_len]; exact h1) (heldB L.length hlen')
        rwa [marked_len] at z : Calls Try.prog 41 #[.slice A0 L.length c0, .int .i64 1] W fun e w' => e = .returned (.int .i64 ((1 + L.length : Nat) : Int)) ∧ Drawn0 W w'))
      clear hz hp hq hlen
      generalize hn : L.length = n at *
      have HN := Aside0.mk hn
      clear hn
      have hbig : (n : Int) ≤ 1073741824 := by omega
      go_enter Try.func11, Try.ntmps11
      go_wp2_with fail
      refine (HSZ.out _).mono ?_
      rintro e w1 ⟨rfl, hb1⟩
      have BL1 := Aside0.mk (((Below.refl _ w).alloc (Nat.le_refl _) _).trans (hb1.mono (by simp)))
      have bx1 : w1.heap[w.heap.size]? = some (.cells #[.int .i64 a, .int .i64 b, .string s, .string u] 62 (0, 0)) := (hb1.block _ (by simp)).trans (heap_alloc_new w _)
      have hq10 : w1.cell? ⟨w.heap.size, 0, none⟩ = some (.int .i64 a) := (mb_cell bx1 0).trans rfl
      have hq11 : w1.cell? ⟨w.heap.size, 1, none⟩ = some (.int .i64 b) := (mb_cell bx1 1).trans rfl
      have hq12 : w1.cell? ⟨w.heap.size, 2, none⟩ = some (.string s) := (mb_cell bx1 2).trans rfl
      have hq13 : w1.cell? ⟨w.heap.size, 3, none⟩ = some (.string u) := (mb_cell bx1 3).trans rfl
      have BX1 := Aside0.mk bx1
      clear bx1 hb1
      go_wp2_with fail
      refine (HTO.out _).mono ?_
      rintro e w2 ⟨rfl, hb2⟩
      have BL2 := Aside0.mk (BL1.out.trans (hb2.mono BL1.out.size))
      have BX2 := Aside0.mk ((hb2.block _ (Array.getElem?_eq_some_iff.1 BX1.out).1).trans BX1.out)
      clear hb2
      go_wp2_with fail
      refine (HSP.out _).mono ?_
      rintro e w3 ⟨v0, rfl, hR, hb3⟩
      have BL3 := Aside0.mk (BL2.out.trans (hb3.mono BL2.out.size))
      have bx3 := (hb3.block _ (Array.getElem?_eq_some_iff.1 BX2.out).1).trans BX2.out
      have hq30 : w3.cell? ⟨w.heap.size, 0, none⟩ = some (.int .i64 a) := (mb_cell bx3 0).trans rfl
      have hq31 : w3.cell? ⟨w.heap.size, 1, none⟩ = some (.int .i64 b) := (mb_cell bx3 1).trans rfl
      have hq32 : w3.cell? ⟨w.heap.size, 2, none⟩ = some (.string s) := (mb_cell bx3 2).trans rfl
      have hq33 : w3.cell? ⟨w.heap.size, 3, none⟩ = some (.string u) := (mb_cell bx3 3).trans rfl
      have BX3 := Aside0.mk bx3
      obtain ⟨A0, c0, rfl, hl0, _⟩ := Kd.R_reads hR
      rw [HN.out] at hl0 hR ⊢
      have HR3 := Aside0.mk (R_told hR)
      clear bx3 hb3 hR
      go_wp2_with fail
      refine (HTO.out _).mono ?_
      rintro e w4 ⟨rfl, hb4⟩
      have BL4 := Aside0.mk (BL3.out.trans (hb4.mono BL3.out.size))
      have BX4 := Aside0.mk ((hb4.block _ (Array.getElem?_eq_some_iff.1 BX3.out).1).trans BX3.out)
      have HR4 := Aside0.mk (Kd.R_below HR3.out hb4)
      have S34 := Aside0.mk hb4.size
      clear hb4
      go_wp2_with fail
      refine (HIM.out _).mono ?_
      rintro e w5 ⟨g0, rfl, hM, hb5⟩
      have BL5 := Aside0.mk (BL4.out.trans (hb5.mono BL4.out.size))
      have BX5 := Aside0.mk ((hb5.block _ (Array.getElem?_eq_some_iff.1 BX4.out).1).trans BX4.out)
      have HR5 := Aside0.mk (Kd.R_below HR4.out hb5)
      obtain ⟨A1, c1, rfl, hl1, hC1⟩ := MB_reads hM
      rw [HN.out] at hl1 hC1 hM ⊢
      have HC1 := Aside0.mk hC1
      have HM5 := Aside0.mk hM
      clear hb5 hM hC1
      go_wp2_with fail
      refine (HEQ.out A1 c1 A0 c0 _ HC1.out hl1 (by have z := (Kd.R_reads' HR5.out).2.2; rw [HN.out] at z; exact z) hl0).mono ?_
      rintro e w6 ⟨rfl, ⟨⟨nd6, rfl⟩⟩⟩
      go_wp2_with fail
      refine (HMK.out (w5.drewN nd6) w4.heap.size _ (MB_move (W1 := w5.drewN nd6) HM5.out (fun _ _ => rfl))).mono ?_
      rintro e w7 ⟨rfl, hM7, hB7, hK7⟩
      have BL7 := Aside0.mk ((pw_below_drewN BL5.out nd6).trans (hB7 w.heap.size BL4.out.size))
      have hne7 : ∀ k, (Value.slice A1 n c1).ownBlock = some k → w4.heap.size ≤ k := fun k hk => (MB_block HM5.out k hk).1
      have bx7 : w7.heap[w.heap.size]? = some (.cells #[.int .i64 a, .int .i64 b, .string s, .string u] 62 (0, 0)) := (hK7 _ (Array.getElem?_eq_some_iff.1 BX5.out).1 (fun e => by have := hne7 _ e; have := (Array.getElem?_eq_some_iff.1 BX4.out).1; omega)).trans BX5.out
      have hq70 : w7.cell? ⟨w.heap.size, 0, none⟩ = some (.int .i64 a) := (mb_cell bx7 0).trans rfl
      have hq71 : w7.cell? ⟨w.heap.size, 1, none⟩ = some (.int .i64 b) := (mb_cell bx7 1).trans rfl
      have hq72 : w7.cell? ⟨w.heap.size, 2, none⟩ = some (.string s) := (mb_cell bx7 2).trans rfl
      have hq73 : w7.cell? ⟨w.heap.size, 3, none⟩ = some (.string u) := (mb_cell bx7 3).trans rfl
      have BX7 := Aside0.mk bx7
      have HR7 : Aside0 (Kd.R (Kd.int .u8) 5 w7 w2.heap.size (fun k => k < w3.heap.size) (.slice A0 n c0) L) := ⟨R_apart (u := .slice A1 n c1) (W := w5.drewN nd6) (Kd.R_drewN HR5.out nd6) (fun k hk => Nat.le_trans S34.out (hne7 k hk)) hK7⟩
      obtain ⟨A7, c7, e7, hl7, hC7⟩ := MB_reads hM7
      rw [marked_len] at e7 hl7 hC7
      injection e7 with ea _ ec
      subst ea
      subst ec
      have HM7 := Aside0.mk hM7
      have HC7 := Aside0.mk hC7
      clear bx7 hM7 hB7 hK7 hC7 hne7
      go_wp2_with fail
      refine (HHE.out A1 c1 _ HC7.out hl7).mono ?_
      rintro e w8 ⟨rfl, ⟨⟨nd8, rfl⟩⟩⟩
      go_wp2_with fail
      refine (HTO.out _).mono ?_
      rintro e w9 ⟨rfl, hb9⟩
      have BL9 := Aside0.mk ((pw_below_drewN BL7.out nd8).trans (hb9.mono BL7.out.size))
      have HR9 := Aside0.mk (Kd.R_below (Kd.R_drewN HR7.out nd8) hb9)
      have HM9 := Aside0.mk (MB_below (W := w7.drewN nd8) (MB_move HM7.out (fun _ _ => rfl)) hb9)
      clear hb9
      go_wp2_with fail
      refine (HIM.out _).mono ?_
      rintro e w10 ⟨h0, rfl, hM10, hb10⟩
      have BL10 := Aside0.mk (BL9.out.trans (hb10.mono BL9.out.size))
      have HR10 := Aside0.mk (Kd.R_below HR9.out hb10)
      have HG10 := Aside0.mk (MB_below HM9.out hb10)
      obtain ⟨A10, c10, rfl, hl10, hC10⟩ := MB_reads hM10
      rw [HN.out] at hl10 hC10 ⊢
      have HC10 := Aside0.mk hC10
      clear hb10 hM10 hC10
      go_wp2_with fail
      refine (HEQ.out A10 c10 A0 c0 _ HC10.out hl10 (by have z := (Kd.R_reads' HR10.out).2.2; rw [HN.out] at z; exact z) hl0).mono ?_
      rintro e w11 ⟨rfl, ⟨⟨nd11, rfl⟩⟩⟩
      go_wp2_with fail
      refine (HHE.out A1 c1 _ (by obtain ⟨A9, c9, e9, _, hC9⟩ := MB_reads (MB_move (W1 := w10.drewN nd11) HG10.out (fun _ _ => rfl)); rw [marked_len] at e9 hC9; injection e9 with ea _ _; rw [ea]; exact hC9) hl7).mono ?_
      rintro e w12 ⟨rfl, ⟨⟨nd12, rfl⟩⟩⟩
      go_wp2
      go_ret
      exact ⟨rfl, pw_below_drewN BL10.out _⟩
    · rw [if_neg hc] at h
      cases h
end Go.Proofs.Ytifkdlcalkccaaa.P
