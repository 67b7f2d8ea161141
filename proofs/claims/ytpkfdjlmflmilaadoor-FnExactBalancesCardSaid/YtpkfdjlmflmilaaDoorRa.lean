/- The contract of impl.readAmount: what strconv.Atoi tells, where it is an amount that reads just so. -/
import Derived.Test.YtpkfdjlmflmilaaDoorQ6
import Derived.Test.YtpkfdjlmflmilaaDoorQ7
import Derived.Test.YtpkfdjlmflmilaaDoorIt
import Derived.Lib.AtoiAllCases
import Derived.Lib.Strings
import Derived.WideShapes
namespace Go.Proofs.YtpkfdjlmflmilaaDoor.Q
open Go.RowKit Go.Proofs.YtpkfdjlmflmilaaDoorW.PrintWords Go.Proofs.YtpkfdjlmflmilaaDoorW.PrintLast Go.Proofs.YtpkfdjlmflmilaaDoorW.PrintMore
set_option linter.unusedVariables false
set_option linter.unusedSimpArgs false
def itoaT (v : Int) : ByteArray := ⟨(Lib.itoa v).toArray⟩
/-- What is read: a number and whether it is one. -/
def raT (t : ByteArray) : Int × Bool :=
  match Lib.atoiAll t.data.toList with
  | .ok v => if (0 ≤ v ∧ v ≤ 1000000000000000000) ∧ itoaT v = t then (v, true) else (0, false)
  | _ => (0, false)
-- EXT loop.example/g00298/impl.readAmount impl_readAmount 1 0
def impl_readAmount.f (t : ByteArray) : Option (Int × Bool) := if t.size ≤ 140737488355328 then some (raT t) else none
theorem ra_inj {a b : ByteArray} (h : a.toList = b.toList) : a = b := Go.WideShapes.bytes_inj (by rw [← Lib.toList_data, ← Lib.toList_data]; exact h)
theorem ra_ne (a b : ByteArray) : (a.toList != b.toList) = !decide (a = b) := by
  rw [Bool.eq_iff_iff]
  simp only [bne_iff_ne, ne_eq, Bool.not_eq_true', decide_eq_false_iff_not]
  exact ⟨fun h e => h (by rw [e]), fun h e => h (ra_inj e)⟩
set_option maxHeartbeats 4000000 in
set_option maxRecDepth 100000 in
theorem impl_readAmount.calls (a0 : ByteArray) (r1 : Int) (r2 : Bool) (w : World) (htab : Tb.TB w) (h : impl_readAmount.f a0 = some (r1, r2)) :
    Calls Tryd.prog 45 #[.string a0] w fun e w' => e = .returned (.tuple #[.int .i64 r1, .bool r2]) ∧ Below w.heap.size w w' := by
  unfold impl_readAmount.f at h
  split at h
  case isFalse => cases h
  case isTrue hs =>
  injection h with h
  obtain ⟨hpow, ⟨tr, pr, hER⟩, ts, ps, hES⟩ := id htab
  unfold raT at h
  rcases hx : Lib.atoiAll a0.data.toList with v | _ | _
  · have hat : Calls Tryd.prog 59 #[.string a0] w fun e w' => e = .returned (.tuple #[.int .i64 v, .nilIface]) ∧ Below w.heap.size w w' := by
      have h0 : Calls Tryd.prog 59 #[.string a0] w fun e w' => e = .returned (.tuple #[.int .i64 v, .nilIface]) ∧ (w' = w ∨ ∃ t, w' = Lib.bytesWorld w 5 t) := Any.strconv_Atoi_ok Tryd.laysC172 a0 (by omega) v hx w
      refine h0.mono ?_
      rintro e w' ⟨rfl, rfl | ⟨t, rfl⟩⟩
      · exact ⟨rfl, Below.refl _ _⟩
      · refine ⟨rfl, ?_⟩
        exact ⟨by simp [Lib.bytesWorld, World.freeze, World.alloc, World.drew, -World.alloc_eq, -World.drew_eq], by simp [Lib.bytesWorld, World.freeze, World.alloc, World.drew, -World.alloc_eq, -World.drew_eq], by simp [Lib.bytesWorld, World.freeze, World.alloc, World.drew, -World.alloc_eq, -World.drew_eq], by rw [Lib.bytesWorld_size]; omega, fun k hk => Lib.bytesWorld_at_old w 5 t k hk⟩
    obtain ⟨vb0, vb1⟩ := Lib.atoiAll_bounds hx
    rw [hx] at h
    replace h : (if (0 ≤ v ∧ v ≤ 1000000000000000000) ∧ itoaT v = a0 then (v, true) else (0, false)) = (r1, r2) := h
    have HA := Aside0.mk hat
    have HTB := Aside0.mk htab
    clear hat hx hpow hER hES htab hs
    by_cases hb : 0 ≤ v ∧ v ≤ 1000000000000000000
    · have HI := Aside0.mk (fun W => impl_isAmount.calls v true W (by unfold impl_isAmount.f impl_within.f; rw [if_pos (show v ≥ 0 from hb.1), decide_eq_true hb.2]; rfl))
      have HT := Aside0.mk (fun W ht => impl_amountText.calls v (itoaT v) W ht (by unfold impl_amountText.f strconv_Itoa.f; rw [if_pos (by omega)]; rfl))
      replace h : (if itoaT v = a0 then (v, true) else (0, false)) = (r1, r2) := by
        by_cases he : itoaT v = a0
        · rw [if_pos ⟨hb, he⟩] at h
          rw [if_pos he]
          exact h
        · rw [if_neg (fun h1 => he h1.2)] at h
          rw [if_neg he]
          exact h
      clear vb0 vb1 hb
      generalize itoaT v = u at h HT
      have hc := ra_ne u a0
      by_cases he : u = a0
      · rw [if_pos he] at h
        injection h with e1 e2
        subst e1
        subst e2
        rw [decide_eq_true he] at hc
        replace hc : (u.toList != a0.toList) = false := hc
        have hc0 : (u.toList == a0.toList) = true := by rw [he]; exact beq_self_eq_true _
        clear he
        go_enter Tryd.func45, Tryd.ntmps45
        go_wp2_with (first
          | (go_at_call 59; refine HA.out.mono ?_; rintro e w1 ⟨rfl, hb1⟩; have HB1 := Aside0.mk hb1; clear hb1)
          | (go_at_call 60; refine (HI.out _).mono ?_; rintro e w2 ⟨rfl, hd2⟩; have HD2 := Aside0.mk hd2; clear hd2)
          | (go_at_call 61; refine (HT.out _ (Tb.TB.below (Tb.TB.below HTB.out HB1.out (Nat.le_refl _)) HD2.out.below (Nat.le_refl _))).mono ?_; rintro e w3 ⟨rfl, hb3⟩; have HB3 := Aside0.mk hb3; clear hb3))
        go_ret2
        exact ⟨rfl, below_step (below_step HB1.out HD2.out.below) HB3.out⟩
      · rw [if_neg he] at h
        injection h with e1 e2
        subst e1
        subst e2
        rw [decide_eq_false he] at hc
        replace hc : (u.toList != a0.toList) = true := hc
        have hc0 : (u.toList == a0.toList) = false := by rw [beq_eq_false_iff_ne]; exact fun e => he (ra_inj e)
        clear he
        go_enter Tryd.func45, Tryd.ntmps45
        go_wp2_with (first
          | (go_at_call 59; refine HA.out.mono ?_; rintro e w1 ⟨rfl, hb1⟩; have HB1 := Aside0.mk hb1; clear hb1)
          | (go_at_call 60; refine (HI.out _).mono ?_; rintro e w2 ⟨rfl, hd2⟩; have HD2 := Aside0.mk hd2; clear hd2)
          | (go_at_call 61; refine (HT.out _ (Tb.TB.below (Tb.TB.below HTB.out HB1.out (Nat.le_refl _)) HD2.out.below (Nat.le_refl _))).mono ?_; rintro e w3 ⟨rfl, hb3⟩; have HB3 := Aside0.mk hb3; clear hb3))
        go_ret2
        exact ⟨rfl, below_step (below_step HB1.out HD2.out.below) HB3.out⟩
    · have HI := Aside0.mk (fun W => impl_isAmount.calls v false W (by
        unfold impl_isAmount.f impl_within.f
        by_cases h0 : v ≥ 0
        · rw [if_pos h0, decide_eq_false (fun h1 => hb ⟨h0, h1⟩)]; rfl
        · rw [if_neg h0]; rfl))
      rw [if_neg (fun h1 => hb h1.1)] at h
      injection h with e1 e2
      subst e1
      subst e2
      clear vb0 vb1 hb
      go_enter Tryd.func45, Tryd.ntmps45
      go_wp2_with (first
        | (go_at_call 59; refine HA.out.mono ?_; rintro e w1 ⟨rfl, hb1⟩; have HB1 := Aside0.mk hb1; clear hb1)
        | (go_at_call 60; refine (HI.out _).mono ?_; rintro e w2 ⟨rfl, hd2⟩; have HD2 := Aside0.mk hd2; clear hd2))
      go_ret2
      exact ⟨rfl, below_step HB1.out HD2.out.below⟩
  · have HA := Aside0.mk (show Calls Tryd.prog 59 #[.string a0] w fun e w' => ∃ N, e = .returned (.tuple #[.int .i64 0, .iface 85 (.pointer (some ⟨N, 0, none⟩))]) ∧ Below w.heap.size w w' from
      (Any.strconv_Atoi_syntax_var Tryd.laysC172 a0 (by omega) hx ts ps w hES).mono fun e w' ⟨N, he, _, _, hb⟩ => ⟨N, he, hb⟩)
    rw [hx] at h
    injection h with e1 e2
    subst e1
    subst e2
    clear hx hpow hER hES htab hs
    go_enter Tryd.func45, Tryd.ntmps45
    go_wp2_with (go_at_call 59; refine HA.out.mono ?_; rintro e w1 ⟨N1, rfl, hb1⟩; have HB1 := Aside0.mk hb1; clear hb1)
    go_ret2
    exact ⟨rfl, HB1.out⟩
  · have HA := Aside0.mk (show Calls Tryd.prog 59 #[.string a0] w fun e w' => ∃ N, e = .returned (.tuple #[.int .i64 (Lib.atoiSat a0.data.toList), .iface 85 (.pointer (some ⟨N, 0, none⟩))]) ∧ Below w.heap.size w w' from
      (Any.strconv_Atoi_range_var Tryd.laysC172 a0 (by omega) hx tr pr w hER).mono fun e w' ⟨N, he, _, _, hb⟩ => ⟨N, he, hb⟩)
    rw [hx] at h
    injection h with e1 e2
    subst e1
    subst e2
    generalize Lib.atoiSat a0.data.toList = sat at HA
    clear hx hpow hER hES htab hs
    go_enter Tryd.func45, Tryd.ntmps45
    go_wp2_with (go_at_call 59; refine HA.out.mono ?_; rintro e w1 ⟨N1, rfl, hb1⟩; have HB1 := Aside0.mk hb1; clear hb1)
    go_ret2
    exact ⟨rfl, HB1.out⟩
end Go.Proofs.YtpkfdjlmflmilaaDoor.Q
