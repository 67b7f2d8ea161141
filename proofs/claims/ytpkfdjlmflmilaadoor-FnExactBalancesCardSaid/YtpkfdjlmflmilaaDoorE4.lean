/- The contract of impl.StoreOK. -/
import Derived.Test.YtpkfdjlmflmilaaDoorProg
import Derived.Test.YtpkfdjlmflmilaaDoorWMore
import Derived.Test.YtpkfdjlmflmilaaDoorQ0
import Derived.WalkKit
import Derived.Lib.Walk
import Derived.WalkLawsBesides
import Derived.WalkSpells
import Derived.Deep.LoopGhost
import Derived.Deep.Draws
import Derived.Deep.QuietTactic
import Derived.BigQuiet
namespace Go.Proofs.YtpkfdjlmflmilaaDoor.Q
open Go.RowKit Go.Proofs.YtpkfdjlmflmilaaDoorW.PrintWords Go.Proofs.YtpkfdjlmflmilaaDoorW.PrintLast Go.Proofs.YtpkfdjlmflmilaaDoorW.PrintMore
set_option linter.unusedVariables false
set_option linter.unusedSimpArgs false

def keyB (s : ByteArray) : Bool := decide (1 ≤ s.size) && decide (s.size ≤ 60)
def valB (s : ByteArray) : Bool := decide (s.size ≤ 1000)
theorem within_any (n a b : Int) (W : World) : Calls Tryd.prog 57 #[.int .i64 n, .int .i64 a, .int .i64 b] W fun e w' => e = .returned (.bool (decide (a ≤ n) && decide (n ≤ b))) ∧ w' = W := by
  by_cases h : a ≤ n
  · have h1 : decide (a ≤ n) = true := decide_eq_true h
    go_enter Tryd.func57, Tryd.ntmps57
    go_wp2
    go_ret
    exact ⟨by simp; intro _; exact h, rfl⟩
  · have h1 : decide (a ≤ n) = false := decide_eq_false h
    have h2 : n < a := by omega
    clear h
    go_enter Tryd.func57, Tryd.ntmps57
    go_wp2
    go_ret
    exact ⟨by simp; intro _; omega, rfl⟩
theorem isKey_any (s : ByteArray) (W : World) : Calls Tryd.prog 55 #[.string s] W fun e w' => e = .returned (.bool (keyB s)) ∧ w' = W := by
  have hk : (decide ((1 : Int) ≤ (s.size : Int)) && decide ((s.size : Int) ≤ 60)) = keyB s := by unfold keyB; congr 1 <;> (rw [decide_eq_decide]; omega)
  have H := Aside0.mk hk
  clear hk
  go_enter Tryd.func55, Tryd.ntmps55
  go_wp2_with (go_at_call 57; refine (within_any _ _ _ _).mono ?_; rintro e w' ⟨rfl, rfl⟩)
  go_ret
  exact ⟨by rw [← H.out]; rfl, rfl⟩
theorem isValue_any (s : ByteArray) (W : World) : Calls Tryd.prog 56 #[.string s] W fun e w' => e = .returned (.bool (valB s)) ∧ w' = W := by
  have hk : decide ((s.size : Int) ≤ 1000) = valB s := by unfold valB; rw [decide_eq_decide]; omega
  have H := Aside0.mk hk
  clear hk
  go_enter Tryd.func56, Tryd.ntmps56
  go_wp2
  go_ret
  exact ⟨by rw [← H.out]; rfl, rfl⟩

/-- Pair i is right, and stands behind the one ahead of it. -/
def riseB (l : List S45) (i : Nat) : Bool := decide (i = 0) || Op.bytesLess (l.getD (i - 1) z45).f0.toList (l.getD i z45).f0.toList
def pairB (l : List S45) (i : Nat) : Bool := keyB (l.getD i z45).f0 && (valB (l.getD i z45).f1 && riseB l i)
def rightB (l : List S45) : Bool := (List.range l.length).all (pairB l) && decide (l.length ≤ 400)
theorem right_no (l : List S45) (i : Nat) (hi : i < l.length) (h : pairB l i = false) : rightB l = false := by
  unfold rightB
  have : (List.range l.length).all (pairB l) = false := by
    rw [Bool.eq_false_iff]
    intro ha
    have := List.all_eq_true.1 ha i (List.mem_range.2 hi)
    rw [h] at this
    cases this
  rw [this, Bool.false_and]
theorem right_yes (l : List S45) (h : ∀ i, i < l.length → pairB l i = true) : rightB l = decide (l.length ≤ 400) := by
  unfold rightB
  have : (List.range l.length).all (pairB l) = true := List.all_eq_true.2 fun i hi => h i (List.mem_range.1 hi)
  rw [this, Bool.true_and]

-- EXT loop.example/g00298/impl.StoreOK impl_StoreOK 1 0
def impl_StoreOK.f (l0 : List S45) : Option Bool := some (rightB l0)
set_option maxHeartbeats 8000000 in
set_option maxRecDepth 100000 in
theorem impl_StoreOK.calls (A0 : Option Addr) (c0 : Nat) (l0 : List S45) (r : Bool) (w : World) (hr0 : Kd.C k45 w A0 l0.length l0) (hc0 : l0.length ≤ c0) (h : impl_StoreOK.f l0 = some r) :
    Calls Tryd.prog 42 #[.slice A0 l0.length c0] w fun e w' => e = .returned (.bool r) ∧ Below w.heap.size w w' := by
  injection h with h
  have hbig := hr0.2.1
  have HR := Aside0.mk hr0
  clear hr0
  have HB0 := Aside0.mk (Below.refl w.heap.size w)
  have hu := Tryd.underlying45
  have HRES := Aside0.mk h
  clear h
  have HNO := Aside0.mk (fun i hi (h : pairB l0 i = false) => (HRES.out.symm.trans (right_no l0 i hi h) : r = false))
  have HYES := Aside0.mk (fun (h : ∀ i, i < l0.length → pairB l0 i = true) => (HRES.out.symm.trans (right_yes l0 h) : r = decide (l0.length ≤ 400)))
  clear HRES
  generalize hn : l0.length = n at hbig HR HNO HYES hc0 ⊢
  clear hn hc0
  go_enter Tryd.func42, Tryd.ntmps42
  go_wp2
  go_loopg [7] n (fun gg s7 wr => ∃ i : Nat, i ≤ n ∧ n - i ≤ gg ∧ s7 = .int .i64 i ∧ Aside0 (Below w.heap.size w wr) ∧ Aside0 (∀ j, j < i → pairB l0 j = true))
  case atStart => exact ⟨0, Nat.zero_le _, by omega, rfl, HB0, ⟨fun j hj => absurd hj (Nat.not_lt_zero _)⟩⟩
  case round =>
    obtain ⟨i, hin, hg, rfl, HB, HI⟩ := hrel
    by_cases hlt : i < n
    · have hltz : (i : Int) < (n : Int) := by omega
      obtain ⟨ad, hA, hx0, hx1⟩ := at_T45 HR.out (i : Int) (by omega) (by omega)
      subst hA
      simp only [Int.toNat_natCast, rd_T45] at hx0 hx1
      replace hx0 := (HB.out.cell (World.block_lt_of_cell? w _ hx0)).trans hx0
      replace hx1 := (HB.out.cell (World.block_lt_of_cell? w _ hx1)).trans hx1
      have HP := Aside0.mk (show pairB l0 i = (keyB (l0.getD i z45).f0 && (valB (l0.getD i z45).f1 && riseB l0 i)) from rfl)
      have HRI := Aside0.mk (show riseB l0 i = (decide (i = 0) || Op.bytesLess (l0.getD (i - 1) z45).f0.toList (l0.getD i z45).f0.toList) from rfl)
      generalize hs0 : (l0.getD i z45).f0 = s0 at hx0 HP HRI
      generalize hs1 : (l0.getD i z45).f1 = s1 at hx1 HP HRI
      clear hs0 hs1
      cases hk : keyB s0 with
      | false =>
        have hr : r = false := HNO.out i hlt (by rw [HP.out, hk]; rfl)
        subst hr
        clear HNO HYES HP HRI HI HR
        go_wp2_with fail
        go_quiet (first | (go_at_call 55; exact Calls.quiet_of_same (isKey_any _ _)) | (go_at_call 56; exact Calls.quiet_of_same (isValue_any _ _)))
        go_wp2
        go_ret
        exact ⟨rfl, (by repeat (first | exact HB.out | apply pw_below_drewN | apply below_drew1 | apply below_alloc))⟩
      | true =>
        cases hv : valB s1 with
        | false =>
          have hr : r = false := HNO.out i hlt (by rw [HP.out, hk, hv]; rfl)
          subst hr
          clear HNO HYES HP HRI HI HR
          go_wp2_with fail
          go_quiet (first | (go_at_call 55; exact Calls.quiet_of_same (isKey_any _ _)) | (go_at_call 56; exact Calls.quiet_of_same (isValue_any _ _)))
          go_wp2
          go_ret
          exact ⟨rfl, (by repeat (first | exact HB.out | apply pw_below_drewN | apply below_drew1 | apply below_alloc))⟩
        | true =>
          by_cases hi0 : i = 0
          · have hr' : riseB l0 i = true := by rw [HRI.out, decide_eq_true hi0]; rfl
            have c0b : decide ((0 : Int) < (i : Int)) = false := decide_eq_false (by omega)
            have c0c : decide (0 < i) = false := decide_eq_false (by omega)
            have HI0 := Aside0.mk hi0
            clear hi0
            have hp : pairB l0 i = true := by rw [HP.out, hk, hv, hr']; rfl
            have HI2 : Aside0 (∀ j, j < i + 1 → pairB l0 j = true) := ⟨fun j hj => by
              by_cases e : j = i
              · rw [e]; exact hp
              · exact HI.out j (by omega)⟩
            clear hp HP HRI HI
            go_wp2_with fail
            go_quiet (first | (go_at_call 55; exact Calls.quiet_of_same (isKey_any _ _)) | (go_at_call 56; exact Calls.quiet_of_same (isValue_any _ _)))
            go_wp2
            go_roundg (n - (i + 1))
            case measure => omega
            case rel => exact ⟨i + 1, by omega, by omega, by go_num, ⟨(by repeat (first | exact HB.out | apply pw_below_drewN | apply below_drew1 | apply below_alloc))⟩, HI2⟩
          · have c0b : decide ((0 : Int) < (i : Int)) = true := decide_eq_true (by omega)
            have c0c : decide (0 < i) = true := decide_eq_true (by omega)
            have hi1 : (1 : Int) ≤ (i : Int) := by omega
            have hlt1 : (i : Int) - 1 < (n : Int) := by omega
            obtain ⟨ad', hA', hy0, hy1⟩ := at_T45 HR.out ((i : Int) - 1) (by omega) hlt1
            cases hA'
            rw [show ((i : Int) - 1).toNat = i - 1 by omega] at hy0
            simp only [rd_T45] at hy0
            rw [show ((i : Int) - 1).toNat = i - 1 by omega] at hy0
            clear hy1
            replace hy0 := (HB.out.cell (World.block_lt_of_cell? w _ hy0)).trans hy0
            have hrise : riseB l0 i = Op.bytesLess (l0.getD (i - 1) z45).f0.toList s0.toList := by rw [HRI.out, decide_eq_false hi0, Bool.false_or]
            generalize (l0.getD (i - 1) z45).f0 = s2 at hy0 hrise HRI
            have hz0 : ∀ o, (wr.alloc o).cell? (ad.add ((i - 1) * 2)) = some (.string s2) := fun o => (World.cell?_alloc_lt _ _ _ (World.block_lt_of_cell? wr _ hy0)).trans hy0
            clear hi0
            cases hb : Op.bytesLess s2.toList s0.toList with
            | false =>
              rw [hb] at hrise
              have hr : r = false := HNO.out i hlt (by rw [HP.out, hk, hv, hrise]; rfl)
              subst hr
              clear HNO HYES HP HRI HI HR hrise
              go_wp2_with fail
              go_quiet (first | (go_at_call 55; exact Calls.quiet_of_same (isKey_any _ _)) | (go_at_call 56; exact Calls.quiet_of_same (isValue_any _ _)))
              go_wp2
              go_ret
              exact ⟨rfl, (by repeat (first | exact HB.out | apply pw_below_drewN | apply below_drew1 | apply below_alloc))⟩
            | true =>
              rw [hb] at hrise
              have HRS := Aside0.mk hrise
              clear hrise
              have hp : pairB l0 i = true := by rw [HP.out, hk, hv, HRS.out]; rfl
              have HI2 : Aside0 (∀ j, j < i + 1 → pairB l0 j = true) := ⟨fun j hj => by
                by_cases e : j = i
                · rw [e]; exact hp
                · exact HI.out j (by omega)⟩
              clear hp HP HRI HI
              go_wp2_with fail
              go_quiet (first | (go_at_call 55; exact Calls.quiet_of_same (isKey_any _ _)) | (go_at_call 56; exact Calls.quiet_of_same (isValue_any _ _)))
              go_wp2
              go_roundg (n - (i + 1))
              case measure => omega
              case rel => exact ⟨i + 1, by omega, by omega, by go_num, ⟨(by repeat (first | exact HB.out | apply pw_below_drewN | apply below_drew1 | apply below_alloc))⟩, HI2⟩
    · have : i = n := by omega
      subst this
      have hr : r = decide ((i : Int) ≤ 400) := by rw [HYES.out HI.out, decide_eq_decide]; omega
      have H := Aside0.mk hr
      clear hr HNO HYES HI
      go_wp2
      go_ret
      exact ⟨by rw [H.out]; rfl, HB.out⟩
end Go.Proofs.YtpkfdjlmflmilaaDoor.Q
