/- The contract of the reader of drawn bytes (*l00Src).byte. -/
import Derived.Test.YtfgnhghadghdkaaDoorQ3
import Derived.Deep.QuietTactic
import Derived.BigQuiet
import Derived.BigRegion
namespace Go.Proofs.YtfgnhghadghdkaaDoor.Q
open Go.RowKit Go.Proofs.YtfgnhghadghdkaaDoorW.PrintWords Go.Proofs.YtfgnhghadghdkaaDoorW.PrintLast Go.Proofs.YtfgnhghadghdkaaDoorW.PrintMore
set_option linter.unusedVariables false
set_option linter.unusedSimpArgs false
-- EXT (*loop.example/g00298/spec.l00Src).byte spec_l00Src_byte 1 0
def spec_l00Src_byte.f (l : List Int) (a s : Int) : Option (Int × Int × Int) :=
  if wrap64 (a + 1) ≤ (l.length : Int) then (if 0 ≤ wrap64 (wrap64 (a + 1) - 1) then (if wrap64 (wrap64 (a + 1) - 1) < (l.length : Int) then some (wrap64 (rd l (wrap64 (wrap64 (a + 1) - 1))), wrap64 (a + 1), Int.tmod (wrap64 (wrap64 (wrap64 (s * 31) + wrap64 (rd l (wrap64 (wrap64 (a + 1) - 1)))) + 7)) 2147483648) else none) else none)
  else if wrap64 (a + 1) > 3000 then some (0, wrap64 (a + 1), s)
  else some (Int.tmod (wrap64 (Int.tdiv (Int.tmod (wrap64 (wrap64 (s * 1103515245) + 12345)) 2147483648) 65536)) 256, wrap64 (a + 1), Int.tmod (wrap64 (wrap64 (s * 1103515245) + 12345)) 2147483648)
theorem add_blk (a : Addr) (i : Nat) : (a.add i).block = a.block := by unfold Addr.add; split <;> rfl
theorem i64_wrap (n : Int) : IntKind.i64.wrap n = wrap64 n := i64_w n
theorem keep_set (w : World) (g i : Nat) (u : Value) : KeepBut w (w.setCell ⟨g, i, none⟩ u) g none := ⟨by simp [World.setCell], fun k hk hg _ => Below.heap_setCell w _ u k hg⟩
theorem keep_drew {w W : World} {g : Nat} (h : KeepBut w W g none) : KeepBut w W.drew g none := h
theorem keep_drewN {w W : World} {g : Nat} (h : KeepBut w W g none) (n : Nat) : KeepBut w (W.drewN n) g none := h
set_option maxHeartbeats 8000000 in
set_option maxRecDepth 100000 in
theorem spec_l00Src_byte.calls (g : Nat) (l : List Int) (a s : Int) (r a' s' : Int) (w0 w : World) (hI : IsS48 w0 w g l a s) (hB : Below w0.heap.size w0 w) (h : spec_l00Src_byte.f l a s = some (r, a', s')) :
    Calls Tryd.prog 33 #[.pointer (some ⟨g, 0, none⟩)] w fun e w' => e = .returned (.int .i64 r) ∧ IsS48 w0 w' g l a' s' ∧ Below w0.heap.size w0 w' ∧ KeepBut w w' g none := by
  unfold spec_l00Src_byte.f at h
  obtain ⟨A0, c0, hg, hge, hC⟩ := hI
  obtain ⟨p, hp⟩ : ∃ p, wrap64 (a + 1) = p := ⟨_, rfl⟩
  have hp' : IntKind.i64.wrap (a + 1) = p := by rw [i64_wrap]; exact hp
  have hu := Tryd.underlying48
  have hub := Tryd.underlying28
  rw [hp] at h
  have HG := Aside0.mk hg
  have HB := Aside0.mk hB
  have hc0 : w.cell? ⟨g, 0, none⟩ = some (.slice A0 l.length c0) := (blk_cell hg 0).trans rfl
  have hc1 : w.cell? ⟨g, 1, none⟩ = some (.int .i64 a) := (blk_cell hg 1).trans rfl
  have hc2 : w.cell? ⟨g, 2, none⟩ = some (.int .i64 s) := (blk_cell hg 2).trans rfl
  have hf1 := blk_frozen hg 1
  have hf2 := blk_frozen hg 2
  by_cases h1 : p ≤ (l.length : Int)
  · rw [if_pos h1] at h
    obtain ⟨i, hi⟩ : ∃ i, wrap64 (p - 1) = i := ⟨_, rfl⟩
    have hi' : IntKind.i64.wrap (p - 1) = i := by rw [i64_wrap]; exact hi
    rw [hi] at h
    by_cases h2 : 0 ≤ i
    · by_cases h3 : i < (l.length : Int)
      · rw [if_pos h2, if_pos h3] at h
        obtain ⟨b, hb⟩ : ∃ b, rd l i = b := ⟨_, rfl⟩
        rw [hb] at h
        obtain ⟨c, hc⟩ : ∃ c, wrap64 b = c := ⟨_, rfl⟩
        obtain ⟨v, hv⟩ : ∃ v, wrap64 (s * 31) = v := ⟨_, rfl⟩
        rw [hc, hv] at h
        obtain ⟨u, hu0⟩ : ∃ u, wrap64 (v + c) = u := ⟨_, rfl⟩
        rw [hu0] at h
        obtain ⟨x, hx⟩ : ∃ x, wrap64 (u + 7) = x := ⟨_, rfl⟩
        rw [hx] at h
        obtain ⟨q, hq⟩ : ∃ q, Int.tmod x 2147483648 = q := ⟨_, rfl⟩
        rw [hq] at h
        injection h with h
        injection h with e1 h
        injection h with e2 e3
        subst e1
        subst e2
        subst e3
        have hc' : IntKind.i64.wrap b = c := by rw [i64_wrap]; exact hc
        have hv' : IntKind.i64.wrap (s * 31) = v := by rw [i64_wrap]; exact hv
        have hu' : IntKind.i64.wrap (v + c) = u := by rw [i64_wrap]; exact hu0
        have hx' : IntKind.i64.wrap (u + 7) = x := by rw [i64_wrap]; exact hx
        obtain ⟨ad, hA, hcell⟩ := Kd.at_int hC i h2 h3
        subst hA
        rw [hb] at hcell
        have hne : ad.block ≠ g := by
          have := World.block_lt_of_cell? w0 _ hcell
          rw [add_blk] at this
          omega
        have hcw : w.cell? (ad.add i.toNat) = some (.int .u8 b) := (hB.cell (World.block_lt_of_cell? w0 _ hcell)).trans hcell
        have hcw1 : ∀ y, (w.setCell ⟨g, 1, none⟩ y).cell? (ad.add i.toNat) = some (.int .u8 b) := fun y => (World.cell?_of_block (Below.heap_setCell w ⟨g, 1, none⟩ y _ (by rw [add_blk]; exact hne))).trans hcw
        have hcw2 : ∀ y m z, (((w.setCell ⟨g, 1, none⟩ y).drewN m).setCell ⟨g, 2, none⟩ z).cell? (ad.add i.toNat) = some (.int .u8 b) := fun y m z => (World.cell?_of_block (Below.heap_setCell _ ⟨g, 2, none⟩ z _ (by rw [add_blk]; exact hne))).trans (hcw1 y)
        have hres : Aside0 (IsS48 w0 (w.setCell ⟨g, 1, none⟩ (.int .i64 p)) g l p s) := ⟨IsS48.set_1 ⟨_, c0, hg, hge, hC⟩ p⟩
        have HBW : Aside0 (Below w0.heap.size w0 (w.setCell ⟨g, 1, none⟩ (.int .i64 p))) := ⟨below_set hB hge⟩
        have HK : Aside0 (KeepBut w (w.setCell ⟨g, 1, none⟩ (.int .i64 p)) g none) := ⟨keep_set w g 1 _⟩
        clear hg hB hC hp hv hu0 hx hc hi hb hcell hcw
        generalize l.length = n at *
        go_enter Tryd.func33, Tryd.ntmps33
        go_wp2_with fail
        go_quiet (fail)
        go_wp2
        go_region
        all_goals
          go_wp2_with fail
          go_quiet (fail)
          go_wp2
          go_ret
          exact ⟨rfl, by repeat (first | exact hres.out | apply IsS48.drewN | apply IsS48.drew | apply IsS48.set_2), by repeat (first | exact HBW.out | apply pw_below_drewN | apply below_drew1 | refine below_set ?_ hge), by repeat (first | exact HK.out | apply keep_drewN | apply keep_drew | apply KeepBut.set_)⟩
      · rw [if_pos h2, if_neg h3] at h
        cases h
    · rw [if_neg h2] at h
      cases h
  · rw [if_neg h1] at h
    by_cases h2 : p > 3000
    · rw [if_pos h2] at h
      injection h with h
      injection h with e1 h
      injection h with e2 e3
      subst e1
      subst e2
      subst e3
      have hres : Aside0 (IsS48 w0 (w.setCell ⟨g, 1, none⟩ (.int .i64 p)) g l p s) := ⟨IsS48.set_1 ⟨A0, c0, hg, hge, hC⟩ p⟩
      have h1' : ¬ (p ≤ (l.length : Int)) := h1
      clear hg hB hC hp
      generalize l.length = n at *
      go_enter Tryd.func33, Tryd.ntmps33
      go_wp2_with fail
      go_quiet (fail)
      go_wp2
      go_ret
      exact ⟨rfl, IsS48.drewN hres.out _, pw_below_drewN (below_set HB.out hge) _, keep_drewN (keep_set w g 1 _) _⟩
    · rw [if_neg h2] at h
      obtain ⟨q, hq⟩ : ∃ q, Int.tmod (wrap64 (wrap64 (s * 1103515245) + 12345)) 2147483648 = q := ⟨_, rfl⟩
      obtain ⟨u, hu0⟩ : ∃ u, wrap64 (wrap64 (s * 1103515245) + 12345) = u := ⟨_, rfl⟩
      obtain ⟨v, hv⟩ : ∃ v, wrap64 (s * 1103515245) = v := ⟨_, rfl⟩
      obtain ⟨x, hx⟩ : ∃ x, wrap64 (Int.tdiv q 65536) = x := ⟨_, rfl⟩
      rw [hq, hx] at h
      injection h with h
      injection h with e1 h
      injection h with e2 e3
      subst e1
      subst e2
      subst e3
      have hv' : IntKind.i64.wrap (s * 1103515245) = v := by rw [i64_wrap]; exact hv
      have hu' : IntKind.i64.wrap (v + 12345) = u := by rw [i64_wrap, ← hv]; exact hu0
      have hq' : Int.tmod u 2147483648 = q := by rw [← hu0]; exact hq
      have hx' : IntKind.i64.wrap (Int.tdiv q 65536) = x := by rw [i64_wrap]; exact hx
      have hres : Aside0 (IsS48 w0 (w.setCell ⟨g, 1, none⟩ (.int .i64 p)) g l p s) := ⟨IsS48.set_1 ⟨A0, c0, hg, hge, hC⟩ p⟩
      have h1' : ¬ (p ≤ (l.length : Int)) := h1
      have h2' : ¬ (3000 < p) := h2
      clear hg hB hC hp hv hu0 hx hq h2
      generalize l.length = n at *
      go_enter Tryd.func33, Tryd.ntmps33
      go_wp2_with fail
      go_quiet (fail)
      go_wp2
      go_ret
      exact ⟨rfl, IsS48.set_2 (IsS48.drewN hres.out _) _, below_set (pw_below_drewN (below_set HB.out hge) _) hge, (keep_drewN (keep_set w g 1 _) _).set_ _ _⟩
end Go.Proofs.YtfgnhghadghdkaaDoor.Q
