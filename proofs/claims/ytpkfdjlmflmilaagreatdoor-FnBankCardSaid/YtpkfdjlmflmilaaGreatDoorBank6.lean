/- The theorem of this text: the law's own given statement, for all arguments; no condition stands ahead of it. -/
import Derived.Deep.RegionLaw
import Derived.KernelRfl
import Derived.Deep.Cut
import Derived.Test.YtpkfdjlmflmilaaGreatDoorProg
import Derived.Lib.SmallJoins
import Derived.Deep.Slices
import Derived.Deep.Fields
import Derived.Test.YtpkfdjlmflmilaaGreatDoorCards
import Derived.Test.YtpkfdjlmflmilaaGreatDoorTie
import Derived.WalkKit
import Derived.ProofKit
import Derived.OpenShut
import Derived.ShutString
import Derived.ChangeOld
import Derived.Below
import Derived.SizedLaws
import Derived.Deep.DeepWitnessRowRef
import Derived.Test.YtpkfdjlmflmilaaGreatDoorBank1
import Derived.Test.YtpkfdjlmflmilaaGreatDoorBank2
import Derived.Test.YtpkfdjlmflmilaaGreatDoorBank3
import Derived.Test.YtpkfdjlmflmilaaGreatDoorBank4
import Derived.Test.YtpkfdjlmflmilaaGreatDoorBank5
section
namespace Go.Proofs.YtpkfdjlmflmilaaGreatDoor.Q
open Go.RowKit Go.Proofs.YtpkfdjlmflmilaaGreatDoorW.PrintWords Go.Proofs.YtpkfdjlmflmilaaGreatDoorW.PrintLast Go.Proofs.YtpkfdjlmflmilaaGreatDoorW.PrintMore Go.Proofs.YtpkfdjlmflmilaaGreatDoor.Pure
set_option linter.unusedVariables false
set_option linter.unusedSimpArgs false
set_option maxHeartbeats 8000000 in
set_option maxRecDepth 100000 in
theorem all_mint (A0 : Option Addr) (c0 gr g1 g2 g3 : Nat) (l0 : List S56) (a d : ByteArray) (n : Int) (w : World) (hr0 : Kd.C k56 w A0 l0.length l0) (hc0 : l0.length ≤ c0) (htab : Tb.TB w) (hrt : rightB l0 = true) (hza : a.size ≤ 65536) (hzd : d.size ≤ 65536) (h0 : 1 ≤ n) (h1 : n ≤ 1000000000000000000)
    (b1 : w.cell? ⟨g1, 0, none⟩ = some (.string d)) (b2 : w.cell? ⟨g2, 0, none⟩ = some (.string a)) (b3 : w.cell? ⟨g3, 0, none⟩ = some (.int .i64 n)) (hgr : gr < w.heap.size)
    (hx0 : w.cell? ⟨gr, 0, none⟩ = some (.func (.func 67) #[] #[.pointer (some ⟨g1, 0, none⟩), .pointer (some ⟨g3, 0, none⟩)])) (hx1 : w.cell? ⟨gr, 1, none⟩ = some (.func (.func 69) #[] #[.pointer (some ⟨g1, 0, none⟩), .pointer (some ⟨g2, 0, none⟩), .pointer (some ⟨g3, 0, none⟩)])) :
    Calls Tryz.prog 62 #[.slice A0 l0.length c0, .slice (some ⟨gr, 0, none⟩) 2 2] w fun e w' => ∃ v, e = .returned (.tuple #[v, .int .i64 (twoN l0 (sKey d) n (bKey a d) n).2]) ∧ Kd.R k56 56 w' w.heap.size (fun _ => True) v (twoN l0 (sKey d) n (bKey a d) n).1 ∧ Below w.heap.size w w' := by
  have hlr := right_len hrt
  have hokv := okV_right hrt
  have hl2 := add_len l0 (sKey d) n
  have ho2 := add_ok hokv (sKey d) n
  have hde := drop_empty hrt
  have HA := all_mint_calls A0 c0 gr g1 g2 g3 l0 (addN l0 (sKey d) n).1 (addN (addN l0 (sKey d) n).1 (bKey a d) n).1 (addN l0 (sKey d) n).2 (addN (addN l0 (sKey d) n).1 (bKey a d) n).2 w hgr hx0 hx1
    ⟨fun W hb => (impl_drop.calls A0 c0 l0 ⟨#[]⟩ l0 5 W (Kd.C_below hr0 hb) hc0 (by unfold impl_drop.f; rw [if_pos (by omega), hde])).mono fun e w' h => h⟩
    ⟨fun W A c hb hC hc => Calls.mono (zmint_1_1_calls (.slice A l0.length c) g1 g3 d (sKey d) n _ _ W (cell_keep b1 hb) (cell_keep b3 hb) ⟨fun W => impl_supplyKey.calls d _ W (impl_skeyY d hzd)⟩ ⟨fun W' hb2 => more_at (sKey d) n hb hC hc htab (by omega) hokv h0 h1 hb2⟩) (fun e w' ⟨v, he, hR, hB⟩ => ⟨v, he, hR, hB.mono hb.size⟩)⟩
    ⟨fun W A c hb hC hc => Calls.mono (zmint_1_2_calls (.slice A (addN l0 (sKey d) n).1.length c) g1 g2 g3 d a (bKey a d) n _ _ W (cell_keep b1 hb) (cell_keep b2 hb) (cell_keep b3 hb) ⟨fun W => impl_balanceKey.calls d a _ W (impl_bkeyY a d hza hzd)⟩ ⟨fun W' hb2 => more_at (bKey a d) n hb hC hc htab (by omega) ho2 h0 h1 hb2⟩) (fun e w' ⟨v, he, hR, hB⟩ => ⟨v, he, hR, hB.mono hb.size⟩)⟩
  refine HA.mono ?_
  rintro e w' ⟨v, rfl, hR, hB⟩
  refine ⟨v, ?_, ?_, hB⟩
  · unfold twoN
    by_cases c1 : (addN l0 (sKey d) n).2 = 0
    · rw [if_pos c1, if_pos c1]
      by_cases c2 : (addN (addN l0 (sKey d) n).1 (bKey a d) n).2 = 0
      · rw [if_pos c2, if_pos c2]
      · rw [if_neg c2, if_neg c2]
    · rw [if_neg c1, if_neg c1]
  · unfold twoN
    by_cases c1 : (addN l0 (sKey d) n).2 = 0
    · rw [if_pos c1] at hR ⊢
      by_cases c2 : (addN (addN l0 (sKey d) n).1 (bKey a d) n).2 = 0
      · rw [if_pos c2] at hR ⊢
        exact hR
      · rw [if_neg c2] at hR ⊢
        exact hR
    · rw [if_neg c1] at hR ⊢
      exact hR
set_option maxHeartbeats 8000000 in
set_option maxRecDepth 100000 in
theorem mint1_calls (A0 : Option Addr) (c0 g1 g2 g3 : Nat) (l0 : List S56) (a d : ByteArray) (n : Int) (w : World) (hr0 : Kd.C k56 w A0 l0.length l0) (hc0 : l0.length ≤ c0) (htab : Tb.TB w) (hrt : rightB l0 = true) (hza : a.size ≤ 65536) (hzd : d.size ≤ 65536) (h0 : 1 ≤ n) (h1 : n ≤ 1000000000000000000)
    (b1 : w.cell? ⟨g1, 0, none⟩ = some (.string d)) (b2 : w.cell? ⟨g2, 0, none⟩ = some (.string a)) (b3 : w.cell? ⟨g3, 0, none⟩ = some (.int .i64 n)) :
    Calls Tryz.prog 66 #[.slice A0 l0.length c0, .pointer (some ⟨g1, 0, none⟩), .pointer (some ⟨g3, 0, none⟩), .pointer (some ⟨g2, 0, none⟩)] w fun e w' => ∃ v, e = .returned (.tuple #[v, .int .i64 (twoN l0 (sKey d) n (bKey a d) n).2]) ∧ Kd.R k56 56 w' w.heap.size (fun _ => True) v (twoN l0 (sKey d) n (bKey a d) n).1 ∧ Below w.heap.size w w' := by
  have HX := Aside0.mk (fun (W : World) (gr : Nat) (hb : Below w.heap.size w W) => all_mint A0 c0 gr g1 g2 g3 l0 a d n W (Kd.C_below hr0 hb) hc0 (Tb.TB.below htab hb (Nat.le_refl _)) hrt hza hzd h0 h1 (cell_keep b1 hb) (cell_keep b2 hb) (cell_keep b3 hb))
  have HBr := Aside0.mk (Below.refl w.heap.size w)
  clear hr0 hc0 htab hrt hza hzd h0 h1 b1 b2 b3
  generalize (twoN l0 (sKey d) n (bKey a d) n).1 = rr at *
  generalize (twoN l0 (sKey d) n (bKey a d) n).2 = ee at *
  generalize l0.length = len at *
  go_enter Tryz.func66, Tryz.ntmps66
  go_wp2_with (go_at_call 62; (refine (HX.out _ w.heap.size (below_alloc HBr.out _) (alloc_lt _ _) ((blk_cell (heap_alloc_new w _) 0).trans rfl) ((blk_cell (heap_alloc_new w _) 1).trans rfl)).mono ?_; rintro e w2 ⟨v2, rfl, hR2, hb2⟩; have HR2 := Aside0.mk (Kd.R_lower hR2 (below_alloc HBr.out _).size); have HB2 := Aside0.mk ((below_alloc HBr.out _).trans (hb2.mono (below_alloc HBr.out _).size)); clear hR2 hb2))
  go_ret2
  exact ⟨_, rfl, HR2.out, HB2.out⟩
set_option maxHeartbeats 8000000 in
set_option maxRecDepth 100000 in
theorem mint_calls (a d : ByteArray) (n : Int) (w : World) :
    Calls Tryz.prog 39 #[.string a, .string d, .int .i64 n] w fun e w' => ∃ g1 g2 g3, e = .returned (.func (.func 66) #[] #[.pointer (some ⟨g1, 0, none⟩), .pointer (some ⟨g3, 0, none⟩), .pointer (some ⟨g2, 0, none⟩)]) ∧
      w'.cell? ⟨g1, 0, none⟩ = some (.string d) ∧ w'.cell? ⟨g2, 0, none⟩ = some (.string a) ∧ w'.cell? ⟨g3, 0, none⟩ = some (.int .i64 n) ∧ Below w.heap.size w w' := by
  go_enter Tryz.func39, Tryz.ntmps39
  go_wp2
  go_ret
  refine ⟨_, _, _, rfl, ?_, ?_, ?_, ?_⟩
  · have h := c_new (w.alloc (Obj.cells #[Value.string a] 9)) (Value.string d) 9
    simp only [size_one] at h
    exact (cell_keep h ((Below.refl _ _).alloc (Nat.le_refl _) _))
  · have h := c_new w (Value.string a) 9
    exact (cell_keep (cell_keep h ((Below.refl _ _).alloc (Nat.le_refl _) _)) ((Below.refl _ _).alloc (Nat.le_refl _) _))
  · have h := c_new ((w.alloc (Obj.cells #[Value.string a] 9)).alloc (Obj.cells #[Value.string d] 9)) (Value.int .i64 n) 3
    simp only [size_one] at h
    exact h
  · exact (below_alloc (below_alloc (below_alloc (Below.refl _ _) _) _) _)
def impl_Mint.f (l0 : List S56) (a1 a2 : ByteArray) (a3 : Int) : Option (List S56 × Int) := some (bankN l0 [a1, a2] a3 (sKey a2) a3 (bKey a1 a2) a3)
set_option maxHeartbeats 8000000 in
set_option maxRecDepth 100000 in
theorem impl_Mint.calls (A0 : Option Addr) (c0 : Nat) (l0 : List S56) (a1 a2 : ByteArray) (a3 : Int) (r1 : List S56) (r2 : Int) (w : World) (hr0 : Kd.C k56 w A0 l0.length l0) (hc0 : l0.length ≤ c0) (htab : Tb.TB w) (h : impl_Mint.f l0 a1 a2 a3 = some (r1, r2)) :
    Calls Tryz.prog 15 #[.slice A0 l0.length c0, .string a1, .string a2, .int .i64 a3] w fun e w' => ∃ v0_ : Value, e = .returned (.tuple #[v0_, .int .i64 r2]) ∧ Kd.R k56 56 w' w.heap.size (fun _ => True) v0_ r1 ∧ Below w.heap.size w w' := by
  unfold impl_Mint.f at h
  injection h with h
  unfold bankN at h
  have HB := Aside0.mk (Below.refl w.heap.size w)
  have HC := Aside0.mk hr0
  have HK := Aside0.mk hc0
  have HBK := Aside0.mk (impl_bc l0 a3 [a1, a2] (by simp) 140000 (by omega))
  obtain ⟨y1, hy1⟩ : ∃ y_ : List ByteArray, y_ = [a1, a2] := ⟨_, rfl⟩
  have HPR : bcN l0 a3 y1 = 0 → rightB l0 = true ∧ a1.size ≤ 65536 ∧ a2.size ≤ 65536 ∧ 1 ≤ a3 ∧ a3 ≤ 1000000000000000000 := by
    intro hz
    rw [hy1] at hz
    unfold bcN at hz
    split at hz
    · exact absurd hz (by decide)
    · rename_i hlong
      simp only [List.any_cons, List.any_nil, Bool.or_false, Bool.or_eq_true, decide_eq_true_eq] at hlong
      split at hz
      · rename_i hbk
        split at hz
        · rename_i hn
          exact ⟨(bk_zero hbk).1, by omega, by omega, hn.1, hn.2⟩
        · exact absurd hz (by decide)
      · rename_i hbk
        exact absurd hz hbk
  rw [← hy1] at HBK h
  have Ny1 := Aside0.mk hy1
  clear hy1
  generalize bcN l0 a3 y1 = c at *
  by_cases hz : c = 0
  · subst hz
    obtain ⟨hrt, hs1, hs2, hn1, hn2⟩ := HPR rfl
    rw [if_pos rfl] at h
    have e1 : (twoN l0 (sKey a2) a3 (bKey a1 a2) a3).1 = r1 := congrArg Prod.fst h
    have e2 : (twoN l0 (sKey a2) a3 (bKey a1 a2) a3).2 = r2 := congrArg Prod.snd h
    have HX := Aside0.mk (fun (W : World) (g1 g2 g3 : Nat) (hb : Below w.heap.size w W) => mint1_calls A0 c0 g1 g2 g3 l0 a1 a2 a3 W (Kd.C_below hr0 hb) hc0 (Tb.TB.below htab hb (Nat.le_refl _)) hrt hs1 hs2 hn1 hn2)
    rw [e1, e2] at HX
    clear h e1 e2 hn1 hn2 hrt hs1 hs2 HPR hr0 hc0 htab
    go_enter Tryz.func15, Tryz.ntmps15
    go_wp2_with (first | ((with_reducible refine gate_dst (N := 15) rfl ?_); (try (refine gate_guard (by rfl) ?_; dsimp only)); refine Kd.R_lit Kd.string _ 9 ?hg (N := 15) ?hd (xs := ([a1, a2] : List ByteArray)) (inner := [.string a1, .string a2]) (ok := fun _ => True) (okp := fun _ => True) ?hr ?hp (fun _ hk => hk) trivial (Below.refl _ _) (Nat.le_refl _) (by simp) ?_; (case hd => rfl); (case hg => rfl); (case hr => first | (go_simp; done) | (go_simp; rfl)); (case hp => exact (Reps.one (show Kd.M Kd.string _ _ _ a1 [.string a1] from rfl) (Reps.one (show Kd.M Kd.string _ _ _ a2 [.string a2] from rfl) (Reps.none _ _)))); intro v1 w1 ho hb hg_ hnew_; clear hg_ hnew_; (first | rw [← Ny1.out] at ho | (simp only [Int.reduceToNat] at ho; rw [← Ny1.out] at ho)); have HO1 := Aside0.mk (Kd.R_lower ho (below_size (by repeat (first | (with_reducible first | exact HB.out | apply below_alloc | apply pw_below_drewN | apply below_drew1) | exact HB.out)))); have HB1 := Aside0.mk (below_step (by repeat (first | (with_reducible first | exact HB.out | apply below_alloc | apply pw_below_drewN | apply below_drew1) | exact HB.out)) hb); clear ho hb; obtain ⟨A1, c1, eo1⟩ := Kd.R_slice HO1.out; subst eo1) | (go_at_call 34; refine (impl_bankCode.calls 140000 A0 c0 l0 a3 A1 c1 y1 _ _ (Kd.C_below HC.out HB1.out) HK.out (Kd.R_reads' HO1.out).2.2 (Kd.R_reads' HO1.out).2.1 HBK.out).mono ?_; rintro e w2 ⟨rfl, hb2⟩; have HB2 := Aside0.mk (HB1.out.trans (hb2.mono HB1.out.size)); clear hb2) | (go_at_call 39; refine (mint_calls a1 a2 a3 _).mono ?_; rintro e w3 ⟨g1, g2, g3, rfl, b1, b2, b3, hb3⟩; have HC1 := Aside0.mk b1; have HC2 := Aside0.mk b2; have HC3 := Aside0.mk b3; have HB3 := Aside0.mk (HB2.out.trans (hb3.mono HB2.out.size)); clear b1 b2 b3 hb3) | (go_at_call 66; refine (HX.out _ g1 g2 g3 HB3.out HC1.out HC2.out HC3.out).mono ?_; rintro e w4 ⟨v4, rfl, hR4, hb4⟩; have HR4 := Aside0.mk (Kd.R_lower hR4 HB3.out.size); have HB4 := Aside0.mk (HB3.out.trans (hb4.mono HB3.out.size)); clear hR4 hb4))
    go_ret2
    exact ⟨_, rfl, HR4.out, HB4.out⟩
  · rw [if_neg hz] at h
    have e1 : [] = r1 := congrArg Prod.fst h
    have e2 : c = r2 := congrArg Prod.snd h
    subst e1
    subst e2
    clear h HPR hr0 hc0 htab
    have hz1 : (c == 0) = false := by simpa using hz
    have hz2 : (c != 0) = true := by simpa using hz
    clear hz
    go_enter Tryz.func15, Tryz.ntmps15
    go_wp2_with (first | ((with_reducible refine gate_dst (N := 15) rfl ?_); (try (refine gate_guard (by rfl) ?_; dsimp only)); refine Kd.R_lit Kd.string _ 9 ?hg (N := 15) ?hd (xs := ([a1, a2] : List ByteArray)) (inner := [.string a1, .string a2]) (ok := fun _ => True) (okp := fun _ => True) ?hr ?hp (fun _ hk => hk) trivial (Below.refl _ _) (Nat.le_refl _) (by simp) ?_; (case hd => rfl); (case hg => rfl); (case hr => first | (go_simp; done) | (go_simp; rfl)); (case hp => exact (Reps.one (show Kd.M Kd.string _ _ _ a1 [.string a1] from rfl) (Reps.one (show Kd.M Kd.string _ _ _ a2 [.string a2] from rfl) (Reps.none _ _)))); intro v1 w1 ho hb hg_ hnew_; clear hg_ hnew_; (first | rw [← Ny1.out] at ho | (simp only [Int.reduceToNat] at ho; rw [← Ny1.out] at ho)); have HO1 := Aside0.mk (Kd.R_lower ho (below_size (by repeat (first | (with_reducible first | exact HB.out | apply below_alloc | apply pw_below_drewN | apply below_drew1) | exact HB.out)))); have HB1 := Aside0.mk (below_step (by repeat (first | (with_reducible first | exact HB.out | apply below_alloc | apply pw_below_drewN | apply below_drew1) | exact HB.out)) hb); clear ho hb; obtain ⟨A1, c1, eo1⟩ := Kd.R_slice HO1.out; subst eo1) | (go_at_call 34; refine (impl_bankCode.calls 140000 A0 c0 l0 a3 A1 c1 y1 _ _ (Kd.C_below HC.out HB1.out) HK.out (Kd.R_reads' HO1.out).2.2 (Kd.R_reads' HO1.out).2.1 HBK.out).mono ?_; rintro e w2 ⟨rfl, hb2⟩; have HB2 := Aside0.mk (HB1.out.trans (hb2.mono HB1.out.size)); clear hb2))
    go_ret2
    exact ⟨_, rfl, R_nil w2 _, HB2.out⟩
end Go.Proofs.YtpkfdjlmflmilaaGreatDoor.Q
end
section
namespace Go.Proofs.YtpkfdjlmflmilaaGreatDoor.Q
open Go.RowKit Go.Proofs.YtpkfdjlmflmilaaGreatDoorW.PrintWords Go.Proofs.YtpkfdjlmflmilaaGreatDoorW.PrintLast Go.Proofs.YtpkfdjlmflmilaaGreatDoorW.PrintMore Go.Proofs.YtpkfdjlmflmilaaGreatDoor.Pure
set_option linter.unusedVariables false
set_option linter.unusedSimpArgs false
set_option maxHeartbeats 8000000 in
set_option maxRecDepth 100000 in
theorem all_move (A0 : Option Addr) (c0 gr g1 g2 g3 g4 : Nat) (l0 : List S56) (a b d : ByteArray) (n : Int) (w : World) (hr0 : Kd.C k56 w A0 l0.length l0) (hc0 : l0.length ≤ c0) (htab : Tb.TB w) (hrt : rightB l0 = true) (hza : a.size ≤ 65536) (hzb : b.size ≤ 65536) (hzd : d.size ≤ 65536) (h0 : 1 ≤ n) (h1 : n ≤ 1000000000000000000)
    (b1 : w.cell? ⟨g1, 0, none⟩ = some (.string d)) (b2 : w.cell? ⟨g2, 0, none⟩ = some (.string a)) (b3 : w.cell? ⟨g3, 0, none⟩ = some (.int .i64 n)) (b4 : w.cell? ⟨g4, 0, none⟩ = some (.string b)) (hgr : gr < w.heap.size)
    (hx0 : w.cell? ⟨gr, 0, none⟩ = some (.func (.func 71) #[] #[.pointer (some ⟨g1, 0, none⟩), .pointer (some ⟨g2, 0, none⟩), .pointer (some ⟨g3, 0, none⟩)])) (hx1 : w.cell? ⟨gr, 1, none⟩ = some (.func (.func 72) #[] #[.pointer (some ⟨g1, 0, none⟩), .pointer (some ⟨g4, 0, none⟩), .pointer (some ⟨g3, 0, none⟩)])) :
    Calls Tryz.prog 62 #[.slice A0 l0.length c0, .slice (some ⟨gr, 0, none⟩) 2 2] w fun e w' => ∃ v, e = .returned (.tuple #[v, .int .i64 (twoN l0 (bKey a d) (-n) (bKey b d) n).2]) ∧ Kd.R k56 56 w' w.heap.size (fun _ => True) v (twoN l0 (bKey a d) (-n) (bKey b d) n).1 ∧ Below w.heap.size w w' := by
  have hlr := right_len hrt
  have hokv := okV_right hrt
  have hl2 := add_len l0 (bKey a d) (-n)
  have ho2 := add_ok hokv (bKey a d) (-n)
  have hde := drop_empty hrt
  have HA := all_move_calls A0 c0 gr g1 g2 g3 g4 l0 (addN l0 (bKey a d) (-n)).1 (addN (addN l0 (bKey a d) (-n)).1 (bKey b d) n).1 (addN l0 (bKey a d) (-n)).2 (addN (addN l0 (bKey a d) (-n)).1 (bKey b d) n).2 w hgr hx0 hx1
    ⟨fun W hb => (impl_drop.calls A0 c0 l0 ⟨#[]⟩ l0 5 W (Kd.C_below hr0 hb) hc0 (by unfold impl_drop.f; rw [if_pos (by omega), hde])).mono fun e w' h => h⟩
    ⟨fun W A c hb hC hc => Calls.mono (zmove_1_1_calls (.slice A l0.length c) g1 g2 g3 d a (bKey a d) n _ _ W (cell_keep b1 hb) (cell_keep b2 hb) (cell_keep b3 hb) ⟨fun W => impl_balanceKey.calls d a _ W (impl_bkeyY a d hza hzd)⟩ ⟨fun W' hb2 => fewer_at (bKey a d) n hb hC hc htab (by omega) hokv h0 h1 hb2⟩) (fun e w' ⟨v, he, hR, hB⟩ => ⟨v, he, hR, hB.mono hb.size⟩)⟩
    ⟨fun W A c hb hC hc => Calls.mono (zmove_1_2_calls (.slice A (addN l0 (bKey a d) (-n)).1.length c) g1 g4 g3 d b (bKey b d) n _ _ W (cell_keep b1 hb) (cell_keep b4 hb) (cell_keep b3 hb) ⟨fun W => impl_balanceKey.calls d b _ W (impl_bkeyY b d hzb hzd)⟩ ⟨fun W' hb2 => more_at (bKey b d) n hb hC hc htab (by omega) ho2 h0 h1 hb2⟩) (fun e w' ⟨v, he, hR, hB⟩ => ⟨v, he, hR, hB.mono hb.size⟩)⟩
  refine HA.mono ?_
  rintro e w' ⟨v, rfl, hR, hB⟩
  refine ⟨v, ?_, ?_, hB⟩
  · unfold twoN
    by_cases c1 : (addN l0 (bKey a d) (-n)).2 = 0
    · rw [if_pos c1, if_pos c1]
      by_cases c2 : (addN (addN l0 (bKey a d) (-n)).1 (bKey b d) n).2 = 0
      · rw [if_pos c2, if_pos c2]
      · rw [if_neg c2, if_neg c2]
    · rw [if_neg c1, if_neg c1]
  · unfold twoN
    by_cases c1 : (addN l0 (bKey a d) (-n)).2 = 0
    · rw [if_pos c1] at hR ⊢
      by_cases c2 : (addN (addN l0 (bKey a d) (-n)).1 (bKey b d) n).2 = 0
      · rw [if_pos c2] at hR ⊢
        exact hR
      · rw [if_neg c2] at hR ⊢
        exact hR
    · rw [if_neg c1] at hR ⊢
      exact hR
set_option maxHeartbeats 8000000 in
set_option maxRecDepth 100000 in
theorem move1_calls (A0 : Option Addr) (c0 g1 g2 g3 g4 : Nat) (l0 : List S56) (a b d : ByteArray) (n : Int) (w : World) (hr0 : Kd.C k56 w A0 l0.length l0) (hc0 : l0.length ≤ c0) (htab : Tb.TB w) (hrt : rightB l0 = true) (hza : a.size ≤ 65536) (hzb : b.size ≤ 65536) (hzd : d.size ≤ 65536) (h0 : 1 ≤ n) (h1 : n ≤ 1000000000000000000)
    (b1 : w.cell? ⟨g1, 0, none⟩ = some (.string d)) (b2 : w.cell? ⟨g2, 0, none⟩ = some (.string a)) (b3 : w.cell? ⟨g3, 0, none⟩ = some (.int .i64 n)) (b4 : w.cell? ⟨g4, 0, none⟩ = some (.string b)) :
    Calls Tryz.prog 70 #[.slice A0 l0.length c0, .pointer (some ⟨g1, 0, none⟩), .pointer (some ⟨g2, 0, none⟩), .pointer (some ⟨g3, 0, none⟩), .pointer (some ⟨g4, 0, none⟩)] w fun e w' => ∃ v, e = .returned (.tuple #[v, .int .i64 (twoN l0 (bKey a d) (-n) (bKey b d) n).2]) ∧ Kd.R k56 56 w' w.heap.size (fun _ => True) v (twoN l0 (bKey a d) (-n) (bKey b d) n).1 ∧ Below w.heap.size w w' := by
  have HX := Aside0.mk (fun (W : World) (gr : Nat) (hb : Below w.heap.size w W) => all_move A0 c0 gr g1 g2 g3 g4 l0 a b d n W (Kd.C_below hr0 hb) hc0 (Tb.TB.below htab hb (Nat.le_refl _)) hrt hza hzb hzd h0 h1 (cell_keep b1 hb) (cell_keep b2 hb) (cell_keep b3 hb) (cell_keep b4 hb))
  have HBr := Aside0.mk (Below.refl w.heap.size w)
  clear hr0 hc0 htab hrt hza hzb hzd h0 h1 b1 b2 b3 b4
  generalize (twoN l0 (bKey a d) (-n) (bKey b d) n).1 = rr at *
  generalize (twoN l0 (bKey a d) (-n) (bKey b d) n).2 = ee at *
  generalize l0.length = len at *
  go_enter Tryz.func70, Tryz.ntmps70
  go_wp2_with (go_at_call 62; (refine (HX.out _ w.heap.size (below_alloc HBr.out _) (alloc_lt _ _) ((blk_cell (heap_alloc_new w _) 0).trans rfl) ((blk_cell (heap_alloc_new w _) 1).trans rfl)).mono ?_; rintro e w2 ⟨v2, rfl, hR2, hb2⟩; have HR2 := Aside0.mk (Kd.R_lower hR2 (below_alloc HBr.out _).size); have HB2 := Aside0.mk ((below_alloc HBr.out _).trans (hb2.mono (below_alloc HBr.out _).size)); clear hR2 hb2))
  go_ret2
  exact ⟨_, rfl, HR2.out, HB2.out⟩
set_option maxHeartbeats 8000000 in
set_option maxRecDepth 100000 in
theorem move_calls (a b d : ByteArray) (n : Int) (w : World) :
    Calls Tryz.prog 41 #[.string a, .string b, .string d, .int .i64 n] w fun e w' => ∃ g1 g2 g3 g4, e = .returned (.func (.func 70) #[] #[.pointer (some ⟨g1, 0, none⟩), .pointer (some ⟨g2, 0, none⟩), .pointer (some ⟨g3, 0, none⟩), .pointer (some ⟨g4, 0, none⟩)]) ∧
      w'.cell? ⟨g1, 0, none⟩ = some (.string d) ∧ w'.cell? ⟨g2, 0, none⟩ = some (.string a) ∧ w'.cell? ⟨g3, 0, none⟩ = some (.int .i64 n) ∧ w'.cell? ⟨g4, 0, none⟩ = some (.string b) ∧ Below w.heap.size w w' := by
  go_enter Tryz.func41, Tryz.ntmps41
  go_wp2
  go_ret
  refine ⟨_, _, _, _, rfl, ?_, ?_, ?_, ?_, ?_⟩
  · have h := c_new ((w.alloc (Obj.cells #[Value.string a] 9)).alloc (Obj.cells #[Value.string b] 9)) (Value.string d) 9
    simp only [size_one] at h
    exact (cell_keep h ((Below.refl _ _).alloc (Nat.le_refl _) _))
  · have h := c_new w (Value.string a) 9
    exact (cell_keep (cell_keep (cell_keep h ((Below.refl _ _).alloc (Nat.le_refl _) _)) ((Below.refl _ _).alloc (Nat.le_refl _) _)) ((Below.refl _ _).alloc (Nat.le_refl _) _))
  · have h := c_new (((w.alloc (Obj.cells #[Value.string a] 9)).alloc (Obj.cells #[Value.string b] 9)).alloc (Obj.cells #[Value.string d] 9)) (Value.int .i64 n) 3
    simp only [size_one] at h
    exact h
  · have h := c_new (w.alloc (Obj.cells #[Value.string a] 9)) (Value.string b) 9
    simp only [size_one] at h
    exact (cell_keep (cell_keep h ((Below.refl _ _).alloc (Nat.le_refl _) _)) ((Below.refl _ _).alloc (Nat.le_refl _) _))
  · exact (below_alloc (below_alloc (below_alloc (below_alloc (Below.refl _ _) _) _) _) _)
def impl_MoveCoins.f (l0 : List S56) (a1 a2 a3 : ByteArray) (a4 : Int) : Option (List S56 × Int) := some (bankN l0 [a1, a2, a3] a4 (bKey a1 a3) (-a4) (bKey a2 a3) a4)
set_option maxHeartbeats 8000000 in
set_option maxRecDepth 100000 in
theorem impl_MoveCoins.calls (A0 : Option Addr) (c0 : Nat) (l0 : List S56) (a1 a2 a3 : ByteArray) (a4 : Int) (r1 : List S56) (r2 : Int) (w : World) (hr0 : Kd.C k56 w A0 l0.length l0) (hc0 : l0.length ≤ c0) (htab : Tb.TB w) (h : impl_MoveCoins.f l0 a1 a2 a3 a4 = some (r1, r2)) :
    Calls Tryz.prog 17 #[.slice A0 l0.length c0, .string a1, .string a2, .string a3, .int .i64 a4] w fun e w' => ∃ v0_ : Value, e = .returned (.tuple #[v0_, .int .i64 r2]) ∧ Kd.R k56 56 w' w.heap.size (fun _ => True) v0_ r1 ∧ Below w.heap.size w w' := by
  unfold impl_MoveCoins.f at h
  injection h with h
  unfold bankN at h
  have HB := Aside0.mk (Below.refl w.heap.size w)
  have HC := Aside0.mk hr0
  have HK := Aside0.mk hc0
  have HBK := Aside0.mk (impl_bc l0 a4 [a1, a2, a3] (by simp) 140000 (by omega))
  obtain ⟨y1, hy1⟩ : ∃ y_ : List ByteArray, y_ = [a1, a2, a3] := ⟨_, rfl⟩
  have HPR : bcN l0 a4 y1 = 0 → rightB l0 = true ∧ a1.size ≤ 65536 ∧ a2.size ≤ 65536 ∧ a3.size ≤ 65536 ∧ 1 ≤ a4 ∧ a4 ≤ 1000000000000000000 := by
    intro hz
    rw [hy1] at hz
    unfold bcN at hz
    split at hz
    · exact absurd hz (by decide)
    · rename_i hlong
      simp only [List.any_cons, List.any_nil, Bool.or_false, Bool.or_eq_true, decide_eq_true_eq] at hlong
      split at hz
      · rename_i hbk
        split at hz
        · rename_i hn
          exact ⟨(bk_zero hbk).1, by omega, by omega, by omega, hn.1, hn.2⟩
        · exact absurd hz (by decide)
      · rename_i hbk
        exact absurd hz hbk
  rw [← hy1] at HBK h
  have Ny1 := Aside0.mk hy1
  clear hy1
  generalize bcN l0 a4 y1 = c at *
  by_cases hz : c = 0
  · subst hz
    obtain ⟨hrt, hs1, hs2, hs3, hn1, hn2⟩ := HPR rfl
    rw [if_pos rfl] at h
    have e1 : (twoN l0 (bKey a1 a3) (-a4) (bKey a2 a3) a4).1 = r1 := congrArg Prod.fst h
    have e2 : (twoN l0 (bKey a1 a3) (-a4) (bKey a2 a3) a4).2 = r2 := congrArg Prod.snd h
    have HX := Aside0.mk (fun (W : World) (g1 g2 g3 g4 : Nat) (hb : Below w.heap.size w W) => move1_calls A0 c0 g1 g2 g3 g4 l0 a1 a2 a3 a4 W (Kd.C_below hr0 hb) hc0 (Tb.TB.below htab hb (Nat.le_refl _)) hrt hs1 hs2 hs3 hn1 hn2)
    rw [e1, e2] at HX
    clear h e1 e2 hn1 hn2 hrt hs1 hs2 hs3 HPR hr0 hc0 htab
    go_enter Tryz.func17, Tryz.ntmps17
    go_wp2_with (first | ((with_reducible refine gate_dst (N := 18) rfl ?_); (try (refine gate_guard (by rfl) ?_; dsimp only)); refine Kd.R_lit Kd.string _ 9 ?hg (N := 18) ?hd (xs := ([a1, a2, a3] : List ByteArray)) (inner := [.string a1, .string a2, .string a3]) (ok := fun _ => True) (okp := fun _ => True) ?hr ?hp (fun _ hk => hk) trivial (Below.refl _ _) (Nat.le_refl _) (by simp) ?_; (case hd => rfl); (case hg => rfl); (case hr => first | (go_simp; done) | (go_simp; rfl)); (case hp => exact (Reps.one (show Kd.M Kd.string _ _ _ a1 [.string a1] from rfl) (Reps.one (show Kd.M Kd.string _ _ _ a2 [.string a2] from rfl) (Reps.one (show Kd.M Kd.string _ _ _ a3 [.string a3] from rfl) (Reps.none _ _))))); intro v1 w1 ho hb hg_ hnew_; clear hg_ hnew_; (first | rw [← Ny1.out] at ho | (simp only [Int.reduceToNat] at ho; rw [← Ny1.out] at ho)); have HO1 := Aside0.mk (Kd.R_lower ho (below_size (by repeat (first | (with_reducible first | exact HB.out | apply below_alloc | apply pw_below_drewN | apply below_drew1) | exact HB.out)))); have HB1 := Aside0.mk (below_step (by repeat (first | (with_reducible first | exact HB.out | apply below_alloc | apply pw_below_drewN | apply below_drew1) | exact HB.out)) hb); clear ho hb; obtain ⟨A1, c1, eo1⟩ := Kd.R_slice HO1.out; subst eo1) | (go_at_call 34; refine (impl_bankCode.calls 140000 A0 c0 l0 a4 A1 c1 y1 _ _ (Kd.C_below HC.out HB1.out) HK.out (Kd.R_reads' HO1.out).2.2 (Kd.R_reads' HO1.out).2.1 HBK.out).mono ?_; rintro e w2 ⟨rfl, hb2⟩; have HB2 := Aside0.mk (HB1.out.trans (hb2.mono HB1.out.size)); clear hb2) | (go_at_call 41; refine (move_calls a1 a2 a3 a4 _).mono ?_; rintro e w3 ⟨g1, g2, g3, g4, rfl, b1, b2, b3, b4, hb3⟩; have HC1 := Aside0.mk b1; have HC2 := Aside0.mk b2; have HC3 := Aside0.mk b3; have HC4 := Aside0.mk b4; have HB3 := Aside0.mk (HB2.out.trans (hb3.mono HB2.out.size)); clear b1 b2 b3 b4 hb3) | (go_at_call 70; refine (HX.out _ g1 g2 g3 g4 HB3.out HC1.out HC2.out HC3.out HC4.out).mono ?_; rintro e w4 ⟨v4, rfl, hR4, hb4⟩; have HR4 := Aside0.mk (Kd.R_lower hR4 HB3.out.size); have HB4 := Aside0.mk (HB3.out.trans (hb4.mono HB3.out.size)); clear hR4 hb4))
    go_ret2
    exact ⟨_, rfl, HR4.out, HB4.out⟩
  · rw [if_neg hz] at h
    have e1 : [] = r1 := congrArg Prod.fst h
    have e2 : c = r2 := congrArg Prod.snd h
    subst e1
    subst e2
    clear h HPR hr0 hc0 htab
    have hz1 : (c == 0) = false := by simpa using hz
    have hz2 : (c != 0) = true := by simpa using hz
    clear hz
    go_enter Tryz.func17, Tryz.ntmps17
    go_wp2_with (first | ((with_reducible refine gate_dst (N := 18) rfl ?_); (try (refine gate_guard (by rfl) ?_; dsimp only)); refine Kd.R_lit Kd.string _ 9 ?hg (N := 18) ?hd (xs := ([a1, a2, a3] : List ByteArray)) (inner := [.string a1, .string a2, .string a3]) (ok := fun _ => True) (okp := fun _ => True) ?hr ?hp (fun _ hk => hk) trivial (Below.refl _ _) (Nat.le_refl _) (by simp) ?_; (case hd => rfl); (case hg => rfl); (case hr => first | (go_simp; done) | (go_simp; rfl)); (case hp => exact (Reps.one (show Kd.M Kd.string _ _ _ a1 [.string a1] from rfl) (Reps.one (show Kd.M Kd.string _ _ _ a2 [.string a2] from rfl) (Reps.one (show Kd.M Kd.string _ _ _ a3 [.string a3] from rfl) (Reps.none _ _))))); intro v1 w1 ho hb hg_ hnew_; clear hg_ hnew_; (first | rw [← Ny1.out] at ho | (simp only [Int.reduceToNat] at ho; rw [← Ny1.out] at ho)); have HO1 := Aside0.mk (Kd.R_lower ho (below_size (by repeat (first | (with_reducible first | exact HB.out | apply below_alloc | apply pw_below_drewN | apply below_drew1) | exact HB.out)))); have HB1 := Aside0.mk (below_step (by repeat (first | (with_reducible first | exact HB.out | apply below_alloc | apply pw_below_drewN | apply below_drew1) | exact HB.out)) hb); clear ho hb; obtain ⟨A1, c1, eo1⟩ := Kd.R_slice HO1.out; subst eo1) | (go_at_call 34; refine (impl_bankCode.calls 140000 A0 c0 l0 a4 A1 c1 y1 _ _ (Kd.C_below HC.out HB1.out) HK.out (Kd.R_reads' HO1.out).2.2 (Kd.R_reads' HO1.out).2.1 HBK.out).mono ?_; rintro e w2 ⟨rfl, hb2⟩; have HB2 := Aside0.mk (HB1.out.trans (hb2.mono HB1.out.size)); clear hb2))
    go_ret2
    exact ⟨_, rfl, R_nil w2 _, HB2.out⟩
end Go.Proofs.YtpkfdjlmflmilaaGreatDoor.Q
end
section
namespace Go.Proofs.YtpkfdjlmflmilaaGreatDoor.Q
open Go.RowKit Go.Proofs.YtpkfdjlmflmilaaGreatDoorW.PrintWords Go.Proofs.YtpkfdjlmflmilaaGreatDoorW.PrintLast Go.Proofs.YtpkfdjlmflmilaaGreatDoorW.PrintMore
set_option linter.unusedVariables false
set_option linter.unusedSimpArgs false
def zbank.T29 : Bool × List (List Nat × List Nat) := (true, [([], []), ([], []), ([0, 1], [0, 1]), ([2], [2]), ([], []), ([], []), ([4, 5], [4, 5]), ([6], [6]), ([7], [7]), ([], []), ([3, 8, 9], [3, 8, 9]), ([10], [10]), ([11], [11]), ([11], [11]), ([12, 10, 0, 1, 2, 3, 4, 5, 6, 7, 8, 9, 10, 11, 12], [12]), ([13, 14, 0, 1, 2, 3, 4, 5, 6, 7, 8, 9, 10, 11, 12, 13, 14], [13])])
def zbank.B29 : List Nat := [0, 0, 3, 7, 0, 0, 48, 112, 240, 0, 1023, 2047, 4095, 4095, 8191, 32767]
theorem zbank.tab29 : rtab .any (opsOf Tryz.f6 29) = zbank.T29 := by kernel_rfl
theorem zbank.bits29 : waitsOk zbank.T29.2 zbank.B29 = true := by kernel_rfl
set_option maxHeartbeats 16000000 in
set_option maxRecDepth 100000 in
theorem zbank_r29 {Q : Exit → Act → World → Prop} (u0 u1 u2 u3 u4 u5 u6 u7 u9 u10 u11 u12 u13 u14 u15 u16 u17 u18 u19 u20 u21 u22 u23 u25 u26 u28 u29 u31 u32 u34 u35 u36 u37 u38 u39 u40 u41 u42 u43 u44 u45 u46 u47 u48 u49 u50 u51 u52 u53 u54 u55 u56 u57 u58 u59 u60 u61 u62 u63 u64 u65 u66 u67 u68 u69 u70 u71 u72 u73 u74 u75 u76 u77 u78 u79 u80 u81 u82 u83 u84 u85 u86 u87 u88 u89 u90 u91 u92 u93 u94 u95 u96 u97 u98 u99 u100 u101 u102 u103 u104 u105 u106 u107 u108 u109 u110 u111 u112 u113 u114 u115 u116 u117 u118 u119 u120 u121 u122 u123 u124 u125 u126 u127 u128 u129 u130 u131 u132 u133 u134 u135 u136 u137 u138 u139 u140 u141 u142 u143 u144 u145 u146 u147 u148 u149 u150 u151 u152 u153 u154 u155 u156 u157 u158 u159 u160 u161 u162 u163 u164 u165 u166 u167 u168 u169 u170 u171 u172 u173 u174 u175 u176 u177 u178 u179 u180 u181 u182 u183 u184 u185 u186 u187 u188 u189 u190 u191 u192 u193 u194 u195 u196 u197 u198 u199 u200 u201 u202 u203 u204 u205 u206 u207 u208 u209 u210 u211 u212 u213 u214 u215 u216 u217 u218 u219 u220 u221 u222 u223 u224 u225 u226 u227 u228 u229 u230 u231 u232 u233 u234 u235 u236 u237 u238 u239 u240 u241 u242 u243 u244 u245 u246 u247 u248 u249 u250 u251 u252 u253 u254 u255 u256 u257 : Value) (gS i j nb cB ni ci : Nat) (ad : Addr) (Ai : Option Addr) (d x : ByteArray) (q : Int) (wr : World) (c0 : wr.cell? ⟨gS, i, none⟩ = some (.slice Ai ni ci)) (c1 : wr.cell? (ad.add (j * 3)) = some (.string x)) (h0 : 0 ≤ (i : Int)) (h1 : (i : Int) < 3) (h2 : 0 ≤ (j : Int)) (h3 : (j : Int) < (nb : Int)) (HBO : Aside0 (∀ W, Below wr.heap.size wr W → Calls Tryz.prog 26 #[.slice Ai ni ci, .string x, .string d] W fun e w' => e = .returned (.tuple #[.int .i64 q, .int .i64 0]) ∧ Below W.heap.size W w'))
    (hpan : ∀ c a t v w, Q (.panic c) (Act.put a (some t) v) w → Q (.panic c) a w) (hQ : Aside0 (∀ (v186 v187 v188 v189 v190 v191 v192 v193 v194 v195 v196 v185 v197 v198 : Value) (w' : World), (Below wr.heap.size wr w') → Q .normal ⟨List.toArray (u0 :: u1 :: u2 :: u3 :: u4 :: u5 :: u6 :: u7 :: .string d :: u9 :: u10 :: u11 :: u12 :: u13 :: u14 :: u15 :: u16 :: u17 :: u18 :: u19 :: u20 :: u21 :: u22 :: u23 :: .slice (some ⟨gS, 0, none⟩) 3 3 :: u25 :: u26 :: .int .i64 (i : Int) :: u28 :: u29 :: .slice (some ad) nb cB :: u31 :: u32 :: .int .i64 (j : Int) :: .int .i64 q :: .int .i64 0 :: u36 :: u37 :: u38 :: u39 :: u40 :: u41 :: u42 :: u43 :: u44 :: u45 :: u46 :: u47 :: u48 :: u49 :: u50 :: u51 :: u52 :: u53 :: u54 :: u55 :: u56 :: u57 :: u58 :: u59 :: u60 :: u61 :: u62 :: u63 :: u64 :: u65 :: u66 :: u67 :: u68 :: u69 :: u70 :: u71 :: u72 :: u73 :: u74 :: u75 :: u76 :: u77 :: u78 :: u79 :: u80 :: u81 :: u82 :: u83 :: u84 :: u85 :: u86 :: u87 :: u88 :: u89 :: u90 :: u91 :: u92 :: u93 :: u94 :: u95 :: u96 :: u97 :: u98 :: u99 :: u100 :: u101 :: u102 :: u103 :: u104 :: u105 :: u106 :: u107 :: u108 :: u109 :: u110 :: u111 :: u112 :: u113 :: u114 :: u115 :: u116 :: u117 :: u118 :: u119 :: u120 :: u121 :: u122 :: u123 :: u124 :: u125 :: u126 :: u127 :: u128 :: u129 :: u130 :: u131 :: u132 :: u133 :: u134 :: u135 :: u136 :: u137 :: u138 :: u139 :: u140 :: u141 :: u142 :: u143 :: u144 :: u145 :: u146 :: u147 :: u148 :: u149 :: u150 :: u151 :: u152 :: u153 :: u154 :: u155 :: u156 :: u157 :: u158 :: u159 :: u160 :: u161 :: u162 :: u163 :: u164 :: u165 :: u166 :: u167 :: u168 :: u169 :: u170 :: u171 :: u172 :: u173 :: u174 :: u175 :: u176 :: u177 :: u178 :: u179 :: u180 :: u181 :: u182 :: u183 :: u184 :: v185 :: v186 :: v187 :: v188 :: v189 :: v190 :: v191 :: v192 :: v193 :: v194 :: v195 :: v196 :: v197 :: v198 :: u199 :: u200 :: u201 :: u202 :: u203 :: u204 :: u205 :: u206 :: u207 :: u208 :: u209 :: u210 :: u211 :: u212 :: u213 :: u214 :: u215 :: u216 :: u217 :: u218 :: u219 :: u220 :: u221 :: u222 :: u223 :: u224 :: u225 :: u226 :: u227 :: u228 :: u229 :: u230 :: u231 :: u232 :: u233 :: u234 :: u235 :: u236 :: u237 :: u238 :: u239 :: u240 :: u241 :: u242 :: u243 :: u244 :: u245 :: u246 :: u247 :: u248 :: u249 :: u250 :: u251 :: u252 :: u253 :: u254 :: u255 :: u256 :: u257 :: []), []⟩ w')) :
    Code.wp Tryz.prog (Code.region 29 (opsOf Tryz.f6 29) true) Q ⟨List.toArray (u0 :: u1 :: u2 :: u3 :: u4 :: u5 :: u6 :: u7 :: .string d :: u9 :: u10 :: u11 :: u12 :: u13 :: u14 :: u15 :: u16 :: u17 :: u18 :: u19 :: u20 :: u21 :: u22 :: u23 :: .slice (some ⟨gS, 0, none⟩) 3 3 :: u25 :: u26 :: .int .i64 (i : Int) :: u28 :: u29 :: .slice (some ad) nb cB :: u31 :: u32 :: .int .i64 (j : Int) :: u34 :: u35 :: u36 :: u37 :: u38 :: u39 :: u40 :: u41 :: u42 :: u43 :: u44 :: u45 :: u46 :: u47 :: u48 :: u49 :: u50 :: u51 :: u52 :: u53 :: u54 :: u55 :: u56 :: u57 :: u58 :: u59 :: u60 :: u61 :: u62 :: u63 :: u64 :: u65 :: u66 :: u67 :: u68 :: u69 :: u70 :: u71 :: u72 :: u73 :: u74 :: u75 :: u76 :: u77 :: u78 :: u79 :: u80 :: u81 :: u82 :: u83 :: u84 :: u85 :: u86 :: u87 :: u88 :: u89 :: u90 :: u91 :: u92 :: u93 :: u94 :: u95 :: u96 :: u97 :: u98 :: u99 :: u100 :: u101 :: u102 :: u103 :: u104 :: u105 :: u106 :: u107 :: u108 :: u109 :: u110 :: u111 :: u112 :: u113 :: u114 :: u115 :: u116 :: u117 :: u118 :: u119 :: u120 :: u121 :: u122 :: u123 :: u124 :: u125 :: u126 :: u127 :: u128 :: u129 :: u130 :: u131 :: u132 :: u133 :: u134 :: u135 :: u136 :: u137 :: u138 :: u139 :: u140 :: u141 :: u142 :: u143 :: u144 :: u145 :: u146 :: u147 :: u148 :: u149 :: u150 :: u151 :: u152 :: u153 :: u154 :: u155 :: u156 :: u157 :: u158 :: u159 :: u160 :: u161 :: u162 :: u163 :: u164 :: u165 :: u166 :: u167 :: u168 :: u169 :: u170 :: u171 :: u172 :: u173 :: u174 :: u175 :: u176 :: u177 :: u178 :: u179 :: u180 :: u181 :: u182 :: u183 :: u184 :: u185 :: u186 :: u187 :: u188 :: u189 :: u190 :: u191 :: u192 :: u193 :: u194 :: u195 :: u196 :: u197 :: u198 :: u199 :: u200 :: u201 :: u202 :: u203 :: u204 :: u205 :: u206 :: u207 :: u208 :: u209 :: u210 :: u211 :: u212 :: u213 :: u214 :: u215 :: u216 :: u217 :: u218 :: u219 :: u220 :: u221 :: u222 :: u223 :: u224 :: u225 :: u226 :: u227 :: u228 :: u229 :: u230 :: u231 :: u232 :: u233 :: u234 :: u235 :: u236 :: u237 :: u238 :: u239 :: u240 :: u241 :: u242 :: u243 :: u244 :: u245 :: u246 :: u247 :: u248 :: u249 :: u250 :: u251 :: u252 :: u253 :: u254 :: u255 :: u256 :: u257 :: []), []⟩ wr := by
  conv => arg 2; arg 2; whnf
  refine start_ (n := 16) (S := fun w' => w'.cell? ⟨gS, i, none⟩ = some (.slice Ai ni ci) ∧ w'.cell? (ad.add (j * 3)) = some (.string x)) (ds := []) #[false, false, false, false, false, false, false, false, false, false, false, false, false, false, false, false] (by kernel_rfl) rfl rfl ⟨c0, c1⟩ (fun hHeld => ?_)
  refine with_tabW zbank.tab29 zbank.bits29 (fun HT_ HW_ => ?_)
  refine pure_ (i := 0) (N := some 186) (v := ?_) (a' := ?_) #[true, false, false, false, false, false, false, false, false, false, false, false, false, false, false, false] rfl rfl (any_of HT_.out (by kernel_rfl)) (fun _ _ _ h => hpan _ _ _ _ _ h) (Or.inl ⟨by rfl, ?_⟩) ?_ ?_
  rotate_left
  · intro w'
    go_simp
    with_reducible rfl
  rotate_left
  · simp only [Act.put, List.setIfInBounds_toArray, List.set_cons_zero, List.set_cons_succ, i64_w, i32_w]
    rfl
  refine pure_ (i := 1) (N := some 187) (v := ?_) (a' := ?_) #[true, true, false, false, false, false, false, false, false, false, false, false, false, false, false, false] rfl rfl (any_of HT_.out (by kernel_rfl)) (fun _ _ _ h => hpan _ _ _ _ _ h) (Or.inl ⟨by rfl, ?_⟩) ?_ ?_
  rotate_left
  · intro w'
    go_simp
    with_reducible rfl
  rotate_left
  · simp only [Act.put, List.setIfInBounds_toArray, List.set_cons_zero, List.set_cons_succ, i64_w, i32_w]
    rfl
  refine pure_ (i := 2) (N := some 188) (v := ?_) (a' := ?_) #[true, true, true, false, false, false, false, false, false, false, false, false, false, false, false, false] rfl rfl (any_of HT_.out (by kernel_rfl)) (fun _ _ _ h => hpan _ _ _ _ _ h) (Or.inl ⟨by rfl, ?_⟩) ?_ ?_
  rotate_left
  · intro w'
    go_simp
    with_reducible rfl
  rotate_left
  · simp only [Act.put, List.setIfInBounds_toArray, List.set_cons_zero, List.set_cons_succ, i64_w, i32_w]
    rfl
  refine pure_ (i := 4) (N := some 190) (v := ?_) (a' := ?_) #[true, true, true, false, true, false, false, false, false, false, false, false, false, false, false, false] rfl rfl (any_of HT_.out (by kernel_rfl)) (fun _ _ _ h => hpan _ _ _ _ _ h) (Or.inl ⟨by rfl, ?_⟩) ?_ ?_
  rotate_left
  · intro w'
    go_simp
    with_reducible rfl
  rotate_left
  · simp only [Act.put, List.setIfInBounds_toArray, List.set_cons_zero, List.set_cons_succ, i64_w, i32_w]
    rfl
  refine pure_ (i := 5) (N := some 191) (v := ?_) (a' := ?_) #[true, true, true, false, true, true, false, false, false, false, false, false, false, false, false, false] rfl rfl (any_of HT_.out (by kernel_rfl)) (fun _ _ _ h => hpan _ _ _ _ _ h) (Or.inl ⟨by rfl, ?_⟩) ?_ ?_
  rotate_left
  · intro w'
    go_simp
    with_reducible rfl
  rotate_left
  · simp only [Act.put, List.setIfInBounds_toArray, List.set_cons_zero, List.set_cons_succ, i64_w, i32_w]
    rfl
  refine pure_ (i := 6) (N := some 192) (v := ?_) (a' := ?_) #[true, true, true, false, true, true, true, false, false, false, false, false, false, false, false, false] rfl rfl (any_of HT_.out (by kernel_rfl)) (fun _ _ _ h => hpan _ _ _ _ _ h) (Or.inl ⟨by rfl, ?_⟩) ?_ ?_
  rotate_left
  · intro w'
    go_simp
    with_reducible rfl
  rotate_left
  · simp only [Act.put, List.setIfInBounds_toArray, List.set_cons_zero, List.set_cons_succ, i64_w, i32_w]
    rfl
  refine pure_ (i := 7) (N := some 193) (v := ?_) (a' := ?_) #[true, true, true, false, true, true, true, true, false, false, false, false, false, false, false, false] rfl rfl (any_of HT_.out (by kernel_rfl)) (fun _ _ _ h => hpan _ _ _ _ _ h) (Or.inl ⟨by rfl, ?_⟩) ?_ ?_
  rotate_left
  · intro w'
    go_simp
    with_reducible rfl
  rotate_left
  · simp only [Act.put, List.setIfInBounds_toArray, List.set_cons_zero, List.set_cons_succ, i64_w, i32_w]
    rfl
  refine pure_ (i := 9) (N := some 195) (v := ?_) (a' := ?_) #[true, true, true, false, true, true, true, true, false, true, false, false, false, false, false, false] rfl rfl (any_of HT_.out (by kernel_rfl)) (fun _ _ _ h => hpan _ _ _ _ _ h) (Or.inl ⟨by rfl, ?_⟩) ?_ ?_
  rotate_left
  · intro w'
    go_simp
    with_reducible rfl
  rotate_left
  · simp only [Act.put, List.setIfInBounds_toArray, List.set_cons_zero, List.set_cons_succ, i64_w, i32_w]
    rfl
  refine take_ (i := 3) (N := some 189) (v := ?_) (a' := ?_) #[true, true, true, true, true, true, true, true, false, true, false, false, false, false, false, false] rfl rfl (take_ofW HT_.out HW_.out (by kernel_rfl)) (fun _ _ _ h => hpan _ _ _ _ _ h) (Or.inl ⟨by rfl, ?_⟩) hHeld ?_ ?_
  rotate_left
  · rintro w' ⟨s0, s1⟩
    go_simp
    with_reducible rfl
  rotate_left
  · simp only [Act.put, List.setIfInBounds_toArray, List.set_cons_zero, List.set_cons_succ, i64_w, i32_w]
    rfl
  refine take_ (i := 8) (N := some 194) (v := ?_) (a' := ?_) #[true, true, true, true, true, true, true, true, true, true, false, false, false, false, false, false] rfl rfl (take_ofW HT_.out HW_.out (by kernel_rfl)) (fun _ _ _ h => hpan _ _ _ _ _ h) (Or.inl ⟨by rfl, ?_⟩) hHeld ?_ ?_
  rotate_left
  · rintro w' ⟨s0, s1⟩
    go_simp
    with_reducible rfl
  rotate_left
  · simp only [Act.put, List.setIfInBounds_toArray, List.set_cons_zero, List.set_cons_succ, i64_w, i32_w]
    rfl
  refine one_ (i := 10) (N := some 196) #[true, true, true, true, true, true, true, true, true, true, true, false, false, false, false, false] rfl rfl (one_of HT_.out (by kernel_rfl)) (by decide) (fun K hK => ?_)
  refine goes_ Tryz.func26 (by kernel_rfl) rfl #[.slice Ai ni ci, .string x, .string d] (by rfl) rfl rfl (by simp only [List.map_toArray, List.map_cons, List.map_nil]; rfl) ?_
  refine (HBO.out _ (below_drew1 (Below.refl wr.heap.size wr))).mono ?_
  rintro e_ w10 ⟨rfl, b10⟩
  refine ⟨_, rfl, ?_⟩
  refine hK.out _ _ ⟨(b10.cell (World.block_lt_of_cell? _ _ hHeld.1)).trans hHeld.1, (b10.cell (World.block_lt_of_cell? _ _ hHeld.2)).trans hHeld.2⟩ (fun hHeld => ?_)
  clear hK K
  refine norm_ (a' := ?_) ?_ ?_
  rotate_left
  · show Act.put _ (some 196) _ = _
    simp only [Act.put, List.setIfInBounds_toArray, List.set_cons_zero, List.set_cons_succ, i64_w, i32_w]
    rfl
  refine pure_ (i := 11) (N := some 185) (v := ?_) (a' := ?_) #[true, true, true, true, true, true, true, true, true, true, true, true, false, false, false, false] rfl rfl (any_of HT_.out (by kernel_rfl)) (fun _ _ _ h => hpan _ _ _ _ _ h) (Or.inl ⟨by rfl, ?_⟩) ?_ ?_
  rotate_left
  · intro w'
    go_simp
    with_reducible rfl
  rotate_left
  · simp only [Act.put, List.setIfInBounds_toArray, List.set_cons_zero, List.set_cons_succ, i64_w, i32_w]
    rfl
  refine pure_ (i := 12) (N := some 197) (v := ?_) (a' := ?_) #[true, true, true, true, true, true, true, true, true, true, true, true, true, false, false, false] rfl rfl (any_of HT_.out (by kernel_rfl)) (fun _ _ _ h => hpan _ _ _ _ _ h) (Or.inl ⟨by rfl, ?_⟩) ?_ ?_
  rotate_left
  · intro w'
    go_simp
    with_reducible rfl
  rotate_left
  · simp only [Act.put, List.setIfInBounds_toArray, List.set_cons_zero, List.set_cons_succ, i64_w, i32_w]
    rfl
  refine pure_ (i := 13) (N := some 198) (v := ?_) (a' := ?_) #[true, true, true, true, true, true, true, true, true, true, true, true, true, true, false, false] rfl rfl (any_of HT_.out (by kernel_rfl)) (fun _ _ _ h => hpan _ _ _ _ _ h) (Or.inl ⟨by rfl, ?_⟩) ?_ ?_
  rotate_left
  · intro w'
    go_simp
    with_reducible rfl
  rotate_left
  · simp only [Act.put, List.setIfInBounds_toArray, List.set_cons_zero, List.set_cons_succ, i64_w, i32_w]
    rfl
  refine pure_ (i := 14) (N := some 34) (v := ?_) (a' := ?_) #[true, true, true, true, true, true, true, true, true, true, true, true, true, true, true, false] rfl rfl (any_of HT_.out (by kernel_rfl)) (fun _ _ _ h => hpan _ _ _ _ _ h) (Or.inl ⟨by rfl, ?_⟩) ?_ ?_
  rotate_left
  · intro w'
    go_simp
    with_reducible rfl
  rotate_left
  · simp only [Act.put, List.setIfInBounds_toArray, List.set_cons_zero, List.set_cons_succ, i64_w, i32_w]
    rfl
  refine pure_ (i := 15) (N := some 35) (v := ?_) (a' := ?_) #[true, true, true, true, true, true, true, true, true, true, true, true, true, true, true, true] rfl rfl (any_of HT_.out (by kernel_rfl)) (fun _ _ _ h => hpan _ _ _ _ _ h) (Or.inl ⟨by rfl, ?_⟩) ?_ ?_
  rotate_left
  · intro w'
    go_simp
    with_reducible rfl
  rotate_left
  · simp only [Act.put, List.setIfInBounds_toArray, List.set_cons_zero, List.set_cons_succ, i64_w, i32_w]
    rfl
  refine done_ (done_of HT_.out (by kernel_rfl)) ?_

  refine hQ.out _ _ _ _ _ _ _ _ _ _ _ _ _ _ _ ?_
  exact below_step (below_drew1 (Below.refl wr.heap.size wr)) b10

end Go.Proofs.YtpkfdjlmflmilaaGreatDoor.Q
end
section
namespace Go.Proofs.YtpkfdjlmflmilaaGreatDoor.Pure
open Go.RowKit Go.Proofs.YtpkfdjlmflmilaaGreatDoor.Q Go.Proofs.YtpkfdjlmflmilaaGreatDoorW.PrintWords Go.Proofs.YtpkfdjlmflmilaaGreatDoorW.PrintLast
set_option linter.unusedVariables false
def Lt (x y : S56) : Prop := Op.bytesLess x.f0.toList y.f0.toList = true
def Rt (l : List S56) : Prop := l.length ≤ 400 ∧ (∀ x ∈ l, keyB x.f0 = true ∧ valB x.f1 = true) ∧ l.Pairwise Lt
theorem gd (l : List S56) (i : Nat) (h : i < l.length) : l.getD i z56 = l[i] := by simp [List.getD, List.getElem?_eq_getElem h]
theorem of_rt {l : List S56} (h : Rt l) : rightB l = true := by
  unfold rightB
  rw [Bool.and_eq_true]
  refine ⟨List.all_eq_true.2 fun i hi => ?_, decide_eq_true h.1⟩
  have hi := List.mem_range.1 hi
  have hk := h.2.1 l[i] (List.getElem_mem hi)
  unfold pairB riseB
  rw [gd l i hi, hk.1, hk.2, Bool.true_and, Bool.true_and]
  by_cases h0 : i = 0
  · rw [decide_eq_true h0]; rfl
  · rw [decide_eq_false h0, Bool.false_or, gd l (i - 1) (by omega)]
    exact List.pairwise_iff_getElem.1 h.2.2 (i - 1) i (by omega) hi (by omega)
theorem rt_sub {l m : List S56} (h : Rt l) (s : m.Sublist l) : Rt m :=
  ⟨Nat.le_trans s.length_le h.1, fun x hx => h.2.1 x (s.subset hx), h.2.2.sublist s⟩
def Fits (l : List S56) (a : ByteArray) (A B : List S56) : Prop :=
  (A ++ B).Sublist l ∧ (∀ x ∈ A, Op.bytesLess x.f0.toList a.toList = true) ∧ (∀ x ∈ B, Op.bytesLess a.toList x.f0.toList = true) ∧ (∀ x ∈ l, x.f0 ≠ a → x ∈ A ++ B)
theorem rt_ins {l A B : List S56} {a : ByteArray} (v : ByteArray) (h : Rt l) (hl : l.length < 400) (f : Fits l a A B) (ka : keyB a = true) (kv : valB v = true) : Rt (A ++ ⟨a, v⟩ :: B) := by
  obtain ⟨hs, hA, hB, _⟩ := f
  have hr := rt_sub h hs
  have hlen := hs.length_le
  rw [List.length_append] at hlen
  refine ⟨by rw [List.length_append, List.length_cons]; omega, fun x hx => ?_, ?_⟩
  · rcases List.mem_append.1 hx with hx | hx
    · exact hr.2.1 x (List.mem_append_left _ hx)
    · rcases List.mem_cons.1 hx with rfl | hx
      · exact ⟨ka, kv⟩
      · exact hr.2.1 x (List.mem_append_right _ hx)
  · obtain ⟨h1, h2, h3⟩ := List.pairwise_append.1 hr.2.2
    refine List.pairwise_append.2 ⟨h1, List.pairwise_cons.2 ⟨fun x hx => hB x hx, h2⟩, fun x hx y hy => ?_⟩
    rcases List.mem_cons.1 hy with rfl | hy
    · exact hA x hx
    · exact h3 x hx y hy
theorem lbN_at {A B : List S56} {x : S56} (h : Rt (A ++ x :: B)) : lbN (A ++ x :: B) x.f0 = A.length := by
  have hr := of_rt h
  have hlt : A.length < (A ++ x :: B).length := by simp
  have hx : key (A ++ x :: B) A.length = x.f0 := by unfold key; rw [gd _ _ hlt]; simp
  rcases Nat.lt_trichotomy (lbN (A ++ x :: B) x.f0) A.length with h1 | h1 | h1
  · have h2 := lbN_from hr x.f0 _ (Nat.le_refl _) (by omega)
    have h3 := right_lt hr h1 hlt
    rw [hx] at h3
    rw [h3] at h2
    cases h2
  · exact h1
  · have h2 := lbN_below hr x.f0 _ h1
    rw [hx, less_irrefl] at h2
    cases h2
theorem fd_at {A B : List S56} {x : S56} (h : Rt (A ++ x :: B)) : fdB (A ++ x :: B) x.f0 = true := by
  unfold fdB
  rw [lbN_at h, decide_eq_true (by simp), Bool.true_and, gd _ _ (by simp)]
  simp
theorem get_mem {l : List S56} {x : S56} (h : Rt l) (hx : x ∈ l) : getN l x.f0 = (x.f1, true) := by
  obtain ⟨A, B, rfl⟩ := List.append_of_mem hx
  unfold getN
  rw [if_pos (fd_at h), lbN_at h, gd _ _ (by simp)]
  simp
theorem fd_none {l : List S56} {a : ByteArray} (hn : ∀ x ∈ l, x.f0 ≠ a) : fdB l a = false := by
  rw [Bool.eq_false_iff]
  intro h
  have h1 := fdB_lt h
  have h2 := fdB_key h
  rw [gd _ _ h1] at h2
  exact hn _ (List.getElem_mem h1) h2
theorem get_none {l : List S56} {a : ByteArray} (hn : ∀ x ∈ l, x.f0 ≠ a) : getN l a = (⟨#[]⟩, false) := by
  unfold getN
  rw [fd_none hn]
  rfl
theorem drop_at {A B : List S56} {x : S56} (h : Rt (A ++ x :: B)) : dropN (A ++ x :: B) x.f0 = (A ++ B, 0) := by
  unfold dropN
  rw [if_pos (fd_at h), lbN_at h]
  simp
theorem put_form {l : List S56} (h : Rt l) (a v : ByteArray) (hl : l.length < 400) : ∃ A B, putN l a v = (A ++ ⟨a, v⟩ :: B, 0) ∧ Fits l a A B := by
  have hr := of_rt h
  have hle := lbN_le l a
  have hlow : ∀ x ∈ l.take (lbN l a), Op.bytesLess x.f0.toList a.toList = true := by
    intro x hx
    obtain ⟨i, hi, rfl⟩ := List.getElem_of_mem hx
    rw [List.length_take] at hi
    have := lbN_below hr a i (by omega)
    unfold key at this
    rw [gd l i (by omega)] at this
    rw [List.getElem_take]
    exact this
  by_cases hf : fdB l a = true
  · have hlt := fdB_lt hf
    have hk := fdB_key hf
    have hkl : l[lbN l a].f0 = a := by rw [← gd l _ hlt]; exact hk
    have hsplit : l = l.take (lbN l a) ++ l[lbN l a] :: l.drop (lbN l a + 1) := by rw [← List.drop_eq_getElem_cons hlt, List.take_append_drop]
    refine ⟨l.take (lbN l a), l.drop (lbN l a + 1), ?_, ?_, hlow, ?_, ?_⟩
    · unfold putN
      rw [if_pos hf, hk, List.set_eq_take_append_cons_drop, if_pos hlt]
    · conv => rhs; rw [hsplit]
      exact List.Sublist.append (List.Sublist.refl _) (List.sublist_cons_self _ _)
    · intro x hx
      have hp := h.2.2
      rw [hsplit] at hp
      have := (List.pairwise_cons.1 (List.pairwise_append.1 hp).2.1).1 x hx
      unfold Lt at this
      rw [hkl] at this
      exact this
    · intro x hx hne
      rw [hsplit] at hx
      rcases List.mem_append.1 hx with hx | hx
      · exact List.mem_append_left _ hx
      · rcases List.mem_cons.1 hx with rfl | hx
        · exact absurd hkl hne
        · exact List.mem_append_right _ hx
  · refine ⟨l.take (lbN l a), l.drop (lbN l a), ?_, ?_, hlow, ?_, ?_⟩
    · unfold putN
      rw [if_neg hf, if_neg (by omega)]
    · rw [List.take_append_drop]
      exact List.Sublist.refl _
    · intro x hx
      have hpd : (l.drop (lbN l a)).Pairwise Lt := h.2.2.sublist (List.drop_sublist _ _)
      obtain ⟨i, hi, rfl⟩ := List.getElem_of_mem hx
      rw [List.length_drop] at hi
      rw [List.getElem_drop]
      have h1 := lbN_from hr a (lbN l a + i) (by omega) (by omega)
      unfold key at h1
      rw [gd l _ (by omega)] at h1
      cases hc : Op.bytesLess a.toList l[lbN l a + i].f0.toList with
      | true => rfl
      | false =>
        have he := less_total h1 hc
        have h2 := lbN_from hr a (lbN l a) (Nat.le_refl _) (by omega)
        rcases Nat.eq_zero_or_pos i with h0 | h0
        · subst h0
          exfalso
          refine hf ?_
          rw [fdB_eq l a (by omega), gd l _ (by omega)]
          exact decide_eq_true he
        · have h3 := right_lt hr (show lbN l a < lbN l a + i by omega) (by omega)
          unfold key at h3 h2
          rw [gd l (lbN l a + i) (by omega), he] at h3
          rw [h3] at h2
          cases h2
    · intro x hx _
      rw [List.take_append_drop]
      exact hx
end Go.Proofs.YtpkfdjlmflmilaaGreatDoor.Pure
end
section
namespace Go.Proofs.YtpkfdjlmflmilaaGreatDoor.Pure
open Go.RowKit Go.Proofs.YtpkfdjlmflmilaaGreatDoor.Q Go.Proofs.YtpkfdjlmflmilaaGreatDoorW.PrintWords Go.Proofs.YtpkfdjlmflmilaaGreatDoorW.PrintLast
set_option linter.unusedVariables false
theorem ra_itoa (n : Nat) (hn : n ≤ 1000000000000000000) : (raT (itoaT (n : Int))).1 = (n : Int) := by
  obtain ⟨h1, h2⟩ := amT_num n hn
  rw [raT_yes _ h1, h2]
/-- Values are amounts above nothing. -/
def gv (l : List S56) : Prop := ∀ x ∈ l, ∃ m : Nat, 1 ≤ m ∧ m ≤ 1000000000000000000 ∧ x.f1 = itoaT (m : Int)
theorem am_mem {l : List S56} (h : Rt l) {x : S56} (hx : x ∈ l) : amN l x.f0 = (raT x.f1).1 := by
  unfold amN
  rw [get_mem h hx]
theorem am_none {l : List S56} {a : ByteArray} (hn : ∀ x ∈ l, x.f0 ≠ a) : amN l a = 0 := by
  unfold amN
  rw [get_none hn, raT_no]
  rintro ⟨⟨h1, _⟩, _⟩
  exact absurd h1 (by decide)
theorem am_other {l r : List S56} (hl : Rt l) (hr : Rt r) (b : ByteArray) (h1 : ∀ x ∈ l, x.f0 = b → x ∈ r) (h2 : ∀ x ∈ r, x.f0 = b → x ∈ l) : amN r b = amN l b := by
  by_cases h : ∃ x ∈ l, x.f0 = b
  · obtain ⟨x, hx, rfl⟩ := h
    rw [am_mem hl hx, am_mem hr (h1 x hx rfl)]
  · rw [am_none (fun x hx e => h ⟨x, hx, e⟩), am_none (fun x hx e => h ⟨x, h2 x hx e, e⟩)]
theorem itoa_val (m : Nat) (hm : m ≤ 1000000000000000000) : valB (itoaT (m : Int)) = true := by
  unfold valB
  have := itoa_small m hm
  exact decide_eq_true (by omega)
/-- One amount written. -/
theorem wr_map {l : List S56} (h : Rt l) (hg : gv l) (hl : l.length < 400) (a : ByteArray) (ka : keyB a = true) (n : Int) (h0 : 0 ≤ n) (h1 : n ≤ 1000000000000000000) :
    ∃ r, wrN l a n = (r, 0) ∧ Rt r ∧ gv r ∧ r.length ≤ l.length + 1 ∧ amN r a = n ∧ (∀ b, b ≠ a → amN r b = amN l b) ∧ (∀ x ∈ r, x.f0 = a ∨ x ∈ l) := by
  have hlen := wr_len l a n
  obtain ⟨m, rfl⟩ := Int.eq_ofNat_of_zero_le h0
  by_cases hz : m = 0
  · subst hz
    have e : wrN l a ((0 : Nat) : Int) = ((dropN l a).1, 0) := if_pos (show ((0 : Nat) : Int) = 0 from rfl)
    rw [e] at hlen ⊢
    by_cases hx : ∃ x ∈ l, x.f0 = a
    · obtain ⟨x, hx, rfl⟩ := hx
      obtain ⟨A, B, rfl⟩ := List.append_of_mem hx
      have hd := drop_at h
      rw [hd] at hlen ⊢
      have hsub : (A ++ B).Sublist (A ++ x :: B) := List.Sublist.append (List.Sublist.refl _) (List.sublist_cons_self _ _)
      have hr := rt_sub h hsub
      obtain ⟨p1, p2, p3⟩ := List.pairwise_append.1 h.2.2
      have hne : ∀ y ∈ A ++ B, y.f0 ≠ x.f0 := by
        intro y hy he
        rcases List.mem_append.1 hy with hy | hy
        · have := p3 y hy x (by simp)
          unfold Lt at this
          rw [he, less_irrefl] at this
          cases this
        · have := (List.pairwise_cons.1 p2).1 y hy
          unfold Lt at this
          rw [he, less_irrefl] at this
          cases this
      refine ⟨A ++ B, rfl, hr, fun y hy => hg y (hsub.subset hy), hlen, am_none hne, fun b hb => am_other h hr b (fun y hy hyb => ?_) (fun y hy _ => hsub.subset hy), fun y hy => .inr (hsub.subset hy)⟩
      rcases List.mem_append.1 hy with hy | hy
      · exact List.mem_append_left _ hy
      · rcases List.mem_cons.1 hy with rfl | hy
        · exact absurd hyb.symm hb
        · exact List.mem_append_right _ hy
    · have hn : ∀ x ∈ l, x.f0 ≠ a := fun x hx' he => hx ⟨x, hx', he⟩
      have hd : dropN l a = (l, 5) := by
        unfold dropN
        rw [fd_none hn]
        rfl
      rw [hd] at hlen ⊢
      exact ⟨l, rfl, h, hg, hlen, am_none hn, fun _ _ => rfl, fun x hx' => .inr hx'⟩
  · have e : wrN l a (m : Int) = putN l a (itoaT (m : Int)) := by unfold wrN; rw [if_neg (by omega)]
    rw [e] at hlen ⊢
    obtain ⟨A, B, hp, hf⟩ := put_form h a (itoaT (m : Int)) hl
    have hr := rt_ins (itoaT (m : Int)) h hl hf ka (itoa_val m (by omega))
    rw [hp] at hlen ⊢
    refine ⟨_, rfl, hr, ?_, hlen, ?_, fun b hb => am_other h hr b (fun y hy hyb => ?_) (fun y hy hyb => ?_), ?_⟩
    · intro y hy
      rcases List.mem_append.1 hy with hy | hy
      · exact hg y (hf.1.subset (List.mem_append_left _ hy))
      · rcases List.mem_cons.1 hy with rfl | hy
        · exact ⟨m, by omega, by omega, rfl⟩
        · exact hg y (hf.1.subset (List.mem_append_right _ hy))
    · have := am_mem hr (x := ⟨a, itoaT (m : Int)⟩) (by simp)
      rw [this]
      exact ra_itoa m (by omega)
    · have := hf.2.2.2 y hy (by rw [hyb]; exact hb)
      rcases List.mem_append.1 this with h | h
      · exact List.mem_append_left _ h
      · exact List.mem_append_right _ (List.mem_cons_of_mem _ h)
    · rcases List.mem_append.1 hy with hy | hy
      · exact hf.1.subset (List.mem_append_left _ hy)
      · rcases List.mem_cons.1 hy with rfl | hy
        · exact absurd hyb.symm hb
        · exact hf.1.subset (List.mem_append_right _ hy)
    · intro y hy
      rcases List.mem_append.1 hy with hy | hy
      · exact .inr (hf.1.subset (List.mem_append_left _ hy))
      · rcases List.mem_cons.1 hy with rfl | hy
        · exact .inl rfl
        · exact .inr (hf.1.subset (List.mem_append_right _ hy))
theorem add_map {l : List S56} (h : Rt l) (hg : gv l) (hl : l.length < 400) (a : ByteArray) (ka : keyB a = true) (n : Int) (h0 : 0 ≤ amN l a + n) (h1 : amN l a + n ≤ 1000000000000000000) :
    ∃ r, addN l a n = (r, 0) ∧ Rt r ∧ gv r ∧ r.length ≤ l.length + 1 ∧ amN r a = amN l a + n ∧ (∀ b, b ≠ a → amN r b = amN l b) ∧ (∀ x ∈ r, x.f0 = a ∨ x ∈ l) := by
  unfold addN
  rw [if_neg (by omega), if_neg (by omega)]
  exact wr_map h hg hl a ka _ h0 h1
/-- The accounts and the denominations that are drawn. -/
def Ac : List ByteArray := [⟨#[97, 110, 110]⟩, ⟨#[98, 111, 98]⟩, ⟨#[99, 121]⟩]
def Dn : List ByteArray := [⟨#[120]⟩, ⟨#[121]⟩, ⟨#[118, 120]⟩]
theorem bk_inj : ∀ d ∈ Dn, ∀ d' ∈ Dn, ∀ a ∈ Ac, ∀ a' ∈ Ac, bKey a d = bKey a' d' → a = a' ∧ d = d' := of_decide_eq_true (by kernel_rfl)
theorem sk_inj : ∀ d ∈ Dn, ∀ d' ∈ Dn, sKey d = sKey d' → d = d' := of_decide_eq_true (by kernel_rfl)
theorem bs_ne : ∀ d ∈ Dn, ∀ d' ∈ Dn, ∀ a ∈ Ac, bKey a d ≠ sKey d' := of_decide_eq_true (by kernel_rfl)
theorem bk_key : ∀ d ∈ Dn, ∀ a ∈ Ac, keyB (bKey a d) = true := of_decide_eq_true (by kernel_rfl)
theorem sk_key : ∀ d ∈ Dn, keyB (sKey d) = true := of_decide_eq_true (by kernel_rfl)
theorem ac_nm : ∀ a ∈ Ac, nmB a = true := of_decide_eq_true (by kernel_rfl)
theorem dn_nm : ∀ d ∈ Dn, nmB d = true := of_decide_eq_true (by kernel_rfl)
/-- What all accounts have together. -/
def sumA (l : List S56) (d : ByteArray) : Int := amN l (bKey ⟨#[97, 110, 110]⟩ d) + amN l (bKey ⟨#[98, 111, 98]⟩ d) + amN l (bKey ⟨#[99, 121]⟩ d)
theorem ac_cases {a : ByteArray} (h : a ∈ Ac) : a = ⟨#[97, 110, 110]⟩ ∨ a = ⟨#[98, 111, 98]⟩ ∨ a = ⟨#[99, 121]⟩ := by
  simp only [Ac, List.mem_cons, List.not_mem_nil, or_false] at h
  exact h
theorem ac1 : (⟨#[97, 110, 110]⟩ : ByteArray) ∈ Ac := by simp [Ac]
theorem ac2 : (⟨#[98, 111, 98]⟩ : ByteArray) ∈ Ac := by simp [Ac]
theorem ac3 : (⟨#[99, 121]⟩ : ByteArray) ∈ Ac := by simp [Ac]
theorem ac_ne : (⟨#[97, 110, 110]⟩ : ByteArray) ≠ ⟨#[98, 111, 98]⟩ ∧ (⟨#[97, 110, 110]⟩ : ByteArray) ≠ ⟨#[99, 121]⟩ ∧ (⟨#[98, 111, 98]⟩ : ByteArray) ≠ ⟨#[99, 121]⟩ := of_decide_eq_true (by kernel_rfl)
theorem bal_le (l : List S56) {a : ByteArray} (ha : a ∈ Ac) (d : ByteArray) : amN l (bKey a d) ≤ sumA l d := by
  have h1 := (amN_range l (bKey ⟨#[97, 110, 110]⟩ d)).1
  have h2 := (amN_range l (bKey ⟨#[98, 111, 98]⟩ d)).1
  have h3 := (amN_range l (bKey ⟨#[99, 121]⟩ d)).1
  unfold sumA
  rcases ac_cases ha with rfl | rfl | rfl <;> omega
/-- One account's amount is another; the sums. -/
theorem sum_upd {l r : List S56} {a d : ByteArray} (ha : a ∈ Ac) (hd : d ∈ Dn) (n : Int) (h1 : amN r (bKey a d) = amN l (bKey a d) + n) (h2 : ∀ b, b ≠ bKey a d → amN r b = amN l b) (d' : ByteArray) (hd' : d' ∈ Dn) :
    sumA r d' = sumA l d' + (if d' = d then n else 0) := by
  by_cases hdd : d' = d
  · subst hdd
    have hne : ∀ a' ∈ Ac, a' ≠ a → amN r (bKey a' d') = amN l (bKey a' d') := fun a' h' hn => h2 _ fun e => hn (bk_inj d' hd d' hd a' h' a ha e).1
    rw [if_pos rfl]
    unfold sumA
    rcases ac_cases ha with rfl | rfl | rfl
    · rw [h1, hne _ ac2 ac_ne.1.symm, hne _ ac3 ac_ne.2.1.symm]; omega
    · rw [h1, hne _ ac1 ac_ne.1, hne _ ac3 ac_ne.2.2.symm]; omega
    · rw [h1, hne _ ac1 ac_ne.2.1, hne _ ac2 ac_ne.2.2]; omega
  · have hne : ∀ a' ∈ Ac, amN r (bKey a' d') = amN l (bKey a' d') := fun a' h' => h2 _ fun e => hdd (bk_inj d' hd' d hd a' h' a ha e).2
    rw [if_neg hdd]
    unfold sumA
    rw [hne _ ac1, hne _ ac2, hne _ ac3]
    omega
theorem sum_same {l r : List S56} {d : ByteArray} (hd : d ∈ Dn) (h2 : ∀ b, b ≠ sKey d → amN r b = amN l b) (d' : ByteArray) (hd' : d' ∈ Dn) : sumA r d' = sumA l d' := by
  have hne : ∀ a' ∈ Ac, amN r (bKey a' d') = amN l (bKey a' d') := fun a' h' => h2 _ (bs_ne d' hd' d hd a' h')
  unfold sumA
  rw [hne _ ac1, hne _ ac2, hne _ ac3]
/-- A bank that was drawn. -/
structure Bk (t : Int) (l : List S56) : Prop where
  rt : Rt l
  gv : gv l
  keys : ∀ x ∈ l, (∃ d ∈ Dn, ∃ a ∈ Ac, x.f0 = bKey a d) ∨ ∃ d ∈ Dn, x.f0 = sKey d
  sum : ∀ d ∈ Dn, amN l (sKey d) = sumA l d
  le : ∀ d ∈ Dn, amN l (sKey d) ≤ t
theorem bk_nil : Bk 0 [] := by
  refine ⟨⟨by simp, by simp, List.Pairwise.nil⟩, (fun x hx => by cases hx), (fun x hx => by cases hx), fun d hd => ?_, fun d hd => ?_⟩
  · unfold sumA
    rw [am_none (by simp), am_none (by simp), am_none (by simp), am_none (by simp)]
    rfl
  · rw [am_none (by simp)]
    decide
theorem bk_le {t t' : Int} {l : List S56} (h : Bk t l) (ht : t ≤ t') : Bk t' l := ⟨h.rt, h.gv, h.keys, h.sum, fun d hd => Int.le_trans (h.le d hd) ht⟩
theorem two_eq {l r1 r2 : List S56} {a b : ByteArray} {n m : Int} (h1 : addN l a n = (r1, 0)) (h2 : addN r1 b m = (r2, 0)) : twoN l a n b m = (r2, 0) := by
  unfold twoN
  rw [h1]
  simp only []
  rw [h2]
  rfl
theorem two_low {l : List S56} {a b : ByteArray} {n m : Int} (h : amN l a + n < 0) : twoN l a n b m = (l, 12) := by
  have h1 : addN l a n = (l, 12) := by unfold addN; rw [if_pos h]
  unfold twoN
  rw [h1]
  rfl
theorem mint_bk {t : Int} {l : List S56} (h : Bk t l) (hl : l.length < 300) {a d : ByteArray} (ha : a ∈ Ac) (hd : d ∈ Dn) (n : Int) (n0 : 0 ≤ n) (hn : t + n ≤ 1000000000000000000) :
    ∃ r, twoN l (sKey d) n (bKey a d) n = (r, 0) ∧ Bk (t + n) r ∧ r.length ≤ l.length + 2 ∧ amN r (sKey d) = amN l (sKey d) + n := by
  have hs := h.sum d hd
  have hle := h.le d hd
  have g1 := (amN_range l (sKey d)).1
  obtain ⟨r1, e1, t1, v1, l1, m1, o1, k1⟩ := add_map h.rt h.gv (by omega) (sKey d) (sk_key d hd) n (by omega) (by omega)
  have hb := o1 _ (bs_ne d hd d hd a ha)
  have g2 := (amN_range l (bKey a d)).1
  have g3 := bal_le l ha d
  obtain ⟨r2, e2, t2, v2, l2, m2, o2, k2⟩ := add_map t1 v1 (by omega) (bKey a d) (bk_key d hd a ha) n (by omega) (by omega)
  have os : ∀ d' ∈ Dn, amN r2 (sKey d') = amN r1 (sKey d') := fun d' hd' => o2 _ (fun e => bs_ne d hd d' hd' a ha e.symm)
  have os1 : ∀ d' ∈ Dn, amN r1 (sKey d') = amN l (sKey d') + (if d' = d then n else 0) := by
    intro d' hd'
    by_cases hdd : d' = d
    · subst hdd
      rw [if_pos rfl, m1]
    · rw [if_neg hdd, o1 _ (fun e => hdd (sk_inj d' hd' d hd e))]
      omega
  have u1 : ∀ d' ∈ Dn, sumA r1 d' = sumA l d' := fun d' hd' => sum_same hd o1 d' hd'
  have u2 : ∀ d' ∈ Dn, sumA r2 d' = sumA r1 d' + (if d' = d then n else 0) := fun d' hd' => sum_upd ha hd n m2 o2 d' hd'
  refine ⟨r2, two_eq e1 e2, ⟨t2, v2, ?_, fun d' hd' => ?_, fun d' hd' => ?_⟩, by omega, by rw [os d hd, m1]⟩
  · intro x hx
    rcases k2 x hx with e | hx
    · exact .inl ⟨d, hd, a, ha, e⟩
    · rcases k1 x hx with e | hx
      · exact .inr ⟨d, hd, e⟩
      · exact h.keys x hx
  · rw [os d' hd', os1 d' hd', u2 d' hd', u1 d' hd', h.sum d' hd']
  · rw [os d' hd', os1 d' hd']
    have := h.le d' hd'
    split <;> omega
theorem burn_bk {t : Int} {l : List S56} (h : Bk t l) (hl : l.length < 300) {a d : ByteArray} (ha : a ∈ Ac) (hd : d ∈ Dn) (n : Int) (n0 : 0 ≤ n) (hn : n ≤ amN l (bKey a d)) :
    ∃ r, twoN l (bKey a d) (-n) (sKey d) (-n) = (r, 0) ∧ Bk t r ∧ r.length ≤ l.length + 2 ∧ amN r (sKey d) = amN l (sKey d) + -n := by
  have hs := h.sum d hd
  have g1 := amN_range l (sKey d)
  have g2 := amN_range l (bKey a d)
  have g3 := bal_le l ha d
  obtain ⟨r1, e1, t1, v1, l1, m1, o1, k1⟩ := add_map h.rt h.gv (by omega) (bKey a d) (bk_key d hd a ha) (-n) (by omega) (by omega)
  have hb := o1 _ (fun e => bs_ne d hd d hd a ha e.symm)
  obtain ⟨r2, e2, t2, v2, l2, m2, o2, k2⟩ := add_map t1 v1 (by omega) (sKey d) (sk_key d hd) (-n) (by omega) (by omega)
  have os : ∀ d' ∈ Dn, amN r2 (sKey d') = amN l (sKey d') + (if d' = d then -n else 0) := by
    intro d' hd'
    by_cases hdd : d' = d
    · subst hdd
      rw [if_pos rfl, m2, hb]
    · rw [if_neg hdd, o2 _ (fun e => hdd (sk_inj d' hd' d hd e)), o1 _ (fun e => bs_ne d hd d' hd' a ha e.symm)]
      omega
  have u1 : ∀ d' ∈ Dn, sumA r1 d' = sumA l d' + (if d' = d then -n else 0) := fun d' hd' => sum_upd ha hd (-n) m1 o1 d' hd'
  have u2 : ∀ d' ∈ Dn, sumA r2 d' = sumA r1 d' := fun d' hd' => sum_same hd o2 d' hd'
  refine ⟨r2, two_eq e1 e2, ⟨t2, v2, ?_, fun d' hd' => ?_, fun d' hd' => ?_⟩, by omega, by rw [m2, hb]⟩
  · intro x hx
    rcases k2 x hx with e | hx
    · exact .inr ⟨d, hd, e⟩
    · rcases k1 x hx with e | hx
      · exact .inl ⟨d, hd, a, ha, e⟩
      · exact h.keys x hx
  · rw [os d' hd', u2 d' hd', u1 d' hd', h.sum d' hd']
  · rw [os d' hd']
    have := h.le d' hd'
    split <;> omega
theorem move_bk {t : Int} {l : List S56} (h : Bk t l) (hl : l.length < 300) {a b d : ByteArray} (ha : a ∈ Ac) (hb : b ∈ Ac) (hd : d ∈ Dn) (n : Int) (n0 : 0 ≤ n) (hn : n ≤ amN l (bKey a d)) (ht : t ≤ 1000000000000000000) :
    ∃ r, twoN l (bKey a d) (-n) (bKey b d) n = (r, 0) ∧ Bk t r ∧ r.length ≤ l.length + 2 ∧ amN r (sKey d) = amN l (sKey d) + 0 := by
  have hs := h.sum d hd
  have hle := h.le d hd
  have g1 := amN_range l (sKey d)
  have g2 := amN_range l (bKey a d)
  have g3 := bal_le l ha d
  obtain ⟨r1, e1, t1, v1, l1, m1, o1, k1⟩ := add_map h.rt h.gv (by omega) (bKey a d) (bk_key d hd a ha) (-n) (by omega) (by omega)
  have u1 : ∀ d' ∈ Dn, sumA r1 d' = sumA l d' + (if d' = d then -n else 0) := fun d' hd' => sum_upd ha hd (-n) m1 o1 d' hd'
  have g4 := amN_range r1 (bKey b d)
  have g5 := bal_le r1 hb d
  have g6 := u1 d hd
  rw [if_pos rfl] at g6
  obtain ⟨r2, e2, t2, v2, l2, m2, o2, k2⟩ := add_map t1 v1 (by omega) (bKey b d) (bk_key d hd b hb) n (by omega) (by omega)
  have u2 : ∀ d' ∈ Dn, sumA r2 d' = sumA r1 d' + (if d' = d then n else 0) := fun d' hd' => sum_upd hb hd n m2 o2 d' hd'
  have os : ∀ d' ∈ Dn, amN r2 (sKey d') = amN l (sKey d') := by
    intro d' hd'
    rw [o2 _ (fun e => bs_ne d hd d' hd' b hb e.symm), o1 _ (fun e => bs_ne d hd d' hd' a ha e.symm)]
  refine ⟨r2, two_eq e1 e2, ⟨t2, v2, ?_, fun d' hd' => ?_, fun d' hd' => ?_⟩, by omega, by rw [os d hd]; omega⟩
  · intro x hx
    rcases k2 x hx with e | hx
    · exact .inl ⟨d, hd, b, hb, e⟩
    · rcases k1 x hx with e | hx
      · exact .inl ⟨d, hd, a, ha, e⟩
      · exact h.keys x hx
  · rw [os d' hd', u2 d' hd', u1 d' hd', h.sum d' hd']
    split <;> omega
  · rw [os d' hd']
    exact h.le d' hd'
end Go.Proofs.YtpkfdjlmflmilaaGreatDoor.Pure
end
section
namespace Go.Proofs.YtpkfdjlmflmilaaGreatDoor.Pure
open Go.RowKit Go.Proofs.YtpkfdjlmflmilaaGreatDoor.Q Go.Proofs.YtpkfdjlmflmilaaGreatDoorW.PrintWords Go.Proofs.YtpkfdjlmflmilaaGreatDoorW.PrintLast
set_option linter.unusedVariables false
def begB (p : ByteArray) (x : S56) : Bool := decide (p.toList <+: x.f0.toList)
def scanN (l : List S56) (p : ByteArray) : List S56 := l.filter (begB p)
theorem hasPrefix_eq (s p : ByteArray) : strings_HasPrefix.f s p = some (decide (p.toList <+: s.toList)) := rfl
theorem impl_scan_l0 (l : List S56) (p : ByteArray) (hl : l.length ≤ 1048576) (d : Nat) : ∀ (k i : Nat) (acc : List S56), l.length - i = d → acc.length ≤ i → i ≤ l.length → d < k →
    impl_scan.l0 k p acc l (l.length : Int) (i : Int) = some (acc ++ (l.drop i).filter (begB p)) := by
  induction d with
  | zero =>
    intro k i acc hd ha hi hk
    obtain ⟨k, rfl⟩ : ∃ m, k = m + 1 := ⟨k - 1, by omega⟩
    simp only [impl_scan.l0]
    rw [if_neg (by omega), List.drop_of_length_le (by omega)]
    simp
  | succ d ih =>
    intro k i acc hd ha hi hk
    obtain ⟨k, rfl⟩ : ∃ m, k = m + 1 := ⟨k - 1, by omega⟩
    have hlt : i < l.length := by omega
    have hr : rd_T56 l (i : Int) = l[i] := by simp [rd_T56, List.getD, List.getElem?_eq_getElem hlt]
    have h1 := ih k (i + 1) acc (by omega) (by omega) (by omega) (by omega)
    have h2 := ih k (i + 1) (acc ++ [l[i]]) (by omega) (by simp; omega) (by omega) (by omega)
    simp only [impl_scan.l0]
    rw [if_pos (by omega), if_pos (by omega), if_pos (by omega), hr, hasPrefix_eq, Option.bind_some, up64 hlt (by omega), List.drop_eq_getElem_cons hlt, List.filter_cons]
    have hb : begB p l[i] = decide (p.toList <+: l[i].f0.toList) := rfl
    by_cases h : p.toList <+: l[i].f0.toList
    · rw [if_pos (decide_eq_true h), if_pos (by omega), if_pos (by rw [hb]; exact decide_eq_true h)]
      rw [List.append_assoc, List.singleton_append] at h2
      exact h2
    · rw [if_neg (by rw [decide_eq_false h]; simp), if_neg (by rw [hb, decide_eq_false h]; simp)]
      exact h1
theorem impl_scan_eq (l : List S56) (p : ByteArray) (hl : l.length ≤ 1048576) (k : Nat) (hk : l.length < k) : impl_scan.f k l p = some (scanN l p) := by
  unfold impl_scan.f scanN
  have := impl_scan_l0 l p hl l.length k 0 [] (by omega) (by simp) (by omega) hk
  simpa using this
theorem scanN_len (l : List S56) (p : ByteArray) : (scanN l p).length ≤ l.length := List.length_filter_le _ _
/-- The head of a denomination's keys. -/
def hdD (d : ByteArray) : ByteArray := ((⟨#[98, 47]⟩ : ByteArray) ++ d) ++ (⟨#[47]⟩ : ByteArray)
theorem sz2 (d : ByteArray) : ((⟨#[98, 47]⟩ : ByteArray) ++ d).size = 2 + d.size := by rw [ByteArray.size_append]; rfl
theorem sz3 (d : ByteArray) : (((⟨#[98, 47]⟩ : ByteArray) ++ d) ++ (⟨#[47]⟩ : ByteArray)).size = 3 + d.size := by rw [ByteArray.size_append, sz2, show (⟨#[47]⟩ : ByteArray).size = 1 from rfl]; omega
theorem impl_bkey (d : ByteArray) (hd : d.size ≤ 12) : impl_balanceKey.f d (⟨#[]⟩ : ByteArray) = some (hdD d) := by
  unfold impl_balanceKey.f hdD
  rw [sz2, sz3, if_pos (by omega), if_pos (by omega), if_pos (by rw [show (⟨#[]⟩ : ByteArray).size = 0 from rfl]; omega)]
  congr 1
  exact ByteArray.append_empty
/-- The balance that a pair tells. -/
def balT (d : ByteArray) (x : S56) : S46 := ⟨trimP x.f0 (hdD d), d, (raT x.f1).1⟩
theorem impl_bals_l0 (d : ByteArray) (s : List S56) (hs : s.length ≤ 4096) (hb : ∀ x ∈ s, x.f1.size ≤ 65536) (n : Nat) : ∀ (k i : Nat) (acc : List S46), s.length - i = n → acc.length ≤ i → i ≤ s.length → n < k →
    impl_balances.l0 k d acc (hdD d) s (s.length : Int) (i : Int) = some (acc ++ (s.drop i).map (balT d)) := by
  induction n with
  | zero =>
    intro k i acc hd ha hi hk
    obtain ⟨k, rfl⟩ : ∃ m, k = m + 1 := ⟨k - 1, by omega⟩
    simp only [impl_balances.l0]
    rw [if_neg (by omega), List.drop_of_length_le (by omega)]
    simp
  | succ n ih =>
    intro k i acc hd ha hi hk
    obtain ⟨k, rfl⟩ : ∃ m, k = m + 1 := ⟨k - 1, by omega⟩
    have hlt : i < s.length := by omega
    have hr : rd_T56 s (i : Int) = s[i] := by simp [rd_T56, List.getD, List.getElem?_eq_getElem hlt]
    have hv := hb _ (List.getElem_mem hlt)
    have h2 := ih k (i + 1) (acc ++ [balT d s[i]]) (by omega) (by simp; omega) (by omega) (by omega)
    have hra : impl_readAmount.f s[i].f1 = some (raT s[i].f1) := by
      unfold impl_readAmount.f
      rw [if_pos (by omega)]
    have htp : strings_TrimPrefix.f s[i].f0 (hdD d) = some (trimP s[i].f0 (hdD d)) := rfl
    simp only [impl_balances.l0]
    rw [if_pos (by omega), if_pos (by omega), if_pos (by omega), hr, hra, Option.bind_some, htp, Option.bind_some, if_pos (by omega), up64 hlt (by omega), List.drop_eq_getElem_cons hlt, List.map_cons]
    rw [List.append_assoc, List.singleton_append] at h2
    exact h2
/-- The balances of a denomination in a store. -/
def balsN (l : List S56) (d : ByteArray) : List S46 := (scanN l (hdD d)).map (balT d)
theorem scanN_val {l : List S56} (hr : rightB l = true) (p : ByteArray) : ∀ x ∈ scanN l p, begB p x = true ∧ x.f1.size ≤ 65536 := by
  intro x hx
  unfold scanN at hx
  obtain ⟨h1, h2⟩ := List.mem_filter.1 hx
  refine ⟨h2, ?_⟩
  obtain ⟨i, hi, rfl⟩ := List.getElem_of_mem h1
  have h3 := (right_key hr i hi).2
  unfold valB at h3
  rw [show l.getD i z56 = l[i] by simp [List.getD, List.getElem?_eq_getElem hi]] at h3
  have := of_decide_eq_true h3
  omega
theorem impl_bals {l : List S56} (hr : rightB l = true) (d : ByteArray) (hd : d.size ≤ 12) (k : Nat) (hk : 150000 ≤ k) : impl_balances.f k l d = some (balsN l d) := by
  have hl := right_len hr
  have hs := scanN_len l (hdD d)
  unfold impl_balances.f
  rw [impl_bkey d hd, Option.bind_some, impl_scan_eq l (hdD d) (by omega) k (by omega), Option.bind_some]
  have h := impl_bals_l0 d (scanN l (hdD d)) (by omega) (fun x hx => (scanN_val hr _ x hx).2) (scanN l (hdD d)).length k 0 [] (by omega) (by simp) (by omega) (by omega)
  rw [List.drop_zero, List.nil_append] at h
  exact h
def balancesN (l : List S56) (d : ByteArray) : List S46 × Int :=
  if l.length > 4096 ∨ d.size > 65536 then ([], 2) else if bkCode l [d] = 0 then (balsN l d, 0) else ([], bkCode l [d])
theorem impl_Bals (l : List S56) (d : ByteArray) (k : Nat) (hk : 150000 ≤ k) : impl_Balances.f k l d = some (balancesN l d) := by
  unfold impl_Balances.f balancesN
  rw [impl_code l [d] k (by omega), Option.bind_some]
  have hany : ([d].any fun x => decide (65536 < (x.size : Int))) = decide (d.size > 65536) := by
    simp only [List.any_cons, List.any_nil, Bool.or_false]
    rw [Bool.eq_iff_iff]
    simp
    omega
  rw [hany]
  by_cases h1 : l.length > 4096 ∨ d.size > 65536
  · have hc : codeN l (decide (d.size > 65536)) = 2 := by
      unfold codeN
      rw [if_pos]
      rcases h1 with h1 | h1
      · exact .inl h1
      · exact .inr (decide_eq_true h1)
    rw [hc, if_neg (by decide), if_pos h1]
  · rw [decide_eq_false (fun h => h1 (.inr h)), if_neg h1]
    have hc : codeN l false = if rightB l = true then 0 else 1 := by
      unfold codeN
      rw [if_neg]
      rintro (h | h)
      · exact h1 (.inl h)
      · cases h
    have hb2 : bkCode l [d] = if rightB l = true then (if [d].all nmB = true then 0 else 4) else 1 := by
      unfold bkCode
      rw [if_neg (fun h => h1 (.inl h))]
    rw [hc, hb2]
    have hd : d.size ≤ 65536 := by omega
    cases hr : rightB l with
    | false => simp
    | true =>
      simp only [if_true, List.all_cons, List.all_nil, Bool.and_true]
      rw [impl_nm d hd k (by omega), Option.bind_some]
      cases hn : nmB d with
      | false => simp
      | true =>
        simp only [if_true]
        rw [impl_bals hr d (nm_size hn) k (by omega), Option.bind_some]
end Go.Proofs.YtpkfdjlmflmilaaGreatDoor.Pure
end
section
namespace Go.Proofs.YtpkfdjlmflmilaaGreatDoor.Pure
open Go.RowKit Go.Proofs.YtpkfdjlmflmilaaGreatDoor.Q Go.Proofs.YtpkfdjlmflmilaaGreatDoorW.PrintWords Go.Proofs.YtpkfdjlmflmilaaGreatDoorW.PrintLast
set_option linter.unusedVariables false
theorem beg_bk0 : ∀ d ∈ Dn, ∀ d' ∈ Dn, ∀ a ∈ Ac, (hdD d).data.toList <+: (bKey a d').data.toList → d = d' := of_decide_eq_true (by kernel_rfl)
theorem beg_sk0 : ∀ d ∈ Dn, ∀ d' ∈ Dn, ¬ (hdD d).data.toList <+: (sKey d').data.toList := of_decide_eq_true (by kernel_rfl)
theorem beg_own0 : ∀ d ∈ Dn, ∀ a ∈ Ac, (hdD d).data.toList <+: (bKey a d).data.toList := of_decide_eq_true (by kernel_rfl)
theorem trim_own0 : ∀ d ∈ Dn, ∀ a ∈ Ac, (⟨((bKey a d).data.toList.drop (hdD d).data.toList.length).toArray⟩ : ByteArray) = a := of_decide_eq_true (by kernel_rfl)
theorem trim_own {d a : ByteArray} (hd : d ∈ Dn) (ha : a ∈ Ac) : trimP (bKey a d) (hdD d) = a := by
  have hp : (hdD d).toList <+: (bKey a d).toList := by
    rw [Lib.toList_data, Lib.toList_data]
    exact beg_own0 d hd a ha
  have e := trim_own0 d hd a ha
  unfold trimP Lib.trimPrefix
  rw [tp_has, decide_eq_true hp, if_pos rfl]
  exact e
/-- What stands under one key. -/
def atK (v : S56 → Int) (m : List S56) (k : ByteArray) : Int := ((m.filter fun x => decide (x.f0 = k)).map v).sum
theorem atK_cons (v : S56 → Int) (x : S56) (m : List S56) (k : ByteArray) : atK v (x :: m) k = (if x.f0 = k then v x else 0) + atK v m k := by
  unfold atK
  rw [List.filter_cons]
  by_cases h : x.f0 = k
  · rw [if_pos (decide_eq_true h), if_pos h, List.map_cons, List.sum_cons]
  · rw [if_neg (by rw [decide_eq_false h]; decide), if_neg h, Int.zero_add]
theorem sum_keys (v : S56 → Int) (k1 k2 k3 : ByteArray) (h12 : k1 ≠ k2) (h13 : k1 ≠ k3) (h23 : k2 ≠ k3) : ∀ (m : List S56), (∀ x ∈ m, x.f0 = k1 ∨ x.f0 = k2 ∨ x.f0 = k3) → (m.map v).sum = atK v m k1 + atK v m k2 + atK v m k3
  | [], _ => rfl
  | x :: m, h => by
    have ih := sum_keys v k1 k2 k3 h12 h13 h23 m (fun y hy => h y (List.mem_cons_of_mem _ hy))
    rw [List.map_cons, List.sum_cons, ih, atK_cons, atK_cons, atK_cons]
    rcases h x List.mem_cons_self with e | e | e
    · rw [if_pos e, if_neg (by rw [e]; exact h12), if_neg (by rw [e]; exact h13)]
      omega
    · rw [if_neg (by rw [e]; exact h12.symm), if_pos e, if_neg (by rw [e]; exact h23)]
      omega
    · rw [if_neg (by rw [e]; exact h13.symm), if_neg (by rw [e]; exact h23.symm), if_pos e]
      omega
theorem atK_am {l : List S56} (h : Rt l) (k : ByteArray) : atK (fun x => (raT x.f1).1) l k = amN l k := by
  by_cases hx : ∃ x ∈ l, x.f0 = k
  · obtain ⟨x, hx, rfl⟩ := hx
    rw [am_mem h hx]
    obtain ⟨A, B, rfl⟩ := List.append_of_mem hx
    obtain ⟨p1, p2, p3⟩ := List.pairwise_append.1 h.2.2
    have hA : A.filter (fun y => decide (y.f0 = x.f0)) = [] := by
      rw [List.filter_eq_nil_iff]
      intro y hy he
      have := p3 y hy x (by simp)
      unfold Lt at this
      rw [of_decide_eq_true he, less_irrefl] at this
      cases this
    have hB : B.filter (fun y => decide (y.f0 = x.f0)) = [] := by
      rw [List.filter_eq_nil_iff]
      intro y hy he
      have := (List.pairwise_cons.1 p2).1 y hy
      unfold Lt at this
      rw [of_decide_eq_true he, less_irrefl] at this
      cases this
    unfold atK
    rw [List.filter_append, List.filter_cons, hA, hB, if_pos (decide_eq_true rfl)]
    show (raT x.f1).1 + 0 = _
    omega
  · have hn : ∀ x ∈ l, x.f0 ≠ k := fun x hx' e => hx ⟨x, hx', e⟩
    rw [am_none hn]
    unfold atK
    rw [show l.filter (fun y => decide (y.f0 = k)) = [] by rw [List.filter_eq_nil_iff]; intro y hy he; exact hn y hy (of_decide_eq_true he)]
    rfl
theorem beg_key {t : Int} {l : List S56} (h : Bk t l) {d : ByteArray} (hd : d ∈ Dn) {x : S56} (hx : x ∈ l) (hb : begB (hdD d) x = true) : ∃ a ∈ Ac, x.f0 = bKey a d := by
  have hp : (hdD d).toList <+: x.f0.toList := of_decide_eq_true hb
  rw [Lib.toList_data, Lib.toList_data] at hp
  rcases h.keys x hx with ⟨d', hd', a, ha, e⟩ | ⟨d', hd', e⟩
  · rw [e] at hp
    obtain rfl := beg_bk0 d hd d' hd' a ha hp
    exact ⟨a, ha, e⟩
  · rw [e] at hp
    exact absurd hp (beg_sk0 d hd d' hd')
theorem bals_sum {t : Int} {l : List S56} (h : Bk t l) {d : ByteArray} (hd : d ∈ Dn) : ((balsN l d).map (fun e => e.f2)).sum = sumA l d := by
  unfold balsN
  rw [List.map_map]
  show ((scanN l (hdD d)).map (fun x => (raT x.f1).1)).sum = _
  have hne : ∀ a ∈ Ac, ∀ a' ∈ Ac, a ≠ a' → bKey a d ≠ bKey a' d := fun a ha a' ha' hn e => hn (bk_inj d hd d hd a ha a' ha' e).1
  rw [sum_keys _ (bKey ⟨#[97, 110, 110]⟩ d) (bKey ⟨#[98, 111, 98]⟩ d) (bKey ⟨#[99, 121]⟩ d) (hne _ ac1 _ ac2 ac_ne.1) (hne _ ac1 _ ac3 ac_ne.2.1) (hne _ ac2 _ ac3 ac_ne.2.2) _ ?_]
  · have hf : ∀ a ∈ Ac, atK (fun x => (raT x.f1).1) (scanN l (hdD d)) (bKey a d) = amN l (bKey a d) := by
      intro a ha
      rw [← atK_am h.rt]
      unfold atK scanN
      rw [List.filter_filter]
      congr 2
      refine List.filter_congr fun x hx => ?_
      by_cases e : x.f0 = bKey a d
      · have hb : begB (hdD d) x = true := by
          unfold begB
          rw [e, Lib.toList_data, Lib.toList_data]
          exact decide_eq_true (beg_own0 d hd a ha)
        rw [hb, decide_eq_true e]
        rfl
      · rw [decide_eq_false e]
        rfl
    rw [hf _ ac1, hf _ ac2, hf _ ac3]
    rfl
  · intro x hx
    obtain ⟨h1, h2⟩ := List.mem_filter.1 hx
    obtain ⟨a, ha, e⟩ := beg_key h hd h1 h2
    rcases ac_cases ha with rfl | rfl | rfl
    · exact .inl e
    · exact .inr (.inl e)
    · exact .inr (.inr e)
theorem bals_each {t : Int} {l : List S56} (h : Bk t l) {d : ByteArray} (hd : d ∈ Dn) : ∀ e ∈ balsN l d, e.f0 ∈ Ac ∧ e.f2 = amN l (bKey e.f0 d) ∧ 1 ≤ e.f2 := by
  intro e he
  obtain ⟨x, hx, rfl⟩ := List.mem_map.1 he
  obtain ⟨h1, h2⟩ := List.mem_filter.1 hx
  obtain ⟨a, ha, ek⟩ := beg_key h hd h1 h2
  have e0 : (balT d x).f0 = a := by
    show trimP x.f0 (hdD d) = a
    rw [ek]
    exact trim_own hd ha
  refine ⟨by rw [e0]; exact ha, ?_, ?_⟩
  · rw [e0, ← ek, am_mem h.rt h1]
    rfl
  · obtain ⟨m, m0, m1, em⟩ := h.gv x h1
    show 1 ≤ (raT x.f1).1
    rw [em, ra_itoa m m1]
    omega
theorem sum_nonneg : ∀ (m : List Int), (∀ x ∈ m, 1 ≤ x) → 0 ≤ m.sum
  | [], _ => by decide
  | x :: m, h => by
    have := sum_nonneg m (fun y hy => h y (List.mem_cons_of_mem _ hy))
    have := h x List.mem_cons_self
    rw [List.sum_cons]
    omega
theorem sum_take (m : List Int) (h : ∀ x ∈ m, 1 ≤ x) (j : Nat) : 0 ≤ (m.take j).sum ∧ (m.take j).sum ≤ m.sum := by
  have h1 := sum_nonneg (m.take j) (fun x hx => h x (List.mem_of_mem_take hx))
  have h2 := sum_nonneg (m.drop j) (fun x hx => h x (List.mem_of_mem_drop hx))
  have h3 : m.sum = (m.take j).sum + (m.drop j).sum := by rw [← List.sum_append, List.take_append_drop]
  omega
end Go.Proofs.YtpkfdjlmflmilaaGreatDoor.Pure
end
section
namespace Go.Proofs.YtpkfdjlmflmilaaGreatDoor.Q
open Go.RowKit Go.Proofs.YtpkfdjlmflmilaaGreatDoorW.PrintWords Go.Proofs.YtpkfdjlmflmilaaGreatDoorW.PrintLast Go.Proofs.YtpkfdjlmflmilaaGreatDoorW.PrintMore Go.Proofs.YtpkfdjlmflmilaaGreatDoor.Pure
set_option linter.unusedVariables false
set_option linter.unusedSimpArgs false
/-- What the law asks of one of its stores. -/
def StC (k : Nat) (d : ByteArray) (r : List S56) (due : Int) : Prop :=
  impl_SupplyOf.f k r d = some (due, 0) ∧ ∃ bl, impl_Balances.f k r d = some (bl, 0) ∧ (∀ e ∈ bl, impl_BalanceOf.f k r e.f0 d = some (e.f2, 0) ∧ 1 ≤ e.f2) ∧ (bl.map fun e => e.f2).sum = due ∧ due ≤ 1000000000000000000 ∧ bl.length ≤ 400
/-- What the law asks of its three ways. -/
def BankC (k : Nat) (l : List S56) (a b d : ByteArray) (n : Int) : Prop :=
  ∃ (r1 r2 r3 : List S56) (c1 c2 c3 w0 am : Int), (impl_Mint.f l a d n = some (r1, c1) ∧ impl_Burn.f l a d n = some (r2, c2) ∧ impl_MoveCoins.f l a b d n = some (r3, c3)) ∧
    (spec_Mint.f l a d n = some (r1, c1) ∧ spec_Burn.f l a d n = some (r2, c2) ∧ spec_MoveCoins.f l a b d n = some (r3, c3)) ∧
    (laws_samePairs.f k r1 r1 = some true ∧ laws_samePairs.f k r2 r2 = some true ∧ laws_samePairs.f k r3 r3 = some true) ∧
    spec_SupplyOf.f k l d = some (w0, 0) ∧ (StC k d r1 (if c1 = 0 then w0 + n else w0) ∧ StC k d r2 (if c2 = 0 then w0 + -n else w0) ∧ StC k d r3 (if c3 = 0 then w0 + 0 else w0)) ∧
    laws_amount.f k l a d = some am ∧ (c3 = 0 ↔ n ≤ am) ∧ impl_DenomOK.f k d = some true ∧ (0 ≤ w0 ∧ w0 ≤ 1000000000000000000) ∧ (1 ≤ n ∧ n ≤ 500)
theorem al_keep (w : World) (o : Obj) {k : Nat} {x : Obj} (h : w.heap[k]? = some x) (hk : k < w.heap.size) : (w.alloc o).heap[k]? = some x := (((Below.refl w.heap.size w).alloc (Nat.le_refl _) o).block k hk).trans h
theorem al3_0 (w : World) (o1 o2 o3 : Obj) : (((w.alloc o1).alloc o2).alloc o3).heap[w.heap.size]? = some o1 :=
  al_keep _ _ (al_keep _ _ (heap_alloc_new w o1) (by rw [size_one]; omega)) (by rw [size_one, size_one]; omega)
theorem al3_1 (w : World) (o1 o2 o3 : Obj) : (((w.alloc o1).alloc o2).alloc o3).heap[w.heap.size + 1]? = some o2 := by
  have h := heap_alloc_new (w.alloc o1) o2
  rw [size_one] at h
  exact al_keep _ _ h (by rw [size_one, size_one]; omega)
theorem al3_2 (w : World) (o1 o2 o3 : Obj) : (((w.alloc o1).alloc o2).alloc o3).heap[w.heap.size + 1 + 1]? = some o3 := by
  have h := heap_alloc_new ((w.alloc o1).alloc o2) o3
  rw [size_one, size_one] at h
  exact h
open Classical in
noncomputable def laws_FnBank.f (k : Nat) (c m : List Int) : Option Bool :=
  if 1048576 < (c.length : Int) ∨ 1048576 < (m.length : Int) then some true else
  (spec_BankOf.f k c).bind fun l => (spec_AccountOf.f m).bind fun a => (spec_AccountOf.f ([1] ++ m)).bind fun b => (spec_DenomOf.f m).bind fun d => (laws_at.f m 5 500).bind fun n0 =>
    if (0 ≤ n0 ∧ n0 ≤ 499) ∧ BankC k l a b d (1 + n0) then some true else none
set_option maxHeartbeats 16000000 in
set_option maxRecDepth 100000 in
theorem laws_FnBank.calls (k : Nat) (A0 : Option Addr) (c0 : Nat) (l0 : List Int) (A1 : Option Addr) (c1 : Nat) (l1 : List Int) (r : Bool) (w : World) (hr0 : Kd.C (Kd.int .u8) w A0 l0.length l0) (hc0 : l0.length ≤ c0) (hr1 : Kd.C (Kd.int .u8) w A1 l1.length l1) (hc1 : l1.length ≤ c1) (htab : Tb.TB w) (h : laws_FnBank.f k l0 l1 = some r) :
    Calls Tryz.prog 6 #[.slice A0 l0.length c0, .slice A1 l1.length c1] w fun e w' => e = .returned (.bool r) ∧ Below w.heap.size w w' := by
  unfold laws_FnBank.f at h
  by_cases hlong : 1048576 < (l0.length : Int) ∨ 1048576 < (l1.length : Int)
  · rw [if_pos hlong] at h
    injection h with h
    subst h
    clear hr0 hr1 htab
    generalize l0.length = n0 at *
    generalize l1.length = n1 at *
    by_cases h0 : 1048576 < (n0 : Int)
    · clear hlong
      go_enter Tryz.func6, Tryz.ntmps6
      go_wp2
      go_ret
      exact ⟨rfl, Below.refl _ _⟩
    · have h1 : 1048576 < (n1 : Int) := by omega
      clear hlong
      go_enter Tryz.func6, Tryz.ntmps6
      go_wp2
      go_ret
      exact ⟨rfl, Below.refl _ _⟩
  · rw [if_neg hlong] at h
    obtain ⟨l, hl, h⟩ := Option.bind_eq_some_iff.1 h
    obtain ⟨a, ha, h⟩ := Option.bind_eq_some_iff.1 h
    obtain ⟨b, hb, h⟩ := Option.bind_eq_some_iff.1 h
    obtain ⟨d, hd, h⟩ := Option.bind_eq_some_iff.1 h
    obtain ⟨m0, hm, h⟩ := Option.bind_eq_some_iff.1 h
    split at h
    case isFalse => cases h
    case isTrue hc =>
      injection h with h
      subst h
      obtain ⟨hm01, r1, r2, r3, e1, e2, e3, v0, am, ⟨i1, i2, i3⟩, ⟨s1, s2, s3⟩, ⟨p1, p2, p3⟩, hsup, ⟨t1, t2, t3⟩, ham, hiff, hden, hv0, hn⟩ := hc
      have hwn : wrap64 (1 + m0) = 1 + m0 := by unfold wrap64; omega
      have hn0 : ¬ (1048576 < (l0.length : Int)) := fun hh => hlong (.inl hh)
      have hn1 : ¬ (1048576 < (l1.length : Int)) := fun hh => hlong (.inr hh)
      have HNL := Aside0.mk hn1
      obtain ⟨n, hnn⟩ : ∃ n, 1 + m0 = n := ⟨_, rfl⟩
      rw [hnn] at i1 i2 i3 s1 s2 s3 t1 t2 hiff hn
      have HWN := Aside0.mk (hwn.trans hnn)
      clear hwn
      have HSO := Aside0.mk (fun W (hC : Kd.C (Kd.int .u8) W A0 l0.length l0) => spec_BankOf.calls k A0 c0 l0 l W hC hc0 hl)
      have HAC := Aside0.mk (fun W (hC : Kd.C (Kd.int .u8) W A1 l1.length l1) => spec_AccountOf.calls A1 c1 l1 a W hC hc1 ha)
      have HBC := Aside0.mk (fun A cc W (hC : Kd.C (Kd.int .u8) W A ([1] ++ l1).length ([1] ++ l1)) (hcc : ([1] ++ l1).length ≤ cc) => spec_AccountOf.calls A cc ([1] ++ l1) b W hC hcc hb)
      have HDC := Aside0.mk (fun W (hC : Kd.C (Kd.int .u8) W A1 l1.length l1) => spec_DenomOf.calls A1 c1 l1 d W hC hc1 hd)
      have HAT := Aside0.mk (fun W (hC : Kd.C (Kd.int .u8) W A1 l1.length l1) => laws_at.calls A1 c1 l1 5 500 m0 W hC hc1 hm)
      have HM1 := Aside0.mk (fun A cc W (hC : Kd.C k56 W A l.length l) (hcc : l.length ≤ cc) (ht : Tb.TB W) => impl_Mint.calls A cc l a d n r1 e1 W hC hcc ht i1)
      have HM2 := Aside0.mk (fun A cc W (hC : Kd.C k56 W A l.length l) (hcc : l.length ≤ cc) (ht : Tb.TB W) => impl_Burn.calls A cc l a d n r2 e2 W hC hcc ht i2)
      have HM3 := Aside0.mk (fun A cc W (hC : Kd.C k56 W A l.length l) (hcc : l.length ≤ cc) (ht : Tb.TB W) => impl_MoveCoins.calls A cc l a b d n r3 e3 W hC hcc ht i3)
      have HS1 := Aside0.mk (fun A cc W (hC : Kd.C k56 W A l.length l) (hcc : l.length ≤ cc) => spec_Mint.calls A cc l a d n r1 e1 W hC hcc s1)
      have HS2 := Aside0.mk (fun A cc W (hC : Kd.C k56 W A l.length l) (hcc : l.length ≤ cc) => spec_Burn.calls A cc l a d n r2 e2 W hC hcc s2)
      have HS3 := Aside0.mk (fun A cc W (hC : Kd.C k56 W A l.length l) (hcc : l.length ≤ cc) => spec_MoveCoins.calls A cc l a b d n r3 e3 W hC hcc s3)
      have HP1 := Aside0.mk (fun A cc A' cc' W (hC : Kd.C k56 W A r1.length r1) (hcc : r1.length ≤ cc) (hC' : Kd.C k56 W A' r1.length r1) (hcc' : r1.length ≤ cc') => laws_samePairs.calls k A cc r1 A' cc' r1 true W hC hcc hC' hcc' p1)
      have HP2 := Aside0.mk (fun A cc A' cc' W (hC : Kd.C k56 W A r2.length r2) (hcc : r2.length ≤ cc) (hC' : Kd.C k56 W A' r2.length r2) (hcc' : r2.length ≤ cc') => laws_samePairs.calls k A cc r2 A' cc' r2 true W hC hcc hC' hcc' p2)
      have HP3 := Aside0.mk (fun A cc A' cc' W (hC : Kd.C k56 W A r3.length r3) (hcc : r3.length ≤ cc) (hC' : Kd.C k56 W A' r3.length r3) (hcc' : r3.length ≤ cc') => laws_samePairs.calls k A cc r3 A' cc' r3 true W hC hcc hC' hcc' p3)
      have HSU := Aside0.mk (fun A cc W (hC : Kd.C k56 W A l.length l) (hcc : l.length ≤ cc) => spec_SupplyOf.calls k A cc l d v0 0 W hC hcc hsup)
      have HAM := Aside0.mk (fun A cc W (hC : Kd.C k56 W A l.length l) (hcc : l.length ≤ cc) => laws_amount.calls k A cc l a d am W hC hcc ham)
      have HDE := Aside0.mk (fun W => impl_DenomOK.calls k d true W hden)
      have HST := Aside0.mk (And.intro t1 (And.intro t2 t3))
      have HIF := Aside0.mk hiff
      have HN := Aside0.mk hn
      have HV := Aside0.mk hv0
      have HTB := Aside0.mk htab
      have HR0 := Aside0.mk hr0
      have HR1 := Aside0.mk hr1
      have HC1 := Aside0.mk hc1
      clear hl ha hb hd hm hm01 i1 i2 i3 s1 s2 s3 p1 p2 p3 hsup t1 t2 t3 ham hiff hden hv0 hn htab hr0 hr1 hlong hc0 hc1
      generalize hz0 : l0.length = n0 at *
      generalize hz1 : l1.length = n1 at *
      generalize hzl : l.length = nl at *
      generalize hzP : r1.length = nP at *
      generalize hzQ : r2.length = nQ at *
      generalize hzD : r3.length = nD at *
      have Z1 := Aside0.mk hz1
      have Zl := Aside0.mk hzl
      have ZP := Aside0.mk hzP
      have ZQ := Aside0.mk hzQ
      have ZD := Aside0.mk hzD
      clear hz0 hz1 hzl hzP hzQ hzD
      have HNN := Aside0.mk hnn
      clear hnn
      go_enter Tryz.func6, Tryz.ntmps6
      go_wp2_with fail
      refine (HSO.out _ HR0.out).mono ?_
      rintro e w1 ⟨v1, rfl, hR1, hb1⟩
      have BL1 := Aside0.mk hb1
      obtain ⟨AL, cL, rfl, hlL, hCL⟩ := Kd.R_reads hR1
      rw [Zl.out] at hlL hCL ⊢
      have HLc := Aside0.mk hlL
      have HL1 := Aside0.mk hCL
      clear hb1 hR1 hCL hlL
      go_wp2_with fail
      refine (HAC.out _ (Kd.C_below HR1.out BL1.out)).mono ?_
      rintro e w2 ⟨rfl, hb2⟩
      have BL2 := Aside0.mk (BL1.out.trans (hb2.mono BL1.out.size))
      have HL2 := Aside0.mk (Kd.C_below HL1.out hb2)
      clear hb2 HL1 BL1
      go_wp2_with (first
        | ((with_reducible refine gate_dst (N := 49) rfl ?_); refine Kd.R_lit (Kd.int .u8) _ 5 ?hg (N := 49) ?hd (xs := ([1] : List Int)) (inner := [.int .u8 1]) (ok := fun _ => True) (okp := fun _ => True) ?hr ?hp (fun _ hk => hk) trivial (Below.refl _ _) (Nat.le_refl _) (by simp) ?_; (case hd => rfl); (case hg => rfl); (case hr => first | (go_simp; done) | (go_simp; rfl)); (case hp => exact (Reps.one (show Kd.M (Kd.int .u8) _ _ _ 1 [.int .u8 1] from rfl) (Reps.none _ _))); intro v49 w3 ho hb hg_ hnew_; clear hg_ hnew_; have HO49 := Aside0.mk ho; have HB49 := Aside0.mk hb; clear ho hb)
        | ((with_reducible refine gate_dst (N := 51) rfl ?_); refine Kd.R_append_rows (Kd.int .u8) (w0 := w2) w2.heap.size rfl (.tmp 49) (.tmp 50) 33 5 (.int .u8 0) 1 rfl Tryz.underlying33 (by kernel_rfl) rfl (by decide) (by omega) v49 [1] l1 _ _ _ (fun _ => True) (fun _ => False) rfl rfl HO49.out (Kd.C_below (Kd.C_below HR1.out BL2.out) HB49.out) (fun _ _ h => h) (fun _ h => h.elim) (fun _ _ => trivial) HB49.out HB49.out.size (by have := HNL.out; have := Z1.out; simp; omega) ?_; intro v51 w4 hR51 hb51 hg_ hor_; clear hg_ hor_; have HB51 := Aside0.mk hb51; have HO51 := Aside0.mk hR51; clear hb51 hR51))
      obtain ⟨A3, c3, rfl, hl3, hC3⟩ := Kd.R_reads HO51.out
      refine (HBC.out A3 c3 _ hC3 hl3).mono ?_
      rintro e w5 ⟨rfl, hb5⟩
      have BL4 := Aside0.mk (BL2.out.trans (HB51.out.mono BL2.out.size))
      have BL5 := Aside0.mk (BL4.out.trans (hb5.mono BL4.out.size))
      have HL5 := Aside0.mk (Kd.C_below (Kd.C_below HL2.out HB51.out) hb5)
      clear hb5 hC3 hl3 HO49 HB49 HO51 HB51 HL2 BL2 BL4
      go_wp2_with fail
      refine (HDC.out _ (Kd.C_below HR1.out BL5.out)).mono ?_
      rintro e w6 ⟨rfl, hb6⟩
      have BL6 := Aside0.mk (BL5.out.trans (hb6.mono BL5.out.size))
      have HL6 := Aside0.mk (Kd.C_below HL5.out hb6)
      clear hb6 HL5 BL5
      go_wp2_with fail
      refine (HAT.out _ (Kd.C_below HR1.out BL6.out)).mono ?_
      rintro e w7 ⟨rfl, hd7⟩
      have BL7 := Aside0.mk (BL6.out.trans (hd7.below.mono BL6.out.size))
      have HL7 := Aside0.mk (Kd.C_below HL6.out hd7.below)
      clear hd7 HL6 BL6
      go_wp2_with fail
      rw [HWN.out]
      clear HWN HNN
      refine (HM1.out AL cL _ HL7.out HLc.out (Tb.TB.below HTB.out BL7.out (Nat.le_refl _))).mono ?_
      rintro e w8 ⟨v8, rfl, hR8, hb8⟩
      have BL8 := Aside0.mk (BL7.out.trans (hb8.mono BL7.out.size))
      have HL8 := Aside0.mk (Kd.C_below HL7.out hb8)
      obtain ⟨AP, cP, rfl, hlP, hCP⟩ := Kd.R_reads hR8
      rw [ZP.out] at hlP hCP ⊢
      have HlP := Aside0.mk hlP
      have HP8 := Aside0.mk hCP
      clear hb8 hR8 hCP hlP HL7 BL7 
      go_wp2_with fail
      refine (HM2.out AL cL _ HL8.out HLc.out (Tb.TB.below HTB.out BL8.out (Nat.le_refl _))).mono ?_
      rintro e w9 ⟨v9, rfl, hR9, hb9⟩
      have BL9 := Aside0.mk (BL8.out.trans (hb9.mono BL8.out.size))
      have HL9 := Aside0.mk (Kd.C_below HL8.out hb9)
      have HP9 := Aside0.mk (Kd.C_below HP8.out hb9)
      obtain ⟨AQ, cQ, rfl, hlQ, hCQ⟩ := Kd.R_reads hR9
      rw [ZQ.out] at hlQ hCQ ⊢
      have HlQ := Aside0.mk hlQ
      have HQ9 := Aside0.mk hCQ
      clear hb9 hR9 hCQ hlQ HL8 BL8 HP8
      go_wp2_with fail
      refine (HM3.out AL cL _ HL9.out HLc.out (Tb.TB.below HTB.out BL9.out (Nat.le_refl _))).mono ?_
      rintro e w10 ⟨v10, rfl, hR10, hb10⟩
      have BL10 := Aside0.mk (BL9.out.trans (hb10.mono BL9.out.size))
      have HL10 := Aside0.mk (Kd.C_below HL9.out hb10)
      have HP10 := Aside0.mk (Kd.C_below HP9.out hb10)
      have HQ10 := Aside0.mk (Kd.C_below HQ9.out hb10)
      obtain ⟨AD, cD, rfl, hlD, hCD⟩ := Kd.R_reads hR10
      rw [ZD.out] at hlD hCD ⊢
      have HlD := Aside0.mk hlD
      have HD10 := Aside0.mk hCD
      clear hb10 hR10 hCD hlD HL9 BL9 HP9 HQ9
      go_wp2_with fail
      refine (HS1.out AL cL _ HL10.out HLc.out).mono ?_
      rintro e w11 ⟨v11, rfl, hR11, hb11⟩
      have BL11 := Aside0.mk (BL10.out.trans (hb11.mono BL10.out.size))
      have HL11 := Aside0.mk (Kd.C_below HL10.out hb11)
      have HP11 := Aside0.mk (Kd.C_below HP10.out hb11)
      have HQ11 := Aside0.mk (Kd.C_below HQ10.out hb11)
      have HD11 := Aside0.mk (Kd.C_below HD10.out hb11)
      obtain ⟨Ap, cp, rfl, hlp, hCp⟩ := Kd.R_reads hR11
      rw [ZP.out] at hlp hCp ⊢
      have Hlp := Aside0.mk hlp
      have Hp11 := Aside0.mk hCp
      clear hb11 hR11 hCp hlp HL10 BL10 HP10 HQ10 HD10
      go_wp2_with fail
      refine (HS2.out AL cL _ HL11.out HLc.out).mono ?_
      rintro e w12 ⟨v12, rfl, hR12, hb12⟩
      have BL12 := Aside0.mk (BL11.out.trans (hb12.mono BL11.out.size))
      have HL12 := Aside0.mk (Kd.C_below HL11.out hb12)
      have HP12 := Aside0.mk (Kd.C_below HP11.out hb12)
      have HQ12 := Aside0.mk (Kd.C_below HQ11.out hb12)
      have HD12 := Aside0.mk (Kd.C_below HD11.out hb12)
      have Hp12 := Aside0.mk (Kd.C_below Hp11.out hb12)
      obtain ⟨Aq, cq, rfl, hlq, hCq⟩ := Kd.R_reads hR12
      rw [ZQ.out] at hlq hCq ⊢
      have Hlq := Aside0.mk hlq
      have Hq12 := Aside0.mk hCq
      clear hb12 hR12 hCq hlq HL11 BL11 HP11 HQ11 HD11 Hp11
      go_wp2_with fail
      refine (HS3.out AL cL _ HL12.out HLc.out).mono ?_
      rintro e w13 ⟨v13, rfl, hR13, hb13⟩
      have BL13 := Aside0.mk (BL12.out.trans (hb13.mono BL12.out.size))
      have HL13 := Aside0.mk (Kd.C_below HL12.out hb13)
      have HP13 := Aside0.mk (Kd.C_below HP12.out hb13)
      have HQ13 := Aside0.mk (Kd.C_below HQ12.out hb13)
      have HD13 := Aside0.mk (Kd.C_below HD12.out hb13)
      have Hp13 := Aside0.mk (Kd.C_below Hp12.out hb13)
      have Hq13 := Aside0.mk (Kd.C_below Hq12.out hb13)
      obtain ⟨As, cs, rfl, hls, hCs⟩ := Kd.R_reads hR13
      rw [ZD.out] at hls hCs ⊢
      have Hls := Aside0.mk hls
      have Hs13 := Aside0.mk hCs
      clear hb13 hR13 hCs hls HL12 BL12 HP12 HQ12 HD12 Hp12 Hq12
      have hx1 : (e1 != e1) = false := bne_self_eq_false _
      have hx2 : (e2 != e2) = false := bne_self_eq_false _
      have hx3 : (e3 != e3) = false := bne_self_eq_false _
      go_wp2_with fail
      refine (HP1.out AP cP Ap cp _ HP13.out HlP.out Hp13.out Hlp.out).mono ?_
      rintro e w14 ⟨rfl, hd14⟩
      have BL14 := Aside0.mk (BL13.out.trans (hd14.below.mono BL13.out.size))
      have HL14 := Aside0.mk (Kd.C_below HL13.out hd14.below)
      have HP14 := Aside0.mk (Kd.C_below HP13.out hd14.below)
      have HQ14 := Aside0.mk (Kd.C_below HQ13.out hd14.below)
      have HD14 := Aside0.mk (Kd.C_below HD13.out hd14.below)
      have Hp14 := Aside0.mk (Kd.C_below Hp13.out hd14.below)
      have Hq14 := Aside0.mk (Kd.C_below Hq13.out hd14.below)
      have Hs14 := Aside0.mk (Kd.C_below Hs13.out hd14.below)
      clear hd14 BL13 HL13 HP13 HQ13 HD13 Hp13 Hq13 Hs13
      go_wp2_with fail
      refine (HP2.out AQ cQ Aq cq _ HQ14.out HlQ.out Hq14.out Hlq.out).mono ?_
      rintro e w15 ⟨rfl, hd15⟩
      have BL15 := Aside0.mk (BL14.out.trans (hd15.below.mono BL14.out.size))
      have HL15 := Aside0.mk (Kd.C_below HL14.out hd15.below)
      have HP15 := Aside0.mk (Kd.C_below HP14.out hd15.below)
      have HQ15 := Aside0.mk (Kd.C_below HQ14.out hd15.below)
      have HD15 := Aside0.mk (Kd.C_below HD14.out hd15.below)
      have Hp15 := Aside0.mk (Kd.C_below Hp14.out hd15.below)
      have Hq15 := Aside0.mk (Kd.C_below Hq14.out hd15.below)
      have Hs15 := Aside0.mk (Kd.C_below Hs14.out hd15.below)
      clear hd15 BL14 HL14 HP14 HQ14 HD14 Hp14 Hq14 Hs14
      go_wp2_with fail
      refine (HP3.out AD cD As cs _ HD15.out HlD.out Hs15.out Hls.out).mono ?_
      rintro e w16 ⟨rfl, hd16⟩
      have BL16 := Aside0.mk (BL15.out.trans (hd16.below.mono BL15.out.size))
      have HL16 := Aside0.mk (Kd.C_below HL15.out hd16.below)
      have HP16 := Aside0.mk (Kd.C_below HP15.out hd16.below)
      have HQ16 := Aside0.mk (Kd.C_below HQ15.out hd16.below)
      have HD16 := Aside0.mk (Kd.C_below HD15.out hd16.below)
      have Hp16 := Aside0.mk (Kd.C_below Hp15.out hd16.below)
      have Hq16 := Aside0.mk (Kd.C_below Hq15.out hd16.below)
      have Hs16 := Aside0.mk (Kd.C_below Hs15.out hd16.below)
      clear hd16 BL15 HL15 HP15 HQ15 HD15 Hp15 Hq15 Hs15
      clear hx1 hx2 hx3
      go_wp2_with fail
      refine (HSU.out AL cL _ HL16.out HLc.out).mono ?_
      rintro e w17 ⟨rfl, hb17⟩
      have BL17 := Aside0.mk (BL16.out.trans (hb17.mono BL16.out.size))
      have HL17 := Aside0.mk (Kd.C_below HL16.out hb17)
      have HP17 := Aside0.mk (Kd.C_below HP16.out hb17)
      have HQ17 := Aside0.mk (Kd.C_below HQ16.out hb17)
      have HD17 := Aside0.mk (Kd.C_below HD16.out hb17)
      clear hb17 BL16 HL16 HP16 HQ16 HD16 Hp16 Hq16 Hs16
      go_wp2
      have hwm : wrap64 (-n) = -n := by have := HN.out; unfold wrap64; omega
      rw [hwm]
      clear hwm
      have hb0 := al3_0 w17 (Obj.cells #[Value.slice AP nP cP, Value.slice AQ nQ cQ, Value.slice AD nD cD] 24) (Obj.cells #[Value.int .i64 n, Value.int .i64 (-n), Value.int .i64 0] 3) (Obj.cells #[Value.int .i64 e1, Value.int .i64 e2, Value.int .i64 e3] 3)
      have hb1 := al3_1 w17 (Obj.cells #[Value.slice AP nP cP, Value.slice AQ nQ cQ, Value.slice AD nD cD] 24) (Obj.cells #[Value.int .i64 n, Value.int .i64 (-n), Value.int .i64 0] 3) (Obj.cells #[Value.int .i64 e1, Value.int .i64 e2, Value.int .i64 e3] 3)
      have hb2 := al3_2 w17 (Obj.cells #[Value.slice AP nP cP, Value.slice AQ nQ cQ, Value.slice AD nD cD] 24) (Obj.cells #[Value.int .i64 n, Value.int .i64 (-n), Value.int .i64 0] 3) (Obj.cells #[Value.int .i64 e1, Value.int .i64 e2, Value.int .i64 e3] 3)
      have hbw : Below w17.heap.size w17 (((w17.alloc (Obj.cells #[Value.slice AP nP cP, Value.slice AQ nQ cQ, Value.slice AD nD cD] 24)).alloc (Obj.cells #[Value.int .i64 n, Value.int .i64 (-n), Value.int .i64 0] 3)).alloc (Obj.cells #[Value.int .i64 e1, Value.int .i64 e2, Value.int .i64 e3] 3)) := below_alloc (below_alloc (below_alloc (Below.refl _ _) _) _) _
      generalize (((w17.alloc (Obj.cells #[Value.slice AP nP cP, Value.slice AQ nQ cQ, Value.slice AD nD cD] 24)).alloc (Obj.cells #[Value.int .i64 n, Value.int .i64 (-n), Value.int .i64 0] 3)).alloc (Obj.cells #[Value.int .i64 e1, Value.int .i64 e2, Value.int .i64 e3] 3)) = wl at hb0 hb1 hb2 hbw ⊢
      have BLl := Aside0.mk (BL17.out.trans (hbw.mono BL17.out.size))
      have HLl := Aside0.mk (Kd.C_below HL17.out hbw)
      have hPl := Kd.C_below HP17.out hbw
      have hQl := Kd.C_below HQ17.out hbw
      have hDl := Kd.C_below HD17.out hbw
      clear hbw BL17 HL17 HP17 HQ17 HD17
      generalize w17.heap.size + 1 + 1 = gK at *
      generalize w17.heap.size + 1 = gD at *
      generalize w17.heap.size = gS at *
      obtain ⟨Af, nf, cf, lf, kf, df, HF⟩ : ∃ (Af : Nat → Option Addr) (nf cf : Nat → Nat) (lf : Nat → List S56) (kf df : Nat → Int), Aside0 (∀ i, i < 3 → wl.cell? ⟨gS, i, none⟩ = some (.slice (Af i) (nf i) (cf i)) ∧ wl.cell? ⟨gD, i, none⟩ = some (.int .i64 (df i)) ∧ wl.cell? ⟨gK, i, none⟩ = some (.int .i64 (kf i)) ∧
          Kd.C k56 wl (Af i) (nf i) (lf i) ∧ nf i ≤ cf i ∧ (lf i).length = nf i ∧ StC k d (lf i) (if kf i = 0 then v0 + df i else v0) ∧ (-500 ≤ df i ∧ df i ≤ 500)) := by
        have hn := HN.out
        refine ⟨fun i => match i with | 0 => AP | 1 => AQ | _ => AD, fun i => match i with | 0 => nP | 1 => nQ | _ => nD, fun i => match i with | 0 => cP | 1 => cQ | _ => cD, fun i => match i with | 0 => r1 | 1 => r2 | _ => r3, fun i => match i with | 0 => e1 | 1 => e2 | _ => e3, fun i => match i with | 0 => n | 1 => -n | _ => 0, ⟨fun i hi => ?_⟩⟩
        have hi3 : i = 0 ∨ i = 1 ∨ i = 2 := by omega
        rcases hi3 with rfl | rfl | rfl
        · exact ⟨(blk_cell hb0 0).trans rfl, (blk_cell hb1 0).trans rfl, (blk_cell hb2 0).trans rfl, hPl, HlP.out, ZP.out, HST.out.1, show (-500 : Int) ≤ n by omega, show n ≤ (500 : Int) by omega⟩
        · exact ⟨(blk_cell hb0 1).trans rfl, (blk_cell hb1 1).trans rfl, (blk_cell hb2 1).trans rfl, hQl, HlQ.out, ZQ.out, HST.out.2.1, show (-500 : Int) ≤ -n by omega, show -n ≤ (500 : Int) by omega⟩
        · exact ⟨(blk_cell hb0 2).trans rfl, (blk_cell hb1 2).trans rfl, (blk_cell hb2 2).trans rfl, hDl, HlD.out, ZD.out, HST.out.2.2, show (-500 : Int) ≤ 0 by omega, show (0 : Int) ≤ 500 by omega⟩
      clear hb0 hb1 hb2 hPl hQl hDl HST HM1 HM2 HM3 HS1 HS2 HS3 HP1 HP2 HP3 HSU HSO HAC HBC HDC HAT
      go_loopg [27] 3 (fun gg s27 wr => ∃ i : Nat, i ≤ 3 ∧ 3 - i ≤ gg ∧ s27 = .int .i64 i ∧ Aside0 (Below wl.heap.size wl wr))
      case atStart => exact ⟨0, by omega, by omega, rfl, ⟨Below.refl _ _⟩⟩
      case round =>
        obtain ⟨i, hi3, hgg, rfl, HB⟩ := hrel
        have HHI := Aside0.mk hi3
        have HGG := Aside0.mk hgg
        clear hi3 hgg
        by_cases hlt : i < 3
        · have h1 : (i : Int) < 3 := by omega
          have h0 : 0 ≤ (i : Int) := by omega
          obtain ⟨fS, fD, fK, fC, fc, fz, fst, fd⟩ := HF.out i hlt
          have HLT := Aside0.mk hlt
          have HFS := Aside0.mk fS
          have HFD := Aside0.mk fD
          have HFK := Aside0.mk fK
          have hcS := (HB.out.cell (World.block_lt_of_cell? _ _ fS)).trans fS
          clear hlt fS fD fK
          obtain ⟨du, hdu⟩ : ∃ du, (if kf i = 0 then v0 + df i else v0) = du := ⟨_, rfl⟩
          rw [hdu] at fst
          have HDU := Aside0.mk hdu
          clear hdu
          obtain ⟨hsu, bl, hba, hea, hsum, hdue, hbl⟩ := fst
          have hS := impl_SupplyOf.calls k (Af i) (cf i) (lf i) d
          have hB2 := impl_Balances.calls k (Af i) (cf i) (lf i) d
          have hO := fun x => impl_BalanceOf.calls k (Af i) (cf i) (lf i) x d
          rw [fz] at hS hB2 hO
          have HSI := Aside0.mk (fun W (hC : Kd.C k56 W (Af i) (nf i) (lf i)) (ht : Tb.TB W) => hS _ _ W hC fc ht hsu)
          have HBI := Aside0.mk (fun W (hC : Kd.C k56 W (Af i) (nf i) (lf i)) (ht : Tb.TB W) => hB2 _ _ W hC fc ht hba)
          have HOI := Aside0.mk (fun e (he : e ∈ bl) W (hC : Kd.C k56 W (Af i) (nf i) (lf i)) (ht : Tb.TB W) => hO e.f0 _ _ W hC fc ht (hea e he).1)
          have HEA := Aside0.mk (fun e (he : e ∈ bl) => (hea e he).2)
          have HFC := Aside0.mk fC
          have HSUM := Aside0.mk hsum
          have HDUE := Aside0.mk hdue
          have HBL := Aside0.mk hbl
          have HFDR := Aside0.mk fd
          clear hS hB2 hO hsu hba hea hsum hdue hbl fC fc fz fd
          generalize Af i = Ai at *
          generalize nf i = ni at *
          generalize cf i = ci at *
          generalize lf i = li at *
          generalize kf i = ki at *
          generalize df i = di at *
          go_wp2_with fail
          refine (HSI.out _ (Kd.C_below HFC.out HB.out) (Tb.TB.below HTB.out (BLl.out.trans (HB.out.mono BLl.out.size)) (Nat.le_refl _))).mono ?_
          rintro e w18 ⟨rfl, hb18⟩
          have HB18 := Aside0.mk (HB.out.trans (hb18.mono HB.out.size))
          have hcS2 := (HB18.out.cell (World.block_lt_of_cell? _ _ HFS.out)).trans HFS.out
          clear hb18 hcS
          go_wp2_with fail
          refine (HBI.out _ (Kd.C_below HFC.out HB18.out) (Tb.TB.below HTB.out (BLl.out.trans (HB18.out.mono BLl.out.size)) (Nat.le_refl _))).mono ?_
          rintro e w19 ⟨v19, rfl, hR19, hb19⟩
          have HB19 := Aside0.mk (HB18.out.trans (hb19.mono HB18.out.size))
          obtain ⟨AB, cB, rfl, hlB, hCB⟩ := Kd.R_reads hR19
          have HCB := Aside0.mk hCB
          clear hb19 hcS2 hR19 hCB hlB
          generalize hnb : bl.length = nb at *
          have ZB := Aside0.mk hnb
          clear hnb
          go_wp2
          go_loopg [32, 33] nb (fun gg s32 s33 wr => ∃ j : Nat, j ≤ nb ∧ nb - j ≤ gg ∧ s32 = .int .i64 ((bl.take j).map fun e => e.f2).sum ∧ s33 = .int .i64 j ∧ Aside0 (Below w19.heap.size w19 wr))
          case atStart => exact ⟨0, Nat.zero_le _, by omega, by simp, rfl, ⟨Below.refl _ _⟩⟩
          case round =>
            obtain ⟨j, hj, hgj, rfl, rfl, HW⟩ := hrel
            have HJN := Aside0.mk hj
            have HJG := Aside0.mk hgj
            clear hj hgj
            have HBX := Aside0.mk (HB19.out.trans (HW.out.mono HB19.out.size))
            by_cases hjl : j < nb
            · have h3 : (j : Int) < (nb : Int) := by omega
              have h2 : 0 ≤ (j : Int) := by omega
              have hjb : j < bl.length := by rw [ZB.out]; exact hjl
              have HJL := Aside0.mk hjl
              clear hjl
              obtain ⟨ad, hA, hx0, hx1, hx2⟩ := at_T46 HCB.out (j : Int) h2 h3
              subst hA
              have hrd : rd_T46 bl (j : Int) = bl[j] := by simp [rd_T46, List.getD, List.getElem?_eq_getElem hjb]
              rw [hrd] at hx0 hx2
              simp only [Int.toNat_natCast] at hx0 hx2
              have hy0 := (HW.out.cell (World.block_lt_of_cell? _ _ hx0)).trans hx0
              have hy2 := (HW.out.cell (World.block_lt_of_cell? _ _ hx2)).trans hx2
              have hcS := (HBX.out.cell (World.block_lt_of_cell? _ _ HFS.out)).trans HFS.out
              have htk : ((bl.take (j + 1)).map fun e => e.f2).sum = ((bl.take j).map fun e => e.f2).sum + bl[j].f2 := by rw [List.take_succ_eq_append_getElem hjb, List.map_append, List.sum_append]; simp
              have hall : ∀ x ∈ bl.map (fun e => e.f2), 1 ≤ x := by
                intro x hx
                obtain ⟨y, hy, rfl⟩ := List.mem_map.1 hx
                exact HEA.out y hy
              have hb1 := sum_take (bl.map fun e => e.f2) hall j
              have hb2 := sum_take (bl.map fun e => e.f2) hall (j + 1)
              rw [← List.map_take, HSUM.out] at hb1 hb2
              have hge := HEA.out bl[j] (List.getElem_mem hjb)
              have HOE := Aside0.mk (HOI.out bl[j] (List.getElem_mem hjb))
              clear hx0 hx1 hx2 hrd hall
              generalize bl[j] = ee at *
              generalize hsj1 : ((bl.take (j + 1)).map fun e => e.f2).sum = sj1 at *
              have HSJ1 := Aside0.mk hsj1
              clear hsj1
              generalize ((bl.take j).map fun e => e.f2).sum = sj at *
              have hws : wrap64 (sj + ee.f2) = sj1 := by have := HDUE.out; unfold wrap64; omega
              have HWS := Aside0.mk hws
              have HTK := Aside0.mk htk
              have hq1 : decide (ee.f2 < 1) = false := decide_eq_false (by omega)
              have hq2 : (ee.f2 != ee.f2) = false := bne_self_eq_false _
              clear hws htk hb1 hb2 hge hjb
              have HBO := Aside0.mk (fun (W : World) (hb : Below wr.heap.size wr W) => HOE.out W (Kd.C_below HFC.out (HBX.out.trans (hb.mono HBX.out.size))) (Tb.TB.below HTB.out ((BLl.out.trans (HBX.out.mono BLl.out.size)).trans (hb.mono (BLl.out.trans (HBX.out.mono BLl.out.size)).size)) (Nat.le_refl _)))
              go_upto_region 29 with (fail)
              refine zbank_r29 _ _ _ _ _ _ _ _ _ _ _ _ _ _ _ _ _ _ _ _ _ _ _ _ _ _ _ _ _ _ _ _ _ _ _ _ _ _ _ _ _ _ _ _ _ _ _ _ _ _ _ _ _ _ _ _ _ _ _ _ _ _ _ _ _ _ _ _ _ _ _ _ _ _ _ _ _ _ _ _ _ _ _ _ _ _ _ _ _ _ _ _ _ _ _ _ _ _ _ _ _ _ _ _ _ _ _ _ _ _ _ _ _ _ _ _ _ _ _ _ _ _ _ _ _ _ _ _ _ _ _ _ _ _ _ _ _ _ _ _ _ _ _ _ _ _ _ _ _ _ _ _ _ _ _ _ _ _ _ _ _ _ _ _ _ _ _ _ _ _ _ _ _ _ _ _ _ _ _ _ _ _ _ _ _ _ _ _ _ _ _ _ _ _ _ _ _ _ _ _ _ _ _ _ _ _ _ _ _ _ _ _ _ _ _ _ _ _ _ _ _ _ _ _ _ _ _ _ _ _ _ _ _ _ _ _ _ _ _ _ _ _ _ _ _ _ _ _ _ _ _ _ _ gS i j nb cB ni ci ad Ai d ee.f0 ee.f2 _ hcS hy0 h0 h1 h2 h3 HBO (fun _ _ _ _ _ h => h) ⟨?_⟩
              intro v186 v187 v188 v189 v190 v191 v192 v193 v194 v195 v196 v185 v197 v198
              intro w20 hB20
              have hz2 := (hB20.cell (World.block_lt_of_cell? _ _ hy2)).trans hy2
              have HB20 := Aside0.mk hB20
              clear hB20 hy0 hy2 hcS HBO
              go_wp2
              rw [HWS.out]
              go_roundg (nb - (j + 1))
              case measure => have := HJG.out; have := HJL.out; omega
              case rel => exact ⟨j + 1, by have := HJL.out; omega, by omega, by rw [HSJ1.out], by have := HJL.out; have := HBL.out; exact congrArg _ (w_succ j (by omega)), ⟨HW.out.trans (HB20.out.mono HW.out.size)⟩⟩
            · obtain rfl : j = nb := by have := HJN.out; omega
              have h3 : ¬ ((j : Int) < (j : Int)) := by omega
              clear hjl
              have he : bl.take j = bl := List.take_of_length_le (by rw [ZB.out]; exact Nat.le_refl _)
              rw [he, HSUM.out]
              have hck := (HBX.out.cell (World.block_lt_of_cell? _ _ HFK.out)).trans HFK.out
              have hq2 : (du != du) = false := bne_self_eq_false _
              clear he
              by_cases hki : ki = 0
              · have hdu := HDU.out
                rw [if_pos hki] at hdu
                subst hki
                have hcd := (HBX.out.cell (World.block_lt_of_cell? _ _ HFD.out)).trans HFD.out
                have HWD := Aside0.mk (show wrap64 (v0 + di) = du by have := HV.out; have := HFDR.out; rw [← hdu]; unfold wrap64; omega)
                clear hdu
                go_upto_region 36 with (fail)
                rw [HWD.out]
                go_wp2
                go_roundg (3 - (i + 1))
                case measure => have := HGG.out; have := HLT.out; omega
                case rel => exact ⟨i + 1, by have := HLT.out; omega, by omega, by have := HLT.out; first | exact congrArg _ (w_succ i (by omega)) | go_num, ⟨HBX.out⟩⟩
              · have hdu := HDU.out
                rw [if_neg hki] at hdu
                subst hdu
                have hkb : (ki == 0) = false := by simpa using hki
                clear hki
                go_wp2
                go_roundg (3 - (i + 1))
                case measure => have := HGG.out; have := HLT.out; omega
                case rel => exact ⟨i + 1, by have := HLT.out; omega, by omega, by have := HLT.out; first | exact congrArg _ (w_succ i (by omega)) | go_num, ⟨HBX.out⟩⟩
        · obtain rfl : i = 3 := by have := HHI.out; omega
          have h1 : ¬ (((3 : Nat) : Int) < 3) := by decide
          clear hlt
          go_wp2_with fail
          refine (HAM.out AL cL _ (Kd.C_below HLl.out HB.out) HLc.out).mono ?_
          rintro e w21 ⟨rfl, hb21⟩
          have HB21 := Aside0.mk (HB.out.trans (hb21.mono HB.out.size))
          clear hb21
          by_cases hz : e3 = 0
          · have hle := HIF.out.1 hz
            have hd1 : decide (n ≤ am) = true := decide_eq_true hle
            subst hz
            go_wp2_with fail
            refine (HDE.out _).mono ?_
            rintro e w22 ⟨rfl, hd22⟩
            have hb22 := hd22.below
            go_wp2
            go_ret
            exact ⟨by simp, (BLl.out.trans (HB21.out.mono BLl.out.size)).trans (hb22.mono (BLl.out.trans (HB21.out.mono BLl.out.size)).size)⟩
          · have hle := fun h => hz (HIF.out.2 h)
            have hd1 : decide (n ≤ am) = false := decide_eq_false hle
            have hd2 : (e3 == 0) = false := by simpa using hz
            clear hz hle
            go_wp2_with fail
            refine (HDE.out _).mono ?_
            rintro e w22 ⟨rfl, hd22⟩
            have hb22 := hd22.below
            go_wp2
            go_ret
            exact ⟨by simp, (BLl.out.trans (HB21.out.mono BLl.out.size)).trans (hb22.mono (BLl.out.trans (HB21.out.mono BLl.out.size)).size)⟩
end Go.Proofs.YtpkfdjlmflmilaaGreatDoor.Q
end
section
namespace Go.Proofs.YtpkfdjlmflmilaaGreatDoor.Fr
open Go.ChangeShapes Go.WideShapes Go.RowKit Go.Deep Go.Proofs.YtpkfdjlmflmilaaGreatDoorW.PrintWords Go.Proofs.YtpkfdjlmflmilaaGreatDoorW.PrintLast
set_option linter.unusedVariables false
section
variable {H : Type} {α β γ δ : Type}
def Opens (enc : TypeId × Value → H) (P : Program) (w : World) (base : Nat) (spare : Nat → Bool) (held : Bool) (d : Kd α) (t : TypeId) (wf : α → Prop) : Prop :=
  ∀ (fuel : Nat) (cs : List Value) (x : DataW H × List MemPlace), DataW.trod enc P w base spare held fuel t cs = some x → ∃ y : α, d.K w y cs ∧ wf y
variable {enc : TypeId × Value → H} {P : Program} {w : World} {base : Nat} {spare : Nat → Bool} {held : Bool}
theorem opens_int {k : IntKind} {t : TypeId} (ht : P.underlying t = some (.int k)) : Opens enc P w base spare held (Kd.int k) t (fun n => (Lit.int k n).wf = true) := by
  intro fuel cs x h
  obtain ⟨n, rfl, _, hw⟩ := DataW.trod_int ht h
  exact ⟨n, rfl, hw⟩
theorem opens_slice [Inhabited α] {d : Kd α} {t e : TypeId} {wf : α → Prop} (ht : P.underlying t = some (.slice e)) (hsz : P.cellsOf e = d.sz) (hd : Opens enc P w base spare held d e wf) :
    Opens enc P w base spare held (Kd.slice e d) t (fun l => (∀ x ∈ l, wf x) ∧ l.length ≤ 9223372036854775807) := by
  intro fuel cs x h
  rcases open_slice ht h with ⟨rfl, _⟩ | ⟨a, len, cap, m, n, D, Pl, rfl, _, hl, hm, hmm, _, hx⟩
  · refine ⟨[], ⟨none, 0, rfl, Nat.le_refl _, ⟨rfl, by simp, fun h => absurd h (by simp)⟩⟩, ?_⟩
    show (∀ x ∈ ([] : List α), wf x) ∧ ([] : List α).length ≤ 9223372036854775807
    exact ⟨fun x h => absurd h List.not_mem_nil, by simp⟩
  · have hlm : len ≤ m := by rw [hmm]; split <;> omega
    obtain ⟨Y, hY⟩ := choose_lt (α := α) (n := len) (p := fun i y => wf y ∧ ∃ cs', w.cells? base (a.add (i * P.cellsOf e)) (P.cellsOf e) = some cs' ∧ d.K w y cs') (fun i hi => by
      obtain ⟨cs', h1, h2⟩ := hx i (by omega)
      obtain ⟨y, hk, hw⟩ := hd _ _ _ h2
      exact ⟨y, hw, cs', h1, hk⟩)
    have hlen : ((List.range len).map Y).length = len := by simp
    simp only [maxLen] at hm
    refine ⟨(List.range len).map Y, ⟨some a, cap, by rw [hlen], by rw [hlen]; exact hl, ?_⟩, ?_, by rw [hlen]; omega⟩
    · rw [hlen]
      refine ⟨hlen, by omega, fun _ => ⟨a, rfl, fun j p hj => ?_⟩⟩
      have hjl : j < len := by have := (List.getElem?_eq_some_iff.1 hj).1; rw [hlen] at this; exact this
      obtain ⟨_, cs', h1, hk⟩ := hY j hjl
      have hp : Y j = p := by
        rw [List.getElem?_map, List.getElem?_range hjl] at hj
        exact Option.some.inj hj
      subst hp
      obtain ⟨_, hcl, hat⟩ := World.cells?_some h1
      refine ⟨cs', d.K_len hk, hk, fun i u hi => ?_⟩
      have hil : i < P.cellsOf e := by have := (List.getElem?_eq_some_iff.1 hi).1; omega
      rw [← hsz, ← Go.Deep.add_add, hat i hil, hi]
    · intro x hx'
      obtain ⟨i, hi, rfl⟩ := List.mem_map.1 hx'
      exact (hY i (List.mem_range.1 hi)).1
end
section
variable {H : Type} {enc : TypeId × Value → H} {P : Program} {w : World} {base : Nat} {spare : Nat → Bool} {held : Bool}
end
end Go.Proofs.YtpkfdjlmflmilaaGreatDoor.Fr
end
section
namespace Go.Proofs.YtpkfdjlmflmilaaGreatDoor.Q
open Go.RowKit Go.Proofs.YtpkfdjlmflmilaaGreatDoorW.PrintWords Go.Proofs.YtpkfdjlmflmilaaGreatDoorW.PrintLast
/-- The one pure statement of laws_FnBank. -/
def laws_FnBank.PureF : Prop := ∀ (l0 : List Int) (l1 : List Int), ((∀ x ∈ l0, (Lit.int .u8 x).wf = true) ∧ l0.length ≤ 9223372036854775807) → ((∀ x ∈ l1, (Lit.int .u8 x).wf = true) ∧ l1.length ≤ 9223372036854775807) → ∃ k, laws_FnBank.f k l0 l1 = some true
end Go.Proofs.YtpkfdjlmflmilaaGreatDoor.Q
end
section
namespace Go.Proofs.YtpkfdjlmflmilaaGreatDoor.Pure
open Go.RowKit Go.Proofs.YtpkfdjlmflmilaaGreatDoor.Q Go.Proofs.YtpkfdjlmflmilaaGreatDoorW.PrintWords Go.Proofs.YtpkfdjlmflmilaaGreatDoorW.PrintLast
set_option linter.unusedVariables false
def bytesOK (l : List Int) : Prop := ∀ x ∈ l, 0 ≤ x ∧ x ≤ 255
theorem rd_byte {l : List Int} (hl : bytesOK l) (i : Int) : 0 ≤ rd l i ∧ rd l i ≤ 255 := by
  unfold rd
  rw [List.getD_eq_getElem?_getD]
  cases h : l[i.toNat]? with
  | none => simp
  | some x =>
    obtain ⟨hi, rfl⟩ := List.getElem?_eq_some_iff.1 h
    simpa using hl _ (List.getElem_mem hi)
theorem dw (n : Int) (h0 : -9223372036854775808 ≤ n) (h1 : n ≤ 9223372036854775807) : wrap64 n = n := by unfold wrap64; omega
theorem byte_ok {l : List Int} (hl : bytesOK l) (hn : l.length ≤ 1152921504606846976) {a s : Int} (h0 : 0 ≤ a) (h1 : a < 1000000000000) (s0 : 0 ≤ s) (s1 : s < 2147483648) : ∃ r s', spec_l00Src_byte.f l a s = some (r, a + 1, s') ∧ 0 ≤ r ∧ r ≤ 255 ∧ 0 ≤ s' ∧ s' < 2147483648 := by
  unfold spec_l00Src_byte.f
  rw [dw (a + 1) (by omega) (by omega)]
  by_cases h : a + 1 ≤ (l.length : Int)
  · have hr := rd_byte hl a
    rw [if_pos h, dw (a + 1 - 1) (by omega) (by omega), show a + 1 - 1 = a by omega, if_pos h0, if_pos (by omega), dw (rd l a) (by omega) (by omega), dw (s * 31) (by omega) (by omega), dw (s * 31 + rd l a) (by omega) (by omega), dw (s * 31 + rd l a + 7) (by omega) (by omega), Int.tmod_eq_emod_of_nonneg (by omega)]
    exact ⟨_, _, rfl, hr.1, hr.2, by omega, by omega⟩
  · rw [if_neg h]
    by_cases h2 : a + 1 > 3000
    · rw [if_pos h2]
      exact ⟨_, _, rfl, by omega, by omega, s0, s1⟩
    · rw [if_neg h2, dw (s * 1103515245) (by omega) (by omega), dw (s * 1103515245 + 12345) (by omega) (by omega), Int.tmod_eq_emod_of_nonneg (show 0 ≤ s * 1103515245 + 12345 by omega), Int.tdiv_eq_ediv_of_nonneg (show 0 ≤ (s * 1103515245 + 12345) % 2147483648 by omega), dw ((s * 1103515245 + 12345) % 2147483648 / 65536) (by omega) (by omega), Int.tmod_eq_emod_of_nonneg (show 0 ≤ (s * 1103515245 + 12345) % 2147483648 / 65536 by omega)]
      exact ⟨_, _, rfl, by omega, by omega, by omega, by omega⟩
theorem next_ok {l : List Int} (hl : bytesOK l) (hn : l.length ≤ 1152921504606846976) {a s : Int} (n : Int) (hn1 : 1 < n) (h0 : 0 ≤ a) (h1 : a + 3 ≤ 1000000000000) (s0 : 0 ≤ s) (s1 : s < 2147483648) :
    ∃ r a' s', spec_l00Src_next.f l a s n = some (r, a', s') ∧ 0 ≤ r ∧ r < n ∧ a ≤ a' ∧ a' ≤ a + 3 ∧ 0 ≤ s' ∧ s' < 2147483648 := by
  unfold spec_l00Src_next.f
  rw [if_neg (by omega)]
  obtain ⟨r, s', e, r0, r1, s0', s1'⟩ := byte_ok hl hn h0 (by omega) s0 s1
  rw [e]
  simp only [Option.bind_some]
  by_cases h : n ≤ 256
  · rw [if_pos h, if_neg (by omega), Int.tmod_eq_emod_of_nonneg r0]
    exact ⟨_, _, _, rfl, Int.emod_nonneg _ (by omega), Int.emod_lt_of_pos _ (by omega), by omega, by omega, s0', s1'⟩
  · obtain ⟨r2, s2, e2, r20, r21, s20, s21⟩ := byte_ok hl hn (a := a + 1) (s := s') (by omega) (by omega) s0' s1'
    rw [if_neg h, e2]
    simp only [Option.bind_some]
    obtain ⟨r3, s3, e3, r30, r31, s30, s31⟩ := byte_ok hl hn (a := a + 1 + 1) (s := s2) (by omega) (by omega) s20 s21
    rw [e3]
    simp only [Option.bind_some]
    rw [if_neg (by omega), dw (r * 65536) (by omega) (by omega), dw (r2 * 256) (by omega) (by omega), dw (r * 65536 + r2 * 256) (by omega) (by omega), dw (r * 65536 + r2 * 256 + r3) (by omega) (by omega), Int.tmod_eq_emod_of_nonneg (by omega)]
    exact ⟨_, _, _, rfl, Int.emod_nonneg _ (by omega), Int.emod_lt_of_pos _ (by omega), by omega, by omega, s30, s31⟩
theorem pick_ok {l : List Int} (hl : bytesOK l) (hn : l.length ≤ 1152921504606846976) {a s : Int} (L : List ByteArray) (hL : 1 < L.length) (h0 : 0 ≤ a) (h1 : a + 3 ≤ 1000000000000) (s0 : 0 ≤ s) (s1 : s < 2147483648) :
    ∃ x a' s', spec_l00Src_pick.f l a s L = some (x, a', s') ∧ x ∈ L ∧ a ≤ a' ∧ a' ≤ a + 3 ∧ 0 ≤ s' ∧ s' < 2147483648 := by
  unfold spec_l00Src_pick.f
  obtain ⟨r, a', s', e, r0, r1, a0, a1, t0, t1⟩ := next_ok hl hn (L.length : Int) (by omega) h0 h1 s0 s1
  rw [if_neg (by omega), e]
  simp only [Option.bind_some]
  rw [if_pos r0, if_pos r1]
  refine ⟨_, _, _, rfl, ?_, a0, a1, t0, t1⟩
  have hlt : r.toNat < L.length := by omega
  rw [show rdOf ByteArray.empty L r = L[r.toNat] by unfold rdOf; rw [List.getD_eq_getElem?_getD, List.getElem?_eq_getElem hlt]; rfl]
  exact List.getElem_mem hlt
theorem bytesOK_of {l : List Int} (h : ∀ x ∈ l, (Lit.int .u8 x).wf = true) : bytesOK l := by
  intro x hx
  have := h x hx
  simp [Lit.wf, IntKind.min, IntKind.max, IntKind.bits, IntKind.signed] at this
  omega
end Go.Proofs.YtpkfdjlmflmilaaGreatDoor.Pure
end
section
namespace Go.Proofs.YtpkfdjlmflmilaaGreatDoor.Pure
open Go.RowKit Go.Proofs.YtpkfdjlmflmilaaGreatDoor.Q Go.Proofs.YtpkfdjlmflmilaaGreatDoorW.PrintWords Go.Proofs.YtpkfdjlmflmilaaGreatDoorW.PrintLast
set_option linter.unusedVariables false
theorem ac_size {a : ByteArray} (h : a ∈ Ac) : a.size ≤ 65536 := by
  have := nm_size (ac_nm a h)
  omega
theorem dn_size {d : ByteArray} (h : d ∈ Dn) : d.size ≤ 65536 := by
  have := nm_size (dn_nm d h)
  omega
theorem okVB_of {l : List S56} (h : Rt l) : okVB l = true := by
  unfold okVB
  refine List.all_eq_true.2 fun x hx => decide_eq_true ?_
  have := okV_right (of_rt h) x hx
  exact this
theorem acct_ok {l : List Int} (hl : bytesOK l) (hn : l.length ≤ 1152921504606846976) {a s : Int} (h0 : 0 ≤ a) (h1 : a + 3 ≤ 1000000000000) (s0 : 0 ≤ s) (s1 : s < 2147483648) :
    ∃ x a' s', spec_l00Src_account.f l a s = some (x, a', s') ∧ x ∈ Ac ∧ a ≤ a' ∧ a' ≤ a + 3 ∧ 0 ≤ s' ∧ s' < 2147483648 := by
  unfold spec_l00Src_account.f
  obtain ⟨x, a', s', e, hx, r⟩ := pick_ok hl hn (a := a) (s := s) Ac (by decide) h0 h1 s0 s1
  refine ⟨x, a', s', ?_, hx, r⟩
  show (spec_l00Src_pick.f l a s Ac).bind _ = _
  rw [e]
  rfl
theorem den_ok {l : List Int} (hl : bytesOK l) (hn : l.length ≤ 1152921504606846976) {a s : Int} (h0 : 0 ≤ a) (h1 : a + 3 ≤ 1000000000000) (s0 : 0 ≤ s) (s1 : s < 2147483648) :
    ∃ x a' s', spec_l00Src_denom.f l a s = some (x, a', s') ∧ x ∈ Dn ∧ a ≤ a' ∧ a' ≤ a + 3 ∧ 0 ≤ s' ∧ s' < 2147483648 := by
  unfold spec_l00Src_denom.f
  obtain ⟨x, a', s', e, hx, r⟩ := pick_ok hl hn (a := a) (s := s) Dn (by decide) h0 h1 s0 s1
  refine ⟨x, a', s', ?_, hx, r⟩
  show (spec_l00Src_pick.f l a s Dn).bind _ = _
  rw [e]
  rfl
theorem accountOf_ok {l : List Int} (hl : bytesOK l) (hn : l.length ≤ 1152921504606846976) : ∃ x, spec_AccountOf.f l = some x ∧ x ∈ Ac := by
  unfold spec_AccountOf.f spec_l00Source.f
  simp only [Option.bind_some]
  obtain ⟨x, a', s', e, hx, _⟩ := acct_ok hl hn (a := 0) (s := (l.length : Int) % 1000) (by omega) (by omega) (by omega) (by omega)
  rw [e]
  exact ⟨x, rfl, hx⟩
theorem denomOf_ok {l : List Int} (hl : bytesOK l) (hn : l.length ≤ 1152921504606846976) : ∃ x, spec_DenomOf.f l = some x ∧ x ∈ Dn := by
  unfold spec_DenomOf.f spec_l00Source.f
  simp only [Option.bind_some]
  obtain ⟨x, a', s', e, hx, _⟩ := den_ok hl hn (a := 0) (s := (l.length : Int) % 1000) (by omega) (by omega) (by omega) (by omega)
  rw [e]
  exact ⟨x, rfl, hx⟩
theorem burn_any {t : Int} {l : List S56} (h : Bk t l) (hl : l.length < 300) {a d : ByteArray} (ha : a ∈ Ac) (hd : d ∈ Dn) (n : Int) (n0 : 1 ≤ n) (n1 : n ≤ 1000) (t' : Int) (ht : t ≤ t') :
    ∃ r c, spec_l05Burn.f l a d n = some (r, c) ∧ Bk t' r ∧ r.length ≤ l.length + 2 := by
  unfold spec_l05Burn.f
  rw [if_pos ⟨by omega, okVB_of h.rt, ac_size ha, dn_size hd, n0, by omega⟩]
  by_cases hb : n ≤ amN l (bKey a d)
  · obtain ⟨r, e, hr, hlen, _⟩ := burn_bk h hl ha hd n (by omega) hb
    exact ⟨r, 0, by rw [e], bk_le hr ht, hlen⟩
  · exact ⟨l, 12, by rw [two_low (by omega)], bk_le h ht, by omega⟩
theorem move_any {t : Int} {l : List S56} (h : Bk t l) (hl : l.length < 300) {a b d : ByteArray} (ha : a ∈ Ac) (hb : b ∈ Ac) (hd : d ∈ Dn) (n : Int) (n0 : 1 ≤ n) (n1 : n ≤ 1000) (t' : Int) (ht : t ≤ t') (ht' : t ≤ 1000000000000000000) :
    ∃ r c, spec_l05Move.f l a b d n = some (r, c) ∧ Bk t' r ∧ r.length ≤ l.length + 2 := by
  unfold spec_l05Move.f
  rw [if_pos ⟨by omega, okVB_of h.rt, ac_size ha, ac_size hb, dn_size hd, n0, by omega⟩]
  by_cases hx : n ≤ amN l (bKey a d)
  · obtain ⟨r, e, hr, hlen, _⟩ := move_bk h hl ha hb hd n (by omega) hx ht'
    exact ⟨r, 0, by rw [e], bk_le hr ht, hlen⟩
  · exact ⟨l, 12, by rw [two_low (by omega)], bk_le h ht, by omega⟩
theorem mint_any {t : Int} {l : List S56} (h : Bk t l) (hl : l.length < 300) {a d : ByteArray} (ha : a ∈ Ac) (hd : d ∈ Dn) (n : Int) (n0 : 1 ≤ n) (n1 : n ≤ 1000) (t' : Int) (ht : t + 1000 ≤ t') (ht' : t' ≤ 1000000000000000000) :
    ∃ r c, spec_l05Mint.f l a d n = some (r, c) ∧ Bk t' r ∧ r.length ≤ l.length + 2 := by
  unfold spec_l05Mint.f
  rw [if_pos ⟨by omega, okVB_of h.rt, ac_size ha, dn_size hd, n0, by omega⟩]
  obtain ⟨r, e, hr, hlen, _⟩ := mint_bk h hl ha hd n (by omega) (by omega)
  exact ⟨r, 0, by rw [e], bk_le hr (by omega), hlen⟩
theorem bank_ok {l : List Int} (hl : bytesOK l) (hn : l.length ≤ 1152921504606846976) (d : Nat) : ∀ (k : Nat) (acc : List S56) (a s : Int), d ≤ 7 → acc.length + 2 * d ≤ 20 → Bk (7000 - 1000 * (d : Int)) acc → 0 ≤ a → a + 20 * d ≤ 100000 → 0 ≤ s → s < 2147483648 → d < k →
    ∃ xs a' s', spec_l00Src_bank.l0 k acc (d : Int) l a s = some (xs, a', s') ∧ xs.length ≤ 20 ∧ Bk 7000 xs := by
  induction d with
  | zero =>
    intro k acc a s h5 hlen hacc h0 h1 s0 s1 hk
    obtain ⟨k, rfl⟩ : ∃ m, k = m + 1 := ⟨k - 1, by omega⟩
    simp only [spec_l00Src_bank.l0]
    rw [if_neg (by omega)]
    simp only [Option.bind_some, List.length_nil, List.nil_append]
    rw [if_pos (by omega)]
    exact ⟨_, _, _, rfl, by omega, bk_le hacc (by omega)⟩
  | succ d ih =>
    intro k acc a s h5 hlen hacc h0 h1 s0 s1 hk
    obtain ⟨k, rfl⟩ : ∃ m, k = m + 1 := ⟨k - 1, by omega⟩
    have hst : wrap64 (((d + 1 : Nat) : Int) - 1) = (d : Int) := by rw [dw _ (by omega) (by omega)]; omega
    obtain ⟨n, a1, s1', e1, n0, n1, a10, a11, t10, t11⟩ := next_ok hl hn (a := a) (s := s) 1000 (by omega) h0 (by omega) s0 s1
    obtain ⟨q, a2, s2, e2, q0, q1, a20, a21, t20, t21⟩ := next_ok hl hn (a := a1) (s := s1') 4 (by omega) (by omega) (by omega) t10 t11
    obtain ⟨x, a3, s3, e3, hx, a30, a31, t30, t31⟩ := acct_ok hl hn (a := a2) (s := s2) (by omega) (by omega) t20 t21
    simp only [spec_l00Src_bank.l0]
    rw [if_pos (by omega), e1]
    simp only [Option.bind_some]
    rw [e2]
    simp only [Option.bind_some]
    rw [e3]
    simp only [Option.bind_some]
    rw [hst, dw (1 + n) (by omega) (by omega)]
    by_cases c0 : q = 0
    · rw [if_pos c0]
      obtain ⟨y, a4, s4, e4, hy, a40, a41, t40, t41⟩ := acct_ok hl hn (a := a3) (s := s3) (by omega) (by omega) t30 t31
      obtain ⟨z, a5, s5, e5, hz, a50, a51, t50, t51⟩ := den_ok hl hn (a := a4) (s := s4) (by omega) (by omega) t40 t41
      obtain ⟨r, c, e6, hr, hrl⟩ := move_any hacc (by omega) hx hy hz (1 + n) (by omega) (by omega) (7000 - 1000 * (d : Int)) (by omega) (by omega)
      rw [e4]
      simp only [Option.bind_some]
      rw [e5]
      simp only [Option.bind_some]
      rw [e6]
      simp only [Option.bind_some]
      exact ih k r a5 s5 (by omega) (by omega) hr (by omega) (by omega) t50 t51 (by omega)
    · rw [if_neg c0]
      obtain ⟨z, a5, s5, e5, hz, a50, a51, t50, t51⟩ := den_ok hl hn (a := a3) (s := s3) (by omega) (by omega) t30 t31
      by_cases c1 : q = 1
      · rw [if_pos c1]
        obtain ⟨r, c, e6, hr, hrl⟩ := burn_any hacc (by omega) hx hz (1 + n) (by omega) (by omega) (7000 - 1000 * (d : Int)) (by omega)
        rw [e5]
        simp only [Option.bind_some]
        rw [e6]
        simp only [Option.bind_some]
        exact ih k r a5 s5 (by omega) (by omega) hr (by omega) (by omega) t50 t51 (by omega)
      · rw [if_neg c1]
        obtain ⟨r, c, e6, hr, hrl⟩ := mint_any hacc (by omega) hx hz (1 + n) (by omega) (by omega) (7000 - 1000 * (d : Int)) (by omega) (by omega)
        rw [e5]
        simp only [Option.bind_some]
        rw [e6]
        simp only [Option.bind_some]
        exact ih k r a5 s5 (by omega) (by omega) hr (by omega) (by omega) t50 t51 (by omega)
theorem bankOf_ok {l : List Int} (hl : bytesOK l) (hn : l.length ≤ 1152921504606846976) (k : Nat) (hk : 60 < k) : ∃ xs, spec_BankOf.f k l = some xs ∧ xs.length ≤ 20 ∧ Bk 7000 xs := by
  unfold spec_BankOf.f spec_l00Source.f spec_l00Src_bank.f
  simp only [Option.bind_some]
  obtain ⟨r, a', s', e, r0, r1, a0, a1, t0, t1⟩ := next_ok hl hn (a := 0) (s := (l.length : Int) % 1000) 8 (by omega) (by omega) (by omega) (by omega) (by omega)
  rw [e]
  simp only [Option.bind_some]
  obtain ⟨n, rfl⟩ := Int.eq_ofNat_of_zero_le r0
  obtain ⟨xs, a2, s2, e2, h1, h2⟩ := bank_ok hl hn n k [] a' s' (by omega) (by simp; omega) (bk_le bk_nil (by omega)) (by omega) (by omega) t0 t1 (by omega)
  rw [e2]
  exact ⟨xs, rfl, h1, h2⟩
theorem at_ok {l : List Int} (hl : bytesOK l) (hn : l.length ≤ 1152921504606846976) : ∃ n, laws_at.f l 5 500 = some n ∧ 0 ≤ n ∧ n ≤ 499 := by
  unfold laws_at.f
  rw [if_neg (by omega)]
  by_cases h : (l.length : Int) = 0
  · rw [if_pos h, if_neg (by decide), dw (5 * 7) (by omega) (by omega)]
    exact ⟨_, rfl, by decide, by decide⟩
  · rw [if_neg h]
    have h6 : wrap64 ((5 : Int) + 1) = 6 := dw (5 + 1) (by omega) (by omega)
    rw [h6, Int.tmod_eq_emod_of_nonneg (show (0 : Int) ≤ 5 by omega), Int.tmod_eq_emod_of_nonneg (show (0 : Int) ≤ 6 by omega)]
    have m0 := Int.emod_nonneg 5 h
    have m1 := Int.emod_lt_of_pos 5 (show (0 : Int) < (l.length : Int) by omega)
    have m2 := Int.emod_nonneg 6 h
    have m3 := Int.emod_lt_of_pos 6 (show (0 : Int) < (l.length : Int) by omega)
    have b0 := rd_byte hl (5 % (l.length : Int))
    have b1 := rd_byte hl (6 % (l.length : Int))
    rw [if_pos m0, if_pos m1, if_pos m2, if_pos m3, if_neg (by decide)]
    have q0 : (0 : Int) ≤ Int.tdiv 5 (l.length : Int) ∧ Int.tdiv 5 (l.length : Int) ≤ 5 := by
      rw [Int.tdiv_eq_ediv_of_nonneg (by omega)]
      exact ⟨Int.ediv_nonneg (by omega) (by omega), Int.ediv_le_self _ (by omega)⟩
    generalize rd l (5 % (l.length : Int)) = x at *
    generalize rd l (6 % (l.length : Int)) = y at *
    generalize Int.tdiv 5 (l.length : Int) = z at *
    rw [dw x (by omega) (by omega), dw (x * 31) (by omega) (by omega), dw y (by omega) (by omega), dw (x * 31 + y) (by omega) (by omega), dw z (by omega) (by omega), dw (x * 31 + y + z) (by omega) (by omega), Int.tmod_eq_emod_of_nonneg (by omega)]
    exact ⟨_, rfl, Int.emod_nonneg _ (by omega), by have := Int.emod_lt_of_pos (x * 31 + y + z) (show (0 : Int) < 500 by omega); omega⟩
end Go.Proofs.YtpkfdjlmflmilaaGreatDoor.Pure
end
section
namespace Go.Proofs.YtpkfdjlmflmilaaGreatDoor.Pure
open Go.RowKit Go.Proofs.YtpkfdjlmflmilaaGreatDoor.Q Go.Proofs.YtpkfdjlmflmilaaGreatDoorW.PrintWords Go.Proofs.YtpkfdjlmflmilaaGreatDoorW.PrintLast
set_option linter.unusedVariables false
theorem samePairs_l0 (x : List S56) (hl : x.length ≤ 9223372036854775807) (d : Nat) : ∀ (k i : Nat), x.length - i = d → d < k → laws_samePairs.l0 k x x (i : Int) = some true := by
  induction d with
  | zero =>
    intro k i hd hk
    obtain ⟨k, rfl⟩ : ∃ m, k = m + 1 := ⟨k - 1, by omega⟩
    simp only [laws_samePairs.l0]
    rw [if_neg (by omega)]
  | succ d ih =>
    intro k i hd hk
    obtain ⟨k, rfl⟩ : ∃ m, k = m + 1 := ⟨k - 1, by omega⟩
    have hlt : i < x.length := by omega
    simp only [laws_samePairs.l0]
    rw [if_pos (by omega), if_pos (by omega), if_pos (by omega), if_neg (by simp), up64 hlt hl]
    exact ih k (i + 1) (by omega) (by omega)
theorem samePairs_self (x : List S56) (hl : x.length ≤ 9223372036854775807) (k : Nat) (hk : x.length < k) : laws_samePairs.f k x x = some true := by
  unfold laws_samePairs.f
  rw [if_pos rfl]
  exact samePairs_l0 x hl x.length k 0 (by omega) hk
theorem code_names {l : List S56} (h : Rt l) (ns : List ByteArray) (hs : ∀ x ∈ ns, nmB x = true) : codeN l (ns.any fun x => decide (65536 < (x.size : Int))) = 0 := by
  have hany : (ns.any fun x => decide (65536 < (x.size : Int))) = false := by
    rw [List.any_eq_false]
    intro x hx
    have := nm_size (hs x hx)
    rw [decide_eq_true_eq]
    omega
  unfold codeN
  have := h.1
  rw [hany, if_neg (by rintro (hh | hh); omega; cases hh), if_pos (of_rt h)]
theorem bk_names {l : List S56} (h : Rt l) (ns : List ByteArray) (hs : ∀ x ∈ ns, nmB x = true) : bkCode l ns = 0 := by
  unfold bkCode
  have := h.1
  rw [if_neg (by omega), if_pos (of_rt h), if_pos (List.all_eq_true.2 hs)]
theorem bc_names {l : List S56} (h : Rt l) (ns : List ByteArray) (hs : ∀ x ∈ ns, nmB x = true) (n : Int) (h0 : 1 ≤ n) (h1 : n ≤ 500) : bcN l n ns = 0 := by
  have hany : ¬ (ns.any fun x => decide (65536 < (x.size : Int))) = true := by
    rw [Bool.not_eq_true, List.any_eq_false]
    intro x hx
    have := nm_size (hs x hx)
    rw [decide_eq_true_eq]
    omega
  unfold bcN
  have := h.1
  rw [if_neg (by rintro (hh | hh); omega; exact hany hh), if_pos (bk_names h ns hs), if_pos ⟨h0, by omega⟩]
theorem isup {t : Int} {l : List S56} (h : Bk t l) {d : ByteArray} (hd : d ∈ Dn) (k : Nat) (hk : 150000 ≤ k) : impl_SupplyOf.f k l d = some (amN l (sKey d), 0) := by
  have hn := dn_nm d hd
  have hz := nm_size hn
  unfold impl_SupplyOf.f
  rw [impl_code l [d] k (by omega), Option.bind_some, code_names h.rt [d] (by simp [hn]), if_pos rfl, impl_nm d (by omega) k (by omega), Option.bind_some, if_pos hn, impl_skeyY d (by omega), Option.bind_some, impl_am (okV_right (of_rt h.rt)), Option.bind_some]
theorem ssup {t : Int} {l : List S56} (h : Bk t l) {d : ByteArray} (hd : d ∈ Dn) (k : Nat) (hk : 150001 ≤ k) : spec_SupplyOf.f k l d = some (amN l (sKey d), 0) := by
  obtain ⟨k, rfl⟩ : ∃ m, k = m + 1 := ⟨k - 1, by omega⟩
  have hn := dn_nm d hd
  have hz := nm_size hn
  have hlen := h.rt.1
  unfold spec_SupplyOf.f
  simp only [spec_SupplyOf.j0]
  rw [if_neg (by omega), if_neg (by rw [decide_eq_false (by omega)]; decide), spec_bk l [d] (by simp) (by simp; omega) k (by omega), Option.bind_some, if_pos (bk_names h.rt [d] (by simp [hn])), spec_skey d (by omega), Option.bind_some, spec_am (okV_right (of_rt h.rt)) (by omega) _ k (by omega), Option.bind_some]
theorem ibal {t : Int} {l : List S56} (h : Bk t l) {a d : ByteArray} (ha : a ∈ Ac) (hd : d ∈ Dn) (k : Nat) (hk : 150000 ≤ k) : impl_BalanceOf.f k l a d = some (amN l (bKey a d), 0) := by
  have hn := dn_nm d hd
  have hz := nm_size hn
  have hm := ac_nm a ha
  have hy := nm_size hm
  unfold impl_BalanceOf.f
  rw [impl_code l [a, d] k (by omega), Option.bind_some, code_names h.rt [a, d] (by simp [hn, hm]), if_pos rfl, impl_an [a, d] (by simp) (by simp; omega) k (by omega), Option.bind_some, if_pos (by simp [hn, hm]), impl_bkeyY a d (by omega) (by omega), Option.bind_some, impl_am (okV_right (of_rt h.rt)), Option.bind_some]
theorem sbal {t : Int} {l : List S56} (h : Bk t l) {a d : ByteArray} (ha : a ∈ Ac) (hd : d ∈ Dn) (k : Nat) (hk : 150001 ≤ k) : laws_amount.f k l a d = some (amN l (bKey a d)) := by
  obtain ⟨k, rfl⟩ : ∃ m, k = m + 1 := ⟨k - 1, by omega⟩
  have hn := dn_nm d hd
  have hz := nm_size hn
  have hm := ac_nm a ha
  have hy := nm_size hm
  have hlen := h.rt.1
  unfold laws_amount.f spec_BalanceOf.f
  simp only [spec_BalanceOf.j0]
  rw [if_neg (by omega), if_neg (by omega), if_neg (by rw [decide_eq_false (by omega)]; decide), spec_bk l [a, d] (by simp) (by simp; omega) k (by omega), Option.bind_some, if_pos (bk_names h.rt [a, d] (by simp [hn, hm])), spec_bkey a d (by omega) (by omega), Option.bind_some, spec_am (okV_right (of_rt h.rt)) (by omega) _ k (by omega), Option.bind_some]
  rfl
/-- A store that comes of a drawn bank is as the law asks. -/
theorem st_ok {t : Int} {l : List S56} (h : Bk t l) {d : ByteArray} (hd : d ∈ Dn) (k : Nat) (hk : 150000 ≤ k) : StC k d l (amN l (sKey d)) := by
  have hn := dn_nm d hd
  have hz := nm_size hn
  have hlen := h.rt.1
  have hb : balancesN l d = (balsN l d, 0) := by
    unfold balancesN
    rw [if_neg (by omega), if_pos (bk_names h.rt [d] (by simp [hn]))]
  refine ⟨isup h hd k hk, balsN l d, by rw [impl_Bals l d k hk, hb], fun e he => ?_, by rw [bals_sum h hd, h.sum d hd], (amN_range _ _).2, ?_⟩
  · obtain ⟨e1, e2, e3⟩ := bals_each h hd e he
    refine ⟨?_, e3⟩
    rw [ibal h e1 hd k hk, ← e2]
  · unfold balsN
    rw [List.length_map]
    have := scanN_len l (hdD d)
    omega
theorem bank_c {l : List S56} (h : Bk 7000 l) (hl : l.length ≤ 20) {a b d : ByteArray} (ha : a ∈ Ac) (hb : b ∈ Ac) (hd : d ∈ Dn) (n : Int) (h0 : 1 ≤ n) (h1 : n ≤ 500) (k : Nat) (hk : 150001 ≤ k) : BankC k l a b d n := by
  have hnd := dn_nm d hd
  have hna := ac_nm a ha
  have hnb := ac_nm b hb
  have hzd := nm_size hnd
  have hm2 : ∀ (x : ByteArray) (y : Int) (u : ByteArray) (v : Int), bankN l [a, d] n x y u v = twoN l x y u v := fun x y u v => by
    unfold bankN
    rw [if_pos (bc_names h.rt [a, d] (by simp [hna, hnd]) n h0 h1)]
  have hm3 : ∀ (x : ByteArray) (y : Int) (u : ByteArray) (v : Int), bankN l [a, b, d] n x y u v = twoN l x y u v := fun x y u v => by
    unfold bankN
    rw [if_pos (bc_names h.rt [a, b, d] (by simp [hna, hnb, hnd]) n h0 h1)]
  obtain ⟨r1, e1, b1, l1, s1⟩ := mint_bk h (by omega) ha hd n (by omega) (by omega)
  obtain ⟨r2, c2, e2, b2, l2, s2⟩ : ∃ r c, twoN l (bKey a d) (-n) (sKey d) (-n) = (r, c) ∧ Bk 7000 r ∧ r.length ≤ 22 ∧ amN r (sKey d) = (if c = 0 then amN l (sKey d) + -n else amN l (sKey d)) := by
    by_cases hx : n ≤ amN l (bKey a d)
    · obtain ⟨r, e, hr, hlen, hs⟩ := burn_bk h (by omega) ha hd n (by omega) hx
      exact ⟨r, 0, e, hr, by omega, by rw [if_pos rfl, hs]⟩
    · exact ⟨l, 12, two_low (by omega), h, by omega, by rw [if_neg (by decide)]⟩
  obtain ⟨r3, c3, e3, b3, l3, s3, i3⟩ : ∃ r c, twoN l (bKey a d) (-n) (bKey b d) n = (r, c) ∧ Bk 7000 r ∧ r.length ≤ 22 ∧ amN r (sKey d) = (if c = 0 then amN l (sKey d) + 0 else amN l (sKey d)) ∧ (c = 0 ↔ n ≤ amN l (bKey a d)) := by
    by_cases hx : n ≤ amN l (bKey a d)
    · obtain ⟨r, e, hr, hlen, hs⟩ := move_bk h (by omega) ha hb hd n (by omega) hx (by omega)
      exact ⟨r, 0, e, hr, by omega, by rw [if_pos rfl, hs], ⟨fun _ => hx, fun _ => rfl⟩⟩
    · exact ⟨l, 12, two_low (by omega), h, by omega, by rw [if_neg (by decide)], ⟨fun e => absurd e (by decide), fun e => absurd e hx⟩⟩
  refine ⟨r1, r2, r3, 0, c2, c3, amN l (sKey d), amN l (bKey a d), ⟨?_, ?_, ?_⟩, ⟨?_, ?_, ?_⟩, ⟨samePairs_self _ (by omega) k (by omega), samePairs_self _ (by omega) k (by omega), samePairs_self _ (by omega) k (by omega)⟩, ssup h hd k hk, ⟨?_, ?_, ?_⟩, sbal h ha hd k hk, i3, ?_, amN_range _ _, h0, h1⟩
  · unfold impl_Mint.f
    rw [hm2, e1]
  · unfold impl_Burn.f
    rw [hm2, e2]
  · unfold impl_MoveCoins.f
    rw [hm3, e3]
  · unfold spec_Mint.f
    rw [hm2, e1]
  · unfold spec_Burn.f
    rw [hm2, e2]
  · unfold spec_MoveCoins.f
    rw [hm3, e3]
  · rw [if_pos rfl, ← s1]
    exact st_ok b1 hd k (by omega)
  · rw [← s2]
    exact st_ok b2 hd k (by omega)
  · rw [← s3]
    exact st_ok b3 hd k (by omega)
  · rw [impl_nm d (by omega) k (by omega), hnd]
theorem FnBank : laws_FnBank.PureF := by
  intro c m hc hm
  have hcb := bytesOK_of hc.1
  have hmb := bytesOK_of hm.1
  refine ⟨200000, ?_⟩
  unfold laws_FnBank.f
  by_cases h0 : 1048576 < (c.length : Int) ∨ 1048576 < (m.length : Int)
  · rw [if_pos h0]
  · rw [if_neg h0]
    have hb1 : bytesOK ([1] ++ m) := by
      intro x hx
      rcases List.mem_append.1 hx with hx | hx
      · rw [List.mem_singleton.1 hx]; decide
      · exact hmb x hx
    obtain ⟨l, hL, hl20, hl⟩ := bankOf_ok hcb (by omega) 200000 (by omega)
    obtain ⟨a, hA, ha⟩ := accountOf_ok hmb (by omega)
    obtain ⟨b, hB, hb⟩ := accountOf_ok hb1 (by rw [List.length_append]; simp; omega)
    obtain ⟨d, hD, hd⟩ := denomOf_ok hmb (by omega)
    obtain ⟨n, hN, n0, n1⟩ := at_ok hmb (by omega)
    rw [hL, Option.bind_some, hA, Option.bind_some, hB, Option.bind_some, hD, Option.bind_some, hN, Option.bind_some]
    exact if_pos ⟨⟨n0, n1⟩, bank_c hl hl20 ha hb hd (1 + n) (by omega) (by omega) 200000 (by omega)⟩
end Go.Proofs.YtpkfdjlmflmilaaGreatDoor.Pure
end
section
namespace Go.Proofs.YtpkfdjlmflmilaaGreatDoor.fnBank
open Go.ChangeShapes Go.WideShapes Go.ChangeAt Go.RowKit Go.Proofs.YtpkfdjlmflmilaaGreatDoorW.PrintWords Go.Proofs.YtpkfdjlmflmilaaGreatDoorW.PrintLast Go.Proofs.YtpkfdjlmflmilaaGreatDoor.Q
open Go.ChangeMaps (open_string shut_string)
set_option linter.unusedVariables false
set_option maxRecDepth 100000
instance : Inhabited ByteArray := ⟨ByteArray.empty⟩
theorem own : ownKnob Tryz.prog.godebug = none := by kernel_rfl
theorem laidOut : laidOutB Tryz.prog = true := by kernel_rfl
theorem contract (H : Type) (enc : TypeId × Value → H) (W : World) (base : Nat) (args : Array Value) (ds gs : List (DataW H)) (before : List MemPlace)
    (hval0 : ∀ (j : Nat) t v, Tryz.f6.params[j]? = some t → args[j]? = some v → Value.okWide Tryz.prog W .any base t v)
    (hW : DataW.Whole enc Tryz.prog Tryz.f6.params.toList Rows.fnBankSpec.vars false W args.toList ds gs before)
    (hsz0 : (DataW.weightsEach Tryz.prog (Tryz.f6.params.toList ++ (OpenSpec.ofChange Rows.fnBankSpec).bare.plain.varTypes Tryz.prog) (ds ++ gs)).all (· ≤ reachBytes) = true) (hL : laidMetH Tryz.prog Rows.fnBankRow.laid W) :
    Calls Tryz.prog 6 args W fun e W' => ∃ v, e = .returned v ∧ Rows.fnBankSpec.post enc Tryz.prog Tryz.f6 false true false false W args v W' := by
  have htb : Tb.TB W := Tb.tb_of_laid hL
  have hsz : (DataW.weightsEach Tryz.prog (Tryz.f6.params.toList ++ Rows.fnBankSpec.plain.varTypes Tryz.prog) (ds ++ gs)).all (· ≤ reachBytes) = true := hsz0
  have hval : ∀ (j : Nat) t v, Tryz.f6.params[j]? = some t → args[j]? = some v → Value.okWide Tryz.prog W .any base t v := hval0
  have hW' := hW
  obtain ⟨p, q, hA0, hV, rfl, hfz, hnd⟩ := hW
  have hA : DataW.TrodAll enc Tryz.prog W 0 (fun _ => true) true Tryz.f6.params.toList args.toList ds p := hA0
  rw [Tryz.params6] at hA hval hsz
  obtain ⟨v0, vs0, d0, ds0, p0, q0, hargs, rfl, rfl, h0, r0⟩ := trodAll_cons hA
  obtain ⟨v1, vs1, d1, ds1, p1, q1, rfl, rfl, rfl, h1, r1⟩ := trodAll_cons r0
  obtain ⟨rfl, rfl, rfl⟩ := trodAll_nil r1
  obtain rfl : args = #[v0, v1] := by cases args; simp_all
  obtain ⟨rfl, rfl⟩ := trodVars_none hV
  have k0 := h0
  have lt0 : ∀ x ∈ p0, x.block < W.heap.size := by obtain ⟨m, hm⟩ := k0; exact DataW.trod_lt m _ _ _ hm
  obtain ⟨A0, len0, c0, rfl⟩ := okWide_slice Tryz.underlying33 (hval 0 33 v0 rfl rfl)
  obtain ⟨fuel0, hf0⟩ := h0
  obtain ⟨l0, ⟨A0', c0', e0, hc0, hr0⟩, w0⟩ := (Fr.opens_slice Tryz.underlying33 (by kernel_rfl) (Fr.opens_int Tryz.underlying5)) _ _ _ hf0
  simp [Value.cells] at e0
  obtain ⟨rfl, rfl, rfl⟩ := e0
  have k1 := h1
  have lt1 : ∀ x ∈ p1, x.block < W.heap.size := by obtain ⟨m, hm⟩ := k1; exact DataW.trod_lt m _ _ _ hm
  obtain ⟨A1, len1, c1, rfl⟩ := okWide_slice Tryz.underlying33 (hval 1 33 v1 rfl rfl)
  obtain ⟨fuel1, hf1⟩ := h1
  obtain ⟨l1, ⟨A1', c1', e1, hc1, hr1⟩, w1⟩ := (Fr.opens_slice Tryz.underlying33 (by kernel_rfl) (Fr.opens_int Tryz.underlying5)) _ _ _ hf1
  simp [Value.cells] at e1
  obtain ⟨rfl, rfl, rfl⟩ := e1
  clear hA0 hval0 hsz0 hsz
  obtain ⟨k, hk⟩ := Pure.FnBank l0 l1 w0 w1
  refine (Q.laws_FnBank.calls k A0 c0 l0 A1 c1 l1 true W hr0 hc0 hr1 hc1 (htab := htb) hk).mono fun e W' ⟨he, bel0⟩ => ?_
  have bel : Below W.heap.size W W' := bel0
  subst he
  exact ⟨_, rfl, _, _, _, [], _, [], hW', trodAll_mk1 (shut_bool Tryz.underlying4 _), (trodAll_cons_mk (Below.trod laidOut (by kernel_rfl) (of_decide_eq_true (by kernel_rfl)) k0 bel lt0) (trodAll_cons_mk (Below.trod laidOut (by kernel_rfl) (of_decide_eq_true (by kernel_rfl)) k1 bel lt1) trodAll_mk0)), rfl, bel.frame _, fun h => by cases h⟩
theorem reads (os : Os) {H : Type} (enc : TypeId × Value → H) : ∃ places, DataW.whole enc Tryz.prog ((Tb.laidWorld os).forCall (fun _ _ => 0) ⟨#[], #[.slice none 0 0, .slice none 0 0], []⟩).memory Tryz.f6.params.toList Rows.fnBankSpec.vars false (#[.slice none 0 0, .slice none 0 0] : Array Value).toList 8 = some ([.nil, .nil], [], places) := ⟨[], by kernel_rfl⟩
theorem laid_met (os : Os) : laidMetH Tryz.prog Rows.fnBankRow.laid ((Tb.laidWorld os).forCall (fun _ _ => 0) ⟨#[], #[.slice none 0 0, .slice none 0 0], []⟩).memory := Tb.laidWorld_met os _
theorem lifted (os : Os) (started : os.Started) (H : Type) (enc : TypeId × Value → H) (F : Stop.Interp) :
    ReturnsInHanded {} Tryz.checked os 6 .any ((OpenSpec.ofChange Rows.fnBankSpec).preRow enc Tryz.prog Tryz.f6 Rows.fnBankRow.domain false Rows.fnBankRow.laid) (((OpenSpec.ofChange Rows.fnBankSpec).at F).post enc Tryz.prog Tryz.f6 false true false false) := by
  obtain ⟨places, hx⟩ := reads os enc
  refine returnsInHanded_of_row (C := Tryz.checked) (s := OpenSpec.ofChange Rows.fnBankSpec) own started (by kernel_rfl) Tryz.func6
    (witness_row_atRef (enc := enc) (C := Tryz.checked) false (Tb.laidWorld os) #[.slice none 0 0, .slice none 0 0] rfl (by kernel_rfl) (by kernel_rfl) (by kernel_rfl)
      (OpenSpec.preRow_of_cond 8 hx (by kernel_rfl) (fun k hk => by cases hk) (by kernel_rfl) (laid_met os))) ?_
  intro W base args ds gs before hval hW _ _ hsz hL _ _
  exact contract H enc W base args ds gs before hval hW hsz hL
theorem said : Rows.FnBankSaid :=
  OpenClaim.holds_of_cond 6 Tryz.f6 rfl rfl rfl rfl rfl rfl rfl ⟨rfl, rfl, rfl, rfl, rfl⟩ rfl rfl rfl rfl rfl (by kernel_rfl) Tryz.func6 (by kernel_rfl)
    (of_decide_eq_true (by kernel_rfl)) (by unfold Func.isWrapper; first | (rw [if_pos (by decide +kernel)]; kernel_rfl) | (rw [if_neg (by decide +kernel)]; exact ⟨rfl, rfl⟩))
    (fun os started H enc _ F => by rw [OpenClaim.pre_eq_preRow]; exact lifted os started H enc F)
theorem plain (f : FuncId) (fn : Func) (hf : Tryz.pinned.checked.prog.funcNamed "loop.example/g00298/laws.FnBank" = some f) (hfn : Tryz.pinned.checked.prog.funcs[f]? = some fn) :
    true = Tryz.pinned.checked.prog.looks [] ∧ ∀ (j : Nat) t, fn.params[j]? = some t → Tryz.pinned.checked.prog.wantsStandIn t = false := by
  obtain rfl : f = 6 := Option.some.inj ((show Tryz.prog.funcNamed "loop.example/g00298/laws.FnBank" = some 6 by kernel_rfl).symm.trans hf) |>.symm
  obtain rfl : fn = Tryz.f6 := (Option.some.inj (Tryz.func6.symm.trans hfn)).symm
  refine ⟨by kernel_rfl, fun j t ht => ?_⟩
  rw [Tryz.params6] at ht
  have hm := Array.mem_of_getElem? ht
  simp only [List.mem_toArray, List.mem_cons, List.not_mem_nil, or_false] at hm
  rcases hm with rfl | rfl
  all_goals first | exact (show Tryz.prog.wantsStandIn 33 = false by kernel_rfl)
theorem card : Rows.FnBankCardSaid :=
  Claim7.holds_tied_plain_at .later [] _ _ _ _ said (fun _ h => by cases h) (by kernel_rfl) (fun _ h => by cases h) fnBank_row_tie rfl ⟨rfl, rfl⟩ (by kernel_rfl) rfl plain (by kernel_rfl)
#print axioms card
end Go.Proofs.YtpkfdjlmflmilaaGreatDoor.fnBank
namespace Go.Proofs.YtpkfdjlmflmilaaGreatDoor
/-- The card, under a short name, for the claim. -/
theorem fnBank_holds : Rows.FnBankCardSaid := fnBank.card
end Go.Proofs.YtpkfdjlmflmilaaGreatDoor
end
