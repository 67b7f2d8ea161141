/- The theorem of this text: the law's own given statement, for all arguments; no condition stands ahead of it. -/
import Derived.Deep.RegionLaw
import Derived.Test.YtpkfdjlmflmilaaGreatDoorProg
import Derived.Lib.SmallJoins
import Derived.Deep.Slices
import Derived.Deep.Fields
import Derived.Test.YtpkfdjlmflmilaaGreatDoorCards
import Derived.Test.YtpkfdjlmflmilaaGreatDoorTie
import Derived.WalkKit
import Derived.ProofKit
import Derived.OpenShut
import Derived.ShutString
import Derived.ChangeOld
import Derived.Below
import Derived.SizedLaws
import Derived.Deep.DeepWitnessRowRef
import Derived.Test.YtpkfdjlmflmilaaGreatDoorBurn1
import Derived.Test.YtpkfdjlmflmilaaGreatDoorBurn2
import Derived.Test.YtpkfdjlmflmilaaGreatDoorBurn3
import Derived.Test.YtpkfdjlmflmilaaGreatDoorBurn4
section
namespace Go.Proofs.YtpkfdjlmflmilaaGreatDoor.Q
open Go.RowKit Go.Proofs.YtpkfdjlmflmilaaGreatDoorW.PrintWords Go.Proofs.YtpkfdjlmflmilaaGreatDoorW.PrintLast Go.Proofs.YtpkfdjlmflmilaaGreatDoorW.PrintMore Go.Proofs.YtpkfdjlmflmilaaGreatDoor.Pure
set_option linter.unusedVariables false
set_option linter.unusedSimpArgs false
theorem is_am (x : Int) (h0 : 0 ≤ x) (h1 : x ≤ 1000000000000000000) : impl_isAmount.f x = some true := by
  unfold impl_isAmount.f impl_within.f
  rw [if_pos h0, decide_eq_true h1]
  rfl
theorem sub_eq (x n : Int) (h0 : 0 ≤ x) (h1 : x ≤ 1000000000000000000) (g0 : 1 ≤ n) (g1 : n ≤ 1000000000000000000) : impl_SubAmount.f 2 x n = some (if x + -n < 0 then (0, 12) else (x + -n, 0)) := by
  unfold impl_SubAmount.f
  rw [is_am x h0 h1, is_am n (by omega) g1, Option.bind_some, Option.bind_some, if_pos rfl]
  simp only [impl_SubAmount.j0]
  rw [if_neg (by decide)]
  by_cases h : x < n
  · rw [if_pos h, if_pos (by omega)]
  · rw [if_neg h, if_neg (by omega), show wrap64 (x - n) = x + -n by unfold wrap64; omega]
theorem put_eq (l : List S56) (a : ByteArray) (y : Int) (hl : l.length ≤ 5000) (h0 : 0 ≤ y) (h1 : y ≤ 1000000000000000000) : impl_putAmount.f l a y = some (wrN l a y) := by
  unfold impl_putAmount.f wrN impl_put.f impl_drop.f
  by_cases h : y = 0
  · subst h
    rw [if_neg (by decide), if_pos (by omega), if_pos rfl, Option.bind_some]
  · have ht : impl_amountText.f y = some (itoaT y) := by
      unfold impl_amountText.f strconv_Itoa.f
      rw [if_pos (by omega)]
      rfl
    rw [if_pos (show y > 0 by omega), if_neg h, ht, Option.bind_some, if_pos (by omega)]
    rfl

set_option maxHeartbeats 8000000 in
set_option maxRecDepth 100000 in
theorem impl_fewer_calls (A0 : Option Addr) (c0 : Nat) (l0 : List S56) (a1 : ByteArray) (n : Int) (w : World) (hr0 : Kd.C k56 w A0 l0.length l0) (hc0 : l0.length ≤ c0) (htab : Tb.TB w) (hl : l0.length ≤ 5000) (hv : okV l0) (g0 : 1 ≤ n) (g1 : n ≤ 1000000000000000000) :
    Calls Tryz.prog 64 #[.slice A0 l0.length c0, .string a1, .int .i64 n] w fun e w' => ∃ v, e = .returned (.tuple #[v, .int .i64 (addN l0 a1 (-n)).2]) ∧ ((addN l0 a1 (-n)).2 = 0 → Kd.R k56 56 w' w.heap.size (fun _ => True) v (addN l0 a1 (-n)).1) ∧ Below w.heap.size w w' := by
  have HAM := Aside0.mk (impl_amountAt.calls A0 c0 l0 a1 _ w hr0 hc0 htab (impl_am hv a1))
  have hrg := amN_range l0 a1
  have HC := Aside0.mk hr0
  have HK := Aside0.mk hc0
  have HT := Aside0.mk htab
  unfold addN
  generalize amN l0 a1 = x at *
  have hs := sub_eq x n hrg.1 hrg.2 g0 g1
  by_cases c1 : x + -n < 0
  · rw [if_pos c1] at hs
    have HSU := Aside0.mk (fun W => impl_SubAmount.calls 2 x n _ _ W hs)
    have e1 : (if x + -n < 0 then (l0, (12 : Int)) else if x + -n > 1000000000000000000 then (l0, 13) else wrN l0 a1 (x + -n)) = (l0, 12) := by rw [if_pos c1]
    rw [e1]
    clear e1 hs c1 hrg hr0 hc0 htab hl hv g0 g1
    go_enter Tryz.func64, Tryz.ntmps64
    go_wp2_with (first | (go_at_call 49; refine HAM.out.mono ?_; rintro e w1 ⟨rfl, hb1⟩; have HB1 := Aside0.mk hb1; clear hb1) | (go_at_call 89; refine (HSU.out _).mono ?_; rintro e w2 ⟨rfl, hd2⟩; have HB2 := Aside0.mk (HB1.out.trans (hd2.below.mono HB1.out.size)); clear hd2))
    go_ret2
    exact ⟨_, rfl, fun h => absurd h (by decide), HB2.out⟩
  · rw [if_neg c1] at hs
    have HSU := Aside0.mk (fun W => impl_SubAmount.calls 2 x n _ _ W hs)
    have e1 : (if x + -n < 0 then (l0, (12 : Int)) else if x + -n > 1000000000000000000 then (l0, 13) else wrN l0 a1 (x + -n)) = wrN l0 a1 (x + -n) := by rw [if_neg (by omega), if_neg (by omega)]
    rw [e1]
    have HPE := Aside0.mk (put_eq l0 a1 (x + -n) hl (by omega) (by omega))
    generalize x + -n = y at *
    clear e1 hs c1 hrg hr0 hc0 htab hl hv g0 g1
    go_enter Tryz.func64, Tryz.ntmps64
    go_wp2_with (first | (go_at_call 49; refine HAM.out.mono ?_; rintro e w1 ⟨rfl, hb1⟩; have HB1 := Aside0.mk hb1; clear hb1) | (go_at_call 89; refine (HSU.out _).mono ?_; rintro e w2 ⟨rfl, hd2⟩; have HB2 := Aside0.mk (HB1.out.trans (hd2.below.mono HB1.out.size)); clear hd2) | (go_at_call 90; refine (impl_putAmount.calls A0 c0 l0 a1 y _ _ _ (Kd.C_below HC.out HB2.out) HK.out (Tb.TB.below HT.out HB2.out (Nat.le_refl _)) HPE.out).mono ?_; rintro e w3 ⟨v3, rfl, hR3, hb3⟩; have HR3 := Aside0.mk (Kd.R_lower hR3 HB2.out.size); have HB3 := Aside0.mk (HB2.out.trans (hb3.mono HB2.out.size)); clear hR3 hb3))
    go_ret2
    exact ⟨_, rfl, fun _ => HR3.out, HB3.out⟩
end Go.Proofs.YtpkfdjlmflmilaaGreatDoor.Q
end
section
namespace Go.Proofs.YtpkfdjlmflmilaaGreatDoor.Q
open Go.RowKit Go.Proofs.YtpkfdjlmflmilaaGreatDoorW.PrintWords Go.Proofs.YtpkfdjlmflmilaaGreatDoorW.PrintLast Go.Proofs.YtpkfdjlmflmilaaGreatDoorW.PrintMore Go.Proofs.YtpkfdjlmflmilaaGreatDoor.Pure
set_option linter.unusedVariables false
set_option linter.unusedSimpArgs false
def zburn_1_1.T1 : Bool × List (List Nat × List Nat) := (true, [([], []), ([], []), ([], []), ([1, 2], [1, 2]), ([], []), ([0, 3, 4, 3], [0, 3, 4]), ([5], [5]), ([5], [5]), ([6, 5, 0, 1, 2, 3, 4, 5, 6, 7], [6]), ([7, 8, 0, 1, 2, 3, 4, 5, 6, 7, 8], [7])])
def zburn_1_1.B1 : List Nat := [0, 0, 0, 6, 0, 31, 63, 63, 255, 511]
theorem zburn_1_1.tab1 : rtab .any (opsOf Tryz.f63 1) = zburn_1_1.T1 := by kernel_rfl
theorem zburn_1_1.bits1 : waitsOk zburn_1_1.T1.2 zburn_1_1.B1 = true := by kernel_rfl
set_option maxHeartbeats 16000000 in
set_option maxRecDepth 100000 in
theorem zburn_1_1_r1 {Q : Exit → Act → World → Prop} (u0 u4 u5 u6 u7 u8 u9 u10 u11 u12 u13 u14 : Value) (g1 g2 g3 : Nat) (d a key : ByteArray) (n c : Int) (G : Value → World → Prop) (wr : World) (c0 : wr.cell? ⟨g1, 0, none⟩ = some (.string d)) (c1 : wr.cell? ⟨g2, 0, none⟩ = some (.string a)) (c2 : wr.cell? ⟨g3, 0, none⟩ = some (.int .i64 n)) (HKY : Aside0 (∀ W, Calls Tryz.prog 53 #[.string d, .string a] W fun e w' => e = .returned (.string key) ∧ Drawn0 W w')) (HFW : Aside0 (∀ W, Below wr.heap.size wr W → Calls Tryz.prog 64 #[u0, .string key, .int .i64 n] W fun e w' => ∃ v, e = .returned (.tuple #[v, .int .i64 c]) ∧ G v w' ∧ Below W.heap.size W w'))
    (hpan : ∀ c a t v w, Q (.panic c) (Act.put a (some t) v) w → Q (.panic c) a w) (hQ : Aside0 (∀ (v7 v8 v9 v10 v11 v12 v13 v14 v5 : Value) (w' : World), (G v5 w' ∧ Below wr.heap.size wr w') → Q .normal ⟨List.toArray (u0 :: .pointer (some ⟨g1, 0, none⟩) :: .pointer (some ⟨g2, 0, none⟩) :: .pointer (some ⟨g3, 0, none⟩) :: u4 :: v5 :: .int .i64 c :: v7 :: v8 :: v9 :: v10 :: v11 :: v12 :: v13 :: v14 :: []), []⟩ w')) :
    Code.wp Tryz.prog (Code.region 1 (opsOf Tryz.f63 1) true) Q ⟨List.toArray (u0 :: .pointer (some ⟨g1, 0, none⟩) :: .pointer (some ⟨g2, 0, none⟩) :: .pointer (some ⟨g3, 0, none⟩) :: u4 :: u5 :: u6 :: u7 :: u8 :: u9 :: u10 :: u11 :: u12 :: u13 :: u14 :: []), []⟩ wr := by
  conv => arg 2; arg 2; whnf
  refine start_ (n := 10) (S := fun w' => w'.cell? ⟨g1, 0, none⟩ = some (.string d) ∧ w'.cell? ⟨g2, 0, none⟩ = some (.string a) ∧ w'.cell? ⟨g3, 0, none⟩ = some (.int .i64 n)) (ds := []) #[false, false, false, false, false, false, false, false, false, false] (by kernel_rfl) rfl rfl ⟨c0, c1, c2⟩ (fun hHeld => ?_)
  refine with_tabW zburn_1_1.tab1 zburn_1_1.bits1 (fun HT_ HW_ => ?_)
  refine pure_ (i := 0) (N := some 7) (v := ?_) (a' := ?_) #[true, false, false, false, false, false, false, false, false, false] rfl rfl (any_of HT_.out (by kernel_rfl)) (fun _ _ _ h => hpan _ _ _ _ _ h) (Or.inl ⟨by rfl, ?_⟩) ?_ ?_
  rotate_left
  · intro w'
    go_simp
    with_reducible rfl
  rotate_left
  · simp only [Act.put, List.setIfInBounds_toArray, List.set_cons_zero, List.set_cons_succ, i64_w, i32_w]
    rfl
  refine take_ (i := 1) (N := some 8) (v := ?_) (a' := ?_) #[true, true, false, false, false, false, false, false, false, false] rfl rfl (take_ofW HT_.out HW_.out (by kernel_rfl)) (fun _ _ _ h => hpan _ _ _ _ _ h) (Or.inl ⟨by rfl, ?_⟩) hHeld ?_ ?_
  rotate_left
  · rintro w' ⟨s0, s1, s2⟩
    go_simp
    with_reducible rfl
  rotate_left
  · simp only [Act.put, List.setIfInBounds_toArray, List.set_cons_zero, List.set_cons_succ, i64_w, i32_w]
    rfl
  refine take_ (i := 2) (N := some 9) (v := ?_) (a' := ?_) #[true, true, true, false, false, false, false, false, false, false] rfl rfl (take_ofW HT_.out HW_.out (by kernel_rfl)) (fun _ _ _ h => hpan _ _ _ _ _ h) (Or.inl ⟨by rfl, ?_⟩) hHeld ?_ ?_
  rotate_left
  · rintro w' ⟨s0, s1, s2⟩
    go_simp
    with_reducible rfl
  rotate_left
  · simp only [Act.put, List.setIfInBounds_toArray, List.set_cons_zero, List.set_cons_succ, i64_w, i32_w]
    rfl
  refine take_ (i := 4) (N := some 11) (v := ?_) (a' := ?_) #[true, true, true, false, true, false, false, false, false, false] rfl rfl (take_ofW HT_.out HW_.out (by kernel_rfl)) (fun _ _ _ h => hpan _ _ _ _ _ h) (Or.inl ⟨by rfl, ?_⟩) hHeld ?_ ?_
  rotate_left
  · rintro w' ⟨s0, s1, s2⟩
    go_simp
    with_reducible rfl
  rotate_left
  · simp only [Act.put, List.setIfInBounds_toArray, List.set_cons_zero, List.set_cons_succ, i64_w, i32_w]
    rfl
  refine one_ (i := 3) (N := some 10) #[true, true, true, true, true, false, false, false, false, false] rfl rfl (one_of HT_.out (by kernel_rfl)) (by decide) (fun K hK => ?_)
  refine goes_ Tryz.func53 (by kernel_rfl) rfl #[.string d, .string a] (by rfl) rfl rfl (by simp only [List.map_toArray, List.map_cons, List.map_nil]; rfl) ?_
  refine (HKY.out _).mono ?_
  rintro e_ w3 ⟨rfl, d3⟩
  have b3 := d3.below
  refine ⟨_, rfl, ?_⟩
  refine hK.out _ _ ⟨(b3.cell (World.block_lt_of_cell? _ _ hHeld.1)).trans hHeld.1, (b3.cell (World.block_lt_of_cell? _ _ hHeld.2.1)).trans hHeld.2.1, (b3.cell (World.block_lt_of_cell? _ _ hHeld.2.2)).trans hHeld.2.2⟩ (fun hHeld => ?_)
  clear hK K
  refine norm_ (a' := ?_) ?_ ?_
  rotate_left
  · show Act.put _ (some 10) _ = _
    simp only [Act.put, List.setIfInBounds_toArray, List.set_cons_zero, List.set_cons_succ, i64_w, i32_w]
    rfl
  refine one_ (i := 5) (N := some 12) #[true, true, true, true, true, true, false, false, false, false] rfl rfl (one_of HT_.out (by kernel_rfl)) (by decide) (fun K hK => ?_)
  refine goes_ Tryz.func64 (by kernel_rfl) rfl #[u0, .string key, .int .i64 n] (by rfl) rfl rfl (by simp only [List.map_toArray, List.map_cons, List.map_nil]; rfl) ?_
  refine (HFW.out _ (below_step (below_drew1 (Below.refl wr.heap.size wr)) b3)).mono ?_
  rintro e_ w6 ⟨v6, rfl, g6, b6⟩
  refine ⟨_, rfl, ?_⟩
  refine hK.out _ _ ⟨(b6.cell (World.block_lt_of_cell? _ _ hHeld.1)).trans hHeld.1, (b6.cell (World.block_lt_of_cell? _ _ hHeld.2.1)).trans hHeld.2.1, (b6.cell (World.block_lt_of_cell? _ _ hHeld.2.2)).trans hHeld.2.2⟩ (fun hHeld => ?_)
  clear hK K
  refine norm_ (a' := ?_) ?_ ?_
  rotate_left
  · show Act.put _ (some 12) _ = _
    simp only [Act.put, List.setIfInBounds_toArray, List.set_cons_zero, List.set_cons_succ, i64_w, i32_w]
    rfl
  refine pure_ (i := 6) (N := some 13) (v := ?_) (a' := ?_) #[true, true, true, true, true, true, true, false, false, false] rfl rfl (any_of HT_.out (by kernel_rfl)) (fun _ _ _ h => hpan _ _ _ _ _ h) (Or.inl ⟨by rfl, ?_⟩) ?_ ?_
  rotate_left
  · intro w'
    go_simp
    with_reducible rfl
  rotate_left
  · simp only [Act.put, List.setIfInBounds_toArray, List.set_cons_zero, List.set_cons_succ, i64_w, i32_w]
    rfl
  refine pure_ (i := 7) (N := some 14) (v := ?_) (a' := ?_) #[true, true, true, true, true, true, true, true, false, false] rfl rfl (any_of HT_.out (by kernel_rfl)) (fun _ _ _ h => hpan _ _ _ _ _ h) (Or.inl ⟨by rfl, ?_⟩) ?_ ?_
  rotate_left
  · intro w'
    go_simp
    with_reducible rfl
  rotate_left
  · simp only [Act.put, List.setIfInBounds_toArray, List.set_cons_zero, List.set_cons_succ, i64_w, i32_w]
    rfl
  refine pure_ (i := 8) (N := some 5) (v := ?_) (a' := ?_) #[true, true, true, true, true, true, true, true, true, false] rfl rfl (any_of HT_.out (by kernel_rfl)) (fun _ _ _ h => hpan _ _ _ _ _ h) (Or.inl ⟨by rfl, ?_⟩) ?_ ?_
  rotate_left
  · intro w'
    go_simp
    with_reducible rfl
  rotate_left
  · simp only [Act.put, List.setIfInBounds_toArray, List.set_cons_zero, List.set_cons_succ, i64_w, i32_w]
    rfl
  refine pure_ (i := 9) (N := some 6) (v := ?_) (a' := ?_) #[true, true, true, true, true, true, true, true, true, true] rfl rfl (any_of HT_.out (by kernel_rfl)) (fun _ _ _ h => hpan _ _ _ _ _ h) (Or.inl ⟨by rfl, ?_⟩) ?_ ?_
  rotate_left
  · intro w'
    go_simp
    with_reducible rfl
  rotate_left
  · simp only [Act.put, List.setIfInBounds_toArray, List.set_cons_zero, List.set_cons_succ, i64_w, i32_w]
    rfl
  refine done_ (done_of HT_.out (by kernel_rfl)) ?_

  refine hQ.out _ _ _ _ _ _ _ _ _ _ ?_
  exact ⟨g6, below_step (below_step (below_drew1 (Below.refl wr.heap.size wr)) b3) b6⟩

set_option maxHeartbeats 8000000 in
set_option maxRecDepth 100000 in
theorem zburn_1_1_calls (u0 : Value) (g1 g2 g3 : Nat) (d a key : ByteArray) (n c : Int) (G : Value → World → Prop) (wr : World) (c0 : wr.cell? ⟨g1, 0, none⟩ = some (.string d)) (c1 : wr.cell? ⟨g2, 0, none⟩ = some (.string a)) (c2 : wr.cell? ⟨g3, 0, none⟩ = some (.int .i64 n)) (HKY : Aside0 (∀ W, Calls Tryz.prog 53 #[.string d, .string a] W fun e w' => e = .returned (.string key) ∧ Drawn0 W w')) (HFW : Aside0 (∀ W, Below wr.heap.size wr W → Calls Tryz.prog 64 #[u0, .string key, .int .i64 n] W fun e w' => ∃ v, e = .returned (.tuple #[v, .int .i64 c]) ∧ G v w' ∧ Below W.heap.size W w')) :
    Calls Tryz.prog 63 #[u0, .pointer (some ⟨g1, 0, none⟩), .pointer (some ⟨g2, 0, none⟩), .pointer (some ⟨g3, 0, none⟩)] wr fun e w' => ∃ v, e = .returned (.tuple #[v, .int .i64 c]) ∧ G v w' ∧ Below wr.heap.size wr w' := by
  go_enter Tryz.func63, Tryz.ntmps63
  go_upto_region 1 with (fail)
  refine zburn_1_1_r1 _ _ _ _ _ _ _ _ _ _ _ _ g1 g2 g3 d a key n c G _ c0 c1 c2 HKY HFW (fun _ _ _ _ _ h => h) ⟨?_⟩
  intro v7 v8 v9 v10 v11 v12 v13 v14 v5
  rintro w' ⟨hG, hB⟩
  go_wp2
  go_ret2
  exact ⟨_, rfl, hG, hB⟩
def zburn_1_2.T1 : Bool × List (List Nat × List Nat) := (true, [([], []), ([], []), ([1], [1]), ([], []), ([0, 2, 3, 2], [0, 2, 3]), ([4], [4]), ([4], [4]), ([5, 4, 0, 1, 2, 3, 4, 5, 6], [5]), ([6, 7, 0, 1, 2, 3, 4, 5, 6, 7], [6])])
def zburn_1_2.B1 : List Nat := [0, 0, 2, 0, 15, 31, 31, 127, 255]
theorem zburn_1_2.tab1 : rtab .any (opsOf Tryz.f65 1) = zburn_1_2.T1 := by kernel_rfl
theorem zburn_1_2.bits1 : waitsOk zburn_1_2.T1.2 zburn_1_2.B1 = true := by kernel_rfl
set_option maxHeartbeats 16000000 in
set_option maxRecDepth 100000 in
theorem zburn_1_2_r1 {Q : Exit → Act → World → Prop} (u0 u3 u4 u5 u6 u7 u8 u9 u10 u11 u12 : Value) (g1 g3 : Nat) (d key : ByteArray) (n c : Int) (G : Value → World → Prop) (wr : World) (c0 : wr.cell? ⟨g1, 0, none⟩ = some (.string d)) (c1 : wr.cell? ⟨g3, 0, none⟩ = some (.int .i64 n)) (HKY : Aside0 (∀ W, Calls Tryz.prog 50 #[.string d] W fun e w' => e = .returned (.string key) ∧ Drawn0 W w')) (HFW : Aside0 (∀ W, Below wr.heap.size wr W → Calls Tryz.prog 64 #[u0, .string key, .int .i64 n] W fun e w' => ∃ v, e = .returned (.tuple #[v, .int .i64 c]) ∧ G v w' ∧ Below W.heap.size W w'))
    (hpan : ∀ c a t v w, Q (.panic c) (Act.put a (some t) v) w → Q (.panic c) a w) (hQ : Aside0 (∀ (v6 v7 v8 v9 v10 v11 v12 v4 : Value) (w' : World), (G v4 w' ∧ Below wr.heap.size wr w') → Q .normal ⟨List.toArray (u0 :: .pointer (some ⟨g1, 0, none⟩) :: .pointer (some ⟨g3, 0, none⟩) :: u3 :: v4 :: .int .i64 c :: v6 :: v7 :: v8 :: v9 :: v10 :: v11 :: v12 :: []), []⟩ w')) :
    Code.wp Tryz.prog (Code.region 1 (opsOf Tryz.f65 1) true) Q ⟨List.toArray (u0 :: .pointer (some ⟨g1, 0, none⟩) :: .pointer (some ⟨g3, 0, none⟩) :: u3 :: u4 :: u5 :: u6 :: u7 :: u8 :: u9 :: u10 :: u11 :: u12 :: []), []⟩ wr := by
  conv => arg 2; arg 2; whnf
  refine start_ (n := 9) (S := fun w' => w'.cell? ⟨g1, 0, none⟩ = some (.string d) ∧ w'.cell? ⟨g3, 0, none⟩ = some (.int .i64 n)) (ds := []) #[false, false, false, false, false, false, false, false, false] (by kernel_rfl) rfl rfl ⟨c0, c1⟩ (fun hHeld => ?_)
  refine with_tabW zburn_1_2.tab1 zburn_1_2.bits1 (fun HT_ HW_ => ?_)
  refine pure_ (i := 0) (N := some 6) (v := ?_) (a' := ?_) #[true, false, false, false, false, false, false, false, false] rfl rfl (any_of HT_.out (by kernel_rfl)) (fun _ _ _ h => hpan _ _ _ _ _ h) (Or.inl ⟨by rfl, ?_⟩) ?_ ?_
  rotate_left
  · intro w'
    go_simp
    with_reducible rfl
  rotate_left
  · simp only [Act.put, List.setIfInBounds_toArray, List.set_cons_zero, List.set_cons_succ, i64_w, i32_w]
    rfl
  refine take_ (i := 1) (N := some 7) (v := ?_) (a' := ?_) #[true, true, false, false, false, false, false, false, false] rfl rfl (take_ofW HT_.out HW_.out (by kernel_rfl)) (fun _ _ _ h => hpan _ _ _ _ _ h) (Or.inl ⟨by rfl, ?_⟩) hHeld ?_ ?_
  rotate_left
  · rintro w' ⟨s0, s1⟩
    go_simp
    with_reducible rfl
  rotate_left
  · simp only [Act.put, List.setIfInBounds_toArray, List.set_cons_zero, List.set_cons_succ, i64_w, i32_w]
    rfl
  refine take_ (i := 3) (N := some 9) (v := ?_) (a' := ?_) #[true, true, false, true, false, false, false, false, false] rfl rfl (take_ofW HT_.out HW_.out (by kernel_rfl)) (fun _ _ _ h => hpan _ _ _ _ _ h) (Or.inl ⟨by rfl, ?_⟩) hHeld ?_ ?_
  rotate_left
  · rintro w' ⟨s0, s1⟩
    go_simp
    with_reducible rfl
  rotate_left
  · simp only [Act.put, List.setIfInBounds_toArray, List.set_cons_zero, List.set_cons_succ, i64_w, i32_w]
    rfl
  refine one_ (i := 2) (N := some 8) #[true, true, true, true, false, false, false, false, false] rfl rfl (one_of HT_.out (by kernel_rfl)) (by decide) (fun K hK => ?_)
  refine goes_ Tryz.func50 (by kernel_rfl) rfl #[.string d] (by rfl) rfl rfl (by simp only [List.map_toArray, List.map_cons, List.map_nil]; rfl) ?_
  refine (HKY.out _).mono ?_
  rintro e_ w3 ⟨rfl, d3⟩
  have b3 := d3.below
  refine ⟨_, rfl, ?_⟩
  refine hK.out _ _ ⟨(b3.cell (World.block_lt_of_cell? _ _ hHeld.1)).trans hHeld.1, (b3.cell (World.block_lt_of_cell? _ _ hHeld.2)).trans hHeld.2⟩ (fun hHeld => ?_)
  clear hK K
  refine norm_ (a' := ?_) ?_ ?_
  rotate_left
  · show Act.put _ (some 8) _ = _
    simp only [Act.put, List.setIfInBounds_toArray, List.set_cons_zero, List.set_cons_succ, i64_w, i32_w]
    rfl
  refine one_ (i := 4) (N := some 10) #[true, true, true, true, true, false, false, false, false] rfl rfl (one_of HT_.out (by kernel_rfl)) (by decide) (fun K hK => ?_)
  refine goes_ Tryz.func64 (by kernel_rfl) rfl #[u0, .string key, .int .i64 n] (by rfl) rfl rfl (by simp only [List.map_toArray, List.map_cons, List.map_nil]; rfl) ?_
  refine (HFW.out _ (below_step (below_drew1 (Below.refl wr.heap.size wr)) b3)).mono ?_
  rintro e_ w6 ⟨v6, rfl, g6, b6⟩
  refine ⟨_, rfl, ?_⟩
  refine hK.out _ _ ⟨(b6.cell (World.block_lt_of_cell? _ _ hHeld.1)).trans hHeld.1, (b6.cell (World.block_lt_of_cell? _ _ hHeld.2)).trans hHeld.2⟩ (fun hHeld => ?_)
  clear hK K
  refine norm_ (a' := ?_) ?_ ?_
  rotate_left
  · show Act.put _ (some 10) _ = _
    simp only [Act.put, List.setIfInBounds_toArray, List.set_cons_zero, List.set_cons_succ, i64_w, i32_w]
    rfl
  refine pure_ (i := 5) (N := some 11) (v := ?_) (a' := ?_) #[true, true, true, true, true, true, false, false, false] rfl rfl (any_of HT_.out (by kernel_rfl)) (fun _ _ _ h => hpan _ _ _ _ _ h) (Or.inl ⟨by rfl, ?_⟩) ?_ ?_
  rotate_left
  · intro w'
    go_simp
    with_reducible rfl
  rotate_left
  · simp only [Act.put, List.setIfInBounds_toArray, List.set_cons_zero, List.set_cons_succ, i64_w, i32_w]
    rfl
  refine pure_ (i := 6) (N := some 12) (v := ?_) (a' := ?_) #[true, true, true, true, true, true, true, false, false] rfl rfl (any_of HT_.out (by kernel_rfl)) (fun _ _ _ h => hpan _ _ _ _ _ h) (Or.inl ⟨by rfl, ?_⟩) ?_ ?_
  rotate_left
  · intro w'
    go_simp
    with_reducible rfl
  rotate_left
  · simp only [Act.put, List.setIfInBounds_toArray, List.set_cons_zero, List.set_cons_succ, i64_w, i32_w]
    rfl
  refine pure_ (i := 7) (N := some 4) (v := ?_) (a' := ?_) #[true, true, true, true, true, true, true, true, false] rfl rfl (any_of HT_.out (by kernel_rfl)) (fun _ _ _ h => hpan _ _ _ _ _ h) (Or.inl ⟨by rfl, ?_⟩) ?_ ?_
  rotate_left
  · intro w'
    go_simp
    with_reducible rfl
  rotate_left
  · simp only [Act.put, List.setIfInBounds_toArray, List.set_cons_zero, List.set_cons_succ, i64_w, i32_w]
    rfl
  refine pure_ (i := 8) (N := some 5) (v := ?_) (a' := ?_) #[true, true, true, true, true, true, true, true, true] rfl rfl (any_of HT_.out (by kernel_rfl)) (fun _ _ _ h => hpan _ _ _ _ _ h) (Or.inl ⟨by rfl, ?_⟩) ?_ ?_
  rotate_left
  · intro w'
    go_simp
    with_reducible rfl
  rotate_left
  · simp only [Act.put, List.setIfInBounds_toArray, List.set_cons_zero, List.set_cons_succ, i64_w, i32_w]
    rfl
  refine done_ (done_of HT_.out (by kernel_rfl)) ?_

  refine hQ.out _ _ _ _ _ _ _ _ _ ?_
  exact ⟨g6, below_step (below_step (below_drew1 (Below.refl wr.heap.size wr)) b3) b6⟩

set_option maxHeartbeats 8000000 in
set_option maxRecDepth 100000 in
theorem zburn_1_2_calls (u0 : Value) (g1 g3 : Nat) (d key : ByteArray) (n c : Int) (G : Value → World → Prop) (wr : World) (c0 : wr.cell? ⟨g1, 0, none⟩ = some (.string d)) (c1 : wr.cell? ⟨g3, 0, none⟩ = some (.int .i64 n)) (HKY : Aside0 (∀ W, Calls Tryz.prog 50 #[.string d] W fun e w' => e = .returned (.string key) ∧ Drawn0 W w')) (HFW : Aside0 (∀ W, Below wr.heap.size wr W → Calls Tryz.prog 64 #[u0, .string key, .int .i64 n] W fun e w' => ∃ v, e = .returned (.tuple #[v, .int .i64 c]) ∧ G v w' ∧ Below W.heap.size W w')) :
    Calls Tryz.prog 65 #[u0, .pointer (some ⟨g1, 0, none⟩), .pointer (some ⟨g3, 0, none⟩)] wr fun e w' => ∃ v, e = .returned (.tuple #[v, .int .i64 c]) ∧ G v w' ∧ Below wr.heap.size wr w' := by
  go_enter Tryz.func65, Tryz.ntmps65
  go_upto_region 1 with (fail)
  refine zburn_1_2_r1 _ _ _ _ _ _ _ _ _ _ _ g1 g3 d key n c G _ c0 c1 HKY HFW (fun _ _ _ _ _ h => h) ⟨?_⟩
  intro v6 v7 v8 v9 v10 v11 v12 v4
  rintro w' ⟨hG, hB⟩
  go_wp2
  go_ret2
  exact ⟨_, rfl, hG, hB⟩
end Go.Proofs.YtpkfdjlmflmilaaGreatDoor.Q
end
section
namespace Go.Proofs.YtpkfdjlmflmilaaGreatDoor.Q
open Go.RowKit Go.Proofs.YtpkfdjlmflmilaaGreatDoorW.PrintWords Go.Proofs.YtpkfdjlmflmilaaGreatDoorW.PrintLast Go.Proofs.YtpkfdjlmflmilaaGreatDoorW.PrintMore Go.Proofs.YtpkfdjlmflmilaaGreatDoor.Pure
set_option linter.unusedVariables false
set_option linter.unusedSimpArgs false
theorem drop_empty {l : List S56} (hr : rightB l = true) : dropN l ⟨#[]⟩ = (l, 5) := by
  have h : fdB l ⟨#[]⟩ = false := by
    rw [Bool.eq_false_iff]
    intro h
    have hi := fdB_lt h
    have hk := fdB_key h
    have h2 := (right_key hr (lbN l ⟨#[]⟩) hi).1
    have e : key l (lbN l ⟨#[]⟩) = (⟨#[]⟩ : ByteArray) := hk
    rw [e] at h2
    revert h2
    decide
  unfold dropN
  rw [h, if_neg (by decide)]
set_option maxHeartbeats 8000000 in
set_option maxRecDepth 100000 in
theorem all_burn_calls (A0 : Option Addr) (c0 gr g1 g2 g3 : Nat) (l0 r1 r2 : List S56) (e1 e2 : Int) (w : World) (hgr : gr < w.heap.size) (hc0 : w.cell? ⟨gr, 0, none⟩ = some (.func (.func 63) #[] #[.pointer (some ⟨g1, 0, none⟩), .pointer (some ⟨g2, 0, none⟩), .pointer (some ⟨g3, 0, none⟩)])) (hc1 : w.cell? ⟨gr, 1, none⟩ = some (.func (.func 65) #[] #[.pointer (some ⟨g1, 0, none⟩), .pointer (some ⟨g3, 0, none⟩)]))
    (XD : Aside0 (∀ W, Below w.heap.size w W → Calls Tryz.prog 88 #[.slice A0 l0.length c0, .string ⟨#[]⟩] W fun e w' => ∃ v, e = .returned (.tuple #[v, .int .i64 5]) ∧ Kd.R k56 56 w' W.heap.size (fun _ => True) v l0 ∧ Below W.heap.size W w'))
    (X1 : Aside0 (∀ (W : World) (A : Option Addr) (c : Nat), Below w.heap.size w W → Kd.C k56 W A l0.length l0 → l0.length ≤ c → Calls Tryz.prog 63 #[.slice A l0.length c, .pointer (some ⟨g1, 0, none⟩), .pointer (some ⟨g2, 0, none⟩), .pointer (some ⟨g3, 0, none⟩)] W fun e w' => ∃ v, e = .returned (.tuple #[v, .int .i64 e1]) ∧ (e1 = 0 → Kd.R k56 56 w' w.heap.size (fun _ => True) v r1) ∧ Below w.heap.size W w'))
    (X2 : Aside0 (∀ (W : World) (A : Option Addr) (c : Nat), Below w.heap.size w W → Kd.C k56 W A r1.length r1 → r1.length ≤ c → Calls Tryz.prog 65 #[.slice A r1.length c, .pointer (some ⟨g1, 0, none⟩), .pointer (some ⟨g3, 0, none⟩)] W fun e w' => ∃ v, e = .returned (.tuple #[v, .int .i64 e2]) ∧ (e2 = 0 → Kd.R k56 56 w' w.heap.size (fun _ => True) v r2) ∧ Below w.heap.size W w')) :
    Calls Tryz.prog 62 #[.slice A0 l0.length c0, .slice (some ⟨gr, 0, none⟩) 2 2] w fun e w' => ∃ v, e = .returned (.tuple #[v, .int .i64 (if e1 = 0 then (if e2 = 0 then 0 else e2) else e1)]) ∧ Kd.R k56 56 w' w.heap.size (fun _ => True) v (if e1 = 0 then (if e2 = 0 then r2 else l0) else l0) ∧ Below w.heap.size w w' := by
  have HBr := Aside0.mk (Below.refl w.heap.size w)
  go_enter Tryz.func62, Tryz.ntmps62
  go_wp2_with (first | (go_at_call 88; refine (XD.out _ HBr.out).mono ?_; rintro e wd ⟨vd, rfl, hRd, hbd⟩; have HRd := Aside0.mk (Kd.R_lower hRd (HBr.out).size); have HBd := Aside0.mk ((HBr.out).trans (hbd.mono (HBr.out).size)); clear hRd hbd))
  go_loopg [6, 21] 3 (fun gk v6 v21 w' => (gk = 3 ∧ v21 = .int .i64 0 ∧ Aside0 (Kd.R k56 56 w' w.heap.size (fun _ => True) v6 l0) ∧ Aside0 (Below w.heap.size w w')) ∨ (gk = 2 ∧ v21 = .int .i64 1 ∧ e1 = 0 ∧ Aside0 (Kd.R k56 56 w' w.heap.size (fun _ => True) v6 r1) ∧ Aside0 (Below w.heap.size w w')) ∨ (gk = 1 ∧ v21 = .int .i64 2 ∧ e1 = 0 ∧ e2 = 0 ∧ Aside0 (Kd.R k56 56 w' w.heap.size (fun _ => True) v6 r2) ∧ Aside0 (Below w.heap.size w w')))
  case atStart => exact .inl ⟨rfl, rfl, ⟨HRd.out⟩, ⟨HBd.out⟩⟩
  case round =>
    rcases hrel with hrel | hrel | hrel
    · obtain ⟨hk, hv, HR, HB⟩ := hrel
      subst hk
      subst hv
      obtain ⟨Ao, co, eo⟩ := Kd.R_slice HR.out
      subst eo
      have HCC := Aside0.mk (Kd.R_reads' HR.out).2.2
      have HCL := Aside0.mk (Kd.R_reads' HR.out).2.1
      have hcell : wr.cell? ⟨gr, 0, none⟩ = some (.func (.func 63) #[] #[.pointer (some ⟨g1, 0, none⟩), .pointer (some ⟨g2, 0, none⟩), .pointer (some ⟨g3, 0, none⟩)]) := (HB.out.cell hgr).trans hc0
      by_cases c_ : e1 = 0
      · subst c_
        go_wp2_with (first | (go_at_call 63; refine (X1.out _ _ _ HB.out HCC.out HCL.out).mono ?_; rintro e w2 ⟨v2, rfl, hR2, hb2⟩; have HR2 := Aside0.mk hR2; have HB2 := Aside0.mk (HB.out.trans hb2); clear hR2 hb2))
        go_roundg 2
        case measure => omega
        case rel => exact .inr (.inl ⟨rfl, rfl, (by first | trivial | rfl), ⟨HR2.out (by first | trivial | rfl)⟩, ⟨HB2.out⟩⟩)
      · have z1 : (e1 == 0) = false := by simpa using c_
        have z2 : (e1 != 0) = true := by simpa using c_
        go_wp2_with (first | (go_at_call 63; refine (X1.out _ _ _ HB.out HCC.out HCL.out).mono ?_; rintro e w2 ⟨v2, rfl, hR2, hb2⟩; have HR2 := Aside0.mk hR2; have HB2 := Aside0.mk (HB.out.trans hb2); clear hR2 hb2) | (go_at_call 88; refine (XD.out _ HB2.out).mono ?_; rintro e wd ⟨vd, rfl, hRd, hbd⟩; have HRd := Aside0.mk (Kd.R_lower hRd (HB2.out).size); have HBd := Aside0.mk ((HB2.out).trans (hbd.mono (HB2.out).size)); clear hRd hbd))
        go_ret2
        exact ⟨_, rfl, by skip; exact HRd.out, HBd.out⟩
    · obtain ⟨hk, hv, he1, HR, HB⟩ := hrel
      subst hk
      subst hv
      obtain ⟨Ao, co, eo⟩ := Kd.R_slice HR.out
      subst eo
      have HCC := Aside0.mk (Kd.R_reads' HR.out).2.2
      have HCL := Aside0.mk (Kd.R_reads' HR.out).2.1
      have hcell : wr.cell? ⟨gr, 1, none⟩ = some (.func (.func 65) #[] #[.pointer (some ⟨g1, 0, none⟩), .pointer (some ⟨g3, 0, none⟩)]) := (HB.out.cell hgr).trans hc1
      by_cases c_ : e2 = 0
      · subst c_
        go_wp2_with (first | (go_at_call 65; refine (X2.out _ _ _ HB.out HCC.out HCL.out).mono ?_; rintro e w2 ⟨v2, rfl, hR2, hb2⟩; have HR2 := Aside0.mk hR2; have HB2 := Aside0.mk (HB.out.trans hb2); clear hR2 hb2))
        go_roundg 1
        case measure => omega
        case rel => exact .inr (.inr ⟨rfl, rfl, (by first | exact he1 | trivial | rfl), (by first | trivial | rfl), ⟨HR2.out (by first | trivial | rfl)⟩, ⟨HB2.out⟩⟩)
      · have z1 : (e2 == 0) = false := by simpa using c_
        have z2 : (e2 != 0) = true := by simpa using c_
        go_wp2_with (first | (go_at_call 65; refine (X2.out _ _ _ HB.out HCC.out HCL.out).mono ?_; rintro e w2 ⟨v2, rfl, hR2, hb2⟩; have HR2 := Aside0.mk hR2; have HB2 := Aside0.mk (HB.out.trans hb2); clear hR2 hb2) | (go_at_call 88; refine (XD.out _ HB2.out).mono ?_; rintro e wd ⟨vd, rfl, hRd, hbd⟩; have HRd := Aside0.mk (Kd.R_lower hRd (HB2.out).size); have HBd := Aside0.mk ((HB2.out).trans (hbd.mono (HB2.out).size)); clear hRd hbd))
        go_ret2
        exact ⟨_, rfl, by skip; exact HRd.out, HBd.out⟩
    · obtain ⟨hk, hv, he1, he2, HR, HB⟩ := hrel
      subst hk
      subst hv
      subst he1
      subst he2
      go_wp2
      go_ret2
      exact ⟨_, rfl, HR.out, HB.out⟩
end Go.Proofs.YtpkfdjlmflmilaaGreatDoor.Q
end
section
namespace Go.Proofs.YtpkfdjlmflmilaaGreatDoor.Q
open Go.RowKit Go.Proofs.YtpkfdjlmflmilaaGreatDoorW.PrintWords Go.Proofs.YtpkfdjlmflmilaaGreatDoorW.PrintLast Go.Proofs.YtpkfdjlmflmilaaGreatDoorW.PrintMore Go.Proofs.YtpkfdjlmflmilaaGreatDoor.Pure
set_option linter.unusedVariables false
set_option linter.unusedSimpArgs false
theorem ys2 (d : ByteArray) : ((⟨#[98, 47]⟩ : ByteArray) ++ d).size = 2 + d.size := by rw [ByteArray.size_append]; rfl
theorem ys3 (d : ByteArray) : (((⟨#[98, 47]⟩ : ByteArray) ++ d) ++ (⟨#[47]⟩ : ByteArray)).size = 3 + d.size := by rw [ByteArray.size_append, ys2, show (⟨#[47]⟩ : ByteArray).size = 1 from rfl]; omega
theorem impl_bkeyY (a d : ByteArray) (ha : a.size ≤ 65536) (hd : d.size ≤ 65536) : impl_balanceKey.f d a = some (bKey a d) := by
  unfold impl_balanceKey.f bKey
  rw [ys2, ys3, if_pos (by omega), if_pos (by omega), if_pos (by omega)]
theorem impl_skeyY (d : ByteArray) (hd : d.size ≤ 65536) : impl_supplyKey.f d = some (sKey d) := by
  unfold impl_supplyKey.f sKey
  rw [if_pos (by omega)]
/-- A change by fewer, at any row that reads so, in any world behind. -/
theorem fewer_at {w W W' : World} {A : Option Addr} {c : Nat} {l : List S56} (key : ByteArray) (n : Int) (hb : Below w.heap.size w W) (hC : Kd.C k56 W A l.length l) (hc : l.length ≤ c) (htab : Tb.TB w) (hl : l.length ≤ 5000) (hv : okV l) (g0 : 1 ≤ n) (g1 : n ≤ 1000000000000000000) (hb2 : Below W.heap.size W W') :
    Calls Tryz.prog 64 #[.slice A l.length c, .string key, .int .i64 n] W' fun e w' => ∃ v, e = .returned (.tuple #[v, .int .i64 (addN l key (-n)).2]) ∧ ((addN l key (-n)).2 = 0 → Kd.R k56 56 w' w.heap.size (fun _ => True) v (addN l key (-n)).1) ∧ Below W'.heap.size W' w' := by
  have hbb : Below w.heap.size w W' := hb.trans (hb2.mono hb.size)
  refine (impl_fewer_calls A c l key n W' (Kd.C_below hC hb2) hc (Tb.TB.below htab hbb (Nat.le_refl _)) hl hv g0 g1).mono ?_
  rintro e w' ⟨v, rfl, hR, hB⟩
  exact ⟨v, rfl, fun h => Kd.R_lower (hR h) hbb.size, hB⟩
theorem alloc_lt (w : World) (o : Obj) : w.heap.size < (w.alloc o).heap.size := by simp
theorem cell_keep {w W : World} {g : Nat} {v : Value} (h : w.cell? ⟨g, 0, none⟩ = some v) (hb : Below w.heap.size w W) : W.cell? ⟨g, 0, none⟩ = some v := (hb.cell (World.block_lt_of_cell? _ _ h)).trans h
set_option maxHeartbeats 8000000 in
set_option maxRecDepth 100000 in
/-- The two changes of burn, done by all, in the world where their row lies. -/
theorem all_burn (A0 : Option Addr) (c0 gr g1 g2 g3 : Nat) (l0 : List S56) (d a : ByteArray) (n : Int) (w : World) (hr0 : Kd.C k56 w A0 l0.length l0) (hc0 : l0.length ≤ c0) (htab : Tb.TB w) (hrt : rightB l0 = true) (ha : a.size ≤ 65536) (hd : d.size ≤ 65536) (h0 : 1 ≤ n) (h1 : n ≤ 1000000000000000000)
    (b1 : w.cell? ⟨g1, 0, none⟩ = some (.string d)) (b2 : w.cell? ⟨g2, 0, none⟩ = some (.string a)) (b3 : w.cell? ⟨g3, 0, none⟩ = some (.int .i64 n)) (hgr : gr < w.heap.size)
    (hx0 : w.cell? ⟨gr, 0, none⟩ = some (.func (.func 63) #[] #[.pointer (some ⟨g1, 0, none⟩), .pointer (some ⟨g2, 0, none⟩), .pointer (some ⟨g3, 0, none⟩)])) (hx1 : w.cell? ⟨gr, 1, none⟩ = some (.func (.func 65) #[] #[.pointer (some ⟨g1, 0, none⟩), .pointer (some ⟨g3, 0, none⟩)])) :
    Calls Tryz.prog 62 #[.slice A0 l0.length c0, .slice (some ⟨gr, 0, none⟩) 2 2] w fun e w' => ∃ v, e = .returned (.tuple #[v, .int .i64 (twoN l0 (bKey a d) (-n) (sKey d) (-n)).2]) ∧ Kd.R k56 56 w' w.heap.size (fun _ => True) v (twoN l0 (bKey a d) (-n) (sKey d) (-n)).1 ∧ Below w.heap.size w w' := by
  have hlr := right_len hrt
  have hokv := okV_right hrt
  have hl2 := add_len l0 (bKey a d) (-n)
  have ho2 := add_ok hokv (bKey a d) (-n)
  have hde := drop_empty hrt
  have HA := all_burn_calls A0 c0 gr g1 g2 g3 l0 (addN l0 (bKey a d) (-n)).1 (addN (addN l0 (bKey a d) (-n)).1 (sKey d) (-n)).1 (addN l0 (bKey a d) (-n)).2 (addN (addN l0 (bKey a d) (-n)).1 (sKey d) (-n)).2 w hgr hx0 hx1
    ⟨fun W hb => (impl_drop.calls A0 c0 l0 ⟨#[]⟩ l0 5 W (Kd.C_below hr0 hb) hc0 (by unfold impl_drop.f; rw [if_pos (by omega), hde])).mono fun e w' h => h⟩
    ⟨fun W A c hb hC hc => Calls.mono (zburn_1_1_calls (.slice A l0.length c) g1 g2 g3 d a (bKey a d) n _ _ W (cell_keep b1 hb) (cell_keep b2 hb) (cell_keep b3 hb) ⟨fun W => impl_balanceKey.calls d a _ W (impl_bkeyY a d ha hd)⟩ ⟨fun W' hb2 => fewer_at (bKey a d) n hb hC hc htab (by omega) hokv h0 h1 hb2⟩) (fun e w' ⟨v, he, hR, hB⟩ => ⟨v, he, hR, hB.mono hb.size⟩)⟩
    ⟨fun W A c hb hC hc => Calls.mono (zburn_1_2_calls (.slice A (addN l0 (bKey a d) (-n)).1.length c) g1 g3 d (sKey d) n _ _ W (cell_keep b1 hb) (cell_keep b3 hb) ⟨fun W => impl_supplyKey.calls d _ W (impl_skeyY d hd)⟩ ⟨fun W' hb2 => fewer_at (sKey d) n hb hC hc htab (by omega) ho2 h0 h1 hb2⟩) (fun e w' ⟨v, he, hR, hB⟩ => ⟨v, he, hR, hB.mono hb.size⟩)⟩
  refine HA.mono ?_
  rintro e w' ⟨v, rfl, hR, hB⟩
  refine ⟨v, ?_, ?_, hB⟩
  · unfold twoN
    by_cases c1 : (addN l0 (bKey a d) (-n)).2 = 0
    · rw [if_pos c1, if_pos c1]
      by_cases c2 : (addN (addN l0 (bKey a d) (-n)).1 (sKey d) (-n)).2 = 0
      · rw [if_pos c2, if_pos c2]
      · rw [if_neg c2, if_neg c2]
    · rw [if_neg c1, if_neg c1]
  · unfold twoN
    by_cases c1 : (addN l0 (bKey a d) (-n)).2 = 0
    · rw [if_pos c1] at hR ⊢
      by_cases c2 : (addN (addN l0 (bKey a d) (-n)).1 (sKey d) (-n)).2 = 0
      · rw [if_pos c2] at hR ⊢
        exact hR
      · rw [if_neg c2] at hR ⊢
        exact hR
    · rw [if_neg c1] at hR ⊢
      exact hR
set_option maxHeartbeats 8000000 in
set_option maxRecDepth 100000 in
/-- burn's own closure. -/
theorem burn1_calls (A0 : Option Addr) (c0 g1 g2 g3 : Nat) (l0 : List S56) (d a : ByteArray) (n : Int) (w : World) (hr0 : Kd.C k56 w A0 l0.length l0) (hc0 : l0.length ≤ c0) (htab : Tb.TB w) (hrt : rightB l0 = true) (ha : a.size ≤ 65536) (hd : d.size ≤ 65536) (h0 : 1 ≤ n) (h1 : n ≤ 1000000000000000000)
    (b1 : w.cell? ⟨g1, 0, none⟩ = some (.string d)) (b2 : w.cell? ⟨g2, 0, none⟩ = some (.string a)) (b3 : w.cell? ⟨g3, 0, none⟩ = some (.int .i64 n)) :
    Calls Tryz.prog 61 #[.slice A0 l0.length c0, .pointer (some ⟨g1, 0, none⟩), .pointer (some ⟨g2, 0, none⟩), .pointer (some ⟨g3, 0, none⟩)] w fun e w' => ∃ v, e = .returned (.tuple #[v, .int .i64 (twoN l0 (bKey a d) (-n) (sKey d) (-n)).2]) ∧ Kd.R k56 56 w' w.heap.size (fun _ => True) v (twoN l0 (bKey a d) (-n) (sKey d) (-n)).1 ∧ Below w.heap.size w w' := by
  have HX := Aside0.mk (fun (W : World) (gr : Nat) (hb : Below w.heap.size w W) => all_burn A0 c0 gr g1 g2 g3 l0 d a n W (Kd.C_below hr0 hb) hc0 (Tb.TB.below htab hb (Nat.le_refl _)) hrt ha hd h0 h1 (cell_keep b1 hb) (cell_keep b2 hb) (cell_keep b3 hb))
  have HBr := Aside0.mk (Below.refl w.heap.size w)
  clear hr0 hc0 htab hrt ha hd h0 h1 b1 b2 b3
  generalize (twoN l0 (bKey a d) (-n) (sKey d) (-n)).1 = rr at *
  generalize (twoN l0 (bKey a d) (-n) (sKey d) (-n)).2 = ee at *
  generalize l0.length = len at *
  go_enter Tryz.func61, Tryz.ntmps61
  go_wp2_with (go_at_call 62; (refine (HX.out _ w.heap.size (below_alloc HBr.out _) (alloc_lt _ _) ((blk_cell (heap_alloc_new w _) 0).trans rfl) ((blk_cell (heap_alloc_new w _) 1).trans rfl)).mono ?_; rintro e w2 ⟨v2, rfl, hR2, hb2⟩; have HR2 := Aside0.mk (Kd.R_lower hR2 (below_alloc HBr.out _).size); have HB2 := Aside0.mk ((below_alloc HBr.out _).trans (hb2.mono (below_alloc HBr.out _).size)); clear hR2 hb2))
  go_ret2
  exact ⟨_, rfl, HR2.out, HB2.out⟩
end Go.Proofs.YtpkfdjlmflmilaaGreatDoor.Q
end
section
namespace Go.Proofs.YtpkfdjlmflmilaaGreatDoor.Q
open Go.RowKit Go.Proofs.YtpkfdjlmflmilaaGreatDoorW.PrintWords Go.Proofs.YtpkfdjlmflmilaaGreatDoorW.PrintLast Go.Proofs.YtpkfdjlmflmilaaGreatDoorW.PrintMore Go.Proofs.YtpkfdjlmflmilaaGreatDoor.Pure
set_option linter.unusedVariables false
set_option linter.unusedSimpArgs false
theorem c_new (w : World) (v : Value) (t : TypeId) : (w.alloc (Obj.cells #[v] t)).cell? ⟨w.heap.size, 0, none⟩ = some v := (blk_cell (heap_alloc_new w _) 0).trans rfl
theorem size_one (w : World) (o : Obj) : (w.alloc o).heap.size = w.heap.size + 1 := by simp
theorem R_nil (W : World) (b : Nat) : Kd.R k56 56 W b (fun _ => True) (.slice none 0 0) ([] : List S56) := ⟨fun _ _ => trivial, [], ⟨rfl, .inl ⟨rfl, rfl⟩⟩, Reps.none _ _⟩
set_option maxHeartbeats 8000000 in
set_option maxRecDepth 100000 in
theorem burn_calls (a d : ByteArray) (n : Int) (w : World) :
    Calls Tryz.prog 35 #[.string a, .string d, .int .i64 n] w fun e w' => ∃ g1 g2 g3, e = .returned (.func (.func 61) #[] #[.pointer (some ⟨g1, 0, none⟩), .pointer (some ⟨g2, 0, none⟩), .pointer (some ⟨g3, 0, none⟩)]) ∧
      w'.cell? ⟨g1, 0, none⟩ = some (.string d) ∧ w'.cell? ⟨g2, 0, none⟩ = some (.string a) ∧ w'.cell? ⟨g3, 0, none⟩ = some (.int .i64 n) ∧ Below w.heap.size w w' := by
  go_enter Tryz.func35, Tryz.ntmps35
  go_wp2
  go_ret
  refine ⟨_, _, _, rfl, ?_, ?_, ?_, ?_⟩
  · have h := c_new (w.alloc (Obj.cells #[Value.string a] 9)) (Value.string d) 9
    rw [size_one] at h
    exact cell_keep h ((Below.refl _ _).alloc (Nat.le_refl _) _)
  · exact cell_keep (cell_keep (c_new w (Value.string a) 9) ((Below.refl _ _).alloc (Nat.le_refl _) _)) ((Below.refl _ _).alloc (Nat.le_refl _) _)
  · have h := c_new ((w.alloc (Obj.cells #[Value.string a] 9)).alloc (Obj.cells #[Value.string d] 9)) (Value.int .i64 n) 3
    rw [size_one, size_one] at h
    exact h
  · exact below_alloc (below_alloc (below_alloc (Below.refl _ _) _) _) _
def impl_Burn.f (l0 : List S56) (a1 a2 : ByteArray) (a3 : Int) : Option (List S56 × Int) := some (bankN l0 [a1, a2] a3 (bKey a1 a2) (-a3) (sKey a2) (-a3))
set_option maxHeartbeats 8000000 in
set_option maxRecDepth 100000 in
theorem impl_Burn.calls (A0 : Option Addr) (c0 : Nat) (l0 : List S56) (a1 a2 : ByteArray) (a3 : Int) (r1 : List S56) (r2 : Int) (w : World) (hr0 : Kd.C k56 w A0 l0.length l0) (hc0 : l0.length ≤ c0) (htab : Tb.TB w) (h : impl_Burn.f l0 a1 a2 a3 = some (r1, r2)) :
    Calls Tryz.prog 10 #[.slice A0 l0.length c0, .string a1, .string a2, .int .i64 a3] w fun e w' => ∃ v0_ : Value, e = .returned (.tuple #[v0_, .int .i64 r2]) ∧ Kd.R k56 56 w' w.heap.size (fun _ => True) v0_ r1 ∧ Below w.heap.size w w' := by
  unfold impl_Burn.f at h
  injection h with h
  unfold bankN at h
  have HB := Aside0.mk (Below.refl w.heap.size w)
  have HC := Aside0.mk hr0
  have HK := Aside0.mk hc0
  have HBK := Aside0.mk (impl_bc l0 a3 [a1, a2] (by simp) 140000 (by omega))
  obtain ⟨y1, hy1⟩ : ∃ y_ : List ByteArray, y_ = [a1, a2] := ⟨_, rfl⟩
  have HPR : bcN l0 a3 y1 = 0 → rightB l0 = true ∧ a1.size ≤ 65536 ∧ a2.size ≤ 65536 ∧ 1 ≤ a3 ∧ a3 ≤ 1000000000000000000 := by
    intro hz
    rw [hy1] at hz
    unfold bcN at hz
    split at hz
    · exact absurd hz (by decide)
    · rename_i hlong
      simp only [List.any_cons, List.any_nil, Bool.or_false, Bool.or_eq_true, decide_eq_true_eq] at hlong
      split at hz
      · rename_i hbk
        split at hz
        · rename_i hn
          exact ⟨(bk_zero hbk).1, by omega, by omega, hn.1, hn.2⟩
        · exact absurd hz (by decide)
      · rename_i hbk
        exact absurd hz hbk
  rw [← hy1] at HBK h
  have Ny1 := Aside0.mk hy1
  clear hy1
  generalize bcN l0 a3 y1 = c at *
  by_cases hz : c = 0
  · subst hz
    obtain ⟨hrt, hs1, hs2, hn1, hn2⟩ := HPR rfl
    rw [if_pos rfl] at h
    have e1 : (twoN l0 (bKey a1 a2) (-a3) (sKey a2) (-a3)).1 = r1 := congrArg Prod.fst h
    have e2 : (twoN l0 (bKey a1 a2) (-a3) (sKey a2) (-a3)).2 = r2 := congrArg Prod.snd h
    have HX := Aside0.mk (fun (W : World) (g1 g2 g3 : Nat) (hb : Below w.heap.size w W) => burn1_calls A0 c0 g1 g2 g3 l0 a2 a1 a3 W (Kd.C_below hr0 hb) hc0 (Tb.TB.below htab hb (Nat.le_refl _)) hrt hs1 hs2 hn1 hn2)
    rw [e1, e2] at HX
    clear h e1 e2 hn1 hn2 hrt hs1 hs2 HPR hr0 hc0 htab
    go_enter Tryz.func10, Tryz.ntmps10
    go_wp2_with (first | ((with_reducible refine gate_dst (N := 15) rfl ?_); (try (refine gate_guard (by rfl) ?_; dsimp only)); refine Kd.R_lit Kd.string _ 9 ?hg (N := 15) ?hd (xs := ([a1, a2] : List ByteArray)) (inner := [.string a1, .string a2]) (ok := fun _ => True) (okp := fun _ => True) ?hr ?hp (fun _ hk => hk) trivial (Below.refl _ _) (Nat.le_refl _) (by simp) ?_; (case hd => rfl); (case hg => rfl); (case hr => first | (go_simp; done) | (go_simp; rfl)); (case hp => exact (Reps.one (show Kd.M Kd.string _ _ _ a1 [.string a1] from rfl) (Reps.one (show Kd.M Kd.string _ _ _ a2 [.string a2] from rfl) (Reps.none _ _)))); intro v1 w1 ho hb hg_ hnew_; clear hg_ hnew_; (first | rw [← Ny1.out] at ho | (simp only [Int.reduceToNat] at ho; rw [← Ny1.out] at ho)); have HO1 := Aside0.mk (Kd.R_lower ho (below_size (by repeat (first | (with_reducible first | exact HB.out | apply below_alloc | apply pw_below_drewN | apply below_drew1) | exact HB.out)))); have HB1 := Aside0.mk (below_step (by repeat (first | (with_reducible first | exact HB.out | apply below_alloc | apply pw_below_drewN | apply below_drew1) | exact HB.out)) hb); clear ho hb; obtain ⟨A1, c1, eo1⟩ := Kd.R_slice HO1.out; subst eo1) | (go_at_call 34; refine (impl_bankCode.calls 140000 A0 c0 l0 a3 A1 c1 y1 _ _ (Kd.C_below HC.out HB1.out) HK.out (Kd.R_reads' HO1.out).2.2 (Kd.R_reads' HO1.out).2.1 HBK.out).mono ?_; rintro e w2 ⟨rfl, hb2⟩; have HB2 := Aside0.mk (HB1.out.trans (hb2.mono HB1.out.size)); clear hb2) | (go_at_call 35; refine (burn_calls a1 a2 a3 _).mono ?_; rintro e w3 ⟨g1, g2, g3, rfl, b1, b2, b3, hb3⟩; have HC1 := Aside0.mk b1; have HC2 := Aside0.mk b2; have HC3 := Aside0.mk b3; have HB3 := Aside0.mk (HB2.out.trans (hb3.mono HB2.out.size)); clear b1 b2 b3 hb3) | (go_at_call 61; refine (HX.out _ g1 g2 g3 HB3.out HC1.out HC2.out HC3.out).mono ?_; rintro e w4 ⟨v4, rfl, hR4, hb4⟩; have HR4 := Aside0.mk (Kd.R_lower hR4 HB3.out.size); have HB4 := Aside0.mk (HB3.out.trans (hb4.mono HB3.out.size)); clear hR4 hb4))
    go_ret2
    exact ⟨_, rfl, HR4.out, HB4.out⟩
  · rw [if_neg hz] at h
    have e1 : [] = r1 := congrArg Prod.fst h
    have e2 : c = r2 := congrArg Prod.snd h
    subst e1
    subst e2
    clear h HPR hr0 hc0 htab
    have hz1 : (c == 0) = false := by simpa using hz
    have hz2 : (c != 0) = true := by simpa using hz
    clear hz
    go_enter Tryz.func10, Tryz.ntmps10
    go_wp2_with (first | ((with_reducible refine gate_dst (N := 15) rfl ?_); (try (refine gate_guard (by rfl) ?_; dsimp only)); refine Kd.R_lit Kd.string _ 9 ?hg (N := 15) ?hd (xs := ([a1, a2] : List ByteArray)) (inner := [.string a1, .string a2]) (ok := fun _ => True) (okp := fun _ => True) ?hr ?hp (fun _ hk => hk) trivial (Below.refl _ _) (Nat.le_refl _) (by simp) ?_; (case hd => rfl); (case hg => rfl); (case hr => first | (go_simp; done) | (go_simp; rfl)); (case hp => exact (Reps.one (show Kd.M Kd.string _ _ _ a1 [.string a1] from rfl) (Reps.one (show Kd.M Kd.string _ _ _ a2 [.string a2] from rfl) (Reps.none _ _)))); intro v1 w1 ho hb hg_ hnew_; clear hg_ hnew_; (first | rw [← Ny1.out] at ho | (simp only [Int.reduceToNat] at ho; rw [← Ny1.out] at ho)); have HO1 := Aside0.mk (Kd.R_lower ho (below_size (by repeat (first | (with_reducible first | exact HB.out | apply below_alloc | apply pw_below_drewN | apply below_drew1) | exact HB.out)))); have HB1 := Aside0.mk (below_step (by repeat (first | (with_reducible first | exact HB.out | apply below_alloc | apply pw_below_drewN | apply below_drew1) | exact HB.out)) hb); clear ho hb; obtain ⟨A1, c1, eo1⟩ := Kd.R_slice HO1.out; subst eo1) | (go_at_call 34; refine (impl_bankCode.calls 140000 A0 c0 l0 a3 A1 c1 y1 _ _ (Kd.C_below HC.out HB1.out) HK.out (Kd.R_reads' HO1.out).2.2 (Kd.R_reads' HO1.out).2.1 HBK.out).mono ?_; rintro e w2 ⟨rfl, hb2⟩; have HB2 := Aside0.mk (HB1.out.trans (hb2.mono HB1.out.size)); clear hb2))
    go_ret2
    exact ⟨_, rfl, R_nil w2 _, HB2.out⟩
end Go.Proofs.YtpkfdjlmflmilaaGreatDoor.Q
end
section
namespace Go.Proofs.YtpkfdjlmflmilaaGreatDoor.Q
open Go.RowKit Go.Proofs.YtpkfdjlmflmilaaGreatDoorW.PrintWords Go.Proofs.YtpkfdjlmflmilaaGreatDoorW.PrintLast Go.Proofs.YtpkfdjlmflmilaaGreatDoorW.PrintMore
attribute [local go_sem] max2_int min2_int max_two min_two max_three min_three max_four min_four   -- for this text's walks alone
set_option linter.unusedVariables false
set_option linter.unusedSimpArgs false

/-! ### laws_FnExactBurn: function 3 -/
mutual
def laws_FnExactBurn.j0 : Nat → List (S52) → ByteArray → ByteArray → Int → List (S56) → Int → List (S56) → List (S56) → Int → Bool → Option (Bool)
  | 0, _, _, _, _, _, _, _, _, _, _ => none
  | k + 1, x0, x1, x2, x3, x10, x11, x12, x13, x14, x58 => if x58 = true then (some false) else ((laws_toPairS.f k x0).bind fun t192 => ((laws_eqPairS.f k x12 t192).bind fun t195 => (if t195 = true then ((laws_markPairS.f k x12 1).bind fun bt196 => (if bt196.1 < 0 then (laws_FnExactBurn.j1 k x0 x1 x2 x3 x10 x11 x13 true) else ((laws_eqPairS.f k x13 x10).bind fun t198 => (if t198 = true then (laws_FnExactBurn.j1 k x0 x1 x2 x3 x10 x11 x13 (x14 != x11)) else (laws_FnExactBurn.j1 k x0 x1 x2 x3 x10 x11 x13 true))))) else (some false))))
def laws_FnExactBurn.j1 : Nat → List (S52) → ByteArray → ByteArray → Int → List (S56) → Int → List (S56) → Bool → Option (Bool)
  | 0, _, _, _, _, _, _, _, _ => none
  | k + 1, x0, x1, x2, x3, x10, x11, x13, x79 => if x79 = true then (some false) else ((laws_markPairS.f k x13 1).bind fun bt199 => ((laws_heldPairS.f k bt199.2 1).bind fun t201 => (if t201 < 0 then (some false) else (if t201 = bt199.1 then ((laws_toPairS.f k x0).bind fun t202 => ((impl_Burn.f t202 x1 x2 x3).bind fun bt205 => ((laws_eqPairS.f k bt205.1 x10).bind fun t209 => (if t209 = true then (laws_FnExactBurn.j2 k bt199.2 bt199.1 (bt205.2 != x11)) else (laws_FnExactBurn.j2 k bt199.2 bt199.1 true))))) else (some false)))))
def laws_FnExactBurn.j2 : Nat → List (S56) → Int → Bool → Option (Bool)
  | 0, _, _, _ => none
  | k + 1, x13, x16, x108 => if x108 = true then (some false) else ((laws_heldPairS.f k x13 1).bind fun t210 => (if t210 < 0 then (some false) else (if t210 = x16 then (some true) else (some false))))
end
def laws_FnExactBurn.f (k : Nat) (l0 : List (S52)) (a1 : ByteArray) (a2 : ByteArray) (a3 : Int) : Option (Bool) := if (a1.size : Int) > 1048576 then (some true) else (if (a2.size : Int) > 1048576 then (some true) else ((laws_szPairS.f k l0 1048576).bind fun t176 => (if t176 < 0 then (some true) else ((laws_toPairS.f k l0).bind fun t177 => ((spec_Burn.f t177 a1 a2 a3).bind fun bt180 => ((laws_toPairS.f k l0).bind fun t184 => ((impl_Burn.f t184 a1 a2 a3).bind fun bt187 => ((laws_eqPairS.f k bt187.1 bt180.1).bind fun t191 => (if t191 = true then (laws_FnExactBurn.j0 k l0 a1 a2 a3 bt180.1 bt180.2 t184 bt187.1 bt187.2 (bt187.2 != bt180.2)) else (laws_FnExactBurn.j0 k l0 a1 a2 a3 bt180.1 bt180.2 t184 bt187.1 bt187.2 true))))))))))
set_option maxHeartbeats 8000000 in
set_option maxRecDepth 100000 in
theorem laws_FnExactBurn.calls (k : Nat) (A0 : Option Addr) (c0 : Nat) (l0 : List (S52)) (a1 : ByteArray) (a2 : ByteArray) (a3 : Int) (r : Bool) (w : World) (hr0 : Kd.C k52 w A0 l0.length l0) (hc0 : l0.length ≤ c0) (htab : Tb.TB w) (h : laws_FnExactBurn.f k l0 a1 a2 a3 = some r) :
    Calls Tryz.prog 3 #[.slice A0 l0.length c0, .string a1, .string a2, .int .i64 a3] w fun e w' => e = .returned (.bool r) ∧ Below w.heap.size w w' := by
  have HT := Aside0.mk htab
  clear htab
  have HR0 := Aside0.mk hr0
  have HC0 := Aside0.mk hc0
  clear hr0 hc0
  have HB := Aside0.mk (Below.refl w.heap.size w)
  have H : (if (a1.size : Int) > 1048576 then (some true) else (if (a2.size : Int) > 1048576 then (some true) else ((laws_szPairS.f k l0 1048576).bind fun t176 => (if t176 < 0 then (some true) else ((laws_toPairS.f k l0).bind fun t177 => ((spec_Burn.f t177 a1 a2 a3).bind fun bt180 => ((laws_toPairS.f k l0).bind fun t184 => ((impl_Burn.f t184 a1 a2 a3).bind fun bt187 => ((laws_eqPairS.f k bt187.1 bt180.1).bind fun t191 => (if t191 = true then (laws_FnExactBurn.j0 k l0 a1 a2 a3 bt180.1 bt180.2 t184 bt187.1 bt187.2 (bt187.2 != bt180.2)) else (laws_FnExactBurn.j0 k l0 a1 a2 a3 bt180.1 bt180.2 t184 bt187.1 bt187.2 true))))))))))) = some r := h
  clear h
  by_cases c5 : (a1.size : Int) > 1048576
  · rw [if_pos c5] at H
    have c5b0 : decide (1048576 < (a1.size : Int)) = true := decide_eq_true c5
    have c5b1 : decide (1048576 < a1.size) = true := decide_eq_true (by omega)
    clear c5
    obtain rfl := Option.some.inj H
    go_enter Tryz.func3, Tryz.ntmps3
    go_wp2
    go_ret
    exact ⟨by first | rfl | (simp [errW_none, errW_some] <;> rfl) | (simp [*, errW_none, errW_some] <;> rfl), by repeat (first | (with_reducible first | exact HB.out | apply below_alloc | apply pw_below_drewN | apply below_drew1) | exact HB.out)⟩
  · rw [if_neg c5] at H
    have c5b0 : decide (1048576 < (a1.size : Int)) = false := decide_eq_false c5
    have c5b1 : decide (1048576 < a1.size) = false := decide_eq_false (by omega)
    clear c5
    by_cases c6 : (a2.size : Int) > 1048576
    · rw [if_pos c6] at H
      have c6b0 : decide (1048576 < (a2.size : Int)) = true := decide_eq_true c6
      have c6b1 : decide (1048576 < a2.size) = true := decide_eq_true (by omega)
      clear c6
      obtain rfl := Option.some.inj H
      go_enter Tryz.func3, Tryz.ntmps3
      go_wp2
      go_ret
      exact ⟨by first | rfl | (simp [errW_none, errW_some] <;> rfl) | (simp [*, errW_none, errW_some] <;> rfl), by repeat (first | (with_reducible first | exact HB.out | apply below_alloc | apply pw_below_drewN | apply below_drew1) | exact HB.out)⟩
    · rw [if_neg c6] at H
      have c6b0 : decide (1048576 < (a2.size : Int)) = false := decide_eq_false c6
      have c6b1 : decide (1048576 < a2.size) = false := decide_eq_false (by omega)
      clear c6
      replace H := Option.bind_eq_some_iff.mp H
      obtain ⟨t176, A70, H⟩ := H
      replace H : (if t176 < 0 then (some true) else ((laws_toPairS.f k l0).bind fun t177 => ((spec_Burn.f t177 a1 a2 a3).bind fun bt180 => ((laws_toPairS.f k l0).bind fun t184 => ((impl_Burn.f t184 a1 a2 a3).bind fun bt187 => ((laws_eqPairS.f k bt187.1 bt180.1).bind fun t191 => (if t191 = true then (laws_FnExactBurn.j0 k l0 a1 a2 a3 bt180.1 bt180.2 t184 bt187.1 bt187.2 (bt187.2 != bt180.2)) else (laws_FnExactBurn.j0 k l0 a1 a2 a3 bt180.1 bt180.2 t184 bt187.1 bt187.2 true)))))))) = some r := H
      have A7 := Aside0.mk A70
      clear A70
      by_cases c8 : t176 < 0
      · rw [if_pos c8] at H
        have c8b0 : decide (t176 < 0) = true := decide_eq_true c8
        clear c8
        obtain rfl := Option.some.inj H
        go_enter Tryz.func3, Tryz.ntmps3
        go_wp2_with (first | ((with_reducible refine gate_callee (f := 7) rfl ?_); refine goesL_ (some 28) rfl rfl Tryz.func7 (by kernel_rfl) rfl #[.slice A0 l0.length c0, .int .i64 1048576] rfl (by (try simp only [List.map_toArray, List.map_cons, List.map_nil]); first | done | rfl | (simp only [List.length_drop, List.length_take]; rfl)) ?_; (with_reducible refine (laws_szPairS.calls k _ _ l0 1048576 t176 _ ?side1 ?side2 A7.out).mono ?_); (case side1 => repeat (first | exact HR0.out | (with_reducible refine Kd.C_alloc ?_ _) | (with_reducible refine Kd.C_drewN ?_ _) | (with_reducible refine Kd.C_drew ?_))); (case side2 => exact HC0.out); rintro e w9 ⟨rfl, hb⟩; refine ⟨_, rfl, ?_⟩; have n0_ := Aside0.mk (below_step (by repeat (first | (with_reducible first | exact HB.out | apply below_alloc | apply pw_below_drewN | apply below_drew1) | exact HB.out)) hb); clear HB; have HB := n0_; clear n0_; (try clear hb); (try clear hb2); (try clear hk); (try clear hi)))
        go_ret
        exact ⟨by first | rfl | (simp [errW_none, errW_some] <;> rfl) | (simp [*, errW_none, errW_some] <;> rfl), by repeat (first | (with_reducible first | exact HB.out | apply below_alloc | apply pw_below_drewN | apply below_drew1) | exact HB.out)⟩
      · rw [if_neg c8] at H
        have c8b0 : decide (t176 < 0) = false := decide_eq_false c8
        clear c8
        replace H := Option.bind_eq_some_iff.mp H
        obtain ⟨t177, A100, H⟩ := H
        replace H : ((spec_Burn.f t177 a1 a2 a3).bind fun bt180 => ((laws_toPairS.f k l0).bind fun t184 => ((impl_Burn.f t184 a1 a2 a3).bind fun bt187 => ((laws_eqPairS.f k bt187.1 bt180.1).bind fun t191 => (if t191 = true then (laws_FnExactBurn.j0 k l0 a1 a2 a3 bt180.1 bt180.2 t184 bt187.1 bt187.2 (bt187.2 != bt180.2)) else (laws_FnExactBurn.j0 k l0 a1 a2 a3 bt180.1 bt180.2 t184 bt187.1 bt187.2 true)))))) = some r := H
        have A10 := Aside0.mk A100
        clear A100
        replace H := Option.bind_eq_some_iff.mp H
        obtain ⟨⟨t180, t181⟩, A110, H⟩ := H
        replace H : ((laws_toPairS.f k l0).bind fun t184 => ((impl_Burn.f t184 a1 a2 a3).bind fun bt187 => ((laws_eqPairS.f k bt187.1 t180).bind fun t191 => (if t191 = true then (laws_FnExactBurn.j0 k l0 a1 a2 a3 t180 t181 t184 bt187.1 bt187.2 (bt187.2 != t181)) else (laws_FnExactBurn.j0 k l0 a1 a2 a3 t180 t181 t184 bt187.1 bt187.2 true))))) = some r := H
        have A11 := Aside0.mk A110
        clear A110
        replace H := Option.bind_eq_some_iff.mp H
        obtain ⟨t184, A120, H⟩ := H
        replace H : ((impl_Burn.f t184 a1 a2 a3).bind fun bt187 => ((laws_eqPairS.f k bt187.1 t180).bind fun t191 => (if t191 = true then (laws_FnExactBurn.j0 k l0 a1 a2 a3 t180 t181 t184 bt187.1 bt187.2 (bt187.2 != t181)) else (laws_FnExactBurn.j0 k l0 a1 a2 a3 t180 t181 t184 bt187.1 bt187.2 true)))) = some r := H
        have A12 := Aside0.mk A120
        clear A120
        replace H := Option.bind_eq_some_iff.mp H
        obtain ⟨⟨t187, t188⟩, A130, H⟩ := H
        replace H : ((laws_eqPairS.f k t187 t180).bind fun t191 => (if t191 = true then (laws_FnExactBurn.j0 k l0 a1 a2 a3 t180 t181 t184 t187 t188 (t188 != t181)) else (laws_FnExactBurn.j0 k l0 a1 a2 a3 t180 t181 t184 t187 t188 true))) = some r := H
        have A13 := Aside0.mk A130
        clear A130
        have HC14 := Aside0.mk H
        clear H
        go_enter Tryz.func3, Tryz.ntmps3
        go_upto_region 12 with (first | ((with_reducible refine gate_callee (f := 7) rfl ?_); refine goesL_ (some 28) rfl rfl Tryz.func7 (by kernel_rfl) rfl #[.slice A0 l0.length c0, .int .i64 1048576] rfl (by (try simp only [List.map_toArray, List.map_cons, List.map_nil]); first | done | rfl | (simp only [List.length_drop, List.length_take]; rfl)) ?_; (with_reducible refine (laws_szPairS.calls k _ _ l0 1048576 t176 _ ?side1 ?side2 A7.out).mono ?_); (case side1 => repeat (first | exact HR0.out | (with_reducible refine Kd.C_alloc ?_ _) | (with_reducible refine Kd.C_drewN ?_ _) | (with_reducible refine Kd.C_drew ?_))); (case side2 => exact HC0.out); rintro e w15 ⟨rfl, hb⟩; refine ⟨_, rfl, ?_⟩; have n0_ := Aside0.mk (below_step (by repeat (first | (with_reducible first | exact HB.out | apply below_alloc | apply pw_below_drewN | apply below_drew1) | exact HB.out)) hb); clear HB; have HB := n0_; clear n0_; (try clear hb); (try clear hb2); (try clear hk); (try clear hi)) | ((with_reducible refine gate_callee (f := 9) rfl ?_); refine goesL_ (some 33) rfl rfl Tryz.func9 (by kernel_rfl) rfl #[.slice A0 l0.length c0] rfl (by (try simp only [List.map_toArray, List.map_cons, List.map_nil]); first | done | rfl | (simp only [List.length_drop, List.length_take]; rfl)) ?_; (with_reducible refine (laws_toPairS.calls k _ _ l0 t177 _ ?side1 ?side2 A10.out).mono ?_); (case side1 => repeat (first | exact (Kd.C_below HR0.out HB.out) | (with_reducible refine Kd.C_alloc ?_ _) | (with_reducible refine Kd.C_drewN ?_ _) | (with_reducible refine Kd.C_drew ?_))); (case side2 => exact HC0.out); rintro e w16 ⟨v178, rfl, ho0, hb⟩; refine ⟨_, rfl, ?_⟩; have n0_ := Aside0.mk (Kd.R_lower ho0 (below_size (by repeat (first | (with_reducible first | exact HB.out | apply below_alloc | apply pw_below_drewN | apply below_drew1) | exact HB.out)))); have n1_ := Aside0.mk (below_step (by repeat (first | (with_reducible first | exact HB.out | apply below_alloc | apply pw_below_drewN | apply below_drew1) | exact HB.out)) hb); clear HB; have HO179 := n0_; have HB := n1_; clear n0_ n1_; (try clear hb); (try clear hb2); (try clear hk); (try clear hi); (try clear ho0); obtain ⟨Ao17, co17, eo17⟩ := Kd.R_slice HO179.out; subst eo17) | ((with_reducible refine gate_callee (f := 8) rfl ?_); refine goesL_ (some 37) rfl rfl Tryz.func8 (by kernel_rfl) rfl #[.slice Ao17 t177.length co17, .string a1, .string a2, .int .i64 a3] rfl (by (try simp only [List.map_toArray, List.map_cons, List.map_nil]); first | done | rfl | (simp only [List.length_drop, List.length_take]; rfl)) ?_; (with_reducible refine (spec_Burn.calls _ _ t177 a1 a2 a3 t180 t181 _ ?side1 ?side2 A11.out).mono ?_); (case side1 => repeat (first | exact (Kd.R_reads' HO179.out).2.2 | (with_reducible refine Kd.C_alloc ?_ _) | (with_reducible refine Kd.C_drewN ?_ _) | (with_reducible refine Kd.C_drew ?_))); (case side2 => exact (Kd.R_reads' HO179.out).2.1); rintro e w18 ⟨v182, rfl, ho0, hb⟩; refine ⟨_, rfl, ?_⟩; have n0_ := Aside0.mk (Kd.R_elder' (by (with_reducible repeat (first | apply Kd.R_alloc | apply Kd.R_drewN | apply Kd.R_drew)); exact HO179.out) (Kd.R_base ho0) hb); have n1_ := Aside0.mk (Kd.R_lower (Kd.R_new' ho0 (Kd.R_lt (by (with_reducible repeat (first | apply Kd.R_alloc | apply Kd.R_drewN | apply Kd.R_drew)); exact HO179.out))) (below_size (by repeat (first | (with_reducible first | exact HB.out | apply below_alloc | apply pw_below_drewN | apply below_drew1) | exact HB.out)))); have n2_ := Aside0.mk (below_step (by repeat (first | (with_reducible first | exact HB.out | apply below_alloc | apply pw_below_drewN | apply below_drew1) | exact HB.out)) hb); clear HO179; clear HB; have HO179 := n0_; have HO183 := n1_; have HB := n2_; clear n0_ n1_ n2_; (try clear hb); (try clear hb2); (try clear hk); (try clear hi); (try clear ho0)) | ((with_reducible refine gate_callee (f := 9) rfl ?_); refine goesL_ (some 41) rfl rfl Tryz.func9 (by kernel_rfl) rfl #[.slice A0 l0.length c0] rfl (by (try simp only [List.map_toArray, List.map_cons, List.map_nil]); first | done | rfl | (simp only [List.length_drop, List.length_take]; rfl)) ?_; (with_reducible refine (laws_toPairS.calls k _ _ l0 t184 _ ?side1 ?side2 A12.out).mono ?_); (case side1 => repeat (first | exact (Kd.C_below HR0.out HB.out) | (with_reducible refine Kd.C_alloc ?_ _) | (with_reducible refine Kd.C_drewN ?_ _) | (with_reducible refine Kd.C_drew ?_))); (case side2 => exact HC0.out); rintro e w19 ⟨v185, rfl, ho0, hb⟩; refine ⟨_, rfl, ?_⟩; have n0_ := Aside0.mk (Kd.R_elder' (by (with_reducible repeat (first | apply Kd.R_alloc | apply Kd.R_drewN | apply Kd.R_drew)); exact HO179.out) (Kd.R_base ho0) hb); have n1_ := Aside0.mk (Kd.R_elder' (by (with_reducible repeat (first | apply Kd.R_alloc | apply Kd.R_drewN | apply Kd.R_drew)); exact HO183.out) (Kd.R_base ho0) hb); have n2_ := Aside0.mk (Kd.R_lower (Kd.R_new' (Kd.R_new' ho0 (Kd.R_lt (by (with_reducible repeat (first | apply Kd.R_alloc | apply Kd.R_drewN | apply Kd.R_drew)); exact HO179.out))) (Kd.R_lt (by (with_reducible repeat (first | apply Kd.R_alloc | apply Kd.R_drewN | apply Kd.R_drew)); exact HO183.out))) (below_size (by repeat (first | (with_reducible first | exact HB.out | apply below_alloc | apply pw_below_drewN | apply below_drew1) | exact HB.out)))); have n3_ := Aside0.mk (below_step (by repeat (first | (with_reducible first | exact HB.out | apply below_alloc | apply pw_below_drewN | apply below_drew1) | exact HB.out)) hb); clear HO179; clear HO183; clear HB; have HO179 := n0_; have HO183 := n1_; have HO186 := n2_; have HB := n3_; clear n0_ n1_ n2_ n3_; (try clear hb); (try clear hb2); (try clear hk); (try clear hi); (try clear ho0); obtain ⟨Ao20, co20, eo20⟩ := Kd.R_slice HO186.out; subst eo20) | ((with_reducible refine gate_callee (f := 10) rfl ?_); refine goesL_ (some 47) rfl rfl Tryz.func10 (by kernel_rfl) rfl #[.slice Ao20 t184.length co20, .string a1, .string a2, .int .i64 a3] rfl (by (try simp only [List.map_toArray, List.map_cons, List.map_nil]); first | done | rfl | (simp only [List.length_drop, List.length_take]; rfl)) ?_; (with_reducible refine (impl_Burn.calls _ _ t184 a1 a2 a3 t187 t188 _ ?side1 ?side2 ?tb1 A13.out).mono ?_); (case tb1 => exact Tb.TB.below HT.out (by repeat (first | (with_reducible first | exact HB.out | apply below_alloc | apply pw_below_drewN | apply below_drew1) | exact HB.out)) (Nat.le_refl _)); (case side1 => repeat (first | exact (Kd.R_reads' HO186.out).2.2 | (with_reducible refine Kd.C_alloc ?_ _) | (with_reducible refine Kd.C_drewN ?_ _) | (with_reducible refine Kd.C_drew ?_))); (case side2 => exact (Kd.R_reads' HO186.out).2.1); rintro e w21 ⟨v189, rfl, ho0, hb⟩; refine ⟨_, rfl, ?_⟩; have n0_ := Aside0.mk (Kd.R_elder' (by (with_reducible repeat (first | apply Kd.R_alloc | apply Kd.R_drewN | apply Kd.R_drew)); exact HO179.out) (Kd.R_base ho0) hb); have n1_ := Aside0.mk (Kd.R_elder' (by (with_reducible repeat (first | apply Kd.R_alloc | apply Kd.R_drewN | apply Kd.R_drew)); exact HO183.out) (Kd.R_base ho0) hb); have n2_ := Aside0.mk (Kd.R_elder' (by (with_reducible repeat (first | apply Kd.R_alloc | apply Kd.R_drewN | apply Kd.R_drew)); exact HO186.out) (Kd.R_base ho0) hb); have n3_ := Aside0.mk (Kd.R_lower (Kd.R_new' (Kd.R_new' (Kd.R_new' ho0 (Kd.R_lt (by (with_reducible repeat (first | apply Kd.R_alloc | apply Kd.R_drewN | apply Kd.R_drew)); exact HO179.out))) (Kd.R_lt (by (with_reducible repeat (first | apply Kd.R_alloc | apply Kd.R_drewN | apply Kd.R_drew)); exact HO183.out))) (Kd.R_lt (by (with_reducible repeat (first | apply Kd.R_alloc | apply Kd.R_drewN | apply Kd.R_drew)); exact HO186.out))) (below_size (by repeat (first | (with_reducible first | exact HB.out | apply below_alloc | apply pw_below_drewN | apply below_drew1) | exact HB.out)))); have n4_ := Aside0.mk (below_step (by repeat (first | (with_reducible first | exact HB.out | apply below_alloc | apply pw_below_drewN | apply below_drew1) | exact HB.out)) hb); clear HO179; clear HO183; clear HO186; clear HB; have HO179 := n0_; have HO183 := n1_; have HO186 := n2_; have HO190 := n3_; have HB := n4_; clear n0_ n1_ n2_ n3_ n4_; (try clear hb); (try clear hb2); (try clear hk); (try clear hi); (try clear ho0)))
        (try simp only [Act.put, List.setIfInBounds_toArray, List.set_cons_zero, List.set_cons_succ])
        go_cut [58] (fun v58 wc => ∃ (kq : Nat) (x58_13 : Bool), v58 = .bool x58_13 ∧ Aside0 (laws_FnExactBurn.j0 kq l0 a1 a2 a3 t180 t181 t184 t187 t188 x58_13 = some r) ∧ Aside0 (kq ≤ k) ∧ Aside0 (Kd.R k56 56 wc w.heap.size (fun k_ => some k_ ≠ ((.slice Ao20 t184.length co20) : Value).ownBlock ∧ some k_ ≠ (v189 : Value).ownBlock) v182 t180) ∧ Aside0 (Kd.R k56 56 wc w.heap.size (fun k_ => some k_ ≠ (v182 : Value).ownBlock ∧ some k_ ≠ (v189 : Value).ownBlock) (.slice Ao20 t184.length co20) t184) ∧ Aside0 (Kd.R k56 56 wc w.heap.size (fun k_ => some k_ ≠ (v182 : Value).ownBlock ∧ some k_ ≠ ((.slice Ao20 t184.length co20) : Value).ownBlock) v189 t187) ∧ Aside0 (Below w.heap.size w wc))
        case first =>
          have H := HC14.out
          clear HC14
          replace H := Option.bind_eq_some_iff.mp H
          obtain ⟨t191, A220, H⟩ := H
          replace H : (if t191 = true then (laws_FnExactBurn.j0 k l0 a1 a2 a3 t180 t181 t184 t187 t188 (t188 != t181)) else (laws_FnExactBurn.j0 k l0 a1 a2 a3 t180 t181 t184 t187 t188 true)) = some r := H
          have A22 := Aside0.mk A220
          clear A220
          by_cases c23 : t191 = true
          · subst c23
            have H1 : (laws_FnExactBurn.j0 k l0 a1 a2 a3 t180 t181 t184 t187 t188 (t188 != t181)) = some r := by rw [if_pos rfl] at H; exact H
            clear H
            have H := H1
            clear H1
            have H' := Aside0.mk H
            clear H
            obtain ⟨Ao24, co24, eo24⟩ := Kd.R_slice HO190.out
            subst eo24
            obtain ⟨Ao25, co25, eo25⟩ := Kd.R_slice HO183.out
            subst eo25
            go_wp2_with (first | ((with_reducible refine gate_callee (f := 11) rfl ?_); refine goesL_ (some 52) rfl rfl Tryz.func11 (by kernel_rfl) rfl #[.slice Ao24 t187.length co24, .slice Ao25 t180.length co25] rfl (by (try simp only [List.map_toArray, List.map_cons, List.map_nil]); first | done | rfl | (simp only [List.length_drop, List.length_take]; rfl)) ?_; (with_reducible refine (laws_eqPairS.calls k _ _ t187 _ _ t180 true _ ?side1 ?side2 ?side3 ?side4 A22.out).mono ?_); (case side1 => repeat (first | exact (Kd.R_reads' HO190.out).2.2 | (with_reducible refine Kd.C_alloc ?_ _) | (with_reducible refine Kd.C_drewN ?_ _) | (with_reducible refine Kd.C_drew ?_))); (case side2 => exact (Kd.R_reads' HO190.out).2.1); (case side3 => repeat (first | exact (Kd.R_reads' HO183.out).2.2 | (with_reducible refine Kd.C_alloc ?_ _) | (with_reducible refine Kd.C_drewN ?_ _) | (with_reducible refine Kd.C_drew ?_))); (case side4 => exact (Kd.R_reads' HO183.out).2.1); rintro e w26 ⟨rfl, hb⟩; refine ⟨_, rfl, ?_⟩; have n0_ := Aside0.mk (Kd.R_below (by (with_reducible repeat (first | apply Kd.R_alloc | apply Kd.R_drewN | apply Kd.R_drew)); exact HO179.out) hb); have n1_ := Aside0.mk (Kd.R_below (by (with_reducible repeat (first | apply Kd.R_alloc | apply Kd.R_drewN | apply Kd.R_drew)); exact HO183.out) hb); have n2_ := Aside0.mk (Kd.R_below (by (with_reducible repeat (first | apply Kd.R_alloc | apply Kd.R_drewN | apply Kd.R_drew)); exact HO186.out) hb); have n3_ := Aside0.mk (Kd.R_below (by (with_reducible repeat (first | apply Kd.R_alloc | apply Kd.R_drewN | apply Kd.R_drew)); exact HO190.out) hb); have n4_ := Aside0.mk (below_step (by repeat (first | (with_reducible first | exact HB.out | apply below_alloc | apply pw_below_drewN | apply below_drew1) | exact HB.out)) hb); clear HO179; clear HO183; clear HO186; clear HO190; clear HB; have HO179 := n0_; have HO183 := n1_; have HO186 := n2_; have HO190 := n3_; have HB := n4_; clear n0_ n1_ n2_ n3_ n4_; (try clear hb); (try clear hb2); (try clear hk); (try clear hi)))
            go_meet
            case rel => exact ⟨_, ((t188 != t181)), (by first | rfl | (simp; done) | (simp [*]; done)), H', ⟨by first | omega | exact Nat.le_refl _⟩, ⟨by (with_reducible repeat (first | apply Kd.R_alloc | apply Kd.R_drewN | apply Kd.R_drew)); exact Kd.R_mono HO183.out (fun _ hk => ⟨hk.1.2, hk.2⟩)⟩, ⟨by (with_reducible repeat (first | apply Kd.R_alloc | apply Kd.R_drewN | apply Kd.R_drew)); exact Kd.R_mono HO186.out (fun _ hk => ⟨hk.1.2, hk.2⟩)⟩, ⟨by (with_reducible repeat (first | apply Kd.R_alloc | apply Kd.R_drewN | apply Kd.R_drew)); exact Kd.R_mono HO190.out (fun _ hk => ⟨hk.1.2, hk.2⟩)⟩, ⟨by repeat (first | (with_reducible first | exact HB.out | apply below_alloc | apply pw_below_drewN | apply below_drew1) | exact HB.out)⟩⟩
          · replace c23 := Bool.eq_false_iff.mpr c23
            subst c23
            have H1 : (laws_FnExactBurn.j0 k l0 a1 a2 a3 t180 t181 t184 t187 t188 true) = some r := by rw [if_neg (show ¬ (false = true) by decide)] at H; exact H
            clear H
            have H := H1
            clear H1
            have H' := Aside0.mk H
            clear H
            obtain ⟨Ao27, co27, eo27⟩ := Kd.R_slice HO190.out
            subst eo27
            obtain ⟨Ao28, co28, eo28⟩ := Kd.R_slice HO183.out
            subst eo28
            go_wp2_with (first | ((with_reducible refine gate_callee (f := 11) rfl ?_); refine goesL_ (some 52) rfl rfl Tryz.func11 (by kernel_rfl) rfl #[.slice Ao27 t187.length co27, .slice Ao28 t180.length co28] rfl (by (try simp only [List.map_toArray, List.map_cons, List.map_nil]); first | done | rfl | (simp only [List.length_drop, List.length_take]; rfl)) ?_; (with_reducible refine (laws_eqPairS.calls k _ _ t187 _ _ t180 false _ ?side1 ?side2 ?side3 ?side4 A22.out).mono ?_); (case side1 => repeat (first | exact (Kd.R_reads' HO190.out).2.2 | (with_reducible refine Kd.C_alloc ?_ _) | (with_reducible refine Kd.C_drewN ?_ _) | (with_reducible refine Kd.C_drew ?_))); (case side2 => exact (Kd.R_reads' HO190.out).2.1); (case side3 => repeat (first | exact (Kd.R_reads' HO183.out).2.2 | (with_reducible refine Kd.C_alloc ?_ _) | (with_reducible refine Kd.C_drewN ?_ _) | (with_reducible refine Kd.C_drew ?_))); (case side4 => exact (Kd.R_reads' HO183.out).2.1); rintro e w29 ⟨rfl, hb⟩; refine ⟨_, rfl, ?_⟩; have n0_ := Aside0.mk (Kd.R_below (by (with_reducible repeat (first | apply Kd.R_alloc | apply Kd.R_drewN | apply Kd.R_drew)); exact HO179.out) hb); have n1_ := Aside0.mk (Kd.R_below (by (with_reducible repeat (first | apply Kd.R_alloc | apply Kd.R_drewN | apply Kd.R_drew)); exact HO183.out) hb); have n2_ := Aside0.mk (Kd.R_below (by (with_reducible repeat (first | apply Kd.R_alloc | apply Kd.R_drewN | apply Kd.R_drew)); exact HO186.out) hb); have n3_ := Aside0.mk (Kd.R_below (by (with_reducible repeat (first | apply Kd.R_alloc | apply Kd.R_drewN | apply Kd.R_drew)); exact HO190.out) hb); have n4_ := Aside0.mk (below_step (by repeat (first | (with_reducible first | exact HB.out | apply below_alloc | apply pw_below_drewN | apply below_drew1) | exact HB.out)) hb); clear HO179; clear HO183; clear HO186; clear HO190; clear HB; have HO179 := n0_; have HO183 := n1_; have HO186 := n2_; have HO190 := n3_; have HB := n4_; clear n0_ n1_ n2_ n3_ n4_; (try clear hb); (try clear hb2); (try clear hk); (try clear hi)))
            go_meet
            case rel => exact ⟨_, (true), (by first | rfl | (simp; done) | (simp [*]; done)), H', ⟨by first | omega | exact Nat.le_refl _⟩, ⟨by (with_reducible repeat (first | apply Kd.R_alloc | apply Kd.R_drewN | apply Kd.R_drew)); exact Kd.R_mono HO183.out (fun _ hk => ⟨hk.1.2, hk.2⟩)⟩, ⟨by (with_reducible repeat (first | apply Kd.R_alloc | apply Kd.R_drewN | apply Kd.R_drew)); exact Kd.R_mono HO186.out (fun _ hk => ⟨hk.1.2, hk.2⟩)⟩, ⟨by (with_reducible repeat (first | apply Kd.R_alloc | apply Kd.R_drewN | apply Kd.R_drew)); exact Kd.R_mono HO190.out (fun _ hk => ⟨hk.1.2, hk.2⟩)⟩, ⟨by repeat (first | (with_reducible first | exact HB.out | apply below_alloc | apply pw_below_drewN | apply below_drew1) | exact HB.out)⟩⟩
        case rest =>
          clear HC14
          try clear c1
          try clear c2
          try clear p2
          try clear c3
          try clear c5
          try clear c5b0
          try clear c5b1
          try clear c6
          try clear c6b0
          try clear c6b1
          try clear c7
          try clear c8
          try clear c8b0
          try clear c9
          try clear c10
          try clear c11
          try clear c23
          obtain ⟨kq, x58_13, rfl, HA, HJ13, HO_10, HO_12, HO_13, HB⟩ := hcut
          cases kq with
          | zero => exact absurd HA.out (by simp [laws_FnExactBurn.j0])
          | succ kj13 =>
            have H := HA.out
            clear HA
            simp only [laws_FnExactBurn.j0] at H
            by_cases c30 : x58_13 = true
            · subst c30
              have H1 : (some false) = some r := by rw [if_pos rfl] at H; exact H
              clear H
              have H := H1
              clear H1
              obtain rfl := Option.some.inj H
              go_wp2
              go_ret
              exact ⟨by first | rfl | (simp [errW_none, errW_some] <;> rfl) | (simp [*, errW_none, errW_some] <;> rfl), by repeat (first | (with_reducible first | exact HB.out | apply below_alloc | apply pw_below_drewN | apply below_drew1) | exact HB.out)⟩
            · replace c30 := Bool.eq_false_iff.mpr c30
              subst c30
              have H1 : ((laws_toPairS.f kj13 l0).bind fun t192 => ((laws_eqPairS.f kj13 t184 t192).bind fun t195 => (if t195 = true then ((laws_markPairS.f kj13 t184 1).bind fun bt196 => (if bt196.1 < 0 then (laws_FnExactBurn.j1 kj13 l0 a1 a2 a3 t180 t181 t187 true) else ((laws_eqPairS.f kj13 t187 t180).bind fun t198 => (if t198 = true then (laws_FnExactBurn.j1 kj13 l0 a1 a2 a3 t180 t181 t187 (t188 != t181)) else (laws_FnExactBurn.j1 kj13 l0 a1 a2 a3 t180 t181 t187 true))))) else (some false)))) = some r := by rw [if_neg (show ¬ (false = true) by decide)] at H; exact H
              clear H
              have H := H1
              clear H1
              replace H := Option.bind_eq_some_iff.mp H
              obtain ⟨t192, A310, H⟩ := H
              replace H : ((laws_eqPairS.f kj13 t184 t192).bind fun t195 => (if t195 = true then ((laws_markPairS.f kj13 t184 1).bind fun bt196 => (if bt196.1 < 0 then (laws_FnExactBurn.j1 kj13 l0 a1 a2 a3 t180 t181 t187 true) else ((laws_eqPairS.f kj13 t187 t180).bind fun t198 => (if t198 = true then (laws_FnExactBurn.j1 kj13 l0 a1 a2 a3 t180 t181 t187 (t188 != t181)) else (laws_FnExactBurn.j1 kj13 l0 a1 a2 a3 t180 t181 t187 true))))) else (some false))) = some r := H
              have A31 := Aside0.mk A310
              clear A310
              replace H := Option.bind_eq_some_iff.mp H
              obtain ⟨t195, A320, H⟩ := H
              replace H : (if t195 = true then ((laws_markPairS.f kj13 t184 1).bind fun bt196 => (if bt196.1 < 0 then (laws_FnExactBurn.j1 kj13 l0 a1 a2 a3 t180 t181 t187 true) else ((laws_eqPairS.f kj13 t187 t180).bind fun t198 => (if t198 = true then (laws_FnExactBurn.j1 kj13 l0 a1 a2 a3 t180 t181 t187 (t188 != t181)) else (laws_FnExactBurn.j1 kj13 l0 a1 a2 a3 t180 t181 t187 true))))) else (some false)) = some r := H
              have A32 := Aside0.mk A320
              clear A320
              by_cases c33 : t195 = true
              · subst c33
                have H1 : ((laws_markPairS.f kj13 t184 1).bind fun bt196 => (if bt196.1 < 0 then (laws_FnExactBurn.j1 kj13 l0 a1 a2 a3 t180 t181 t187 true) else ((laws_eqPairS.f kj13 t187 t180).bind fun t198 => (if t198 = true then (laws_FnExactBurn.j1 kj13 l0 a1 a2 a3 t180 t181 t187 (t188 != t181)) else (laws_FnExactBurn.j1 kj13 l0 a1 a2 a3 t180 t181 t187 true))))) = some r := by rw [if_pos rfl] at H; exact H
                clear H
                have H := H1
                clear H1
                replace H := Option.bind_eq_some_iff.mp H
                obtain ⟨⟨t196, t197⟩, A340, H⟩ := H
                replace H : (if t196 < 0 then (laws_FnExactBurn.j1 kj13 l0 a1 a2 a3 t180 t181 t187 true) else ((laws_eqPairS.f kj13 t187 t180).bind fun t198 => (if t198 = true then (laws_FnExactBurn.j1 kj13 l0 a1 a2 a3 t180 t181 t187 (t188 != t181)) else (laws_FnExactBurn.j1 kj13 l0 a1 a2 a3 t180 t181 t187 true)))) = some r := H
                have A34 := Aside0.mk A340
                clear A340
                have HC35 := Aside0.mk H
                clear H
                go_upto_region 18 with (first | ((with_reducible refine gate_callee (f := 9) rfl ?_); refine goesL_ (some 61) rfl rfl Tryz.func9 (by kernel_rfl) rfl #[.slice A0 l0.length c0] rfl (by (try simp only [List.map_toArray, List.map_cons, List.map_nil]); first | done | rfl | (simp only [List.length_drop, List.length_take]; rfl)) ?_; (with_reducible refine (laws_toPairS.calls kj13 _ _ l0 t192 _ ?side1 ?side2 A31.out).mono ?_); (case side1 => repeat (first | exact (Kd.C_below HR0.out HB.out) | (with_reducible refine Kd.C_alloc ?_ _) | (with_reducible refine Kd.C_drewN ?_ _) | (with_reducible refine Kd.C_drew ?_))); (case side2 => exact HC0.out); rintro e w36 ⟨v193, rfl, ho0, hb⟩; refine ⟨_, rfl, ?_⟩; have n0_ := Aside0.mk (Kd.R_elder' (by (with_reducible repeat (first | apply Kd.R_alloc | apply Kd.R_drewN | apply Kd.R_drew)); exact HO_10.out) (Kd.R_base ho0) hb); have n1_ := Aside0.mk (Kd.R_elder' (by (with_reducible repeat (first | apply Kd.R_alloc | apply Kd.R_drewN | apply Kd.R_drew)); exact HO_12.out) (Kd.R_base ho0) hb); have n2_ := Aside0.mk (Kd.R_elder' (by (with_reducible repeat (first | apply Kd.R_alloc | apply Kd.R_drewN | apply Kd.R_drew)); exact HO_13.out) (Kd.R_base ho0) hb); have n3_ := Aside0.mk (Kd.R_lower (Kd.R_new' (Kd.R_new' (Kd.R_new' ho0 (Kd.R_lt (by (with_reducible repeat (first | apply Kd.R_alloc | apply Kd.R_drewN | apply Kd.R_drew)); exact HO_10.out))) (Kd.R_lt (by (with_reducible repeat (first | apply Kd.R_alloc | apply Kd.R_drewN | apply Kd.R_drew)); exact HO_12.out))) (Kd.R_lt (by (with_reducible repeat (first | apply Kd.R_alloc | apply Kd.R_drewN | apply Kd.R_drew)); exact HO_13.out))) (below_size (by repeat (first | (with_reducible first | exact HB.out | apply below_alloc | apply pw_below_drewN | apply below_drew1) | exact HB.out)))); have n4_ := Aside0.mk (below_step (by repeat (first | (with_reducible first | exact HB.out | apply below_alloc | apply pw_below_drewN | apply below_drew1) | exact HB.out)) hb); clear HO_10; clear HO_12; clear HO_13; clear HB; have HO_10 := n0_; have HO_12 := n1_; have HO_13 := n2_; have HO194 := n3_; have HB := n4_; clear n0_ n1_ n2_ n3_ n4_; (try clear hb); (try clear hb2); (try clear hk); (try clear hi); (try clear ho0); obtain ⟨Ao37, co37, eo37⟩ := Kd.R_slice HO194.out; subst eo37) | ((with_reducible refine gate_callee (f := 11) rfl ?_); refine goesL_ (some 62) rfl rfl Tryz.func11 (by kernel_rfl) rfl #[.slice Ao20 t184.length co20, .slice Ao37 t192.length co37] rfl (by (try simp only [List.map_toArray, List.map_cons, List.map_nil]); first | done | rfl | (simp only [List.length_drop, List.length_take]; rfl)) ?_; (with_reducible refine (laws_eqPairS.calls kj13 _ _ t184 _ _ t192 true _ ?side1 ?side2 ?side3 ?side4 A32.out).mono ?_); (case side1 => repeat (first | exact (Kd.R_reads' HO_12.out).2.2 | (with_reducible refine Kd.C_alloc ?_ _) | (with_reducible refine Kd.C_drewN ?_ _) | (with_reducible refine Kd.C_drew ?_))); (case side2 => exact (Kd.R_reads' HO_12.out).2.1); (case side3 => repeat (first | exact (Kd.R_reads' HO194.out).2.2 | (with_reducible refine Kd.C_alloc ?_ _) | (with_reducible refine Kd.C_drewN ?_ _) | (with_reducible refine Kd.C_drew ?_))); (case side4 => exact (Kd.R_reads' HO194.out).2.1); rintro e w38 ⟨rfl, hb⟩; refine ⟨_, rfl, ?_⟩; have n0_ := Aside0.mk (Kd.R_below (by (with_reducible repeat (first | apply Kd.R_alloc | apply Kd.R_drewN | apply Kd.R_drew)); exact HO_10.out) hb); have n1_ := Aside0.mk (Kd.R_below (by (with_reducible repeat (first | apply Kd.R_alloc | apply Kd.R_drewN | apply Kd.R_drew)); exact HO_12.out) hb); have n2_ := Aside0.mk (Kd.R_below (by (with_reducible repeat (first | apply Kd.R_alloc | apply Kd.R_drewN | apply Kd.R_drew)); exact HO_13.out) hb); have n3_ := Aside0.mk (Kd.R_below (by (with_reducible repeat (first | apply Kd.R_alloc | apply Kd.R_drewN | apply Kd.R_drew)); exact HO194.out) hb); have n4_ := Aside0.mk (below_step (by repeat (first | (with_reducible first | exact HB.out | apply below_alloc | apply pw_below_drewN | apply below_drew1) | exact HB.out)) hb); clear HO_10; clear HO_12; clear HO_13; clear HO194; clear HB; have HO_10 := n0_; have HO_12 := n1_; have HO_13 := n2_; have HO194 := n3_; have HB := n4_; clear n0_ n1_ n2_ n3_ n4_; (try clear hb); (try clear hb2); (try clear hk); (try clear hi)) | ((with_reducible refine gate_callee (f := 12) rfl ?_); refine goesL_ (some 66) rfl rfl Tryz.func12 (by kernel_rfl) rfl #[.slice Ao20 t184.length co20, .int .i64 1] rfl (by (try simp only [List.map_toArray, List.map_cons, List.map_nil]); first | done | rfl | (simp only [List.length_drop, List.length_take]; rfl)) ?_; (with_reducible refine (laws_markPairS.calls kj13 (fun k_ => some k_ = (.slice Ao20 t184.length co20 : Value).ownBlock) (.slice Ao20 t184.length co20) t184 1 t196 t197 w _ ?side1 ?side2 A34.out).mono ?_); (case side1 => repeat (first | (with_reducible first | exact HB.out | apply below_alloc | apply pw_below_drewN | apply below_drew1) | exact HB.out)); (case side2 => exact Kd.R_tight rfl HO_12.out); rintro e w39 ⟨rfl, hy0, hb, hkp⟩; refine ⟨_, rfl, ?_⟩; have n0_ := Aside0.mk (Kd.R_mono (ok' := fun k_ => some k_ ≠ (.slice Ao20 t184.length co20 : Value).ownBlock ∧ some k_ ≠ (v189 : Value).ownBlock ∧ some k_ ≠ (.slice Ao37 t192.length co37 : Value).ownBlock) (Kd.R_keptB (HO_10.out) hkp (fun k_ hk_ hs_ => (hk_.1.1) hs_)) (fun k_ hk_ => ⟨hk_.1.1.1, hk_.1.1.2, hk_.1.2⟩)); have n1_ := Aside0.mk (Kd.R_reok rfl hy0 (fun k_ e_ => HO_12.out.1 k_ e_)); have n2_ := Aside0.mk (Kd.R_mono (ok' := fun k_ => some k_ ≠ (v182 : Value).ownBlock ∧ some k_ ≠ (.slice Ao20 t184.length co20 : Value).ownBlock ∧ some k_ ≠ (.slice Ao37 t192.length co37 : Value).ownBlock) (Kd.R_keptB (HO_13.out) hkp (fun k_ hk_ hs_ => (hk_.1.2) hs_)) (fun k_ hk_ => ⟨hk_.1.1.1, hk_.1.1.2, hk_.1.2⟩)); have n3_ := Aside0.mk (Kd.R_mono (ok' := fun k_ => some k_ ≠ (v182 : Value).ownBlock ∧ some k_ ≠ (.slice Ao20 t184.length co20 : Value).ownBlock ∧ some k_ ≠ (v189 : Value).ownBlock) (Kd.R_keptB (HO194.out) hkp (fun k_ hk_ hs_ => (hk_.1.2) hs_)) (fun k_ hk_ => ⟨hk_.1.1.1.2, hk_.1.1.2, hk_.1.2⟩)); have n4_ := Aside0.mk (hb); clear HO_10; clear HO_12; clear HO_13; clear HO194; clear HB; have HO_10 := n0_; have HO_12 := n1_; have HO_13 := n2_; have HO194 := n3_; have HB := n4_; clear n0_ n1_ n2_ n3_ n4_; (try clear hb); (try clear hkp); (try clear hy0)))
                (try simp only [Act.put, List.setIfInBounds_toArray, List.set_cons_zero, List.set_cons_succ])
                go_cut [79] (fun v79 wc => ∃ (kq : Nat) (x79_34 : Bool), v79 = .bool x79_34 ∧ Aside0 (laws_FnExactBurn.j1 kq l0 a1 a2 a3 t180 t181 t187 x79_34 = some r) ∧ Aside0 (kq ≤ kj13) ∧ Aside0 (Kd.R k56 56 wc w.heap.size (fun k_ => some k_ ≠ (v189 : Value).ownBlock) v182 t180) ∧ Aside0 (Kd.R k56 56 wc w.heap.size (fun k_ => some k_ ≠ (v182 : Value).ownBlock) v189 t187) ∧ Aside0 (Below w.heap.size w wc))
                case first =>
                  have H := HC35.out
                  clear HC35
                  by_cases c40 : t196 < 0
                  · rw [if_pos c40] at H
                    have c40b0 : decide (t196 < 0) = true := decide_eq_true c40
                    clear c40
                    (first | rw [c40b0] | (simp only [i64_w, i32_w]; rw [c40b0]) | skip)
                    have H' := Aside0.mk H
                    clear H
                    go_wp2
                    go_meet
                    case rel => exact ⟨_, (true), (by first | rfl | (simp; done) | (simp [*]; done)), H', ⟨by have := HJ13.out; first | omega | exact Nat.le_refl _⟩, ⟨by (with_reducible repeat (first | apply Kd.R_alloc | apply Kd.R_drewN | apply Kd.R_drew)); exact Kd.R_mono HO_10.out (fun _ hk => hk.2.1)⟩, ⟨by (with_reducible repeat (first | apply Kd.R_alloc | apply Kd.R_drewN | apply Kd.R_drew)); exact Kd.R_mono HO_13.out (fun _ hk => hk.1)⟩, ⟨by repeat (first | (with_reducible first | exact HB.out | apply below_alloc | apply pw_below_drewN | apply below_drew1) | exact HB.out)⟩⟩
                  · rw [if_neg c40] at H
                    have c40b0 : decide (t196 < 0) = false := decide_eq_false c40
                    clear c40
                    (first | rw [c40b0] | (simp only [i64_w, i32_w]; rw [c40b0]) | skip)
                    replace H := Option.bind_eq_some_iff.mp H
                    obtain ⟨t198, A410, H⟩ := H
                    replace H : (if t198 = true then (laws_FnExactBurn.j1 kj13 l0 a1 a2 a3 t180 t181 t187 (t188 != t181)) else (laws_FnExactBurn.j1 kj13 l0 a1 a2 a3 t180 t181 t187 true)) = some r := H
                    have A41 := Aside0.mk A410
                    clear A410
                    by_cases c42 : t198 = true
                    · subst c42
                      have H1 : (laws_FnExactBurn.j1 kj13 l0 a1 a2 a3 t180 t181 t187 (t188 != t181)) = some r := by rw [if_pos rfl] at H; exact H
                      clear H
                      have H := H1
                      clear H1
                      have H' := Aside0.mk H
                      clear H
                      obtain ⟨Ao43, co43, eo43⟩ := Kd.R_slice HO_13.out
                      subst eo43
                      obtain ⟨Ao44, co44, eo44⟩ := Kd.R_slice HO_10.out
                      subst eo44
                      go_wp2_with (first | (go_at_call 11; (with_reducible refine (laws_eqPairS.calls kj13 _ _ t187 _ _ t180 true _ ?side1 ?side2 ?side3 ?side4 A41.out).mono ?_); (case side1 => repeat (first | exact (Kd.R_reads' HO_13.out).2.2 | (with_reducible refine Kd.C_alloc ?_ _) | (with_reducible refine Kd.C_drewN ?_ _) | (with_reducible refine Kd.C_drew ?_))); (case side2 => exact (Kd.R_reads' HO_13.out).2.1); (case side3 => repeat (first | exact (Kd.R_reads' HO_10.out).2.2 | (with_reducible refine Kd.C_alloc ?_ _) | (with_reducible refine Kd.C_drewN ?_ _) | (with_reducible refine Kd.C_drew ?_))); (case side4 => exact (Kd.R_reads' HO_10.out).2.1); rintro e w45 ⟨rfl, hb⟩; have n0_ := Aside0.mk (Kd.R_below (by (with_reducible repeat (first | apply Kd.R_alloc | apply Kd.R_drewN | apply Kd.R_drew)); exact HO_10.out) hb); have n1_ := Aside0.mk (Kd.R_below (by (with_reducible repeat (first | apply Kd.R_alloc | apply Kd.R_drewN | apply Kd.R_drew)); exact HO_12.out) hb); have n2_ := Aside0.mk (Kd.R_below (by (with_reducible repeat (first | apply Kd.R_alloc | apply Kd.R_drewN | apply Kd.R_drew)); exact HO_13.out) hb); have n3_ := Aside0.mk (Kd.R_below (by (with_reducible repeat (first | apply Kd.R_alloc | apply Kd.R_drewN | apply Kd.R_drew)); exact HO194.out) hb); have n4_ := Aside0.mk (below_step (by repeat (first | (with_reducible first | exact HB.out | apply below_alloc | apply pw_below_drewN | apply below_drew1) | exact HB.out)) hb); clear HO_10; clear HO_12; clear HO_13; clear HO194; clear HB; have HO_10 := n0_; have HO_12 := n1_; have HO_13 := n2_; have HO194 := n3_; have HB := n4_; clear n0_ n1_ n2_ n3_ n4_; (try clear hb); (try clear hb2); (try clear hk); (try clear hi)))
                      go_meet
                      case rel => exact ⟨_, ((t188 != t181)), (by first | rfl | (simp; done) | (simp [*]; done)), H', ⟨by have := HJ13.out; first | omega | exact Nat.le_refl _⟩, ⟨by (with_reducible repeat (first | apply Kd.R_alloc | apply Kd.R_drewN | apply Kd.R_drew)); exact Kd.R_mono HO_10.out (fun _ hk => hk.2.1)⟩, ⟨by (with_reducible repeat (first | apply Kd.R_alloc | apply Kd.R_drewN | apply Kd.R_drew)); exact Kd.R_mono HO_13.out (fun _ hk => hk.1)⟩, ⟨by repeat (first | (with_reducible first | exact HB.out | apply below_alloc | apply pw_below_drewN | apply below_drew1) | exact HB.out)⟩⟩
                    · replace c42 := Bool.eq_false_iff.mpr c42
                      subst c42
                      have H1 : (laws_FnExactBurn.j1 kj13 l0 a1 a2 a3 t180 t181 t187 true) = some r := by rw [if_neg (show ¬ (false = true) by decide)] at H; exact H
                      clear H
                      have H := H1
                      clear H1
                      have H' := Aside0.mk H
                      clear H
                      obtain ⟨Ao46, co46, eo46⟩ := Kd.R_slice HO_13.out
                      subst eo46
                      obtain ⟨Ao47, co47, eo47⟩ := Kd.R_slice HO_10.out
                      subst eo47
                      go_wp2_with (first | (go_at_call 11; (with_reducible refine (laws_eqPairS.calls kj13 _ _ t187 _ _ t180 false _ ?side1 ?side2 ?side3 ?side4 A41.out).mono ?_); (case side1 => repeat (first | exact (Kd.R_reads' HO_13.out).2.2 | (with_reducible refine Kd.C_alloc ?_ _) | (with_reducible refine Kd.C_drewN ?_ _) | (with_reducible refine Kd.C_drew ?_))); (case side2 => exact (Kd.R_reads' HO_13.out).2.1); (case side3 => repeat (first | exact (Kd.R_reads' HO_10.out).2.2 | (with_reducible refine Kd.C_alloc ?_ _) | (with_reducible refine Kd.C_drewN ?_ _) | (with_reducible refine Kd.C_drew ?_))); (case side4 => exact (Kd.R_reads' HO_10.out).2.1); rintro e w48 ⟨rfl, hb⟩; have n0_ := Aside0.mk (Kd.R_below (by (with_reducible repeat (first | apply Kd.R_alloc | apply Kd.R_drewN | apply Kd.R_drew)); exact HO_10.out) hb); have n1_ := Aside0.mk (Kd.R_below (by (with_reducible repeat (first | apply Kd.R_alloc | apply Kd.R_drewN | apply Kd.R_drew)); exact HO_12.out) hb); have n2_ := Aside0.mk (Kd.R_below (by (with_reducible repeat (first | apply Kd.R_alloc | apply Kd.R_drewN | apply Kd.R_drew)); exact HO_13.out) hb); have n3_ := Aside0.mk (Kd.R_below (by (with_reducible repeat (first | apply Kd.R_alloc | apply Kd.R_drewN | apply Kd.R_drew)); exact HO194.out) hb); have n4_ := Aside0.mk (below_step (by repeat (first | (with_reducible first | exact HB.out | apply below_alloc | apply pw_below_drewN | apply below_drew1) | exact HB.out)) hb); clear HO_10; clear HO_12; clear HO_13; clear HO194; clear HB; have HO_10 := n0_; have HO_12 := n1_; have HO_13 := n2_; have HO194 := n3_; have HB := n4_; clear n0_ n1_ n2_ n3_ n4_; (try clear hb); (try clear hb2); (try clear hk); (try clear hi)))
                      go_meet
                      case rel => exact ⟨_, (true), (by first | rfl | (simp; done) | (simp [*]; done)), H', ⟨by have := HJ13.out; first | omega | exact Nat.le_refl _⟩, ⟨by (with_reducible repeat (first | apply Kd.R_alloc | apply Kd.R_drewN | apply Kd.R_drew)); exact Kd.R_mono HO_10.out (fun _ hk => hk.2.1)⟩, ⟨by (with_reducible repeat (first | apply Kd.R_alloc | apply Kd.R_drewN | apply Kd.R_drew)); exact Kd.R_mono HO_13.out (fun _ hk => hk.1)⟩, ⟨by repeat (first | (with_reducible first | exact HB.out | apply below_alloc | apply pw_below_drewN | apply below_drew1) | exact HB.out)⟩⟩
                case rest =>
                  clear HC35
                  try clear c1
                  try clear c2
                  try clear p2
                  try clear c3
                  try clear c4
                  try clear c5
                  try clear c5b0
                  try clear c5b1
                  try clear c6
                  try clear c6b0
                  try clear c6b1
                  try clear c7
                  try clear c8
                  try clear c8b0
                  try clear c9
                  try clear c10
                  try clear c11
                  try clear c12
                  try clear c23
                  try clear c30
                  try clear c33
                  try clear c40
                  try clear c40b0
                  try clear c42
                  try clear p2
                  obtain ⟨kq, x79_34, rfl, HA, HJ34, HO_10, HO_13, HB⟩ := hcut
                  cases kq with
                  | zero => exact absurd HA.out (by simp [laws_FnExactBurn.j1])
                  | succ kj34 =>
                    have H := HA.out
                    clear HA
                    simp only [laws_FnExactBurn.j1] at H
                    by_cases c49 : x79_34 = true
                    · subst c49
                      have H1 : (some false) = some r := by rw [if_pos rfl] at H; exact H
                      clear H
                      have H := H1
                      clear H1
                      obtain rfl := Option.some.inj H
                      go_wp2
                      go_ret
                      exact ⟨by first | rfl | (simp [errW_none, errW_some] <;> rfl) | (simp [*, errW_none, errW_some] <;> rfl), by repeat (first | (with_reducible first | exact HB.out | apply below_alloc | apply pw_below_drewN | apply below_drew1) | exact HB.out)⟩
                    · replace c49 := Bool.eq_false_iff.mpr c49
                      subst c49
                      have H1 : ((laws_markPairS.f kj34 t187 1).bind fun bt199 => ((laws_heldPairS.f kj34 bt199.2 1).bind fun t201 => (if t201 < 0 then (some false) else (if t201 = bt199.1 then ((laws_toPairS.f kj34 l0).bind fun t202 => ((impl_Burn.f t202 a1 a2 a3).bind fun bt205 => ((laws_eqPairS.f kj34 bt205.1 t180).bind fun t209 => (if t209 = true then (laws_FnExactBurn.j2 kj34 bt199.2 bt199.1 (bt205.2 != t181)) else (laws_FnExactBurn.j2 kj34 bt199.2 bt199.1 true))))) else (some false))))) = some r := by rw [if_neg (show ¬ (false = true) by decide)] at H; exact H
                      clear H
                      have H := H1
                      clear H1
                      replace H := Option.bind_eq_some_iff.mp H
                      obtain ⟨⟨t199, t200⟩, A500, H⟩ := H
                      replace H : ((laws_heldPairS.f kj34 t200 1).bind fun t201 => (if t201 < 0 then (some false) else (if t201 = t199 then ((laws_toPairS.f kj34 l0).bind fun t202 => ((impl_Burn.f t202 a1 a2 a3).bind fun bt205 => ((laws_eqPairS.f kj34 bt205.1 t180).bind fun t209 => (if t209 = true then (laws_FnExactBurn.j2 kj34 t200 t199 (bt205.2 != t181)) else (laws_FnExactBurn.j2 kj34 t200 t199 true))))) else (some false)))) = some r := H
                      have A50 := Aside0.mk A500
                      clear A500
                      replace H := Option.bind_eq_some_iff.mp H
                      obtain ⟨t201, A510, H⟩ := H
                      replace H : (if t201 < 0 then (some false) else (if t201 = t199 then ((laws_toPairS.f kj34 l0).bind fun t202 => ((impl_Burn.f t202 a1 a2 a3).bind fun bt205 => ((laws_eqPairS.f kj34 bt205.1 t180).bind fun t209 => (if t209 = true then (laws_FnExactBurn.j2 kj34 t200 t199 (bt205.2 != t181)) else (laws_FnExactBurn.j2 kj34 t200 t199 true))))) else (some false))) = some r := H
                      have A51 := Aside0.mk A510
                      clear A510
                      by_cases c52 : t201 < 0
                      · rw [if_pos c52] at H
                        have c52b0 : decide (t201 < 0) = true := decide_eq_true c52
                        clear c52
                        obtain rfl := Option.some.inj H
                        obtain ⟨Ao53, co53, eo53⟩ := Kd.R_slice HO_13.out
                        subst eo53
                        go_wp2_with (first | ((with_reducible refine gate_callee (f := 12) rfl ?_); refine goesL_ (some 82) rfl rfl Tryz.func12 (by kernel_rfl) rfl #[.slice Ao53 t187.length co53, .int .i64 1] rfl (by (try simp only [List.map_toArray, List.map_cons, List.map_nil]); first | done | rfl | (simp only [List.length_drop, List.length_take]; rfl)) ?_; (with_reducible refine (laws_markPairS.calls kj34 (fun k_ => some k_ = (.slice Ao53 t187.length co53 : Value).ownBlock) (.slice Ao53 t187.length co53) t187 1 t199 t200 w _ ?side1 ?side2 A50.out).mono ?_); (case side1 => repeat (first | (with_reducible first | exact HB.out | apply below_alloc | apply pw_below_drewN | apply below_drew1) | exact HB.out)); (case side2 => exact Kd.R_tight rfl HO_13.out); rintro e w54 ⟨rfl, hy0, hb, hkp⟩; refine ⟨_, rfl, ?_⟩; have n0_ := Aside0.mk (Kd.R_mono (ok' := fun k_ => some k_ ≠ (.slice Ao53 t187.length co53 : Value).ownBlock) (Kd.R_keptB (HO_10.out) hkp (fun k_ hk_ hs_ => (hk_) hs_)) (fun k_ hk_ => hk_.1)); have n1_ := Aside0.mk (Kd.R_reok rfl hy0 (fun k_ e_ => HO_13.out.1 k_ e_)); have n2_ := Aside0.mk (hb); clear HO_10; clear HO_13; clear HB; have HO_10 := n0_; have HO_13 := n1_; have HB := n2_; clear n0_ n1_ n2_; (try clear hb); (try clear hkp); (try clear hy0)) | ((with_reducible refine gate_callee (f := 13) rfl ?_); refine goesL_ (some 85) rfl rfl Tryz.func13 (by kernel_rfl) rfl #[.slice Ao53 t200.length co53, .int .i64 1] rfl (by (try simp only [List.map_toArray, List.map_cons, List.map_nil]); first | done | (rw [show t200.length = t187.length from (Kd.R_reads' HO_13.out).1.symm] <;> rfl) | rfl | (simp only [List.length_drop, List.length_take]; rfl)) ?_; (with_reducible refine (laws_heldPairS.calls kj34 _ _ t200 1 t201 _ ?side1 ?side2 A51.out).mono ?_); (case side1 => repeat (first | exact (Kd.R_reads' HO_13.out).2.2 | (with_reducible refine Kd.C_alloc ?_ _) | (with_reducible refine Kd.C_drewN ?_ _) | (with_reducible refine Kd.C_drew ?_))); (case side2 => rw [show t200.length = t187.length from (Kd.R_reads' HO_13.out).1.symm]; exact (Kd.R_reads' HO_13.out).2.1); rintro e w55 ⟨rfl, hb⟩; refine ⟨_, rfl, ?_⟩; have n0_ := Aside0.mk (Kd.R_below (by (with_reducible repeat (first | apply Kd.R_alloc | apply Kd.R_drewN | apply Kd.R_drew)); exact HO_10.out) hb); have n1_ := Aside0.mk (Kd.R_below (by (with_reducible repeat (first | apply Kd.R_alloc | apply Kd.R_drewN | apply Kd.R_drew)); exact HO_13.out) hb); have n2_ := Aside0.mk (below_step (by repeat (first | (with_reducible first | exact HB.out | apply below_alloc | apply pw_below_drewN | apply below_drew1) | exact HB.out)) hb); clear HO_10; clear HO_13; clear HB; have HO_10 := n0_; have HO_13 := n1_; have HB := n2_; clear n0_ n1_ n2_; (try clear hb); (try clear hb2); (try clear hk); (try clear hi)))
                        go_ret
                        exact ⟨by first | rfl | (simp [errW_none, errW_some] <;> rfl) | (simp [*, errW_none, errW_some] <;> rfl), by repeat (first | (with_reducible first | exact HB.out | apply below_alloc | apply pw_below_drewN | apply below_drew1) | exact HB.out)⟩
                      · rw [if_neg c52] at H
                        have c52b0 : decide (t201 < 0) = false := decide_eq_false c52
                        clear c52
                        by_cases c56 : t201 = t199
                        · rw [if_pos c56] at H
                          have c56b0 : (t201 == t199) = true := beq_iff_eq.mpr c56
                          have c56b1 : (t201 != t199) = false := bne_eq_false_iff_eq.mpr c56
                          clear c56
                          replace H := Option.bind_eq_some_iff.mp H
                          obtain ⟨t202, A570, H⟩ := H
                          replace H : ((impl_Burn.f t202 a1 a2 a3).bind fun bt205 => ((laws_eqPairS.f kj34 bt205.1 t180).bind fun t209 => (if t209 = true then (laws_FnExactBurn.j2 kj34 t200 t199 (bt205.2 != t181)) else (laws_FnExactBurn.j2 kj34 t200 t199 true)))) = some r := H
                          have A57 := Aside0.mk A570
                          clear A570
                          replace H := Option.bind_eq_some_iff.mp H
                          obtain ⟨⟨t205, t206⟩, A580, H⟩ := H
                          replace H : ((laws_eqPairS.f kj34 t205 t180).bind fun t209 => (if t209 = true then (laws_FnExactBurn.j2 kj34 t200 t199 (t206 != t181)) else (laws_FnExactBurn.j2 kj34 t200 t199 true))) = some r := H
                          have A58 := Aside0.mk A580
                          clear A580
                          have HC59 := Aside0.mk H
                          clear H
                          obtain ⟨Ao60, co60, eo60⟩ := Kd.R_slice HO_13.out
                          subst eo60
                          go_upto_region 29 with (first | ((with_reducible refine gate_callee (f := 12) rfl ?_); refine goesL_ (some 82) rfl rfl Tryz.func12 (by kernel_rfl) rfl #[.slice Ao60 t187.length co60, .int .i64 1] rfl (by (try simp only [List.map_toArray, List.map_cons, List.map_nil]); first | done | rfl | (simp only [List.length_drop, List.length_take]; rfl)) ?_; (with_reducible refine (laws_markPairS.calls kj34 (fun k_ => some k_ = (.slice Ao60 t187.length co60 : Value).ownBlock) (.slice Ao60 t187.length co60) t187 1 t199 t200 w _ ?side1 ?side2 A50.out).mono ?_); (case side1 => repeat (first | (with_reducible first | exact HB.out | apply below_alloc | apply pw_below_drewN | apply below_drew1) | exact HB.out)); (case side2 => exact Kd.R_tight rfl HO_13.out); rintro e w61 ⟨rfl, hy0, hb, hkp⟩; refine ⟨_, rfl, ?_⟩; have n0_ := Aside0.mk (Kd.R_mono (ok' := fun k_ => some k_ ≠ (.slice Ao60 t187.length co60 : Value).ownBlock) (Kd.R_keptB (HO_10.out) hkp (fun k_ hk_ hs_ => (hk_) hs_)) (fun k_ hk_ => hk_.1)); have n1_ := Aside0.mk (Kd.R_reok rfl hy0 (fun k_ e_ => HO_13.out.1 k_ e_)); have n2_ := Aside0.mk (hb); clear HO_10; clear HO_13; clear HB; have HO_10 := n0_; have HO_13 := n1_; have HB := n2_; clear n0_ n1_ n2_; (try clear hb); (try clear hkp); (try clear hy0)) | ((with_reducible refine gate_callee (f := 13) rfl ?_); refine goesL_ (some 85) rfl rfl Tryz.func13 (by kernel_rfl) rfl #[.slice Ao60 t200.length co60, .int .i64 1] rfl (by (try simp only [List.map_toArray, List.map_cons, List.map_nil]); first | done | (rw [show t200.length = t187.length from (Kd.R_reads' HO_13.out).1.symm] <;> rfl) | rfl | (simp only [List.length_drop, List.length_take]; rfl)) ?_; (with_reducible refine (laws_heldPairS.calls kj34 _ _ t200 1 t201 _ ?side1 ?side2 A51.out).mono ?_); (case side1 => repeat (first | exact (Kd.R_reads' HO_13.out).2.2 | (with_reducible refine Kd.C_alloc ?_ _) | (with_reducible refine Kd.C_drewN ?_ _) | (with_reducible refine Kd.C_drew ?_))); (case side2 => rw [show t200.length = t187.length from (Kd.R_reads' HO_13.out).1.symm]; exact (Kd.R_reads' HO_13.out).2.1); rintro e w62 ⟨rfl, hb⟩; refine ⟨_, rfl, ?_⟩; have n0_ := Aside0.mk (Kd.R_below (by (with_reducible repeat (first | apply Kd.R_alloc | apply Kd.R_drewN | apply Kd.R_drew)); exact HO_10.out) hb); have n1_ := Aside0.mk (Kd.R_below (by (with_reducible repeat (first | apply Kd.R_alloc | apply Kd.R_drewN | apply Kd.R_drew)); exact HO_13.out) hb); have n2_ := Aside0.mk (below_step (by repeat (first | (with_reducible first | exact HB.out | apply below_alloc | apply pw_below_drewN | apply below_drew1) | exact HB.out)) hb); clear HO_10; clear HO_13; clear HB; have HO_10 := n0_; have HO_13 := n1_; have HB := n2_; clear n0_ n1_ n2_; (try clear hb); (try clear hb2); (try clear hk); (try clear hi)) | ((with_reducible refine gate_callee (f := 9) rfl ?_); refine goesL_ (some 93) rfl rfl Tryz.func9 (by kernel_rfl) rfl #[.slice A0 l0.length c0] rfl (by (try simp only [List.map_toArray, List.map_cons, List.map_nil]); first | done | rfl | (simp only [List.length_drop, List.length_take]; rfl)) ?_; (with_reducible refine (laws_toPairS.calls kj34 _ _ l0 t202 _ ?side1 ?side2 A57.out).mono ?_); (case side1 => repeat (first | exact (Kd.C_below HR0.out HB.out) | (with_reducible refine Kd.C_alloc ?_ _) | (with_reducible refine Kd.C_drewN ?_ _) | (with_reducible refine Kd.C_drew ?_))); (case side2 => exact HC0.out); rintro e w63 ⟨v203, rfl, ho0, hb⟩; refine ⟨_, rfl, ?_⟩; have n0_ := Aside0.mk (Kd.R_elder' (by (with_reducible repeat (first | apply Kd.R_alloc | apply Kd.R_drewN | apply Kd.R_drew)); exact HO_10.out) (Kd.R_base ho0) hb); have n1_ := Aside0.mk (Kd.R_elder' (by (with_reducible repeat (first | apply Kd.R_alloc | apply Kd.R_drewN | apply Kd.R_drew)); exact HO_13.out) (Kd.R_base ho0) hb); have n2_ := Aside0.mk (Kd.R_lower (Kd.R_new' (Kd.R_new' ho0 (Kd.R_lt (by (with_reducible repeat (first | apply Kd.R_alloc | apply Kd.R_drewN | apply Kd.R_drew)); exact HO_10.out))) (Kd.R_lt (by (with_reducible repeat (first | apply Kd.R_alloc | apply Kd.R_drewN | apply Kd.R_drew)); exact HO_13.out))) (below_size (by repeat (first | (with_reducible first | exact HB.out | apply below_alloc | apply pw_below_drewN | apply below_drew1) | exact HB.out)))); have n3_ := Aside0.mk (below_step (by repeat (first | (with_reducible first | exact HB.out | apply below_alloc | apply pw_below_drewN | apply below_drew1) | exact HB.out)) hb); clear HO_10; clear HO_13; clear HB; have HO_10 := n0_; have HO_13 := n1_; have HO204 := n2_; have HB := n3_; clear n0_ n1_ n2_ n3_; (try clear hb); (try clear hb2); (try clear hk); (try clear hi); (try clear ho0); obtain ⟨Ao64, co64, eo64⟩ := Kd.R_slice HO204.out; subst eo64) | ((with_reducible refine gate_callee (f := 10) rfl ?_); refine goesL_ (some 97) rfl rfl Tryz.func10 (by kernel_rfl) rfl #[.slice Ao64 t202.length co64, .string a1, .string a2, .int .i64 a3] rfl (by (try simp only [List.map_toArray, List.map_cons, List.map_nil]); first | done | rfl | (simp only [List.length_drop, List.length_take]; rfl)) ?_; (with_reducible refine (impl_Burn.calls _ _ t202 a1 a2 a3 t205 t206 _ ?side1 ?side2 ?tb1 A58.out).mono ?_); (case tb1 => exact Tb.TB.below HT.out (by repeat (first | (with_reducible first | exact HB.out | apply below_alloc | apply pw_below_drewN | apply below_drew1) | exact HB.out)) (Nat.le_refl _)); (case side1 => repeat (first | exact (Kd.R_reads' HO204.out).2.2 | (with_reducible refine Kd.C_alloc ?_ _) | (with_reducible refine Kd.C_drewN ?_ _) | (with_reducible refine Kd.C_drew ?_))); (case side2 => exact (Kd.R_reads' HO204.out).2.1); rintro e w65 ⟨v207, rfl, ho0, hb⟩; refine ⟨_, rfl, ?_⟩; have n0_ := Aside0.mk (Kd.R_elder' (by (with_reducible repeat (first | apply Kd.R_alloc | apply Kd.R_drewN | apply Kd.R_drew)); exact HO_10.out) (Kd.R_base ho0) hb); have n1_ := Aside0.mk (Kd.R_elder' (by (with_reducible repeat (first | apply Kd.R_alloc | apply Kd.R_drewN | apply Kd.R_drew)); exact HO_13.out) (Kd.R_base ho0) hb); have n2_ := Aside0.mk (Kd.R_elder' (by (with_reducible repeat (first | apply Kd.R_alloc | apply Kd.R_drewN | apply Kd.R_drew)); exact HO204.out) (Kd.R_base ho0) hb); have n3_ := Aside0.mk (Kd.R_lower (Kd.R_new' (Kd.R_new' (Kd.R_new' ho0 (Kd.R_lt (by (with_reducible repeat (first | apply Kd.R_alloc | apply Kd.R_drewN | apply Kd.R_drew)); exact HO_10.out))) (Kd.R_lt (by (with_reducible repeat (first | apply Kd.R_alloc | apply Kd.R_drewN | apply Kd.R_drew)); exact HO_13.out))) (Kd.R_lt (by (with_reducible repeat (first | apply Kd.R_alloc | apply Kd.R_drewN | apply Kd.R_drew)); exact HO204.out))) (below_size (by repeat (first | (with_reducible first | exact HB.out | apply below_alloc | apply pw_below_drewN | apply below_drew1) | exact HB.out)))); have n4_ := Aside0.mk (below_step (by repeat (first | (with_reducible first | exact HB.out | apply below_alloc | apply pw_below_drewN | apply below_drew1) | exact HB.out)) hb); clear HO_10; clear HO_13; clear HO204; clear HB; have HO_10 := n0_; have HO_13 := n1_; have HO204 := n2_; have HO208 := n3_; have HB := n4_; clear n0_ n1_ n2_ n3_ n4_; (try clear hb); (try clear hb2); (try clear hk); (try clear hi); (try clear ho0)))
                          (try simp only [Act.put, List.setIfInBounds_toArray, List.set_cons_zero, List.set_cons_succ])
                          go_cut [108] (fun v108 wc => ∃ (kq : Nat) (x108_58 : Bool), v108 = .bool x108_58 ∧ Aside0 (laws_FnExactBurn.j2 kq t200 t199 x108_58 = some r) ∧ Aside0 (kq ≤ kj34) ∧ Aside0 (Kd.R k56 56 wc w.heap.size (fun _ => True) (.slice Ao60 t187.length co60) t200) ∧ Aside0 (Below w.heap.size w wc))
                          case first =>
                            have H := HC59.out
                            clear HC59
                            replace H := Option.bind_eq_some_iff.mp H
                            obtain ⟨t209, A660, H⟩ := H
                            replace H : (if t209 = true then (laws_FnExactBurn.j2 kj34 t200 t199 (t206 != t181)) else (laws_FnExactBurn.j2 kj34 t200 t199 true)) = some r := H
                            have A66 := Aside0.mk A660
                            clear A660
                            by_cases c67 : t209 = true
                            · subst c67
                              have H1 : (laws_FnExactBurn.j2 kj34 t200 t199 (t206 != t181)) = some r := by rw [if_pos rfl] at H; exact H
                              clear H
                              have H := H1
                              clear H1
                              have H' := Aside0.mk H
                              clear H
                              obtain ⟨Ao68, co68, eo68⟩ := Kd.R_slice HO208.out
                              subst eo68
                              obtain ⟨Ao69, co69, eo69⟩ := Kd.R_slice HO_10.out
                              subst eo69
                              go_wp2_with (first | ((with_reducible refine gate_callee (f := 11) rfl ?_); refine goesL_ (some 102) rfl rfl Tryz.func11 (by kernel_rfl) rfl #[.slice Ao68 t205.length co68, .slice Ao69 t180.length co69] rfl (by (try simp only [List.map_toArray, List.map_cons, List.map_nil]); first | done | rfl | (simp only [List.length_drop, List.length_take]; rfl)) ?_; (with_reducible refine (laws_eqPairS.calls kj34 _ _ t205 _ _ t180 true _ ?side1 ?side2 ?side3 ?side4 A66.out).mono ?_); (case side1 => repeat (first | exact (Kd.R_reads' HO208.out).2.2 | (with_reducible refine Kd.C_alloc ?_ _) | (with_reducible refine Kd.C_drewN ?_ _) | (with_reducible refine Kd.C_drew ?_))); (case side2 => exact (Kd.R_reads' HO208.out).2.1); (case side3 => repeat (first | exact (Kd.R_reads' HO_10.out).2.2 | (with_reducible refine Kd.C_alloc ?_ _) | (with_reducible refine Kd.C_drewN ?_ _) | (with_reducible refine Kd.C_drew ?_))); (case side4 => exact (Kd.R_reads' HO_10.out).2.1); rintro e w70 ⟨rfl, hb⟩; refine ⟨_, rfl, ?_⟩; have n0_ := Aside0.mk (Kd.R_below (by (with_reducible repeat (first | apply Kd.R_alloc | apply Kd.R_drewN | apply Kd.R_drew)); exact HO_10.out) hb); have n1_ := Aside0.mk (Kd.R_below (by (with_reducible repeat (first | apply Kd.R_alloc | apply Kd.R_drewN | apply Kd.R_drew)); exact HO_13.out) hb); have n2_ := Aside0.mk (Kd.R_below (by (with_reducible repeat (first | apply Kd.R_alloc | apply Kd.R_drewN | apply Kd.R_drew)); exact HO204.out) hb); have n3_ := Aside0.mk (Kd.R_below (by (with_reducible repeat (first | apply Kd.R_alloc | apply Kd.R_drewN | apply Kd.R_drew)); exact HO208.out) hb); have n4_ := Aside0.mk (below_step (by repeat (first | (with_reducible first | exact HB.out | apply below_alloc | apply pw_below_drewN | apply below_drew1) | exact HB.out)) hb); clear HO_10; clear HO_13; clear HO204; clear HO208; clear HB; have HO_10 := n0_; have HO_13 := n1_; have HO204 := n2_; have HO208 := n3_; have HB := n4_; clear n0_ n1_ n2_ n3_ n4_; (try clear hb); (try clear hb2); (try clear hk); (try clear hi)))
                              go_meet
                              case rel => exact ⟨_, ((t206 != t181)), (by first | rfl | (simp; done) | (simp [*]; done)), H', ⟨by have := HJ13.out; have := HJ34.out; first | omega | exact Nat.le_refl _⟩, ⟨by (with_reducible repeat (first | apply Kd.R_alloc | apply Kd.R_drewN | apply Kd.R_drew)); exact Kd.R_mono HO_13.out (fun _ hk => trivial)⟩, ⟨by repeat (first | (with_reducible first | exact HB.out | apply below_alloc | apply pw_below_drewN | apply below_drew1) | exact HB.out)⟩⟩
                            · replace c67 := Bool.eq_false_iff.mpr c67
                              subst c67
                              have H1 : (laws_FnExactBurn.j2 kj34 t200 t199 true) = some r := by rw [if_neg (show ¬ (false = true) by decide)] at H; exact H
                              clear H
                              have H := H1
                              clear H1
                              have H' := Aside0.mk H
                              clear H
                              obtain ⟨Ao71, co71, eo71⟩ := Kd.R_slice HO208.out
                              subst eo71
                              obtain ⟨Ao72, co72, eo72⟩ := Kd.R_slice HO_10.out
                              subst eo72
                              go_wp2_with (first | ((with_reducible refine gate_callee (f := 11) rfl ?_); refine goesL_ (some 102) rfl rfl Tryz.func11 (by kernel_rfl) rfl #[.slice Ao71 t205.length co71, .slice Ao72 t180.length co72] rfl (by (try simp only [List.map_toArray, List.map_cons, List.map_nil]); first | done | rfl | (simp only [List.length_drop, List.length_take]; rfl)) ?_; (with_reducible refine (laws_eqPairS.calls kj34 _ _ t205 _ _ t180 false _ ?side1 ?side2 ?side3 ?side4 A66.out).mono ?_); (case side1 => repeat (first | exact (Kd.R_reads' HO208.out).2.2 | (with_reducible refine Kd.C_alloc ?_ _) | (with_reducible refine Kd.C_drewN ?_ _) | (with_reducible refine Kd.C_drew ?_))); (case side2 => exact (Kd.R_reads' HO208.out).2.1); (case side3 => repeat (first | exact (Kd.R_reads' HO_10.out).2.2 | (with_reducible refine Kd.C_alloc ?_ _) | (with_reducible refine Kd.C_drewN ?_ _) | (with_reducible refine Kd.C_drew ?_))); (case side4 => exact (Kd.R_reads' HO_10.out).2.1); rintro e w73 ⟨rfl, hb⟩; refine ⟨_, rfl, ?_⟩; have n0_ := Aside0.mk (Kd.R_below (by (with_reducible repeat (first | apply Kd.R_alloc | apply Kd.R_drewN | apply Kd.R_drew)); exact HO_10.out) hb); have n1_ := Aside0.mk (Kd.R_below (by (with_reducible repeat (first | apply Kd.R_alloc | apply Kd.R_drewN | apply Kd.R_drew)); exact HO_13.out) hb); have n2_ := Aside0.mk (Kd.R_below (by (with_reducible repeat (first | apply Kd.R_alloc | apply Kd.R_drewN | apply Kd.R_drew)); exact HO204.out) hb); have n3_ := Aside0.mk (Kd.R_below (by (with_reducible repeat (first | apply Kd.R_alloc | apply Kd.R_drewN | apply Kd.R_drew)); exact HO208.out) hb); have n4_ := Aside0.mk (below_step (by repeat (first | (with_reducible first | exact HB.out | apply below_alloc | apply pw_below_drewN | apply below_drew1) | exact HB.out)) hb); clear HO_10; clear HO_13; clear HO204; clear HO208; clear HB; have HO_10 := n0_; have HO_13 := n1_; have HO204 := n2_; have HO208 := n3_; have HB := n4_; clear n0_ n1_ n2_ n3_ n4_; (try clear hb); (try clear hb2); (try clear hk); (try clear hi)))
                              go_meet
                              case rel => exact ⟨_, (true), (by first | rfl | (simp; done) | (simp [*]; done)), H', ⟨by have := HJ13.out; have := HJ34.out; first | omega | exact Nat.le_refl _⟩, ⟨by (with_reducible repeat (first | apply Kd.R_alloc | apply Kd.R_drewN | apply Kd.R_drew)); exact Kd.R_mono HO_13.out (fun _ hk => trivial)⟩, ⟨by repeat (first | (with_reducible first | exact HB.out | apply below_alloc | apply pw_below_drewN | apply below_drew1) | exact HB.out)⟩⟩
                          case rest =>
                            clear HC59
                            try clear c1
                            try clear c2
                            try clear p2
                            try clear c3
                            try clear c4
                            try clear c5
                            try clear c5b0
                            try clear c5b1
                            try clear c6
                            try clear c6b0
                            try clear c6b1
                            try clear c7
                            try clear c8
                            try clear c8b0
                            try clear c9
                            try clear c10
                            try clear c11
                            try clear c12
                            try clear c13
                            try clear c23
                            try clear c30
                            try clear c33
                            try clear c40
                            try clear c40b0
                            try clear c42
                            try clear c49
                            try clear c52
                            try clear c52b0
                            try clear c56
                            try clear c56b0
                            try clear c56b1
                            try clear c67
                            try clear p2
                            obtain ⟨kq, x108_58, rfl, HA, HJ58, HO_13, HB⟩ := hcut
                            have hl13_58 := (Kd.R_reads' HO_13.out).1
                            rw [hl13_58] at HO_13
                            (try simp only [hl13_58])
                            cases kq with
                            | zero => exact absurd HA.out (by simp [laws_FnExactBurn.j2])
                            | succ kj58 =>
                              have H := HA.out
                              clear HA
                              simp only [laws_FnExactBurn.j2] at H
                              by_cases c74 : x108_58 = true
                              · subst c74
                                have H1 : (some false) = some r := by rw [if_pos rfl] at H; exact H
                                clear H
                                have H := H1
                                clear H1
                                obtain rfl := Option.some.inj H
                                go_wp2
                                go_ret
                                exact ⟨by first | rfl | (simp [errW_none, errW_some] <;> rfl) | (simp [*, errW_none, errW_some] <;> rfl), by repeat (first | (with_reducible first | exact HB.out | apply below_alloc | apply pw_below_drewN | apply below_drew1) | exact HB.out)⟩
                              · replace c74 := Bool.eq_false_iff.mpr c74
                                subst c74
                                have H1 : ((laws_heldPairS.f kj58 t200 1).bind fun t210 => (if t210 < 0 then (some false) else (if t210 = t199 then (some true) else (some false)))) = some r := by rw [if_neg (show ¬ (false = true) by decide)] at H; exact H
                                clear H
                                have H := H1
                                clear H1
                                replace H := Option.bind_eq_some_iff.mp H
                                obtain ⟨t210, A750, H⟩ := H
                                replace H : (if t210 < 0 then (some false) else (if t210 = t199 then (some true) else (some false))) = some r := H
                                have A75 := Aside0.mk A750
                                clear A750
                                by_cases c76 : t210 < 0
                                · rw [if_pos c76] at H
                                  have c76b0 : decide (t210 < 0) = true := decide_eq_true c76
                                  clear c76
                                  obtain rfl := Option.some.inj H
                                  go_wp2_with (first | ((with_reducible refine gate_callee (f := 13) rfl ?_); refine goesL_ (some 111) rfl rfl Tryz.func13 (by kernel_rfl) rfl #[.slice Ao60 t200.length co60, .int .i64 1] rfl (by (try simp only [List.map_toArray, List.map_cons, List.map_nil]); first | done | rfl | (simp only [List.length_drop, List.length_take]; rfl)) ?_; (with_reducible refine (laws_heldPairS.calls kj58 _ _ t200 1 t210 _ ?side1 ?side2 A75.out).mono ?_); (case side1 => repeat (first | exact (Kd.R_reads' HO_13.out).2.2 | (with_reducible refine Kd.C_alloc ?_ _) | (with_reducible refine Kd.C_drewN ?_ _) | (with_reducible refine Kd.C_drew ?_))); (case side2 => exact (Kd.R_reads' HO_13.out).2.1); rintro e w77 ⟨rfl, hb⟩; refine ⟨_, rfl, ?_⟩; have n0_ := Aside0.mk (Kd.R_below (by (with_reducible repeat (first | apply Kd.R_alloc | apply Kd.R_drewN | apply Kd.R_drew)); exact HO_13.out) hb); have n1_ := Aside0.mk (below_step (by repeat (first | (with_reducible first | exact HB.out | apply below_alloc | apply pw_below_drewN | apply below_drew1) | exact HB.out)) hb); clear HO_13; clear HB; have HO_13 := n0_; have HB := n1_; clear n0_ n1_; (try clear hb); (try clear hb2); (try clear hk); (try clear hi)))
                                  go_ret
                                  exact ⟨by first | rfl | (simp [errW_none, errW_some] <;> rfl) | (simp [*, errW_none, errW_some] <;> rfl), by repeat (first | (with_reducible first | exact HB.out | apply below_alloc | apply pw_below_drewN | apply below_drew1) | exact HB.out)⟩
                                · rw [if_neg c76] at H
                                  have c76b0 : decide (t210 < 0) = false := decide_eq_false c76
                                  clear c76
                                  by_cases c78 : t210 = t199
                                  · rw [if_pos c78] at H
                                    have c78b0 : (t210 == t199) = true := beq_iff_eq.mpr c78
                                    have c78b1 : (t210 != t199) = false := bne_eq_false_iff_eq.mpr c78
                                    clear c78
                                    obtain rfl := Option.some.inj H
                                    go_wp2_with (first | ((with_reducible refine gate_callee (f := 13) rfl ?_); refine goesL_ (some 111) rfl rfl Tryz.func13 (by kernel_rfl) rfl #[.slice Ao60 t200.length co60, .int .i64 1] rfl (by (try simp only [List.map_toArray, List.map_cons, List.map_nil]); first | done | rfl | (simp only [List.length_drop, List.length_take]; rfl)) ?_; (with_reducible refine (laws_heldPairS.calls kj58 _ _ t200 1 t210 _ ?side1 ?side2 A75.out).mono ?_); (case side1 => repeat (first | exact (Kd.R_reads' HO_13.out).2.2 | (with_reducible refine Kd.C_alloc ?_ _) | (with_reducible refine Kd.C_drewN ?_ _) | (with_reducible refine Kd.C_drew ?_))); (case side2 => exact (Kd.R_reads' HO_13.out).2.1); rintro e w79 ⟨rfl, hb⟩; refine ⟨_, rfl, ?_⟩; have n0_ := Aside0.mk (Kd.R_below (by (with_reducible repeat (first | apply Kd.R_alloc | apply Kd.R_drewN | apply Kd.R_drew)); exact HO_13.out) hb); have n1_ := Aside0.mk (below_step (by repeat (first | (with_reducible first | exact HB.out | apply below_alloc | apply pw_below_drewN | apply below_drew1) | exact HB.out)) hb); clear HO_13; clear HB; have HO_13 := n0_; have HB := n1_; clear n0_ n1_; (try clear hb); (try clear hb2); (try clear hk); (try clear hi)))
                                    go_ret
                                    exact ⟨by first | rfl | (simp [errW_none, errW_some] <;> rfl) | (simp [*, errW_none, errW_some] <;> rfl), by repeat (first | (with_reducible first | exact HB.out | apply below_alloc | apply pw_below_drewN | apply below_drew1) | exact HB.out)⟩
                                  · rw [if_neg c78] at H
                                    have c78b0 : (t210 == t199) = false := beq_eq_false_iff_ne.mpr c78
                                    have c78b1 : (t210 != t199) = true := bne_iff_ne.mpr c78
                                    obtain rfl := Option.some.inj H
                                    go_wp2_with (first | ((with_reducible refine gate_callee (f := 13) rfl ?_); refine goesL_ (some 111) rfl rfl Tryz.func13 (by kernel_rfl) rfl #[.slice Ao60 t200.length co60, .int .i64 1] rfl (by (try simp only [List.map_toArray, List.map_cons, List.map_nil]); first | done | rfl | (simp only [List.length_drop, List.length_take]; rfl)) ?_; (with_reducible refine (laws_heldPairS.calls kj58 _ _ t200 1 t210 _ ?side1 ?side2 A75.out).mono ?_); (case side1 => repeat (first | exact (Kd.R_reads' HO_13.out).2.2 | (with_reducible refine Kd.C_alloc ?_ _) | (with_reducible refine Kd.C_drewN ?_ _) | (with_reducible refine Kd.C_drew ?_))); (case side2 => exact (Kd.R_reads' HO_13.out).2.1); rintro e w80 ⟨rfl, hb⟩; refine ⟨_, rfl, ?_⟩; have n0_ := Aside0.mk (Kd.R_below (by (with_reducible repeat (first | apply Kd.R_alloc | apply Kd.R_drewN | apply Kd.R_drew)); exact HO_13.out) hb); have n1_ := Aside0.mk (below_step (by repeat (first | (with_reducible first | exact HB.out | apply below_alloc | apply pw_below_drewN | apply below_drew1) | exact HB.out)) hb); clear HO_13; clear HB; have HO_13 := n0_; have HB := n1_; clear n0_ n1_; (try clear hb); (try clear hb2); (try clear hk); (try clear hi)))
                                    go_ret
                                    exact ⟨by first | rfl | (simp [errW_none, errW_some] <;> rfl) | (simp [*, errW_none, errW_some] <;> rfl), by repeat (first | (with_reducible first | exact HB.out | apply below_alloc | apply pw_below_drewN | apply below_drew1) | exact HB.out)⟩
                        · rw [if_neg c56] at H
                          have c56b0 : (t201 == t199) = false := beq_eq_false_iff_ne.mpr c56
                          have c56b1 : (t201 != t199) = true := bne_iff_ne.mpr c56
                          obtain rfl := Option.some.inj H
                          obtain ⟨Ao81, co81, eo81⟩ := Kd.R_slice HO_13.out
                          subst eo81
                          go_wp2_with (first | ((with_reducible refine gate_callee (f := 12) rfl ?_); refine goesL_ (some 82) rfl rfl Tryz.func12 (by kernel_rfl) rfl #[.slice Ao81 t187.length co81, .int .i64 1] rfl (by (try simp only [List.map_toArray, List.map_cons, List.map_nil]); first | done | rfl | (simp only [List.length_drop, List.length_take]; rfl)) ?_; (with_reducible refine (laws_markPairS.calls kj34 (fun k_ => some k_ = (.slice Ao81 t187.length co81 : Value).ownBlock) (.slice Ao81 t187.length co81) t187 1 t199 t200 w _ ?side1 ?side2 A50.out).mono ?_); (case side1 => repeat (first | (with_reducible first | exact HB.out | apply below_alloc | apply pw_below_drewN | apply below_drew1) | exact HB.out)); (case side2 => exact Kd.R_tight rfl HO_13.out); rintro e w82 ⟨rfl, hy0, hb, hkp⟩; refine ⟨_, rfl, ?_⟩; have n0_ := Aside0.mk (Kd.R_mono (ok' := fun k_ => some k_ ≠ (.slice Ao81 t187.length co81 : Value).ownBlock) (Kd.R_keptB (HO_10.out) hkp (fun k_ hk_ hs_ => (hk_) hs_)) (fun k_ hk_ => hk_.1)); have n1_ := Aside0.mk (Kd.R_reok rfl hy0 (fun k_ e_ => HO_13.out.1 k_ e_)); have n2_ := Aside0.mk (hb); clear HO_10; clear HO_13; clear HB; have HO_10 := n0_; have HO_13 := n1_; have HB := n2_; clear n0_ n1_ n2_; (try clear hb); (try clear hkp); (try clear hy0)) | ((with_reducible refine gate_callee (f := 13) rfl ?_); refine goesL_ (some 85) rfl rfl Tryz.func13 (by kernel_rfl) rfl #[.slice Ao81 t200.length co81, .int .i64 1] rfl (by (try simp only [List.map_toArray, List.map_cons, List.map_nil]); first | done | (rw [show t200.length = t187.length from (Kd.R_reads' HO_13.out).1.symm] <;> rfl) | rfl | (simp only [List.length_drop, List.length_take]; rfl)) ?_; (with_reducible refine (laws_heldPairS.calls kj34 _ _ t200 1 t201 _ ?side1 ?side2 A51.out).mono ?_); (case side1 => repeat (first | exact (Kd.R_reads' HO_13.out).2.2 | (with_reducible refine Kd.C_alloc ?_ _) | (with_reducible refine Kd.C_drewN ?_ _) | (with_reducible refine Kd.C_drew ?_))); (case side2 => rw [show t200.length = t187.length from (Kd.R_reads' HO_13.out).1.symm]; exact (Kd.R_reads' HO_13.out).2.1); rintro e w83 ⟨rfl, hb⟩; refine ⟨_, rfl, ?_⟩; have n0_ := Aside0.mk (Kd.R_below (by (with_reducible repeat (first | apply Kd.R_alloc | apply Kd.R_drewN | apply Kd.R_drew)); exact HO_10.out) hb); have n1_ := Aside0.mk (Kd.R_below (by (with_reducible repeat (first | apply Kd.R_alloc | apply Kd.R_drewN | apply Kd.R_drew)); exact HO_13.out) hb); have n2_ := Aside0.mk (below_step (by repeat (first | (with_reducible first | exact HB.out | apply below_alloc | apply pw_below_drewN | apply below_drew1) | exact HB.out)) hb); clear HO_10; clear HO_13; clear HB; have HO_10 := n0_; have HO_13 := n1_; have HB := n2_; clear n0_ n1_ n2_; (try clear hb); (try clear hb2); (try clear hk); (try clear hi)))
                          go_ret
                          exact ⟨by first | rfl | (simp [errW_none, errW_some] <;> rfl) | (simp [*, errW_none, errW_some] <;> rfl), by repeat (first | (with_reducible first | exact HB.out | apply below_alloc | apply pw_below_drewN | apply below_drew1) | exact HB.out)⟩
              · replace c33 := Bool.eq_false_iff.mpr c33
                subst c33
                have H1 : (some false) = some r := by rw [if_neg (show ¬ (false = true) by decide)] at H; exact H
                clear H
                have H := H1
                clear H1
                obtain rfl := Option.some.inj H
                go_wp2_with (first | ((with_reducible refine gate_callee (f := 9) rfl ?_); refine goesL_ (some 61) rfl rfl Tryz.func9 (by kernel_rfl) rfl #[.slice A0 l0.length c0] rfl (by (try simp only [List.map_toArray, List.map_cons, List.map_nil]); first | done | rfl | (simp only [List.length_drop, List.length_take]; rfl)) ?_; (with_reducible refine (laws_toPairS.calls kj13 _ _ l0 t192 _ ?side1 ?side2 A31.out).mono ?_); (case side1 => repeat (first | exact (Kd.C_below HR0.out HB.out) | (with_reducible refine Kd.C_alloc ?_ _) | (with_reducible refine Kd.C_drewN ?_ _) | (with_reducible refine Kd.C_drew ?_))); (case side2 => exact HC0.out); rintro e w84 ⟨v193, rfl, ho0, hb⟩; refine ⟨_, rfl, ?_⟩; have n0_ := Aside0.mk (Kd.R_elder' (by (with_reducible repeat (first | apply Kd.R_alloc | apply Kd.R_drewN | apply Kd.R_drew)); exact HO_10.out) (Kd.R_base ho0) hb); have n1_ := Aside0.mk (Kd.R_elder' (by (with_reducible repeat (first | apply Kd.R_alloc | apply Kd.R_drewN | apply Kd.R_drew)); exact HO_12.out) (Kd.R_base ho0) hb); have n2_ := Aside0.mk (Kd.R_elder' (by (with_reducible repeat (first | apply Kd.R_alloc | apply Kd.R_drewN | apply Kd.R_drew)); exact HO_13.out) (Kd.R_base ho0) hb); have n3_ := Aside0.mk (Kd.R_lower (Kd.R_new' (Kd.R_new' (Kd.R_new' ho0 (Kd.R_lt (by (with_reducible repeat (first | apply Kd.R_alloc | apply Kd.R_drewN | apply Kd.R_drew)); exact HO_10.out))) (Kd.R_lt (by (with_reducible repeat (first | apply Kd.R_alloc | apply Kd.R_drewN | apply Kd.R_drew)); exact HO_12.out))) (Kd.R_lt (by (with_reducible repeat (first | apply Kd.R_alloc | apply Kd.R_drewN | apply Kd.R_drew)); exact HO_13.out))) (below_size (by repeat (first | (with_reducible first | exact HB.out | apply below_alloc | apply pw_below_drewN | apply below_drew1) | exact HB.out)))); have n4_ := Aside0.mk (below_step (by repeat (first | (with_reducible first | exact HB.out | apply below_alloc | apply pw_below_drewN | apply below_drew1) | exact HB.out)) hb); clear HO_10; clear HO_12; clear HO_13; clear HB; have HO_10 := n0_; have HO_12 := n1_; have HO_13 := n2_; have HO194 := n3_; have HB := n4_; clear n0_ n1_ n2_ n3_ n4_; (try clear hb); (try clear hb2); (try clear hk); (try clear hi); (try clear ho0); obtain ⟨Ao85, co85, eo85⟩ := Kd.R_slice HO194.out; subst eo85) | ((with_reducible refine gate_callee (f := 11) rfl ?_); refine goesL_ (some 62) rfl rfl Tryz.func11 (by kernel_rfl) rfl #[.slice Ao20 t184.length co20, .slice Ao85 t192.length co85] rfl (by (try simp only [List.map_toArray, List.map_cons, List.map_nil]); first | done | rfl | (simp only [List.length_drop, List.length_take]; rfl)) ?_; (with_reducible refine (laws_eqPairS.calls kj13 _ _ t184 _ _ t192 false _ ?side1 ?side2 ?side3 ?side4 A32.out).mono ?_); (case side1 => repeat (first | exact (Kd.R_reads' HO_12.out).2.2 | (with_reducible refine Kd.C_alloc ?_ _) | (with_reducible refine Kd.C_drewN ?_ _) | (with_reducible refine Kd.C_drew ?_))); (case side2 => exact (Kd.R_reads' HO_12.out).2.1); (case side3 => repeat (first | exact (Kd.R_reads' HO194.out).2.2 | (with_reducible refine Kd.C_alloc ?_ _) | (with_reducible refine Kd.C_drewN ?_ _) | (with_reducible refine Kd.C_drew ?_))); (case side4 => exact (Kd.R_reads' HO194.out).2.1); rintro e w86 ⟨rfl, hb⟩; refine ⟨_, rfl, ?_⟩; have n0_ := Aside0.mk (Kd.R_below (by (with_reducible repeat (first | apply Kd.R_alloc | apply Kd.R_drewN | apply Kd.R_drew)); exact HO_10.out) hb); have n1_ := Aside0.mk (Kd.R_below (by (with_reducible repeat (first | apply Kd.R_alloc | apply Kd.R_drewN | apply Kd.R_drew)); exact HO_12.out) hb); have n2_ := Aside0.mk (Kd.R_below (by (with_reducible repeat (first | apply Kd.R_alloc | apply Kd.R_drewN | apply Kd.R_drew)); exact HO_13.out) hb); have n3_ := Aside0.mk (Kd.R_below (by (with_reducible repeat (first | apply Kd.R_alloc | apply Kd.R_drewN | apply Kd.R_drew)); exact HO194.out) hb); have n4_ := Aside0.mk (below_step (by repeat (first | (with_reducible first | exact HB.out | apply below_alloc | apply pw_below_drewN | apply below_drew1) | exact HB.out)) hb); clear HO_10; clear HO_12; clear HO_13; clear HO194; clear HB; have HO_10 := n0_; have HO_12 := n1_; have HO_13 := n2_; have HO194 := n3_; have HB := n4_; clear n0_ n1_ n2_ n3_ n4_; (try clear hb); (try clear hb2); (try clear hk); (try clear hi)))
                go_ret
                exact ⟨by first | rfl | (simp [errW_none, errW_some] <;> rfl) | (simp [*, errW_none, errW_some] <;> rfl), by repeat (first | (with_reducible first | exact HB.out | apply below_alloc | apply pw_below_drewN | apply below_drew1) | exact HB.out)⟩





end Go.Proofs.YtpkfdjlmflmilaaGreatDoor.Q
end
section
namespace Go.Proofs.YtpkfdjlmflmilaaGreatDoor.Fr
open Go.ChangeShapes Go.WideShapes Go.RowKit Go.Deep Go.Proofs.YtpkfdjlmflmilaaGreatDoorW.PrintWords Go.Proofs.YtpkfdjlmflmilaaGreatDoorW.PrintLast
set_option linter.unusedVariables false
section
variable {H : Type} {α β γ δ : Type}
def Opens (enc : TypeId × Value → H) (P : Program) (w : World) (base : Nat) (spare : Nat → Bool) (held : Bool) (d : Kd α) (t : TypeId) (wf : α → Prop) : Prop :=
  ∀ (fuel : Nat) (cs : List Value) (x : DataW H × List MemPlace), DataW.trod enc P w base spare held fuel t cs = some x → ∃ y : α, d.K w y cs ∧ wf y
variable {enc : TypeId × Value → H} {P : Program} {w : World} {base : Nat} {spare : Nat → Bool} {held : Bool}
theorem opens_string {t : TypeId} (ht : P.underlying t = some .string) : Opens enc P w base spare held Kd.string t (fun s => s.size ≤ 9223372036854775807) := by
  intro fuel cs x h
  obtain ⟨s, rfl, _, hs⟩ := DataW.trod_string ht h
  exact ⟨s, rfl, by simpa [maxLen] using hs⟩
theorem opens_slice [Inhabited α] {d : Kd α} {t e : TypeId} {wf : α → Prop} (ht : P.underlying t = some (.slice e)) (hsz : P.cellsOf e = d.sz) (hd : Opens enc P w base spare held d e wf) :
    Opens enc P w base spare held (Kd.slice e d) t (fun l => (∀ x ∈ l, wf x) ∧ l.length ≤ 9223372036854775807) := by
  intro fuel cs x h
  rcases open_slice ht h with ⟨rfl, _⟩ | ⟨a, len, cap, m, n, D, Pl, rfl, _, hl, hm, hmm, _, hx⟩
  · refine ⟨[], ⟨none, 0, rfl, Nat.le_refl _, ⟨rfl, by simp, fun h => absurd h (by simp)⟩⟩, ?_⟩
    show (∀ x ∈ ([] : List α), wf x) ∧ ([] : List α).length ≤ 9223372036854775807
    exact ⟨fun x h => absurd h List.not_mem_nil, by simp⟩
  · have hlm : len ≤ m := by rw [hmm]; split <;> omega
    obtain ⟨Y, hY⟩ := choose_lt (α := α) (n := len) (p := fun i y => wf y ∧ ∃ cs', w.cells? base (a.add (i * P.cellsOf e)) (P.cellsOf e) = some cs' ∧ d.K w y cs') (fun i hi => by
      obtain ⟨cs', h1, h2⟩ := hx i (by omega)
      obtain ⟨y, hk, hw⟩ := hd _ _ _ h2
      exact ⟨y, hw, cs', h1, hk⟩)
    have hlen : ((List.range len).map Y).length = len := by simp
    simp only [maxLen] at hm
    refine ⟨(List.range len).map Y, ⟨some a, cap, by rw [hlen], by rw [hlen]; exact hl, ?_⟩, ?_, by rw [hlen]; omega⟩
    · rw [hlen]
      refine ⟨hlen, by omega, fun _ => ⟨a, rfl, fun j p hj => ?_⟩⟩
      have hjl : j < len := by have := (List.getElem?_eq_some_iff.1 hj).1; rw [hlen] at this; exact this
      obtain ⟨_, cs', h1, hk⟩ := hY j hjl
      have hp : Y j = p := by
        rw [List.getElem?_map, List.getElem?_range hjl] at hj
        exact Option.some.inj hj
      subst hp
      obtain ⟨_, hcl, hat⟩ := World.cells?_some h1
      refine ⟨cs', d.K_len hk, hk, fun i u hi => ?_⟩
      have hil : i < P.cellsOf e := by have := (List.getElem?_eq_some_iff.1 hi).1; omega
      rw [← hsz, ← Go.Deep.add_add, hat i hil, hi]
    · intro x hx'
      obtain ⟨i, hi, rfl⟩ := List.mem_map.1 hx'
      exact (hY i (List.mem_range.1 hi)).1
/-- A struct of one-cell fields: two of them. -/
theorem opens_struct2 {f0 f1 : Field} {d0 : Kd α} {d1 : Kd β} {t : TypeId} {w0 : α → Prop} {w1 : β → Prop} (hs : P.underlying t = some (.struct #[f0, f1])) (hone : oneCellFields P #[f0, f1] = true) (hC : P.cellsOf t = 2)
    (h0 : Opens enc P w base spare held d0 f0.type w0) (h1 : Opens enc P w base spare held d1 f1.type w1) (f : γ → α × β) (mk : α → β → γ) (hmk : ∀ a b, f (mk a b) = (a, b)) :
    Opens enc P w base spare held (Kd.iso (Kd.pair d0 d1) f) t (fun x => w0 (f x).1 ∧ w1 (f x).2) := by
  intro fuel cs x h
  obtain ⟨xs, n, _, hx, hcl, hlen, hg⟩ := DataW.trod_struct hs h
  obtain ⟨o0, k0⟩ := hone_of hone 0 f0 rfl
  obtain ⟨o1, k1⟩ := hone_of hone 1 f1 rfl
  match cs, hcl.trans hC with
  | [c0, c1], _ =>
    match xs, hlen with
    | [y0, y1], _ =>
      have g0 : DataW.trod enc P w base spare held n f0.type [c0] = some y0 := by simpa [o0, k0] using hg 0 f0 rfl
      have g1 : DataW.trod enc P w base spare held n f1.type [c1] = some y1 := by simpa [o1, k1] using hg 1 f1 rfl
      obtain ⟨a, ha, hwa⟩ := h0 _ _ _ g0
      obtain ⟨b, hb, hwb⟩ := h1 _ _ _ g1
      refine ⟨mk a b, ?_, ?_⟩
      · show (Kd.pair d0 d1).K w (f (mk a b)) [c0, c1]
        rw [hmk]
        exact ⟨[c0], [c1], rfl, ha, hb⟩
      · show w0 (f (mk a b)).1 ∧ w1 (f (mk a b)).2
        rw [hmk]
        exact ⟨hwa, hwb⟩
end
section
variable {H : Type} {enc : TypeId × Value → H} {P : Program} {w : World} {base : Nat} {spare : Nat → Bool} {held : Bool}
end
end Go.Proofs.YtpkfdjlmflmilaaGreatDoor.Fr
end
section
namespace Go.Proofs.YtpkfdjlmflmilaaGreatDoor.Q
open Go.RowKit Go.Proofs.YtpkfdjlmflmilaaGreatDoorW.PrintWords Go.Proofs.YtpkfdjlmflmilaaGreatDoorW.PrintLast
/-- The one pure statement of laws_FnExactBurn. -/
def laws_FnExactBurn.PureF : Prop := ∀ (l0 : List (S52)) (a1 : ByteArray) (a2 : ByteArray) (a3 : Int), ((∀ x ∈ l0, (x.f0.size ≤ 9223372036854775807) ∧ (x.f1.size ≤ 9223372036854775807)) ∧ l0.length ≤ 9223372036854775807) → (a1.size ≤ 140737488351232) → (a2.size ≤ 140737488351232) → ((Lit.int .i64 a3).wf = true) → ∃ k, laws_FnExactBurn.f k l0 a1 a2 a3 = some true
end Go.Proofs.YtpkfdjlmflmilaaGreatDoor.Q
end
section
namespace Go.Proofs.YtpkfdjlmflmilaaGreatDoor.Pure
open Go.RowKit Go.Proofs.YtpkfdjlmflmilaaGreatDoor.Q Go.Proofs.YtpkfdjlmflmilaaGreatDoorW.PrintWords Go.Proofs.YtpkfdjlmflmilaaGreatDoorW.PrintLast
set_option linter.unusedVariables false
theorem bytesSize (l : List Int) : (strOfNums l).size = l.length := by unfold strOfNums; simp [ByteArray.size]
theorem w_suc (n : Nat) (h : n < 9223372036854775807) : wrap64 ((n : Int) + 1) = ((n + 1 : Nat) : Int) := by unfold wrap64; omega
theorem w_ten (n : Nat) (h : n < 9223372036854775807) : wrap64 (Int.tdiv (n : Int) 10) = ((n / 10 : Nat) : Int) := by
  rw [Int.tdiv_eq_ediv_of_nonneg (by omega)]
  unfold wrap64
  omega
theorem markText_l0 (d : Nat) : ∀ (n : Nat) (out : ByteArray), n < 10 ^ d → d ≤ 18 → out.size + d ≤ 100 → ∃ r, ∀ k, d < k → laws_markText.l0 k (n : Int) out = some r := by
  induction d with
  | zero =>
    intro n out hn hd hs
    have : n = 0 := by simpa using hn
    subst this
    refine ⟨(⟨#[109]⟩ : ByteArray) ++ out, fun k hk => ?_⟩
    obtain ⟨k, rfl⟩ : ∃ m, k = m + 1 := ⟨k - 1, by omega⟩
    simp only [laws_markText.l0]
    rw [if_neg (by simp), if_pos (by omega)]
  | succ d ih =>
    intro n out hn hd hs
    have hp : 10 ^ d ≤ 10 ^ 18 := Nat.pow_le_pow_right (by decide) (by omega)
    by_cases h0 : n = 0
    · subst h0
      refine ⟨(⟨#[109]⟩ : ByteArray) ++ out, fun k hk => ?_⟩
      obtain ⟨k, rfl⟩ : ∃ m, k = m + 1 := ⟨k - 1, by omega⟩
      simp only [laws_markText.l0]
      rw [if_neg (by simp), if_pos (by omega)]
    · have hn' : n / 10 < 10 ^ d := by rw [Nat.div_lt_iff_lt_mul (by decide)]; rw [Nat.pow_succ] at hn; exact hn
      obtain ⟨r, hr⟩ := ih (n / 10) (strOfNums [(wrap64 (48 + (Int.tmod (n : Int) 10))) % 256] ++ out) hn' (by omega) (by rw [ByteArray.size_append, bytesSize]; simp; omega)
      refine ⟨r, fun k hk => ?_⟩
      obtain ⟨k, rfl⟩ : ∃ m, k = m + 1 := ⟨k - 1, by omega⟩
      simp only [laws_markText.l0, Option.bind_some]
      have hb : n < 9223372036854775807 := by have p18 : (10 : Nat) ^ 18 = 1000000000000000000 := by decide
                                              have := Nat.pow_le_pow_right (show 0 < 10 by decide) (show d + 1 ≤ 18 by omega)
                                              omega
      rw [if_pos (by omega), if_pos (by rw [bytesSize]; simp; omega), w_ten n hb]
      exact hr k (by omega)
theorem markText_some (n : Nat) (hn : n < 10 ^ 18) : ∃ r, ∀ k, 20 < k → laws_markText.f k (n : Int) = some r := by
  by_cases h0 : n = 0
  · subst h0
    exact ⟨_, fun k _ => by unfold laws_markText.f; rw [if_pos (by simp)]⟩
  · obtain ⟨r, hr⟩ := markText_l0 18 n ⟨#[]⟩ hn (by decide) (by simp [ByteArray.size])
    exact ⟨r, fun k hk => by unfold laws_markText.f; rw [if_neg (by omega)]; exact hr k (by omega)⟩
/-- The mark's text. -/
noncomputable def mt (n : Nat) : ByteArray := @Classical.epsilon ByteArray ⟨ByteArray.empty⟩ fun r => ∀ k, 20 < k → laws_markText.f k (n : Int) = some r
theorem mt_eq (n : Nat) (h : n < 10 ^ 18) (k : Nat) (hk : 20 < k) : laws_markText.f k (n : Int) = some (mt n) := Classical.epsilon_spec (markText_some n h) k hk
theorem mt_at (n : Nat) (h : n ≤ 4294967296) (k : Nat) (hk : 20 < k) : laws_markText.f k (n : Int) = some (mt n) :=
  mt_eq n (Nat.lt_of_le_of_lt h (by decide)) k hk
/-- A marked list. -/
noncomputable def mkd (n : Nat) : List S56 := (List.range n).map fun i => ⟨mt (1 + 2 * i), mt (1 + 2 * i + 1)⟩
theorem mkd_len (n : Nat) : (mkd n).length = n := by simp [mkd]
theorem mkd_succ (n : Nat) : mkd (n + 1) = mkd n ++ [⟨mt (1 + 2 * n), mt (1 + 2 * n + 1)⟩] := by simp [mkd, List.range_succ]
theorem markPairS_l0 (n : Nat) (hl : n ≤ 1073741824) (d : Nat) : ∀ (k i : Nat) (x : List S56), x.length = n → n - i = d → i ≤ n → x.take i = mkd i → d + 21 < k →
    laws_markPairS.l0 k x ((1 + 2 * i : Nat) : Int) (i : Int) = some (((1 + 2 * n : Nat) : Int), mkd n) := by
  induction d with
  | zero =>
    intro k i x hx hd hi ht hk
    obtain ⟨k, rfl⟩ : ∃ m, k = m + 1 := ⟨k - 1, by omega⟩
    have : i = n := by omega
    subst this
    simp only [laws_markPairS.l0]
    rw [if_neg (by omega)]
    rw [List.take_of_length_le (by omega)] at ht
    rw [ht]
  | succ d ih =>
    intro k i x hx hd hi ht hk
    obtain ⟨k, rfl⟩ : ∃ m, k = m + 1 := ⟨k - 1, by omega⟩
    have hlt : i < x.length := by omega
    have q1 : 1 + 2 * i ≤ 4294967296 := by omega
    have q2 : 1 + 2 * i + 1 ≤ 4294967296 := by omega
    have q3 : 20 < k := by omega
    have b1 : 1 + 2 * i < 9223372036854775807 := Nat.lt_of_le_of_lt q1 (by decide)
    have b2 : 1 + 2 * i + 1 < 9223372036854775807 := Nat.lt_of_le_of_lt q2 (by decide)
    simp only [laws_markPairS.l0]
    rw [if_pos (by omega), mt_at (1 + 2 * i) q1 k q3]
    simp -implicitDefEqProofs only [Option.bind_some]
    have hn : x.length ≤ 9223372036854775807 := by omega
    simp only [w_suc (1 + 2 * i) b1, w_suc (1 + 2 * i + 1) b2, up64 hlt hn]
    rw [if_pos (by omega), mt_at (1 + 2 * i + 1) q2 k q3]
    simp -implicitDefEqProofs only [Option.bind_some]
    rw [show 1 + 2 * i + 1 + 1 = 1 + 2 * (i + 1) by omega, Int.toNat_natCast]
    refine ih k (i + 1) _ (by rw [List.length_set, List.length_set]; exact hx) (by omega) (by omega) ?_ (by omega)
    rw [mkd_succ, List.take_succ_eq_append_getElem (by rw [List.length_set, List.length_set]; omega), List.getElem_set_self, List.take_set_of_le (Nat.le_refl i), List.take_set_of_le (Nat.le_refl i), ht]
    simp [rd_T56, List.getD, List.getElem?_set_self hlt]
theorem markPairS_eq (x : List S56) (hl : x.length ≤ 1073741824) (k : Nat) (hk : x.length + 21 < k) : laws_markPairS.f k x 1 = some (((1 + 2 * x.length : Nat) : Int), mkd x.length) := by
  unfold laws_markPairS.f
  exact markPairS_l0 x.length hl x.length k 0 x rfl (by omega) (by omega) (by simp [mkd]) hk
theorem heldPairS_l0 (n : Nat) (hl : n ≤ 1073741824) (d : Nat) : ∀ (k i : Nat), n - i = d → i ≤ n → d + 21 < k → laws_heldPairS.l0 k (mkd n) ((1 + 2 * i : Nat) : Int) (i : Int) = some ((1 + 2 * n : Nat) : Int) := by
  induction d with
  | zero =>
    intro k i hd hi hk
    obtain ⟨k, rfl⟩ : ∃ m, k = m + 1 := ⟨k - 1, by omega⟩
    have : i = n := by omega
    subst this
    simp only [laws_heldPairS.l0]
    rw [if_neg (by rw [mkd_len]; omega)]
  | succ d ih =>
    intro k i hd hi hk
    obtain ⟨k, rfl⟩ : ∃ m, k = m + 1 := ⟨k - 1, by omega⟩
    have hlt : i < n := by omega
    have q1 : 1 + 2 * i ≤ 4294967296 := by omega
    have q2 : 1 + 2 * i + 1 ≤ 4294967296 := by omega
    have q3 : 20 < k := by omega
    have b1 : 1 + 2 * i < 9223372036854775807 := Nat.lt_of_le_of_lt q1 (by decide)
    have b2 : 1 + 2 * i + 1 < 9223372036854775807 := Nat.lt_of_le_of_lt q2 (by decide)
    have hr : rd_T56 (mkd n) (i : Int) = ⟨mt (1 + 2 * i), mt (1 + 2 * i + 1)⟩ := by simp [rd_T56, mkd, List.getD, hlt]
    simp only [laws_heldPairS.l0]
    rw [if_pos (by rw [mkd_len]; omega), if_pos (by omega), mt_at (1 + 2 * i) q1 k q3, hr]
    simp -implicitDefEqProofs only [Option.bind_some, if_true]
    have hn : n ≤ 9223372036854775807 := by omega
    simp only [w_suc (1 + 2 * i) b1, w_suc (1 + 2 * i + 1) b2, up64 hlt hn]
    rw [mt_at (1 + 2 * i + 1) q2 k q3]
    simp -implicitDefEqProofs only [Option.bind_some, if_true]
    rw [show 1 + 2 * i + 1 + 1 = 1 + 2 * (i + 1) by omega]
    exact ih k (i + 1) (by omega) (by omega) (by omega)
theorem heldPairS_eq (n : Nat) (hl : n ≤ 1073741824) (k : Nat) (hk : n + 21 < k) : laws_heldPairS.f k (mkd n) 1 = some ((1 + 2 * n : Nat) : Int) := by
  unfold laws_heldPairS.f
  exact heldPairS_l0 n hl n k 0 (by omega) (by omega) hk
end Go.Proofs.YtpkfdjlmflmilaaGreatDoor.Pure
end
section
namespace Go.Proofs.YtpkfdjlmflmilaaGreatDoor.Pure
open Go.RowKit Go.Proofs.YtpkfdjlmflmilaaGreatDoor.Q Go.Proofs.YtpkfdjlmflmilaaGreatDoorW.PrintWords Go.Proofs.YtpkfdjlmflmilaaGreatDoorW.PrintLast
set_option linter.unusedVariables false
theorem bank_len (l : List S56) (ns : List ByteArray) (n : Int) (a : ByteArray) (x : Int) (b : ByteArray) (y : Int) : (bankN l ns n a x b y).1.length ≤ l.length + 2 := by
  unfold bankN
  split
  · exact two_len _ _ _ _ _
  · simp
theorem FnExactBurn : laws_FnExactBurn.PureF := by
  intro l a d n ⟨hw, hl⟩ ha hd hn
  obtain ⟨r, hr, hr'⟩ := szPairS_eq l hw hl
  refine ⟨l.length + 40 + 1 + 1 + 1, ?_⟩
  unfold laws_FnExactBurn.f
  by_cases h0 : (a.size : Int) > 1048576
  · rw [if_pos h0]
  · rw [if_neg h0]
    by_cases h00 : (d.size : Int) > 1048576
    · rw [if_pos h00]
    · rw [if_neg h00, hr _ (by omega), Option.bind_some]
      by_cases h : r < 0
      · rw [if_pos h]
      · have h20 := hr' (by omega)
        have hlm : (l.map cv).length = l.length := List.length_map ..
        obtain ⟨p, hp⟩ : ∃ p, p = bankN (l.map cv) [a, d] n (bKey a d) (-n) (sKey d) (-n) := ⟨_, rfl⟩
        have e1 : spec_Burn.f (l.map cv) a d n = some p := by rw [hp]; rfl
        have e2 : impl_Burn.f (l.map cv) a d n = some p := by rw [hp]; rfl
        have hG : p.1.length ≤ l.length + 2 := by rw [hp, ← hlm]; exact bank_len _ _ _ _ _ _ _
        clear hp
        rw [if_neg h, toPairS_eq l h20 _ (by omega), Option.bind_some, e1, Option.bind_some, Option.bind_some, e2, Option.bind_some]
        obtain ⟨G, c⟩ := p
        simp only at hG
        rw [eqPairS_eq G G (by omega) _ (by omega), Option.bind_some, if_pos (by simp), bne_self_eq_false]
        simp only [laws_FnExactBurn.j0]
        rw [if_neg (by simp), toPairS_eq l h20 _ (by omega), Option.bind_some, eqPairS_eq _ _ (by omega) _ (by omega), Option.bind_some, if_pos (by simp), markPairS_eq _ (by omega) _ (by omega), Option.bind_some, if_neg (by omega),
          eqPairS_eq G G (by omega) _ (by omega), Option.bind_some, if_pos (by simp), bne_self_eq_false]
        simp only [laws_FnExactBurn.j1]
        rw [if_neg (by simp), markPairS_eq G (by omega) _ (by omega), Option.bind_some, heldPairS_eq G.length (by omega) _ (by omega), Option.bind_some, if_neg (by omega), if_pos rfl, toPairS_eq l h20 _ (by omega), Option.bind_some, e2, Option.bind_some,
          eqPairS_eq G G (by omega) _ (by omega), Option.bind_some, if_pos (by simp), bne_self_eq_false]
        simp only [laws_FnExactBurn.j2]
        rw [if_neg (by simp), heldPairS_eq G.length (by omega) _ (by omega), Option.bind_some, if_neg (by omega), if_pos rfl]
end Go.Proofs.YtpkfdjlmflmilaaGreatDoor.Pure
end
section
namespace Go.Proofs.YtpkfdjlmflmilaaGreatDoor.fnExactBurn
open Go.ChangeShapes Go.WideShapes Go.ChangeAt Go.RowKit Go.Proofs.YtpkfdjlmflmilaaGreatDoorW.PrintWords Go.Proofs.YtpkfdjlmflmilaaGreatDoorW.PrintLast Go.Proofs.YtpkfdjlmflmilaaGreatDoor.Q
open Go.ChangeMaps (open_string shut_string)
set_option linter.unusedVariables false
set_option maxRecDepth 100000
instance : Inhabited ByteArray := ⟨ByteArray.empty⟩
instance : Inhabited S52 := ⟨z52⟩
theorem own : ownKnob Tryz.prog.godebug = none := by kernel_rfl
theorem laidOut : laidOutB Tryz.prog = true := by kernel_rfl
theorem contract (H : Type) (enc : TypeId × Value → H) (W : World) (base : Nat) (args : Array Value) (ds gs : List (DataW H)) (before : List MemPlace)
    (hval0 : ∀ (j : Nat) t v, Tryz.f3.params[j]? = some t → args[j]? = some v → Value.okWide Tryz.prog W .any base t v)
    (hW : DataW.Whole enc Tryz.prog Tryz.f3.params.toList Rows.fnExactBurnSpec.vars false W args.toList ds gs before)
    (hsz0 : (DataW.weightsEach Tryz.prog (Tryz.f3.params.toList ++ (OpenSpec.ofChange Rows.fnExactBurnSpec).bare.plain.varTypes Tryz.prog) (ds ++ gs)).all (· ≤ reachBytes) = true) (hL : laidMetH Tryz.prog Rows.fnExactBurnRow.laid W) :
    Calls Tryz.prog 3 args W fun e W' => ∃ v, e = .returned v ∧ Rows.fnExactBurnSpec.post enc Tryz.prog Tryz.f3 false true false false W args v W' := by
  have htb : Tb.TB W := Tb.tb_of_laid hL
  have hsz : (DataW.weightsEach Tryz.prog (Tryz.f3.params.toList ++ Rows.fnExactBurnSpec.plain.varTypes Tryz.prog) (ds ++ gs)).all (· ≤ reachBytes) = true := hsz0
  have hval : ∀ (j : Nat) t v, Tryz.f3.params[j]? = some t → args[j]? = some v → Value.okWide Tryz.prog W .any base t v := hval0
  have hW' := hW
  obtain ⟨p, q, hA0, hV, rfl, hfz, hnd⟩ := hW
  have hA : DataW.TrodAll enc Tryz.prog W 0 (fun _ => true) true Tryz.f3.params.toList args.toList ds p := hA0
  rw [Tryz.params3] at hA hval hsz
  obtain ⟨v0, vs0, d0, ds0, p0, q0, hargs, rfl, rfl, h0, r0⟩ := trodAll_cons hA
  obtain ⟨v1, vs1, d1, ds1, p1, q1, rfl, rfl, rfl, h1, r1⟩ := trodAll_cons r0
  obtain ⟨v2, vs2, d2, ds2, p2, q2, rfl, rfl, rfl, h2, r2⟩ := trodAll_cons r1
  obtain ⟨v3, vs3, d3, ds3, p3, q3, rfl, rfl, rfl, h3, r3⟩ := trodAll_cons r2
  obtain ⟨rfl, rfl, rfl⟩ := trodAll_nil r3
  obtain rfl : args = #[v0, v1, v2, v3] := by cases args; simp_all
  obtain ⟨rfl, rfl⟩ := trodVars_none hV
  have k0 := h0
  have lt0 : ∀ x ∈ p0, x.block < W.heap.size := by obtain ⟨m, hm⟩ := k0; exact DataW.trod_lt m _ _ _ hm
  obtain ⟨A0, len0, c0, rfl⟩ := okWide_slice Tryz.underlying22 (hval 0 22 v0 rfl rfl)
  obtain ⟨fuel0, hf0⟩ := h0
  obtain ⟨l0, ⟨A0', c0', e0, hc0, hr0⟩, w0⟩ := (Fr.opens_slice Tryz.underlying22 (by kernel_rfl) (Fr.opens_struct2 (d0 := Kd.string) (d1 := Kd.string) Tryz.underlying52 (by kernel_rfl) (by kernel_rfl) (Fr.opens_string Tryz.underlying9) (Fr.opens_string Tryz.underlying9) (fun x : S52 => (x.f0, x.f1)) (fun a b => ⟨a, b⟩) (fun _ _ => rfl))) _ _ _ hf0
  simp [Value.cells] at e0
  obtain ⟨rfl, rfl, rfl⟩ := e0
  obtain ⟨a1, rfl, rfl, rfl, y1⟩ := open_string Tryz.underlying9 (hval 1 9 v1 rfl rfl) h1
  have w1 : a1.size ≤ 140737488351232 := by
    have z := sized_string hsz (j := 1) (t := 9) rfl rfl
    rw [Array.length_toList] at z
    exact z
  obtain ⟨a2, rfl, rfl, rfl, y2⟩ := open_string Tryz.underlying9 (hval 2 9 v2 rfl rfl) h2
  have w2 : a2.size ≤ 140737488351232 := by
    have z := sized_string hsz (j := 2) (t := 9) rfl rfl
    rw [Array.length_toList] at z
    exact z
  obtain ⟨a3, rfl, rfl, rfl, w3⟩ := open_int Tryz.underlying3 (hval 3 3 v3 rfl rfl) h3
  clear hA0 hval0 hsz0 hsz
  obtain ⟨k, hk⟩ := Pure.FnExactBurn l0 a1 a2 a3 w0 w1 w2 w3
  refine (Q.laws_FnExactBurn.calls k A0 c0 l0 a1 a2 a3 true W hr0 hc0 (htab := htb) hk).mono fun e W' ⟨he, bel0⟩ => ?_
  have bel : Below W.heap.size W W' := bel0
  subst he
  exact ⟨_, rfl, _, _, _, [], _, [], hW', trodAll_mk1 (shut_bool Tryz.underlying4 _), (trodAll_cons_mk (Below.trod laidOut (by kernel_rfl) (of_decide_eq_true (by kernel_rfl)) k0 bel lt0) (trodAll_cons_mk (shut_string Tryz.underlying9 y1) (trodAll_cons_mk (shut_string Tryz.underlying9 y2) (trodAll_cons_mk (shut_int Tryz.underlying3 w3) trodAll_mk0)))), rfl, bel.frame _, fun h => by cases h⟩
theorem reads (os : Os) {H : Type} (enc : TypeId × Value → H) : ∃ places, DataW.whole enc Tryz.prog ((Tb.laidWorld os).forCall (fun _ _ => 0) ⟨#[], #[.slice none 0 0, .string ByteArray.empty, .string ByteArray.empty, .int .i64 0], []⟩).memory Tryz.f3.params.toList Rows.fnExactBurnSpec.vars false (#[.slice none 0 0, .string ByteArray.empty, .string ByteArray.empty, .int .i64 0] : Array Value).toList 8 = some ([.nil, .lit (.string []), .lit (.string []), .lit (.int .i64 0)], [], places) := ⟨[], by kernel_rfl⟩
theorem laid_met (os : Os) : laidMetH Tryz.prog Rows.fnExactBurnRow.laid ((Tb.laidWorld os).forCall (fun _ _ => 0) ⟨#[], #[.slice none 0 0, .string ByteArray.empty, .string ByteArray.empty, .int .i64 0], []⟩).memory := Tb.laidWorld_met os _
theorem lifted (os : Os) (started : os.Started) (H : Type) (enc : TypeId × Value → H) (F : Stop.Interp) :
    ReturnsInHanded {} Tryz.checked os 3 .any ((OpenSpec.ofChange Rows.fnExactBurnSpec).preRow enc Tryz.prog Tryz.f3 Rows.fnExactBurnRow.domain false Rows.fnExactBurnRow.laid) (((OpenSpec.ofChange Rows.fnExactBurnSpec).at F).post enc Tryz.prog Tryz.f3 false true false false) := by
  obtain ⟨places, hx⟩ := reads os enc
  refine returnsInHanded_of_row (C := Tryz.checked) (s := OpenSpec.ofChange Rows.fnExactBurnSpec) own started (by kernel_rfl) Tryz.func3
    (witness_row_atRef (enc := enc) (C := Tryz.checked) false (Tb.laidWorld os) #[.slice none 0 0, .string ByteArray.empty, .string ByteArray.empty, .int .i64 0] rfl (by kernel_rfl) (by kernel_rfl) (by kernel_rfl)
      (OpenSpec.preRow_of_cond 8 hx (by kernel_rfl) (fun k hk => by cases hk) (by kernel_rfl) (laid_met os))) ?_
  intro W base args ds gs before hval hW _ _ hsz hL _ _
  exact contract H enc W base args ds gs before hval hW hsz hL
theorem said : Rows.FnExactBurnSaid :=
  OpenClaim.holds_of_cond 3 Tryz.f3 rfl rfl rfl rfl rfl rfl rfl ⟨rfl, rfl, rfl, rfl, rfl⟩ rfl rfl rfl rfl rfl (by kernel_rfl) Tryz.func3 (by kernel_rfl)
    (of_decide_eq_true (by kernel_rfl)) (by unfold Func.isWrapper; first | (rw [if_pos (by decide +kernel)]; kernel_rfl) | (rw [if_neg (by decide +kernel)]; exact ⟨rfl, rfl⟩))
    (fun os started H enc _ F => by rw [OpenClaim.pre_eq_preRow]; exact lifted os started H enc F)
theorem plain (f : FuncId) (fn : Func) (hf : Tryz.pinned.checked.prog.funcNamed "loop.example/g00298/laws.FnExactBurn" = some f) (hfn : Tryz.pinned.checked.prog.funcs[f]? = some fn) :
    true = Tryz.pinned.checked.prog.looks [] ∧ ∀ (j : Nat) t, fn.params[j]? = some t → Tryz.pinned.checked.prog.wantsStandIn t = false := by
  obtain rfl : f = 3 := Option.some.inj ((show Tryz.prog.funcNamed "loop.example/g00298/laws.FnExactBurn" = some 3 by kernel_rfl).symm.trans hf) |>.symm
  obtain rfl : fn = Tryz.f3 := (Option.some.inj (Tryz.func3.symm.trans hfn)).symm
  refine ⟨by kernel_rfl, fun j t ht => ?_⟩
  rw [Tryz.params3] at ht
  have hm := Array.mem_of_getElem? ht
  simp only [List.mem_toArray, List.mem_cons, List.not_mem_nil, or_false] at hm
  rcases hm with rfl | rfl | rfl | rfl
  all_goals first | exact (show Tryz.prog.wantsStandIn 22 = false by kernel_rfl) | exact (show Tryz.prog.wantsStandIn 9 = false by kernel_rfl) | exact (show Tryz.prog.wantsStandIn 3 = false by kernel_rfl)
theorem card : Rows.FnExactBurnCardSaid :=
  Claim7.holds_tied_plain_at .later [] _ _ _ _ said (fun _ h => by cases h) (by kernel_rfl) (fun _ h => by cases h) fnExactBurn_row_tie rfl ⟨rfl, rfl⟩ (by kernel_rfl) rfl plain (by kernel_rfl)
#print axioms card
end Go.Proofs.YtpkfdjlmflmilaaGreatDoor.fnExactBurn
namespace Go.Proofs.YtpkfdjlmflmilaaGreatDoor
/-- The card, under a short name, for the claim. -/
theorem fnExactBurn_holds : Rows.FnExactBurnCardSaid := fnExactBurn.card
end Go.Proofs.YtpkfdjlmflmilaaGreatDoor
end
