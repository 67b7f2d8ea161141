-- Texts of this seat, cut down to what the claim's theorem reaches and joined (by shake.py).
import Derived.Shelf.Small.Strs
import Derived.Shelf.Strconv.Atoi
import Derived.Shelf.Strconv.Itoa0
import Derived.Shelf.Strconv.Itoa1
import Derived.Shelf.LaysM
import Derived.Shelf.Strconv.Itoa2
import Derived.Shelf.Strconv.Itoa3
import Derived.Shelf.Strconv.AtoiErrFast
import Derived.Shelf.Strconv.ParseIntEmpty
import Derived.Shelf.Strconv.AtoiFail
import Derived.Shelf.Strconv.Clone
import Derived.Shelf.Strconv.SyntaxError
import Derived.Shelf.LaysC
import Derived.Shelf.Strconv.ToError
import Derived.Shelf.Strconv.Lower
import Derived.Shelf.Strconv.ParseUint10
import Derived.Shelf.Strconv.ParseUint10Empty
import Derived.Shelf.Strconv.ParseUint10Any
import Derived.Shelf.Strconv.ParseInt10
import Derived.Shelf.Strconv.AtoiLong
import Derived.Shelf.Strconv.AtoiInnerAll
import Derived.Shelf.Strconv.RangeError
import Derived.Shelf.Strconv.ToErrorRange
import Derived.Shelf.Strconv.AtoiAll
import Derived.Shelf.Strconv.ErrVarAll
import Derived.Shelf.Strings.Prefix
import Derived.Test.YtpkfdjlmflmilaaGreatDoorProg
import Derived.WalkKit
import Derived.Lib.Walk
import Derived.Shelf.Abstract
import Derived.Deep.LoopGhost
import Derived.Deep.Draws
import Derived.Lib.AtoiAllCases
import Derived.Lib.Strings
import Derived.WideShapes
import Derived.Lib.SliceRun
import Derived.Lib.JoinLaws
import Derived.Lib.AppendZeros
import Derived.Lib.AppendZerosOnto
import Derived.Lib.Overlaps
import Derived.Laws.Externs
import Derived.Laws.CopyRow
import Derived.Laws.NewBlocks
import Derived.Deep.RegionLaw
import Derived.Outline
import Derived.Test.YtpkfdjlmflmilaaGreatDoorBank1
import Derived.Test.YtpkfdjlmflmilaaGreatDoorBank2
section
namespace Go.Proofs.YtpkfdjlmflmilaaGreatDoor.Q
open Go.RowKit Go.Proofs.YtpkfdjlmflmilaaGreatDoorW.PrintWords Go.Proofs.YtpkfdjlmflmilaaGreatDoorW.PrintLast Go.Proofs.YtpkfdjlmflmilaaGreatDoorW.PrintMore
attribute [local go_sem] max2_int min2_int max_two min_two max_three min_three max_four min_four   -- for this text's walks alone
set_option linter.unusedVariables false
set_option linter.unusedSimpArgs false

/-! ### impl_storeCode: function 48 -/
def impl_storeCode.j0 : Nat → List (S56) → Bool → Option (Int)
  | 0, _, _ => none
  | k + 1, x0, x5 => if x5 = true then (some 2) else ((impl_StoreOK.f x0).bind fun t150 => (if t150 = true then (some 0) else (some 1)))
def impl_storeCode.f (k : Nat) (l0 : List (S56)) (l1 : List ByteArray) : Option (Int) := (impl_Pair_77.f l0).bind fun t148 => (if t148 = true then ((impl_isText.f l1).bind fun t149 => (impl_storeCode.j0 k l0 (!t149))) else (impl_storeCode.j0 k l0 true))
set_option maxHeartbeats 8000000 in
set_option maxRecDepth 100000 in
theorem impl_storeCode.calls (k : Nat) (A0 : Option Addr) (c0 : Nat) (l0 : List (S56)) (A1 : Option Addr) (c1 : Nat) (l1 : List ByteArray) (r : Int) (w : World) (hr0 : Kd.C k56 w A0 l0.length l0) (hc0 : l0.length ≤ c0) (hr1 : Kd.C Kd.string w A1 l1.length l1) (hc1 : l1.length ≤ c1) (h : impl_storeCode.f k l0 l1 = some r) :
    Calls Tryz.prog 48 #[.slice A0 l0.length c0, .slice A1 l1.length c1] w fun e w' => e = .returned (.int .i64 r) ∧ Below w.heap.size w w' := by
  have HR0 := Aside0.mk hr0
  have HC0 := Aside0.mk hc0
  clear hr0 hc0
  have HR1 := Aside0.mk hr1
  have HC1 := Aside0.mk hc1
  clear hr1 hc1
  have HB := Aside0.mk (Below.refl w.heap.size w)
  have H : ((impl_Pair_77.f l0).bind fun t148 => (if t148 = true then ((impl_isText.f l1).bind fun t149 => (impl_storeCode.j0 k l0 (!t149))) else (impl_storeCode.j0 k l0 true))) = some r := h
  clear h
  have HC3 := Aside0.mk H
  clear H
  go_enter Tryz.func48, Tryz.ntmps48
  go_upto_region 1 with (fail)
  go_cut [5] (fun v5 wc => ∃ (kq : Nat) (x5_2 : Bool), v5 = .bool x5_2 ∧ Aside0 (impl_storeCode.j0 kq l0 x5_2 = some r) ∧ Aside0 (kq ≤ k) ∧ Aside0 (Below w.heap.size w wc))
  case first =>
    have H := HC3.out
    clear HC3
    replace H := Option.bind_eq_some_iff.mp H
    obtain ⟨t148, A40, H⟩ := H
    replace H : (if t148 = true then ((impl_isText.f l1).bind fun t149 => (impl_storeCode.j0 k l0 (!t149))) else (impl_storeCode.j0 k l0 true)) = some r := H
    have A4 := Aside0.mk A40
    clear A40
    by_cases c5 : t148 = true
    · subst c5
      have H1 : ((impl_isText.f l1).bind fun t149 => (impl_storeCode.j0 k l0 (!t149))) = some r := by rw [if_pos rfl] at H; exact H
      clear H
      have H := H1
      clear H1
      replace H := Option.bind_eq_some_iff.mp H
      obtain ⟨t149, A60, H⟩ := H
      replace H : (impl_storeCode.j0 k l0 (!t149)) = some r := H
      have A6 := Aside0.mk A60
      clear A60
      have H' := Aside0.mk H
      clear H
      go_wp2_with (first | ((with_reducible refine gate_callee (f := 77) rfl ?_); refine goesL_ (some 7) rfl rfl Tryz.func77 (by kernel_rfl) rfl #[.slice A0 l0.length c0] rfl (by (try simp only [List.map_toArray, List.map_cons, List.map_nil]); first | done | rfl | (simp only [List.length_drop, List.length_take]; rfl)) ?_; (with_reducible refine (impl_Pair_77.calls _ _ l0 true _ ?side1 ?side2 A4.out).mono ?_); (case side1 => repeat (first | exact (Kd.C_below HR0.out HB.out) | (with_reducible refine Kd.C_alloc ?_ _) | (with_reducible refine Kd.C_drewN ?_ _) | (with_reducible refine Kd.C_drew ?_))); (case side2 => exact HC0.out); rintro e w' ⟨rfl, ⟨nd, rfl⟩⟩; refine ⟨_, rfl, ?_⟩) | (go_at_call 78; (with_reducible refine (impl_isText.calls _ _ l1 t149 _ ?side1 ?side2 A6.out).mono ?_); (case side1 => repeat (first | exact (Kd.C_below HR1.out (by repeat (first | (with_reducible first | exact HB.out | apply below_alloc | apply pw_below_drewN | apply below_drew1) | exact HB.out))) | (with_reducible refine Kd.C_alloc ?_ _) | (with_reducible refine Kd.C_drewN ?_ _) | (with_reducible refine Kd.C_drew ?_))); (case side2 => exact HC1.out); rintro e w' ⟨rfl, ⟨nd, rfl⟩⟩))
      go_meet
      case rel => exact ⟨_, (!t149), (by first | rfl | (simp; done) | (simp [*]; done)), H', ⟨by first | omega | exact Nat.le_refl _⟩, ⟨by repeat (first | (with_reducible first | exact HB.out | apply below_alloc | apply pw_below_drewN | apply below_drew1) | exact HB.out)⟩⟩
    · replace c5 := Bool.eq_false_iff.mpr c5
      subst c5
      have H1 : (impl_storeCode.j0 k l0 true) = some r := by rw [if_neg (show ¬ (false = true) by decide)] at H; exact H
      clear H
      have H := H1
      clear H1
      have H' := Aside0.mk H
      clear H
      go_wp2_with (first | ((with_reducible refine gate_callee (f := 77) rfl ?_); refine goesL_ (some 7) rfl rfl Tryz.func77 (by kernel_rfl) rfl #[.slice A0 l0.length c0] rfl (by (try simp only [List.map_toArray, List.map_cons, List.map_nil]); first | done | rfl | (simp only [List.length_drop, List.length_take]; rfl)) ?_; (with_reducible refine (impl_Pair_77.calls _ _ l0 false _ ?side1 ?side2 A4.out).mono ?_); (case side1 => repeat (first | exact (Kd.C_below HR0.out HB.out) | (with_reducible refine Kd.C_alloc ?_ _) | (with_reducible refine Kd.C_drewN ?_ _) | (with_reducible refine Kd.C_drew ?_))); (case side2 => exact HC0.out); rintro e w' ⟨rfl, ⟨nd, rfl⟩⟩; refine ⟨_, rfl, ?_⟩))
      go_meet
      case rel => exact ⟨_, (true), (by first | rfl | (simp; done) | (simp [*]; done)), H', ⟨by first | omega | exact Nat.le_refl _⟩, ⟨by repeat (first | (with_reducible first | exact HB.out | apply below_alloc | apply pw_below_drewN | apply below_drew1) | exact HB.out)⟩⟩
  case rest =>
    clear HC3
    try clear c1
    try clear p2
    try clear c4
    try clear c5
    obtain ⟨kq, x5_2, rfl, HA, HJ2, HB⟩ := hcut
    cases kq with
    | zero => exact absurd HA.out (by simp [impl_storeCode.j0])
    | succ kj2 =>
      have H := HA.out
      clear HA
      simp only [impl_storeCode.j0] at H
      by_cases c7 : x5_2 = true
      · subst c7
        have H1 : (some 2) = some r := by rw [if_pos rfl] at H; exact H
        clear H
        have H := H1
        clear H1
        obtain rfl := Option.some.inj H
        go_wp2
        go_ret
        exact ⟨by first | rfl | (simp [errW_none, errW_some] <;> rfl) | (simp [*, errW_none, errW_some] <;> rfl), by repeat (first | (with_reducible first | exact HB.out | apply below_alloc | apply pw_below_drewN | apply below_drew1) | exact HB.out)⟩
      · replace c7 := Bool.eq_false_iff.mpr c7
        subst c7
        have H1 : ((impl_StoreOK.f l0).bind fun t150 => (if t150 = true then (some 0) else (some 1))) = some r := by rw [if_neg (show ¬ (false = true) by decide)] at H; exact H
        clear H
        have H := H1
        clear H1
        replace H := Option.bind_eq_some_iff.mp H
        obtain ⟨t150, A80, H⟩ := H
        replace H : (if t150 = true then (some 0) else (some 1)) = some r := H
        have A8 := Aside0.mk A80
        clear A80
        by_cases c9 : t150 = true
        · subst c9
          have H1 : (some 0) = some r := by rw [if_pos rfl] at H; exact H
          clear H
          have H := H1
          clear H1
          obtain rfl := Option.some.inj H
          go_wp2_with (first | ((with_reducible refine gate_callee (f := 79) rfl ?_); refine goesL_ (some 16) rfl rfl Tryz.func79 (by kernel_rfl) rfl #[.slice A0 l0.length c0] rfl (by (try simp only [List.map_toArray, List.map_cons, List.map_nil]); first | done | rfl | (simp only [List.length_drop, List.length_take]; rfl)) ?_; (with_reducible refine (impl_StoreOK.calls _ _ l0 true _ ?side1 ?side2 A8.out).mono ?_); (case side1 => repeat (first | exact (Kd.C_below HR0.out HB.out) | (with_reducible refine Kd.C_alloc ?_ _) | (with_reducible refine Kd.C_drewN ?_ _) | (with_reducible refine Kd.C_drew ?_))); (case side2 => exact HC0.out); rintro e w10 ⟨rfl, hb⟩; refine ⟨_, rfl, ?_⟩; have n0_ := Aside0.mk (below_step (by repeat (first | (with_reducible first | exact HB.out | apply below_alloc | apply pw_below_drewN | apply below_drew1) | exact HB.out)) hb); clear HB; have HB := n0_; clear n0_; (try clear hb); (try clear hb2); (try clear hk); (try clear hi)))
          go_ret
          exact ⟨by first | rfl | (simp [errW_none, errW_some] <;> rfl) | (simp [*, errW_none, errW_some] <;> rfl), by repeat (first | (with_reducible first | exact HB.out | apply below_alloc | apply pw_below_drewN | apply below_drew1) | exact HB.out)⟩
        · replace c9 := Bool.eq_false_iff.mpr c9
          subst c9
          have H1 : (some 1) = some r := by rw [if_neg (show ¬ (false = true) by decide)] at H; exact H
          clear H
          have H := H1
          clear H1
          obtain rfl := Option.some.inj H
          go_wp2_with (first | ((with_reducible refine gate_callee (f := 79) rfl ?_); refine goesL_ (some 16) rfl rfl Tryz.func79 (by kernel_rfl) rfl #[.slice A0 l0.length c0] rfl (by (try simp only [List.map_toArray, List.map_cons, List.map_nil]); first | done | rfl | (simp only [List.length_drop, List.length_take]; rfl)) ?_; (with_reducible refine (impl_StoreOK.calls _ _ l0 false _ ?side1 ?side2 A8.out).mono ?_); (case side1 => repeat (first | exact (Kd.C_below HR0.out HB.out) | (with_reducible refine Kd.C_alloc ?_ _) | (with_reducible refine Kd.C_drewN ?_ _) | (with_reducible refine Kd.C_drew ?_))); (case side2 => exact HC0.out); rintro e w11 ⟨rfl, hb⟩; refine ⟨_, rfl, ?_⟩; have n0_ := Aside0.mk (below_step (by repeat (first | (with_reducible first | exact HB.out | apply below_alloc | apply pw_below_drewN | apply below_drew1) | exact HB.out)) hb); clear HB; have HB := n0_; clear n0_; (try clear hb); (try clear hb2); (try clear hk); (try clear hi)))
          go_ret
          exact ⟨by first | rfl | (simp [errW_none, errW_some] <;> rfl) | (simp [*, errW_none, errW_some] <;> rfl), by repeat (first | (with_reducible first | exact HB.out | apply below_alloc | apply pw_below_drewN | apply below_drew1) | exact HB.out)⟩

/-! ### impl_NameOK: function 55 -/
def impl_NameOK.l0 : Nat → ByteArray → Int → Int → Option (Bool)
  | 0, _, _, _ => none
  | k + 1, x0, x7, x8 => if x8 < x7 then (if 0 ≤ x8 then (if x8 < (x0.size : Int) then (if (bt x0 x8) ≥ 97 then (if (bt x0 x8) ≤ 122 then (impl_NameOK.l0 k x0 x7 (wrap64 (x8 + 1))) else (if (bt x0 x8) ≥ 65 then (if (bt x0 x8) ≤ 90 then (impl_NameOK.l0 k x0 x7 (wrap64 (x8 + 1))) else (if ((bt x0 x8) = 95) then (impl_NameOK.l0 k x0 x7 (wrap64 (x8 + 1))) else (if x8 = 0 then (some false) else (if (bt x0 x8) < 48 then (some false) else (if (bt x0 x8) > 57 then (some false) else (impl_NameOK.l0 k x0 x7 (wrap64 (x8 + 1)))))))) else (if ((bt x0 x8) = 95) then (impl_NameOK.l0 k x0 x7 (wrap64 (x8 + 1))) else (if x8 = 0 then (some false) else (if (bt x0 x8) < 48 then (some false) else (if (bt x0 x8) > 57 then (some false) else (impl_NameOK.l0 k x0 x7 (wrap64 (x8 + 1))))))))) else (if (bt x0 x8) ≥ 65 then (if (bt x0 x8) ≤ 90 then (impl_NameOK.l0 k x0 x7 (wrap64 (x8 + 1))) else (if ((bt x0 x8) = 95) then (impl_NameOK.l0 k x0 x7 (wrap64 (x8 + 1))) else (if x8 = 0 then (some false) else (if (bt x0 x8) < 48 then (some false) else (if (bt x0 x8) > 57 then (some false) else (impl_NameOK.l0 k x0 x7 (wrap64 (x8 + 1)))))))) else (if ((bt x0 x8) = 95) then (impl_NameOK.l0 k x0 x7 (wrap64 (x8 + 1))) else (if x8 = 0 then (some false) else (if (bt x0 x8) < 48 then (some false) else (if (bt x0 x8) > 57 then (some false) else (impl_NameOK.l0 k x0 x7 (wrap64 (x8 + 1))))))))) else (none)) else (none)) else ((impl_within.f (x0.size : Int) 1 40).bind fun t151 => (some t151))
def impl_NameOK.f (k : Nat) (a0 : ByteArray) : Option (Bool) := impl_NameOK.l0 k a0 (a0.size : Int) 0
set_option maxHeartbeats 8000000 in
set_option maxRecDepth 100000 in
theorem impl_NameOK.calls (k : Nat) (a0 : ByteArray) (r : Bool) (w : World) (h : impl_NameOK.f k a0 = some r) :
    Calls Tryz.prog 55 #[.string a0] w fun e w' => e = .returned (.bool r) ∧ Drawn0 w w' := by
  have H : (impl_NameOK.l0 k a0 (a0.size : Int) 0) = some r := h
  clear h
  have H' := Aside0.mk H
  clear H
  go_enter Tryz.func55, Tryz.ntmps55
  go_wp2
  go_loopg [8] k (fun kq v8 w' => ∃ (x8_1 : Int), v8 = .int .i64 x8_1 ∧ Aside0 (impl_NameOK.l0 kq a0 (a0.size : Int) x8_1 = some r) ∧ Aside0 (kq ≤ k) ∧ Drawn0 w w')
  case atStart => exact ⟨(0), (by first | rfl | (simp; done) | (simp [*]; done)), H', ⟨Nat.le_refl _⟩, by repeat (first | exact Drawn0.refl _ | apply Drawn0.step)⟩
  case round =>
    clear H'
    obtain ⟨x8_1, rfl, HA, HK1, ⟨m1, rfl⟩⟩ := hrel
    cases gk with
    | zero => exact absurd HA.out (by simp [impl_NameOK.l0])
    | succ k1 =>
      have H := HA.out
      clear HA
      simp only [impl_NameOK.l0] at H
      by_cases c2 : x8_1 < (a0.size : Int)
      · rw [if_pos c2] at H
        have c2b0 : decide (x8_1 < (a0.size : Int)) = true := decide_eq_true c2
        clear c2
        by_cases c3 : 0 ≤ x8_1
        · rw [if_pos c3] at H
          have c3b0 : decide (0 ≤ x8_1) = true := decide_eq_true c3
          clear c3
          by_cases c4 : x8_1 < (a0.size : Int)
          · rw [if_pos c4] at H
            have c4b0 : decide (x8_1 < (a0.size : Int)) = true := decide_eq_true c4
            clear c4
            by_cases c6 : (bt a0 x8_1) ≥ 97
            · rw [if_pos c6] at H
              have c6b0 : decide (97 ≤ (bt a0 x8_1)) = true := decide_eq_true c6
              clear c6
              by_cases c7 : (bt a0 x8_1) ≤ 122
              · rw [if_pos c7] at H
                have c7b0 : decide ((bt a0 x8_1) ≤ 122) = true := decide_eq_true c7
                clear c7
                have H' := Aside0.mk H
                clear H
                have p5 : 0 ≤ (x8_1 : Int) := of_decide_eq_true (by first | (with_reducible assumption) | assumption)
                have q5 : x8_1 < (a0.size : Int) := of_decide_eq_true (by first | (with_reducible assumption) | assumption)
                have hx5 := bt_at a0 x8_1
                replace p5 := eq_true p5
                replace q5 := eq_true q5
                go_wp2
                go_roundg k1
                case measure => have := HK1.out; omega
                case rel => exact ⟨(wrap64 (x8_1 + 1)), (by first | rfl | (simp; done) | (simp [*]; done)), H', ⟨by have := HK1.out; omega⟩, by repeat (first | exact Drawn0.refl _ | apply Drawn0.step)⟩
              · rw [if_neg c7] at H
                have c7b0 : decide ((bt a0 x8_1) ≤ 122) = false := decide_eq_false c7
                clear c7
                by_cases c8 : (bt a0 x8_1) ≥ 65
                · rw [if_pos c8] at H
                  have c8b0 : decide (65 ≤ (bt a0 x8_1)) = true := decide_eq_true c8
                  clear c8
                  by_cases c9 : (bt a0 x8_1) ≤ 90
                  · rw [if_pos c9] at H
                    have c9b0 : decide ((bt a0 x8_1) ≤ 90) = true := decide_eq_true c9
                    clear c9
                    have H' := Aside0.mk H
                    clear H
                    have p5 : 0 ≤ (x8_1 : Int) := of_decide_eq_true (by first | (with_reducible assumption) | assumption)
                    have q5 : x8_1 < (a0.size : Int) := of_decide_eq_true (by first | (with_reducible assumption) | assumption)
                    have hx5 := bt_at a0 x8_1
                    replace p5 := eq_true p5
                    replace q5 := eq_true q5
                    go_wp2
                    go_roundg k1
                    case measure => have := HK1.out; omega
                    case rel => exact ⟨(wrap64 (x8_1 + 1)), (by first | rfl | (simp; done) | (simp [*]; done)), H', ⟨by have := HK1.out; omega⟩, by repeat (first | exact Drawn0.refl _ | apply Drawn0.step)⟩
                  · rw [if_neg c9] at H
                    have c9b0 : decide ((bt a0 x8_1) ≤ 90) = false := decide_eq_false c9
                    clear c9
                    by_cases c10 : ((bt a0 x8_1) = 95)
                    · rw [if_pos c10] at H
                      have c10b0 : ((bt a0 x8_1) == 95) = true := beq_iff_eq.mpr c10
                      have c10b1 : ((bt a0 x8_1) != 95) = false := bne_eq_false_iff_eq.mpr c10
                      clear c10
                      have H' := Aside0.mk H
                      clear H
                      have p5 : 0 ≤ (x8_1 : Int) := of_decide_eq_true (by first | (with_reducible assumption) | assumption)
                      have q5 : x8_1 < (a0.size : Int) := of_decide_eq_true (by first | (with_reducible assumption) | assumption)
                      have hx5 := bt_at a0 x8_1
                      replace p5 := eq_true p5
                      replace q5 := eq_true q5
                      go_wp2
                      go_roundg k1
                      case measure => have := HK1.out; omega
                      case rel => exact ⟨(wrap64 (x8_1 + 1)), (by first | rfl | (simp; done) | (simp [*]; done)), H', ⟨by have := HK1.out; omega⟩, by repeat (first | exact Drawn0.refl _ | apply Drawn0.step)⟩
                    · rw [if_neg c10] at H
                      have c10b0 : ((bt a0 x8_1) == 95) = false := beq_eq_false_iff_ne.mpr c10
                      have c10b1 : ((bt a0 x8_1) != 95) = true := bne_iff_ne.mpr c10
                      by_cases c11 : x8_1 = 0
                      · rw [if_pos c11] at H
                        have c11b0 : (x8_1 == 0) = true := beq_iff_eq.mpr c11
                        have c11b1 : (x8_1 != 0) = false := bne_eq_false_iff_eq.mpr c11
                        clear c11
                        obtain rfl := Option.some.inj H
                        have p5 : 0 ≤ (x8_1 : Int) := of_decide_eq_true (by first | (with_reducible assumption) | assumption)
                        have q5 : x8_1 < (a0.size : Int) := of_decide_eq_true (by first | (with_reducible assumption) | assumption)
                        have hx5 := bt_at a0 x8_1
                        replace p5 := eq_true p5
                        replace q5 := eq_true q5
                        go_wp2
                        go_ret
                        exact ⟨by first | rfl | (simp; done) | (simp [*]; done), by repeat (first | exact Drawn0.refl _ | apply Drawn0.step)⟩
                      · rw [if_neg c11] at H
                        have c11b0 : (x8_1 == 0) = false := beq_eq_false_iff_ne.mpr c11
                        have c11b1 : (x8_1 != 0) = true := bne_iff_ne.mpr c11
                        by_cases c12 : (bt a0 x8_1) < 48
                        · rw [if_pos c12] at H
                          have c12b0 : decide ((bt a0 x8_1) < 48) = true := decide_eq_true c12
                          clear c12
                          obtain rfl := Option.some.inj H
                          have p5 : 0 ≤ (x8_1 : Int) := of_decide_eq_true (by first | (with_reducible assumption) | assumption)
                          have q5 : x8_1 < (a0.size : Int) := of_decide_eq_true (by first | (with_reducible assumption) | assumption)
                          have hx5 := bt_at a0 x8_1
                          replace p5 := eq_true p5
                          replace q5 := eq_true q5
                          go_wp2
                          go_ret
                          exact ⟨by first | rfl | (simp; done) | (simp [*]; done), by repeat (first | exact Drawn0.refl _ | apply Drawn0.step)⟩
                        · rw [if_neg c12] at H
                          have c12b0 : decide ((bt a0 x8_1) < 48) = false := decide_eq_false c12
                          clear c12
                          by_cases c13 : (bt a0 x8_1) > 57
                          · rw [if_pos c13] at H
                            have c13b0 : decide (57 < (bt a0 x8_1)) = true := decide_eq_true c13
                            clear c13
                            obtain rfl := Option.some.inj H
                            have p5 : 0 ≤ (x8_1 : Int) := of_decide_eq_true (by first | (with_reducible assumption) | assumption)
                            have q5 : x8_1 < (a0.size : Int) := of_decide_eq_true (by first | (with_reducible assumption) | assumption)
                            have hx5 := bt_at a0 x8_1
                            replace p5 := eq_true p5
                            replace q5 := eq_true q5
                            go_wp2
                            go_ret
                            exact ⟨by first | rfl | (simp; done) | (simp [*]; done), by repeat (first | exact Drawn0.refl _ | apply Drawn0.step)⟩
                          · rw [if_neg c13] at H
                            have c13b0 : decide (57 < (bt a0 x8_1)) = false := decide_eq_false c13
                            clear c13
                            have H' := Aside0.mk H
                            clear H
                            have p5 : 0 ≤ (x8_1 : Int) := of_decide_eq_true (by first | (with_reducible assumption) | assumption)
                            have q5 : x8_1 < (a0.size : Int) := of_decide_eq_true (by first | (with_reducible assumption) | assumption)
                            have hx5 := bt_at a0 x8_1
                            replace p5 := eq_true p5
                            replace q5 := eq_true q5
                            go_wp2
                            go_roundg k1
                            case measure => have := HK1.out; omega
                            case rel => exact ⟨(wrap64 (x8_1 + 1)), (by first | rfl | (simp; done) | (simp [*]; done)), H', ⟨by have := HK1.out; omega⟩, by repeat (first | exact Drawn0.refl _ | apply Drawn0.step)⟩
                · rw [if_neg c8] at H
                  have c8b0 : decide (65 ≤ (bt a0 x8_1)) = false := decide_eq_false c8
                  clear c8
                  by_cases c14 : ((bt a0 x8_1) = 95)
                  · rw [if_pos c14] at H
                    have c14b0 : ((bt a0 x8_1) == 95) = true := beq_iff_eq.mpr c14
                    have c14b1 : ((bt a0 x8_1) != 95) = false := bne_eq_false_iff_eq.mpr c14
                    clear c14
                    have H' := Aside0.mk H
                    clear H
                    have p5 : 0 ≤ (x8_1 : Int) := of_decide_eq_true (by first | (with_reducible assumption) | assumption)
                    have q5 : x8_1 < (a0.size : Int) := of_decide_eq_true (by first | (with_reducible assumption) | assumption)
                    have hx5 := bt_at a0 x8_1
                    replace p5 := eq_true p5
                    replace q5 := eq_true q5
                    go_wp2
                    go_roundg k1
                    case measure => have := HK1.out; omega
                    case rel => exact ⟨(wrap64 (x8_1 + 1)), (by first | rfl | (simp; done) | (simp [*]; done)), H', ⟨by have := HK1.out; omega⟩, by repeat (first | exact Drawn0.refl _ | apply Drawn0.step)⟩
                  · rw [if_neg c14] at H
                    have c14b0 : ((bt a0 x8_1) == 95) = false := beq_eq_false_iff_ne.mpr c14
                    have c14b1 : ((bt a0 x8_1) != 95) = true := bne_iff_ne.mpr c14
                    by_cases c15 : x8_1 = 0
                    · rw [if_pos c15] at H
                      have c15b0 : (x8_1 == 0) = true := beq_iff_eq.mpr c15
                      have c15b1 : (x8_1 != 0) = false := bne_eq_false_iff_eq.mpr c15
                      clear c15
                      obtain rfl := Option.some.inj H
                      have p5 : 0 ≤ (x8_1 : Int) := of_decide_eq_true (by first | (with_reducible assumption) | assumption)
                      have q5 : x8_1 < (a0.size : Int) := of_decide_eq_true (by first | (with_reducible assumption) | assumption)
                      have hx5 := bt_at a0 x8_1
                      replace p5 := eq_true p5
                      replace q5 := eq_true q5
                      go_wp2
                      go_ret
                      exact ⟨by first | rfl | (simp; done) | (simp [*]; done), by repeat (first | exact Drawn0.refl _ | apply Drawn0.step)⟩
                    · rw [if_neg c15] at H
                      have c15b0 : (x8_1 == 0) = false := beq_eq_false_iff_ne.mpr c15
                      have c15b1 : (x8_1 != 0) = true := bne_iff_ne.mpr c15
                      by_cases c16 : (bt a0 x8_1) < 48
                      · rw [if_pos c16] at H
                        have c16b0 : decide ((bt a0 x8_1) < 48) = true := decide_eq_true c16
                        clear c16
                        obtain rfl := Option.some.inj H
                        have p5 : 0 ≤ (x8_1 : Int) := of_decide_eq_true (by first | (with_reducible assumption) | assumption)
                        have q5 : x8_1 < (a0.size : Int) := of_decide_eq_true (by first | (with_reducible assumption) | assumption)
                        have hx5 := bt_at a0 x8_1
                        replace p5 := eq_true p5
                        replace q5 := eq_true q5
                        go_wp2
                        go_ret
                        exact ⟨by first | rfl | (simp; done) | (simp [*]; done), by repeat (first | exact Drawn0.refl _ | apply Drawn0.step)⟩
                      · rw [if_neg c16] at H
                        have c16b0 : decide ((bt a0 x8_1) < 48) = false := decide_eq_false c16
                        clear c16
                        by_cases c17 : (bt a0 x8_1) > 57
                        · rw [if_pos c17] at H
                          have c17b0 : decide (57 < (bt a0 x8_1)) = true := decide_eq_true c17
                          clear c17
                          obtain rfl := Option.some.inj H
                          have p5 : 0 ≤ (x8_1 : Int) := of_decide_eq_true (by first | (with_reducible assumption) | assumption)
                          have q5 : x8_1 < (a0.size : Int) := of_decide_eq_true (by first | (with_reducible assumption) | assumption)
                          have hx5 := bt_at a0 x8_1
                          replace p5 := eq_true p5
                          replace q5 := eq_true q5
                          go_wp2
                          go_ret
                          exact ⟨by first | rfl | (simp; done) | (simp [*]; done), by repeat (first | exact Drawn0.refl _ | apply Drawn0.step)⟩
                        · rw [if_neg c17] at H
                          have c17b0 : decide (57 < (bt a0 x8_1)) = false := decide_eq_false c17
                          clear c17
                          have H' := Aside0.mk H
                          clear H
                          have p5 : 0 ≤ (x8_1 : Int) := of_decide_eq_true (by first | (with_reducible assumption) | assumption)
                          have q5 : x8_1 < (a0.size : Int) := of_decide_eq_true (by first | (with_reducible assumption) | assumption)
                          have hx5 := bt_at a0 x8_1
                          replace p5 := eq_true p5
                          replace q5 := eq_true q5
                          go_wp2
                          go_roundg k1
                          case measure => have := HK1.out; omega
                          case rel => exact ⟨(wrap64 (x8_1 + 1)), (by first | rfl | (simp; done) | (simp [*]; done)), H', ⟨by have := HK1.out; omega⟩, by repeat (first | exact Drawn0.refl _ | apply Drawn0.step)⟩
            · rw [if_neg c6] at H
              have c6b0 : decide (97 ≤ (bt a0 x8_1)) = false := decide_eq_false c6
              clear c6
              by_cases c18 : (bt a0 x8_1) ≥ 65
              · rw [if_pos c18] at H
                have c18b0 : decide (65 ≤ (bt a0 x8_1)) = true := decide_eq_true c18
                clear c18
                by_cases c19 : (bt a0 x8_1) ≤ 90
                · rw [if_pos c19] at H
                  have c19b0 : decide ((bt a0 x8_1) ≤ 90) = true := decide_eq_true c19
                  clear c19
                  have H' := Aside0.mk H
                  clear H
                  have p5 : 0 ≤ (x8_1 : Int) := of_decide_eq_true (by first | (with_reducible assumption) | assumption)
                  have q5 : x8_1 < (a0.size : Int) := of_decide_eq_true (by first | (with_reducible assumption) | assumption)
                  have hx5 := bt_at a0 x8_1
                  replace p5 := eq_true p5
                  replace q5 := eq_true q5
                  go_wp2
                  go_roundg k1
                  case measure => have := HK1.out; omega
                  case rel => exact ⟨(wrap64 (x8_1 + 1)), (by first | rfl | (simp; done) | (simp [*]; done)), H', ⟨by have := HK1.out; omega⟩, by repeat (first | exact Drawn0.refl _ | apply Drawn0.step)⟩
                · rw [if_neg c19] at H
                  have c19b0 : decide ((bt a0 x8_1) ≤ 90) = false := decide_eq_false c19
                  clear c19
                  by_cases c20 : ((bt a0 x8_1) = 95)
                  · rw [if_pos c20] at H
                    have c20b0 : ((bt a0 x8_1) == 95) = true := beq_iff_eq.mpr c20
                    have c20b1 : ((bt a0 x8_1) != 95) = false := bne_eq_false_iff_eq.mpr c20
                    clear c20
                    have H' := Aside0.mk H
                    clear H
                    have p5 : 0 ≤ (x8_1 : Int) := of_decide_eq_true (by first | (with_reducible assumption) | assumption)
                    have q5 : x8_1 < (a0.size : Int) := of_decide_eq_true (by first | (with_reducible assumption) | assumption)
                    have hx5 := bt_at a0 x8_1
                    replace p5 := eq_true p5
                    replace q5 := eq_true q5
                    go_wp2
                    go_roundg k1
                    case measure => have := HK1.out; omega
                    case rel => exact ⟨(wrap64 (x8_1 + 1)), (by first | rfl | (simp; done) | (simp [*]; done)), H', ⟨by have := HK1.out; omega⟩, by repeat (first | exact Drawn0.refl _ | apply Drawn0.step)⟩
                  · rw [if_neg c20] at H
                    have c20b0 : ((bt a0 x8_1) == 95) = false := beq_eq_false_iff_ne.mpr c20
                    have c20b1 : ((bt a0 x8_1) != 95) = true := bne_iff_ne.mpr c20
                    by_cases c21 : x8_1 = 0
                    · rw [if_pos c21] at H
                      have c21b0 : (x8_1 == 0) = true := beq_iff_eq.mpr c21
                      have c21b1 : (x8_1 != 0) = false := bne_eq_false_iff_eq.mpr c21
                      clear c21
                      obtain rfl := Option.some.inj H
                      have p5 : 0 ≤ (x8_1 : Int) := of_decide_eq_true (by first | (with_reducible assumption) | assumption)
                      have q5 : x8_1 < (a0.size : Int) := of_decide_eq_true (by first | (with_reducible assumption) | assumption)
                      have hx5 := bt_at a0 x8_1
                      replace p5 := eq_true p5
                      replace q5 := eq_true q5
                      go_wp2
                      go_ret
                      exact ⟨by first | rfl | (simp; done) | (simp [*]; done), by repeat (first | exact Drawn0.refl _ | apply Drawn0.step)⟩
                    · rw [if_neg c21] at H
                      have c21b0 : (x8_1 == 0) = false := beq_eq_false_iff_ne.mpr c21
                      have c21b1 : (x8_1 != 0) = true := bne_iff_ne.mpr c21
                      by_cases c22 : (bt a0 x8_1) < 48
                      · rw [if_pos c22] at H
                        have c22b0 : decide ((bt a0 x8_1) < 48) = true := decide_eq_true c22
                        clear c22
                        obtain rfl := Option.some.inj H
                        have p5 : 0 ≤ (x8_1 : Int) := of_decide_eq_true (by first | (with_reducible assumption) | assumption)
                        have q5 : x8_1 < (a0.size : Int) := of_decide_eq_true (by first | (with_reducible assumption) | assumption)
                        have hx5 := bt_at a0 x8_1
                        replace p5 := eq_true p5
                        replace q5 := eq_true q5
                        go_wp2
                        go_ret
                        exact ⟨by first | rfl | (simp; done) | (simp [*]; done), by repeat (first | exact Drawn0.refl _ | apply Drawn0.step)⟩
                      · rw [if_neg c22] at H
                        have c22b0 : decide ((bt a0 x8_1) < 48) = false := decide_eq_false c22
                        clear c22
                        by_cases c23 : (bt a0 x8_1) > 57
                        · rw [if_pos c23] at H
                          have c23b0 : decide (57 < (bt a0 x8_1)) = true := decide_eq_true c23
                          clear c23
                          obtain rfl := Option.some.inj H
                          have p5 : 0 ≤ (x8_1 : Int) := of_decide_eq_true (by first | (with_reducible assumption) | assumption)
                          have q5 : x8_1 < (a0.size : Int) := of_decide_eq_true (by first | (with_reducible assumption) | assumption)
                          have hx5 := bt_at a0 x8_1
                          replace p5 := eq_true p5
                          replace q5 := eq_true q5
                          go_wp2
                          go_ret
                          exact ⟨by first | rfl | (simp; done) | (simp [*]; done), by repeat (first | exact Drawn0.refl _ | apply Drawn0.step)⟩
                        · rw [if_neg c23] at H
                          have c23b0 : decide (57 < (bt a0 x8_1)) = false := decide_eq_false c23
                          clear c23
                          have H' := Aside0.mk H
                          clear H
                          have p5 : 0 ≤ (x8_1 : Int) := of_decide_eq_true (by first | (with_reducible assumption) | assumption)
                          have q5 : x8_1 < (a0.size : Int) := of_decide_eq_true (by first | (with_reducible assumption) | assumption)
                          have hx5 := bt_at a0 x8_1
                          replace p5 := eq_true p5
                          replace q5 := eq_true q5
                          go_wp2
                          go_roundg k1
                          case measure => have := HK1.out; omega
                          case rel => exact ⟨(wrap64 (x8_1 + 1)), (by first | rfl | (simp; done) | (simp [*]; done)), H', ⟨by have := HK1.out; omega⟩, by repeat (first | exact Drawn0.refl _ | apply Drawn0.step)⟩
              · rw [if_neg c18] at H
                have c18b0 : decide (65 ≤ (bt a0 x8_1)) = false := decide_eq_false c18
                clear c18
                by_cases c24 : ((bt a0 x8_1) = 95)
                · rw [if_pos c24] at H
                  have c24b0 : ((bt a0 x8_1) == 95) = true := beq_iff_eq.mpr c24
                  have c24b1 : ((bt a0 x8_1) != 95) = false := bne_eq_false_iff_eq.mpr c24
                  clear c24
                  have H' := Aside0.mk H
                  clear H
                  have p5 : 0 ≤ (x8_1 : Int) := of_decide_eq_true (by first | (with_reducible assumption) | assumption)
                  have q5 : x8_1 < (a0.size : Int) := of_decide_eq_true (by first | (with_reducible assumption) | assumption)
                  have hx5 := bt_at a0 x8_1
                  replace p5 := eq_true p5
                  replace q5 := eq_true q5
                  go_wp2
                  go_roundg k1
                  case measure => have := HK1.out; omega
                  case rel => exact ⟨(wrap64 (x8_1 + 1)), (by first | rfl | (simp; done) | (simp [*]; done)), H', ⟨by have := HK1.out; omega⟩, by repeat (first | exact Drawn0.refl _ | apply Drawn0.step)⟩
                · rw [if_neg c24] at H
                  have c24b0 : ((bt a0 x8_1) == 95) = false := beq_eq_false_iff_ne.mpr c24
                  have c24b1 : ((bt a0 x8_1) != 95) = true := bne_iff_ne.mpr c24
                  by_cases c25 : x8_1 = 0
                  · rw [if_pos c25] at H
                    have c25b0 : (x8_1 == 0) = true := beq_iff_eq.mpr c25
                    have c25b1 : (x8_1 != 0) = false := bne_eq_false_iff_eq.mpr c25
                    clear c25
                    obtain rfl := Option.some.inj H
                    have p5 : 0 ≤ (x8_1 : Int) := of_decide_eq_true (by first | (with_reducible assumption) | assumption)
                    have q5 : x8_1 < (a0.size : Int) := of_decide_eq_true (by first | (with_reducible assumption) | assumption)
                    have hx5 := bt_at a0 x8_1
                    replace p5 := eq_true p5
                    replace q5 := eq_true q5
                    go_wp2
                    go_ret
                    exact ⟨by first | rfl | (simp; done) | (simp [*]; done), by repeat (first | exact Drawn0.refl _ | apply Drawn0.step)⟩
                  · rw [if_neg c25] at H
                    have c25b0 : (x8_1 == 0) = false := beq_eq_false_iff_ne.mpr c25
                    have c25b1 : (x8_1 != 0) = true := bne_iff_ne.mpr c25
                    by_cases c26 : (bt a0 x8_1) < 48
                    · rw [if_pos c26] at H
                      have c26b0 : decide ((bt a0 x8_1) < 48) = true := decide_eq_true c26
                      clear c26
                      obtain rfl := Option.some.inj H
                      have p5 : 0 ≤ (x8_1 : Int) := of_decide_eq_true (by first | (with_reducible assumption) | assumption)
                      have q5 : x8_1 < (a0.size : Int) := of_decide_eq_true (by first | (with_reducible assumption) | assumption)
                      have hx5 := bt_at a0 x8_1
                      replace p5 := eq_true p5
                      replace q5 := eq_true q5
                      go_wp2
                      go_ret
                      exact ⟨by first | rfl | (simp; done) | (simp [*]; done), by repeat (first | exact Drawn0.refl _ | apply Drawn0.step)⟩
                    · rw [if_neg c26] at H
                      have c26b0 : decide ((bt a0 x8_1) < 48) = false := decide_eq_false c26
                      clear c26
                      by_cases c27 : (bt a0 x8_1) > 57
                      · rw [if_pos c27] at H
                        have c27b0 : decide (57 < (bt a0 x8_1)) = true := decide_eq_true c27
                        clear c27
                        obtain rfl := Option.some.inj H
                        have p5 : 0 ≤ (x8_1 : Int) := of_decide_eq_true (by first | (with_reducible assumption) | assumption)
                        have q5 : x8_1 < (a0.size : Int) := of_decide_eq_true (by first | (with_reducible assumption) | assumption)
                        have hx5 := bt_at a0 x8_1
                        replace p5 := eq_true p5
                        replace q5 := eq_true q5
                        go_wp2
                        go_ret
                        exact ⟨by first | rfl | (simp; done) | (simp [*]; done), by repeat (first | exact Drawn0.refl _ | apply Drawn0.step)⟩
                      · rw [if_neg c27] at H
                        have c27b0 : decide (57 < (bt a0 x8_1)) = false := decide_eq_false c27
                        clear c27
                        have H' := Aside0.mk H
                        clear H
                        have p5 : 0 ≤ (x8_1 : Int) := of_decide_eq_true (by first | (with_reducible assumption) | assumption)
                        have q5 : x8_1 < (a0.size : Int) := of_decide_eq_true (by first | (with_reducible assumption) | assumption)
                        have hx5 := bt_at a0 x8_1
                        replace p5 := eq_true p5
                        replace q5 := eq_true q5
                        go_wp2
                        go_roundg k1
                        case measure => have := HK1.out; omega
                        case rel => exact ⟨(wrap64 (x8_1 + 1)), (by first | rfl | (simp; done) | (simp [*]; done)), H', ⟨by have := HK1.out; omega⟩, by repeat (first | exact Drawn0.refl _ | apply Drawn0.step)⟩
          · rw [if_neg c4] at H
            exact absurd H (by simp)
        · rw [if_neg c3] at H
          exact absurd H (by simp)
      · rw [if_neg c2] at H
        have c2b0 : decide (x8_1 < (a0.size : Int)) = false := decide_eq_false c2
        clear c2
        replace H := Option.bind_eq_some_iff.mp H
        obtain ⟨t151, A280, H⟩ := H
        replace H : (some t151) = some r := H
        have A28 := Aside0.mk A280
        clear A280
        obtain rfl := Option.some.inj H
        go_wp2_with (first | ((with_reducible refine gate_callee (f := 84) rfl ?_); refine goesL_ (some 49) rfl rfl Tryz.func84 (by kernel_rfl) rfl #[.int .i64 (a0.size : Int), .int .i64 1, .int .i64 40] rfl (by (try simp only [List.map_toArray, List.map_cons, List.map_nil]); first | done | rfl | (simp only [List.length_drop, List.length_take]; rfl)) ?_; (with_reducible refine (impl_within.calls (a0.size : Int) 1 40 t151 _ A28.out).mono ?_); rintro e w' ⟨rfl, ⟨nd, rfl⟩⟩; refine ⟨_, rfl, ?_⟩))
        go_ret
        exact ⟨by first | rfl | (simp; done) | (simp [*]; done), by repeat (first | exact Drawn0.refl _ | apply Drawn0.step)⟩

/-! ### impl_DenomOK: function 28 -/
def impl_DenomOK.f (k : Nat) (a0 : ByteArray) : Option (Bool) := (impl_NameOK.f k a0).bind fun t152 => (if t152 = true then (some (decide ((a0.size : Int) ≤ 12))) else (some false))
set_option maxHeartbeats 8000000 in
set_option maxRecDepth 100000 in
theorem impl_DenomOK.calls (k : Nat) (a0 : ByteArray) (r : Bool) (w : World) (h : impl_DenomOK.f k a0 = some r) :
    Calls Tryz.prog 28 #[.string a0] w fun e w' => e = .returned (.bool r) ∧ Drawn0 w w' := by
  have H : ((impl_NameOK.f k a0).bind fun t152 => (if t152 = true then (some (decide ((a0.size : Int) ≤ 12))) else (some false))) = some r := h
  clear h
  replace H := Option.bind_eq_some_iff.mp H
  obtain ⟨t152, A20, H⟩ := H
  replace H : (if t152 = true then (some (decide ((a0.size : Int) ≤ 12))) else (some false)) = some r := H
  have A2 := Aside0.mk A20
  clear A20
  by_cases c3 : t152 = true
  · subst c3
    have H1 : (some (decide ((a0.size : Int) ≤ 12))) = some r := by rw [if_pos rfl] at H; exact H
    clear H
    have H := H1
    clear H1
    obtain rfl := Option.some.inj H
    go_enter Tryz.func28, Tryz.ntmps28
    go_wp2_with (first | ((with_reducible refine gate_callee (f := 55) rfl ?_); refine goesL_ (some 4) rfl rfl Tryz.func55 (by kernel_rfl) rfl #[.string a0] rfl (by (try simp only [List.map_toArray, List.map_cons, List.map_nil]); first | done | rfl | (simp only [List.length_drop, List.length_take]; rfl)) ?_; (with_reducible refine (impl_NameOK.calls k a0 true _ A2.out).mono ?_); rintro e w' ⟨rfl, ⟨nd, rfl⟩⟩; refine ⟨_, rfl, ?_⟩))
    go_ret
    exact ⟨by first | rfl | (simp; done) | (simp [*]; done), by repeat (first | exact Drawn0.refl _ | apply Drawn0.step)⟩
  · replace c3 := Bool.eq_false_iff.mpr c3
    subst c3
    have H1 : (some false) = some r := by rw [if_neg (show ¬ (false = true) by decide)] at H; exact H
    clear H
    have H := H1
    clear H1
    obtain rfl := Option.some.inj H
    go_enter Tryz.func28, Tryz.ntmps28
    go_wp2_with (first | ((with_reducible refine gate_callee (f := 55) rfl ?_); refine goesL_ (some 4) rfl rfl Tryz.func55 (by kernel_rfl) rfl #[.string a0] rfl (by (try simp only [List.map_toArray, List.map_cons, List.map_nil]); first | done | rfl | (simp only [List.length_drop, List.length_take]; rfl)) ?_; (with_reducible refine (impl_NameOK.calls k a0 false _ A2.out).mono ?_); rintro e w' ⟨rfl, ⟨nd, rfl⟩⟩; refine ⟨_, rfl, ?_⟩))
    go_ret
    exact ⟨by first | rfl | (simp; done) | (simp [*]; done), by repeat (first | exact Drawn0.refl _ | apply Drawn0.step)⟩

/-! ### impl_areNames: function 52 -/
def impl_areNames.l0 : Nat → List ByteArray → Int → Int → Option (Bool)
  | 0, _, _, _ => none
  | k + 1, x5, x6, x7 => if x7 < x6 then (if 0 ≤ x7 then (if x7 < (x5.length : Int) then ((impl_DenomOK.f k (rdOf ByteArray.empty x5 x7)).bind fun t154 => (if t154 = true then (impl_areNames.l0 k x5 x6 (wrap64 (x7 + 1))) else (some false))) else (none)) else (none)) else (some true)
def impl_areNames.f (k : Nat) (l0 : List ByteArray) : Option (Bool) := impl_areNames.l0 k l0 (l0.length : Int) 0
set_option maxHeartbeats 8000000 in
set_option maxRecDepth 100000 in
theorem impl_areNames.calls (k : Nat) (A0 : Option Addr) (c0 : Nat) (l0 : List ByteArray) (r : Bool) (w : World) (hr0 : Kd.C Kd.string w A0 l0.length l0) (hc0 : l0.length ≤ c0) (h : impl_areNames.f k l0 = some r) :
    Calls Tryz.prog 52 #[.slice A0 l0.length c0] w fun e w' => e = .returned (.bool r) ∧ Drawn0 w w' := by
  have HR0 := Aside0.mk hr0
  have HC0 := Aside0.mk hc0
  clear hr0 hc0
  have H : (impl_areNames.l0 k l0 (l0.length : Int) 0) = some r := h
  clear h
  have H' := Aside0.mk H
  clear H
  go_enter Tryz.func52, Tryz.ntmps52
  go_wp2
  go_loopg [7] k (fun kq v7 w' => ∃ (x7_1 : Int), v7 = .int .i64 x7_1 ∧ Aside0 (impl_areNames.l0 kq l0 (l0.length : Int) x7_1 = some r) ∧ Aside0 (kq ≤ k) ∧ Drawn0 w w')
  case atStart => exact ⟨(0), (by first | rfl | (simp; done) | (simp [*]; done)), H', ⟨Nat.le_refl _⟩, by repeat (first | exact Drawn0.refl _ | apply Drawn0.step)⟩
  case round =>
    clear H'
    obtain ⟨x7_1, rfl, HA, HK1, ⟨m1, rfl⟩⟩ := hrel
    cases gk with
    | zero => exact absurd HA.out (by simp [impl_areNames.l0])
    | succ k1 =>
      have H := HA.out
      clear HA
      simp only [impl_areNames.l0] at H
      by_cases c2 : x7_1 < (l0.length : Int)
      · rw [if_pos c2] at H
        have c2b0 : decide (x7_1 < (l0.length : Int)) = true := decide_eq_true c2
        clear c2
        by_cases c3 : 0 ≤ x7_1
        · rw [if_pos c3] at H
          have c3b0 : decide (0 ≤ x7_1) = true := decide_eq_true c3
          clear c3
          by_cases c4 : x7_1 < (l0.length : Int)
          · rw [if_pos c4] at H
            have c4b0 : decide (x7_1 < (l0.length : Int)) = true := decide_eq_true c4
            clear c4
            replace H := Option.bind_eq_some_iff.mp H
            obtain ⟨t154, A50, H⟩ := H
            replace H : (if t154 = true then (impl_areNames.l0 k1 l0 (l0.length : Int) (wrap64 (x7_1 + 1))) else (some false)) = some r := H
            have A5 := Aside0.mk A50
            clear A50
            by_cases c6 : t154 = true
            · subst c6
              have H1 : (impl_areNames.l0 k1 l0 (l0.length : Int) (wrap64 (x7_1 + 1))) = some r := by rw [if_pos rfl] at H; exact H
              clear H
              have H := H1
              clear H1
              have H' := Aside0.mk H
              clear H
              have p153 : 0 ≤ (x7_1 : Int) := of_decide_eq_true (by first | (with_reducible assumption) | assumption)
              have q153 : x7_1 < (l0.length : Int) := of_decide_eq_true (by first | (with_reducible assumption) | assumption)
              obtain ⟨ad153, e153, hx153_0⟩ := Kd.at_string HR0.out x7_1 p153 q153
              cases e153
              replace p153 := eq_true p153
              replace q153 := eq_true q153
              go_wp2_with (first | ((with_reducible refine gate_callee (f := 28) rfl ?_); refine goesL_ (some 12) rfl rfl Tryz.func28 (by kernel_rfl) rfl #[.string (rdOf ByteArray.empty l0 x7_1)] rfl (by (try simp only [List.map_toArray, List.map_cons, List.map_nil]); first | done | rfl | (simp only [List.length_drop, List.length_take]; rfl)) ?_; (with_reducible refine (impl_DenomOK.calls k1 (rdOf ByteArray.empty l0 x7_1) true _ A5.out).mono ?_); rintro e w' ⟨rfl, ⟨nd, rfl⟩⟩; refine ⟨_, rfl, ?_⟩))
              go_roundg k1
              case measure => have := HK1.out; omega
              case rel => exact ⟨(wrap64 (x7_1 + 1)), (by first | rfl | (simp; done) | (simp [*]; done)), H', ⟨by have := HK1.out; omega⟩, by repeat (first | exact Drawn0.refl _ | apply Drawn0.step)⟩
            · replace c6 := Bool.eq_false_iff.mpr c6
              subst c6
              have H1 : (some false) = some r := by rw [if_neg (show ¬ (false = true) by decide)] at H; exact H
              clear H
              have H := H1
              clear H1
              obtain rfl := Option.some.inj H
              have p153 : 0 ≤ (x7_1 : Int) := of_decide_eq_true (by first | (with_reducible assumption) | assumption)
              have q153 : x7_1 < (l0.length : Int) := of_decide_eq_true (by first | (with_reducible assumption) | assumption)
              obtain ⟨ad153, e153, hx153_0⟩ := Kd.at_string HR0.out x7_1 p153 q153
              cases e153
              replace p153 := eq_true p153
              replace q153 := eq_true q153
              go_wp2_with (first | ((with_reducible refine gate_callee (f := 28) rfl ?_); refine goesL_ (some 12) rfl rfl Tryz.func28 (by kernel_rfl) rfl #[.string (rdOf ByteArray.empty l0 x7_1)] rfl (by (try simp only [List.map_toArray, List.map_cons, List.map_nil]); first | done | rfl | (simp only [List.length_drop, List.length_take]; rfl)) ?_; (with_reducible refine (impl_DenomOK.calls k1 (rdOf ByteArray.empty l0 x7_1) false _ A5.out).mono ?_); rintro e w' ⟨rfl, ⟨nd, rfl⟩⟩; refine ⟨_, rfl, ?_⟩))
              go_ret
              exact ⟨by first | rfl | (simp; done) | (simp [*]; done), by repeat (first | exact Drawn0.refl _ | apply Drawn0.step)⟩
          · rw [if_neg c4] at H
            exact absurd H (by simp)
        · rw [if_neg c3] at H
          exact absurd H (by simp)
      · rw [if_neg c2] at H
        have c2b0 : decide (x7_1 < (l0.length : Int)) = false := decide_eq_false c2
        clear c2
        obtain rfl := Option.some.inj H
        go_wp2
        go_ret
        exact ⟨by first | rfl | (simp; done) | (simp [*]; done), by repeat (first | exact Drawn0.refl _ | apply Drawn0.step)⟩

/-! ### impl_isSome: function 60 -/
def impl_isSome.f (a0 : Int) : Option (Bool) := (impl_within.f a0 1 1000000000000000000).bind fun t155 => (some t155)
set_option maxHeartbeats 8000000 in
set_option maxRecDepth 100000 in
theorem impl_isSome.calls (a0 : Int) (r : Bool) (w : World) (h : impl_isSome.f a0 = some r) :
    Calls Tryz.prog 60 #[.int .i64 a0] w fun e w' => e = .returned (.bool r) ∧ Drawn0 w w' := by
  have H : ((impl_within.f a0 1 1000000000000000000).bind fun t155 => (some t155)) = some r := h
  clear h
  replace H := Option.bind_eq_some_iff.mp H
  obtain ⟨t155, A20, H⟩ := H
  replace H : (some t155) = some r := H
  have A2 := Aside0.mk A20
  clear A20
  obtain rfl := Option.some.inj H
  go_enter Tryz.func60, Tryz.ntmps60
  go_wp2_with (first | ((with_reducible refine gate_callee (f := 84) rfl ?_); refine goesL_ (some 4) rfl rfl Tryz.func84 (by kernel_rfl) rfl #[.int .i64 a0, .int .i64 1, .int .i64 1000000000000000000] rfl (by (try simp only [List.map_toArray, List.map_cons, List.map_nil]); first | done | rfl | (simp only [List.length_drop, List.length_take]; rfl)) ?_; (with_reducible refine (impl_within.calls a0 1 1000000000000000000 t155 _ A2.out).mono ?_); rintro e w' ⟨rfl, ⟨nd, rfl⟩⟩; refine ⟨_, rfl, ?_⟩))
  go_ret
  exact ⟨by first | rfl | (simp; done) | (simp [*]; done), by repeat (first | exact Drawn0.refl _ | apply Drawn0.step)⟩

end Go.Proofs.YtpkfdjlmflmilaaGreatDoor.Q
end
section
/-
  DERIVED: THE SHELF's CONTRACTS AT THIS DUMP, IN PLAIN WORDS (tools/lay-plain.mjs out of 'TryzShelf.lean', which tools/lay-shelf.mjs wrote): THE SAME DECLARATIONS UNDER THE SAME NAMES: 'import', 'namespace', 'open', 'def', 'theorem' AND NOTHING ELSE: no command of the shelf's: FOR A HAND-IN. Each laying: the table of numbers ('.._ren') and one theorem, a field a fact of the dump's own or the kernel's comparison; each contract: ONE APPLICATION.
-/
namespace Go.Proofs
open Go.Shelf
def Tryz.lays106_ren : Go.Shelf.Ren := ⟨fun | 106 => 115 | 213 => 123 | 265 => 132 | n => n, fun | 9 => 9 | 3 => 3 | n => n, fun | n => n⟩
theorem Tryz.lays106 : Go.Proofs.Lays.n106 Tryz.prog Tryz.lays106_ren := {
  mixed := by kernel_rfl
  f106 := Tryz.func115.trans (congrArg some (by kernel_rfl))
  f213 := Tryz.func123.trans (congrArg some (by kernel_rfl))
  f265 := Tryz.func132.trans (congrArg some (by kernel_rfl))
  t3 := Tryz.underlying3
  a3 := Tryz.isAgg3
  z3 := Tryz.sizeOf3
  v3 := Tryz.zeroValue3
  t9 := Tryz.underlying9
  a9 := Tryz.isAgg9
  z9 := Tryz.sizeOf9
  v9 := Tryz.zeroValue9 }
open Go.RowKit in
/-- strings.Compare: "Compare returns an integer comparing two strings lexicographically. The result will be 0 if a == b, -1 if a < b, and +1 if a > b.": IT RETURNS 'Lib.compareBytes a b'; the world is as it was. (LAID: no walk: one application.) -/
theorem Tryz.strings_Compare (a b : ByteArray) (w : World) :
    Calls Tryz.prog 115 #[.string a, .string b] w fun e w' => e = .returned (.int .i64 (Lib.compareBytes a.data.toList b.data.toList)) ∧ w' = w := Any.strings_Compare Tryz.lays106 a b w
def Tryz.laysM171_ren : Go.Shelf.Ren := ⟨fun | 171 => 118 | 243 => 129 | 246 => 136 | 283 => 140 | 284 => 141 | 285 => 142 | 286 => 143 | 129 => 146 | 317 => 145 | 318 => 147 | 319 => 148 | 320 => 149 | 337 => 150 | 338 => 151 | n => n, fun | 3 => 3 | 9 => 9 | 2 => 2 | 4 => 4 | 171 => 131 | 0 => 0 | 53 => 119 | 37 => 33 | 5 => 5 | 173 => 134 | 212 => 138 | 51 => 139 | 20 => 20 | 213 => 140 | 46 => 111 | 232 => 143 | 233 => 144 | n => n, fun | 17 => 3 | 18 => 4 | 19 => 5 | n => n⟩
theorem Tryz.laysM171 : Go.Proofs.LaysM.n171 Tryz.prog Tryz.laysM171_ren := {
  mixed := by kernel_rfl
  f129 := Tryz.func146.trans (congrArg some (by kernel_rfl))
  f171 := Tryz.func118.trans (congrArg some (by kernel_rfl))
  f243 := Tryz.func129.trans (congrArg some (by kernel_rfl))
  f246 := Tryz.func136.trans (congrArg some (by kernel_rfl))
  f283 := Tryz.func140.trans (congrArg some (by kernel_rfl))
  f284 := Tryz.func141.trans (congrArg some (by kernel_rfl))
  f285 := Tryz.func142.trans (congrArg some (by kernel_rfl))
  f286 := Tryz.func143.trans (congrArg some (by kernel_rfl))
  f317 := Tryz.func145.trans (congrArg some (by kernel_rfl))
  f318 := Tryz.func147.trans (congrArg some (by kernel_rfl))
  f319 := Tryz.func148.trans (congrArg some (by kernel_rfl))
  f320 := Tryz.func149.trans (congrArg some (by kernel_rfl))
  f337 := Tryz.func150.trans (congrArg some (by kernel_rfl))
  f338 := Tryz.func151.trans (congrArg some (by kernel_rfl))
  t0 := Tryz.underlying0
  a0 := Tryz.isAgg0
  z0 := Tryz.sizeOf0
  v0 := Tryz.zeroValue0
  t2 := Tryz.underlying2
  a2 := Tryz.isAgg2
  z2 := Tryz.sizeOf2
  v2 := Tryz.zeroValue2
  t3 := Tryz.underlying3
  a3 := Tryz.isAgg3
  z3 := Tryz.sizeOf3
  v3 := Tryz.zeroValue3
  t4 := Tryz.underlying4
  a4 := Tryz.isAgg4
  z4 := Tryz.sizeOf4
  v4 := Tryz.zeroValue4
  t5 := Tryz.underlying5
  a5 := Tryz.isAgg5
  z5 := Tryz.sizeOf5
  v5 := Tryz.zeroValue5
  t9 := Tryz.underlying9
  a9 := Tryz.isAgg9
  z9 := Tryz.sizeOf9
  v9 := Tryz.zeroValue9
  t20 := Tryz.underlying20
  a20 := Tryz.isAgg20
  z20 := Tryz.sizeOf20
  v20 := Tryz.zeroValue20
  t37 := Tryz.underlying33
  a37 := Tryz.isAgg33
  z37 := Tryz.sizeOf33
  v37 := Tryz.zeroValue33
  t46 := Tryz.underlying111
  a46 := Tryz.isAgg111
  z46 := Tryz.sizeOf111
  v46 := Tryz.zeroValue111
  t51 := Tryz.underlying139
  a51 := Tryz.isAgg139
  z51 := Tryz.sizeOf139
  v51 := Tryz.zeroValue139
  t53 := Tryz.underlying119
  a53 := Tryz.isAgg119
  z53 := Tryz.sizeOf119
  v53 := Tryz.zeroValue119
  t171 := Tryz.underlying131
  a171 := Tryz.isAgg131
  z171 := Tryz.sizeOf131
  v171 := Tryz.zeroValue131
  t173 := Tryz.underlying134
  a173 := Tryz.isAgg134
  z173 := Tryz.sizeOf134
  v173 := Tryz.zeroValue134
  t212 := Tryz.underlying138
  a212 := Tryz.isAgg138
  z212 := Tryz.sizeOf138
  v212 := Tryz.zeroValue138
  t213 := Tryz.underlying140
  a213 := Tryz.isAgg140
  z213 := Tryz.sizeOf140
  t232 := Tryz.underlying143
  a232 := Tryz.isAgg143
  z232 := Tryz.sizeOf143
  v232 := Tryz.zeroValue143
  t233 := Tryz.underlying144
  a233 := Tryz.isAgg144
  z233 := Tryz.sizeOf144
  v233 := Tryz.zeroValue144
  g17 := by kernel_rfl
  g18 := by kernel_rfl
  g19 := by kernel_rfl
  i0 := by kernel_rfl
  i2 := by kernel_rfl
  i3 := by kernel_rfl
  i4 := by kernel_rfl
  i5 := by kernel_rfl
  i9 := by kernel_rfl
  i20 := by kernel_rfl
  i37 := by kernel_rfl
  i46 := by kernel_rfl
  i51 := by kernel_rfl
  i53 := by kernel_rfl
  i171 := by kernel_rfl
  i173 := by kernel_rfl
  i212 := by kernel_rfl
  i232 := by kernel_rfl
  i233 := by kernel_rfl
  m17 := by kernel_rfl
  m18 := by kernel_rfl
  m19 := by kernel_rfl }
open Go.RowKit Go.Sort Go.Lib in
/-- strconv.Itoa: "Itoa is equivalent to FormatInt(int64(i), 10).": i's DECIMAL NUMERAL ('Lib.itoa': a '-' where i is negative, then the digits), FOR EVERY int. The world behind the call: the world before it, new blocks behind the heap (the library's 'var a [24]byte'), draws. (LAID: no walk: one application.) -/
theorem Tryz.strconv_Itoa (n : Int) (h0 : -9223372036854775808 ≤ n) (h1 : n ≤ 9223372036854775807) (w : World) (htab : Lib.TabIs Tryz.prog w "internal/strconv.uint64pow10" .u64 Lib.pow10Tab) :
    Calls Tryz.prog 118 #[.int .i64 n] w fun e w' => e = .returned (.string ⟨(Lib.itoa n).toArray⟩) ∧ ∃ k os, w' = grow (w.drewN k) os := Any.strconv_Itoa Tryz.laysM171 n h0 h1 w htab
def Tryz.laysC172_ren : Go.Shelf.Ren := ⟨fun | 172 => 99 | 244 => 116 | 245 => 117 | 247 => 124 | 279 => 125 | 280 => 126 | 281 => 127 | 282 => 128 | 287 => 133 | 316 => 134 | 171 => 118 | 205 => 135 | 321 => 138 | 322 => 139 | 243 => 129 | 246 => 136 | 283 => 140 | 284 => 141 | 285 => 142 | 286 => 143 | 129 => 146 | 317 => 145 | 318 => 147 | 319 => 148 | 320 => 149 | 337 => 150 | 338 => 151 | n => n, fun | 9 => 9 | 3 => 3 | 75 => 97 | 76 => 98 | 4 => 4 | 5 => 5 | 167 => 112 | 37 => 33 | 0 => 0 | 85 => 113 | 2 => 2 | 168 => 115 | 53 => 119 | 175 => 120 | 46 => 111 | 210 => 123 | 127 => 127 | 145 => 130 | 143 => 128 | 21 => 21 | 171 => 131 | 173 => 134 | 212 => 138 | 51 => 139 | 20 => 20 | 213 => 140 | 232 => 143 | 233 => 144 | 80 => 68 | n => n, fun | 15 => 1 | 16 => 2 | 17 => 3 | 18 => 4 | 19 => 5 | n => n⟩
theorem Tryz.laysC172 : Go.Proofs.LaysC.n172 Tryz.prog Tryz.laysC172_ren := {
  mixed := by kernel_rfl
  f129 := Tryz.func146.trans (congrArg some (by kernel_rfl))
  f171 := Tryz.func118.trans (congrArg some (by kernel_rfl))
  f172 := Tryz.func99.trans (congrArg some (by kernel_rfl))
  f205 := Tryz.func135.trans (congrArg some (by kernel_rfl))
  f243 := Tryz.func129.trans (congrArg some (by kernel_rfl))
  f244 := Tryz.func116.trans (congrArg some (by kernel_rfl))
  f245 := Tryz.func117.trans (congrArg some (by kernel_rfl))
  f246 := Tryz.func136.trans (congrArg some (by kernel_rfl))
  f247 := Tryz.func124.trans (congrArg some (by kernel_rfl))
  f279 := Tryz.func125.trans (congrArg some (by kernel_rfl))
  f280 := Tryz.func126.trans (congrArg some (by kernel_rfl))
  f281 := Tryz.func127.trans (congrArg some (by kernel_rfl))
  f282 := Tryz.func128.trans (congrArg some (by kernel_rfl))
  f283 := Tryz.func140.trans (congrArg some (by kernel_rfl))
  f284 := Tryz.func141.trans (congrArg some (by kernel_rfl))
  f285 := Tryz.func142.trans (congrArg some (by kernel_rfl))
  f286 := Tryz.func143.trans (congrArg some (by kernel_rfl))
  f287 := Tryz.func133.trans (congrArg some (by kernel_rfl))
  f316 := Tryz.func134.trans (congrArg some (by kernel_rfl))
  f317 := Tryz.func145.trans (congrArg some (by kernel_rfl))
  f318 := Tryz.func147.trans (congrArg some (by kernel_rfl))
  f319 := Tryz.func148.trans (congrArg some (by kernel_rfl))
  f320 := Tryz.func149.trans (congrArg some (by kernel_rfl))
  f321 := Tryz.func138.trans (congrArg some (by kernel_rfl))
  f322 := Tryz.func139.trans (congrArg some (by kernel_rfl))
  f337 := Tryz.func150.trans (congrArg some (by kernel_rfl))
  f338 := Tryz.func151.trans (congrArg some (by kernel_rfl))
  t0 := Tryz.underlying0
  a0 := Tryz.isAgg0
  z0 := Tryz.sizeOf0
  v0 := Tryz.zeroValue0
  t2 := Tryz.underlying2
  a2 := Tryz.isAgg2
  z2 := Tryz.sizeOf2
  v2 := Tryz.zeroValue2
  t3 := Tryz.underlying3
  a3 := Tryz.isAgg3
  z3 := Tryz.sizeOf3
  v3 := Tryz.zeroValue3
  t4 := Tryz.underlying4
  a4 := Tryz.isAgg4
  z4 := Tryz.sizeOf4
  v4 := Tryz.zeroValue4
  t5 := Tryz.underlying5
  a5 := Tryz.isAgg5
  z5 := Tryz.sizeOf5
  v5 := Tryz.zeroValue5
  t9 := Tryz.underlying9
  a9 := Tryz.isAgg9
  z9 := Tryz.sizeOf9
  v9 := Tryz.zeroValue9
  t20 := Tryz.underlying20
  a20 := Tryz.isAgg20
  z20 := Tryz.sizeOf20
  v20 := Tryz.zeroValue20
  t21 := Tryz.underlying21
  a21 := Tryz.isAgg21
  z21 := Tryz.sizeOf21
  v21 := Tryz.zeroValue21
  t37 := Tryz.underlying33
  a37 := Tryz.isAgg33
  z37 := Tryz.sizeOf33
  v37 := Tryz.zeroValue33
  t46 := Tryz.underlying111
  a46 := Tryz.isAgg111
  z46 := Tryz.sizeOf111
  v46 := Tryz.zeroValue111
  t51 := Tryz.underlying139
  a51 := Tryz.isAgg139
  z51 := Tryz.sizeOf139
  v51 := Tryz.zeroValue139
  t53 := Tryz.underlying119
  a53 := Tryz.isAgg119
  z53 := Tryz.sizeOf119
  v53 := Tryz.zeroValue119
  t75 := Tryz.underlying97
  a75 := Tryz.isAgg97
  z75 := Tryz.sizeOf97
  v75 := Tryz.zeroValue97
  t76 := Tryz.underlying98
  a76 := Tryz.isAgg98
  z76 := Tryz.sizeOf98
  v76 := Tryz.zeroValue98
  t85 := Tryz.underlying113
  a85 := Tryz.isAgg113
  z85 := Tryz.sizeOf113
  v85 := Tryz.zeroValue113
  t127 := Tryz.underlying127
  a127 := Tryz.isAgg127
  z127 := Tryz.sizeOf127
  v127 := Tryz.zeroValue127
  t143 := Tryz.underlying128
  a143 := Tryz.isAgg128
  z143 := Tryz.sizeOf128
  v143 := Tryz.zeroValue128
  t145 := Tryz.underlying130
  a145 := Tryz.isAgg130
  z145 := Tryz.sizeOf130
  v145 := Tryz.zeroValue130
  t167 := Tryz.underlying112
  a167 := Tryz.isAgg112
  z167 := Tryz.sizeOf112
  v167 := Tryz.zeroValue112
  t168 := Tryz.underlying115
  a168 := Tryz.isAgg115
  z168 := Tryz.sizeOf115
  v168 := Tryz.zeroValue115
  t171 := Tryz.underlying131
  a171 := Tryz.isAgg131
  z171 := Tryz.sizeOf131
  v171 := Tryz.zeroValue131
  t173 := Tryz.underlying134
  a173 := Tryz.isAgg134
  z173 := Tryz.sizeOf134
  v173 := Tryz.zeroValue134
  t175 := Tryz.underlying120
  a175 := Tryz.isAgg120
  z175 := Tryz.sizeOf120
  v175 := Tryz.zeroValue120
  t210 := Tryz.underlying123
  a210 := Tryz.isAgg123
  z210 := Tryz.sizeOf123
  v210 := Tryz.zeroValue123
  t212 := Tryz.underlying138
  a212 := Tryz.isAgg138
  z212 := Tryz.sizeOf138
  v212 := Tryz.zeroValue138
  t213 := Tryz.underlying140
  a213 := Tryz.isAgg140
  z213 := Tryz.sizeOf140
  t232 := Tryz.underlying143
  a232 := Tryz.isAgg143
  z232 := Tryz.sizeOf143
  v232 := Tryz.zeroValue143
  t233 := Tryz.underlying144
  a233 := Tryz.isAgg144
  z233 := Tryz.sizeOf144
  v233 := Tryz.zeroValue144
  g15 := by kernel_rfl
  g16 := by kernel_rfl
  g17 := by kernel_rfl
  g18 := by kernel_rfl
  g19 := by kernel_rfl
  t80 := Tryz.underlying68
  a80 := Tryz.isAgg68
  z80 := Tryz.sizeOf68
  v80 := Tryz.zeroValue68
  i0 := by kernel_rfl
  i2 := by kernel_rfl
  i3 := by kernel_rfl
  i4 := by kernel_rfl
  i5 := by kernel_rfl
  i9 := by kernel_rfl
  i20 := by kernel_rfl
  i21 := by kernel_rfl
  i37 := by kernel_rfl
  i46 := by kernel_rfl
  i51 := by kernel_rfl
  i53 := by kernel_rfl
  i75 := by kernel_rfl
  i76 := by kernel_rfl
  i80 := by kernel_rfl
  i85 := by kernel_rfl
  i127 := by kernel_rfl
  i143 := by kernel_rfl
  i145 := by kernel_rfl
  i167 := by kernel_rfl
  i168 := by kernel_rfl
  i171 := by kernel_rfl
  i173 := by kernel_rfl
  i175 := by kernel_rfl
  i210 := by kernel_rfl
  i212 := by kernel_rfl
  i232 := by kernel_rfl
  i233 := by kernel_rfl
  m15 := by kernel_rfl
  m16 := by kernel_rfl
  m17 := by kernel_rfl
  m18 := by kernel_rfl
  m19 := by kernel_rfl
  c0 := by kernel_rfl
  c2 := by kernel_rfl
  c3 := by kernel_rfl
  c4 := by kernel_rfl
  c5 := by kernel_rfl
  c9 := by kernel_rfl
  c20 := by kernel_rfl
  c21 := by kernel_rfl
  c37 := by kernel_rfl
  c46 := by kernel_rfl
  c51 := by kernel_rfl
  c53 := by kernel_rfl
  c75 := by kernel_rfl
  c76 := by kernel_rfl
  c80 := by kernel_rfl
  c85 := by kernel_rfl
  c127 := by kernel_rfl
  c143 := by kernel_rfl
  c145 := by kernel_rfl
  c167 := by kernel_rfl
  c168 := by kernel_rfl
  c171 := by kernel_rfl
  c173 := by kernel_rfl
  c175 := by kernel_rfl
  c210 := by kernel_rfl
  c212 := by kernel_rfl
  c213 := by kernel_rfl
  c232 := by kernel_rfl
  c233 := by kernel_rfl }
def Tryz.lays99_ren : Go.Shelf.Ren := ⟨fun | 99 => 102 | 206 => 119 | n => n, fun | 9 => 9 | 4 => 4 | 3 => 3 | n => n, fun | n => n⟩
theorem Tryz.lays99 : Go.Proofs.Lays.n99 Tryz.prog Tryz.lays99_ren := {
  mixed := by kernel_rfl
  f99 := Tryz.func102.trans (congrArg some (by kernel_rfl))
  f206 := Tryz.func119.trans (congrArg some (by kernel_rfl))
  t3 := Tryz.underlying3
  a3 := Tryz.isAgg3
  z3 := Tryz.sizeOf3
  v3 := Tryz.zeroValue3
  t4 := Tryz.underlying4
  a4 := Tryz.isAgg4
  z4 := Tryz.sizeOf4
  v4 := Tryz.zeroValue4
  t9 := Tryz.underlying9
  a9 := Tryz.isAgg9
  z9 := Tryz.sizeOf9
  v9 := Tryz.zeroValue9 }
open Go.RowKit Go.Lib in
/-- strings.HasPrefix: "HasPrefix reports whether the string s begins with prefix.": IT RETURNS 'Lib.hasPrefix s prefix'; the world is as it was. (LAID: no walk: one application.) -/
theorem Tryz.strings_HasPrefix (s p : ByteArray) (w : World) :
    Calls Tryz.prog 102 #[.string s, .string p] w fun e w' => e = .returned (.bool (Lib.hasPrefix s.data.toList p.data.toList)) ∧ w' = w := Any.strings_HasPrefix Tryz.lays99 s p w
def Tryz.lays101_ren : Go.Shelf.Ren := ⟨fun | 101 => 83 | 208 => 103 | 206 => 119 | n => n, fun | 9 => 9 | 4 => 4 | 3 => 3 | n => n, fun | n => n⟩
theorem Tryz.lays101 : Go.Proofs.Lays.n101 Tryz.prog Tryz.lays101_ren := {
  mixed := by kernel_rfl
  f101 := Tryz.func83.trans (congrArg some (by kernel_rfl))
  f206 := Tryz.func119.trans (congrArg some (by kernel_rfl))
  f208 := Tryz.func103.trans (congrArg some (by kernel_rfl))
  t3 := Tryz.underlying3
  a3 := Tryz.isAgg3
  z3 := Tryz.sizeOf3
  v3 := Tryz.zeroValue3
  t4 := Tryz.underlying4
  a4 := Tryz.isAgg4
  z4 := Tryz.sizeOf4
  v4 := Tryz.zeroValue4
  t9 := Tryz.underlying9
  a9 := Tryz.isAgg9
  z9 := Tryz.sizeOf9
  v9 := Tryz.zeroValue9 }
open Go.RowKit Go.Lib in
/-- strings.TrimPrefix: "TrimPrefix returns s without the provided leading prefix string. If s doesn't start with prefix, s is returned unchanged.": IT RETURNS 'Lib.trimPrefix s prefix'; the world is as it was. (LAID: no walk: one application.) -/
theorem Tryz.strings_TrimPrefix (s p : ByteArray) (w : World) :
    Calls Tryz.prog 83 #[.string s, .string p] w fun e w' => e = .returned (.string ⟨(Lib.trimPrefix s.data.toList p.data.toList).toArray⟩) ∧ w' = w := Any.strings_TrimPrefix Tryz.lays101 s p w
end Go.Proofs
end
section
namespace Go.Proofs.YtpkfdjlmflmilaaGreatDoor.Q
open Go.RowKit Go.Proofs.YtpkfdjlmflmilaaGreatDoorW.PrintWords Go.Proofs.YtpkfdjlmflmilaaGreatDoorW.PrintLast Go.Proofs.YtpkfdjlmflmilaaGreatDoorW.PrintMore
set_option linter.unusedVariables false
set_option linter.unusedSimpArgs false

theorem cmp_lt : ∀ a b : List UInt8, decide (Lib.compareBytes a b < 0) = Op.bytesLess a b
  | [], [] => rfl
  | [], _ :: _ => rfl
  | _ :: _, [] => rfl
  | a :: x, b :: y => by
    unfold Lib.compareBytes Op.bytesLess
    by_cases h : a < b
    · simp [h]
    · by_cases h' : b < a
      · have hne : ¬ a = b := fun e => by subst e; exact h h'
        rw [if_neg h, if_pos h']
        simp [h, hne]
      · have e : a = b := by
          have h1 := UInt8.not_lt.1 h
          have h2 := UInt8.not_lt.1 h'
          exact UInt8.le_antisymm h2 h1
        subst e
        rw [if_neg h, if_neg h', cmp_lt x y]
        simp [h]
theorem cmp_eq0 : ∀ a b : List UInt8, (Lib.compareBytes a b == 0) = (a == b)
  | [], [] => rfl
  | [], _ :: _ => rfl
  | _ :: _, [] => rfl
  | a :: x, b :: y => by
    unfold Lib.compareBytes
    by_cases h : a < b
    · have hne : ¬ a = b := fun e => by subst e; exact UInt8.lt_irrefl a h
      rw [if_pos h]
      simp [hne]
    · by_cases h' : b < a
      · have hne : ¬ a = b := fun e => by subst e; exact h h'
        rw [if_neg h, if_pos h']
        simp [hne]
      · have e : a = b := by
          have h1 := UInt8.not_lt.1 h
          have h2 := UInt8.not_lt.1 h'
          exact UInt8.le_antisymm h2 h1
        subst e
        rw [if_neg h, if_neg h', cmp_eq0 x y]
        simp

/-- The search, as the text goes. -/
def lbF (l : List S56) (key : ByteArray) : Nat → Nat → Nat → Nat
  | 0, i, _ => i
  | k + 1, i, j => if i < j then (if Op.bytesLess (l.getD ((i + j) / 2) z56).f0.data.toList key.data.toList = true then lbF l key k ((i + j) / 2 + 1) j else lbF l key k i ((i + j) / 2)) else i
def lbN (l : List S56) (key : ByteArray) : Nat := lbF l key l.length 0 l.length
def fdB (l : List S56) (key : ByteArray) : Bool := decide (lbN l key < l.length) && ((l.getD (lbN l key) z56).f0.data.toList == key.data.toList)
theorem lbF_stop (l : List S56) (key : ByteArray) (k i j : Nat) (h : ¬ i < j) : lbF l key k i j = i := by
  cases k with
  | zero => rfl
  | succ k => simp [lbF, h]
theorem lbF_le (l : List S56) (key : ByteArray) : ∀ k i j, i ≤ j → lbF l key k i j ≤ j
  | 0, i, j, h => h
  | k + 1, i, j, h => by
    unfold lbF
    by_cases hlt : i < j
    · rw [if_pos hlt]
      split
      · exact lbF_le l key k _ _ (by omega)
      · exact Nat.le_trans (lbF_le l key k _ _ (by omega)) (by omega)
    · rw [if_neg hlt]; exact h

theorem half_wrap (i j h : Nat) (hi : i ≤ 9223372036854775807) (hj : j ≤ 9223372036854775807) (hh : (i + j) / 2 = h) : wrap64 (IntKind.u64.wrap (wrap64 ((i : Int) + (j : Int))) / 2) = (h : Int) := by
  rw [IntKind.wrap_u64]
  unfold wrap64
  omega

set_option maxHeartbeats 1000000 in
theorem pairAt1 (x : S56) (key : ByteArray) (W : World) : Calls Tryz.prog 114 #[.agg #[.string x.f0, .string x.f1], .string key] W fun e w' =>
    e = .returned (.int .i64 (Lib.compareBytes x.f0.data.toList key.data.toList)) ∧ Below W.heap.size W w' := by
  generalize x.f0 = s0
  generalize x.f1 = s1
  go_enter Tryz.func114, Tryz.ntmps114
  go_wp2_with (go_at_call 115; refine (Tryz.strings_Compare _ _ _).mono ?_; rintro e w' ⟨rfl, rfl⟩)
  go_ret
  exact ⟨rfl, (Below.refl _ _).alloc (Nat.le_refl _) _⟩

set_option maxHeartbeats 4000000 in
set_option maxRecDepth 100000 in
theorem search_calls (A0 : Option Addr) (c0 : Nat) (l0 : List S56) (a1 : ByteArray) (w : World) (hr0 : Kd.C k56 w A0 l0.length l0) :
    Calls Tryz.prog 113 #[.slice A0 l0.length c0, .string a1, .func (.func 114) #[] #[]] w fun e w' =>
      e = .returned (.tuple #[.int .i64 (lbN l0 a1 : Nat), .bool (fdB l0 a1)]) ∧ Below w.heap.size w w' := by
  have eg := enters_of Tryz.func114 (by kernel_rfl) rfl
  have hbig := hr0.2.1
  have HR := Aside0.mk hr0
  clear hr0
  have HB0 := Aside0.mk (Below.refl w.heap.size w)
  have hu := Tryz.underlying56
  have HF := Aside0.mk (show lbF l0 a1 l0.length 0 l0.length = lbN l0 a1 from rfl)
  have HLE := Aside0.mk (lbF_le l0 a1 l0.length 0 l0.length (Nat.zero_le _))
  have HFD := Aside0.mk (show fdB l0 a1 = (decide (lbN l0 a1 < l0.length) && ((l0.getD (lbN l0 a1) z56).f0.data.toList == a1.data.toList)) from rfl)
  generalize fdB l0 a1 = fd at HFD ⊢
  generalize lbN l0 a1 = res at HF HFD ⊢
  generalize hn : l0.length = n at hbig HR HF HLE HFD ⊢
  have HN := Aside0.mk hn
  clear hn
  go_enter Tryz.func113, Tryz.ntmps113
  go_wp2
  go_loopg [9, 10] n (fun gg s9 s10 wr => ∃ i j : Nat, i ≤ j ∧ j ≤ n ∧ j - i ≤ gg ∧ s9 = .int .i64 i ∧ s10 = .int .i64 j ∧ Aside0 (Below w.heap.size w wr) ∧ Aside0 (∃ f, j - i ≤ f ∧ lbF l0 a1 f i j = res))
  case atStart => exact ⟨0, n, Nat.zero_le _, Nat.le_refl _, by omega, rfl, rfl, HB0, ⟨n, by omega, HF.out⟩⟩
  case round =>
    obtain ⟨i, j, hij, hjn, hg, rfl, rfl, HB, HI⟩ := hrel
    by_cases hlt : i < j
    · have hltz : (i : Int) < (j : Int) := by omega
      obtain ⟨h, hh⟩ : ∃ h : Nat, (i + j) / 2 = h := ⟨_, rfl⟩
      have hih : i ≤ h := by omega
      have hhj : h < j := by omega
      obtain ⟨ad, hA, hx0, hx1⟩ := at_T56 HR.out (h : Int) (by omega) (by omega)
      subst hA
      simp only [Int.toNat_natCast, rd_T56] at hx0 hx1
      replace hx0 := (HB.out.cell (World.block_lt_of_cell? w _ hx0)).trans hx0
      replace hx1 := (HB.out.cell (World.block_lt_of_cell? w _ hx1)).trans hx1
      have hcall := pairAt1 (l0.getD h z56) a1
      have hc := cmp_lt (l0.getD h z56).f0.data.toList a1.data.toList
      have hstep : ∀ f, lbF l0 a1 (f + 1) i j = if Op.bytesLess (l0.getD h z56).f0.data.toList a1.data.toList = true then lbF l0 a1 f (h + 1) j else lbF l0 a1 f i h := fun f => by
        rw [lbF, if_pos hlt, hh]
      have HS := Aside0.mk hstep
      clear hstep
      generalize Op.bytesLess (l0.getD h z56).f0.data.toList a1.data.toList = b at hc HS
      generalize Lib.compareBytes (l0.getD h z56).f0.data.toList a1.data.toList = cmp at hc hcall
      generalize (l0.getD h z56).f0 = s0 at hx0 hcall
      generalize (l0.getD h z56).f1 = s1 at hx1 hcall
      have e1 : wrap64 (IntKind.u64.wrap (wrap64 ((i : Int) + (j : Int))) / 2) = (h : Int) := half_wrap i j h (by omega) (by omega) hh
      cases b with
      | true =>
        have hcm : decide (cmp < 0) = true := hc
        clear hc hh
        go_wp2_with (go_at_call 114; refine (hcall _).mono ?_; rintro e w' ⟨rfl, hb⟩)
        go_roundg (j - (h + 1))
        case measure => omega
        case rel =>
          refine ⟨h + 1, j, by omega, by omega, by omega, by go_num, by go_num, ⟨HB.out.trans (hb.mono HB.out.size)⟩, ?_⟩
          obtain ⟨f, hf, e⟩ := HI.out
          obtain ⟨f, rfl⟩ : ∃ m, f = m + 1 := ⟨f - 1, by omega⟩
          refine ⟨f, by omega, ?_⟩
          rw [HS.out f] at e
          simpa using e
      | false =>
        have hcm : decide (cmp < 0) = false := hc
        clear hc hh
        go_wp2_with (go_at_call 114; refine (hcall _).mono ?_; rintro e w' ⟨rfl, hb⟩)
        go_roundg (h - i)
        case measure => omega
        case rel =>
          refine ⟨i, h, by omega, by omega, by omega, by go_num, by go_num, ⟨HB.out.trans (hb.mono HB.out.size)⟩, ?_⟩
          obtain ⟨f, hf, e⟩ := HI.out
          obtain ⟨f, rfl⟩ : ∃ m, f = m + 1 := ⟨f - 1, by omega⟩
          refine ⟨f, by omega, ?_⟩
          rw [HS.out f] at e
          simpa using e
    · have : i = j := by omega
      subst this
      have hres : res = i := by
        obtain ⟨f, _, e⟩ := HI.out
        rw [lbF_stop l0 a1 f i i hlt] at e
        exact e.symm
      clear HI HF HLE
      subst hres
      by_cases hin : res < n
      · have hinz : (res : Int) < (n : Int) := by omega
        obtain ⟨ad, hA, hx0, hx1⟩ := at_T56 HR.out (res : Int) (by omega) (by omega)
        subst hA
        simp only [Int.toNat_natCast, rd_T56] at hx0 hx1
        replace hx0 := (HB.out.cell (World.block_lt_of_cell? w _ hx0)).trans hx0
        replace hx1 := (HB.out.cell (World.block_lt_of_cell? w _ hx1)).trans hx1
        have hcall := pairAt1 (l0.getD res z56) a1
        have hc := cmp_eq0 (l0.getD res z56).f0.data.toList a1.data.toList
        have hfd : fd = ((l0.getD res z56).f0.data.toList == a1.data.toList) := by rw [HFD.out, decide_eq_true hin, Bool.true_and]
        rw [← hc] at hfd
        clear hc HFD
        generalize Lib.compareBytes (l0.getD res z56).f0.data.toList a1.data.toList = cmp at hfd hcall
        generalize (l0.getD res z56).f0 = s0 at hx0 hcall
        generalize (l0.getD res z56).f1 = s1 at hx1 hcall
        have HFD := Aside0.mk hfd
        clear hfd
        go_wp2_with (go_at_call 114; refine (hcall _).mono ?_; rintro e w' ⟨rfl, hb⟩)
        go_ret2
        exact ⟨by rw [HFD.out]; rfl, HB.out.trans (hb.mono HB.out.size)⟩
      · have hinz : ¬ (res : Int) < (n : Int) := by omega
        have hfd : fd = false := by rw [HFD.out, decide_eq_false hin]; rfl
        clear HFD
        subst hfd
        go_wp2
        go_ret2
        exact ⟨rfl, HB.out⟩

def impl_pairAt.f (l0 : List S56) (a1 : ByteArray) : Option (Int × Bool) := some ((lbN l0 a1 : Nat), fdB l0 a1)
set_option maxHeartbeats 1000000 in
theorem impl_pairAt.calls (A0 : Option Addr) (c0 : Nat) (l0 : List S56) (a1 : ByteArray) (r1 : Int) (r2 : Bool) (w : World) (hr0 : Kd.C k56 w A0 l0.length l0) (hc0 : l0.length ≤ c0) (h : impl_pairAt.f l0 a1 = some (r1, r2)) :
    Calls Tryz.prog 98 #[.slice A0 l0.length c0, .string a1] w fun e w' => e = .returned (.tuple #[.int .i64 r1, .bool r2]) ∧ Below w.heap.size w w' := by
  have HC := search_calls A0 c0 l0 a1 w hr0
  injection h with h
  injection h with h1 h2
  rw [h1, h2] at HC
  clear h1 h2 hr0 hc0
  go_enter Tryz.func98, Tryz.ntmps98
  go_wp2_with (go_at_call 113; refine HC.mono ?_; rintro e w' ⟨rfl, hb⟩)
  go_ret2
  exact ⟨rfl, hb⟩
end Go.Proofs.YtpkfdjlmflmilaaGreatDoor.Q
end
section
namespace Go.Proofs.YtpkfdjlmflmilaaGreatDoor.Q
open Go.RowKit Go.Proofs.YtpkfdjlmflmilaaGreatDoorW.PrintWords Go.Proofs.YtpkfdjlmflmilaaGreatDoorW.PrintLast Go.Proofs.YtpkfdjlmflmilaaGreatDoorW.PrintMore
attribute [local go_sem] max2_int min2_int max_two min_two max_three min_three max_four min_four   -- for this text's walks alone
set_option linter.unusedVariables false
set_option linter.unusedSimpArgs false

/-! ### impl_get: function 80 -/
def impl_get.f (l0 : List (S56)) (a1 : ByteArray) : Option (ByteArray × Bool) := (impl_pairAt.f l0 a1).bind fun bt280 => (if bt280.2 = true then (if 0 ≤ bt280.1 then (if bt280.1 < (l0.length : Int) then (some ((rd_T56 l0 bt280.1).f1, true)) else (none)) else (none)) else (some ((⟨#[]⟩ : ByteArray), false)))
set_option maxHeartbeats 8000000 in
set_option maxRecDepth 100000 in
theorem impl_get.calls (A0 : Option Addr) (c0 : Nat) (l0 : List (S56)) (a1 : ByteArray) (r1 : ByteArray) (r2 : Bool) (w : World) (hr0 : Kd.C k56 w A0 l0.length l0) (hc0 : l0.length ≤ c0) (h : impl_get.f l0 a1 = some (r1, r2)) :
    Calls Tryz.prog 80 #[.slice A0 l0.length c0, .string a1] w fun e w' => e = .returned (.tuple #[.string r1, .bool r2]) ∧ Below w.heap.size w w' := by
  have HR0 := Aside0.mk hr0
  have HC0 := Aside0.mk hc0
  clear hr0 hc0
  have HB := Aside0.mk (Below.refl w.heap.size w)
  have H : ((impl_pairAt.f l0 a1).bind fun bt280 => (if bt280.2 = true then (if 0 ≤ bt280.1 then (if bt280.1 < (l0.length : Int) then (some ((rd_T56 l0 bt280.1).f1, true)) else (none)) else (none)) else (some ((⟨#[]⟩ : ByteArray), false)))) = some (r1, r2) := h
  clear h
  replace H := Option.bind_eq_some_iff.mp H
  obtain ⟨⟨t280, t281⟩, A30, H⟩ := H
  replace H : (if t281 = true then (if 0 ≤ t280 then (if t280 < (l0.length : Int) then (some ((rd_T56 l0 t280).f1, true)) else (none)) else (none)) else (some ((⟨#[]⟩ : ByteArray), false))) = some (r1, r2) := H
  have A3 := Aside0.mk A30
  clear A30
  by_cases c4 : t281 = true
  · subst c4
    have H1 : (if 0 ≤ t280 then (if t280 < (l0.length : Int) then (some ((rd_T56 l0 t280).f1, true)) else (none)) else (none)) = some (r1, r2) := by rw [if_pos rfl] at H; exact H
    clear H
    have H := H1
    clear H1
    by_cases c5 : 0 ≤ t280
    · rw [if_pos c5] at H
      have c5b0 : decide (0 ≤ t280) = true := decide_eq_true c5
      clear c5
      by_cases c6 : t280 < (l0.length : Int)
      · rw [if_pos c6] at H
        have c6b0 : decide (t280 < (l0.length : Int)) = true := decide_eq_true c6
        clear c6
        simp only [Option.some.injEq, Prod.mk.injEq] at H
        obtain ⟨rfl, rfl⟩ := H
        go_enter Tryz.func80, Tryz.ntmps80
        go_wp2_with (first | ((with_reducible refine gate_callee (f := 98) rfl ?_); refine goesL_ (some 11) rfl rfl Tryz.func98 (by kernel_rfl) rfl #[.slice A0 l0.length c0, .string a1] rfl (by (try simp only [List.map_toArray, List.map_cons, List.map_nil]); first | done | rfl | (simp only [List.length_drop, List.length_take]; rfl)) ?_; (with_reducible refine (impl_pairAt.calls _ _ l0 a1 t280 true _ ?side1 ?side2 A3.out).mono ?_); (case side1 => repeat (first | exact HR0.out | (with_reducible refine Kd.C_alloc ?_ _) | (with_reducible refine Kd.C_drewN ?_ _) | (with_reducible refine Kd.C_drew ?_))); (case side2 => exact HC0.out); rintro e w7 ⟨rfl, hb⟩; refine ⟨_, rfl, ?_⟩; have n0_ := Aside0.mk (below_step (by repeat (first | (with_reducible first | exact HB.out | apply below_alloc | apply pw_below_drewN | apply below_drew1) | exact HB.out)) hb); clear HB; have HB := n0_; clear n0_; (try clear hb); (try clear hb2); (try clear hk); (try clear hi); have p282 : 0 ≤ (t280 : Int) := of_decide_eq_true (by first | (with_reducible assumption) | assumption); have q282 : t280 < (l0.length : Int) := of_decide_eq_true (by first | (with_reducible assumption) | assumption); obtain ⟨ad282, e282, hx282_0, hx282_1⟩ := at_T56 HR0.out t280 p282 q282; cases e282; replace hx282_0 := (HB.out.cell (World.block_lt_of_cell? w _ hx282_0)).trans hx282_0; replace hx282_1 := (HB.out.cell (World.block_lt_of_cell? w _ hx282_1)).trans hx282_1; replace p282 := eq_true p282; replace q282 := eq_true q282))
        go_ret2
        exact ⟨by first | rfl | (simp [errW_none, errW_some] <;> rfl) | (simp [*, errW_none, errW_some] <;> rfl), by repeat (first | (with_reducible first | exact HB.out | apply below_alloc | apply pw_below_drewN | apply below_drew1) | exact HB.out)⟩
      · rw [if_neg c6] at H
        exact absurd H (by simp)
    · rw [if_neg c5] at H
      exact absurd H (by simp)
  · replace c4 := Bool.eq_false_iff.mpr c4
    subst c4
    have H1 : (some ((⟨#[]⟩ : ByteArray), false)) = some (r1, r2) := by rw [if_neg (show ¬ (false = true) by decide)] at H; exact H
    clear H
    have H := H1
    clear H1
    simp only [Option.some.injEq, Prod.mk.injEq] at H
    obtain ⟨rfl, rfl⟩ := H
    go_enter Tryz.func80, Tryz.ntmps80
    go_wp2_with (first | ((with_reducible refine gate_callee (f := 98) rfl ?_); refine goesL_ (some 11) rfl rfl Tryz.func98 (by kernel_rfl) rfl #[.slice A0 l0.length c0, .string a1] rfl (by (try simp only [List.map_toArray, List.map_cons, List.map_nil]); first | done | rfl | (simp only [List.length_drop, List.length_take]; rfl)) ?_; (with_reducible refine (impl_pairAt.calls _ _ l0 a1 t280 false _ ?side1 ?side2 A3.out).mono ?_); (case side1 => repeat (first | exact HR0.out | (with_reducible refine Kd.C_alloc ?_ _) | (with_reducible refine Kd.C_drewN ?_ _) | (with_reducible refine Kd.C_drew ?_))); (case side2 => exact HC0.out); rintro e w8 ⟨rfl, hb⟩; refine ⟨_, rfl, ?_⟩; have n0_ := Aside0.mk (below_step (by repeat (first | (with_reducible first | exact HB.out | apply below_alloc | apply pw_below_drewN | apply below_drew1) | exact HB.out)) hb); clear HB; have HB := n0_; clear n0_; (try clear hb); (try clear hb2); (try clear hk); (try clear hi)))
    go_ret2
    exact ⟨by first | rfl | (simp [errW_none, errW_some] <;> rfl) | (simp [*, errW_none, errW_some] <;> rfl), by repeat (first | (with_reducible first | exact HB.out | apply below_alloc | apply pw_below_drewN | apply below_drew1) | exact HB.out)⟩




























/-! ### impl_isAmount: function 100 -/
def impl_isAmount.f (a0 : Int) : Option (Bool) := (impl_within.f a0 0 1000000000000000000).bind fun t283 => (some t283)
set_option maxHeartbeats 8000000 in
set_option maxRecDepth 100000 in
theorem impl_isAmount.calls (a0 : Int) (r : Bool) (w : World) (h : impl_isAmount.f a0 = some r) :
    Calls Tryz.prog 100 #[.int .i64 a0] w fun e w' => e = .returned (.bool r) ∧ Drawn0 w w' := by
  have H : ((impl_within.f a0 0 1000000000000000000).bind fun t283 => (some t283)) = some r := h
  clear h
  replace H := Option.bind_eq_some_iff.mp H
  obtain ⟨t283, A20, H⟩ := H
  replace H : (some t283) = some r := H
  have A2 := Aside0.mk A20
  clear A20
  obtain rfl := Option.some.inj H
  go_enter Tryz.func100, Tryz.ntmps100
  go_wp2_with (first | ((with_reducible refine gate_callee (f := 84) rfl ?_); refine goesL_ (some 4) rfl rfl Tryz.func84 (by kernel_rfl) rfl #[.int .i64 a0, .int .i64 0, .int .i64 1000000000000000000] rfl (by (try simp only [List.map_toArray, List.map_cons, List.map_nil]); first | done | rfl | (simp only [List.length_drop, List.length_take]; rfl)) ?_; (with_reducible refine (impl_within.calls a0 0 1000000000000000000 t283 _ A2.out).mono ?_); rintro e w' ⟨rfl, ⟨nd, rfl⟩⟩; refine ⟨_, rfl, ?_⟩))
  go_ret
  exact ⟨by first | rfl | (simp; done) | (simp [*]; done), by repeat (first | exact Drawn0.refl _ | apply Drawn0.step)⟩

end Go.Proofs.YtpkfdjlmflmilaaGreatDoor.Q
end
section
namespace Go.Proofs.YtpkfdjlmflmilaaGreatDoor.Q
open Go.RowKit Go.Proofs.YtpkfdjlmflmilaaGreatDoorW.PrintWords Go.Proofs.YtpkfdjlmflmilaaGreatDoorW.PrintLast Go.Proofs.YtpkfdjlmflmilaaGreatDoorW.PrintMore
theorem below_grow (w : World) (k : Nat) (os : Array Obj) : Below w.heap.size w (Go.Sort.grow (w.drewN k) os) := by
  refine (pw_below_drewN (Below.refl w.heap.size w) k).trans ⟨rfl, rfl, rfl, ?_, fun j hj => ?_⟩
  · show (w.drewN k).heap.size ≤ ((w.drewN k).heap ++ os).size
    rw [Array.size_append]
    omega
  · have h := (pw_below_drewN (Below.refl w.heap.size w) k).size
    show ((w.drewN k).heap ++ os)[j]? = (w.drewN k).heap[j]?
    exact Array.getElem?_append_left (by omega)
def strconv_Itoa.f (n : Int) : Option ByteArray := if -9223372036854775808 ≤ n ∧ n ≤ 9223372036854775807 then some ⟨(Lib.itoa n).toArray⟩ else none
theorem strconv_Itoa.calls (a0 : Int) (r : ByteArray) (w : World) (htab : Tb.TB w) (h : strconv_Itoa.f a0 = some r) :
    Calls Tryz.prog 118 #[.int .i64 a0] w fun e w' => e = .returned (.string r) ∧ Below w.heap.size w w' := by
  unfold strconv_Itoa.f at h
  split at h
  · rename_i hn
    injection h with h
    subst h
    refine (Tryz.strconv_Itoa a0 hn.1 hn.2 w htab.1).mono ?_
    rintro e w' ⟨rfl, k, os, rfl⟩
    exact ⟨rfl, below_grow w k os⟩
  · cases h
end Go.Proofs.YtpkfdjlmflmilaaGreatDoor.Q
end
section
namespace Go.Proofs.YtpkfdjlmflmilaaGreatDoor.Q
open Go.RowKit Go.Proofs.YtpkfdjlmflmilaaGreatDoorW.PrintWords Go.Proofs.YtpkfdjlmflmilaaGreatDoorW.PrintLast Go.Proofs.YtpkfdjlmflmilaaGreatDoorW.PrintMore
attribute [local go_sem] max2_int min2_int max_two min_two max_three min_three max_four min_four   -- for this text's walks alone
set_option linter.unusedVariables false
set_option linter.unusedSimpArgs false

/-! ### impl_amountText: function 101 -/
def impl_amountText.f (a0 : Int) : Option (ByteArray) := (strconv_Itoa.f a0).bind fun t284 => (some t284)
set_option maxHeartbeats 8000000 in
set_option maxRecDepth 100000 in
theorem impl_amountText.calls (a0 : Int) (r : ByteArray) (w : World) (htab : Tb.TB w) (h : impl_amountText.f a0 = some r) :
    Calls Tryz.prog 101 #[.int .i64 a0] w fun e w' => e = .returned (.string r) ∧ Below w.heap.size w w' := by
  have HT := Aside0.mk htab
  clear htab
  have HB := Aside0.mk (Below.refl w.heap.size w)
  have H : ((strconv_Itoa.f a0).bind fun t284 => (some t284)) = some r := h
  clear h
  replace H := Option.bind_eq_some_iff.mp H
  obtain ⟨t284, A20, H⟩ := H
  replace H : (some t284) = some r := H
  have A2 := Aside0.mk A20
  clear A20
  obtain rfl := Option.some.inj H
  go_enter Tryz.func101, Tryz.ntmps101
  go_wp2_with (first | ((with_reducible refine gate_callee (f := 118) rfl ?_); refine goesL_ (some 4) rfl rfl Tryz.func118 (by kernel_rfl) rfl #[.int .i64 a0] rfl (by (try simp only [List.map_toArray, List.map_cons, List.map_nil]); first | done | rfl | (simp only [List.length_drop, List.length_take]; rfl)) ?_; (with_reducible refine (strconv_Itoa.calls a0 t284 _ ?tb1 A2.out).mono ?_); (case tb1 => exact Tb.TB.below HT.out (by repeat (first | (with_reducible first | exact HB.out | apply below_alloc | apply pw_below_drewN | apply below_drew1) | exact HB.out)) (Nat.le_refl _)); rintro e w3 ⟨rfl, hb⟩; refine ⟨_, rfl, ?_⟩; have n0_ := Aside0.mk (below_step (by repeat (first | (with_reducible first | exact HB.out | apply below_alloc | apply pw_below_drewN | apply below_drew1) | exact HB.out)) hb); clear HB; have HB := n0_; clear n0_; (try clear hb); (try clear hb2); (try clear hk); (try clear hi)))
  go_ret
  exact ⟨by first | rfl | (simp [errW_none, errW_some] <;> rfl) | (simp [*, errW_none, errW_some] <;> rfl), by repeat (first | (with_reducible first | exact HB.out | apply below_alloc | apply pw_below_drewN | apply below_drew1) | exact HB.out)⟩


end Go.Proofs.YtpkfdjlmflmilaaGreatDoor.Q
end
section
namespace Go.Proofs.YtpkfdjlmflmilaaGreatDoor.Q
open Go.RowKit Go.Proofs.YtpkfdjlmflmilaaGreatDoorW.PrintWords Go.Proofs.YtpkfdjlmflmilaaGreatDoorW.PrintLast Go.Proofs.YtpkfdjlmflmilaaGreatDoorW.PrintMore
set_option linter.unusedVariables false
set_option linter.unusedSimpArgs false
def itoaT (v : Int) : ByteArray := ⟨(Lib.itoa v).toArray⟩
/-- What is read: a number and whether it is one. -/
def raT (t : ByteArray) : Int × Bool :=
  match Lib.atoiAll t.data.toList with
  | .ok v => if (0 ≤ v ∧ v ≤ 1000000000000000000) ∧ itoaT v = t then (v, true) else (0, false)
  | _ => (0, false)
def impl_readAmount.f (t : ByteArray) : Option (Int × Bool) := if t.size ≤ 140737488355328 then some (raT t) else none
theorem ra_inj {a b : ByteArray} (h : a.toList = b.toList) : a = b := Go.WideShapes.bytes_inj (by rw [← Lib.toList_data, ← Lib.toList_data]; exact h)
theorem ra_ne (a b : ByteArray) : (a.toList != b.toList) = !decide (a = b) := by
  rw [Bool.eq_iff_iff]
  simp only [bne_iff_ne, ne_eq, Bool.not_eq_true', decide_eq_false_iff_not]
  exact ⟨fun h e => h (by rw [e]), fun h e => h (ra_inj e)⟩
set_option maxHeartbeats 4000000 in
set_option maxRecDepth 100000 in
theorem impl_readAmount.calls (a0 : ByteArray) (r1 : Int) (r2 : Bool) (w : World) (htab : Tb.TB w) (h : impl_readAmount.f a0 = some (r1, r2)) :
    Calls Tryz.prog 81 #[.string a0] w fun e w' => e = .returned (.tuple #[.int .i64 r1, .bool r2]) ∧ Below w.heap.size w w' := by
  unfold impl_readAmount.f at h
  split at h
  case isFalse => cases h
  case isTrue hs =>
  injection h with h
  obtain ⟨hpow, ⟨tr, pr, hER⟩, ts, ps, hES⟩ := id htab
  unfold raT at h
  rcases hx : Lib.atoiAll a0.data.toList with v | _ | _
  · have hat : Calls Tryz.prog 99 #[.string a0] w fun e w' => e = .returned (.tuple #[.int .i64 v, .nilIface]) ∧ Below w.heap.size w w' := by
      have h0 : Calls Tryz.prog 99 #[.string a0] w fun e w' => e = .returned (.tuple #[.int .i64 v, .nilIface]) ∧ (w' = w ∨ ∃ t, w' = Lib.bytesWorld w 5 t) := Any.strconv_Atoi_ok Tryz.laysC172 a0 (by omega) v hx w
      refine h0.mono ?_
      rintro e w' ⟨rfl, rfl | ⟨t, rfl⟩⟩
      · exact ⟨rfl, Below.refl _ _⟩
      · refine ⟨rfl, ?_⟩
        exact ⟨by simp [Lib.bytesWorld, World.freeze, World.alloc, World.drew, -World.alloc_eq, -World.drew_eq], by simp [Lib.bytesWorld, World.freeze, World.alloc, World.drew, -World.alloc_eq, -World.drew_eq], by simp [Lib.bytesWorld, World.freeze, World.alloc, World.drew, -World.alloc_eq, -World.drew_eq], by rw [Lib.bytesWorld_size]; omega, fun k hk => Lib.bytesWorld_at_old w 5 t k hk⟩
    obtain ⟨vb0, vb1⟩ := Lib.atoiAll_bounds hx
    rw [hx] at h
    replace h : (if (0 ≤ v ∧ v ≤ 1000000000000000000) ∧ itoaT v = a0 then (v, true) else (0, false)) = (r1, r2) := h
    have HA := Aside0.mk hat
    have HTB := Aside0.mk htab
    clear hat hx hpow hER hES htab hs
    by_cases hb : 0 ≤ v ∧ v ≤ 1000000000000000000
    · have HI := Aside0.mk (fun W => impl_isAmount.calls v true W (by unfold impl_isAmount.f impl_within.f; rw [if_pos (show v ≥ 0 from hb.1), decide_eq_true hb.2]; rfl))
      have HT := Aside0.mk (fun W ht => impl_amountText.calls v (itoaT v) W ht (by unfold impl_amountText.f strconv_Itoa.f; rw [if_pos (by omega)]; rfl))
      replace h : (if itoaT v = a0 then (v, true) else (0, false)) = (r1, r2) := by
        by_cases he : itoaT v = a0
        · rw [if_pos ⟨hb, he⟩] at h
          rw [if_pos he]
          exact h
        · rw [if_neg (fun h1 => he h1.2)] at h
          rw [if_neg he]
          exact h
      clear vb0 vb1 hb
      generalize itoaT v = u at h HT
      have hc := ra_ne u a0
      by_cases he : u = a0
      · rw [if_pos he] at h
        injection h with e1 e2
        subst e1
        subst e2
        rw [decide_eq_true he] at hc
        replace hc : (u.toList != a0.toList) = false := hc
        have hc0 : (u.toList == a0.toList) = true := by rw [he]; exact beq_self_eq_true _
        clear he
        go_enter Tryz.func81, Tryz.ntmps81
        go_wp2_with (first
          | (go_at_call 99; refine HA.out.mono ?_; rintro e w1 ⟨rfl, hb1⟩; have HB1 := Aside0.mk hb1; clear hb1)
          | (go_at_call 100; refine (HI.out _).mono ?_; rintro e w2 ⟨rfl, hd2⟩; have HD2 := Aside0.mk hd2; clear hd2)
          | (go_at_call 101; refine (HT.out _ (Tb.TB.below (Tb.TB.below HTB.out HB1.out (Nat.le_refl _)) HD2.out.below (Nat.le_refl _))).mono ?_; rintro e w3 ⟨rfl, hb3⟩; have HB3 := Aside0.mk hb3; clear hb3))
        go_ret2
        exact ⟨rfl, below_step (below_step HB1.out HD2.out.below) HB3.out⟩
      · rw [if_neg he] at h
        injection h with e1 e2
        subst e1
        subst e2
        rw [decide_eq_false he] at hc
        replace hc : (u.toList != a0.toList) = true := hc
        have hc0 : (u.toList == a0.toList) = false := by rw [beq_eq_false_iff_ne]; exact fun e => he (ra_inj e)
        clear he
        go_enter Tryz.func81, Tryz.ntmps81
        go_wp2_with (first
          | (go_at_call 99; refine HA.out.mono ?_; rintro e w1 ⟨rfl, hb1⟩; have HB1 := Aside0.mk hb1; clear hb1)
          | (go_at_call 100; refine (HI.out _).mono ?_; rintro e w2 ⟨rfl, hd2⟩; have HD2 := Aside0.mk hd2; clear hd2)
          | (go_at_call 101; refine (HT.out _ (Tb.TB.below (Tb.TB.below HTB.out HB1.out (Nat.le_refl _)) HD2.out.below (Nat.le_refl _))).mono ?_; rintro e w3 ⟨rfl, hb3⟩; have HB3 := Aside0.mk hb3; clear hb3))
        go_ret2
        exact ⟨rfl, below_step (below_step HB1.out HD2.out.below) HB3.out⟩
    · have HI := Aside0.mk (fun W => impl_isAmount.calls v false W (by
        unfold impl_isAmount.f impl_within.f
        by_cases h0 : v ≥ 0
        · rw [if_pos h0, decide_eq_false (fun h1 => hb ⟨h0, h1⟩)]; rfl
        · rw [if_neg h0]; rfl))
      rw [if_neg (fun h1 => hb h1.1)] at h
      injection h with e1 e2
      subst e1
      subst e2
      clear vb0 vb1 hb
      go_enter Tryz.func81, Tryz.ntmps81
      go_wp2_with (first
        | (go_at_call 99; refine HA.out.mono ?_; rintro e w1 ⟨rfl, hb1⟩; have HB1 := Aside0.mk hb1; clear hb1)
        | (go_at_call 100; refine (HI.out _).mono ?_; rintro e w2 ⟨rfl, hd2⟩; have HD2 := Aside0.mk hd2; clear hd2))
      go_ret2
      exact ⟨rfl, below_step HB1.out HD2.out.below⟩
  · have HA := Aside0.mk (show Calls Tryz.prog 99 #[.string a0] w fun e w' => ∃ N, e = .returned (.tuple #[.int .i64 0, .iface 115 (.pointer (some ⟨N, 0, none⟩))]) ∧ Below w.heap.size w w' from
      (Any.strconv_Atoi_syntax_var Tryz.laysC172 a0 (by omega) hx ts ps w hES).mono fun e w' ⟨N, he, _, _, hb⟩ => ⟨N, he, hb⟩)
    rw [hx] at h
    injection h with e1 e2
    subst e1
    subst e2
    clear hx hpow hER hES htab hs
    go_enter Tryz.func81, Tryz.ntmps81
    go_wp2_with (go_at_call 99; refine HA.out.mono ?_; rintro e w1 ⟨N1, rfl, hb1⟩; have HB1 := Aside0.mk hb1; clear hb1)
    go_ret2
    exact ⟨rfl, HB1.out⟩
  · have HA := Aside0.mk (show Calls Tryz.prog 99 #[.string a0] w fun e w' => ∃ N, e = .returned (.tuple #[.int .i64 (Lib.atoiSat a0.data.toList), .iface 115 (.pointer (some ⟨N, 0, none⟩))]) ∧ Below w.heap.size w w' from
      (Any.strconv_Atoi_range_var Tryz.laysC172 a0 (by omega) hx tr pr w hER).mono fun e w' ⟨N, he, _, _, hb⟩ => ⟨N, he, hb⟩)
    rw [hx] at h
    injection h with e1 e2
    subst e1
    subst e2
    generalize Lib.atoiSat a0.data.toList = sat at HA
    clear hx hpow hER hES htab hs
    go_enter Tryz.func81, Tryz.ntmps81
    go_wp2_with (go_at_call 99; refine HA.out.mono ?_; rintro e w1 ⟨N1, rfl, hb1⟩; have HB1 := Aside0.mk hb1; clear hb1)
    go_ret2
    exact ⟨rfl, HB1.out⟩
end Go.Proofs.YtpkfdjlmflmilaaGreatDoor.Q
end
section
namespace Go.Proofs.YtpkfdjlmflmilaaGreatDoor.Q
open Go.RowKit Go.Proofs.YtpkfdjlmflmilaaGreatDoorW.PrintWords Go.Proofs.YtpkfdjlmflmilaaGreatDoorW.PrintLast Go.Proofs.YtpkfdjlmflmilaaGreatDoorW.PrintMore
attribute [local go_sem] max2_int min2_int max_two min_two max_three min_three max_four min_four   -- for this text's walks alone
set_option linter.unusedVariables false
set_option linter.unusedSimpArgs false

/-! ### impl_amountAt: function 49 -/
def impl_amountAt.f (l0 : List (S56)) (a1 : ByteArray) : Option (Int) := (impl_get.f l0 a1).bind fun bt285 => ((impl_readAmount.f bt285.1).bind fun bt287 => (some bt287.1))
set_option maxHeartbeats 8000000 in
set_option maxRecDepth 100000 in
theorem impl_amountAt.calls (A0 : Option Addr) (c0 : Nat) (l0 : List (S56)) (a1 : ByteArray) (r : Int) (w : World) (hr0 : Kd.C k56 w A0 l0.length l0) (hc0 : l0.length ≤ c0) (htab : Tb.TB w) (h : impl_amountAt.f l0 a1 = some r) :
    Calls Tryz.prog 49 #[.slice A0 l0.length c0, .string a1] w fun e w' => e = .returned (.int .i64 r) ∧ Below w.heap.size w w' := by
  have HT := Aside0.mk htab
  clear htab
  have HR0 := Aside0.mk hr0
  have HC0 := Aside0.mk hc0
  clear hr0 hc0
  have HB := Aside0.mk (Below.refl w.heap.size w)
  have H : ((impl_get.f l0 a1).bind fun bt285 => ((impl_readAmount.f bt285.1).bind fun bt287 => (some bt287.1))) = some r := h
  clear h
  replace H := Option.bind_eq_some_iff.mp H
  obtain ⟨⟨t285, t286⟩, A30, H⟩ := H
  replace H : ((impl_readAmount.f t285).bind fun bt287 => (some bt287.1)) = some r := H
  have A3 := Aside0.mk A30
  clear A30
  replace H := Option.bind_eq_some_iff.mp H
  obtain ⟨⟨t287, t288⟩, A40, H⟩ := H
  replace H : (some t287) = some r := H
  have A4 := Aside0.mk A40
  clear A40
  obtain rfl := Option.some.inj H
  go_enter Tryz.func49, Tryz.ntmps49
  go_wp2_with (first | ((with_reducible refine gate_callee (f := 80) rfl ?_); refine goesL_ (some 12) rfl rfl Tryz.func80 (by kernel_rfl) rfl #[.slice A0 l0.length c0, .string a1] rfl (by (try simp only [List.map_toArray, List.map_cons, List.map_nil]); first | done | rfl | (simp only [List.length_drop, List.length_take]; rfl)) ?_; (with_reducible refine (impl_get.calls _ _ l0 a1 t285 t286 _ ?side1 ?side2 A3.out).mono ?_); (case side1 => repeat (first | exact HR0.out | (with_reducible refine Kd.C_alloc ?_ _) | (with_reducible refine Kd.C_drewN ?_ _) | (with_reducible refine Kd.C_drew ?_))); (case side2 => exact HC0.out); rintro e w5 ⟨rfl, hb⟩; refine ⟨_, rfl, ?_⟩; have n0_ := Aside0.mk (below_step (by repeat (first | (with_reducible first | exact HB.out | apply below_alloc | apply pw_below_drewN | apply below_drew1) | exact HB.out)) hb); clear HB; have HB := n0_; clear n0_; (try clear hb); (try clear hb2); (try clear hk); (try clear hi)) | ((with_reducible refine gate_callee (f := 81) rfl ?_); refine goesL_ (some 17) rfl rfl Tryz.func81 (by kernel_rfl) rfl #[.string t285] rfl (by (try simp only [List.map_toArray, List.map_cons, List.map_nil]); first | done | rfl | (simp only [List.length_drop, List.length_take]; rfl)) ?_; (with_reducible refine (impl_readAmount.calls t285 t287 t288 _ ?tb1 A4.out).mono ?_); (case tb1 => exact Tb.TB.below HT.out (by repeat (first | (with_reducible first | exact HB.out | apply below_alloc | apply pw_below_drewN | apply below_drew1) | exact HB.out)) (Nat.le_refl _)); rintro e w6 ⟨rfl, hb⟩; refine ⟨_, rfl, ?_⟩; have n0_ := Aside0.mk (below_step (by repeat (first | (with_reducible first | exact HB.out | apply below_alloc | apply pw_below_drewN | apply below_drew1) | exact HB.out)) hb); clear HB; have HB := n0_; clear n0_; (try clear hb); (try clear hb2); (try clear hk); (try clear hi)))
  go_ret
  exact ⟨by first | rfl | (simp [errW_none, errW_some] <;> rfl) | (simp [*, errW_none, errW_some] <;> rfl), by repeat (first | (with_reducible first | exact HB.out | apply below_alloc | apply pw_below_drewN | apply below_drew1) | exact HB.out)⟩

/-! ### impl_SubAmount: function 89 -/
def impl_SubAmount.j0 : Nat → Int → Int → Bool → Option (Int × Int)
  | 0, _, _, _ => none
  | k + 1, x0, x1, x6 => if x6 = true then (some (0, 4)) else (if x0 < x1 then (some (0, 12)) else (some (wrap64 (x0 - x1), 0)))
def impl_SubAmount.f (k : Nat) (a0 : Int) (a1 : Int) : Option (Int × Int) := (impl_isAmount.f a0).bind fun t289 => (if t289 = true then ((impl_isAmount.f a1).bind fun t290 => (impl_SubAmount.j0 k a0 a1 (!t290))) else (impl_SubAmount.j0 k a0 a1 true))
set_option maxHeartbeats 8000000 in
set_option maxRecDepth 100000 in
theorem impl_SubAmount.calls (k : Nat) (a0 : Int) (a1 : Int) (r1 : Int) (r2 : Int) (w : World) (h : impl_SubAmount.f k a0 a1 = some (r1, r2)) :
    Calls Tryz.prog 89 #[.int .i64 a0, .int .i64 a1] w fun e w' => e = .returned (.tuple #[.int .i64 r1, .int .i64 r2]) ∧ Drawn0 w w' := by
  have H : ((impl_isAmount.f a0).bind fun t289 => (if t289 = true then ((impl_isAmount.f a1).bind fun t290 => (impl_SubAmount.j0 k a0 a1 (!t290))) else (impl_SubAmount.j0 k a0 a1 true))) = some (r1, r2) := h
  clear h
  have HC3 := Aside0.mk H
  clear H
  go_enter Tryz.func89, Tryz.ntmps89
  go_upto_region 1 with (fail)
  go_cut [6] (fun v6 wc => ∃ (kq : Nat) (x6_2 : Bool), v6 = .bool x6_2 ∧ Aside0 (impl_SubAmount.j0 kq a0 a1 x6_2 = some (r1, r2)) ∧ Aside0 (kq ≤ k) ∧ Drawn0 w wc)
  case first =>
    have H := HC3.out
    clear HC3
    replace H := Option.bind_eq_some_iff.mp H
    obtain ⟨t289, A40, H⟩ := H
    replace H : (if t289 = true then ((impl_isAmount.f a1).bind fun t290 => (impl_SubAmount.j0 k a0 a1 (!t290))) else (impl_SubAmount.j0 k a0 a1 true)) = some (r1, r2) := H
    have A4 := Aside0.mk A40
    clear A40
    by_cases c5 : t289 = true
    · subst c5
      have H1 : ((impl_isAmount.f a1).bind fun t290 => (impl_SubAmount.j0 k a0 a1 (!t290))) = some (r1, r2) := by rw [if_pos rfl] at H; exact H
      clear H
      have H := H1
      clear H1
      replace H := Option.bind_eq_some_iff.mp H
      obtain ⟨t290, A60, H⟩ := H
      replace H : (impl_SubAmount.j0 k a0 a1 (!t290)) = some (r1, r2) := H
      have A6 := Aside0.mk A60
      clear A60
      have H' := Aside0.mk H
      clear H
      go_wp2_with (first | ((with_reducible refine gate_callee (f := 100) rfl ?_); refine goesL_ (some 8) rfl rfl Tryz.func100 (by kernel_rfl) rfl #[.int .i64 a0] rfl (by (try simp only [List.map_toArray, List.map_cons, List.map_nil]); first | done | rfl | (simp only [List.length_drop, List.length_take]; rfl)) ?_; (with_reducible refine (impl_isAmount.calls a0 true _ A4.out).mono ?_); rintro e w' ⟨rfl, ⟨nd, rfl⟩⟩; refine ⟨_, rfl, ?_⟩) | (go_at_call 100; (with_reducible refine (impl_isAmount.calls a1 t290 _ A6.out).mono ?_); rintro e w' ⟨rfl, ⟨nd, rfl⟩⟩))
      go_meet
      case rel => exact ⟨_, (!t290), (by first | rfl | (simp; done) | (simp [*]; done)), H', ⟨by first | omega | exact Nat.le_refl _⟩, by repeat (first | exact Drawn0.refl _ | apply Drawn0.step)⟩
    · replace c5 := Bool.eq_false_iff.mpr c5
      subst c5
      have H1 : (impl_SubAmount.j0 k a0 a1 true) = some (r1, r2) := by rw [if_neg (show ¬ (false = true) by decide)] at H; exact H
      clear H
      have H := H1
      clear H1
      have H' := Aside0.mk H
      clear H
      go_wp2_with (first | ((with_reducible refine gate_callee (f := 100) rfl ?_); refine goesL_ (some 8) rfl rfl Tryz.func100 (by kernel_rfl) rfl #[.int .i64 a0] rfl (by (try simp only [List.map_toArray, List.map_cons, List.map_nil]); first | done | rfl | (simp only [List.length_drop, List.length_take]; rfl)) ?_; (with_reducible refine (impl_isAmount.calls a0 false _ A4.out).mono ?_); rintro e w' ⟨rfl, ⟨nd, rfl⟩⟩; refine ⟨_, rfl, ?_⟩))
      go_meet
      case rel => exact ⟨_, (true), (by first | rfl | (simp; done) | (simp [*]; done)), H', ⟨by first | omega | exact Nat.le_refl _⟩, by repeat (first | exact Drawn0.refl _ | apply Drawn0.step)⟩
  case rest =>
    clear HC3
    try clear c1
    try clear p2
    try clear c5
    obtain ⟨kq, x6_2, rfl, HA, HJ2, ⟨mc2, rfl⟩⟩ := hcut
    cases kq with
    | zero => exact absurd HA.out (by simp [impl_SubAmount.j0])
    | succ kj2 =>
      have H := HA.out
      clear HA
      simp only [impl_SubAmount.j0] at H
      by_cases c7 : x6_2 = true
      · subst c7
        have H1 : (some (0, 4)) = some (r1, r2) := by rw [if_pos rfl] at H; exact H
        clear H
        have H := H1
        clear H1
        simp only [Option.some.injEq, Prod.mk.injEq] at H
        obtain ⟨rfl, rfl⟩ := H
        go_wp2
        go_ret2
        exact ⟨by first | rfl | (simp; done) | (simp [*]; done), by repeat (first | exact Drawn0.refl _ | apply Drawn0.step)⟩
      · replace c7 := Bool.eq_false_iff.mpr c7
        subst c7
        have H1 : (if a0 < a1 then (some (0, 12)) else (some (wrap64 (a0 - a1), 0))) = some (r1, r2) := by rw [if_neg (show ¬ (false = true) by decide)] at H; exact H
        clear H
        have H := H1
        clear H1
        by_cases c8 : a0 < a1
        · rw [if_pos c8] at H
          have c8b0 : decide (a0 < a1) = true := decide_eq_true c8
          clear c8
          simp only [Option.some.injEq, Prod.mk.injEq] at H
          obtain ⟨rfl, rfl⟩ := H
          go_wp2
          go_ret2
          exact ⟨by first | rfl | (simp; done) | (simp [*]; done), by repeat (first | exact Drawn0.refl _ | apply Drawn0.step)⟩
        · rw [if_neg c8] at H
          have c8b0 : decide (a0 < a1) = false := decide_eq_false c8
          clear c8
          simp only [Option.some.injEq, Prod.mk.injEq] at H
          obtain ⟨rfl, rfl⟩ := H
          go_wp2
          go_ret2
          exact ⟨by first | rfl | (simp; done) | (simp [*]; done), by repeat (first | exact Drawn0.refl _ | apply Drawn0.step)⟩










end Go.Proofs.YtpkfdjlmflmilaaGreatDoor.Q
end
section
namespace Go.Proofs.YtpkfdjlmflmilaaGreatDoor.Q
open Go.RowKit Go.Proofs.YtpkfdjlmflmilaaGreatDoorW.PrintWords Go.Proofs.YtpkfdjlmflmilaaGreatDoorW.PrintLast Go.Proofs.YtpkfdjlmflmilaaGreatDoorW.PrintMore
set_option linter.unusedVariables false
set_option linter.unusedSimpArgs false
section
variable {P : Program}
/-- copy, the elements of sz cells each. -/
theorem run_copy_sz (w : World) (dT sT ty elem : TypeId) (sz g o dLen dCap : Nat) (a : Addr) (sLen sCap m : Nat) (cur : Array Value) (t : TypeId) (cs : List Value)
    (hu : P.underlying dT = some (.slice elem)) (hs : (P.info? elem).map (·.size) = some sz)
    (hg : w.heap[g]? = some (.cells cur t (0, 0))) (hm : Nat.min sLen dLen = m) (hn : cs.length = m * sz)
    (hsrc : ∀ j v, cs[j]? = some v → w.cell? (a.add j) = some v) (hfit : o + cs.length ≤ cur.size) (h1 : ∀ v ∈ cs, v.oneCell' = true) :
    (Builtin.copy_ #[dT, sT] ty #[.slice (some ⟨g, o, none⟩) dLen dCap, .slice (some a) sLen sCap]).run P w =
      .ok (goInt m) (w.setRow g (cur.toList.take o ++ cs ++ cur.toList.drop (o + cs.length)).toArray) := by
  subst hm
  have hl := run_loadCells_list (P := P) w a cs hsrc
  have hst := run_storeCells_at P g o t cs 0 cur w hg (by simpa using hfit) h1
  cases hq : P.info? elem with
  | none => simp [hq] at hs
  | some i =>
    have hi : i.size = sz := by simpa [hq] using hs
    rw [hn] at hl
    simp [Builtin.copy_, run_underlying hu, Builtin.lenOf, Builtin.firstCells, sizeOf, typeInfo, hq, hi, hl, hst]
/-- clear of one element. -/
theorem run_clear_one (w : World) (t e ty : TypeId) (z : Value) (ht : P.underlying t = some (.slice e)) (hv : ∀ w, (zeroValue e).run P w = .ok z w) (zs : List Value) (hz : (Builtin.zeroCells z.cells 1).toList = zs) (h1 : ∀ v ∈ zs, v.oneCell' = true)
    (g o c : Nat) (cur : Array Value) (q : TypeId) (hg : w.heap[g]? = some (.cells cur q (0, 0))) (hfit : o + zs.length ≤ cur.size) :
    (Builtin.clear_ #[t] ty #[.slice (some ⟨g, o, none⟩) 1 c]).run P w = .ok (.tuple #[]) (w.setRow g (cur.toList.take o ++ zs ++ cur.toList.drop (o + zs.length)).toArray) := by
  have hst := run_storeCells_at P g o q zs 0 cur w hg (by simpa using hfit) h1
  simp [Builtin.clear_, run_underlying ht, hv, hz, hst]
variable {ops : Array Oper} {rest : List Oper} {o : Oper} {a : Act} {Q : Exit → Act → World → Prop}
theorem step_builtin_run {w : World} {K : Act → World → Prop} {E : Prop} (b : Builtin) (args : Array Operand) (tys : Array TypeId) (hgd : o.guard = none) (ho : o.op = .call { callee := .builtin b, args := args, argTypes := tys }) (vs : Array Value) (hvs : args.map a.eval = vs)
    {v' : Value} {w' : World} (hr : ∀ q : Array Bool, (builtin b tys o.type q vs).run P w = .ok (.value v') w') (hK : K (a.put o.dst v') w') :
    if Region.wanted o (yielded ops a.tmps) = true then Oper.wp P o a w K Q else E := by
  have hw : Region.wanted o (yielded ops a.tmps) = true := by simp [Region.wanted, hgd]
  rw [if_pos hw]
  unfold Oper.wp execOp
  simp only [ho, resolve, invoke, Sem.run_bind, Sem.run_pure, Result.andThen_ok, hvs, hr]
  exact hK
end
theorem heap_setRow_ne (w : World) (g k : Nat) (cs : Array Value) (h : k ≠ g) : (w.setRow g cs).heap[k]? = w.heap[k]? := by
  unfold World.setRow
  simp only [Array.getElem?_modify]
  rw [if_neg (fun e => h e.symm)]
theorem below_setRow {B : Nat} {w W : World} (h : Below B w W) (g : Nat) (cs : Array Value) (hg : B ≤ g) : Below B w (W.setRow g cs) :=
  h.trans ⟨rfl, rfl, rfl, by simp [World.setRow], fun k hk => heap_setRow_ne W g k cs (by omega)⟩
/-! Rows of elements, cut and joined. -/
theorem reps_take {α : Type} {R : α → List Value → Prop} {s : Nat} {ps : List α} {cs : List Value} (h : Reps R s ps cs) (k : Nat) (hk : k ≤ ps.length) : Reps R s (ps.take k) (cs.take (k * s)) := by
  have hks : k * s ≤ ps.length * s := Nat.mul_le_mul_right _ hk
  refine ⟨by rw [List.length_take, List.length_take, h.1, Nat.min_eq_left hk, Nat.min_eq_left hks], fun j p hj => ?_⟩
  rw [List.getElem?_take] at hj
  split at hj
  · rename_i hlt
    have := h.2 j p hj
    have hj2 : j * s + s ≤ k * s := by rw [← Nat.succ_mul]; exact Nat.mul_le_mul_right _ hlt
    rw [List.drop_take, List.take_take, Nat.min_eq_left (by omega)]
    exact this
  · cases hj
theorem reps_drop {α : Type} {R : α → List Value → Prop} {s : Nat} {ps : List α} {cs : List Value} (h : Reps R s ps cs) (k : Nat) : Reps R s (ps.drop k) (cs.drop (k * s)) := by
  refine ⟨by rw [List.length_drop, List.length_drop, h.1, Nat.sub_mul], fun j p hj => ?_⟩
  rw [List.getElem?_drop] at hj
  have := h.2 _ p hj
  rw [List.drop_drop, ← Nat.add_mul]
  exact this
theorem reps_append {α : Type} {R : α → List Value → Prop} {s : Nat} {ps qs : List α} {cs ds : List Value} (h : Reps R s ps cs) (h' : Reps R s qs ds) : Reps R s (ps ++ qs) (cs ++ ds) := by
  refine ⟨by rw [List.length_append, List.length_append, h.1, h'.1, Nat.add_mul], fun j p hj => ?_⟩
  rcases Nat.lt_or_ge j ps.length with hlt | hge
  · rw [List.getElem?_append_left hlt] at hj
    have := h.2 j p hj
    have h1 : j * s + s ≤ cs.length := by rw [h.1, ← Nat.succ_mul]; exact Nat.mul_le_mul_right _ hlt
    rw [List.drop_append_of_le_length (by omega), List.take_append_of_le_length (by rw [List.length_drop]; omega)]
    exact this
  · rw [List.getElem?_append_right hge] at hj
    have := h'.2 _ p hj
    have hs : ps.length * s ≤ j * s := Nat.mul_le_mul_right _ hge
    rw [List.drop_append, List.drop_eq_nil_of_le (by rw [h.1]; exact hs), List.nil_append, h.1, ← Nat.sub_mul]
    exact this
theorem reps_one {α : Type} {R : α → List Value → Prop} {s : Nat} {p : α} {cs : List Value} (h : R p cs) (hl : cs.length = s) : Reps R s [p] cs := by
  refine ⟨by simp [hl], fun j q hj => ?_⟩
  cases j with
  | zero => simp at hj; subst hj; rw [Nat.zero_mul, List.drop_zero, ← hl, List.take_length]; exact h
  | succ j => simp at hj
end Go.Proofs.YtpkfdjlmflmilaaGreatDoor.Q
end
section
namespace Go.Proofs.YtpkfdjlmflmilaaGreatDoor.Q
open Go.RowKit Go.Proofs.YtpkfdjlmflmilaaGreatDoorW.PrintWords Go.Proofs.YtpkfdjlmflmilaaGreatDoorW.PrintLast Go.Proofs.YtpkfdjlmflmilaaGreatDoorW.PrintMore
set_option linter.unusedVariables false
set_option linter.unusedSimpArgs false

theorem copy_next {P : Program} {tys : Array TypeId} {ty : TypeId} {vs : Array Value} {w w' : World} {v' : Value} (hr : (Builtin.copy_ tys ty vs).run P w = .ok v' w') (q : Array Bool) : (builtin .copy tys ty q vs).run P w = .ok (.value v') w' := by simp [builtin, hr]
theorem append_next {P : Program} {tys : Array TypeId} {ty : TypeId} {vs : Array Value} {w w' : World} {v' : Value} (hr : (Builtin.append_ tys ty vs).run P w = .ok v' w') (q : Array Bool) : (builtin .append tys ty q vs).run P w = .ok (.value v') w' := by simp [builtin, hr]
theorem reps_one' {w : World} {ps : List S56} {cs : List Value} (h : Reps (k56.K w) 2 ps cs) : ∀ u ∈ cs, u.oneCell' = true := by
  intro u hu
  obtain ⟨j, hj, rfl⟩ := List.getElem_of_mem hu
  have hp : j / 2 < ps.length := by have := h.1; omega
  have h1 := h.2 (j / 2) _ (List.getElem?_eq_getElem hp)
  refine k56.K_one h1 _ ?_
  refine List.mem_iff_getElem?.2 ⟨j % 2, ?_⟩
  rw [List.getElem?_take, if_pos (by omega), List.getElem?_drop, show j / 2 * 2 + j % 2 = j by omega]
  exact List.getElem?_eq_getElem hj
theorem own_R {w : World} {b : Nat} {v : Value} {ps : List S56} {cs : List Value} (ho : w.ownsRow b 56 2 v ps.length cs) {w' : World} (h : Reps (k56.K w') 2 ps cs) : Kd.R k56 56 w b (fun _ => True) v ps := by
  refine ⟨fun _ _ => trivial, cs, ho, h.imp_ (fun p c hp => ?_)⟩
  obtain rfl := k56_open hp
  exact k56_mkM _ _ _ _
set_option maxHeartbeats 1000000 in
theorem clone_calls (A0 : Option Addr) (c0 : Nat) (l0 : List S56) (w : World) (hr0 : Kd.C k56 w A0 l0.length l0) (hb : l0.length * 32 ≤ 140737488355328) :
    Calls Tryz.prog 109 #[.slice A0 l0.length c0] w fun e w' => ∃ v, e = .returned v ∧ Kd.R k56 56 w' w.heap.size (fun _ => True) v l0 ∧ Below w.heap.size w w' := by
  have hu := Tryz.underlying24
  have hu2 := Tryz.underlying56
  have q25 : ∀ (w : World) (a : Option Addr) (n c n' c' : Nat), (binOp .eql 24 (.slice a n c) (.slice none n' c')).run Tryz.prog w = .ok (.bool a.isNone) w := fun w a n c n' c' => Lib.run_eql_slice_nil w _ _ a n c n' c' hu
  cases A0 with
  | none =>
    obtain rfl : l0 = [] := by
      rcases Nat.eq_zero_or_pos l0.length with h | h
      · exact List.eq_nil_of_length_eq_zero h
      · obtain ⟨ad, e, _⟩ := hr0.2.2 h
        cases e
    clear hr0
    go_enter Tryz.func109, Tryz.ntmps109
    go_wp2
    go_ret
    exact ⟨_, rfl, Kd.R_nil _ _ _ _ _, Below.refl _ _⟩
  | some ad =>
    obtain ⟨inner, hrep, hcell⟩ := ReadsRow.inner_ hr0
    have hbig := hr0.2.1
    obtain ⟨i0, hi, hzz⟩ := Option.map_eq_some_iff.1 info56
    simp only [Prod.mk.injEq] at hzz
    obtain ⟨hz0, hz1, hz2⟩ := hzz
    have HL := Aside0.mk hrep.1
    have HO := Aside0.mk (reps_one' hrep)
    have HC := Aside0.mk hcell
    have HR := Aside0.mk hrep
    clear hrep hcell hr0
    generalize hn : l0.length = n at *
    go_enter Tryz.func109, Tryz.ntmps109
    go_wp2_with (at_builtin; refine wpList_append_own _ rfl _ _ 24 rfl w.heap.size 56 i0 _ 2 32 hu hi hz0 hz1 hz2 rfl (by decide) _ _ _ rfl (World.ownsRow_made w #[] 0 (Nat.le_refl _) (Nat.zero_le _) (by simp)) ad n c0 inner rfl HL.out ?qc2 HO.out ?qc4 ?qc5 ?qc6 ?_)
    case qc2 => exact fun j u hj => Lib.cell?_alloc_some _ (HC.out j u hj)
    case qc4 => rw [Nat.zero_add]; unfold maxLen; omega
    case qc5 => rw [Nat.zero_add]; exact hb
    case qc6 => simp
    intro v' w1 hown hgrow hnil
    go_wp2
    go_ret
    refine ⟨v', rfl, ?_, ?_⟩
    · subst hn
      exact own_R (by simpa using hown) HR.out
    · exact ((Below.refl _ w).alloc (Nat.le_refl _) _).grown hgrow (by simp) (by intro k hk; simp [Value.ownBlock] at hk; omega)
end Go.Proofs.YtpkfdjlmflmilaaGreatDoor.Q
end
section
namespace Go.Proofs.YtpkfdjlmflmilaaGreatDoor.Q
open Go.RowKit Go.Proofs.YtpkfdjlmflmilaaGreatDoorW.PrintWords Go.Proofs.YtpkfdjlmflmilaaGreatDoorW.PrintLast Go.Proofs.YtpkfdjlmflmilaaGreatDoorW.PrintMore
set_option linter.unusedVariables false
set_option linter.unusedSimpArgs false
theorem zeroPair : ∀ w, (zeroValue 56).run Tryz.prog w = .ok (.agg #[.string ⟨#[]⟩, .string ⟨#[]⟩]) w := by intro w; kernel_rfl
/-- A row of which one element is taken out. -/
theorem cut_row (cur : Array Value) (xs zs : List Value) (n i cap : Nat) (hs : cur.size = cap * 2) (ht : cur.toList.take (n * 2) = xs) (hl : xs.length = n * 2) (hi : i < n) (hz : zs.length = 2)
    (c1 c2 : Array Value) (h1 : c1 = (cur.toList.take (i * 2) ++ xs.drop ((i + 1) * 2) ++ cur.toList.drop (i * 2 + (xs.drop ((i + 1) * 2)).length)).toArray)
    (h2 : c2 = (c1.toList.take ((n - 1) * 2) ++ zs ++ c1.toList.drop ((n - 1) * 2 + zs.length)).toArray) : c2.size = cap * 2 ∧ c1.size = cap * 2 ∧ c2.toList.take ((n - 1) * 2) = xs.take (i * 2) ++ xs.drop ((i + 1) * 2) := by
  have hd : (xs.drop ((i + 1) * 2)).length = (n - 1 - i) * 2 := by rw [List.length_drop, hl]; omega
  have hc : cur.toList.length = cap * 2 := by rw [Array.length_toList, hs]
  have hnc : n * 2 ≤ cap * 2 := by
    have : (cur.toList.take (n * 2)).length = n * 2 := by rw [ht, hl]
    rw [List.length_take, hc] at this
    omega
  have l1 : c1.size = cap * 2 := by
    rw [h1]
    simp only [List.size_toArray, List.length_append, List.length_take, List.length_drop, hc, hl]
    omega
  have hx : xs.take (i * 2) = cur.toList.take (i * 2) := by rw [← ht, List.take_take, Nat.min_eq_left (by omega)]
  refine ⟨?_, l1, ?_⟩
  · rw [h2]
    simp only [List.size_toArray, List.length_append, List.length_take, List.length_drop, Array.length_toList, l1, hz]
    omega
  · rw [h2]
    simp only [List.append_assoc]
    rw [List.take_append_of_le_length (by rw [List.length_take, Array.length_toList, l1]; omega), List.take_take, Nat.min_self, h1, hx]
    simp only [List.append_assoc]
    rw [← List.append_assoc, List.take_append_of_le_length (by rw [List.length_append, List.length_take, hc, hd]; omega), List.take_of_length_le (by rw [List.length_append, List.length_take, hc, hd]; omega)]
set_option maxHeartbeats 4000000 in
set_option maxRecDepth 1000000 in
theorem delete_calls (g n cap i B : Nat) (xs : List Value) (cur : Array Value) (w : World) (hg : w.heap[g]? = some (.cells cur 56 (0, 0))) (hnc : n ≤ cap) (hcm : cap ≤ 9223372036854775807) (hs : cur.size = cap * 2) (ht : cur.toList.take (n * 2) = xs) (hl : xs.length = n * 2) (hi : i < n)
    (h1 : ∀ u ∈ xs, u.oneCell' = true) (hB : B ≤ g) :
    Calls Tryz.prog 110 #[.slice (some ⟨g, 0, none⟩) n cap, .int .i64 (i : Int), .int .i64 ((i : Int) + 1)] w fun e w' =>
      e = .returned (.slice (some ⟨g, 0, none⟩) (n - 1) cap) ∧ w'.ownsRow B 56 2 (.slice (some ⟨g, 0, none⟩) (n - 1) cap) (n - 1) (xs.take (i * 2) ++ xs.drop ((i + 1) * 2)) ∧ Below B w w' := by
  have hu := Tryz.underlying24
  obtain ⟨i0, hi0, hzz⟩ := Option.map_eq_some_iff.1 info56
  simp only [Prod.mk.injEq] at hzz
  obtain ⟨hz0, hz1, hz2⟩ := hzz
  have HU := Aside0.mk hu
  obtain ⟨c1, hc1⟩ : ∃ c1, c1 = (cur.toList.take (i * 2) ++ xs.drop ((i + 1) * 2) ++ cur.toList.drop (i * 2 + (xs.drop ((i + 1) * 2)).length)).toArray := ⟨_, rfl⟩
  obtain ⟨zs, hzs⟩ : ∃ zs : List Value, zs = [.string ⟨#[]⟩, .string ⟨#[]⟩] := ⟨_, rfl⟩
  have hzl : zs.length = 2 := by rw [hzs]; rfl
  obtain ⟨c2, hc2⟩ : ∃ c2, c2 = (c1.toList.take ((n - 1) * 2) ++ zs ++ c1.toList.drop ((n - 1) * 2 + zs.length)).toArray := ⟨_, rfl⟩
  obtain ⟨r1, r2, r3⟩ := cut_row cur xs zs n i cap hs ht hl hi hzl c1 c2 hc1 hc2
  have hd : (xs.drop ((i + 1) * 2)).length = (n - 1 - i) * 2 := by rw [List.length_drop, hl]; omega
  -- the world behind the append
  obtain ⟨W1, hW1⟩ : ∃ W1, W1 = w.drew.setRow g c1 := ⟨_, rfl⟩
  have hg0 : w.drew.heap[g]? = some (.cells cur 56 (0, 0)) := hg
  have hg1 : W1.heap[g]? = some (.cells c1 56 (0, 0)) := by rw [hW1]; exact setRow_heap w.drew g cur c1 _ _ hg0
  have hcell : ∀ j u, xs[j]? = some u → w.drew.cell? ⟨g, j, none⟩ = some u := fun j u hj => by
    rw [cell_of_row w.drew g j cur _ (0, 0) hg0]
    rw [← ht, List.getElem?_take] at hj
    split at hj
    · simpa using hj
    · cases hj
  obtain ⟨A, hA, hsrc⟩ : ∃ A : Addr, (if cap = i + 1 then (some ⟨g, 0, none⟩ : Option Addr) else some ⟨g, (i + 1) * 2, none⟩) = some A ∧ Aside0 (∀ j u, (xs.drop ((i + 1) * 2))[j]? = some u → w.drew.cell? (A.add j) = some u) := by
    by_cases h : cap = i + 1
    · refine ⟨⟨g, 0, none⟩, by rw [if_pos h], ⟨fun j u hj => ?_⟩⟩
      have : xs.drop ((i + 1) * 2) = [] := List.eq_nil_of_length_eq_zero (by omega)
      rw [this] at hj
      cases hj
    · refine ⟨⟨g, (i + 1) * 2, none⟩, by rw [if_neg h], ⟨fun j u hj => ?_⟩⟩
      rw [List.getElem?_drop] at hj
      rw [Addr.add_lit]
      exact hcell _ u hj
  have hap := fun ty => append_next (run_append_room w.drew 24 ty 56 i0 hu hi0 g i cap cur hg0 A (n - (i + 1)) (cap - (i + 1)) (xs.drop ((i + 1) * 2)) (by rw [hz1, hd]; omega) hsrc.out (fun u hj => h1 u (List.mem_of_mem_drop hj)) (by omega) (by rw [hz1, hd, hs]; omega))
  have hcl := fun ty => (run_clear_one W1 24 56 ty (.agg #[.string ⟨#[]⟩, .string ⟨#[]⟩]) hu zeroPair zs (by rw [hzs]; kernel_rfl) (by rw [hzs]; intro v hv; simp at hv; subst hv; rfl) g ((n - 1) * 2) (cap - (n - 1)) c1 56 hg1 (by rw [hzl, r2]; omega))
  rw [hz1, ← hc1, ← hW1] at hap
  rw [← hc2] at hcl
  have ein : i + (n - (i + 1)) = n - 1 := by omega
  have hcl' : ∀ ty, (Builtin.clear_ #[24] ty #[.slice (some ⟨g, (i + (n - (i + 1))) * 2, none⟩) (n - (i + (n - (i + 1)))) (cap - (i + (n - (i + 1))))]).run Tryz.prog W1 = .ok (.tuple #[]) (W1.setRow g c2) := fun ty => by
    rw [ein, show n - (n - 1) = 1 by omega]
    exact hcl ty
  have HW := Aside0.mk hW1
  have HAP := Aside0.mk hap
  have HCL := Aside0.mk hcl'
  have EIN := Aside0.mk ein
  have HL := Aside0.mk hl
  have R1 := Aside0.mk r1
  have R3 := Aside0.mk r3
  clear r1 r2 r3 hc1 hc2 hcell hg0 hd hs ht hl hap hcl hcl' hW1 ein hzs hzl
  have hw1 : IntKind.i64.wrap ((i : Int) + 1) = (i : Int) + 1 := by rw [IntKind.wrap_i64]; omega
  have hb1 : (0 : Int) ≤ (i : Int) + 1 := by omega
  have htn : ((i : Int) + 1).toNat = i + 1 := by omega
  have hb2 : (i : Int) + 1 ≤ (n : Int) := by omega
  have hb3 : (i : Int) ≤ (i : Int) + 1 := by omega
  have hb4 : (n : Int) ≤ (cap : Int) := by omega
  have hne : ¬ ((i : Int) = (i : Int) + 1) := by omega
  have hic : i ≤ cap := by omega
  go_enter Tryz.func110, Tryz.ntmps110
  go_wp2_with fail
  go_region_law (refine step_builtin_run .append _ _ rfl rfl #[.slice (some ⟨g, 0, none⟩) i cap, .slice (some A) (n - (i + 1)) (cap - (i + 1))] (by simp [Act.eval, Act.put]) (HAP.out _) ?_)
  have hcl2 := HCL.out
  go_wp2
  go_ret
  refine ⟨by show Ending.returned (.slice (some ⟨g, 0, none⟩) (i + (n - (i + 1))) cap) = _; rw [EIN.out], ⟨by rw [List.length_append, List.length_take, List.length_drop, HL.out]; omega, .inr ⟨g, cap, c2, rfl, hB, setRow_heap W1 g c1 c2 _ _ hg1, by omega, by unfold maxLen; omega, R1.out, R3.out⟩⟩, ?_⟩
  refine below_setRow ?_ g c2 hB
  rw [HW.out]
  exact below_setRow (Below.drew (Below.refl _ _)) g c1 hB
end Go.Proofs.YtpkfdjlmflmilaaGreatDoor.Q
end
section
namespace Go.Proofs.YtpkfdjlmflmilaaGreatDoor.Q
open Go.RowKit Go.Proofs.YtpkfdjlmflmilaaGreatDoorW.PrintWords Go.Proofs.YtpkfdjlmflmilaaGreatDoorW.PrintLast Go.Proofs.YtpkfdjlmflmilaaGreatDoorW.PrintMore
set_option linter.unusedVariables false
set_option linter.unusedSimpArgs false
def seg (l : List Value) (o : Nat) (cs : List Value) : List Value := l.take o ++ cs ++ l.drop (o + cs.length)
theorem seg_len (l : List Value) (o : Nat) (cs : List Value) (h : o + cs.length ≤ l.length) : (seg l o cs).length = l.length := by
  unfold seg
  simp only [List.length_append, List.length_take, List.length_drop]
  omega
theorem seg_take (l : List Value) (o k : Nat) (cs : List Value) (hk : k ≤ o) (h : o ≤ l.length) : (seg l o cs).take k = l.take k := by
  unfold seg
  rw [List.append_assoc, List.take_append_of_le_length (by rw [List.length_take]; omega), List.take_take, Nat.min_eq_left hk]
theorem seg_upto (l : List Value) (o : Nat) (cs : List Value) (h : o ≤ l.length) : (seg l o cs).take (o + cs.length) = l.take o ++ cs := by
  unfold seg
  rw [List.take_append_of_le_length (by rw [List.length_append, List.length_take]; omega), List.take_of_length_le (by rw [List.length_append, List.length_take]; omega)]
theorem seg_drop (l : List Value) (o : Nat) (cs : List Value) (h : o ≤ l.length) : (seg l o cs).drop o = cs ++ l.drop (o + cs.length) := by
  unfold seg
  rw [List.append_assoc, List.drop_append_of_le_length (by rw [List.length_take]; omega), List.drop_eq_nil_of_le (by rw [List.length_take]; omega), List.nil_append]
/-- What the two copies leave, in place. -/
theorem shift_row (cur xs vs : List Value) (n i : Nat) (hx : cur.take (n * 2) = xs) (hl : xs.length = n * 2) (hi : i < n) (hv : vs.length = 2) (hc : (n + 1) * 2 ≤ cur.length) :
    (seg (seg cur ((i + 1) * 2) (xs.drop (i * 2))) (i * 2) vs).take ((n + 1) * 2) = xs.take (i * 2) ++ vs ++ xs.drop (i * 2) := by
  have hd : (xs.drop (i * 2)).length = (n - i) * 2 := by rw [List.length_drop, hl]; omega
  have e1 : (seg cur ((i + 1) * 2) (xs.drop (i * 2))).take (i * 2) = xs.take (i * 2) := by
    rw [seg_take _ _ _ _ (by omega) (by omega), ← hx, List.take_take, Nat.min_eq_left (by omega)]
  have e2 : (seg cur ((i + 1) * 2) (xs.drop (i * 2))).drop (i * 2 + vs.length) = xs.drop (i * 2) ++ cur.drop ((i + 1) * 2 + (xs.drop (i * 2)).length) := by
    rw [hv, show i * 2 + 2 = (i + 1) * 2 by omega, seg_drop _ _ _ (by omega)]
  rw [show seg (seg cur ((i + 1) * 2) (xs.drop (i * 2))) (i * 2) vs = (seg cur ((i + 1) * 2) (xs.drop (i * 2))).take (i * 2) ++ vs ++ (seg cur ((i + 1) * 2) (xs.drop (i * 2))).drop (i * 2 + vs.length) from rfl, e1, e2, ← List.append_assoc, List.take_append_of_le_length (by simp only [List.length_append, List.length_take, hd, hv, hl]; omega), List.take_of_length_le (by simp only [List.length_append, List.length_take, hd, hv, hl]; omega)]
/-- .. and in a new row. -/
theorem grow_row (zs xs vs : List Value) (n i : Nat) (hl : xs.length = n * 2) (hi : i < n) (hv : vs.length = 2) (hz : (n + 1 - i) * 2 ≤ zs.length) :
    (seg (seg (xs.take (i * 2) ++ zs) (i * 2) vs) ((i + 1) * 2) (xs.drop (i * 2))).take ((n + 1) * 2) = xs.take (i * 2) ++ vs ++ xs.drop (i * 2) := by
  have hd : (xs.drop (i * 2)).length = (n - i) * 2 := by rw [List.length_drop, hl]; omega
  have ht : (xs.take (i * 2)).length = i * 2 := by rw [List.length_take, hl]; omega
  have hr : (xs.take (i * 2) ++ zs).length = i * 2 + zs.length := by rw [List.length_append, ht]
  have e0 : (xs.take (i * 2) ++ zs).take (i * 2) = xs.take (i * 2) := List.take_left' ht
  have e1 : (seg (xs.take (i * 2) ++ zs) (i * 2) vs).take ((i + 1) * 2) = xs.take (i * 2) ++ vs := by
    rw [show (i + 1) * 2 = i * 2 + vs.length by omega, seg_upto _ _ _ (by omega), e0]
  have hs := seg_len (xs.take (i * 2) ++ zs) (i * 2) vs (by omega)
  have := seg_upto (seg (xs.take (i * 2) ++ zs) (i * 2) vs) ((i + 1) * 2) (xs.drop (i * 2)) (by omega)
  rw [show (n + 1) * 2 = (i + 1) * 2 + (xs.drop (i * 2)).length by omega, this, e1]
theorem cells_of {w : World} {g : Nat} {cur : Array Value} {t : TypeId} {xs : List Value} {k : Nat} (hg : w.heap[g]? = some (.cells cur t (0, 0))) (ht : cur.toList.take k = xs) : ∀ j u, xs[j]? = some u → w.cell? ⟨g, j, none⟩ = some u := fun j u hj => by
  rw [cell_of_row w g j cur _ (0, 0) hg]
  rw [← ht, List.getElem?_take] at hj
  split at hj
  · simpa using hj
  · cases hj
theorem pair_cells {w : World} {vb : Nat} {t : TypeId} {s0 s1 : ByteArray} (h : w.heap[vb]? = some (.cells #[.string s0, .string s1] t (0, 0))) : ∀ j u, ([.string s0, .string s1] : List Value)[j]? = some u → w.cell? ⟨vb, j, none⟩ = some u := fun j u hj => by
  rw [cell_of_row w vb j _ _ (0, 0) h]
  simpa using hj
theorem pair_one (s0 s1 : ByteArray) : ∀ u ∈ ([.string s0, .string s1] : List Value), u.oneCell' = true := by
  intro v hv; simp at hv; rcases hv with rfl | rfl <;> rfl

set_option maxHeartbeats 4000000 in
set_option maxRecDepth 1000000 in
theorem insert_end (v : Value) (n vb B : Nat) (xs : List Value) (s0 s1 : ByteArray) (w : World) (hown : w.ownsRow B 56 2 v n xs) (hb : (n + 1) * 32 ≤ 140737488355328)
    (hvb : w.heap[vb]? = some (.cells #[.string s0, .string s1] 56 (0, 0))) (hB : B ≤ w.heap.size) :
    Calls Tryz.prog 122 #[v, .int .i64 (n : Int), .slice (some ⟨vb, 0, none⟩) 1 1] w fun e w' =>
      ∃ v', e = .returned v' ∧ w'.ownsRow B 56 2 v' (n + 1) (xs ++ [.string s0, .string s1]) ∧ Below B w w' := by
  have hu := Tryz.underlying24
  obtain ⟨i0, hi0, hzz⟩ := Option.map_eq_some_iff.1 info56
  simp only [Prod.mk.injEq] at hzz
  obtain ⟨hz0, hz1, hz2⟩ := hzz
  have HO := Aside0.mk hown
  have HV := Aside0.mk (pair_cells hvb)
  have hbase := own_base hown
  have hsl : ∃ A c, v = .slice A n c ∧ n ≤ c ∧ (A = none → n = 0) ∧ c ≤ 9223372036854775807 ∧ ∀ a, A = some a → ∃ g, a = ⟨g, 0, none⟩ := by
    rcases hown.2 with ⟨rfl, rfl⟩ | ⟨g, cap, cur, rfl, _, _, h1, h2, _⟩
    · exact ⟨none, 0, rfl, Nat.le_refl _, fun _ => rfl, by omega, fun a h => by cases h⟩
    · exact ⟨_, cap, rfl, h1, fun h => (by cases h), by simpa [maxLen] using h2, fun a h => ⟨g, by injection h with h; exact h.symm⟩⟩
  obtain ⟨A, c, rfl, hnc, hA, hcm, hAg⟩ := hsl
  have HBS := Aside0.mk hbase
  clear hown hvb hbase
  cases A with
  | none =>
    obtain rfl := hA rfl
    clear hA hAg
    go_enter Tryz.func122, Tryz.ntmps122
    go_wp2_with (at_builtin; refine wpList_append_own _ rfl _ _ 24 rfl B 56 i0 _ 2 32 hu hi0 hz0 hz1 hz2 rfl (by decide) _ 0 xs rfl HO.out ⟨vb, 0, none⟩ 1 1 [.string s0, .string s1] rfl rfl ?c1 (pair_one s0 s1) ?c3 ?c4 hB ?_)
    case c1 => exact fun j u hj => by first | exact HV.out j u hj | (rw [Addr.add_lit, Nat.zero_add]; exact HV.out j u hj)
    try (case c3 => unfold maxLen; omega)
    try (case c4 => exact hb)
    intro v' w1 hown1 hgrow _
    go_wp2
    go_ret
    exact ⟨v', rfl, hown1, (Below.refl _ w).grown hgrow hB HBS.out⟩
  | some a =>
    obtain ⟨g, rfl⟩ := hAg a rfl
    clear hA hAg
    by_cases hcn : c = n
    · obtain rfl : n = c := hcn.symm
      go_enter Tryz.func122, Tryz.ntmps122
      go_wp2_with (at_builtin; refine wpList_append_own _ rfl _ _ 24 rfl B 56 i0 _ 2 32 hu hi0 hz0 hz1 hz2 rfl (by decide) _ n xs rfl HO.out ⟨vb, 0, none⟩ 1 1 [.string s0, .string s1] rfl rfl ?c1 (pair_one s0 s1) ?c3 ?c4 hB ?_)
      case c1 => exact fun j u hj => by first | exact HV.out j u hj | (rw [Addr.add_lit, Nat.zero_add]; exact HV.out j u hj)
      try (case c3 => unfold maxLen; omega)
      try (case c4 => exact hb)
      intro v' w1 hown1 hgrow _
      go_wp2
      go_ret
      exact ⟨v', rfl, hown1, (Below.refl _ w).grown hgrow hB HBS.out⟩
    · have hcn' : ¬ n = c := fun h => hcn h.symm
      go_enter Tryz.func122, Tryz.ntmps122
      go_wp2_with (at_builtin; refine wpList_append_own _ rfl _ _ 24 rfl B 56 i0 _ 2 32 hu hi0 hz0 hz1 hz2 rfl (by decide) _ n xs rfl HO.out ⟨vb, 0, none⟩ 1 1 [.string s0, .string s1] rfl rfl ?d1 (pair_one s0 s1) ?d3 ?d4 hB ?_)
      case d1 => exact fun j u hj => by first | exact HV.out j u hj | (rw [Addr.add_lit, Nat.zero_add]; exact HV.out j u hj)
      try (case d3 => unfold maxLen; omega)
      try (case d4 => exact hb)
      intro v' w1 hown1 hgrow _
      go_wp2
      go_ret
      exact ⟨v', rfl, hown1, (Below.refl _ w).grown hgrow hB HBS.out⟩
end Go.Proofs.YtpkfdjlmflmilaaGreatDoor.Q
end
section
namespace Go.Proofs.YtpkfdjlmflmilaaGreatDoor.Q
open Go.RowKit Go.Proofs.YtpkfdjlmflmilaaGreatDoorW.PrintWords Go.Proofs.YtpkfdjlmflmilaaGreatDoorW.PrintLast Go.Proofs.YtpkfdjlmflmilaaGreatDoorW.PrintMore
set_option linter.unusedVariables false
set_option linter.unusedSimpArgs false
theorem copy_pairs {w : World} {g o dLen dCap vb sOff sLen sCap m : Nat} {cur : Array Value} {t : TypeId} {cs : List Value} (ty : TypeId)
    (hg : w.heap[g]? = some (.cells cur t (0, 0))) (hm : Nat.min sLen dLen = m) (hn : cs.length = m * 2) (hsrc : ∀ j u, cs[j]? = some u → w.cell? ⟨vb, sOff + j, none⟩ = some u) (hfit : o + cs.length ≤ cur.size) (h1 : ∀ v ∈ cs, v.oneCell' = true) :
    (Builtin.copy_ #[24, 24] ty #[.slice (some ⟨g, o, none⟩) dLen dCap, .slice (some ⟨vb, sOff, none⟩) sLen sCap]).run Tryz.prog w = .ok (goInt m) (w.setRow g (seg cur.toList o cs).toArray) := by
  refine run_copy_sz w _ _ ty 56 2 g o dLen dCap ⟨vb, sOff, none⟩ sLen sCap m cur t cs Tryz.underlying24 ?_ hg hm hn (fun j u hj => by rw [Addr.add_lit]; exact hsrc j u hj) hfit h1
  kernel_rfl
set_option maxHeartbeats 4000000 in
set_option maxRecDepth 1000000 in
theorem insert_shift (g n cap i vb B : Nat) (xs : List Value) (cur : Array Value) (s0 s1 : ByteArray) (w : World) (hg : w.heap[g]? = some (.cells cur 56 (0, 0))) (hnc : n + 1 ≤ cap) (hcm : cap ≤ 9223372036854775807) (hs : cur.size = cap * 2) (ht : cur.toList.take (n * 2) = xs) (hl : xs.length = n * 2) (hi : i < n)
    (h1 : ∀ u ∈ xs, u.oneCell' = true) (hB : B ≤ g) (hvb : w.heap[vb]? = some (.cells #[.string s0, .string s1] 56 (0, 0))) (hne : vb ≠ g) :
    Calls Tryz.prog 122 #[.slice (some ⟨g, 0, none⟩) n cap, .int .i64 (i : Int), .slice (some ⟨vb, 0, none⟩) 1 1] w fun e w' =>
      ∃ v', e = .returned v' ∧ w'.ownsRow B 56 2 v' (n + 1) (xs.take (i * 2) ++ [.string s0, .string s1] ++ xs.drop (i * 2)) ∧ Below B w w' := by
  have hu := Tryz.underlying24
  have hd : (xs.drop (i * 2)).length = (n - i) * 2 := by rw [List.length_drop, hl]; omega
  have hcl : cur.toList.length = cap * 2 := by rw [Array.length_toList, hs]
  obtain ⟨c1, hc1⟩ : ∃ c1, c1 = (seg cur.toList ((i + 1) * 2) (xs.drop (i * 2))).toArray := ⟨_, rfl⟩
  obtain ⟨c2, hc2⟩ : ∃ c2, c2 = (seg c1.toList (i * 2) [.string s0, .string s1]).toArray := ⟨_, rfl⟩
  have s1' : c1.size = cap * 2 := by rw [hc1, List.size_toArray, seg_len _ _ _ (by omega), hcl]
  have hq2 : i * 2 + ([.string s0, .string s1] : List Value).length ≤ c1.toList.length := by have e := Array.length_toList (xs := c1); rw [s1'] at e; simp only [List.length_cons, List.length_nil]; omega
  have s2' : c2.size = cap * 2 := by rw [hc2, List.size_toArray, seg_len _ _ _ hq2, Array.length_toList, s1']
  have hres : c2.toList.take ((n + 1) * 2) = xs.take (i * 2) ++ [.string s0, .string s1] ++ xs.drop (i * 2) := by
    rw [hc2, hc1]
    exact shift_row cur.toList xs [.string s0, .string s1] n i ht hl hi rfl (by omega)
  obtain ⟨W1, hW1⟩ : ∃ W1, W1 = w.drew.setRow g c1 := ⟨_, rfl⟩
  have hg0 : w.drew.heap[g]? = some (.cells cur 56 (0, 0)) := hg
  have hg1 : W1.heap[g]? = some (.cells c1 56 (0, 0)) := by rw [hW1]; exact setRow_heap w.drew g cur c1 _ _ hg0
  have hv1 : W1.heap[vb]? = some (.cells #[.string s0, .string s1] 56 (0, 0)) := by rw [hW1, heap_setRow_ne _ _ _ _ hne]; exact hvb
  have hcpA : ∀ ty, (Builtin.copy_ #[24, 24] ty #[.slice (some ⟨g, (i + 1) * 2, none⟩) (n + 1 - (i + 1)) (cap - (i + 1)), .slice (some ⟨g, i * 2, none⟩) (n + 1 - i) (cap - i)]).run Tryz.prog w.drew = .ok (goInt (n - i : Nat)) W1 := fun ty => by
    rw [hW1, hc1]
    refine copy_pairs ty hg0 ?_ hd ?_ (by omega) (fun u hu => h1 u (List.mem_of_mem_drop hu))
    · simp only [Nat.min_def]; split <;> omega
    · intro j u hj
      rw [List.getElem?_drop] at hj
      exact cells_of hg0 ht _ u hj
  have hcpB : ∀ ty, (Builtin.copy_ #[24, 24] ty #[.slice (some ⟨g, i * 2, none⟩) (n + 1 - i) (cap - i), .slice (some ⟨vb, 0, none⟩) 1 1]).run Tryz.prog W1 = .ok (goInt (1 : Nat)) (W1.setRow g c2) := fun ty => by
    rw [hc2]
    refine copy_pairs ty hg1 ?_ rfl ?_ (by have e := Array.length_toList (xs := c1); omega) (pair_one s0 s1)
    · simp only [Nat.min_def]; split <;> omega
    · intro j u hj
      rw [Nat.zero_add]
      exact pair_cells hv1 j u hj
  have hov : ∀ lb cb, (callFunc 130 #[.slice (some ⟨vb, 0, none⟩) 1 1, .slice (some ⟨g, (i + 1) * 2, none⟩) lb cb]).run Tryz.prog w = .ok (.value (.bool false)) w := fun lb cb => by
    have hc0 : cur.size ≠ 0 := by omega
    rw [run_callFunc_extern Tryz.func130 (by kernel_rfl) (by kernel_rfl) (by kernel_rfl) (e := Extern.SlicesOverlaps.overlaps #[24, 24] #[4]) (by kernel_rfl),
      Lib.run_overlaps_apart w 24 4 56 hu 2 (fun w => by kernel_rfl) ⟨vb, 0, none⟩ ⟨g, (i + 1) * 2, none⟩ 1 1 lb cb hne 56 56 2 cur.size (by simp [World.shape?, hvb]) (by simp [World.shape?, hg]) hc0 (by simp [World.frozen?, hvb]) (by simp [World.frozen?, hvb])]
    rfl
  have HW := Aside0.mk hW1
  have HA := Aside0.mk (fun ty => copy_next (hcpA ty))
  have HBB := Aside0.mk hcpB
  have HS := Aside0.mk s2'
  have HR := Aside0.mk hres
  have HL := Aside0.mk hl
  have HG := Aside0.mk hg1
  clear hq2 hcl hd hc1 hc2 s1' s2' hres hW1 hg0 hg1 hv1 hcpA hcpB hl ht hs h1 hvb hg
  have hw1 : IntKind.i64.wrap ((i : Int) + 1) = (i : Int) + 1 := by rw [IntKind.wrap_i64]; omega
  have hb1 : (0 : Int) ≤ (i : Int) + 1 := by omega
  have htn : ((i : Int) + 1).toNat = i + 1 := by omega
  have hz2 : ¬ ((i : Int) = (n : Int)) := by omega
  have hz3 : ¬ ((cap : Int) < (n : Int) + 1) := by omega
  have hin : i ≤ n := by omega
  have hb2 : ¬ (cap = i + 1) := by omega
  have hb3 : (i : Int) ≤ (n : Int) := by omega
  have hb4 : ¬ (cap = i) := by omega
  have hb5 : ¬ (n = i) := by omega
  have hb6 : (i : Int) ≤ (n : Int) + 1 := by omega
  have hb7 : (n : Int) + 1 ≤ (cap : Int) := by omega
  have hb8 : (i : Int) + 1 ≤ (n : Int) + 1 := by omega
  go_enter Tryz.func122, Tryz.ntmps122
  go_wp2_with (simp only [hov])
  go_region_law (refine step_builtin_run .copy _ _ rfl rfl #[.slice (some ⟨g, (i + 1) * 2, none⟩) (n + 1 - (i + 1)) (cap - (i + 1)), .slice (some ⟨g, i * 2, none⟩) (n + 1 - i) (cap - i)] (by simp [Act.eval, Act.put]) (HA.out _) ?_)
  have hcp := HBB.out
  go_wp2
  go_ret
  refine ⟨_, rfl, ⟨?_, .inr ⟨g, cap, c2, rfl, hB, setRow_heap W1 g _ c2 _ _ HG.out, hnc, by unfold maxLen; omega, HS.out, HR.out⟩⟩, ?_⟩
  · have := HL.out
    simp only [List.length_append, List.length_take, List.length_drop, List.length_cons, List.length_nil, this]
    omega
  · refine below_setRow ?_ g c2 hB
    rw [HW.out]
    exact below_setRow (Below.drew (Below.refl _ _)) g c1 hB
set_option maxHeartbeats 4000000 in
set_option maxRecDepth 1000000 in
theorem insert_grow (g n cap i vb B : Nat) (xs : List Value) (cur : Array Value) (s0 s1 : ByteArray) (w : World) (hg : w.heap[g]? = some (.cells cur 56 (0, 0))) (hnc : n ≤ cap) (hroom : cap < n + 1) (hb : (n + 1) * 32 ≤ 140737488355328) (ht : cur.toList.take (n * 2) = xs) (hl : xs.length = n * 2) (hi : i < n)
    (h1 : ∀ u ∈ xs, u.oneCell' = true) (hB : B ≤ w.heap.size) (hvb : w.heap[vb]? = some (.cells #[.string s0, .string s1] 56 (0, 0))) :
    Calls Tryz.prog 122 #[.slice (some ⟨g, 0, none⟩) n cap, .int .i64 (i : Int), .slice (some ⟨vb, 0, none⟩) 1 1] w fun e w' =>
      ∃ v', e = .returned v' ∧ w'.ownsRow B 56 2 v' (n + 1) (xs.take (i * 2) ++ [.string s0, .string s1] ++ xs.drop (i * 2)) ∧ Below B w w' := by
  have hu := Tryz.underlying24
  have hui := Tryz.underlying3
  obtain ⟨i0, hi0, hzz⟩ := Option.map_eq_some_iff.1 info56
  simp only [Prod.mk.injEq] at hzz
  obtain ⟨hz0, hz1, hz2⟩ := hzz
  have hd : (xs.drop (i * 2)).length = (n - i) * 2 := by rw [List.length_drop, hl]; omega
  have htl : (xs.take (i * 2)).length = i * 2 := by rw [List.length_take, hl]; omega
  have hgw : g < w.heap.size := (Array.getElem?_eq_some_iff.1 hg).1
  have hvw : vb < w.heap.size := (Array.getElem?_eq_some_iff.1 hvb).1
  have hik : i + (n + 1 - i) = n + 1 := by omega
  have hcells := cells_of hg ht
  have hold : (Builtin.firstCells i0.size i (.slice (some ⟨g, 0, none⟩) i cap)).run Tryz.prog w.drew = .ok (xs.take (i * 2)).toArray w.drew := by
    rw [hz1]
    exact run_firstCells_some w.drew 2 i ⟨g, 0, none⟩ i cap (xs.take (i * 2)) htl (fun j v hj => by
      rw [Addr.add_lit, Nat.zero_add]
      rw [List.getElem?_take] at hj
      split at hj
      · exact hcells j v hj
      · cases hj)
  have hz := fun ty => Lib.run_append_grow_zeros w 24 3 ty 56 i0 _ .i64 .i64 hu hui hi0 hz0 (some ⟨g, 0, none⟩) i cap (xs.take (i * 2)) hold (n + 1 - i) (by omega) (by omega) (by omega) (by omega) (by rw [hz2]; omega) (by rw [hz2, hik]; exact growslice_fits hroom hb)
  rw [hik] at hz
  obtain ⟨G, hG⟩ : ∃ G, G = grownCap w (n + 1) cap 56 := ⟨_, rfl⟩
  have hGn : n + 1 ≤ G := by rw [hG]; exact grownCap_ge w _ _ _
  have hG63 : G ≤ 9223372036854775807 := by
    have := grownCap_le_maxLen w (n + 1) cap 56 (by unfold maxLen; omega)
    rw [← hG] at this
    unfold maxLen at this
    omega
  rw [← hG] at hz
  obtain ⟨Z, hZ⟩ : ∃ Z : List Value, Z = (Builtin.zeroCells (Value.agg #[.string ⟨#[]⟩, .string ⟨#[]⟩]).cells (n + 1 - i)).toList ++ (Builtin.zeroCells (Value.agg #[.string ⟨#[]⟩, .string ⟨#[]⟩]).cells (G - (n + 1))).toList := ⟨_, rfl⟩
  have hzc : (Value.agg #[.string (⟨#[]⟩ : ByteArray), .string (⟨#[]⟩ : ByteArray)]).cells.size = 2 := by kernel_rfl
  have hZl : Z.length = (n + 1 - i) * 2 + (G - (n + 1)) * 2 := by
    rw [hZ, List.length_append, Array.length_toList, Array.length_toList]
    simp only [Builtin.zeroCells, Array.size_map, Array.size_range, hzc]
  obtain ⟨ROW, hROW⟩ : ∃ ROW : Array Value, ROW = (xs.take (i * 2) ++ Z).toArray := ⟨_, rfl⟩
  have hRe : (xs.take (i * 2)).toArray ++ Builtin.zeroCells (Value.agg #[.string ⟨#[]⟩, .string ⟨#[]⟩]).cells (n + 1 - i) ++ Builtin.zeroCells (Value.agg #[.string ⟨#[]⟩, .string ⟨#[]⟩]).cells (G - (n + 1)) = ROW := by
    rw [hROW, hZ]
    apply Array.ext'
    simp
  rw [hRe] at hz
  have hRl : ROW.size = G * 2 := by rw [hROW, List.size_toArray, List.length_append, htl, hZl]; omega
  have hRt : ROW.toList = xs.take (i * 2) ++ Z := by rw [hROW]
  obtain ⟨W1, hW1⟩ : ∃ W1, W1 = w.drew.alloc (.cells ROW 56) := ⟨_, rfl⟩
  rw [← hW1] at hz
  obtain ⟨N, hN⟩ : ∃ N, N = w.heap.size := ⟨_, rfl⟩
  rw [← hN] at hz
  have hh1 : W1.heap[N]? = some (.cells ROW 56 (0, 0)) := by rw [hW1, hN]; exact heap_alloc_new w.drew _
  have hv1 : W1.heap[vb]? = some (.cells #[.string s0, .string s1] 56 (0, 0)) := by rw [hW1]; exact (heap_alloc_old w.drew _ hvw).trans hvb
  have hg1 : W1.heap[g]? = some (.cells cur 56 (0, 0)) := by rw [hW1]; exact (heap_alloc_old w.drew _ hgw).trans hg
  obtain ⟨c2, hc2⟩ : ∃ c2, c2 = (seg ROW.toList (i * 2) [.string s0, .string s1]).toArray := ⟨_, rfl⟩
  have hq2 : i * 2 + ([.string s0, .string s1] : List Value).length ≤ ROW.toList.length := by have e := Array.length_toList (xs := ROW); rw [hRl] at e; simp only [List.length_cons, List.length_nil]; omega
  have s2' : c2.size = G * 2 := by rw [hc2, List.size_toArray, seg_len _ _ _ hq2, Array.length_toList, hRl]
  obtain ⟨c3, hc3⟩ : ∃ c3, c3 = (seg c2.toList ((i + 1) * 2) (xs.drop (i * 2))).toArray := ⟨_, rfl⟩
  have hq3 : (i + 1) * 2 + (xs.drop (i * 2)).length ≤ c2.toList.length := by have e := Array.length_toList (xs := c2); rw [s2'] at e; omega
  have s3' : c3.size = G * 2 := by rw [hc3, List.size_toArray, seg_len _ _ _ hq3, Array.length_toList, s2']
  have hres : c3.toList.take ((n + 1) * 2) = xs.take (i * 2) ++ [.string s0, .string s1] ++ xs.drop (i * 2) := by
    rw [hc3, hc2, hRt]
    exact grow_row Z xs [.string s0, .string s1] n i hl hi rfl (by omega)
  obtain ⟨W2, hW2⟩ : ∃ W2, W2 = W1.setRow N c2 := ⟨_, rfl⟩
  obtain ⟨W3, hW3⟩ : ∃ W3, W3 = W2.drew.setRow N c3 := ⟨_, rfl⟩
  have hh2 : W2.heap[N]? = some (.cells c2 56 (0, 0)) := by rw [hW2]; exact setRow_heap W1 N ROW c2 _ _ hh1
  have hh3 : W3.heap[N]? = some (.cells c3 56 (0, 0)) := by rw [hW3]; exact setRow_heap W2.drew N c2 c3 _ _ hh2
  have hg2 : W2.heap[g]? = some (.cells cur 56 (0, 0)) := by rw [hW2, heap_setRow_ne _ _ _ _ (by omega)]; exact hg1
  have hcpA : ∀ ty, (Builtin.copy_ #[24, 24] ty #[.slice (some ⟨N, i * 2, none⟩) (n + 1 - i) (G - i), .slice (some ⟨vb, 0, none⟩) 1 1]).run Tryz.prog W1 = .ok (goInt (1 : Nat)) W2 := fun ty => by
    rw [hW2, hc2]
    refine copy_pairs ty hh1 ?_ rfl ?_ (by have e := Array.length_toList (xs := ROW); omega) (pair_one s0 s1)
    · simp only [Nat.min_def]; split <;> omega
    · intro j u hj
      rw [Nat.zero_add]
      exact pair_cells hv1 j u hj
  have hcpB : ∀ ty, (Builtin.copy_ #[24, 24] ty #[.slice (some ⟨N, (i + 1) * 2, none⟩) (n + 1 - (i + 1)) (G - (i + 1)), .slice (some ⟨g, i * 2, none⟩) (n - i) (cap - i)]).run Tryz.prog W2.drew = .ok (goInt (n - i : Nat)) W3 := fun ty => by
    rw [hW3, hc3]
    refine copy_pairs ty hh2 ?_ hd ?_ (by have e := Array.length_toList (xs := c2); omega) (fun u hu => h1 u (List.mem_of_mem_drop hu))
    · simp only [Nat.min_def]; split <;> omega
    · intro j u hj
      rw [List.getElem?_drop] at hj
      exact cells_of (w := W2.drew) hg2 ht _ u hj
  have hkk : (n : Int) + 1 - (i : Int) = ((n + 1 - i : Nat) : Int) := by omega
  have hBW : Below B w W3 := by
    rw [hW3]
    refine below_setRow (Below.drew ?_) N c3 (by omega)
    rw [hW2]
    refine below_setRow ?_ N c2 (by omega)
    rw [hW1]
    exact Below.alloc (Below.drew (Below.refl _ _)) hB _
  have hrz : ∀ ty, (Builtin.append_ #[24, 3] ty #[.slice (some ⟨g, 0, none⟩) i cap, .int .i64 ((n : Int) + 1 - (i : Int))]).run Tryz.prog w = .ok (.slice (some ⟨N, 0, none⟩) (n + 1) G) W1 := fun ty => by
    rw [hkk]; exact hz ty
  have HZ := Aside0.mk hrz
  have HA := Aside0.mk hcpA
  have HBB := Aside0.mk (fun ty => copy_next (hcpB ty))
  have HBW := Aside0.mk hBW
  have HS := Aside0.mk s3'
  have HR := Aside0.mk hres
  have HL := Aside0.mk hl
  have HH := Aside0.mk hh3
  have hBN : B ≤ N := by omega
  clear hkk hrz hcpA hcpB hBW s3' hres hl hh3 hh2 hg2 hg1 hv1 hh1 hW1 hW2 hW3 hc2 hc3 hq2 hq3 s2' hRt hRl hRe hROW hZl hzc hZ hz hold hcells hG hik hd htl ht h1 hvb hg hN
  have hw1 : IntKind.i64.wrap ((i : Int) + 1) = (i : Int) + 1 := by rw [IntKind.wrap_i64]; omega
  have hb1 : (0 : Int) ≤ (i : Int) + 1 := by omega
  have htn : ((i : Int) + 1).toNat = i + 1 := by omega
  have hz2' : ¬ ((i : Int) = (n : Int)) := by omega
  have hz3 : (cap : Int) < (n : Int) + 1 := by omega
  have hin : i ≤ n := by omega
  have hGi : ¬ (G = i) := by omega
  have hGim : ¬ (G = i + 1) := by omega
  have hci : ¬ (cap = i) := by omega
  have hb3 : (i : Int) ≤ (n : Int) := by omega
  have hb6 : (i : Int) ≤ (n : Int) + 1 := by omega
  have hb8 : (i : Int) + 1 ≤ (n : Int) + 1 := by omega
  have hcp := HA.out
  go_enter Tryz.func122, Tryz.ntmps122
  go_wp2_with (at_builtin; refine Lib.wpList_append_run _ rfl _ _ _ _ rfl _ _ rfl rfl _ _ (HZ.out _) ?_)
  go_region_law (refine step_builtin_run .copy _ _ rfl rfl #[.slice (some ⟨N, (i + 1) * 2, none⟩) (n + 1 - (i + 1)) (G - (i + 1)), .slice (some ⟨g, i * 2, none⟩) (n - i) (cap - i)] (by simp [Act.eval, Act.put]) (HBB.out _) ?_)
  go_wp2
  go_ret
  refine ⟨_, rfl, ⟨?_, .inr ⟨N, G, c3, rfl, hBN, HH.out, hGn, by unfold maxLen; omega, HS.out, HR.out⟩⟩, HBW.out⟩
  have := HL.out
  simp only [List.length_append, List.length_take, List.length_drop, List.length_cons, List.length_nil, this]
  omega
end Go.Proofs.YtpkfdjlmflmilaaGreatDoor.Q
end
section
namespace Go.Proofs.YtpkfdjlmflmilaaGreatDoor.Q
open Go.RowKit Go.Proofs.YtpkfdjlmflmilaaGreatDoorW.PrintWords Go.Proofs.YtpkfdjlmflmilaaGreatDoorW.PrintLast Go.Proofs.YtpkfdjlmflmilaaGreatDoorW.PrintMore
set_option linter.unusedVariables false
set_option linter.unusedSimpArgs false
theorem own_of_R {w : World} {b : Nat} {ok : Nat → Prop} {v : Value} {l : List S56} (h : Kd.R k56 56 w b ok v l) : ∃ inner, w.ownsRow b 56 2 v l.length inner ∧ Reps (k56.K w) 2 l inner := by
  obtain ⟨_, inner, ho, hr⟩ := h
  exact ⟨inner, ho, hr.imp_ (fun _ _ hp => k56.K_of_M hp)⟩
theorem own_at {w : World} {b : Nat} {v : Value} {n : Nat} {xs : List Value} (h : w.ownsRow b 56 2 v n xs) (hn : 0 < n) :
    ∃ g cap cur, v = .slice (some ⟨g, 0, none⟩) n cap ∧ b ≤ g ∧ w.heap[g]? = some (.cells cur 56 (0, 0)) ∧ n ≤ cap ∧ cap ≤ 9223372036854775807 ∧ cur.size = cap * 2 ∧ cur.toList.take (n * 2) = xs := by
  rcases h.2 with ⟨_, h0⟩ | ⟨g, cap, cur, e, hb, hg, hc, hm, hs, ht⟩
  · omega
  · exact ⟨g, cap, cur, e, hb, hg, hc, by simpa [maxLen] using hm, hs, ht⟩
/-- slices.Insert of one pair. -/
theorem insert_calls (v : Value) (n i vb B : Nat) (xs : List Value) (s0 s1 : ByteArray) (w : World) (hown : w.ownsRow B 56 2 v n xs) (hi : i ≤ n) (hb : (n + 1) * 32 ≤ 140737488355328) (h1 : ∀ u ∈ xs, u.oneCell' = true)
    (hvb : w.heap[vb]? = some (.cells #[.string s0, .string s1] 56 (0, 0))) (hne : v.ownBlock ≠ some vb) (hB : B ≤ w.heap.size) :
    Calls Tryz.prog 122 #[v, .int .i64 (i : Int), .slice (some ⟨vb, 0, none⟩) 1 1] w fun e w' =>
      ∃ v', e = .returned v' ∧ w'.ownsRow B 56 2 v' (n + 1) (xs.take (i * 2) ++ [.string s0, .string s1] ++ xs.drop (i * 2)) ∧ Below B w w' := by
  by_cases hin : i = n
  · subst hin
    have := insert_end v i vb B xs s0 s1 w hown hb hvb hB
    have hl := hown.1
    rwa [List.take_of_length_le (by omega), List.drop_eq_nil_of_le (by omega), List.append_nil]
  · obtain ⟨g, cap, cur, rfl, hg, hh, hc, hm, hs, ht⟩ := own_at hown (by omega)
    by_cases hr : n + 1 ≤ cap
    · exact insert_shift g n cap i vb B xs cur s0 s1 w hh hr hm hs ht hown.1 (by omega) h1 hg hvb (by intro e; apply hne; rw [e]; rfl)
    · exact insert_grow g n cap i vb B xs cur s0 s1 w hh hc (by omega) hb ht hown.1 (by omega) h1 hB hvb

theorem delete_R {W : World} {base : Nat} {ok : Nat → Prop} {A : Option Addr} {c k : Nat} {l : List S56} (hR : Kd.R k56 56 W base ok (.slice A l.length c) l) (hk : k < l.length) :
    Calls Tryz.prog 110 #[.slice A l.length c, .int .i64 (k : Int), .int .i64 ((k : Int) + 1)] W fun e w' => ∃ v', e = .returned v' ∧ Kd.R k56 56 w' base (fun _ => True) v' (l.take k ++ l.drop (k + 1)) ∧ Below base W w' := by
  obtain ⟨inner, ho, hr⟩ := own_of_R hR
  obtain ⟨g, cap, cur, e, hb, hh, hc, hm, hs, ht⟩ := own_at ho (by omega)
  injection e with e1 _ e3
  subst e1
  subst e3
  refine (delete_calls g l.length c k base inner cur W hh hc hm hs ht ho.1 hk (reps_one' hr) hb).mono ?_
  rintro e w' ⟨rfl, hown, hbl⟩
  refine ⟨_, rfl, ?_, hbl⟩
  have hlen : (l.take k ++ l.drop (k + 1)).length = l.length - 1 := by rw [List.length_append, List.length_take, List.length_drop]; omega
  exact own_R (by rw [hlen]; exact hown) (reps_append (reps_take hr k (by omega)) (reps_drop hr (k + 1)))
theorem insert_R {W : World} {base : Nat} {ok : Nat → Prop} {v : Value} {k vb : Nat} {s0 s1 : ByteArray} {l : List S56} (hR : Kd.R k56 56 W base ok v l) (hk : k ≤ l.length) (hl : (l.length + 1) * 32 ≤ 140737488355328)
    (hvb : W.heap[vb]? = some (.cells #[.string s0, .string s1] 56 (0, 0))) (hne : v.ownBlock ≠ some vb) (hB : base ≤ W.heap.size) :
    Calls Tryz.prog 122 #[v, .int .i64 (k : Int), .slice (some ⟨vb, 0, none⟩) 1 1] W fun e w' => ∃ v', e = .returned v' ∧ Kd.R k56 56 w' base (fun _ => True) v' (l.take k ++ ⟨s0, s1⟩ :: l.drop k) ∧ Below base W w' := by
  obtain ⟨inner, ho, hr⟩ := own_of_R hR
  refine (insert_calls v l.length k vb base inner s0 s1 W ho hk hl (reps_one' hr) hvb hne hB).mono ?_
  rintro e w' ⟨v', rfl, hown, hbl⟩
  refine ⟨_, rfl, ?_, hbl⟩
  have hlen : (l.take k ++ ⟨s0, s1⟩ :: l.drop k).length = l.length + 1 := by rw [List.length_append, List.length_cons, List.length_take, List.length_drop]; omega
  have h1 : Reps (k56.K W) 2 [(⟨s0, s1⟩ : S56)] [.string s0, .string s1] := reps_one (k56_mk W ⟨s0, s1⟩) rfl
  have h2 := reps_append (reps_append (reps_take hr k hk) h1) (reps_drop hr k)
  rw [List.append_assoc, List.singleton_append] at h2
  exact own_R (by rw [hlen]; exact hown) h2
/-- The second half of an element is written. -/
theorem set_R {W : World} {base g off c k : Nat} {ok : Nat → Prop} {u : ByteArray} {l : List S56} (hR : Kd.R k56 56 W base ok (.slice (some ⟨g, off, none⟩) l.length c) l) (hk : k < l.length) :
    Kd.R k56 56 (W.setCell ⟨g, off + k * 2 + 1, none⟩ (.string u)) base (fun _ => True) (.slice (some ⟨g, off, none⟩) l.length c) (l.set k ⟨(l.getD k z56).f0, u⟩) ∧ base ≤ g ∧ W.frozen? ⟨g, off + k * 2 + 1, none⟩ = false ∧ ∃ x, W.cell? ⟨g, off + k * 2 + 1, none⟩ = some x := by
  obtain ⟨inner, ho, hr⟩ := own_of_R hR
  obtain ⟨g', cap, cur, e, hb, hh, hc, hm, hs, ht⟩ := own_at ho (by omega)
  injection e with e1 _ e3
  injection e1 with e1
  injection e1 with e1 e2 _
  subst e1
  subst e2
  subst e3
  have hkc : k * 2 + 1 < cur.size := by omega
  refine ⟨?_, hb, by simp [World.frozen?, hh], ⟨_, by simp only [Nat.zero_add]; rw [cell_of_row W g _ cur _ (0, 0) hh]; exact Array.getElem?_eq_getElem hkc⟩⟩
  rw [Nat.zero_add, setCell_eq_setRow W g (k * 2 + 1) cur _ (0, 0) _ hh]
  have hil := ho.1
  have e0 : l.getD k z56 = l[k] := by simp [List.getD, List.getElem?_eq_getElem hk]
  have hk1 := k56_open (hr.2 k _ (List.getElem?_eq_getElem hk))
  have hset : inner.set (k * 2 + 1) (.string u) = inner.take (k * 2) ++ [.string l[k].f0, .string u] ++ inner.drop ((k + 1) * 2) := by
    apply List.ext_getElem?
    intro j
    have hin : ∀ i, i < 2 → inner[k * 2 + i]? = ([.string l[k].f0, .string l[k].f1] : List Value)[i]? := fun i hi => by
      rw [← hk1, List.getElem?_take, if_pos hi, List.getElem?_drop]
    rw [List.getElem?_set, List.append_assoc]
    rcases Nat.lt_or_ge j (k * 2) with h | h
    · rw [if_neg (by omega), List.getElem?_append_left (by rw [List.length_take]; omega), List.getElem?_take, if_pos h]
    · rw [List.getElem?_append_right (by rw [List.length_take]; omega), List.length_take, Nat.min_eq_left (by omega)]
      rcases Nat.lt_or_ge j ((k + 1) * 2) with h' | h'
      · obtain rfl | rfl : j = k * 2 ∨ j = k * 2 + 1 := by omega
        · have := hin 0 (by omega)
          rw [if_neg (by omega), Nat.sub_self]
          simpa using this
        · rw [if_pos rfl, if_pos (by omega)]
          simp
      · rw [if_neg (by omega), List.getElem?_append_right (by simp; omega), List.getElem?_drop]
        congr 1
        simp
        omega
  refine own_R (cs := inner.set (k * 2 + 1) (.string u)) (w' := W) ⟨by rw [List.length_set, List.length_set]; exact ho.1, .inr ⟨g, c, _, by rw [List.length_set], hb, setRow_heap W g cur _ _ _ hh, by rw [List.length_set]; exact hc, by simpa [maxLen] using hm, by simp [hs], ?_⟩⟩ ?_
  · rw [List.length_set, Array.toList_setIfInBounds, List.take_set, ht]
  · have h1 : Reps (k56.K W) 2 [(⟨l[k].f0, u⟩ : S56)] [.string l[k].f0, .string u] := reps_one (k56_mk W ⟨l[k].f0, u⟩) rfl
    have h2 := reps_append (reps_append (reps_take hr k (by omega)) h1) (reps_drop hr (k + 1))
    rw [hset, e0, List.set_eq_take_append_cons_drop, if_pos hk]
    rw [List.append_assoc, List.singleton_append] at h2
    exact h2

def dropN (l : List S56) (a : ByteArray) : List S56 × Int := if fdB l a = true then (l.take (lbN l a) ++ l.drop (lbN l a + 1), 0) else (l, 5)
def impl_drop.f (l0 : List S56) (a1 : ByteArray) : Option (List S56 × Int) := if l0.length < 4398046511104 then some (dropN l0 a1) else none
set_option maxHeartbeats 4000000 in
set_option maxRecDepth 100000 in
theorem impl_drop.calls (A0 : Option Addr) (c0 : Nat) (l0 : List S56) (a1 : ByteArray) (r1 : List S56) (r2 : Int) (w : World) (hr0 : Kd.C k56 w A0 l0.length l0) (hc0 : l0.length ≤ c0) (h : impl_drop.f l0 a1 = some (r1, r2)) :
    Calls Tryz.prog 88 #[.slice A0 l0.length c0, .string a1] w fun e w' => ∃ v0_ : Value, e = .returned (.tuple #[v0_, .int .i64 r2]) ∧ Kd.R k56 56 w' w.heap.size (fun _ => True) v0_ r1 ∧ Below w.heap.size w w' := by
  unfold impl_drop.f at h
  by_cases hlt : l0.length < 4398046511104
  · rw [if_pos hlt] at h
    injection h with h
    have HCL := clone_calls A0 c0 l0 w hr0 (by omega)
    have hle := lbF_le l0 a1 l0.length 0 l0.length (Nat.zero_le _)
    have hfd : fdB l0 a1 = true → lbN l0 a1 < l0.length := fun hh => by
      unfold fdB at hh
      rw [Bool.and_eq_true] at hh
      exact of_decide_eq_true hh.1
    have HPA : ∀ A c W, Kd.C k56 W A l0.length l0 → l0.length ≤ c → Calls Tryz.prog 98 #[.slice A l0.length c, .string a1] W fun e w' => e = .returned (.tuple #[.int .i64 ((lbN l0 a1 : Nat) : Int), .bool (fdB l0 a1)]) ∧ Below W.heap.size W w' := fun A c W hC hc => impl_pairAt.calls A c l0 a1 _ _ W hC hc rfl
    unfold dropN at h
    clear hr0 hc0
    cases hq : fdB l0 a1 with
    | true =>
      rw [hq, if_pos rfl] at h
      rw [hq] at HPA
      have hk := hfd hq
      clear hfd hq hle
      generalize lbN l0 a1 = k at hk h HPA
      have hr1 : l0.take k ++ l0.drop (k + 1) = r1 := congrArg Prod.fst h
      have hr2 : (0 : Int) = r2 := congrArg Prod.snd h
      clear h
      have H1 := Aside0.mk hr1
      clear hr1
      subst hr2
      have HP := Aside0.mk HPA
      clear HPA
      generalize hn : l0.length = n at hlt hk HCL HP
      have HN := Aside0.mk hn
      clear hn
      have hk0 : (0 : Int) ≤ (k : Int) := by omega
      have hkn : (k : Int) + 1 ≤ 9223372036854775807 := by omega
      go_enter Tryz.func88, Tryz.ntmps88
      go_wp2_with (first
        | (go_at_call 109; refine HCL.mono ?_; rintro e w1 ⟨v, rfl, hR, hb1⟩; have HR := Aside0.mk hR; have HB1 := Aside0.mk hb1; obtain ⟨A1, c1, rfl, hl1, hC1⟩ := Kd.R_reads hR; rw [HN.out] at hl1 hC1 ⊢; have HC1 := Aside0.mk hC1; clear hR hb1 hC1)
        | (go_at_call 98; refine (HP.out _ _ _ HC1.out hl1).mono ?_; rintro e w2 ⟨rfl, hb2⟩; have HB2 := Aside0.mk hb2; clear hb2)
        | (go_at_call 110; have DL := delete_R (Kd.R_below HR.out HB2.out) (k := k) (by rw [HN.out]; exact hk); rw [HN.out] at DL; refine DL.mono ?_; rintro e w3 ⟨v3, rfl, hR3, hb3⟩; have HR3 := Aside0.mk hR3; have HB3 := Aside0.mk hb3; clear DL hR3 hb3))
      go_ret2
      exact ⟨_, rfl, by rw [← H1.out]; exact HR3.out, (HB1.out.trans (HB2.out.mono HB1.out.size)).trans HB3.out⟩
    | false =>
      rw [hq, if_neg (by simp)] at h
      rw [hq] at HPA
      clear hfd hq hle
      generalize lbN l0 a1 = k at HPA
      have hr1 : l0 = r1 := congrArg Prod.fst h
      have hr2 : (5 : Int) = r2 := congrArg Prod.snd h
      clear h
      subst hr1
      subst hr2
      have HP := Aside0.mk HPA
      clear HPA
      generalize hn : l0.length = n at hlt HCL HP
      have HN := Aside0.mk hn
      clear hn
      go_enter Tryz.func88, Tryz.ntmps88
      go_wp2_with (first
        | (go_at_call 109; refine HCL.mono ?_; rintro e w1 ⟨v, rfl, hR, hb1⟩; have HR := Aside0.mk hR; have HB1 := Aside0.mk hb1; obtain ⟨A1, c1, rfl, hl1, hC1⟩ := Kd.R_reads hR; rw [HN.out] at hl1 hC1 ⊢; have HC1 := Aside0.mk hC1; clear hR hb1 hC1)
        | (go_at_call 98; refine (HP.out _ _ _ HC1.out hl1).mono ?_; rintro e w2 ⟨rfl, hb2⟩; have HB2 := Aside0.mk hb2; clear hb2))
      go_ret2
      exact ⟨_, rfl, by rw [← HN.out]; exact Kd.R_below HR.out HB2.out, HB1.out.trans (HB2.out.mono HB1.out.size)⟩
  · rw [if_neg hlt] at h
    cases h
theorem first_R {W : World} {base c : Nat} {ok : Nat → Prop} {A : Option Addr} {l : List S56} (hR : Kd.R k56 56 W base ok (.slice A l.length c) l) (hk : 0 < l.length) : ∃ g, A = some ⟨g, 0, none⟩ := by
  obtain ⟨inner, ho, hr⟩ := own_of_R hR
  obtain ⟨g, cap, cur, e, _⟩ := own_at ho hk
  injection e with e1
  exact ⟨g, e1⟩
def putN (l : List S56) (a v : ByteArray) : List S56 × Int := if fdB l a = true then (l.set (lbN l a) ⟨(l.getD (lbN l a) z56).f0, v⟩, 0) else if l.length = 400 then (l, 7) else (l.take (lbN l a) ++ ⟨a, v⟩ :: l.drop (lbN l a), 0)
def impl_put.f (l0 : List S56) (a1 a2 : ByteArray) : Option (List S56 × Int) := if l0.length < 4398046511104 then some (putN l0 a1 a2) else none
set_option maxHeartbeats 8000000 in
set_option maxRecDepth 100000 in
theorem impl_put.calls (A0 : Option Addr) (c0 : Nat) (l0 : List S56) (a1 a2 : ByteArray) (r1 : List S56) (r2 : Int) (w : World) (hr0 : Kd.C k56 w A0 l0.length l0) (hc0 : l0.length ≤ c0) (h : impl_put.f l0 a1 a2 = some (r1, r2)) :
    Calls Tryz.prog 111 #[.slice A0 l0.length c0, .string a1, .string a2] w fun e w' => ∃ v0_ : Value, e = .returned (.tuple #[v0_, .int .i64 r2]) ∧ Kd.R k56 56 w' w.heap.size (fun _ => True) v0_ r1 ∧ Below w.heap.size w w' := by
  unfold impl_put.f at h
  by_cases hlt : l0.length < 4398046511104
  · rw [if_pos hlt] at h
    injection h with h
    have HCL := clone_calls A0 c0 l0 w hr0 (by omega)
    have hle : lbN l0 a1 ≤ l0.length := lbF_le l0 a1 l0.length 0 l0.length (Nat.zero_le _)
    have hfd : fdB l0 a1 = true → lbN l0 a1 < l0.length := fun hh => by
      unfold fdB at hh
      rw [Bool.and_eq_true] at hh
      exact of_decide_eq_true hh.1
    have HPA : ∀ A c W, Kd.C k56 W A l0.length l0 → l0.length ≤ c → Calls Tryz.prog 98 #[.slice A l0.length c, .string a1] W fun e w' => e = .returned (.tuple #[.int .i64 ((lbN l0 a1 : Nat) : Int), .bool (fdB l0 a1)]) ∧ Below W.heap.size W w' := fun A c W hC hc => impl_pairAt.calls A c l0 a1 _ _ W hC hc rfl
    have hu := Tryz.underlying24
    have hu2 := Tryz.underlying56
    unfold putN at h
    clear hr0 hc0
    cases hq : fdB l0 a1 with
    | true =>
      rw [hq, if_pos rfl] at h
      rw [hq] at HPA
      have hk := hfd hq
      clear hfd hq hle
      generalize lbN l0 a1 = k at hk h HPA
      have hr1 : l0.set k ⟨(l0.getD k z56).f0, a2⟩ = r1 := congrArg Prod.fst h
      have hr2 : (0 : Int) = r2 := congrArg Prod.snd h
      clear h
      have H1 := Aside0.mk hr1
      clear hr1
      subst hr2
      have HP := Aside0.mk HPA
      clear HPA
      have HSR := Aside0.mk (fun (W : World) (base g c : Nat) (ok : Nat → Prop) (hR : Kd.R k56 56 W base ok (.slice (some ⟨g, 0, none⟩) l0.length c) l0) => set_R (u := a2) hR hk)
      have HFR := Aside0.mk (fun (W : World) (base c : Nat) (ok : Nat → Prop) (A : Option Addr) (hR : Kd.R k56 56 W base ok (.slice A l0.length c) l0) => first_R hR (by omega))
      generalize hn : l0.length = n at hlt hk HCL HP
      have HN := Aside0.mk hn
      clear hn
      have hk0 : (0 : Int) ≤ (k : Int) := by omega
      have hkn : (k : Int) < (n : Int) := by omega
      go_enter Tryz.func111, Tryz.ntmps111
      go_wp2_with (first
        | (go_at_call 109; refine HCL.mono ?_; rintro e w1 ⟨v, rfl, hR, hb1⟩; have HB1 := Aside0.mk hb1; obtain ⟨A1, c1, rfl, hl1, hC1⟩ := Kd.R_reads hR; obtain ⟨g, rfl⟩ := HFR.out _ _ _ _ _ hR; have HR := Aside0.mk hR; rw [HN.out] at hl1 hC1 ⊢; have HC1 := Aside0.mk hC1; clear hR hb1 hC1)
        | (go_at_call 98; refine (HP.out _ _ _ HC1.out hl1).mono ?_; rintro e w2 ⟨rfl, hb2⟩; have HB2 := Aside0.mk hb2; clear hb2; obtain ⟨hS, hbg, hfz, x, hx⟩ := HSR.out _ _ _ _ _ (Kd.R_below HR.out HB2.out); simp only [Nat.zero_add] at hS hfz hx; have HS := Aside0.mk hS; have HBG := Aside0.mk hbg; clear hS hbg))
      go_ret2
      exact ⟨_, rfl, by rw [← H1.out, ← HN.out]; exact HS.out, Below.setCell (HB1.out.trans (HB2.out.mono HB1.out.size)) HBG.out _⟩
    | false =>
      rw [hq, if_neg (by simp)] at h
      rw [hq] at HPA
      clear hfd hq
      generalize lbN l0 a1 = k at hle h HPA
      by_cases hfull : l0.length = 400
      · rw [if_pos hfull] at h
        have hr1 : l0 = r1 := congrArg Prod.fst h
        have hr2 : (7 : Int) = r2 := congrArg Prod.snd h
        clear h hle
        subst hr1
        subst hr2
        have HP := Aside0.mk HPA
        clear HPA
        generalize hn : l0.length = n at hlt HCL HP hfull
        have HN := Aside0.mk hn
        clear hn
        subst hfull
        go_enter Tryz.func111, Tryz.ntmps111
        go_wp2_with (first
          | (go_at_call 109; refine HCL.mono ?_; rintro e w1 ⟨v, rfl, hR, hb1⟩; have HR := Aside0.mk hR; have HB1 := Aside0.mk hb1; obtain ⟨A1, c1, rfl, hl1, hC1⟩ := Kd.R_reads hR; rw [HN.out] at hl1 hC1 ⊢; have HC1 := Aside0.mk hC1; clear hR hb1 hC1)
          | (go_at_call 98; refine (HP.out _ _ _ HC1.out hl1).mono ?_; rintro e w2 ⟨rfl, hb2⟩; have HB2 := Aside0.mk hb2; clear hb2))
        go_ret2
        exact ⟨_, rfl, by rw [← HN.out]; exact Kd.R_below HR.out HB2.out, HB1.out.trans (HB2.out.mono HB1.out.size)⟩
      · rw [if_neg hfull] at h
        have hr1 : l0.take k ++ ⟨a1, a2⟩ :: l0.drop k = r1 := congrArg Prod.fst h
        have hr2 : (0 : Int) = r2 := congrArg Prod.snd h
        clear h
        have H1 := Aside0.mk hr1
        clear hr1
        subst hr2
        have HP := Aside0.mk HPA
        clear HPA
        have HIR := Aside0.mk (fun (W : World) (base vb : Nat) (ok : Nat → Prop) (v : Value) (hR : Kd.R k56 56 W base ok v l0) => insert_R (s0 := a1) (s1 := a2) (vb := vb) hR hle (by omega))
        generalize hn : l0.length = n at hlt hle HCL HP hfull
        have HN := Aside0.mk hn
        clear hn
        have hk0 : (0 : Int) ≤ (k : Int) := by omega
        have hkn : (k : Int) ≤ (n : Int) := by omega
        have hf2 : ((n : Int) == 400) = false := by simp; omega
        clear hfull
        go_enter Tryz.func111, Tryz.ntmps111
        go_wp2_with (first
          | (go_at_call 109; refine HCL.mono ?_; rintro e w1 ⟨v, rfl, hR, hb1⟩; have HR := Aside0.mk hR; have HB1 := Aside0.mk hb1; obtain ⟨A1, c1, rfl, hl1, hC1⟩ := Kd.R_reads hR; rw [HN.out] at hl1 hC1 ⊢; have HC1 := Aside0.mk hC1; clear hR hb1 hC1)
          | (go_at_call 98; refine (HP.out _ _ _ HC1.out hl1).mono ?_; rintro e w2 ⟨rfl, hb2⟩; have HB2 := Aside0.mk hb2; clear hb2)
          | (go_at_call 122; have hRa := Kd.R_alloc (Kd.R_below HR.out HB2.out) (.cells #[.string a1, .string a2] 56); have HIN := HIR.out _ _ w2.heap.size _ _ hRa (heap_alloc_new w2 _) (by intro e; have := own_lt (own_of_R (Kd.R_below HR.out HB2.out)).choose_spec.1 _ e; omega) (by have := HB1.out.size; have := HB2.out.size; simp; omega); rw [HN.out] at HIN; refine HIN.mono ?_; rintro e w3 ⟨v3, rfl, hR3, hb3⟩; have HR3 := Aside0.mk hR3; have HB3 := Aside0.mk hb3; clear HIN hRa hR3 hb3))
        go_ret2
        exact ⟨_, rfl, by rw [← H1.out]; exact HR3.out, (Below.alloc (HB1.out.trans (HB2.out.mono HB1.out.size)) (by have := HB1.out.size; have := HB2.out.size; omega) _).trans HB3.out⟩
  · rw [if_neg hlt] at h
    cases h
end Go.Proofs.YtpkfdjlmflmilaaGreatDoor.Q
end
section
namespace Go.Proofs.YtpkfdjlmflmilaaGreatDoor.Q
open Go.RowKit Go.Proofs.YtpkfdjlmflmilaaGreatDoorW.PrintWords Go.Proofs.YtpkfdjlmflmilaaGreatDoorW.PrintLast Go.Proofs.YtpkfdjlmflmilaaGreatDoorW.PrintMore
attribute [local go_sem] max2_int min2_int max_two min_two max_three min_three max_four min_four   -- for this text's walks alone
set_option linter.unusedVariables false
set_option linter.unusedSimpArgs false

/-! ### impl_putAmount: function 90 -/
def impl_putAmount.f (l0 : List (S56)) (a1 : ByteArray) (a2 : Int) : Option ((List (S56)) × Int) := if a2 > 0 then ((impl_amountText.f a2).bind fun t291 => ((impl_put.f l0 a1 t291).bind fun bt292 => (some (bt292.1, bt292.2)))) else ((impl_drop.f l0 a1).bind fun bt296 => (some (bt296.1, 0)))
set_option maxHeartbeats 8000000 in
set_option maxRecDepth 100000 in
theorem impl_putAmount.calls (A0 : Option Addr) (c0 : Nat) (l0 : List (S56)) (a1 : ByteArray) (a2 : Int) (r1 : List (S56)) (r2 : Int) (w : World) (hr0 : Kd.C k56 w A0 l0.length l0) (hc0 : l0.length ≤ c0) (htab : Tb.TB w) (h : impl_putAmount.f l0 a1 a2 = some (r1, r2)) :
    Calls Tryz.prog 90 #[.slice A0 l0.length c0, .string a1, .int .i64 a2] w fun e w' => ∃ v0_ : Value, e = .returned (.tuple #[v0_, .int .i64 r2]) ∧ Kd.R k56 56 w' w.heap.size (fun _ => True) v0_ r1 ∧ Below w.heap.size w w' := by
  have HT := Aside0.mk htab
  clear htab
  have HR0 := Aside0.mk hr0
  have HC0 := Aside0.mk hc0
  clear hr0 hc0
  have HB := Aside0.mk (Below.refl w.heap.size w)
  have H : (if a2 > 0 then ((impl_amountText.f a2).bind fun t291 => ((impl_put.f l0 a1 t291).bind fun bt292 => (some (bt292.1, bt292.2)))) else ((impl_drop.f l0 a1).bind fun bt296 => (some (bt296.1, 0)))) = some (r1, r2) := h
  clear h
  by_cases c4 : a2 > 0
  · rw [if_pos c4] at H
    have c4b0 : decide (0 < a2) = true := decide_eq_true c4
    clear c4
    replace H := Option.bind_eq_some_iff.mp H
    obtain ⟨t291, A50, H⟩ := H
    replace H : ((impl_put.f l0 a1 t291).bind fun bt292 => (some (bt292.1, bt292.2))) = some (r1, r2) := H
    have A5 := Aside0.mk A50
    clear A50
    replace H := Option.bind_eq_some_iff.mp H
    obtain ⟨⟨t292, t293⟩, A60, H⟩ := H
    replace H : (some (t292, t293)) = some (r1, r2) := H
    have A6 := Aside0.mk A60
    clear A60
    simp only [Option.some.injEq, Prod.mk.injEq] at H
    obtain ⟨rfl, rfl⟩ := H
    go_enter Tryz.func90, Tryz.ntmps90
    go_wp2_with (first | ((with_reducible refine gate_callee (f := 101) rfl ?_); refine goesL_ (some 15) rfl rfl Tryz.func101 (by kernel_rfl) rfl #[.int .i64 a2] rfl (by (try simp only [List.map_toArray, List.map_cons, List.map_nil]); first | done | rfl | (simp only [List.length_drop, List.length_take]; rfl)) ?_; (with_reducible refine (impl_amountText.calls a2 t291 _ ?tb1 A5.out).mono ?_); (case tb1 => exact Tb.TB.below HT.out (by repeat (first | (with_reducible first | exact HB.out | apply below_alloc | apply pw_below_drewN | apply below_drew1) | exact HB.out)) (Nat.le_refl _)); rintro e w7 ⟨rfl, hb⟩; refine ⟨_, rfl, ?_⟩; have n0_ := Aside0.mk (below_step (by repeat (first | (with_reducible first | exact HB.out | apply below_alloc | apply pw_below_drewN | apply below_drew1) | exact HB.out)) hb); clear HB; have HB := n0_; clear n0_; (try clear hb); (try clear hb2); (try clear hk); (try clear hi)) | ((with_reducible refine gate_callee (f := 111) rfl ?_); refine goesL_ (some 16) rfl rfl Tryz.func111 (by kernel_rfl) rfl #[.slice A0 l0.length c0, .string a1, .string t291] rfl (by (try simp only [List.map_toArray, List.map_cons, List.map_nil]); first | done | rfl | (simp only [List.length_drop, List.length_take]; rfl)) ?_; (with_reducible refine (impl_put.calls _ _ l0 a1 t291 t292 t293 _ ?side1 ?side2 A6.out).mono ?_); (case side1 => repeat (first | exact (Kd.C_below HR0.out HB.out) | (with_reducible refine Kd.C_alloc ?_ _) | (with_reducible refine Kd.C_drewN ?_ _) | (with_reducible refine Kd.C_drew ?_))); (case side2 => exact HC0.out); rintro e w8 ⟨v294, rfl, ho0, hb⟩; refine ⟨_, rfl, ?_⟩; have n0_ := Aside0.mk (Kd.R_lower ho0 (below_size (by repeat (first | (with_reducible first | exact HB.out | apply below_alloc | apply pw_below_drewN | apply below_drew1) | exact HB.out)))); have n1_ := Aside0.mk (below_step (by repeat (first | (with_reducible first | exact HB.out | apply below_alloc | apply pw_below_drewN | apply below_drew1) | exact HB.out)) hb); clear HB; have HO295 := n0_; have HB := n1_; clear n0_ n1_; (try clear hb); (try clear hb2); (try clear hk); (try clear hi); (try clear ho0)))
    go_ret2
    exact ⟨_, by first | rfl | (simp [errW_none, errW_some] <;> rfl) | (simp [*, errW_none, errW_some] <;> rfl), by (with_reducible repeat (first | apply Kd.R_alloc | apply Kd.R_drewN | apply Kd.R_drew)); exact HO295.out, by repeat (first | (with_reducible first | exact HB.out | apply below_alloc | apply pw_below_drewN | apply below_drew1) | exact HB.out)⟩
  · rw [if_neg c4] at H
    have c4b0 : decide (0 < a2) = false := decide_eq_false c4
    clear c4
    replace H := Option.bind_eq_some_iff.mp H
    obtain ⟨⟨t296, t297⟩, A90, H⟩ := H
    replace H : (some (t296, 0)) = some (r1, r2) := H
    have A9 := Aside0.mk A90
    clear A90
    simp only [Option.some.injEq, Prod.mk.injEq] at H
    obtain ⟨rfl, rfl⟩ := H
    go_enter Tryz.func90, Tryz.ntmps90
    go_wp2_with (first | ((with_reducible refine gate_callee (f := 88) rfl ?_); refine goesL_ (some 22) rfl rfl Tryz.func88 (by kernel_rfl) rfl #[.slice A0 l0.length c0, .string a1] rfl (by (try simp only [List.map_toArray, List.map_cons, List.map_nil]); first | done | rfl | (simp only [List.length_drop, List.length_take]; rfl)) ?_; (with_reducible refine (impl_drop.calls _ _ l0 a1 t296 t297 _ ?side1 ?side2 A9.out).mono ?_); (case side1 => repeat (first | exact HR0.out | (with_reducible refine Kd.C_alloc ?_ _) | (with_reducible refine Kd.C_drewN ?_ _) | (with_reducible refine Kd.C_drew ?_))); (case side2 => exact HC0.out); rintro e w10 ⟨v298, rfl, ho0, hb⟩; refine ⟨_, rfl, ?_⟩; have n0_ := Aside0.mk (Kd.R_lower ho0 (below_size (by repeat (first | (with_reducible first | exact HB.out | apply below_alloc | apply pw_below_drewN | apply below_drew1) | exact HB.out)))); have n1_ := Aside0.mk (below_step (by repeat (first | (with_reducible first | exact HB.out | apply below_alloc | apply pw_below_drewN | apply below_drew1) | exact HB.out)) hb); clear HB; have HO299 := n0_; have HB := n1_; clear n0_ n1_; (try clear hb); (try clear hb2); (try clear hk); (try clear hi); (try clear ho0)))
    go_ret2
    exact ⟨_, by first | rfl | (simp [errW_none, errW_some] <;> rfl) | (simp [*, errW_none, errW_some] <;> rfl), by (with_reducible repeat (first | apply Kd.R_alloc | apply Kd.R_drewN | apply Kd.R_drew)); exact HO299.out, by repeat (first | (with_reducible first | exact HB.out | apply below_alloc | apply pw_below_drewN | apply below_drew1) | exact HB.out)⟩


/-! ### impl_AddAmount: function 91 -/
def impl_AddAmount.j0 : Nat → Int → Int → Bool → Option (Int × Int)
  | 0, _, _, _ => none
  | k + 1, x0, x1, x6 => if x6 = true then (some (0, 4)) else (if (wrap64 (x0 + x1)) > 1000000000000000000 then (some (0, 13)) else (some (wrap64 (x0 + x1), 0)))
def impl_AddAmount.f (k : Nat) (a0 : Int) (a1 : Int) : Option (Int × Int) := (impl_isAmount.f a0).bind fun t307 => (if t307 = true then ((impl_isAmount.f a1).bind fun t308 => (impl_AddAmount.j0 k a0 a1 (!t308))) else (impl_AddAmount.j0 k a0 a1 true))
set_option maxHeartbeats 8000000 in
set_option maxRecDepth 100000 in
theorem impl_AddAmount.calls (k : Nat) (a0 : Int) (a1 : Int) (r1 : Int) (r2 : Int) (w : World) (h : impl_AddAmount.f k a0 a1 = some (r1, r2)) :
    Calls Tryz.prog 91 #[.int .i64 a0, .int .i64 a1] w fun e w' => e = .returned (.tuple #[.int .i64 r1, .int .i64 r2]) ∧ Drawn0 w w' := by
  have H : ((impl_isAmount.f a0).bind fun t307 => (if t307 = true then ((impl_isAmount.f a1).bind fun t308 => (impl_AddAmount.j0 k a0 a1 (!t308))) else (impl_AddAmount.j0 k a0 a1 true))) = some (r1, r2) := h
  clear h
  have HC3 := Aside0.mk H
  clear H
  go_enter Tryz.func91, Tryz.ntmps91
  go_upto_region 1 with (fail)
  go_cut [6] (fun v6 wc => ∃ (kq : Nat) (x6_2 : Bool), v6 = .bool x6_2 ∧ Aside0 (impl_AddAmount.j0 kq a0 a1 x6_2 = some (r1, r2)) ∧ Aside0 (kq ≤ k) ∧ Drawn0 w wc)
  case first =>
    have H := HC3.out
    clear HC3
    replace H := Option.bind_eq_some_iff.mp H
    obtain ⟨t307, A40, H⟩ := H
    replace H : (if t307 = true then ((impl_isAmount.f a1).bind fun t308 => (impl_AddAmount.j0 k a0 a1 (!t308))) else (impl_AddAmount.j0 k a0 a1 true)) = some (r1, r2) := H
    have A4 := Aside0.mk A40
    clear A40
    by_cases c5 : t307 = true
    · subst c5
      have H1 : ((impl_isAmount.f a1).bind fun t308 => (impl_AddAmount.j0 k a0 a1 (!t308))) = some (r1, r2) := by rw [if_pos rfl] at H; exact H
      clear H
      have H := H1
      clear H1
      replace H := Option.bind_eq_some_iff.mp H
      obtain ⟨t308, A60, H⟩ := H
      replace H : (impl_AddAmount.j0 k a0 a1 (!t308)) = some (r1, r2) := H
      have A6 := Aside0.mk A60
      clear A60
      have H' := Aside0.mk H
      clear H
      go_wp2_with (first | ((with_reducible refine gate_callee (f := 100) rfl ?_); refine goesL_ (some 8) rfl rfl Tryz.func100 (by kernel_rfl) rfl #[.int .i64 a0] rfl (by (try simp only [List.map_toArray, List.map_cons, List.map_nil]); first | done | rfl | (simp only [List.length_drop, List.length_take]; rfl)) ?_; (with_reducible refine (impl_isAmount.calls a0 true _ A4.out).mono ?_); rintro e w' ⟨rfl, ⟨nd, rfl⟩⟩; refine ⟨_, rfl, ?_⟩) | (go_at_call 100; (with_reducible refine (impl_isAmount.calls a1 t308 _ A6.out).mono ?_); rintro e w' ⟨rfl, ⟨nd, rfl⟩⟩))
      go_meet
      case rel => exact ⟨_, (!t308), (by first | rfl | (simp; done) | (simp [*]; done)), H', ⟨by first | omega | exact Nat.le_refl _⟩, by repeat (first | exact Drawn0.refl _ | apply Drawn0.step)⟩
    · replace c5 := Bool.eq_false_iff.mpr c5
      subst c5
      have H1 : (impl_AddAmount.j0 k a0 a1 true) = some (r1, r2) := by rw [if_neg (show ¬ (false = true) by decide)] at H; exact H
      clear H
      have H := H1
      clear H1
      have H' := Aside0.mk H
      clear H
      go_wp2_with (first | ((with_reducible refine gate_callee (f := 100) rfl ?_); refine goesL_ (some 8) rfl rfl Tryz.func100 (by kernel_rfl) rfl #[.int .i64 a0] rfl (by (try simp only [List.map_toArray, List.map_cons, List.map_nil]); first | done | rfl | (simp only [List.length_drop, List.length_take]; rfl)) ?_; (with_reducible refine (impl_isAmount.calls a0 false _ A4.out).mono ?_); rintro e w' ⟨rfl, ⟨nd, rfl⟩⟩; refine ⟨_, rfl, ?_⟩))
      go_meet
      case rel => exact ⟨_, (true), (by first | rfl | (simp; done) | (simp [*]; done)), H', ⟨by first | omega | exact Nat.le_refl _⟩, by repeat (first | exact Drawn0.refl _ | apply Drawn0.step)⟩
  case rest =>
    clear HC3
    try clear c1
    try clear p2
    try clear c5
    obtain ⟨kq, x6_2, rfl, HA, HJ2, ⟨mc2, rfl⟩⟩ := hcut
    cases kq with
    | zero => exact absurd HA.out (by simp [impl_AddAmount.j0])
    | succ kj2 =>
      have H := HA.out
      clear HA
      simp only [impl_AddAmount.j0] at H
      by_cases c7 : x6_2 = true
      · subst c7
        have H1 : (some (0, 4)) = some (r1, r2) := by rw [if_pos rfl] at H; exact H
        clear H
        have H := H1
        clear H1
        simp only [Option.some.injEq, Prod.mk.injEq] at H
        obtain ⟨rfl, rfl⟩ := H
        go_wp2
        go_ret2
        exact ⟨by first | rfl | (simp; done) | (simp [*]; done), by repeat (first | exact Drawn0.refl _ | apply Drawn0.step)⟩
      · replace c7 := Bool.eq_false_iff.mpr c7
        subst c7
        have H1 : (if (wrap64 (a0 + a1)) > 1000000000000000000 then (some (0, 13)) else (some (wrap64 (a0 + a1), 0))) = some (r1, r2) := by rw [if_neg (show ¬ (false = true) by decide)] at H; exact H
        clear H
        have H := H1
        clear H1
        by_cases c8 : (wrap64 (a0 + a1)) > 1000000000000000000
        · rw [if_pos c8] at H
          have c8b0 : decide (1000000000000000000 < (wrap64 (a0 + a1))) = true := decide_eq_true c8
          clear c8
          simp only [Option.some.injEq, Prod.mk.injEq] at H
          obtain ⟨rfl, rfl⟩ := H
          go_wp2
          go_ret2
          exact ⟨by first | rfl | (simp; done) | (simp [*]; done), by repeat (first | exact Drawn0.refl _ | apply Drawn0.step)⟩
        · rw [if_neg c8] at H
          have c8b0 : decide (1000000000000000000 < (wrap64 (a0 + a1))) = false := decide_eq_false c8
          clear c8
          simp only [Option.some.injEq, Prod.mk.injEq] at H
          obtain ⟨rfl, rfl⟩ := H
          go_wp2
          go_ret2
          exact ⟨by first | rfl | (simp; done) | (simp [*]; done), by repeat (first | exact Drawn0.refl _ | apply Drawn0.step)⟩


/-! ### impl_balanceKey: function 53 -/
def impl_balanceKey.f (a0 : ByteArray) (a1 : ByteArray) : Option (ByteArray) := if 2 + a0.size ≤ 9223372036854775807 then (if ((⟨#[98, 47]⟩ : ByteArray) ++ a0).size + 1 ≤ 9223372036854775807 then (if (((⟨#[98, 47]⟩ : ByteArray) ++ a0) ++ (⟨#[47]⟩ : ByteArray)).size + a1.size ≤ 9223372036854775807 then (some ((((⟨#[98, 47]⟩ : ByteArray) ++ a0) ++ (⟨#[47]⟩ : ByteArray)) ++ a1)) else (none)) else (none)) else (none)
set_option maxHeartbeats 8000000 in
set_option maxRecDepth 100000 in
theorem impl_balanceKey.calls (a0 : ByteArray) (a1 : ByteArray) (r : ByteArray) (w : World) (h : impl_balanceKey.f a0 a1 = some r) :
    Calls Tryz.prog 53 #[.string a0, .string a1] w fun e w' => e = .returned (.string r) ∧ Drawn0 w w' := by
  have H : (if 2 + a0.size ≤ 9223372036854775807 then (if ((⟨#[98, 47]⟩ : ByteArray) ++ a0).size + 1 ≤ 9223372036854775807 then (if (((⟨#[98, 47]⟩ : ByteArray) ++ a0) ++ (⟨#[47]⟩ : ByteArray)).size + a1.size ≤ 9223372036854775807 then (some ((((⟨#[98, 47]⟩ : ByteArray) ++ a0) ++ (⟨#[47]⟩ : ByteArray)) ++ a1)) else (none)) else (none)) else (none)) = some r := h
  clear h
  by_cases c3 : 2 + a0.size ≤ 9223372036854775807
  · rw [if_pos c3] at H
    have c3b0 := eq_true c3
    have c3b1 : decide (2 + a0.size ≤ 9223372036854775807) = true := decide_eq_true c3
    try have c3b2 : (9223372036854775807 < 2 + a0.size) = False := eq_false (Nat.not_lt.2 c3)
    by_cases c4 : ((⟨#[98, 47]⟩ : ByteArray) ++ a0).size + 1 ≤ 9223372036854775807
    · rw [if_pos c4] at H
      have c4b0 := eq_true c4
      have c4b1 : decide (((⟨#[98, 47]⟩ : ByteArray) ++ a0).size + 1 ≤ 9223372036854775807) = true := decide_eq_true c4
      try have c4b2 : (9223372036854775807 < ((⟨#[98, 47]⟩ : ByteArray) ++ a0).size + 1) = False := eq_false (Nat.not_lt.2 c4)
      try simp only [ByteArray.size_append, show (⟨#[98, 47]⟩ : ByteArray).size = 2 from rfl] at c4b2
      by_cases c5 : (((⟨#[98, 47]⟩ : ByteArray) ++ a0) ++ (⟨#[47]⟩ : ByteArray)).size + a1.size ≤ 9223372036854775807
      · rw [if_pos c5] at H
        have c5b0 := eq_true c5
        have c5b1 : decide ((((⟨#[98, 47]⟩ : ByteArray) ++ a0) ++ (⟨#[47]⟩ : ByteArray)).size + a1.size ≤ 9223372036854775807) = true := decide_eq_true c5
        try have c5b2 : (9223372036854775807 < (((⟨#[98, 47]⟩ : ByteArray) ++ a0) ++ (⟨#[47]⟩ : ByteArray)).size + a1.size) = False := eq_false (Nat.not_lt.2 c5)
        try simp only [ByteArray.size_append, show (⟨#[98, 47]⟩ : ByteArray).size = 2 from rfl, show (⟨#[47]⟩ : ByteArray).size = 1 from rfl] at c5b2
        obtain rfl := Option.some.inj H
        go_enter Tryz.func53, Tryz.ntmps53
        go_wp2
        go_ret
        exact ⟨by first | rfl | (simp; done) | (simp [*]; done), by repeat (first | exact Drawn0.refl _ | apply Drawn0.step)⟩
      · rw [if_neg c5] at H
        exact absurd H (by simp)
    · rw [if_neg c4] at H
      exact absurd H (by simp)
  · rw [if_neg c3] at H
    exact absurd H (by simp)

/-! ### impl_supplyKey: function 50 -/
def impl_supplyKey.f (a0 : ByteArray) : Option (ByteArray) := if 2 + a0.size ≤ 9223372036854775807 then (some ((⟨#[115, 47]⟩ : ByteArray) ++ a0)) else (none)
set_option maxHeartbeats 8000000 in
set_option maxRecDepth 100000 in
theorem impl_supplyKey.calls (a0 : ByteArray) (r : ByteArray) (w : World) (h : impl_supplyKey.f a0 = some r) :
    Calls Tryz.prog 50 #[.string a0] w fun e w' => e = .returned (.string r) ∧ Drawn0 w w' := by
  have H : (if 2 + a0.size ≤ 9223372036854775807 then (some ((⟨#[115, 47]⟩ : ByteArray) ++ a0)) else (none)) = some r := h
  clear h
  by_cases c2 : 2 + a0.size ≤ 9223372036854775807
  · rw [if_pos c2] at H
    have c2b0 := eq_true c2
    have c2b1 : decide (2 + a0.size ≤ 9223372036854775807) = true := decide_eq_true c2
    try have c2b2 : (9223372036854775807 < 2 + a0.size) = False := eq_false (Nat.not_lt.2 c2)
    obtain rfl := Option.some.inj H
    go_enter Tryz.func50, Tryz.ntmps50
    go_wp2
    go_ret
    exact ⟨by first | rfl | (simp; done) | (simp [*]; done), by repeat (first | exact Drawn0.refl _ | apply Drawn0.step)⟩
  · rw [if_neg c2] at H
    exact absurd H (by simp)

/-! ### spec_SupplyOf: function 23 -/
def spec_SupplyOf.j0 : Nat → List (S56) → ByteArray → Bool → Option (Int × Int)
  | 0, _, _, _ => none
  | k + 1, x0, x1, x14 => if x14 = true then (some (0, 2)) else ((spec_l05Code.f k x0 (([x1] : List ByteArray))).bind fun t319 => (if t319 = 0 then ((spec_l05Supply.f x1).bind fun t320 => ((spec_l05Read.f k x0 t320).bind fun t321 => (some (t321, 0)))) else (some (0, t319))))
def spec_SupplyOf.f (k : Nat) (l0 : List (S56)) (a1 : ByteArray) : Option (Int × Int) := if (l0.length : Int) > 4096 then (spec_SupplyOf.j0 k l0 a1 true) else (spec_SupplyOf.j0 k l0 a1 (decide ((a1.size : Int) > 65536)))
set_option maxHeartbeats 8000000 in
set_option maxRecDepth 100000 in
theorem spec_SupplyOf.calls (k : Nat) (A0 : Option Addr) (c0 : Nat) (l0 : List (S56)) (a1 : ByteArray) (r1 : Int) (r2 : Int) (w : World) (hr0 : Kd.C k56 w A0 l0.length l0) (hc0 : l0.length ≤ c0) (h : spec_SupplyOf.f k l0 a1 = some (r1, r2)) :
    Calls Tryz.prog 23 #[.slice A0 l0.length c0, .string a1] w fun e w' => e = .returned (.tuple #[.int .i64 r1, .int .i64 r2]) ∧ Below w.heap.size w w' := by
  have HR0 := Aside0.mk hr0
  have HC0 := Aside0.mk hc0
  clear hr0 hc0
  have HB := Aside0.mk (Below.refl w.heap.size w)
  have H : (if (l0.length : Int) > 4096 then (spec_SupplyOf.j0 k l0 a1 true) else (spec_SupplyOf.j0 k l0 a1 (decide ((a1.size : Int) > 65536)))) = some (r1, r2) := h
  clear h
  have HC3 := Aside0.mk H
  clear H
  go_enter Tryz.func23, Tryz.ntmps23
  go_upto_region 1 with (fail)
  go_cut [14] (fun v14 wc => ∃ (kq : Nat) (x14_2 : Bool), v14 = .bool x14_2 ∧ Aside0 (spec_SupplyOf.j0 kq l0 a1 x14_2 = some (r1, r2)) ∧ Aside0 (kq ≤ k) ∧ Aside0 (Below w.heap.size w wc))
  case first =>
    have H := HC3.out
    clear HC3
    by_cases c4 : (l0.length : Int) > 4096
    · rw [if_pos c4] at H
      have c4b0 : decide (4096 < (l0.length : Int)) = true := decide_eq_true c4
      have c4b1 : decide (4096 < l0.length) = true := decide_eq_true (by omega)
      clear c4
      (first | rw [c4b0] | (simp only [i64_w, i32_w]; rw [c4b0]) | skip)
      have H' := Aside0.mk H
      clear H
      go_wp2
      go_meet
      case rel => exact ⟨_, (true), (by first | rfl | (simp; done) | (simp [*]; done)), H', ⟨by first | omega | exact Nat.le_refl _⟩, ⟨by repeat (first | (with_reducible first | exact HB.out | apply below_alloc | apply pw_below_drewN | apply below_drew1) | exact HB.out)⟩⟩
    · rw [if_neg c4] at H
      have c4b0 : decide (4096 < (l0.length : Int)) = false := decide_eq_false c4
      have c4b1 : decide (4096 < l0.length) = false := decide_eq_false (by omega)
      clear c4
      (first | rw [c4b0] | (simp only [i64_w, i32_w]; rw [c4b0]) | skip)
      have H' := Aside0.mk H
      clear H
      go_wp2
      go_meet
      case rel => exact ⟨_, (decide ((a1.size : Int) > 65536)), (by first | rfl | (simp; done) | (simp [*]; done)), H', ⟨by first | omega | exact Nat.le_refl _⟩, ⟨by repeat (first | (with_reducible first | exact HB.out | apply below_alloc | apply pw_below_drewN | apply below_drew1) | exact HB.out)⟩⟩
  case rest =>
    clear HC3
    try clear c2
    try clear p2
    try clear c4
    try clear c4b0
    try clear c4b1
    obtain ⟨kq, x14_2, rfl, HA, HJ2, HB⟩ := hcut
    cases kq with
    | zero => exact absurd HA.out (by simp [spec_SupplyOf.j0])
    | succ kj2 =>
      have H := HA.out
      clear HA
      simp only [spec_SupplyOf.j0] at H
      by_cases c5 : x14_2 = true
      · subst c5
        have H1 : (some (0, 2)) = some (r1, r2) := by rw [if_pos rfl] at H; exact H
        clear H
        have H := H1
        clear H1
        simp only [Option.some.injEq, Prod.mk.injEq] at H
        obtain ⟨rfl, rfl⟩ := H
        go_wp2
        go_ret2
        exact ⟨by first | rfl | (simp [errW_none, errW_some] <;> rfl) | (simp [*, errW_none, errW_some] <;> rfl), by repeat (first | (with_reducible first | exact HB.out | apply below_alloc | apply pw_below_drewN | apply below_drew1) | exact HB.out)⟩
      · replace c5 := Bool.eq_false_iff.mpr c5
        subst c5
        have H1 : ((spec_l05Code.f kj2 l0 (([a1] : List ByteArray))).bind fun t319 => (if t319 = 0 then ((spec_l05Supply.f a1).bind fun t320 => ((spec_l05Read.f kj2 l0 t320).bind fun t321 => (some (t321, 0)))) else (some (0, t319)))) = some (r1, r2) := by rw [if_neg (show ¬ (false = true) by decide)] at H; exact H
        clear H
        have H := H1
        clear H1
        obtain ⟨y316, hy316⟩ : ∃ y_ : List ByteArray, y_ = (([a1] : List ByteArray)) := ⟨_, rfl⟩
        replace H : ((spec_l05Code.f kj2 l0 y316).bind fun t319 => (if t319 = 0 then ((spec_l05Supply.f a1).bind fun t320 => ((spec_l05Read.f kj2 l0 t320).bind fun t321 => (some (t321, 0)))) else (some (0, t319)))) = some (r1, r2) := by first | (rw [hy316]; with_reducible exact H) | (have H2_ := (Option.bind_some _ _).symm.trans H; rw [hy316]; with_reducible exact H2_) | (have H2_ := (Option.bind_some _ _).symm.trans H; with_reducible exact H2_) | with_reducible exact H | (rw [hy316]; exact H) | exact H
        have Ny316 := Aside0.mk hy316
        clear hy316
        replace H := Option.bind_eq_some_iff.mp H
        obtain ⟨t319, A60, H⟩ := H
        replace H : (if t319 = 0 then ((spec_l05Supply.f a1).bind fun t320 => ((spec_l05Read.f kj2 l0 t320).bind fun t321 => (some (t321, 0)))) else (some (0, t319))) = some (r1, r2) := H
        have A6 := Aside0.mk A60
        clear A60
        by_cases c7 : t319 = 0
        · rw [if_pos c7] at H
          have c7b0 : (t319 == 0) = true := beq_iff_eq.mpr c7
          have c7b1 : (t319 != 0) = false := bne_eq_false_iff_eq.mpr c7
          clear c7
          replace H := Option.bind_eq_some_iff.mp H
          obtain ⟨t320, A80, H⟩ := H
          replace H : ((spec_l05Read.f kj2 l0 t320).bind fun t321 => (some (t321, 0))) = some (r1, r2) := H
          have A8 := Aside0.mk A80
          clear A80
          replace H := Option.bind_eq_some_iff.mp H
          obtain ⟨t321, A90, H⟩ := H
          replace H : (some (t321, 0)) = some (r1, r2) := H
          have A9 := Aside0.mk A90
          clear A90
          simp only [Option.some.injEq, Prod.mk.injEq] at H
          obtain ⟨rfl, rfl⟩ := H
          go_wp2_with (first | ((with_reducible refine gate_dst (N := 17) rfl ?_); (try (refine gate_guard (by rfl) ?_; dsimp only)); refine Kd.R_lit Kd.string _ 9 ?hg (N := 17) ?hd (xs := ([a1] : List ByteArray)) (inner := [.string a1]) (ok := fun _ => True) (okp := fun _ => True) ?hr ?hp (fun _ hk => hk) trivial (Below.refl _ _) (Nat.le_refl _) (by simp) ?_; (case hd => rfl); (case hg => rfl); (case hr => first | (go_simp; done) | (go_simp; rfl)); (case hp => exact (Reps.one (show Kd.M Kd.string _ _ _ a1 [.string a1] from rfl) (Reps.none _ _))); intro v317 w10 ho11 hb hg_ hnew_; clear hg_ hnew_; (first | rw [← Ny316.out] at ho11 | (simp only [Int.reduceToNat] at ho11; rw [← Ny316.out] at ho11)); have n0_ := Aside0.mk (Kd.R_lower ho11 (below_size (by repeat (first | (with_reducible first | exact HB.out | apply below_alloc | apply pw_below_drewN | apply below_drew1) | exact HB.out)))); have n1_ := Aside0.mk (below_step (by repeat (first | (with_reducible first | exact HB.out | apply below_alloc | apply pw_below_drewN | apply below_drew1) | exact HB.out)) hb); clear HB; have HO318 := n0_; have HB := n1_; clear n0_ n1_; clear hb ho11; obtain ⟨Ao12, co12, eo12⟩ := Kd.R_slice HO318.out; subst eo12) | ((with_reducible refine gate_callee (f := 30) rfl ?_); refine goesL_ (some 18) rfl rfl Tryz.func30 (by kernel_rfl) rfl #[.slice A0 l0.length c0, .slice Ao12 y316.length co12] rfl (by (try simp only [List.map_toArray, List.map_cons, List.map_nil]); first | done | rfl | (simp only [List.length_drop, List.length_take]; rfl)) ?_; (with_reducible refine (spec_l05Code.calls kj2 _ _ l0 _ _ y316 t319 _ ?side1 ?side2 ?side3 ?side4 A6.out).mono ?_); (case side1 => repeat (first | exact (Kd.C_below HR0.out HB.out) | (with_reducible refine Kd.C_alloc ?_ _) | (with_reducible refine Kd.C_drewN ?_ _) | (with_reducible refine Kd.C_drew ?_))); (case side2 => exact HC0.out); (case side3 => repeat (first | exact (Kd.R_reads' HO318.out).2.2 | (with_reducible refine Kd.C_alloc ?_ _) | (with_reducible refine Kd.C_drewN ?_ _) | (with_reducible refine Kd.C_drew ?_))); (case side4 => exact (Kd.R_reads' HO318.out).2.1); rintro e w13 ⟨rfl, hb⟩; refine ⟨_, rfl, ?_⟩; have n0_ := Aside0.mk (Kd.R_below (by (with_reducible repeat (first | apply Kd.R_alloc | apply Kd.R_drewN | apply Kd.R_drew)); exact HO318.out) hb); have n1_ := Aside0.mk (below_step (by repeat (first | (with_reducible first | exact HB.out | apply below_alloc | apply pw_below_drewN | apply below_drew1) | exact HB.out)) hb); clear HO318; clear HB; have HO318 := n0_; have HB := n1_; clear n0_ n1_; (try clear hb); (try clear hb2); (try clear hk); (try clear hi)) | ((with_reducible refine gate_callee (f := 47) rfl ?_); refine goesL_ (some 24) rfl rfl Tryz.func47 (by kernel_rfl) rfl #[.string a1] rfl (by (try simp only [List.map_toArray, List.map_cons, List.map_nil]); first | done | rfl | (simp only [List.length_drop, List.length_take]; rfl)) ?_; (with_reducible refine (spec_l05Supply.calls a1 t320 _ A8.out).mono ?_); rintro e w' ⟨rfl, ⟨nd, rfl⟩⟩; refine ⟨_, rfl, ?_⟩) | ((with_reducible refine gate_callee (f := 46) rfl ?_); refine goesL_ (some 25) rfl rfl Tryz.func46 (by kernel_rfl) rfl #[.slice A0 l0.length c0, .string t320] rfl (by (try simp only [List.map_toArray, List.map_cons, List.map_nil]); first | done | rfl | (simp only [List.length_drop, List.length_take]; rfl)) ?_; (with_reducible refine (spec_l05Read.calls kj2 _ _ l0 t320 t321 _ ?side1 ?side2 A9.out).mono ?_); (case side1 => repeat (first | exact (Kd.C_below HR0.out (by repeat (first | (with_reducible first | exact HB.out | apply below_alloc | apply pw_below_drewN | apply below_drew1) | exact HB.out))) | (with_reducible refine Kd.C_alloc ?_ _) | (with_reducible refine Kd.C_drewN ?_ _) | (with_reducible refine Kd.C_drew ?_))); (case side2 => exact HC0.out); rintro e w14 ⟨rfl, hb⟩; refine ⟨_, rfl, ?_⟩; have n0_ := Aside0.mk (Kd.R_below (by (with_reducible repeat (first | apply Kd.R_alloc | apply Kd.R_drewN | apply Kd.R_drew)); exact HO318.out) hb); have n1_ := Aside0.mk (below_step (by repeat (first | (with_reducible first | exact HB.out | apply below_alloc | apply pw_below_drewN | apply below_drew1) | exact HB.out)) hb); clear HO318; clear HB; have HO318 := n0_; have HB := n1_; clear n0_ n1_; (try clear hb); (try clear hb2); (try clear hk); (try clear hi)))
          go_ret2
          exact ⟨by first | rfl | (simp [errW_none, errW_some] <;> rfl) | (simp [*, errW_none, errW_some] <;> rfl), by repeat (first | (with_reducible first | exact HB.out | apply below_alloc | apply pw_below_drewN | apply below_drew1) | exact HB.out)⟩
        · rw [if_neg c7] at H
          have c7b0 : (t319 == 0) = false := beq_eq_false_iff_ne.mpr c7
          have c7b1 : (t319 != 0) = true := bne_iff_ne.mpr c7
          simp only [Option.some.injEq, Prod.mk.injEq] at H
          obtain ⟨rfl, rfl⟩ := H
          go_wp2_with (first | ((with_reducible refine gate_dst (N := 17) rfl ?_); (try (refine gate_guard (by rfl) ?_; dsimp only)); refine Kd.R_lit Kd.string _ 9 ?hg (N := 17) ?hd (xs := ([a1] : List ByteArray)) (inner := [.string a1]) (ok := fun _ => True) (okp := fun _ => True) ?hr ?hp (fun _ hk => hk) trivial (Below.refl _ _) (Nat.le_refl _) (by simp) ?_; (case hd => rfl); (case hg => rfl); (case hr => first | (go_simp; done) | (go_simp; rfl)); (case hp => exact (Reps.one (show Kd.M Kd.string _ _ _ a1 [.string a1] from rfl) (Reps.none _ _))); intro v317 w15 ho16 hb hg_ hnew_; clear hg_ hnew_; (first | rw [← Ny316.out] at ho16 | (simp only [Int.reduceToNat] at ho16; rw [← Ny316.out] at ho16)); have n0_ := Aside0.mk (Kd.R_lower ho16 (below_size (by repeat (first | (with_reducible first | exact HB.out | apply below_alloc | apply pw_below_drewN | apply below_drew1) | exact HB.out)))); have n1_ := Aside0.mk (below_step (by repeat (first | (with_reducible first | exact HB.out | apply below_alloc | apply pw_below_drewN | apply below_drew1) | exact HB.out)) hb); clear HB; have HO318 := n0_; have HB := n1_; clear n0_ n1_; clear hb ho16; obtain ⟨Ao17, co17, eo17⟩ := Kd.R_slice HO318.out; subst eo17) | ((with_reducible refine gate_callee (f := 30) rfl ?_); refine goesL_ (some 18) rfl rfl Tryz.func30 (by kernel_rfl) rfl #[.slice A0 l0.length c0, .slice Ao17 y316.length co17] rfl (by (try simp only [List.map_toArray, List.map_cons, List.map_nil]); first | done | rfl | (simp only [List.length_drop, List.length_take]; rfl)) ?_; (with_reducible refine (spec_l05Code.calls kj2 _ _ l0 _ _ y316 t319 _ ?side1 ?side2 ?side3 ?side4 A6.out).mono ?_); (case side1 => repeat (first | exact (Kd.C_below HR0.out HB.out) | (with_reducible refine Kd.C_alloc ?_ _) | (with_reducible refine Kd.C_drewN ?_ _) | (with_reducible refine Kd.C_drew ?_))); (case side2 => exact HC0.out); (case side3 => repeat (first | exact (Kd.R_reads' HO318.out).2.2 | (with_reducible refine Kd.C_alloc ?_ _) | (with_reducible refine Kd.C_drewN ?_ _) | (with_reducible refine Kd.C_drew ?_))); (case side4 => exact (Kd.R_reads' HO318.out).2.1); rintro e w18 ⟨rfl, hb⟩; refine ⟨_, rfl, ?_⟩; have n0_ := Aside0.mk (Kd.R_below (by (with_reducible repeat (first | apply Kd.R_alloc | apply Kd.R_drewN | apply Kd.R_drew)); exact HO318.out) hb); have n1_ := Aside0.mk (below_step (by repeat (first | (with_reducible first | exact HB.out | apply below_alloc | apply pw_below_drewN | apply below_drew1) | exact HB.out)) hb); clear HO318; clear HB; have HO318 := n0_; have HB := n1_; clear n0_ n1_; (try clear hb); (try clear hb2); (try clear hk); (try clear hi)))
          go_ret2
          exact ⟨by first | rfl | (simp [errW_none, errW_some] <;> rfl) | (simp [*, errW_none, errW_some] <;> rfl), by repeat (first | (with_reducible first | exact HB.out | apply below_alloc | apply pw_below_drewN | apply below_drew1) | exact HB.out)⟩

/-! ### impl_SupplyOf: function 24 -/
def impl_SupplyOf.f (k : Nat) (l0 : List (S56)) (a1 : ByteArray) : Option (Int × Int) := (impl_storeCode.f k l0 (([a1] : List ByteArray))).bind fun t325 => (if t325 = 0 then ((impl_DenomOK.f k a1).bind fun t326 => (if t326 = true then ((impl_supplyKey.f a1).bind fun t327 => ((impl_amountAt.f l0 t327).bind fun t328 => (some (t328, 0)))) else (some (0, 4)))) else (some (0, t325)))
set_option maxHeartbeats 8000000 in
set_option maxRecDepth 100000 in
theorem impl_SupplyOf.calls (k : Nat) (A0 : Option Addr) (c0 : Nat) (l0 : List (S56)) (a1 : ByteArray) (r1 : Int) (r2 : Int) (w : World) (hr0 : Kd.C k56 w A0 l0.length l0) (hc0 : l0.length ≤ c0) (htab : Tb.TB w) (h : impl_SupplyOf.f k l0 a1 = some (r1, r2)) :
    Calls Tryz.prog 24 #[.slice A0 l0.length c0, .string a1] w fun e w' => e = .returned (.tuple #[.int .i64 r1, .int .i64 r2]) ∧ Below w.heap.size w w' := by
  have HT := Aside0.mk htab
  clear htab
  have HR0 := Aside0.mk hr0
  have HC0 := Aside0.mk hc0
  clear hr0 hc0
  have HB := Aside0.mk (Below.refl w.heap.size w)
  have H : ((impl_storeCode.f k l0 (([a1] : List ByteArray))).bind fun t325 => (if t325 = 0 then ((impl_DenomOK.f k a1).bind fun t326 => (if t326 = true then ((impl_supplyKey.f a1).bind fun t327 => ((impl_amountAt.f l0 t327).bind fun t328 => (some (t328, 0)))) else (some (0, 4)))) else (some (0, t325)))) = some (r1, r2) := h
  clear h
  obtain ⟨y322, hy322⟩ : ∃ y_ : List ByteArray, y_ = (([a1] : List ByteArray)) := ⟨_, rfl⟩
  replace H : ((impl_storeCode.f k l0 y322).bind fun t325 => (if t325 = 0 then ((impl_DenomOK.f k a1).bind fun t326 => (if t326 = true then ((impl_supplyKey.f a1).bind fun t327 => ((impl_amountAt.f l0 t327).bind fun t328 => (some (t328, 0)))) else (some (0, 4)))) else (some (0, t325)))) = some (r1, r2) := by first | (rw [hy322]; with_reducible exact H) | (have H2_ := (Option.bind_some _ _).symm.trans H; rw [hy322]; with_reducible exact H2_) | (have H2_ := (Option.bind_some _ _).symm.trans H; with_reducible exact H2_) | with_reducible exact H | (rw [hy322]; exact H) | exact H
  have Ny322 := Aside0.mk hy322
  clear hy322
  replace H := Option.bind_eq_some_iff.mp H
  obtain ⟨t325, A30, H⟩ := H
  replace H : (if t325 = 0 then ((impl_DenomOK.f k a1).bind fun t326 => (if t326 = true then ((impl_supplyKey.f a1).bind fun t327 => ((impl_amountAt.f l0 t327).bind fun t328 => (some (t328, 0)))) else (some (0, 4)))) else (some (0, t325))) = some (r1, r2) := H
  have A3 := Aside0.mk A30
  clear A30
  by_cases c4 : t325 = 0
  · rw [if_pos c4] at H
    have c4b0 : (t325 == 0) = true := beq_iff_eq.mpr c4
    have c4b1 : (t325 != 0) = false := bne_eq_false_iff_eq.mpr c4
    clear c4
    replace H := Option.bind_eq_some_iff.mp H
    obtain ⟨t326, A50, H⟩ := H
    replace H : (if t326 = true then ((impl_supplyKey.f a1).bind fun t327 => ((impl_amountAt.f l0 t327).bind fun t328 => (some (t328, 0)))) else (some (0, 4))) = some (r1, r2) := H
    have A5 := Aside0.mk A50
    clear A50
    by_cases c6 : t326 = true
    · subst c6
      have H1 : ((impl_supplyKey.f a1).bind fun t327 => ((impl_amountAt.f l0 t327).bind fun t328 => (some (t328, 0)))) = some (r1, r2) := by rw [if_pos rfl] at H; exact H
      clear H
      have H := H1
      clear H1
      replace H := Option.bind_eq_some_iff.mp H
      obtain ⟨t327, A70, H⟩ := H
      replace H : ((impl_amountAt.f l0 t327).bind fun t328 => (some (t328, 0))) = some (r1, r2) := H
      have A7 := Aside0.mk A70
      clear A70
      replace H := Option.bind_eq_some_iff.mp H
      obtain ⟨t328, A80, H⟩ := H
      replace H : (some (t328, 0)) = some (r1, r2) := H
      have A8 := Aside0.mk A80
      clear A80
      simp only [Option.some.injEq, Prod.mk.injEq] at H
      obtain ⟨rfl, rfl⟩ := H
      go_enter Tryz.func24, Tryz.ntmps24
      go_wp2_with (first | ((with_reducible refine gate_dst (N := 9) rfl ?_); refine Kd.R_lit Kd.string _ 9 ?hg (N := 9) ?hd (xs := ([a1] : List ByteArray)) (inner := [.string a1]) (ok := fun _ => True) (okp := fun _ => True) ?hr ?hp (fun _ hk => hk) trivial (Below.refl _ _) (Nat.le_refl _) (by simp) ?_; (case hd => rfl); (case hg => rfl); (case hr => first | (go_simp; done) | (go_simp; rfl)); (case hp => exact (Reps.one (show Kd.M Kd.string _ _ _ a1 [.string a1] from rfl) (Reps.none _ _))); intro v323 w9 ho10 hb hg_ hnew_; clear hg_ hnew_; (first | rw [← Ny322.out] at ho10 | (simp only [Int.reduceToNat] at ho10; rw [← Ny322.out] at ho10)); have n0_ := Aside0.mk (Kd.R_lower ho10 (below_size (by repeat (first | (with_reducible first | exact HB.out | apply below_alloc | apply pw_below_drewN | apply below_drew1) | exact HB.out)))); have n1_ := Aside0.mk (below_step (by repeat (first | (with_reducible first | exact HB.out | apply below_alloc | apply pw_below_drewN | apply below_drew1) | exact HB.out)) hb); clear HB; have HO324 := n0_; have HB := n1_; clear n0_ n1_; clear hb ho10; obtain ⟨Ao11, co11, eo11⟩ := Kd.R_slice HO324.out; subst eo11) | ((with_reducible refine gate_callee (f := 48) rfl ?_); refine goesL_ (some 10) rfl rfl Tryz.func48 (by kernel_rfl) rfl #[.slice A0 l0.length c0, .slice Ao11 y322.length co11] rfl (by (try simp only [List.map_toArray, List.map_cons, List.map_nil]); first | done | rfl | (simp only [List.length_drop, List.length_take]; rfl)) ?_; (with_reducible refine (impl_storeCode.calls k _ _ l0 _ _ y322 t325 _ ?side1 ?side2 ?side3 ?side4 A3.out).mono ?_); (case side1 => repeat (first | exact (Kd.C_below HR0.out HB.out) | (with_reducible refine Kd.C_alloc ?_ _) | (with_reducible refine Kd.C_drewN ?_ _) | (with_reducible refine Kd.C_drew ?_))); (case side2 => exact HC0.out); (case side3 => repeat (first | exact (Kd.R_reads' HO324.out).2.2 | (with_reducible refine Kd.C_alloc ?_ _) | (with_reducible refine Kd.C_drewN ?_ _) | (with_reducible refine Kd.C_drew ?_))); (case side4 => exact (Kd.R_reads' HO324.out).2.1); rintro e w12 ⟨rfl, hb⟩; refine ⟨_, rfl, ?_⟩; have n0_ := Aside0.mk (Kd.R_below (by (with_reducible repeat (first | apply Kd.R_alloc | apply Kd.R_drewN | apply Kd.R_drew)); exact HO324.out) hb); have n1_ := Aside0.mk (below_step (by repeat (first | (with_reducible first | exact HB.out | apply below_alloc | apply pw_below_drewN | apply below_drew1) | exact HB.out)) hb); clear HO324; clear HB; have HO324 := n0_; have HB := n1_; clear n0_ n1_; (try clear hb); (try clear hb2); (try clear hk); (try clear hi)) | ((with_reducible refine gate_callee (f := 28) rfl ?_); refine goesL_ (some 15) rfl rfl Tryz.func28 (by kernel_rfl) rfl #[.string a1] rfl (by (try simp only [List.map_toArray, List.map_cons, List.map_nil]); first | done | rfl | (simp only [List.length_drop, List.length_take]; rfl)) ?_; (with_reducible refine (impl_DenomOK.calls k a1 true _ A5.out).mono ?_); rintro e w' ⟨rfl, ⟨nd, rfl⟩⟩; refine ⟨_, rfl, ?_⟩) | ((with_reducible refine gate_callee (f := 50) rfl ?_); refine goesL_ (some 19) rfl rfl Tryz.func50 (by kernel_rfl) rfl #[.string a1] rfl (by (try simp only [List.map_toArray, List.map_cons, List.map_nil]); first | done | rfl | (simp only [List.length_drop, List.length_take]; rfl)) ?_; (with_reducible refine (impl_supplyKey.calls a1 t327 _ A7.out).mono ?_); rintro e w' ⟨rfl, ⟨nd, rfl⟩⟩; refine ⟨_, rfl, ?_⟩) | ((with_reducible refine gate_callee (f := 49) rfl ?_); refine goesL_ (some 20) rfl rfl Tryz.func49 (by kernel_rfl) rfl #[.slice A0 l0.length c0, .string t327] rfl (by (try simp only [List.map_toArray, List.map_cons, List.map_nil]); first | done | rfl | (simp only [List.length_drop, List.length_take]; rfl)) ?_; (with_reducible refine (impl_amountAt.calls _ _ l0 t327 t328 _ ?side1 ?side2 ?tb1 A8.out).mono ?_); (case tb1 => exact Tb.TB.below HT.out (by repeat (first | (with_reducible first | exact HB.out | apply below_alloc | apply pw_below_drewN | apply below_drew1) | exact HB.out)) (Nat.le_refl _)); (case side1 => repeat (first | exact (Kd.C_below HR0.out (by repeat (first | (with_reducible first | exact HB.out | apply below_alloc | apply pw_below_drewN | apply below_drew1) | exact HB.out))) | (with_reducible refine Kd.C_alloc ?_ _) | (with_reducible refine Kd.C_drewN ?_ _) | (with_reducible refine Kd.C_drew ?_))); (case side2 => exact HC0.out); rintro e w13 ⟨rfl, hb⟩; refine ⟨_, rfl, ?_⟩; have n0_ := Aside0.mk (Kd.R_below (by (with_reducible repeat (first | apply Kd.R_alloc | apply Kd.R_drewN | apply Kd.R_drew)); exact HO324.out) hb); have n1_ := Aside0.mk (below_step (by repeat (first | (with_reducible first | exact HB.out | apply below_alloc | apply pw_below_drewN | apply below_drew1) | exact HB.out)) hb); clear HO324; clear HB; have HO324 := n0_; have HB := n1_; clear n0_ n1_; (try clear hb); (try clear hb2); (try clear hk); (try clear hi)))
      go_ret2
      exact ⟨by first | rfl | (simp [errW_none, errW_some] <;> rfl) | (simp [*, errW_none, errW_some] <;> rfl), by repeat (first | (with_reducible first | exact HB.out | apply below_alloc | apply pw_below_drewN | apply below_drew1) | exact HB.out)⟩
    · replace c6 := Bool.eq_false_iff.mpr c6
      subst c6
      have H1 : (some (0, 4)) = some (r1, r2) := by rw [if_neg (show ¬ (false = true) by decide)] at H; exact H
      clear H
      have H := H1
      clear H1
      simp only [Option.some.injEq, Prod.mk.injEq] at H
      obtain ⟨rfl, rfl⟩ := H
      go_enter Tryz.func24, Tryz.ntmps24
      go_wp2_with (first | ((with_reducible refine gate_dst (N := 9) rfl ?_); refine Kd.R_lit Kd.string _ 9 ?hg (N := 9) ?hd (xs := ([a1] : List ByteArray)) (inner := [.string a1]) (ok := fun _ => True) (okp := fun _ => True) ?hr ?hp (fun _ hk => hk) trivial (Below.refl _ _) (Nat.le_refl _) (by simp) ?_; (case hd => rfl); (case hg => rfl); (case hr => first | (go_simp; done) | (go_simp; rfl)); (case hp => exact (Reps.one (show Kd.M Kd.string _ _ _ a1 [.string a1] from rfl) (Reps.none _ _))); intro v323 w14 ho15 hb hg_ hnew_; clear hg_ hnew_; (first | rw [← Ny322.out] at ho15 | (simp only [Int.reduceToNat] at ho15; rw [← Ny322.out] at ho15)); have n0_ := Aside0.mk (Kd.R_lower ho15 (below_size (by repeat (first | (with_reducible first | exact HB.out | apply below_alloc | apply pw_below_drewN | apply below_drew1) | exact HB.out)))); have n1_ := Aside0.mk (below_step (by repeat (first | (with_reducible first | exact HB.out | apply below_alloc | apply pw_below_drewN | apply below_drew1) | exact HB.out)) hb); clear HB; have HO324 := n0_; have HB := n1_; clear n0_ n1_; clear hb ho15; obtain ⟨Ao16, co16, eo16⟩ := Kd.R_slice HO324.out; subst eo16) | ((with_reducible refine gate_callee (f := 48) rfl ?_); refine goesL_ (some 10) rfl rfl Tryz.func48 (by kernel_rfl) rfl #[.slice A0 l0.length c0, .slice Ao16 y322.length co16] rfl (by (try simp only [List.map_toArray, List.map_cons, List.map_nil]); first | done | rfl | (simp only [List.length_drop, List.length_take]; rfl)) ?_; (with_reducible refine (impl_storeCode.calls k _ _ l0 _ _ y322 t325 _ ?side1 ?side2 ?side3 ?side4 A3.out).mono ?_); (case side1 => repeat (first | exact (Kd.C_below HR0.out HB.out) | (with_reducible refine Kd.C_alloc ?_ _) | (with_reducible refine Kd.C_drewN ?_ _) | (with_reducible refine Kd.C_drew ?_))); (case side2 => exact HC0.out); (case side3 => repeat (first | exact (Kd.R_reads' HO324.out).2.2 | (with_reducible refine Kd.C_alloc ?_ _) | (with_reducible refine Kd.C_drewN ?_ _) | (with_reducible refine Kd.C_drew ?_))); (case side4 => exact (Kd.R_reads' HO324.out).2.1); rintro e w17 ⟨rfl, hb⟩; refine ⟨_, rfl, ?_⟩; have n0_ := Aside0.mk (Kd.R_below (by (with_reducible repeat (first | apply Kd.R_alloc | apply Kd.R_drewN | apply Kd.R_drew)); exact HO324.out) hb); have n1_ := Aside0.mk (below_step (by repeat (first | (with_reducible first | exact HB.out | apply below_alloc | apply pw_below_drewN | apply below_drew1) | exact HB.out)) hb); clear HO324; clear HB; have HO324 := n0_; have HB := n1_; clear n0_ n1_; (try clear hb); (try clear hb2); (try clear hk); (try clear hi)) | ((with_reducible refine gate_callee (f := 28) rfl ?_); refine goesL_ (some 15) rfl rfl Tryz.func28 (by kernel_rfl) rfl #[.string a1] rfl (by (try simp only [List.map_toArray, List.map_cons, List.map_nil]); first | done | rfl | (simp only [List.length_drop, List.length_take]; rfl)) ?_; (with_reducible refine (impl_DenomOK.calls k a1 false _ A5.out).mono ?_); rintro e w' ⟨rfl, ⟨nd, rfl⟩⟩; refine ⟨_, rfl, ?_⟩))
      go_ret2
      exact ⟨by first | rfl | (simp [errW_none, errW_some] <;> rfl) | (simp [*, errW_none, errW_some] <;> rfl), by repeat (first | (with_reducible first | exact HB.out | apply below_alloc | apply pw_below_drewN | apply below_drew1) | exact HB.out)⟩
  · rw [if_neg c4] at H
    have c4b0 : (t325 == 0) = false := beq_eq_false_iff_ne.mpr c4
    have c4b1 : (t325 != 0) = true := bne_iff_ne.mpr c4
    simp only [Option.some.injEq, Prod.mk.injEq] at H
    obtain ⟨rfl, rfl⟩ := H
    go_enter Tryz.func24, Tryz.ntmps24
    go_wp2_with (first | ((with_reducible refine gate_dst (N := 9) rfl ?_); refine Kd.R_lit Kd.string _ 9 ?hg (N := 9) ?hd (xs := ([a1] : List ByteArray)) (inner := [.string a1]) (ok := fun _ => True) (okp := fun _ => True) ?hr ?hp (fun _ hk => hk) trivial (Below.refl _ _) (Nat.le_refl _) (by simp) ?_; (case hd => rfl); (case hg => rfl); (case hr => first | (go_simp; done) | (go_simp; rfl)); (case hp => exact (Reps.one (show Kd.M Kd.string _ _ _ a1 [.string a1] from rfl) (Reps.none _ _))); intro v323 w18 ho19 hb hg_ hnew_; clear hg_ hnew_; (first | rw [← Ny322.out] at ho19 | (simp only [Int.reduceToNat] at ho19; rw [← Ny322.out] at ho19)); have n0_ := Aside0.mk (Kd.R_lower ho19 (below_size (by repeat (first | (with_reducible first | exact HB.out | apply below_alloc | apply pw_below_drewN | apply below_drew1) | exact HB.out)))); have n1_ := Aside0.mk (below_step (by repeat (first | (with_reducible first | exact HB.out | apply below_alloc | apply pw_below_drewN | apply below_drew1) | exact HB.out)) hb); clear HB; have HO324 := n0_; have HB := n1_; clear n0_ n1_; clear hb ho19; obtain ⟨Ao20, co20, eo20⟩ := Kd.R_slice HO324.out; subst eo20) | ((with_reducible refine gate_callee (f := 48) rfl ?_); refine goesL_ (some 10) rfl rfl Tryz.func48 (by kernel_rfl) rfl #[.slice A0 l0.length c0, .slice Ao20 y322.length co20] rfl (by (try simp only [List.map_toArray, List.map_cons, List.map_nil]); first | done | rfl | (simp only [List.length_drop, List.length_take]; rfl)) ?_; (with_reducible refine (impl_storeCode.calls k _ _ l0 _ _ y322 t325 _ ?side1 ?side2 ?side3 ?side4 A3.out).mono ?_); (case side1 => repeat (first | exact (Kd.C_below HR0.out HB.out) | (with_reducible refine Kd.C_alloc ?_ _) | (with_reducible refine Kd.C_drewN ?_ _) | (with_reducible refine Kd.C_drew ?_))); (case side2 => exact HC0.out); (case side3 => repeat (first | exact (Kd.R_reads' HO324.out).2.2 | (with_reducible refine Kd.C_alloc ?_ _) | (with_reducible refine Kd.C_drewN ?_ _) | (with_reducible refine Kd.C_drew ?_))); (case side4 => exact (Kd.R_reads' HO324.out).2.1); rintro e w21 ⟨rfl, hb⟩; refine ⟨_, rfl, ?_⟩; have n0_ := Aside0.mk (Kd.R_below (by (with_reducible repeat (first | apply Kd.R_alloc | apply Kd.R_drewN | apply Kd.R_drew)); exact HO324.out) hb); have n1_ := Aside0.mk (below_step (by repeat (first | (with_reducible first | exact HB.out | apply below_alloc | apply pw_below_drewN | apply below_drew1) | exact HB.out)) hb); clear HO324; clear HB; have HO324 := n0_; have HB := n1_; clear n0_ n1_; (try clear hb); (try clear hb2); (try clear hk); (try clear hi)))
    go_ret2
    exact ⟨by first | rfl | (simp [errW_none, errW_some] <;> rfl) | (simp [*, errW_none, errW_some] <;> rfl), by repeat (first | (with_reducible first | exact HB.out | apply below_alloc | apply pw_below_drewN | apply below_drew1) | exact HB.out)⟩

/-! ### impl_BalanceOf: function 26 -/
def impl_BalanceOf.f (k : Nat) (l0 : List (S56)) (a1 : ByteArray) (a2 : ByteArray) : Option (Int × Int) := (impl_storeCode.f k l0 (([a1, a2] : List ByteArray))).bind fun t332 => (if t332 = 0 then ((impl_areNames.f k (([a1, a2] : List ByteArray))).bind fun t336 => (if t336 = true then ((impl_balanceKey.f a2 a1).bind fun t337 => ((impl_amountAt.f l0 t337).bind fun t338 => (some (t338, 0)))) else (some (0, 4)))) else (some (0, t332)))
set_option maxHeartbeats 8000000 in
set_option maxRecDepth 100000 in
theorem impl_BalanceOf.calls (k : Nat) (A0 : Option Addr) (c0 : Nat) (l0 : List (S56)) (a1 : ByteArray) (a2 : ByteArray) (r1 : Int) (r2 : Int) (w : World) (hr0 : Kd.C k56 w A0 l0.length l0) (hc0 : l0.length ≤ c0) (htab : Tb.TB w) (h : impl_BalanceOf.f k l0 a1 a2 = some (r1, r2)) :
    Calls Tryz.prog 26 #[.slice A0 l0.length c0, .string a1, .string a2] w fun e w' => e = .returned (.tuple #[.int .i64 r1, .int .i64 r2]) ∧ Below w.heap.size w w' := by
  have HT := Aside0.mk htab
  clear htab
  have HR0 := Aside0.mk hr0
  have HC0 := Aside0.mk hc0
  clear hr0 hc0
  have HB := Aside0.mk (Below.refl w.heap.size w)
  have H : ((impl_storeCode.f k l0 (([a1, a2] : List ByteArray))).bind fun t332 => (if t332 = 0 then ((impl_areNames.f k (([a1, a2] : List ByteArray))).bind fun t336 => (if t336 = true then ((impl_balanceKey.f a2 a1).bind fun t337 => ((impl_amountAt.f l0 t337).bind fun t338 => (some (t338, 0)))) else (some (0, 4)))) else (some (0, t332)))) = some (r1, r2) := h
  clear h
  obtain ⟨y329, hy329⟩ : ∃ y_ : List ByteArray, y_ = (([a1, a2] : List ByteArray)) := ⟨_, rfl⟩
  replace H : ((impl_storeCode.f k l0 y329).bind fun t332 => (if t332 = 0 then ((impl_areNames.f k (([a1, a2] : List ByteArray))).bind fun t336 => (if t336 = true then ((impl_balanceKey.f a2 a1).bind fun t337 => ((impl_amountAt.f l0 t337).bind fun t338 => (some (t338, 0)))) else (some (0, 4)))) else (some (0, t332)))) = some (r1, r2) := by first | (rw [hy329]; with_reducible exact H) | (have H2_ := (Option.bind_some _ _).symm.trans H; rw [hy329]; with_reducible exact H2_) | (have H2_ := (Option.bind_some _ _).symm.trans H; with_reducible exact H2_) | with_reducible exact H | (rw [hy329]; exact H) | exact H
  have Ny329 := Aside0.mk hy329
  clear hy329
  replace H := Option.bind_eq_some_iff.mp H
  obtain ⟨t332, A40, H⟩ := H
  replace H : (if t332 = 0 then ((impl_areNames.f k (([a1, a2] : List ByteArray))).bind fun t336 => (if t336 = true then ((impl_balanceKey.f a2 a1).bind fun t337 => ((impl_amountAt.f l0 t337).bind fun t338 => (some (t338, 0)))) else (some (0, 4)))) else (some (0, t332))) = some (r1, r2) := H
  have A4 := Aside0.mk A40
  clear A40
  by_cases c5 : t332 = 0
  · rw [if_pos c5] at H
    have c5b0 : (t332 == 0) = true := beq_iff_eq.mpr c5
    have c5b1 : (t332 != 0) = false := bne_eq_false_iff_eq.mpr c5
    clear c5
    obtain ⟨y333, hy333⟩ : ∃ y_ : List ByteArray, y_ = (([a1, a2] : List ByteArray)) := ⟨_, rfl⟩
    replace H : ((impl_areNames.f k y333).bind fun t336 => (if t336 = true then ((impl_balanceKey.f a2 a1).bind fun t337 => ((impl_amountAt.f l0 t337).bind fun t338 => (some (t338, 0)))) else (some (0, 4)))) = some (r1, r2) := by first | (rw [hy333]; with_reducible exact H) | (have H2_ := (Option.bind_some _ _).symm.trans H; rw [hy333]; with_reducible exact H2_) | (have H2_ := (Option.bind_some _ _).symm.trans H; with_reducible exact H2_) | with_reducible exact H | (rw [hy333]; exact H) | exact H
    have Ny333 := Aside0.mk hy333
    clear hy333
    replace H := Option.bind_eq_some_iff.mp H
    obtain ⟨t336, A60, H⟩ := H
    replace H : (if t336 = true then ((impl_balanceKey.f a2 a1).bind fun t337 => ((impl_amountAt.f l0 t337).bind fun t338 => (some (t338, 0)))) else (some (0, 4))) = some (r1, r2) := H
    have A6 := Aside0.mk A60
    clear A60
    by_cases c7 : t336 = true
    · subst c7
      have H1 : ((impl_balanceKey.f a2 a1).bind fun t337 => ((impl_amountAt.f l0 t337).bind fun t338 => (some (t338, 0)))) = some (r1, r2) := by rw [if_pos rfl] at H; exact H
      clear H
      have H := H1
      clear H1
      replace H := Option.bind_eq_some_iff.mp H
      obtain ⟨t337, A80, H⟩ := H
      replace H : ((impl_amountAt.f l0 t337).bind fun t338 => (some (t338, 0))) = some (r1, r2) := H
      have A8 := Aside0.mk A80
      clear A80
      replace H := Option.bind_eq_some_iff.mp H
      obtain ⟨t338, A90, H⟩ := H
      replace H : (some (t338, 0)) = some (r1, r2) := H
      have A9 := Aside0.mk A90
      clear A90
      simp only [Option.some.injEq, Prod.mk.injEq] at H
      obtain ⟨rfl, rfl⟩ := H
      go_enter Tryz.func26, Tryz.ntmps26
      go_wp2_with (first | ((with_reducible refine gate_dst (N := 12) rfl ?_); refine Kd.R_lit Kd.string _ 9 ?hg (N := 12) ?hd (xs := ([a1, a2] : List ByteArray)) (inner := [.string a1, .string a2]) (ok := fun _ => True) (okp := fun _ => True) ?hr ?hp (fun _ hk => hk) trivial (Below.refl _ _) (Nat.le_refl _) (by simp) ?_; (case hd => rfl); (case hg => rfl); (case hr => first | (go_simp; done) | (go_simp; rfl)); (case hp => exact (Reps.one (show Kd.M Kd.string _ _ _ a1 [.string a1] from rfl) (Reps.one (show Kd.M Kd.string _ _ _ a2 [.string a2] from rfl) (Reps.none _ _)))); intro v330 w10 ho11 hb hg_ hnew_; clear hg_ hnew_; (first | rw [← Ny329.out] at ho11 | (simp only [Int.reduceToNat] at ho11; rw [← Ny329.out] at ho11)); have n0_ := Aside0.mk (Kd.R_lower ho11 (below_size (by repeat (first | (with_reducible first | exact HB.out | apply below_alloc | apply pw_below_drewN | apply below_drew1) | exact HB.out)))); have n1_ := Aside0.mk (below_step (by repeat (first | (with_reducible first | exact HB.out | apply below_alloc | apply pw_below_drewN | apply below_drew1) | exact HB.out)) hb); clear HB; have HO331 := n0_; have HB := n1_; clear n0_ n1_; clear hb ho11; obtain ⟨Ao12, co12, eo12⟩ := Kd.R_slice HO331.out; subst eo12) | ((with_reducible refine gate_callee (f := 48) rfl ?_); refine goesL_ (some 13) rfl rfl Tryz.func48 (by kernel_rfl) rfl #[.slice A0 l0.length c0, .slice Ao12 y329.length co12] rfl (by (try simp only [List.map_toArray, List.map_cons, List.map_nil]); first | done | rfl | (simp only [List.length_drop, List.length_take]; rfl)) ?_; (with_reducible refine (impl_storeCode.calls k _ _ l0 _ _ y329 t332 _ ?side1 ?side2 ?side3 ?side4 A4.out).mono ?_); (case side1 => repeat (first | exact (Kd.C_below HR0.out HB.out) | (with_reducible refine Kd.C_alloc ?_ _) | (with_reducible refine Kd.C_drewN ?_ _) | (with_reducible refine Kd.C_drew ?_))); (case side2 => exact HC0.out); (case side3 => repeat (first | exact (Kd.R_reads' HO331.out).2.2 | (with_reducible refine Kd.C_alloc ?_ _) | (with_reducible refine Kd.C_drewN ?_ _) | (with_reducible refine Kd.C_drew ?_))); (case side4 => exact (Kd.R_reads' HO331.out).2.1); rintro e w13 ⟨rfl, hb⟩; refine ⟨_, rfl, ?_⟩; have n0_ := Aside0.mk (Kd.R_below (by (with_reducible repeat (first | apply Kd.R_alloc | apply Kd.R_drewN | apply Kd.R_drew)); exact HO331.out) hb); have n1_ := Aside0.mk (below_step (by repeat (first | (with_reducible first | exact HB.out | apply below_alloc | apply pw_below_drewN | apply below_drew1) | exact HB.out)) hb); clear HO331; clear HB; have HO331 := n0_; have HB := n1_; clear n0_ n1_; (try clear hb); (try clear hb2); (try clear hk); (try clear hi)) | ((with_reducible refine gate_dst (N := 19) rfl ?_); refine Kd.R_lit Kd.string _ 9 ?hg (N := 19) ?hd (xs := ([a1, a2] : List ByteArray)) (inner := [.string a1, .string a2]) (ok := fun _ => True) (okp := fun _ => True) ?hr ?hp (fun _ hk => hk) trivial (Below.refl _ _) (Nat.le_refl _) (by simp) ?_; (case hd => rfl); (case hg => rfl); (case hr => first | (go_simp; done) | (go_simp; rfl)); (case hp => exact (Reps.one (show Kd.M Kd.string _ _ _ a1 [.string a1] from rfl) (Reps.one (show Kd.M Kd.string _ _ _ a2 [.string a2] from rfl) (Reps.none _ _)))); intro v334 w14 ho15 hb hg_ hnew_; clear hg_ hnew_; (first | rw [← Ny333.out] at ho15 | (simp only [Int.reduceToNat] at ho15; rw [← Ny333.out] at ho15)); have n0_ := Aside0.mk (Kd.R_elder' (by (with_reducible repeat (first | apply Kd.R_alloc | apply Kd.R_drewN | apply Kd.R_drew)); exact HO331.out) (Kd.R_base ho15) hb); have n1_ := Aside0.mk (Kd.R_lower (Kd.R_new' ho15 (Kd.R_lt (by (with_reducible repeat (first | apply Kd.R_alloc | apply Kd.R_drewN | apply Kd.R_drew)); exact HO331.out))) (below_size (by repeat (first | (with_reducible first | exact HB.out | apply below_alloc | apply pw_below_drewN | apply below_drew1) | exact HB.out)))); have n2_ := Aside0.mk (below_step (by repeat (first | (with_reducible first | exact HB.out | apply below_alloc | apply pw_below_drewN | apply below_drew1) | exact HB.out)) hb); clear HO331; clear HB; have HO331 := n0_; have HO335 := n1_; have HB := n2_; clear n0_ n1_ n2_; clear hb ho15; obtain ⟨Ao16, co16, eo16⟩ := Kd.R_slice HO335.out; subst eo16) | ((with_reducible refine gate_callee (f := 52) rfl ?_); refine goesL_ (some 20) rfl rfl Tryz.func52 (by kernel_rfl) rfl #[.slice Ao16 y333.length co16] rfl (by (try simp only [List.map_toArray, List.map_cons, List.map_nil]); first | done | rfl | (simp only [List.length_drop, List.length_take]; rfl)) ?_; (with_reducible refine (impl_areNames.calls k _ _ y333 true _ ?side1 ?side2 A6.out).mono ?_); (case side1 => repeat (first | exact (Kd.R_reads' HO335.out).2.2 | (with_reducible refine Kd.C_alloc ?_ _) | (with_reducible refine Kd.C_drewN ?_ _) | (with_reducible refine Kd.C_drew ?_))); (case side2 => exact (Kd.R_reads' HO335.out).2.1); rintro e w' ⟨rfl, ⟨nd, rfl⟩⟩; refine ⟨_, rfl, ?_⟩) | ((with_reducible refine gate_callee (f := 53) rfl ?_); refine goesL_ (some 25) rfl rfl Tryz.func53 (by kernel_rfl) rfl #[.string a2, .string a1] rfl (by (try simp only [List.map_toArray, List.map_cons, List.map_nil]); first | done | rfl | (simp only [List.length_drop, List.length_take]; rfl)) ?_; (with_reducible refine (impl_balanceKey.calls a2 a1 t337 _ A8.out).mono ?_); rintro e w' ⟨rfl, ⟨nd, rfl⟩⟩; refine ⟨_, rfl, ?_⟩) | ((with_reducible refine gate_callee (f := 49) rfl ?_); refine goesL_ (some 26) rfl rfl Tryz.func49 (by kernel_rfl) rfl #[.slice A0 l0.length c0, .string t337] rfl (by (try simp only [List.map_toArray, List.map_cons, List.map_nil]); first | done | rfl | (simp only [List.length_drop, List.length_take]; rfl)) ?_; (with_reducible refine (impl_amountAt.calls _ _ l0 t337 t338 _ ?side1 ?side2 ?tb1 A9.out).mono ?_); (case tb1 => exact Tb.TB.below HT.out (by repeat (first | (with_reducible first | exact HB.out | apply below_alloc | apply pw_below_drewN | apply below_drew1) | exact HB.out)) (Nat.le_refl _)); (case side1 => repeat (first | exact (Kd.C_below HR0.out (by repeat (first | (with_reducible first | exact HB.out | apply below_alloc | apply pw_below_drewN | apply below_drew1) | exact HB.out))) | (with_reducible refine Kd.C_alloc ?_ _) | (with_reducible refine Kd.C_drewN ?_ _) | (with_reducible refine Kd.C_drew ?_))); (case side2 => exact HC0.out); rintro e w17 ⟨rfl, hb⟩; refine ⟨_, rfl, ?_⟩; have n0_ := Aside0.mk (Kd.R_below (by (with_reducible repeat (first | apply Kd.R_alloc | apply Kd.R_drewN | apply Kd.R_drew)); exact HO331.out) hb); have n1_ := Aside0.mk (Kd.R_below (by (with_reducible repeat (first | apply Kd.R_alloc | apply Kd.R_drewN | apply Kd.R_drew)); exact HO335.out) hb); have n2_ := Aside0.mk (below_step (by repeat (first | (with_reducible first | exact HB.out | apply below_alloc | apply pw_below_drewN | apply below_drew1) | exact HB.out)) hb); clear HO331; clear HO335; clear HB; have HO331 := n0_; have HO335 := n1_; have HB := n2_; clear n0_ n1_ n2_; (try clear hb); (try clear hb2); (try clear hk); (try clear hi)))
      go_ret2
      exact ⟨by first | rfl | (simp [errW_none, errW_some] <;> rfl) | (simp [*, errW_none, errW_some] <;> rfl), by repeat (first | (with_reducible first | exact HB.out | apply below_alloc | apply pw_below_drewN | apply below_drew1) | exact HB.out)⟩
    · replace c7 := Bool.eq_false_iff.mpr c7
      subst c7
      have H1 : (some (0, 4)) = some (r1, r2) := by rw [if_neg (show ¬ (false = true) by decide)] at H; exact H
      clear H
      have H := H1
      clear H1
      simp only [Option.some.injEq, Prod.mk.injEq] at H
      obtain ⟨rfl, rfl⟩ := H
      go_enter Tryz.func26, Tryz.ntmps26
      go_wp2_with (first | ((with_reducible refine gate_dst (N := 12) rfl ?_); refine Kd.R_lit Kd.string _ 9 ?hg (N := 12) ?hd (xs := ([a1, a2] : List ByteArray)) (inner := [.string a1, .string a2]) (ok := fun _ => True) (okp := fun _ => True) ?hr ?hp (fun _ hk => hk) trivial (Below.refl _ _) (Nat.le_refl _) (by simp) ?_; (case hd => rfl); (case hg => rfl); (case hr => first | (go_simp; done) | (go_simp; rfl)); (case hp => exact (Reps.one (show Kd.M Kd.string _ _ _ a1 [.string a1] from rfl) (Reps.one (show Kd.M Kd.string _ _ _ a2 [.string a2] from rfl) (Reps.none _ _)))); intro v330 w18 ho19 hb hg_ hnew_; clear hg_ hnew_; (first | rw [← Ny329.out] at ho19 | (simp only [Int.reduceToNat] at ho19; rw [← Ny329.out] at ho19)); have n0_ := Aside0.mk (Kd.R_lower ho19 (below_size (by repeat (first | (with_reducible first | exact HB.out | apply below_alloc | apply pw_below_drewN | apply below_drew1) | exact HB.out)))); have n1_ := Aside0.mk (below_step (by repeat (first | (with_reducible first | exact HB.out | apply below_alloc | apply pw_below_drewN | apply below_drew1) | exact HB.out)) hb); clear HB; have HO331 := n0_; have HB := n1_; clear n0_ n1_; clear hb ho19; obtain ⟨Ao20, co20, eo20⟩ := Kd.R_slice HO331.out; subst eo20) | ((with_reducible refine gate_callee (f := 48) rfl ?_); refine goesL_ (some 13) rfl rfl Tryz.func48 (by kernel_rfl) rfl #[.slice A0 l0.length c0, .slice Ao20 y329.length co20] rfl (by (try simp only [List.map_toArray, List.map_cons, List.map_nil]); first | done | rfl | (simp only [List.length_drop, List.length_take]; rfl)) ?_; (with_reducible refine (impl_storeCode.calls k _ _ l0 _ _ y329 t332 _ ?side1 ?side2 ?side3 ?side4 A4.out).mono ?_); (case side1 => repeat (first | exact (Kd.C_below HR0.out HB.out) | (with_reducible refine Kd.C_alloc ?_ _) | (with_reducible refine Kd.C_drewN ?_ _) | (with_reducible refine Kd.C_drew ?_))); (case side2 => exact HC0.out); (case side3 => repeat (first | exact (Kd.R_reads' HO331.out).2.2 | (with_reducible refine Kd.C_alloc ?_ _) | (with_reducible refine Kd.C_drewN ?_ _) | (with_reducible refine Kd.C_drew ?_))); (case side4 => exact (Kd.R_reads' HO331.out).2.1); rintro e w21 ⟨rfl, hb⟩; refine ⟨_, rfl, ?_⟩; have n0_ := Aside0.mk (Kd.R_below (by (with_reducible repeat (first | apply Kd.R_alloc | apply Kd.R_drewN | apply Kd.R_drew)); exact HO331.out) hb); have n1_ := Aside0.mk (below_step (by repeat (first | (with_reducible first | exact HB.out | apply below_alloc | apply pw_below_drewN | apply below_drew1) | exact HB.out)) hb); clear HO331; clear HB; have HO331 := n0_; have HB := n1_; clear n0_ n1_; (try clear hb); (try clear hb2); (try clear hk); (try clear hi)) | ((with_reducible refine gate_dst (N := 19) rfl ?_); refine Kd.R_lit Kd.string _ 9 ?hg (N := 19) ?hd (xs := ([a1, a2] : List ByteArray)) (inner := [.string a1, .string a2]) (ok := fun _ => True) (okp := fun _ => True) ?hr ?hp (fun _ hk => hk) trivial (Below.refl _ _) (Nat.le_refl _) (by simp) ?_; (case hd => rfl); (case hg => rfl); (case hr => first | (go_simp; done) | (go_simp; rfl)); (case hp => exact (Reps.one (show Kd.M Kd.string _ _ _ a1 [.string a1] from rfl) (Reps.one (show Kd.M Kd.string _ _ _ a2 [.string a2] from rfl) (Reps.none _ _)))); intro v334 w22 ho23 hb hg_ hnew_; clear hg_ hnew_; (first | rw [← Ny333.out] at ho23 | (simp only [Int.reduceToNat] at ho23; rw [← Ny333.out] at ho23)); have n0_ := Aside0.mk (Kd.R_elder' (by (with_reducible repeat (first | apply Kd.R_alloc | apply Kd.R_drewN | apply Kd.R_drew)); exact HO331.out) (Kd.R_base ho23) hb); have n1_ := Aside0.mk (Kd.R_lower (Kd.R_new' ho23 (Kd.R_lt (by (with_reducible repeat (first | apply Kd.R_alloc | apply Kd.R_drewN | apply Kd.R_drew)); exact HO331.out))) (below_size (by repeat (first | (with_reducible first | exact HB.out | apply below_alloc | apply pw_below_drewN | apply below_drew1) | exact HB.out)))); have n2_ := Aside0.mk (below_step (by repeat (first | (with_reducible first | exact HB.out | apply below_alloc | apply pw_below_drewN | apply below_drew1) | exact HB.out)) hb); clear HO331; clear HB; have HO331 := n0_; have HO335 := n1_; have HB := n2_; clear n0_ n1_ n2_; clear hb ho23; obtain ⟨Ao24, co24, eo24⟩ := Kd.R_slice HO335.out; subst eo24) | ((with_reducible refine gate_callee (f := 52) rfl ?_); refine goesL_ (some 20) rfl rfl Tryz.func52 (by kernel_rfl) rfl #[.slice Ao24 y333.length co24] rfl (by (try simp only [List.map_toArray, List.map_cons, List.map_nil]); first | done | rfl | (simp only [List.length_drop, List.length_take]; rfl)) ?_; (with_reducible refine (impl_areNames.calls k _ _ y333 false _ ?side1 ?side2 A6.out).mono ?_); (case side1 => repeat (first | exact (Kd.R_reads' HO335.out).2.2 | (with_reducible refine Kd.C_alloc ?_ _) | (with_reducible refine Kd.C_drewN ?_ _) | (with_reducible refine Kd.C_drew ?_))); (case side2 => exact (Kd.R_reads' HO335.out).2.1); rintro e w' ⟨rfl, ⟨nd, rfl⟩⟩; refine ⟨_, rfl, ?_⟩))
      go_ret2
      exact ⟨by first | rfl | (simp [errW_none, errW_some] <;> rfl) | (simp [*, errW_none, errW_some] <;> rfl), by repeat (first | (with_reducible first | exact HB.out | apply below_alloc | apply pw_below_drewN | apply below_drew1) | exact HB.out)⟩
  · rw [if_neg c5] at H
    have c5b0 : (t332 == 0) = false := beq_eq_false_iff_ne.mpr c5
    have c5b1 : (t332 != 0) = true := bne_iff_ne.mpr c5
    simp only [Option.some.injEq, Prod.mk.injEq] at H
    obtain ⟨rfl, rfl⟩ := H
    go_enter Tryz.func26, Tryz.ntmps26
    go_wp2_with (first | ((with_reducible refine gate_dst (N := 12) rfl ?_); refine Kd.R_lit Kd.string _ 9 ?hg (N := 12) ?hd (xs := ([a1, a2] : List ByteArray)) (inner := [.string a1, .string a2]) (ok := fun _ => True) (okp := fun _ => True) ?hr ?hp (fun _ hk => hk) trivial (Below.refl _ _) (Nat.le_refl _) (by simp) ?_; (case hd => rfl); (case hg => rfl); (case hr => first | (go_simp; done) | (go_simp; rfl)); (case hp => exact (Reps.one (show Kd.M Kd.string _ _ _ a1 [.string a1] from rfl) (Reps.one (show Kd.M Kd.string _ _ _ a2 [.string a2] from rfl) (Reps.none _ _)))); intro v330 w25 ho26 hb hg_ hnew_; clear hg_ hnew_; (first | rw [← Ny329.out] at ho26 | (simp only [Int.reduceToNat] at ho26; rw [← Ny329.out] at ho26)); have n0_ := Aside0.mk (Kd.R_lower ho26 (below_size (by repeat (first | (with_reducible first | exact HB.out | apply below_alloc | apply pw_below_drewN | apply below_drew1) | exact HB.out)))); have n1_ := Aside0.mk (below_step (by repeat (first | (with_reducible first | exact HB.out | apply below_alloc | apply pw_below_drewN | apply below_drew1) | exact HB.out)) hb); clear HB; have HO331 := n0_; have HB := n1_; clear n0_ n1_; clear hb ho26; obtain ⟨Ao27, co27, eo27⟩ := Kd.R_slice HO331.out; subst eo27) | ((with_reducible refine gate_callee (f := 48) rfl ?_); refine goesL_ (some 13) rfl rfl Tryz.func48 (by kernel_rfl) rfl #[.slice A0 l0.length c0, .slice Ao27 y329.length co27] rfl (by (try simp only [List.map_toArray, List.map_cons, List.map_nil]); first | done | rfl | (simp only [List.length_drop, List.length_take]; rfl)) ?_; (with_reducible refine (impl_storeCode.calls k _ _ l0 _ _ y329 t332 _ ?side1 ?side2 ?side3 ?side4 A4.out).mono ?_); (case side1 => repeat (first | exact (Kd.C_below HR0.out HB.out) | (with_reducible refine Kd.C_alloc ?_ _) | (with_reducible refine Kd.C_drewN ?_ _) | (with_reducible refine Kd.C_drew ?_))); (case side2 => exact HC0.out); (case side3 => repeat (first | exact (Kd.R_reads' HO331.out).2.2 | (with_reducible refine Kd.C_alloc ?_ _) | (with_reducible refine Kd.C_drewN ?_ _) | (with_reducible refine Kd.C_drew ?_))); (case side4 => exact (Kd.R_reads' HO331.out).2.1); rintro e w28 ⟨rfl, hb⟩; refine ⟨_, rfl, ?_⟩; have n0_ := Aside0.mk (Kd.R_below (by (with_reducible repeat (first | apply Kd.R_alloc | apply Kd.R_drewN | apply Kd.R_drew)); exact HO331.out) hb); have n1_ := Aside0.mk (below_step (by repeat (first | (with_reducible first | exact HB.out | apply below_alloc | apply pw_below_drewN | apply below_drew1) | exact HB.out)) hb); clear HO331; clear HB; have HO331 := n0_; have HB := n1_; clear n0_ n1_; (try clear hb); (try clear hb2); (try clear hk); (try clear hi)))
    go_ret2
    exact ⟨by first | rfl | (simp [errW_none, errW_some] <;> rfl) | (simp [*, errW_none, errW_some] <;> rfl), by repeat (first | (with_reducible first | exact HB.out | apply below_alloc | apply pw_below_drewN | apply below_drew1) | exact HB.out)⟩



end Go.Proofs.YtpkfdjlmflmilaaGreatDoor.Q
end
section
namespace Go.Proofs.YtpkfdjlmflmilaaGreatDoor.Q
open Go.RowKit Go.Proofs.YtpkfdjlmflmilaaGreatDoorW.PrintWords Go.Proofs.YtpkfdjlmflmilaaGreatDoorW.PrintLast Go.Proofs.YtpkfdjlmflmilaaGreatDoorW.PrintMore
attribute [local go_sem] max2_int min2_int max_two min_two max_three min_three max_four min_four   -- for this text's walks alone
set_option linter.unusedVariables false
set_option linter.unusedSimpArgs false

theorem eqA56 (d : Nat) (w : World) (x0 y0 : ByteArray) (x1 y1 : ByteArray) :
    (Op.equalIn (d + 2) 56 (.agg #[.string x0, .string x1]) (.agg #[.string y0, .string y1])).run Tryz.prog w = .ok (x0.toList == y0.toList && (x1.toList == y1.toList)) w := by
  refine eqA_of Tryz.underlying56 (by kernel_rfl) ?_
  refine eqf_cons (by rfl) (by go_simp; rfl) (by go_simp; rfl) (by go_simp) ?_
  exact eqf_last (by rfl) (by go_simp; rfl) (by go_simp; rfl) (by go_simp)
end Go.Proofs.YtpkfdjlmflmilaaGreatDoor.Q
end
section
namespace Go.Proofs.YtpkfdjlmflmilaaGreatDoor.Q
open Go.RowKit Go.Proofs.YtpkfdjlmflmilaaGreatDoorW.PrintWords Go.Proofs.YtpkfdjlmflmilaaGreatDoorW.PrintLast Go.Proofs.YtpkfdjlmflmilaaGreatDoorW.PrintMore
set_option linter.unusedVariables false
/-- A text without a head of its own. -/
def trimP (s p : ByteArray) : ByteArray := ⟨(Lib.trimPrefix s.data.toList p.data.toList).toArray⟩
def strings_TrimPrefix.f (s p : ByteArray) : Option ByteArray := some (trimP s p)
theorem strings_TrimPrefix.calls (a0 : ByteArray) (a1 : ByteArray) (r : ByteArray) (w : World) (h : strings_TrimPrefix.f a0 a1 = some r) :
    Calls Tryz.prog 83 #[.string a0, .string a1] w fun e w' => e = .returned (.string r) ∧ w' = w := by
  unfold strings_TrimPrefix.f at h
  injection h with h
  subst h
  exact Tryz.strings_TrimPrefix a0 a1 w
def strings_HasPrefix.f (s p : ByteArray) : Option Bool := some (decide (p.toList <+: s.toList))
theorem tp_has (s p : ByteArray) : Lib.hasPrefix s.data.toList p.data.toList = decide (p.toList <+: s.toList) := by
  rw [Lib.toList_data, Lib.toList_data]
  unfold Lib.hasPrefix
  rw [Bool.eq_iff_iff, List.isPrefixOf_iff_prefix, decide_eq_true_eq]
theorem strings_HasPrefix.calls (a0 : ByteArray) (a1 : ByteArray) (r : Bool) (w : World) (h : strings_HasPrefix.f a0 a1 = some r) :
    Calls Tryz.prog 102 #[.string a0, .string a1] w fun e w' => e = .returned (.bool r) ∧ w' = w := by
  unfold strings_HasPrefix.f at h
  injection h with h
  subst h
  rw [← tp_has]
  exact Tryz.strings_HasPrefix a0 a1 w
end Go.Proofs.YtpkfdjlmflmilaaGreatDoor.Q
end
