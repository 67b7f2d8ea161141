-- Texts of this seat, cut down to what the claim's theorem reaches and joined (by shake.py).
import Derived.Deep.QuietTactic
import Derived.BigQuiet
import Derived.BigRegion
import Derived.Deep.RegionLaw
import Derived.Lib.Strings
import Derived.WideShapes
import Derived.Lib.ItoaNum
import Derived.Lib.AtoiAll
import Derived.Test.YtpkfdjlmflmilaaGreatDoorBank2
import Derived.Test.YtpkfdjlmflmilaaGreatDoorBank3
section
namespace Go.Proofs.YtpkfdjlmflmilaaGreatDoor.Q
open Go.RowKit Go.Proofs.YtpkfdjlmflmilaaGreatDoorW.PrintWords Go.Proofs.YtpkfdjlmflmilaaGreatDoorW.PrintLast Go.Proofs.YtpkfdjlmflmilaaGreatDoorW.PrintMore
attribute [local go_sem] max2_int min2_int max_two min_two max_three min_three max_four min_four   -- for this text's walks alone
set_option linter.unusedVariables false
set_option linter.unusedSimpArgs false

/-! ### impl_scan: function 82 -/
def impl_scan.l0 : Nat → ByteArray → List (S56) → List (S56) → Int → Int → Option ((List (S56)))
  | 0, _, _, _, _, _ => none
  | k + 1, x1, x5, x9, x10, x11 => if x11 < x10 then (if 0 ≤ x11 then (if x11 < (x9.length : Int) then ((strings_HasPrefix.f ((rd_T56 x9 x11).f0) x1).bind fun t344 => (if t344 = true then (if x5.length < 4398046511104 then (impl_scan.l0 k x1 (x5 ++ [(⟨(rd_T56 x9 x11).f0, (rd_T56 x9 x11).f1⟩ : S56)]) x9 x10 (wrap64 (x11 + 1))) else (none)) else (impl_scan.l0 k x1 x5 x9 x10 (wrap64 (x11 + 1))))) else (none)) else (none)) else (some x5)
def impl_scan.f (k : Nat) (l0 : List (S56)) (a1 : ByteArray) : Option ((List (S56))) := impl_scan.l0 k a1 (([] : List (S56))) l0 (l0.length : Int) 0
set_option maxHeartbeats 8000000 in
set_option maxRecDepth 100000 in
theorem impl_scan.calls (k : Nat) (A0 : Option Addr) (c0 : Nat) (l0 : List (S56)) (a1 : ByteArray) (r : List (S56)) (w : World) (hr0 : Kd.C k56 w A0 l0.length l0) (hc0 : l0.length ≤ c0) (h : impl_scan.f k l0 a1 = some r) :
    Calls Tryz.prog 82 #[.slice A0 l0.length c0, .string a1] w fun e w' => ∃ v0_ : Value, e = .returned (v0_) ∧ Kd.R k56 56 w' w.heap.size (fun _ => True) v0_ r ∧ Below w.heap.size w w' := by
  have hu56 := Tryz.underlying56
  have HR0 := Aside0.mk hr0
  have HC0 := Aside0.mk hc0
  clear hr0 hc0
  have HB := Aside0.mk (Below.refl w.heap.size w)
  have H : (impl_scan.l0 k a1 (([] : List (S56))) l0 (l0.length : Int) 0) = some r := h
  clear h
  obtain ⟨y339, hy339⟩ : ∃ y_ : List (S56), y_ = (([] : List (S56))) := ⟨_, rfl⟩
  replace H : (impl_scan.l0 k a1 y339 l0 (l0.length : Int) 0) = some r := by first | (rw [hy339]; with_reducible exact H) | (have H2_ := (Option.bind_some _ _).symm.trans H; rw [hy339]; with_reducible exact H2_) | (have H2_ := (Option.bind_some _ _).symm.trans H; with_reducible exact H2_) | with_reducible exact H | (rw [hy339]; exact H) | exact H
  have Ny339 := Aside0.mk hy339
  clear hy339
  have H' := Aside0.mk H
  clear H
  go_enter Tryz.func82, Tryz.ntmps82
  go_wp2_with (first | ((with_reducible refine gate_dst (N := 8) rfl ?_); refine Kd.R_lit k56 _ 56 ?hg (N := 8) ?hd (xs := ([] : List (S56))) (inner := []) (ok := fun _ => True) (okp := fun _ => True) ?hr ?hp (fun _ hk => hk) trivial (Below.refl _ _) (Nat.le_refl _) (by simp) ?_; (case hd => rfl); (case hg => rfl); (case hr => first | (go_simp; done) | (go_simp; rfl)); (case hp => exact (Reps.none _ _)); intro v340 w3 ho4 hb hg_ hnew_; clear hg_ hnew_; (first | rw [← Ny339.out] at ho4 | (simp only [Int.reduceToNat] at ho4; rw [← Ny339.out] at ho4)); have n0_ := Aside0.mk (Kd.R_lower ho4 (below_size (by repeat (first | (with_reducible first | exact HB.out | apply below_alloc | apply pw_below_drewN | apply below_drew1) | exact HB.out)))); have n1_ := Aside0.mk (below_step (by repeat (first | (with_reducible first | exact HB.out | apply below_alloc | apply pw_below_drewN | apply below_drew1) | exact HB.out)) hb); clear HB; have HO341 := n0_; have HB := n1_; clear n0_ n1_; clear hb ho4))
  go_loopg [5, 11] k (fun kq v5 v11 w' => ∃ (x5_1 : List (S56)) (x11_1 : Int), v11 = .int .i64 x11_1 ∧ Aside0 (impl_scan.l0 kq a1 x5_1 l0 (l0.length : Int) x11_1 = some r) ∧ Aside0 (kq ≤ k) ∧ Aside0 (Kd.R k56 56 w' w.heap.size (fun _ => True) v5 x5_1) ∧ Aside0 (Below w.heap.size w w'))
  case atStart => exact ⟨(y339), (0), (by first | rfl | (simp; done) | (simp [*]; done)), H', ⟨Nat.le_refl _⟩, ⟨by (with_reducible repeat (first | apply Kd.R_alloc | apply Kd.R_drewN | apply Kd.R_drew)); exact HO341.out⟩, ⟨by repeat (first | (with_reducible first | exact HB.out | apply below_alloc | apply pw_below_drewN | apply below_drew1) | exact HB.out)⟩⟩
  case round =>
    clear H'
    try clear p2
    obtain ⟨x5_1, x11_1, rfl, HA, HK1, HO_5, HB⟩ := hrel
    cases gk with
    | zero => exact absurd HA.out (by simp [impl_scan.l0])
    | succ k1 =>
      have H := HA.out
      clear HA
      simp only [impl_scan.l0] at H
      by_cases c5 : x11_1 < (l0.length : Int)
      · rw [if_pos c5] at H
        have c5b0 : decide (x11_1 < (l0.length : Int)) = true := decide_eq_true c5
        clear c5
        by_cases c6 : 0 ≤ x11_1
        · rw [if_pos c6] at H
          have c6b0 : decide (0 ≤ x11_1) = true := decide_eq_true c6
          clear c6
          by_cases c7 : x11_1 < (l0.length : Int)
          · rw [if_pos c7] at H
            have c7b0 : decide (x11_1 < (l0.length : Int)) = true := decide_eq_true c7
            clear c7
            replace H := Option.bind_eq_some_iff.mp H
            obtain ⟨t344, A80, H⟩ := H
            replace H : (if t344 = true then (if x5_1.length < 4398046511104 then (impl_scan.l0 k1 a1 (x5_1 ++ [(⟨(rd_T56 l0 x11_1).f0, (rd_T56 l0 x11_1).f1⟩ : S56)]) l0 (l0.length : Int) (wrap64 (x11_1 + 1))) else (none)) else (impl_scan.l0 k1 a1 x5_1 l0 (l0.length : Int) (wrap64 (x11_1 + 1)))) = some r := H
            have A8 := Aside0.mk A80
            clear A80
            by_cases c9 : t344 = true
            · subst c9
              have H1 : (if x5_1.length < 4398046511104 then (impl_scan.l0 k1 a1 (x5_1 ++ [(⟨(rd_T56 l0 x11_1).f0, (rd_T56 l0 x11_1).f1⟩ : S56)]) l0 (l0.length : Int) (wrap64 (x11_1 + 1))) else (none)) = some r := by rw [if_pos rfl] at H; exact H
              clear H
              have H := H1
              clear H1
              by_cases c10 : x5_1.length < 4398046511104
              · rw [if_pos c10] at H
                have LMc10 := Aside0.mk c10
                clear c10
                obtain ⟨y345, hy345⟩ : ∃ y_ : List (S56), y_ = (x5_1 ++ [(⟨(rd_T56 l0 x11_1).f0, (rd_T56 l0 x11_1).f1⟩ : S56)]) := ⟨_, rfl⟩
                replace H : (impl_scan.l0 k1 a1 y345 l0 (l0.length : Int) (wrap64 (x11_1 + 1))) = some r := by first | (rw [hy345]; with_reducible exact H) | (have H2_ := (Option.bind_some _ _).symm.trans H; rw [hy345]; with_reducible exact H2_) | (have H2_ := (Option.bind_some _ _).symm.trans H; with_reducible exact H2_) | with_reducible exact H | (rw [hy345]; exact H) | exact H
                have Ny345 := Aside0.mk hy345
                clear hy345
                have H' := Aside0.mk H
                clear H
                have p342 : 0 ≤ (x11_1 : Int) := of_decide_eq_true (by first | (with_reducible assumption) | assumption)
                have q342 : x11_1 < (l0.length : Int) := of_decide_eq_true (by first | (with_reducible assumption) | assumption)
                obtain ⟨ad342, e342, hx342_0, hx342_1⟩ := at_T56 HR0.out x11_1 p342 q342
                cases e342
                replace hx342_0 := (HB.out.cell (World.block_lt_of_cell? w _ hx342_0)).trans hx342_0
                replace hx342_1 := (HB.out.cell (World.block_lt_of_cell? w _ hx342_1)).trans hx342_1
                replace p342 := eq_true p342
                replace q342 := eq_true q342
                go_wp2_with (first | ((with_reducible refine gate_dst (N := 7) rfl ?_); refine box_event ?hg (N := 7) ?hd (cs := #[.string (⟨#[]⟩ : ByteArray), .string (⟨#[]⟩ : ByteArray)]) (t := 56) ?hr ?_; (case hd => rfl); (case hg => rfl); (case hr => first | (go_simp; done) | (go_simp; rfl)); intro gb343 hg w11 hbox hb; have n0_ := Aside0.mk (Kd.R_below (Kd.R_elderB (by (with_reducible repeat (first | apply Kd.R_alloc | apply Kd.R_drewN | apply Kd.R_drew)); exact HO_5.out) gb343 (Nat.le_of_eq hg.symm)) hb); have n1_ := Aside0.mk (below_step (by repeat (first | (with_reducible first | exact HB.out | apply below_alloc | apply pw_below_drewN | apply below_drew1) | exact HB.out)) hb); have n2_ := Aside0.mk (hbox); have n3_ := Aside0.mk ((by rw [hg]; exact (below_size (by repeat (first | (with_reducible first | exact HB.out | apply below_alloc | apply pw_below_drewN | apply below_drew1) | exact HB.out))) : w.heap.size ≤ gb343)); have n4_ := Aside0.mk ((by rw [hg]; exact (below_size (by repeat (first | (with_reducible first | exact HB.out | apply below_alloc | apply pw_below_drewN | apply below_drew1) | exact HB.out))) : w.heap.size ≤ gb343)); clear HO_5; clear HB; have HO_5 := n0_; have HB := n1_; have BK343 := n2_; have GW343 := n3_; have GE343 := n4_; clear n0_ n1_ n2_ n3_ n4_; clear hb hbox hg; have hcz12_0 : w11.cell? ⟨gb343, 0, none⟩ = some (.string (⟨#[]⟩ : ByteArray)) := (blk_cell BK343.out 0).trans rfl; have hcz12_1 : w11.cell? ⟨gb343, 1, none⟩ = some (.string (⟨#[]⟩ : ByteArray)) := (blk_cell BK343.out 1).trans rfl; have hfz12_0 := blk_frozen BK343.out 0; have hfz12_1 := blk_frozen BK343.out 1) | ((with_reducible refine gate_callee (f := 102) rfl ?_); refine goesL_ (some 18) rfl rfl Tryz.func102 (by kernel_rfl) rfl #[.string ((rd_T56 l0 x11_1).f0), .string a1] rfl (by (try simp only [List.map_toArray, List.map_cons, List.map_nil]); first | done | rfl | (simp only [List.length_drop, List.length_take]; rfl)) ?_; (with_reducible refine (strings_HasPrefix.calls ((rd_T56 l0 x11_1).f0) a1 true _ A8.out).mono ?_); rintro e w' ⟨rfl, ⟨nd, rfl⟩⟩; refine ⟨_, rfl, ?_⟩) | ((with_reducible refine gate_builtin (b := .append) (xs := #[.tmp 19, .tmp 21]) rfl ?_); at_builtin; refine Kd.R_append k56 (w0 := w) w.heap.size rfl (.tmp 19) (.tmp 21) 24 56 (.agg #[(.string ⟨#[]⟩), (.string ⟨#[]⟩)]) 32 rfl Tryz.underlying24 info56 rfl (by decide) (by omega) u5 x5_1 (⟨(rd_T56 l0 x11_1).f0, (rd_T56 l0 x11_1).f1⟩ : S56) [.string ((rd_T56 l0 x11_1).f0), .string ((rd_T56 l0 x11_1).f1)] (fun k_ => k_ ≠ gb343) (fun _ => False) rfl (by first | (go_simp; done) | (go_simp; rfl)) ?aP (fun _ hk => hk.elim) ?aF ?aO ?aB ?aS ?aL ?_; (case aP => exact k56_mkM _ _ _ (⟨(rd_T56 l0 x11_1).f0, (rd_T56 l0 x11_1).f1⟩ : S56)); (case aB => exact (by repeat (first | (with_reducible first | exact HB.out | apply below_alloc | apply pw_below_drewN | apply below_drew1 | refine below_set ?_ GE343.out) | exact HB.out))); (case aF => exact (fun k_ hk => Kd.freshB (g := gb343) (o := .cells #[.string ((rd_T56 l0 x11_1).f0), .string ((rd_T56 l0 x11_1).f1)] 56 (0, 0)) (by (with_reducible repeat (first | refine blk_drewN ?_ _ | refine blk_drew ?_ | refine blk_alloc ?_ _)); refine blk_put (cs := #[.string ((rd_T56 l0 x11_1).f0), .string (⟨#[]⟩ : ByteArray)]) ?_ 1 _ rfl; (with_reducible repeat (first | refine blk_drewN ?_ _ | refine blk_drew ?_ | refine blk_alloc ?_ _)); refine blk_put (cs := #[.string (⟨#[]⟩ : ByteArray), .string (⟨#[]⟩ : ByteArray)]) ?_ 0 _ rfl; (with_reducible repeat (first | refine blk_drewN ?_ _ | refine blk_drew ?_ | refine blk_alloc ?_ _)); exact BK343.out) k_ hk)); (case aO => exact (by (with_reducible repeat (first | apply Kd.R_alloc | apply Kd.R_drewN | apply Kd.R_drew)); exact Kd.R_mono (Kd.R_far (p := ⟨gb343, 1, none⟩) (Kd.R_far (p := ⟨gb343, 0, none⟩) (Kd.R_mono HO_5.out (fun k_ hk => (⟨hk, hk.2⟩ : _ ∧ k_ ≠ gb343))) (fun _ hk => hk.2) (.string ((rd_T56 l0 x11_1).f0))) (fun _ hk => hk.2) (.string ((rd_T56 l0 x11_1).f1))) (fun _ hk => hk.1.2))); (case aS => exact (below_size (by repeat (first | (with_reducible first | exact HB.out | apply below_alloc | apply pw_below_drewN | apply below_drew1 | refine below_set ?_ GE343.out) | exact HB.out)))); (case aL => have := LMc10.out; omega); intro v346 w13 ho hb hg hat; rw [← Ny345.out] at ho; have n0_ := Aside0.mk (blk_grown (g := gb343) (o := .cells #[.string ((rd_T56 l0 x11_1).f0), .string ((rd_T56 l0 x11_1).f1)] 56 (0, 0)) (by (with_reducible repeat (first | refine blk_drewN ?_ _ | refine blk_drew ?_ | refine blk_alloc ?_ _)); refine blk_put (cs := #[.string ((rd_T56 l0 x11_1).f0), .string (⟨#[]⟩ : ByteArray)]) ?_ 1 _ rfl; (with_reducible repeat (first | refine blk_drewN ?_ _ | refine blk_drew ?_ | refine blk_alloc ?_ _)); refine blk_put (cs := #[.string (⟨#[]⟩ : ByteArray), .string (⟨#[]⟩ : ByteArray)]) ?_ 0 _ rfl; (with_reducible repeat (first | refine blk_drewN ?_ _ | refine blk_drew ?_ | refine blk_alloc ?_ _)); exact BK343.out) hg (Kd.R_away HO_5.out (fun _ hk => hk.2))); have n1_ := Aside0.mk (hb); have n2_ := Aside0.mk (ho); clear BK343; clear HB; clear HO_5; have BK343 := n0_; have HB := n1_; have HO347 := n2_; clear n0_ n1_ n2_; clear ho hb hg hat))
                go_roundg k1
                case measure => have := HK1.out; omega
                case rel => exact ⟨(y345), (wrap64 (x11_1 + 1)), (by first | rfl | (simp; done) | (simp [*]; done)), H', ⟨by have := HK1.out; omega⟩, ⟨by (with_reducible repeat (first | apply Kd.R_alloc | apply Kd.R_drewN | apply Kd.R_drew)); exact Kd.R_mono HO347.out (fun _ hk => trivial)⟩, ⟨by repeat (first | (with_reducible first | exact HB.out | apply below_alloc | apply pw_below_drewN | apply below_drew1 | refine below_set ?_ GE343.out) | exact HB.out)⟩⟩
              · rw [if_neg c10] at H
                exact absurd H (by simp)
            · replace c9 := Bool.eq_false_iff.mpr c9
              subst c9
              have H1 : (impl_scan.l0 k1 a1 x5_1 l0 (l0.length : Int) (wrap64 (x11_1 + 1))) = some r := by rw [if_neg (show ¬ (false = true) by decide)] at H; exact H
              clear H
              have H := H1
              clear H1
              have H' := Aside0.mk H
              clear H
              have p342 : 0 ≤ (x11_1 : Int) := of_decide_eq_true (by first | (with_reducible assumption) | assumption)
              have q342 : x11_1 < (l0.length : Int) := of_decide_eq_true (by first | (with_reducible assumption) | assumption)
              obtain ⟨ad342, e342, hx342_0, hx342_1⟩ := at_T56 HR0.out x11_1 p342 q342
              cases e342
              replace hx342_0 := (HB.out.cell (World.block_lt_of_cell? w _ hx342_0)).trans hx342_0
              replace hx342_1 := (HB.out.cell (World.block_lt_of_cell? w _ hx342_1)).trans hx342_1
              replace p342 := eq_true p342
              replace q342 := eq_true q342
              go_wp2_with (first | ((with_reducible refine gate_dst (N := 7) rfl ?_); refine box_event ?hg (N := 7) ?hd (cs := #[.string (⟨#[]⟩ : ByteArray), .string (⟨#[]⟩ : ByteArray)]) (t := 56) ?hr ?_; (case hd => rfl); (case hg => rfl); (case hr => first | (go_simp; done) | (go_simp; rfl)); intro gb343 hg w14 hbox hb; have n0_ := Aside0.mk (Kd.R_below (Kd.R_elderB (by (with_reducible repeat (first | apply Kd.R_alloc | apply Kd.R_drewN | apply Kd.R_drew)); exact HO_5.out) gb343 (Nat.le_of_eq hg.symm)) hb); have n1_ := Aside0.mk (below_step (by repeat (first | (with_reducible first | exact HB.out | apply below_alloc | apply pw_below_drewN | apply below_drew1) | exact HB.out)) hb); have n2_ := Aside0.mk (hbox); have n3_ := Aside0.mk ((by rw [hg]; exact (below_size (by repeat (first | (with_reducible first | exact HB.out | apply below_alloc | apply pw_below_drewN | apply below_drew1) | exact HB.out))) : w.heap.size ≤ gb343)); have n4_ := Aside0.mk ((by rw [hg]; exact (below_size (by repeat (first | (with_reducible first | exact HB.out | apply below_alloc | apply pw_below_drewN | apply below_drew1) | exact HB.out))) : w.heap.size ≤ gb343)); clear HO_5; clear HB; have HO_5 := n0_; have HB := n1_; have BK343 := n2_; have GW343 := n3_; have GE343 := n4_; clear n0_ n1_ n2_ n3_ n4_; clear hb hbox hg; have hcz15_0 : w14.cell? ⟨gb343, 0, none⟩ = some (.string (⟨#[]⟩ : ByteArray)) := (blk_cell BK343.out 0).trans rfl; have hcz15_1 : w14.cell? ⟨gb343, 1, none⟩ = some (.string (⟨#[]⟩ : ByteArray)) := (blk_cell BK343.out 1).trans rfl; have hfz15_0 := blk_frozen BK343.out 0; have hfz15_1 := blk_frozen BK343.out 1) | ((with_reducible refine gate_callee (f := 102) rfl ?_); refine goesL_ (some 18) rfl rfl Tryz.func102 (by kernel_rfl) rfl #[.string ((rd_T56 l0 x11_1).f0), .string a1] rfl (by (try simp only [List.map_toArray, List.map_cons, List.map_nil]); first | done | rfl | (simp only [List.length_drop, List.length_take]; rfl)) ?_; (with_reducible refine (strings_HasPrefix.calls ((rd_T56 l0 x11_1).f0) a1 false _ A8.out).mono ?_); rintro e w' ⟨rfl, ⟨nd, rfl⟩⟩; refine ⟨_, rfl, ?_⟩))
              go_roundg k1
              case measure => have := HK1.out; omega
              case rel => exact ⟨(x5_1), (wrap64 (x11_1 + 1)), (by first | rfl | (simp; done) | (simp [*]; done)), H', ⟨by have := HK1.out; omega⟩, ⟨by (with_reducible repeat (first | apply Kd.R_alloc | apply Kd.R_drewN | apply Kd.R_drew)); exact Kd.R_mono (Kd.R_far (p := ⟨gb343, 1, none⟩) (Kd.R_far (p := ⟨gb343, 0, none⟩) (Kd.R_mono HO_5.out (fun k_ hk => (⟨hk, hk.2⟩ : _ ∧ k_ ≠ gb343))) (fun _ hk => hk.2) (.string ((rd_T56 l0 x11_1).f0))) (fun _ hk => hk.2) (.string ((rd_T56 l0 x11_1).f1))) (fun _ hk => trivial)⟩, ⟨by repeat (first | (with_reducible first | exact HB.out | apply below_alloc | apply pw_below_drewN | apply below_drew1 | refine below_set ?_ GE343.out) | exact HB.out)⟩⟩
          · rw [if_neg c7] at H
            exact absurd H (by simp)
        · rw [if_neg c6] at H
          exact absurd H (by simp)
      · rw [if_neg c5] at H
        have c5b0 : decide (x11_1 < (l0.length : Int)) = false := decide_eq_false c5
        clear c5
        obtain rfl := Option.some.inj H
        go_wp2
        go_ret
        exact ⟨_, by first | rfl | (simp [errW_none, errW_some] <;> rfl) | (simp [*, errW_none, errW_some] <;> rfl), by (with_reducible repeat (first | apply Kd.R_alloc | apply Kd.R_drewN | apply Kd.R_drew)); exact HO_5.out, by repeat (first | (with_reducible first | exact HB.out | apply below_alloc | apply pw_below_drewN | apply below_drew1) | exact HB.out)⟩



end Go.Proofs.YtpkfdjlmflmilaaGreatDoor.Q
end
section
namespace Go.Proofs.YtpkfdjlmflmilaaGreatDoor.Q
open Go.RowKit Go.Proofs.YtpkfdjlmflmilaaGreatDoorW.PrintWords Go.Proofs.YtpkfdjlmflmilaaGreatDoorW.PrintLast Go.Proofs.YtpkfdjlmflmilaaGreatDoorW.PrintMore
attribute [local go_sem] max2_int min2_int max_two min_two max_three min_three max_four min_four   -- for this text's walks alone
set_option linter.unusedVariables false
set_option linter.unusedSimpArgs false

attribute [local go_sem high] eqA56
/-! ### impl_balances: function 51 -/
def impl_balances.l0 : Nat → ByteArray → List (S46) → ByteArray → List (S56) → Int → Int → Option ((List (S46)))
  | 0, _, _, _, _, _, _ => none
  | k + 1, x1, x5, x6, x16, x17, x18 => if x18 < x17 then (if 0 ≤ x18 then (if x18 < (x16.length : Int) then ((impl_readAmount.f ((rd_T56 x16 x18).f1)).bind fun bt357 => ((strings_TrimPrefix.f ((rd_T56 x16 x18).f0) x6).bind fun t359 => (if x5.length < 3518437208883 then (impl_balances.l0 k x1 (x5 ++ [(⟨t359, x1, bt357.1⟩ : S46)]) x6 x16 x17 (wrap64 (x18 + 1))) else (none)))) else (none)) else (none)) else (some x5)
def impl_balances.f (k : Nat) (l0 : List (S56)) (a1 : ByteArray) : Option ((List (S46))) := (impl_balanceKey.f a1 (⟨#[]⟩ : ByteArray)).bind fun t351 => ((impl_scan.f k l0 t351).bind fun t352 => (impl_balances.l0 k a1 (([] : List (S46))) t351 t352 (t352.length : Int) 0))
set_option maxHeartbeats 8000000 in
set_option maxRecDepth 100000 in
theorem impl_balances.calls (k : Nat) (A0 : Option Addr) (c0 : Nat) (l0 : List (S56)) (a1 : ByteArray) (r : List (S46)) (w : World) (hr0 : Kd.C k56 w A0 l0.length l0) (hc0 : l0.length ≤ c0) (htab : Tb.TB w) (h : impl_balances.f k l0 a1 = some r) :
    Calls Tryz.prog 51 #[.slice A0 l0.length c0, .string a1] w fun e w' => ∃ v0_ : Value, e = .returned (v0_) ∧ Kd.R k46 46 w' w.heap.size (fun _ => True) v0_ r ∧ Below w.heap.size w w' := by
  have HT := Aside0.mk htab
  clear htab
  have hu56 := Tryz.underlying56
  have hu46 := Tryz.underlying46
  have HR0 := Aside0.mk hr0
  have HC0 := Aside0.mk hc0
  clear hr0 hc0
  have HB := Aside0.mk (Below.refl w.heap.size w)
  have H : ((impl_balanceKey.f a1 (⟨#[]⟩ : ByteArray)).bind fun t351 => ((impl_scan.f k l0 t351).bind fun t352 => (impl_balances.l0 k a1 (([] : List (S46))) t351 t352 (t352.length : Int) 0))) = some r := h
  clear h
  obtain ⟨y348, hy348⟩ : ∃ y_ : List (S46), y_ = (([] : List (S46))) := ⟨_, rfl⟩
  replace H : ((impl_balanceKey.f a1 (⟨#[]⟩ : ByteArray)).bind fun t351 => ((impl_scan.f k l0 t351).bind fun t352 => (impl_balances.l0 k a1 y348 t351 t352 (t352.length : Int) 0))) = some r := by first | (rw [hy348]; with_reducible exact H) | (have H2_ := (Option.bind_some _ _).symm.trans H; rw [hy348]; with_reducible exact H2_) | (have H2_ := (Option.bind_some _ _).symm.trans H; with_reducible exact H2_) | with_reducible exact H | (rw [hy348]; exact H) | exact H
  have Ny348 := Aside0.mk hy348
  clear hy348
  replace H := Option.bind_eq_some_iff.mp H
  obtain ⟨t351, A30, H⟩ := H
  replace H : ((impl_scan.f k l0 t351).bind fun t352 => (impl_balances.l0 k a1 y348 t351 t352 (t352.length : Int) 0)) = some r := H
  have A3 := Aside0.mk A30
  clear A30
  replace H := Option.bind_eq_some_iff.mp H
  obtain ⟨t352, A40, H⟩ := H
  replace H : (impl_balances.l0 k a1 y348 t351 t352 (t352.length : Int) 0) = some r := H
  have A4 := Aside0.mk A40
  clear A40
  have H' := Aside0.mk H
  clear H
  go_enter Tryz.func51, Tryz.ntmps51
  go_wp2_with (first | ((with_reducible refine gate_dst (N := 11) rfl ?_); refine Kd.R_lit k46 _ 46 ?hg (N := 11) ?hd (xs := ([] : List (S46))) (inner := []) (ok := fun _ => True) (okp := fun _ => True) ?hr ?hp (fun _ hk => hk) trivial (Below.refl _ _) (Nat.le_refl _) (by simp) ?_; (case hd => rfl); (case hg => rfl); (case hr => first | (go_simp; done) | (go_simp; rfl)); (case hp => exact (Reps.none _ _)); intro v349 w5 ho6 hb hg_ hnew_; clear hg_ hnew_; (first | rw [← Ny348.out] at ho6 | (simp only [Int.reduceToNat] at ho6; rw [← Ny348.out] at ho6)); have n0_ := Aside0.mk (Kd.R_lower ho6 (below_size (by repeat (first | (with_reducible first | exact HB.out | apply below_alloc | apply pw_below_drewN | apply below_drew1) | exact HB.out)))); have n1_ := Aside0.mk (below_step (by repeat (first | (with_reducible first | exact HB.out | apply below_alloc | apply pw_below_drewN | apply below_drew1) | exact HB.out)) hb); clear HB; have HO350 := n0_; have HB := n1_; clear n0_ n1_; clear hb ho6) | ((with_reducible refine gate_callee (f := 53) rfl ?_); refine goesL_ (some 13) rfl rfl Tryz.func53 (by kernel_rfl) rfl #[.string a1, .string (⟨#[]⟩ : ByteArray)] rfl (by (try simp only [List.map_toArray, List.map_cons, List.map_nil]); first | done | rfl | (simp only [List.length_drop, List.length_take]; rfl)) ?_; (with_reducible refine (impl_balanceKey.calls a1 (⟨#[]⟩ : ByteArray) t351 _ A3.out).mono ?_); rintro e w' ⟨rfl, ⟨nd, rfl⟩⟩; refine ⟨_, rfl, ?_⟩) | ((with_reducible refine gate_callee (f := 82) rfl ?_); refine goesL_ (some 16) rfl rfl Tryz.func82 (by kernel_rfl) rfl #[.slice A0 l0.length c0, .string t351] rfl (by (try simp only [List.map_toArray, List.map_cons, List.map_nil]); first | done | rfl | (simp only [List.length_drop, List.length_take]; rfl)) ?_; (with_reducible refine (impl_scan.calls k _ _ l0 t351 t352 _ ?side1 ?side2 A4.out).mono ?_); (case side1 => repeat (first | exact (Kd.C_below HR0.out (by repeat (first | (with_reducible first | exact HB.out | apply below_alloc | apply pw_below_drewN | apply below_drew1) | exact HB.out))) | (with_reducible refine Kd.C_alloc ?_ _) | (with_reducible refine Kd.C_drewN ?_ _) | (with_reducible refine Kd.C_drew ?_))); (case side2 => exact HC0.out); rintro e w7 ⟨v353, rfl, ho0, hb⟩; refine ⟨_, rfl, ?_⟩; have n0_ := Aside0.mk (Kd.R_below (by (with_reducible repeat (first | apply Kd.R_alloc | apply Kd.R_drewN | apply Kd.R_drew)); exact HO350.out) hb); have n1_ := Aside0.mk (Kd.R_lower ho0 (below_size (by repeat (first | (with_reducible first | exact HB.out | apply below_alloc | apply pw_below_drewN | apply below_drew1) | exact HB.out)))); have n2_ := Aside0.mk (below_step (by repeat (first | (with_reducible first | exact HB.out | apply below_alloc | apply pw_below_drewN | apply below_drew1) | exact HB.out)) hb); clear HO350; clear HB; have HO350 := n0_; have HO354 := n1_; have HB := n2_; clear n0_ n1_ n2_; (try clear hb); (try clear hb2); (try clear hk); (try clear hi); (try clear ho0); obtain ⟨Ao8, co8, eo8⟩ := Kd.R_slice HO354.out; subst eo8))
  go_loopg [5, 18] k (fun kq v5 v18 w' => ∃ (x5_1 : List (S46)) (x18_1 : Int), v18 = .int .i64 x18_1 ∧ Aside0 (impl_balances.l0 kq a1 x5_1 t351 t352 (t352.length : Int) x18_1 = some r) ∧ Aside0 (kq ≤ k) ∧ Aside0 (Kd.R k46 46 w' w.heap.size (fun _ => True) v5 x5_1) ∧ Aside0 (Kd.R k56 56 w' w.heap.size (fun _ => True) (.slice Ao8 t352.length co8) t352) ∧ Aside0 (Below w.heap.size w w'))
  case atStart => exact ⟨(y348), (0), (by first | rfl | (simp; done) | (simp [*]; done)), H', ⟨Nat.le_refl _⟩, ⟨by (with_reducible repeat (first | apply Kd.R_alloc | apply Kd.R_drewN | apply Kd.R_drew)); exact HO350.out⟩, ⟨by (with_reducible repeat (first | apply Kd.R_alloc | apply Kd.R_drewN | apply Kd.R_drew)); exact HO354.out⟩, ⟨by repeat (first | (with_reducible first | exact HB.out | apply below_alloc | apply pw_below_drewN | apply below_drew1) | exact HB.out)⟩⟩
  case round =>
    clear H'
    try clear p2
    try clear c5
    try clear c8
    obtain ⟨x5_1, x18_1, rfl, HA, HK1, HO_5, HO_16, HB⟩ := hrel
    cases gk with
    | zero => exact absurd HA.out (by simp [impl_balances.l0])
    | succ k1 =>
      have H := HA.out
      clear HA
      simp only [impl_balances.l0] at H
      by_cases c9 : x18_1 < (t352.length : Int)
      · rw [if_pos c9] at H
        have c9b0 : decide (x18_1 < (t352.length : Int)) = true := decide_eq_true c9
        clear c9
        by_cases c10 : 0 ≤ x18_1
        · rw [if_pos c10] at H
          have c10b0 : decide (0 ≤ x18_1) = true := decide_eq_true c10
          clear c10
          by_cases c11 : x18_1 < (t352.length : Int)
          · rw [if_pos c11] at H
            have c11b0 : decide (x18_1 < (t352.length : Int)) = true := decide_eq_true c11
            clear c11
            replace H := Option.bind_eq_some_iff.mp H
            obtain ⟨⟨t357, t358⟩, A120, H⟩ := H
            replace H : ((strings_TrimPrefix.f ((rd_T56 t352 x18_1).f0) t351).bind fun t359 => (if x5_1.length < 3518437208883 then (impl_balances.l0 k1 a1 (x5_1 ++ [(⟨t359, a1, t357⟩ : S46)]) t351 t352 (t352.length : Int) (wrap64 (x18_1 + 1))) else (none))) = some r := H
            have A12 := Aside0.mk A120
            clear A120
            replace H := Option.bind_eq_some_iff.mp H
            obtain ⟨t359, A130, H⟩ := H
            replace H : (if x5_1.length < 3518437208883 then (impl_balances.l0 k1 a1 (x5_1 ++ [(⟨t359, a1, t357⟩ : S46)]) t351 t352 (t352.length : Int) (wrap64 (x18_1 + 1))) else (none)) = some r := H
            have A13 := Aside0.mk A130
            clear A130
            by_cases c14 : x5_1.length < 3518437208883
            · rw [if_pos c14] at H
              have LMc14 := Aside0.mk c14
              clear c14
              obtain ⟨y360, hy360⟩ : ∃ y_ : List (S46), y_ = (x5_1 ++ [(⟨t359, a1, t357⟩ : S46)]) := ⟨_, rfl⟩
              replace H : (impl_balances.l0 k1 a1 y360 t351 t352 (t352.length : Int) (wrap64 (x18_1 + 1))) = some r := by first | (rw [hy360]; with_reducible exact H) | (have H2_ := (Option.bind_some _ _).symm.trans H; rw [hy360]; with_reducible exact H2_) | (have H2_ := (Option.bind_some _ _).symm.trans H; with_reducible exact H2_) | with_reducible exact H | (rw [hy360]; exact H) | exact H
              have Ny360 := Aside0.mk hy360
              clear hy360
              have H' := Aside0.mk H
              clear H
              have p355 : 0 ≤ (x18_1 : Int) := of_decide_eq_true (by first | (with_reducible assumption) | assumption)
              have q355 : x18_1 < (t352.length : Int) := of_decide_eq_true (by first | (with_reducible assumption) | assumption)
              obtain ⟨ad355, e355, hx355_0, hx355_1⟩ := at_T56 (Kd.R_reads' HO_16.out).2.2 x18_1 p355 q355
              cases e355
              replace p355 := eq_true p355
              replace q355 := eq_true q355
              go_wp2_with (first | ((with_reducible refine gate_dst (N := 8) rfl ?_); refine box_event ?hg (N := 8) ?hd (cs := #[.string (⟨#[]⟩ : ByteArray), .string (⟨#[]⟩ : ByteArray)]) (t := 56) ?hr ?_; (case hd => rfl); (case hg => rfl); (case hr => first | (go_simp; done) | (go_simp; rfl)); intro gb356 hg w15 hbox hb; have n0_ := Aside0.mk (Kd.R_below (by (with_reducible repeat (first | apply Kd.R_alloc | apply Kd.R_drewN | apply Kd.R_drew)); exact HO_5.out) hb); have n1_ := Aside0.mk (Kd.R_below (Kd.R_elderB (by (with_reducible repeat (first | apply Kd.R_alloc | apply Kd.R_drewN | apply Kd.R_drew)); exact HO_16.out) gb356 (Nat.le_of_eq hg.symm)) hb); have n2_ := Aside0.mk (below_step (by repeat (first | (with_reducible first | exact HB.out | apply below_alloc | apply pw_below_drewN | apply below_drew1) | exact HB.out)) hb); have n3_ := Aside0.mk (hbox); have n4_ := Aside0.mk ((by rw [hg]; exact (below_size (by repeat (first | (with_reducible first | exact HB.out | apply below_alloc | apply pw_below_drewN | apply below_drew1) | exact HB.out))) : w.heap.size ≤ gb356)); have n5_ := Aside0.mk ((by rw [hg]; exact (below_size (by repeat (first | (with_reducible first | exact HB.out | apply below_alloc | apply pw_below_drewN | apply below_drew1) | exact HB.out))) : w.heap.size ≤ gb356)); clear HO_5; clear HO_16; clear HB; have HO_5 := n0_; have HO_16 := n1_; have HB := n2_; have BK356 := n3_; have GW356 := n4_; have GE356 := n5_; clear n0_ n1_ n2_ n3_ n4_ n5_; clear hb hbox hg; have hcz16_0 : w15.cell? ⟨gb356, 0, none⟩ = some (.string (⟨#[]⟩ : ByteArray)) := (blk_cell BK356.out 0).trans rfl; have hcz16_1 : w15.cell? ⟨gb356, 1, none⟩ = some (.string (⟨#[]⟩ : ByteArray)) := (blk_cell BK356.out 1).trans rfl; have hfz16_0 := blk_frozen BK356.out 0; have hfz16_1 := blk_frozen BK356.out 1) | ((with_reducible refine gate_callee (f := 81) rfl ?_); refine goesL_ (some 25) rfl rfl Tryz.func81 (by kernel_rfl) rfl #[.string ((rd_T56 t352 x18_1).f1)] rfl (by (try simp only [List.map_toArray, List.map_cons, List.map_nil]); first | done | rfl | (simp only [List.length_drop, List.length_take]; rfl)) ?_; (with_reducible refine (impl_readAmount.calls ((rd_T56 t352 x18_1).f1) t357 t358 _ ?tb1 A12.out).mono ?_); (case tb1 => exact Tb.TB.below HT.out (by repeat (first | (with_reducible first | exact HB.out | apply below_alloc | apply pw_below_drewN | apply below_drew1 | refine below_set ?_ GE356.out | refine below_set ?_ GE383.out) | exact HB.out)) (Nat.le_refl _)); rintro e w17 ⟨rfl, hb⟩; refine ⟨_, rfl, ?_⟩; have n0_ := Aside0.mk (Kd.R_below (by (with_reducible repeat (first | apply Kd.R_alloc | apply Kd.R_drewN | apply Kd.R_drew)); exact (Kd.R_mono (Kd.R_far (p := ⟨gb356, 1, none⟩) (Kd.R_far (p := ⟨gb356, 0, none⟩) (Kd.R_types HO_5.out BK356.out (by decide)) (fun _ hk => hk.2) (.string ((rd_T56 t352 x18_1).f0))) (fun _ hk => hk.2) (.string ((rd_T56 t352 x18_1).f1))) (fun _ h_ => h_.1))) hb); have n1_ := Aside0.mk (Kd.R_below (by (with_reducible repeat (first | apply Kd.R_alloc | apply Kd.R_drewN | apply Kd.R_drew)); exact (Kd.R_mono (Kd.R_far (p := ⟨gb356, 1, none⟩) (Kd.R_far (p := ⟨gb356, 0, none⟩) (Kd.R_mono HO_16.out (fun k_ hk => (⟨hk, hk.2⟩ : _ ∧ k_ ≠ gb356))) (fun _ hk => hk.2) (.string ((rd_T56 t352 x18_1).f0))) (fun _ hk => hk.2) (.string ((rd_T56 t352 x18_1).f1))) (fun _ h_ => h_.1))) hb); have n2_ := Aside0.mk (blk_below (g := gb356) (o := .cells #[.string ((rd_T56 t352 x18_1).f0), .string ((rd_T56 t352 x18_1).f1)] 56 (0, 0)) (by (with_reducible repeat (first | refine blk_drewN ?_ _ | refine blk_drew ?_ | refine blk_alloc ?_ _)); refine blk_put (cs := #[.string ((rd_T56 t352 x18_1).f0), .string (⟨#[]⟩ : ByteArray)]) ?_ 1 _ rfl; (with_reducible repeat (first | refine blk_drewN ?_ _ | refine blk_drew ?_ | refine blk_alloc ?_ _)); refine blk_put (cs := #[.string (⟨#[]⟩ : ByteArray), .string (⟨#[]⟩ : ByteArray)]) ?_ 0 _ rfl; (with_reducible repeat (first | refine blk_drewN ?_ _ | refine blk_drew ?_ | refine blk_alloc ?_ _)); exact BK356.out) hb); have n3_ := Aside0.mk (below_step (by repeat (first | (with_reducible first | exact HB.out | apply below_alloc | apply pw_below_drewN | apply below_drew1 | refine below_set ?_ GE356.out) | exact HB.out)) hb); clear HO_5; clear HO_16; clear BK356; clear HB; have HO_5 := n0_; have HO_16 := n1_; have BK356 := n2_; have HB := n3_; clear n0_ n1_ n2_ n3_; (try clear hb); (try clear hb2); (try clear hk); (try clear hi); have hcz18_0 : w17.cell? ⟨gb356, 0, none⟩ = some (.string ((rd_T56 t352 x18_1).f0)) := (blk_cell BK356.out 0).trans rfl; have hcz18_1 : w17.cell? ⟨gb356, 1, none⟩ = some (.string ((rd_T56 t352 x18_1).f1)) := (blk_cell BK356.out 1).trans rfl; have hfz18_0 := blk_frozen BK356.out 0; have hfz18_1 := blk_frozen BK356.out 1) | ((with_reducible refine gate_callee (f := 83) rfl ?_); refine goesL_ (some 32) rfl rfl Tryz.func83 (by kernel_rfl) rfl #[.string ((rd_T56 t352 x18_1).f0), .string t351] rfl (by (try simp only [List.map_toArray, List.map_cons, List.map_nil]); first | done | rfl | (simp only [List.length_drop, List.length_take]; rfl)) ?_; (with_reducible refine (strings_TrimPrefix.calls ((rd_T56 t352 x18_1).f0) t351 t359 _ A13.out).mono ?_); rintro e w' ⟨rfl, ⟨nd, rfl⟩⟩; refine ⟨_, rfl, ?_⟩) | ((with_reducible refine gate_builtin (b := .append) (xs := #[.tmp 28, .tmp 36]) rfl ?_); at_builtin; refine Kd.R_append k46 (w0 := w) w.heap.size rfl (.tmp 28) (.tmp 36) 41 46 (.agg #[(.string ⟨#[]⟩), (.string ⟨#[]⟩), (.int .i64 0)]) 40 rfl Tryz.underlying41 info46 rfl (by decide) (by omega) u5 x5_1 (⟨t359, a1, t357⟩ : S46) [.string t359, .string a1, .int .i64 t357] (fun _ => True) (fun _ => False) rfl rfl ?aP (fun _ hk => hk.elim) ?aF ?aO ?aB ?aS ?aL ?_; (case aP => exact k46_mkM _ _ _ (⟨t359, a1, t357⟩ : S46)); (case aB => exact (by repeat (first | (with_reducible first | exact HB.out | apply below_alloc | apply pw_below_drewN | apply below_drew1 | refine below_set ?_ GE356.out) | exact HB.out))); (case aF => exact (fun _ _ => trivial)); (case aO => exact (by (with_reducible repeat (first | apply Kd.R_alloc | apply Kd.R_drewN | apply Kd.R_drew)); exact HO_5.out)); (case aS => exact (below_size (by repeat (first | (with_reducible first | exact HB.out | apply below_alloc | apply pw_below_drewN | apply below_drew1 | refine below_set ?_ GE356.out) | exact HB.out)))); (case aL => have := LMc14.out; omega); intro v361 w19 ho hb hg hat; rw [← Ny360.out] at ho; have n0_ := Aside0.mk (Kd.R_over' (by (with_reducible repeat (first | apply Kd.R_alloc | apply Kd.R_drewN | apply Kd.R_drew)); exact HO_16.out) (Kd.R_typed (by (with_reducible repeat (first | apply Kd.R_alloc | apply Kd.R_drewN | apply Kd.R_drew)); exact HO_5.out)) (by decide) hg); have n1_ := Aside0.mk (blk_grown (g := gb356) (o := .cells #[.string ((rd_T56 t352 x18_1).f0), .string ((rd_T56 t352 x18_1).f1)] 56 (0, 0)) (by (with_reducible repeat (first | refine blk_drewN ?_ _ | refine blk_drew ?_ | refine blk_alloc ?_ _)); exact BK356.out) hg (Kd.R_ne HO_5.out BK356.out (by decide))); have n2_ := Aside0.mk (hb); have n3_ := Aside0.mk (ho); clear HO_16; clear BK356; clear HB; clear HO_5; have HO_16 := n0_; have BK356 := n1_; have HB := n2_; have HO362 := n3_; clear n0_ n1_ n2_ n3_; clear ho hb hg hat))
              go_roundg k1
              case measure => have := HK1.out; omega
              case rel => exact ⟨(y360), (wrap64 (x18_1 + 1)), (by first | rfl | (simp; done) | (simp [*]; done)), H', ⟨by have := HK1.out; omega⟩, ⟨by (with_reducible repeat (first | apply Kd.R_alloc | apply Kd.R_drewN | apply Kd.R_drew)); exact HO362.out⟩, ⟨by (with_reducible repeat (first | apply Kd.R_alloc | apply Kd.R_drewN | apply Kd.R_drew)); exact Kd.R_mono HO_16.out (fun _ hk => trivial)⟩, ⟨by repeat (first | (with_reducible first | exact HB.out | apply below_alloc | apply pw_below_drewN | apply below_drew1 | refine below_set ?_ GE356.out) | exact HB.out)⟩⟩
            · rw [if_neg c14] at H
              exact absurd H (by simp)
          · rw [if_neg c11] at H
            exact absurd H (by simp)
        · rw [if_neg c10] at H
          exact absurd H (by simp)
      · rw [if_neg c9] at H
        have c9b0 : decide (x18_1 < (t352.length : Int)) = false := decide_eq_false c9
        clear c9
        obtain rfl := Option.some.inj H
        go_wp2
        go_ret
        exact ⟨_, by first | rfl | (simp [errW_none, errW_some] <;> rfl) | (simp [*, errW_none, errW_some] <;> rfl), by (with_reducible repeat (first | apply Kd.R_alloc | apply Kd.R_drewN | apply Kd.R_drew)); exact HO_5.out, by repeat (first | (with_reducible first | exact HB.out | apply below_alloc | apply pw_below_drewN | apply below_drew1) | exact HB.out)⟩

/-! ### impl_Balances: function 25 -/
def impl_Balances.f (k : Nat) (l0 : List (S56)) (a1 : ByteArray) : Option ((List (S46)) × Int) := (impl_storeCode.f k l0 (([a1] : List ByteArray))).bind fun t366 => (if t366 = 0 then ((impl_DenomOK.f k a1).bind fun t367 => (if t367 = true then ((impl_balances.f k l0 a1).bind fun t368 => (some (t368, 0))) else (some (([] : List (S46)), 4)))) else (some (([] : List (S46)), t366)))
set_option maxHeartbeats 8000000 in
set_option maxRecDepth 100000 in
theorem impl_Balances.calls (k : Nat) (A0 : Option Addr) (c0 : Nat) (l0 : List (S56)) (a1 : ByteArray) (r1 : List (S46)) (r2 : Int) (w : World) (hr0 : Kd.C k56 w A0 l0.length l0) (hc0 : l0.length ≤ c0) (htab : Tb.TB w) (h : impl_Balances.f k l0 a1 = some (r1, r2)) :
    Calls Tryz.prog 25 #[.slice A0 l0.length c0, .string a1] w fun e w' => ∃ v0_ : Value, e = .returned (.tuple #[v0_, .int .i64 r2]) ∧ Kd.R k46 46 w' w.heap.size (fun _ => True) v0_ r1 ∧ Below w.heap.size w w' := by
  have HT := Aside0.mk htab
  clear htab
  have HR0 := Aside0.mk hr0
  have HC0 := Aside0.mk hc0
  clear hr0 hc0
  have HB := Aside0.mk (Below.refl w.heap.size w)
  have H : ((impl_storeCode.f k l0 (([a1] : List ByteArray))).bind fun t366 => (if t366 = 0 then ((impl_DenomOK.f k a1).bind fun t367 => (if t367 = true then ((impl_balances.f k l0 a1).bind fun t368 => (some (t368, 0))) else (some (([] : List (S46)), 4)))) else (some (([] : List (S46)), t366)))) = some (r1, r2) := h
  clear h
  obtain ⟨y363, hy363⟩ : ∃ y_ : List ByteArray, y_ = (([a1] : List ByteArray)) := ⟨_, rfl⟩
  replace H : ((impl_storeCode.f k l0 y363).bind fun t366 => (if t366 = 0 then ((impl_DenomOK.f k a1).bind fun t367 => (if t367 = true then ((impl_balances.f k l0 a1).bind fun t368 => (some (t368, 0))) else (some (([] : List (S46)), 4)))) else (some (([] : List (S46)), t366)))) = some (r1, r2) := by first | (rw [hy363]; with_reducible exact H) | (have H2_ := (Option.bind_some _ _).symm.trans H; rw [hy363]; with_reducible exact H2_) | (have H2_ := (Option.bind_some _ _).symm.trans H; with_reducible exact H2_) | with_reducible exact H | (rw [hy363]; exact H) | exact H
  have Ny363 := Aside0.mk hy363
  clear hy363
  replace H := Option.bind_eq_some_iff.mp H
  obtain ⟨t366, A30, H⟩ := H
  replace H : (if t366 = 0 then ((impl_DenomOK.f k a1).bind fun t367 => (if t367 = true then ((impl_balances.f k l0 a1).bind fun t368 => (some (t368, 0))) else (some (([] : List (S46)), 4)))) else (some (([] : List (S46)), t366))) = some (r1, r2) := H
  have A3 := Aside0.mk A30
  clear A30
  by_cases c4 : t366 = 0
  · rw [if_pos c4] at H
    have c4b0 : (t366 == 0) = true := beq_iff_eq.mpr c4
    have c4b1 : (t366 != 0) = false := bne_eq_false_iff_eq.mpr c4
    clear c4
    replace H := Option.bind_eq_some_iff.mp H
    obtain ⟨t367, A50, H⟩ := H
    replace H : (if t367 = true then ((impl_balances.f k l0 a1).bind fun t368 => (some (t368, 0))) else (some (([] : List (S46)), 4))) = some (r1, r2) := H
    have A5 := Aside0.mk A50
    clear A50
    by_cases c6 : t367 = true
    · subst c6
      have H1 : ((impl_balances.f k l0 a1).bind fun t368 => (some (t368, 0))) = some (r1, r2) := by rw [if_pos rfl] at H; exact H
      clear H
      have H := H1
      clear H1
      replace H := Option.bind_eq_some_iff.mp H
      obtain ⟨t368, A70, H⟩ := H
      replace H : (some (t368, 0)) = some (r1, r2) := H
      have A7 := Aside0.mk A70
      clear A70
      simp only [Option.some.injEq, Prod.mk.injEq] at H
      obtain ⟨rfl, rfl⟩ := H
      go_enter Tryz.func25, Tryz.ntmps25
      go_wp2_with (first | ((with_reducible refine gate_dst (N := 9) rfl ?_); refine Kd.R_lit Kd.string _ 9 ?hg (N := 9) ?hd (xs := ([a1] : List ByteArray)) (inner := [.string a1]) (ok := fun _ => True) (okp := fun _ => True) ?hr ?hp (fun _ hk => hk) trivial (Below.refl _ _) (Nat.le_refl _) (by simp) ?_; (case hd => rfl); (case hg => rfl); (case hr => first | (go_simp; done) | (go_simp; rfl)); (case hp => exact (Reps.one (show Kd.M Kd.string _ _ _ a1 [.string a1] from rfl) (Reps.none _ _))); intro v364 w8 ho9 hb hg_ hnew_; clear hg_ hnew_; (first | rw [← Ny363.out] at ho9 | (simp only [Int.reduceToNat] at ho9; rw [← Ny363.out] at ho9)); have n0_ := Aside0.mk (Kd.R_lower ho9 (below_size (by repeat (first | (with_reducible first | exact HB.out | apply below_alloc | apply pw_below_drewN | apply below_drew1) | exact HB.out)))); have n1_ := Aside0.mk (below_step (by repeat (first | (with_reducible first | exact HB.out | apply below_alloc | apply pw_below_drewN | apply below_drew1) | exact HB.out)) hb); clear HB; have HO365 := n0_; have HB := n1_; clear n0_ n1_; clear hb ho9; obtain ⟨Ao10, co10, eo10⟩ := Kd.R_slice HO365.out; subst eo10) | ((with_reducible refine gate_callee (f := 48) rfl ?_); refine goesL_ (some 10) rfl rfl Tryz.func48 (by kernel_rfl) rfl #[.slice A0 l0.length c0, .slice Ao10 y363.length co10] rfl (by (try simp only [List.map_toArray, List.map_cons, List.map_nil]); first | done | rfl | (simp only [List.length_drop, List.length_take]; rfl)) ?_; (with_reducible refine (impl_storeCode.calls k _ _ l0 _ _ y363 t366 _ ?side1 ?side2 ?side3 ?side4 A3.out).mono ?_); (case side1 => repeat (first | exact (Kd.C_below HR0.out HB.out) | (with_reducible refine Kd.C_alloc ?_ _) | (with_reducible refine Kd.C_drewN ?_ _) | (with_reducible refine Kd.C_drew ?_))); (case side2 => exact HC0.out); (case side3 => repeat (first | exact (Kd.R_reads' HO365.out).2.2 | (with_reducible refine Kd.C_alloc ?_ _) | (with_reducible refine Kd.C_drewN ?_ _) | (with_reducible refine Kd.C_drew ?_))); (case side4 => exact (Kd.R_reads' HO365.out).2.1); rintro e w11 ⟨rfl, hb⟩; refine ⟨_, rfl, ?_⟩; have n0_ := Aside0.mk (Kd.R_below (by (with_reducible repeat (first | apply Kd.R_alloc | apply Kd.R_drewN | apply Kd.R_drew)); exact HO365.out) hb); have n1_ := Aside0.mk (below_step (by repeat (first | (with_reducible first | exact HB.out | apply below_alloc | apply pw_below_drewN | apply below_drew1) | exact HB.out)) hb); clear HO365; clear HB; have HO365 := n0_; have HB := n1_; clear n0_ n1_; (try clear hb); (try clear hb2); (try clear hk); (try clear hi)) | ((with_reducible refine gate_callee (f := 28) rfl ?_); refine goesL_ (some 15) rfl rfl Tryz.func28 (by kernel_rfl) rfl #[.string a1] rfl (by (try simp only [List.map_toArray, List.map_cons, List.map_nil]); first | done | rfl | (simp only [List.length_drop, List.length_take]; rfl)) ?_; (with_reducible refine (impl_DenomOK.calls k a1 true _ A5.out).mono ?_); rintro e w' ⟨rfl, ⟨nd, rfl⟩⟩; refine ⟨_, rfl, ?_⟩) | ((with_reducible refine gate_callee (f := 51) rfl ?_); refine goesL_ (some 19) rfl rfl Tryz.func51 (by kernel_rfl) rfl #[.slice A0 l0.length c0, .string a1] rfl (by (try simp only [List.map_toArray, List.map_cons, List.map_nil]); first | done | rfl | (simp only [List.length_drop, List.length_take]; rfl)) ?_; (with_reducible refine (impl_balances.calls k _ _ l0 a1 t368 _ ?side1 ?side2 ?tb1 A7.out).mono ?_); (case tb1 => exact Tb.TB.below HT.out (by repeat (first | (with_reducible first | exact HB.out | apply below_alloc | apply pw_below_drewN | apply below_drew1 | refine below_set ?_ GE356.out | refine below_set ?_ GE383.out) | exact HB.out)) (Nat.le_refl _)); (case side1 => repeat (first | exact (Kd.C_below HR0.out (by repeat (first | (with_reducible first | exact HB.out | apply below_alloc | apply pw_below_drewN | apply below_drew1) | exact HB.out))) | (with_reducible refine Kd.C_alloc ?_ _) | (with_reducible refine Kd.C_drewN ?_ _) | (with_reducible refine Kd.C_drew ?_))); (case side2 => exact HC0.out); rintro e w12 ⟨v369, rfl, ho0, hb⟩; refine ⟨_, rfl, ?_⟩; have n0_ := Aside0.mk (Kd.R_below (by (with_reducible repeat (first | apply Kd.R_alloc | apply Kd.R_drewN | apply Kd.R_drew)); exact HO365.out) hb); have n1_ := Aside0.mk (Kd.R_lower ho0 (below_size (by repeat (first | (with_reducible first | exact HB.out | apply below_alloc | apply pw_below_drewN | apply below_drew1) | exact HB.out)))); have n2_ := Aside0.mk (below_step (by repeat (first | (with_reducible first | exact HB.out | apply below_alloc | apply pw_below_drewN | apply below_drew1) | exact HB.out)) hb); clear HO365; clear HB; have HO365 := n0_; have HO370 := n1_; have HB := n2_; clear n0_ n1_ n2_; (try clear hb); (try clear hb2); (try clear hk); (try clear hi); (try clear ho0)))
      go_ret2
      exact ⟨_, by first | rfl | (simp [errW_none, errW_some] <;> rfl) | (simp [*, errW_none, errW_some] <;> rfl), by (with_reducible repeat (first | apply Kd.R_alloc | apply Kd.R_drewN | apply Kd.R_drew)); exact HO370.out, by repeat (first | (with_reducible first | exact HB.out | apply below_alloc | apply pw_below_drewN | apply below_drew1) | exact HB.out)⟩
    · replace c6 := Bool.eq_false_iff.mpr c6
      subst c6
      have H1 : (some (([] : List (S46)), 4)) = some (r1, r2) := by rw [if_neg (show ¬ (false = true) by decide)] at H; exact H
      clear H
      have H := H1
      clear H1
      simp only [Option.some.injEq, Prod.mk.injEq] at H
      obtain ⟨rfl, rfl⟩ := H
      go_enter Tryz.func25, Tryz.ntmps25
      go_wp2_with (first | ((with_reducible refine gate_dst (N := 9) rfl ?_); refine Kd.R_lit Kd.string _ 9 ?hg (N := 9) ?hd (xs := ([a1] : List ByteArray)) (inner := [.string a1]) (ok := fun _ => True) (okp := fun _ => True) ?hr ?hp (fun _ hk => hk) trivial (Below.refl _ _) (Nat.le_refl _) (by simp) ?_; (case hd => rfl); (case hg => rfl); (case hr => first | (go_simp; done) | (go_simp; rfl)); (case hp => exact (Reps.one (show Kd.M Kd.string _ _ _ a1 [.string a1] from rfl) (Reps.none _ _))); intro v364 w13 ho14 hb hg_ hnew_; clear hg_ hnew_; (first | rw [← Ny363.out] at ho14 | (simp only [Int.reduceToNat] at ho14; rw [← Ny363.out] at ho14)); have n0_ := Aside0.mk (Kd.R_lower ho14 (below_size (by repeat (first | (with_reducible first | exact HB.out | apply below_alloc | apply pw_below_drewN | apply below_drew1) | exact HB.out)))); have n1_ := Aside0.mk (below_step (by repeat (first | (with_reducible first | exact HB.out | apply below_alloc | apply pw_below_drewN | apply below_drew1) | exact HB.out)) hb); clear HB; have HO365 := n0_; have HB := n1_; clear n0_ n1_; clear hb ho14; obtain ⟨Ao15, co15, eo15⟩ := Kd.R_slice HO365.out; subst eo15) | ((with_reducible refine gate_callee (f := 48) rfl ?_); refine goesL_ (some 10) rfl rfl Tryz.func48 (by kernel_rfl) rfl #[.slice A0 l0.length c0, .slice Ao15 y363.length co15] rfl (by (try simp only [List.map_toArray, List.map_cons, List.map_nil]); first | done | rfl | (simp only [List.length_drop, List.length_take]; rfl)) ?_; (with_reducible refine (impl_storeCode.calls k _ _ l0 _ _ y363 t366 _ ?side1 ?side2 ?side3 ?side4 A3.out).mono ?_); (case side1 => repeat (first | exact (Kd.C_below HR0.out HB.out) | (with_reducible refine Kd.C_alloc ?_ _) | (with_reducible refine Kd.C_drewN ?_ _) | (with_reducible refine Kd.C_drew ?_))); (case side2 => exact HC0.out); (case side3 => repeat (first | exact (Kd.R_reads' HO365.out).2.2 | (with_reducible refine Kd.C_alloc ?_ _) | (with_reducible refine Kd.C_drewN ?_ _) | (with_reducible refine Kd.C_drew ?_))); (case side4 => exact (Kd.R_reads' HO365.out).2.1); rintro e w16 ⟨rfl, hb⟩; refine ⟨_, rfl, ?_⟩; have n0_ := Aside0.mk (Kd.R_below (by (with_reducible repeat (first | apply Kd.R_alloc | apply Kd.R_drewN | apply Kd.R_drew)); exact HO365.out) hb); have n1_ := Aside0.mk (below_step (by repeat (first | (with_reducible first | exact HB.out | apply below_alloc | apply pw_below_drewN | apply below_drew1) | exact HB.out)) hb); clear HO365; clear HB; have HO365 := n0_; have HB := n1_; clear n0_ n1_; (try clear hb); (try clear hb2); (try clear hk); (try clear hi)) | ((with_reducible refine gate_callee (f := 28) rfl ?_); refine goesL_ (some 15) rfl rfl Tryz.func28 (by kernel_rfl) rfl #[.string a1] rfl (by (try simp only [List.map_toArray, List.map_cons, List.map_nil]); first | done | rfl | (simp only [List.length_drop, List.length_take]; rfl)) ?_; (with_reducible refine (impl_DenomOK.calls k a1 false _ A5.out).mono ?_); rintro e w' ⟨rfl, ⟨nd, rfl⟩⟩; refine ⟨_, rfl, ?_⟩))
      go_ret2
      exact ⟨_, by first | rfl | (simp [errW_none, errW_some] <;> rfl) | (simp [*, errW_none, errW_some] <;> rfl), by first | exact Kd.R_nil _ _ _ _ _ | exact Kd.N_nil _ _ _ _ _ | exact Kd.V_nil _ _ _ _ _ | exact Kd.Q_nil _ _ _ _ _ | exact Kd.S_nil _ _ _ _ _, by repeat (first | (with_reducible first | exact HB.out | apply below_alloc | apply pw_below_drewN | apply below_drew1) | exact HB.out)⟩
  · rw [if_neg c4] at H
    have c4b0 : (t366 == 0) = false := beq_eq_false_iff_ne.mpr c4
    have c4b1 : (t366 != 0) = true := bne_iff_ne.mpr c4
    simp only [Option.some.injEq, Prod.mk.injEq] at H
    obtain ⟨rfl, rfl⟩ := H
    go_enter Tryz.func25, Tryz.ntmps25
    go_wp2_with (first | ((with_reducible refine gate_dst (N := 9) rfl ?_); refine Kd.R_lit Kd.string _ 9 ?hg (N := 9) ?hd (xs := ([a1] : List ByteArray)) (inner := [.string a1]) (ok := fun _ => True) (okp := fun _ => True) ?hr ?hp (fun _ hk => hk) trivial (Below.refl _ _) (Nat.le_refl _) (by simp) ?_; (case hd => rfl); (case hg => rfl); (case hr => first | (go_simp; done) | (go_simp; rfl)); (case hp => exact (Reps.one (show Kd.M Kd.string _ _ _ a1 [.string a1] from rfl) (Reps.none _ _))); intro v364 w17 ho18 hb hg_ hnew_; clear hg_ hnew_; (first | rw [← Ny363.out] at ho18 | (simp only [Int.reduceToNat] at ho18; rw [← Ny363.out] at ho18)); have n0_ := Aside0.mk (Kd.R_lower ho18 (below_size (by repeat (first | (with_reducible first | exact HB.out | apply below_alloc | apply pw_below_drewN | apply below_drew1) | exact HB.out)))); have n1_ := Aside0.mk (below_step (by repeat (first | (with_reducible first | exact HB.out | apply below_alloc | apply pw_below_drewN | apply below_drew1) | exact HB.out)) hb); clear HB; have HO365 := n0_; have HB := n1_; clear n0_ n1_; clear hb ho18; obtain ⟨Ao19, co19, eo19⟩ := Kd.R_slice HO365.out; subst eo19) | ((with_reducible refine gate_callee (f := 48) rfl ?_); refine goesL_ (some 10) rfl rfl Tryz.func48 (by kernel_rfl) rfl #[.slice A0 l0.length c0, .slice Ao19 y363.length co19] rfl (by (try simp only [List.map_toArray, List.map_cons, List.map_nil]); first | done | rfl | (simp only [List.length_drop, List.length_take]; rfl)) ?_; (with_reducible refine (impl_storeCode.calls k _ _ l0 _ _ y363 t366 _ ?side1 ?side2 ?side3 ?side4 A3.out).mono ?_); (case side1 => repeat (first | exact (Kd.C_below HR0.out HB.out) | (with_reducible refine Kd.C_alloc ?_ _) | (with_reducible refine Kd.C_drewN ?_ _) | (with_reducible refine Kd.C_drew ?_))); (case side2 => exact HC0.out); (case side3 => repeat (first | exact (Kd.R_reads' HO365.out).2.2 | (with_reducible refine Kd.C_alloc ?_ _) | (with_reducible refine Kd.C_drewN ?_ _) | (with_reducible refine Kd.C_drew ?_))); (case side4 => exact (Kd.R_reads' HO365.out).2.1); rintro e w20 ⟨rfl, hb⟩; refine ⟨_, rfl, ?_⟩; have n0_ := Aside0.mk (Kd.R_below (by (with_reducible repeat (first | apply Kd.R_alloc | apply Kd.R_drewN | apply Kd.R_drew)); exact HO365.out) hb); have n1_ := Aside0.mk (below_step (by repeat (first | (with_reducible first | exact HB.out | apply below_alloc | apply pw_below_drewN | apply below_drew1) | exact HB.out)) hb); clear HO365; clear HB; have HO365 := n0_; have HB := n1_; clear n0_ n1_; (try clear hb); (try clear hb2); (try clear hk); (try clear hi)))
    go_ret2
    exact ⟨_, by first | rfl | (simp [errW_none, errW_some] <;> rfl) | (simp [*, errW_none, errW_some] <;> rfl), by first | exact Kd.R_nil _ _ _ _ _ | exact Kd.N_nil _ _ _ _ _ | exact Kd.V_nil _ _ _ _ _ | exact Kd.Q_nil _ _ _ _ _ | exact Kd.S_nil _ _ _ _ _, by repeat (first | (with_reducible first | exact HB.out | apply below_alloc | apply pw_below_drewN | apply below_drew1) | exact HB.out)⟩

/-! ### laws_at: function 21 -/
def laws_at.f (l0 : List Int) (a1 : Int) (a2 : Int) : Option (Int) := if a2 ≤ 1 then (some 0) else (if (l0.length : Int) = 0 then (if a2 = 0 then (none) else (some (Int.tmod (wrap64 (a1 * 7)) a2))) else (if 0 ≤ (Int.tmod a1 (l0.length : Int)) then (if (Int.tmod a1 (l0.length : Int)) < (l0.length : Int) then (if 0 ≤ (Int.tmod (wrap64 (a1 + 1)) (l0.length : Int)) then (if (Int.tmod (wrap64 (a1 + 1)) (l0.length : Int)) < (l0.length : Int) then (if a2 = 0 then (none) else (some (Int.tmod (wrap64 ((wrap64 ((wrap64 ((wrap64 (rd l0 (Int.tmod a1 (l0.length : Int)))) * 31)) + (wrap64 (rd l0 (Int.tmod (wrap64 (a1 + 1)) (l0.length : Int)))))) + (wrap64 (Int.tdiv a1 (l0.length : Int))))) a2))) else (none)) else (none)) else (none)) else (none)))
set_option maxHeartbeats 8000000 in
set_option maxRecDepth 100000 in
theorem laws_at.calls (A0 : Option Addr) (c0 : Nat) (l0 : List Int) (a1 : Int) (a2 : Int) (r : Int) (w : World) (hr0 : Kd.C (Kd.int .u8) w A0 l0.length l0) (hc0 : l0.length ≤ c0) (h : laws_at.f l0 a1 a2 = some r) :
    Calls Tryz.prog 21 #[.slice A0 l0.length c0, .int .i64 a1, .int .i64 a2] w fun e w' => e = .returned (.int .i64 r) ∧ Drawn0 w w' := by
  have HR0 := Aside0.mk hr0
  have HC0 := Aside0.mk hc0
  clear hr0 hc0
  have H : (if a2 ≤ 1 then (some 0) else (if (l0.length : Int) = 0 then (if a2 = 0 then (none) else (some (Int.tmod (wrap64 (a1 * 7)) a2))) else (if 0 ≤ (Int.tmod a1 (l0.length : Int)) then (if (Int.tmod a1 (l0.length : Int)) < (l0.length : Int) then (if 0 ≤ (Int.tmod (wrap64 (a1 + 1)) (l0.length : Int)) then (if (Int.tmod (wrap64 (a1 + 1)) (l0.length : Int)) < (l0.length : Int) then (if a2 = 0 then (none) else (some (Int.tmod (wrap64 ((wrap64 ((wrap64 ((wrap64 (rd l0 (Int.tmod a1 (l0.length : Int)))) * 31)) + (wrap64 (rd l0 (Int.tmod (wrap64 (a1 + 1)) (l0.length : Int)))))) + (wrap64 (Int.tdiv a1 (l0.length : Int))))) a2))) else (none)) else (none)) else (none)) else (none)))) = some r := h
  clear h
  by_cases c4 : a2 ≤ 1
  · rw [if_pos c4] at H
    have c4b0 : decide (a2 ≤ 1) = true := decide_eq_true c4
    clear c4
    obtain rfl := Option.some.inj H
    go_enter Tryz.func21, Tryz.ntmps21
    go_wp2
    repeat (go_quiet (fail); try go_wp2)
    go_ret
    exact ⟨by first | rfl | (simp; done) | (simp [*]; done), by repeat (first | exact Drawn0.refl _ | apply Drawn0.step)⟩
  · rw [if_neg c4] at H
    have c4b0 : decide (a2 ≤ 1) = false := decide_eq_false c4
    clear c4
    by_cases c5 : (l0.length : Int) = 0
    · rw [if_pos c5] at H
      have c5b0 : ((l0.length : Int) == 0) = true := beq_iff_eq.mpr c5
      have c5b1 : ((l0.length : Int) != 0) = false := bne_eq_false_iff_eq.mpr c5
      clear c5
      by_cases c6 : a2 = 0
      · rw [if_pos c6] at H
        exact absurd H (by simp)
      · rw [if_neg c6] at H
        have c6b0 : (a2 == 0) = false := beq_eq_false_iff_ne.mpr c6
        have c6b1 : (a2 != 0) = true := bne_iff_ne.mpr c6
        obtain rfl := Option.some.inj H
        go_enter Tryz.func21, Tryz.ntmps21
        go_wp2
        repeat (go_quiet (fail); try go_wp2)
        go_ret
        exact ⟨by first | rfl | (simp; done) | (simp [*]; done), by repeat (first | exact Drawn0.refl _ | apply Drawn0.step)⟩
    · rw [if_neg c5] at H
      have c5b0 : ((l0.length : Int) == 0) = false := beq_eq_false_iff_ne.mpr c5
      have c5b1 : ((l0.length : Int) != 0) = true := bne_iff_ne.mpr c5
      have c5b2 : ¬ (l0 = []) := fun h_ => c5 (by rw [h_]; rfl)
      obtain ⟨ji7, hji7⟩ : ∃ j_ : Int, (Int.tmod a1 (l0.length : Int)) = j_ := ⟨_, rfl⟩
      replace H : (if 0 ≤ (ji7) then (if (ji7) < (l0.length : Int) then (if 0 ≤ (Int.tmod (wrap64 (a1 + 1)) (l0.length : Int)) then (if (Int.tmod (wrap64 (a1 + 1)) (l0.length : Int)) < (l0.length : Int) then (if a2 = 0 then (none) else (some (Int.tmod (wrap64 ((wrap64 ((wrap64 ((wrap64 (rd l0 (ji7))) * 31)) + (wrap64 (rd l0 (Int.tmod (wrap64 (a1 + 1)) (l0.length : Int)))))) + (wrap64 (Int.tdiv a1 (l0.length : Int))))) a2))) else (none)) else (none)) else (none)) else (none)) = some r := by first | (rw [hji7] at H; exact H) | (simp only [hji7] at H ⊢; exact H)
      by_cases c8 : 0 ≤ (ji7)
      · rw [if_pos c8] at H
        have c8b0 : decide (0 ≤ (ji7)) = true := decide_eq_true c8
        clear c8
        by_cases c9 : (ji7) < (l0.length : Int)
        · rw [if_pos c9] at H
          have c9b0 : decide ((ji7) < (l0.length : Int)) = true := decide_eq_true c9
          clear c9
          obtain ⟨ji10, hji10⟩ : ∃ j_ : Int, (Int.tmod (wrap64 (a1 + 1)) (l0.length : Int)) = j_ := ⟨_, rfl⟩
          replace H : (if 0 ≤ (ji10) then (if (ji10) < (l0.length : Int) then (if a2 = 0 then (none) else (some (Int.tmod (wrap64 ((wrap64 ((wrap64 ((wrap64 (rd l0 (ji7))) * 31)) + (wrap64 (rd l0 (ji10))))) + (wrap64 (Int.tdiv a1 (l0.length : Int))))) a2))) else (none)) else (none)) = some r := by first | (rw [hji10] at H; exact H) | (simp only [hji10] at H ⊢; exact H)
          by_cases c11 : 0 ≤ (ji10)
          · rw [if_pos c11] at H
            have c11b0 : decide (0 ≤ (ji10)) = true := decide_eq_true c11
            clear c11
            by_cases c12 : (ji10) < (l0.length : Int)
            · rw [if_pos c12] at H
              have c12b0 : decide ((ji10) < (l0.length : Int)) = true := decide_eq_true c12
              clear c12
              by_cases c13 : a2 = 0
              · rw [if_pos c13] at H
                exact absurd H (by simp)
              · rw [if_neg c13] at H
                have c13b0 : (a2 == 0) = false := beq_eq_false_iff_ne.mpr c13
                have c13b1 : (a2 != 0) = true := bne_iff_ne.mpr c13
                obtain rfl := Option.some.inj H
                have p371 : 0 ≤ ((ji7) : Int) := of_decide_eq_true (by first | (with_reducible assumption) | assumption)
                have q371 : (ji7) < (l0.length : Int) := of_decide_eq_true (by first | (with_reducible assumption) | assumption)
                obtain ⟨ad371, e371, hx371_0⟩ := Kd.at_int HR0.out (ji7) p371 q371
                cases e371
                replace p371 := eq_true p371
                replace q371 := eq_true q371
                have p372 : 0 ≤ ((ji10) : Int) := of_decide_eq_true (by first | (with_reducible assumption) | assumption)
                have q372 : (ji10) < (l0.length : Int) := of_decide_eq_true (by first | (with_reducible assumption) | assumption)
                obtain ⟨ad372, e372, hx372_0⟩ := Kd.at_int HR0.out (ji10) p372 q372
                obtain rfl : ad371 = ad372 := (by injection e372)
                replace p372 := eq_true p372
                replace q372 := eq_true q372
                go_enter Tryz.func21, Tryz.ntmps21
                go_wp2
                repeat (go_quiet (fail); try go_wp2)
                go_ret
                exact ⟨by first | rfl | (simp; done) | (simp only [← hji7, ← hji10] <;> (first | rfl | simp)) | (simp [*]; done), by repeat (first | exact Drawn0.refl _ | apply Drawn0.step)⟩
            · rw [if_neg c12] at H
              exact absurd H (by simp)
          · rw [if_neg c11] at H
            exact absurd H (by simp)
        · rw [if_neg c9] at H
          exact absurd H (by simp)
      · rw [if_neg c8] at H
        exact absurd H (by simp)

/-! ### laws_samePairs: function 22 -/
def laws_samePairs.l0 : Nat → List (S56) → List (S56) → Int → Option (Bool)
  | 0, _, _, _ => none
  | k + 1, x0, x1, x5 => if x5 < (x0.length : Int) then (if 0 ≤ x5 then (if x5 < (x1.length : Int) then (if (!((((rd_T56 x0 x5).f0).toList) == (((rd_T56 x1 x5).f0).toList)) || (!((((rd_T56 x0 x5).f1).toList) == (((rd_T56 x1 x5).f1).toList)))) = true then (some false) else (laws_samePairs.l0 k x0 x1 (wrap64 (x5 + 1)))) else (none)) else (none)) else (some true)
def laws_samePairs.f (k : Nat) (l0 : List (S56)) (l1 : List (S56)) : Option (Bool) := if (l0.length : Int) = (l1.length : Int) then (laws_samePairs.l0 k l0 l1 0) else (some false)
set_option maxHeartbeats 8000000 in
set_option maxRecDepth 100000 in
theorem laws_samePairs.calls (k : Nat) (A0 : Option Addr) (c0 : Nat) (l0 : List (S56)) (A1 : Option Addr) (c1 : Nat) (l1 : List (S56)) (r : Bool) (w : World) (hr0 : Kd.C k56 w A0 l0.length l0) (hc0 : l0.length ≤ c0) (hr1 : Kd.C k56 w A1 l1.length l1) (hc1 : l1.length ≤ c1) (h : laws_samePairs.f k l0 l1 = some r) :
    Calls Tryz.prog 22 #[.slice A0 l0.length c0, .slice A1 l1.length c1] w fun e w' => e = .returned (.bool r) ∧ Drawn0 w w' := by
  have hu56 := Tryz.underlying56
  have HR0 := Aside0.mk hr0
  have HC0 := Aside0.mk hc0
  clear hr0 hc0
  have HR1 := Aside0.mk hr1
  have HC1 := Aside0.mk hc1
  clear hr1 hc1
  have H : (if (l0.length : Int) = (l1.length : Int) then (laws_samePairs.l0 k l0 l1 0) else (some false)) = some r := h
  clear h
  by_cases c3 : (l0.length : Int) = (l1.length : Int)
  · rw [if_pos c3] at H
    have c3b0 : ((l0.length : Int) == (l1.length : Int)) = true := beq_iff_eq.mpr c3
    have c3b1 : ((l0.length : Int) != (l1.length : Int)) = false := bne_eq_false_iff_eq.mpr c3
    have c3b2 : (l0.length == l1.length) = true := by first | simpa using c3 | (simp at c3 ⊢; omega)
    clear c3
    have H' := Aside0.mk H
    clear H
    go_enter Tryz.func22, Tryz.ntmps22
    go_wp2
    repeat (go_quiet (fail); try go_wp2)
    go_loopg [5] k (fun kq v5 w' => ∃ (x5_1 : Int), v5 = .int .i64 x5_1 ∧ Aside0 (laws_samePairs.l0 kq l0 l1 x5_1 = some r) ∧ Aside0 (kq ≤ k) ∧ Drawn0 w w')
    case atStart => exact ⟨(0), (by first | rfl | (simp; done) | (simp [*]; done)), H', ⟨Nat.le_refl _⟩, by repeat (first | exact Drawn0.refl _ | apply Drawn0.step)⟩
    case round =>
      clear H'
      try clear c1
      try clear c2
      try clear p2
      try clear c3
      try clear c3b0
      try clear c3b1
      try clear c3b2
      obtain ⟨x5_1, rfl, HA, HK1, ⟨m1, rfl⟩⟩ := hrel
      cases gk with
      | zero => exact absurd HA.out (by simp [laws_samePairs.l0])
      | succ k1 =>
        have H := HA.out
        clear HA
        simp only [laws_samePairs.l0] at H
        by_cases c4 : x5_1 < (l0.length : Int)
        · rw [if_pos c4] at H
          have c4b0 : decide (x5_1 < (l0.length : Int)) = true := decide_eq_true c4
          clear c4
          by_cases c5 : 0 ≤ x5_1
          · rw [if_pos c5] at H
            have c5b0 : decide (0 ≤ x5_1) = true := decide_eq_true c5
            clear c5
            by_cases c6 : x5_1 < (l1.length : Int)
            · rw [if_pos c6] at H
              have c6b0 : decide (x5_1 < (l1.length : Int)) = true := decide_eq_true c6
              clear c6
              by_cases c7 : (!((((rd_T56 l0 x5_1).f0).toList) == (((rd_T56 l1 x5_1).f0).toList)) || (!((((rd_T56 l0 x5_1).f1).toList) == (((rd_T56 l1 x5_1).f1).toList)))) = true
              · rw [if_pos c7] at H
                have c7b0 : (!((((rd_T56 l0 x5_1).f0).toList) == (((rd_T56 l1 x5_1).f0).toList)) || (!((((rd_T56 l0 x5_1).f1).toList) == (((rd_T56 l1 x5_1).f1).toList)))) = true := c7
                clear c7
                obtain rfl := Option.some.inj H
                have p373 : 0 ≤ (x5_1 : Int) := of_decide_eq_true (by first | (with_reducible assumption) | assumption)
                have q373 : x5_1 < (l0.length : Int) := of_decide_eq_true (by first | (with_reducible assumption) | assumption)
                obtain ⟨ad373, e373, hx373_0, hx373_1⟩ := at_T56 HR0.out x5_1 p373 q373
                cases e373
                replace p373 := eq_true p373
                replace q373 := eq_true q373
                have p374 : 0 ≤ (x5_1 : Int) := of_decide_eq_true (by first | (with_reducible assumption) | assumption)
                have q374 : x5_1 < (l1.length : Int) := of_decide_eq_true (by first | (with_reducible assumption) | assumption)
                obtain ⟨ad374, e374, hx374_0, hx374_1⟩ := at_T56 HR1.out x5_1 p374 q374
                cases e374
                replace p374 := eq_true p374
                replace q374 := eq_true q374
                go_wp2
                repeat (go_quiet (fail); try go_wp2)
                go_ret
                exact ⟨by first | rfl | (simp; done) | (simp [*]; done), by repeat (first | exact Drawn0.refl _ | apply Drawn0.step)⟩
              · rw [if_neg c7] at H
                have c7b0 : (!((((rd_T56 l0 x5_1).f0).toList) == (((rd_T56 l1 x5_1).f0).toList)) || (!((((rd_T56 l0 x5_1).f1).toList) == (((rd_T56 l1 x5_1).f1).toList)))) = false := by simpa using c7
                clear c7
                have H' := Aside0.mk H
                clear H
                have p373 : 0 ≤ (x5_1 : Int) := of_decide_eq_true (by first | (with_reducible assumption) | assumption)
                have q373 : x5_1 < (l0.length : Int) := of_decide_eq_true (by first | (with_reducible assumption) | assumption)
                obtain ⟨ad373, e373, hx373_0, hx373_1⟩ := at_T56 HR0.out x5_1 p373 q373
                cases e373
                replace p373 := eq_true p373
                replace q373 := eq_true q373
                have p374 : 0 ≤ (x5_1 : Int) := of_decide_eq_true (by first | (with_reducible assumption) | assumption)
                have q374 : x5_1 < (l1.length : Int) := of_decide_eq_true (by first | (with_reducible assumption) | assumption)
                obtain ⟨ad374, e374, hx374_0, hx374_1⟩ := at_T56 HR1.out x5_1 p374 q374
                cases e374
                replace p374 := eq_true p374
                replace q374 := eq_true q374
                go_wp2
                repeat (go_quiet (fail); try go_wp2)
                go_roundg k1
                case measure => have := HK1.out; omega
                case rel => exact ⟨(wrap64 (x5_1 + 1)), (by first | rfl | (simp; done) | (simp [*]; done)), H', ⟨by have := HK1.out; omega⟩, by repeat (first | exact Drawn0.refl _ | apply Drawn0.step)⟩
            · rw [if_neg c6] at H
              exact absurd H (by simp)
          · rw [if_neg c5] at H
            exact absurd H (by simp)
        · rw [if_neg c4] at H
          have c4b0 : decide (x5_1 < (l0.length : Int)) = false := decide_eq_false c4
          clear c4
          obtain rfl := Option.some.inj H
          go_wp2
          repeat (go_quiet (fail); try go_wp2)
          go_ret
          exact ⟨by first | rfl | (simp; done) | (simp [*]; done), by repeat (first | exact Drawn0.refl _ | apply Drawn0.step)⟩
  · rw [if_neg c3] at H
    have c3b0 : ((l0.length : Int) == (l1.length : Int)) = false := beq_eq_false_iff_ne.mpr c3
    have c3b1 : ((l0.length : Int) != (l1.length : Int)) = true := bne_iff_ne.mpr c3
    have c3b2 : (l0.length == l1.length) = false := by first | simpa using c3 | (simp at c3 ⊢; omega)
    obtain rfl := Option.some.inj H
    go_enter Tryz.func22, Tryz.ntmps22
    go_wp2
    repeat (go_quiet (fail); try go_wp2)
    go_ret
    exact ⟨by first | rfl | (simp; done) | (simp [*]; done), by repeat (first | exact Drawn0.refl _ | apply Drawn0.step)⟩

/-! ### spec_BalanceOf: function 54 -/
def spec_BalanceOf.j0 : Nat → List (S56) → ByteArray → ByteArray → Bool → Option (Int × Int)
  | 0, _, _, _, _ => none
  | k + 1, x0, x1, x2, x21 => if x21 = true then (some (0, 2)) else ((spec_l05Code.f k x0 (([x1, x2] : List ByteArray))).bind fun t378 => (if t378 = 0 then ((spec_l05Key.f x1 x2).bind fun t379 => ((spec_l05Read.f k x0 t379).bind fun t380 => (some (t380, 0)))) else (some (0, t378))))
def spec_BalanceOf.f (k : Nat) (l0 : List (S56)) (a1 : ByteArray) (a2 : ByteArray) : Option (Int × Int) := if (l0.length : Int) > 4096 then (spec_BalanceOf.j0 k l0 a1 a2 true) else (if (a1.size : Int) > 65536 then (spec_BalanceOf.j0 k l0 a1 a2 true) else (spec_BalanceOf.j0 k l0 a1 a2 (decide ((a2.size : Int) > 65536))))
set_option maxHeartbeats 8000000 in
set_option maxRecDepth 100000 in
theorem spec_BalanceOf.calls (k : Nat) (A0 : Option Addr) (c0 : Nat) (l0 : List (S56)) (a1 : ByteArray) (a2 : ByteArray) (r1 : Int) (r2 : Int) (w : World) (hr0 : Kd.C k56 w A0 l0.length l0) (hc0 : l0.length ≤ c0) (h : spec_BalanceOf.f k l0 a1 a2 = some (r1, r2)) :
    Calls Tryz.prog 54 #[.slice A0 l0.length c0, .string a1, .string a2] w fun e w' => e = .returned (.tuple #[.int .i64 r1, .int .i64 r2]) ∧ Below w.heap.size w w' := by
  have HR0 := Aside0.mk hr0
  have HC0 := Aside0.mk hc0
  clear hr0 hc0
  have HB := Aside0.mk (Below.refl w.heap.size w)
  have H : (if (l0.length : Int) > 4096 then (spec_BalanceOf.j0 k l0 a1 a2 true) else (if (a1.size : Int) > 65536 then (spec_BalanceOf.j0 k l0 a1 a2 true) else (spec_BalanceOf.j0 k l0 a1 a2 (decide ((a2.size : Int) > 65536))))) = some (r1, r2) := h
  clear h
  have HC4 := Aside0.mk H
  clear H
  go_enter Tryz.func54, Tryz.ntmps54
  go_upto_region 1 with (fail)
  go_cut [21] (fun v21 wc => ∃ (kq : Nat) (x21_3 : Bool), v21 = .bool x21_3 ∧ Aside0 (spec_BalanceOf.j0 kq l0 a1 a2 x21_3 = some (r1, r2)) ∧ Aside0 (kq ≤ k) ∧ Aside0 (Below w.heap.size w wc))
  case first =>
    have H := HC4.out
    clear HC4
    by_cases c5 : (l0.length : Int) > 4096
    · rw [if_pos c5] at H
      have c5b0 : decide (4096 < (l0.length : Int)) = true := decide_eq_true c5
      have c5b1 : decide (4096 < l0.length) = true := decide_eq_true (by omega)
      clear c5
      (first | rw [c5b0] | (simp only [i64_w, i32_w]; rw [c5b0]) | skip)
      have H' := Aside0.mk H
      clear H
      go_wp2
      go_meet
      case rel => exact ⟨_, (true), (by first | rfl | (simp; done) | (simp [*]; done)), H', ⟨by first | omega | exact Nat.le_refl _⟩, ⟨by repeat (first | (with_reducible first | exact HB.out | apply below_alloc | apply pw_below_drewN | apply below_drew1) | exact HB.out)⟩⟩
    · rw [if_neg c5] at H
      have c5b0 : decide (4096 < (l0.length : Int)) = false := decide_eq_false c5
      have c5b1 : decide (4096 < l0.length) = false := decide_eq_false (by omega)
      clear c5
      (first | rw [c5b0] | (simp only [i64_w, i32_w]; rw [c5b0]) | skip)
      by_cases c6 : (a1.size : Int) > 65536
      · rw [if_pos c6] at H
        have c6b0 : decide (65536 < (a1.size : Int)) = true := decide_eq_true c6
        have c6b1 : decide (65536 < a1.size) = true := decide_eq_true (by omega)
        clear c6
        have H' := Aside0.mk H
        clear H
        go_wp2
        go_meet
        case rel => exact ⟨_, (true), (by first | rfl | (simp; done) | (simp [*]; done)), H', ⟨by first | omega | exact Nat.le_refl _⟩, ⟨by repeat (first | (with_reducible first | exact HB.out | apply below_alloc | apply pw_below_drewN | apply below_drew1) | exact HB.out)⟩⟩
      · rw [if_neg c6] at H
        have c6b0 : decide (65536 < (a1.size : Int)) = false := decide_eq_false c6
        have c6b1 : decide (65536 < a1.size) = false := decide_eq_false (by omega)
        clear c6
        have H' := Aside0.mk H
        clear H
        go_wp2
        go_meet
        case rel => exact ⟨_, (decide ((a2.size : Int) > 65536)), (by first | rfl | (simp; done) | (simp [*]; done)), H', ⟨by first | omega | exact Nat.le_refl _⟩, ⟨by repeat (first | (with_reducible first | exact HB.out | apply below_alloc | apply pw_below_drewN | apply below_drew1) | exact HB.out)⟩⟩
  case rest =>
    clear HC4
    try clear p2
    try clear c5
    try clear c5b0
    try clear c5b1
    try clear c6
    try clear c6b0
    try clear c6b1
    obtain ⟨kq, x21_3, rfl, HA, HJ3, HB⟩ := hcut
    cases kq with
    | zero => exact absurd HA.out (by simp [spec_BalanceOf.j0])
    | succ kj3 =>
      have H := HA.out
      clear HA
      simp only [spec_BalanceOf.j0] at H
      by_cases c7 : x21_3 = true
      · subst c7
        have H1 : (some (0, 2)) = some (r1, r2) := by rw [if_pos rfl] at H; exact H
        clear H
        have H := H1
        clear H1
        simp only [Option.some.injEq, Prod.mk.injEq] at H
        obtain ⟨rfl, rfl⟩ := H
        go_wp2
        go_ret2
        exact ⟨by first | rfl | (simp [errW_none, errW_some] <;> rfl) | (simp [*, errW_none, errW_some] <;> rfl), by repeat (first | (with_reducible first | exact HB.out | apply below_alloc | apply pw_below_drewN | apply below_drew1) | exact HB.out)⟩
      · replace c7 := Bool.eq_false_iff.mpr c7
        subst c7
        have H1 : ((spec_l05Code.f kj3 l0 (([a1, a2] : List ByteArray))).bind fun t378 => (if t378 = 0 then ((spec_l05Key.f a1 a2).bind fun t379 => ((spec_l05Read.f kj3 l0 t379).bind fun t380 => (some (t380, 0)))) else (some (0, t378)))) = some (r1, r2) := by rw [if_neg (show ¬ (false = true) by decide)] at H; exact H
        clear H
        have H := H1
        clear H1
        obtain ⟨y375, hy375⟩ : ∃ y_ : List ByteArray, y_ = (([a1, a2] : List ByteArray)) := ⟨_, rfl⟩
        replace H : ((spec_l05Code.f kj3 l0 y375).bind fun t378 => (if t378 = 0 then ((spec_l05Key.f a1 a2).bind fun t379 => ((spec_l05Read.f kj3 l0 t379).bind fun t380 => (some (t380, 0)))) else (some (0, t378)))) = some (r1, r2) := by first | (rw [hy375]; with_reducible exact H) | (have H2_ := (Option.bind_some _ _).symm.trans H; rw [hy375]; with_reducible exact H2_) | (have H2_ := (Option.bind_some _ _).symm.trans H; with_reducible exact H2_) | with_reducible exact H | (rw [hy375]; exact H) | exact H
        have Ny375 := Aside0.mk hy375
        clear hy375
        replace H := Option.bind_eq_some_iff.mp H
        obtain ⟨t378, A80, H⟩ := H
        replace H : (if t378 = 0 then ((spec_l05Key.f a1 a2).bind fun t379 => ((spec_l05Read.f kj3 l0 t379).bind fun t380 => (some (t380, 0)))) else (some (0, t378))) = some (r1, r2) := H
        have A8 := Aside0.mk A80
        clear A80
        by_cases c9 : t378 = 0
        · rw [if_pos c9] at H
          have c9b0 : (t378 == 0) = true := beq_iff_eq.mpr c9
          have c9b1 : (t378 != 0) = false := bne_eq_false_iff_eq.mpr c9
          clear c9
          replace H := Option.bind_eq_some_iff.mp H
          obtain ⟨t379, A100, H⟩ := H
          replace H : ((spec_l05Read.f kj3 l0 t379).bind fun t380 => (some (t380, 0))) = some (r1, r2) := H
          have A10 := Aside0.mk A100
          clear A100
          replace H := Option.bind_eq_some_iff.mp H
          obtain ⟨t380, A110, H⟩ := H
          replace H : (some (t380, 0)) = some (r1, r2) := H
          have A11 := Aside0.mk A110
          clear A110
          simp only [Option.some.injEq, Prod.mk.injEq] at H
          obtain ⟨rfl, rfl⟩ := H
          go_wp2_with (first | ((with_reducible refine gate_dst (N := 25) rfl ?_); (try (refine gate_guard (by rfl) ?_; dsimp only)); refine Kd.R_lit Kd.string _ 9 ?hg (N := 25) ?hd (xs := ([a1, a2] : List ByteArray)) (inner := [.string a1, .string a2]) (ok := fun _ => True) (okp := fun _ => True) ?hr ?hp (fun _ hk => hk) trivial (Below.refl _ _) (Nat.le_refl _) (by simp) ?_; (case hd => rfl); (case hg => rfl); (case hr => first | (go_simp; done) | (go_simp; rfl)); (case hp => exact (Reps.one (show Kd.M Kd.string _ _ _ a1 [.string a1] from rfl) (Reps.one (show Kd.M Kd.string _ _ _ a2 [.string a2] from rfl) (Reps.none _ _)))); intro v376 w12 ho13 hb hg_ hnew_; clear hg_ hnew_; (first | rw [← Ny375.out] at ho13 | (simp only [Int.reduceToNat] at ho13; rw [← Ny375.out] at ho13)); have n0_ := Aside0.mk (Kd.R_lower ho13 (below_size (by repeat (first | (with_reducible first | exact HB.out | apply below_alloc | apply pw_below_drewN | apply below_drew1) | exact HB.out)))); have n1_ := Aside0.mk (below_step (by repeat (first | (with_reducible first | exact HB.out | apply below_alloc | apply pw_below_drewN | apply below_drew1) | exact HB.out)) hb); clear HB; have HO377 := n0_; have HB := n1_; clear n0_ n1_; clear hb ho13; obtain ⟨Ao14, co14, eo14⟩ := Kd.R_slice HO377.out; subst eo14) | ((with_reducible refine gate_callee (f := 30) rfl ?_); refine goesL_ (some 26) rfl rfl Tryz.func30 (by kernel_rfl) rfl #[.slice A0 l0.length c0, .slice Ao14 y375.length co14] rfl (by (try simp only [List.map_toArray, List.map_cons, List.map_nil]); first | done | rfl | (simp only [List.length_drop, List.length_take]; rfl)) ?_; (with_reducible refine (spec_l05Code.calls kj3 _ _ l0 _ _ y375 t378 _ ?side1 ?side2 ?side3 ?side4 A8.out).mono ?_); (case side1 => repeat (first | exact (Kd.C_below HR0.out HB.out) | (with_reducible refine Kd.C_alloc ?_ _) | (with_reducible refine Kd.C_drewN ?_ _) | (with_reducible refine Kd.C_drew ?_))); (case side2 => exact HC0.out); (case side3 => repeat (first | exact (Kd.R_reads' HO377.out).2.2 | (with_reducible refine Kd.C_alloc ?_ _) | (with_reducible refine Kd.C_drewN ?_ _) | (with_reducible refine Kd.C_drew ?_))); (case side4 => exact (Kd.R_reads' HO377.out).2.1); rintro e w15 ⟨rfl, hb⟩; refine ⟨_, rfl, ?_⟩; have n0_ := Aside0.mk (Kd.R_below (by (with_reducible repeat (first | apply Kd.R_alloc | apply Kd.R_drewN | apply Kd.R_drew)); exact HO377.out) hb); have n1_ := Aside0.mk (below_step (by repeat (first | (with_reducible first | exact HB.out | apply below_alloc | apply pw_below_drewN | apply below_drew1) | exact HB.out)) hb); clear HO377; clear HB; have HO377 := n0_; have HB := n1_; clear n0_ n1_; (try clear hb); (try clear hb2); (try clear hk); (try clear hi)) | ((with_reducible refine gate_callee (f := 59) rfl ?_); refine goesL_ (some 33) rfl rfl Tryz.func59 (by kernel_rfl) rfl #[.string a1, .string a2] rfl (by (try simp only [List.map_toArray, List.map_cons, List.map_nil]); first | done | rfl | (simp only [List.length_drop, List.length_take]; rfl)) ?_; (with_reducible refine (spec_l05Key.calls a1 a2 t379 _ A10.out).mono ?_); rintro e w' ⟨rfl, ⟨nd, rfl⟩⟩; refine ⟨_, rfl, ?_⟩) | ((with_reducible refine gate_callee (f := 46) rfl ?_); refine goesL_ (some 34) rfl rfl Tryz.func46 (by kernel_rfl) rfl #[.slice A0 l0.length c0, .string t379] rfl (by (try simp only [List.map_toArray, List.map_cons, List.map_nil]); first | done | rfl | (simp only [List.length_drop, List.length_take]; rfl)) ?_; (with_reducible refine (spec_l05Read.calls kj3 _ _ l0 t379 t380 _ ?side1 ?side2 A11.out).mono ?_); (case side1 => repeat (first | exact (Kd.C_below HR0.out (by repeat (first | (with_reducible first | exact HB.out | apply below_alloc | apply pw_below_drewN | apply below_drew1) | exact HB.out))) | (with_reducible refine Kd.C_alloc ?_ _) | (with_reducible refine Kd.C_drewN ?_ _) | (with_reducible refine Kd.C_drew ?_))); (case side2 => exact HC0.out); rintro e w16 ⟨rfl, hb⟩; refine ⟨_, rfl, ?_⟩; have n0_ := Aside0.mk (Kd.R_below (by (with_reducible repeat (first | apply Kd.R_alloc | apply Kd.R_drewN | apply Kd.R_drew)); exact HO377.out) hb); have n1_ := Aside0.mk (below_step (by repeat (first | (with_reducible first | exact HB.out | apply below_alloc | apply pw_below_drewN | apply below_drew1) | exact HB.out)) hb); clear HO377; clear HB; have HO377 := n0_; have HB := n1_; clear n0_ n1_; (try clear hb); (try clear hb2); (try clear hk); (try clear hi)))
          go_ret2
          exact ⟨by first | rfl | (simp [errW_none, errW_some] <;> rfl) | (simp [*, errW_none, errW_some] <;> rfl), by repeat (first | (with_reducible first | exact HB.out | apply below_alloc | apply pw_below_drewN | apply below_drew1) | exact HB.out)⟩
        · rw [if_neg c9] at H
          have c9b0 : (t378 == 0) = false := beq_eq_false_iff_ne.mpr c9
          have c9b1 : (t378 != 0) = true := bne_iff_ne.mpr c9
          simp only [Option.some.injEq, Prod.mk.injEq] at H
          obtain ⟨rfl, rfl⟩ := H
          go_wp2_with (first | ((with_reducible refine gate_dst (N := 25) rfl ?_); (try (refine gate_guard (by rfl) ?_; dsimp only)); refine Kd.R_lit Kd.string _ 9 ?hg (N := 25) ?hd (xs := ([a1, a2] : List ByteArray)) (inner := [.string a1, .string a2]) (ok := fun _ => True) (okp := fun _ => True) ?hr ?hp (fun _ hk => hk) trivial (Below.refl _ _) (Nat.le_refl _) (by simp) ?_; (case hd => rfl); (case hg => rfl); (case hr => first | (go_simp; done) | (go_simp; rfl)); (case hp => exact (Reps.one (show Kd.M Kd.string _ _ _ a1 [.string a1] from rfl) (Reps.one (show Kd.M Kd.string _ _ _ a2 [.string a2] from rfl) (Reps.none _ _)))); intro v376 w17 ho18 hb hg_ hnew_; clear hg_ hnew_; (first | rw [← Ny375.out] at ho18 | (simp only [Int.reduceToNat] at ho18; rw [← Ny375.out] at ho18)); have n0_ := Aside0.mk (Kd.R_lower ho18 (below_size (by repeat (first | (with_reducible first | exact HB.out | apply below_alloc | apply pw_below_drewN | apply below_drew1) | exact HB.out)))); have n1_ := Aside0.mk (below_step (by repeat (first | (with_reducible first | exact HB.out | apply below_alloc | apply pw_below_drewN | apply below_drew1) | exact HB.out)) hb); clear HB; have HO377 := n0_; have HB := n1_; clear n0_ n1_; clear hb ho18; obtain ⟨Ao19, co19, eo19⟩ := Kd.R_slice HO377.out; subst eo19) | ((with_reducible refine gate_callee (f := 30) rfl ?_); refine goesL_ (some 26) rfl rfl Tryz.func30 (by kernel_rfl) rfl #[.slice A0 l0.length c0, .slice Ao19 y375.length co19] rfl (by (try simp only [List.map_toArray, List.map_cons, List.map_nil]); first | done | rfl | (simp only [List.length_drop, List.length_take]; rfl)) ?_; (with_reducible refine (spec_l05Code.calls kj3 _ _ l0 _ _ y375 t378 _ ?side1 ?side2 ?side3 ?side4 A8.out).mono ?_); (case side1 => repeat (first | exact (Kd.C_below HR0.out HB.out) | (with_reducible refine Kd.C_alloc ?_ _) | (with_reducible refine Kd.C_drewN ?_ _) | (with_reducible refine Kd.C_drew ?_))); (case side2 => exact HC0.out); (case side3 => repeat (first | exact (Kd.R_reads' HO377.out).2.2 | (with_reducible refine Kd.C_alloc ?_ _) | (with_reducible refine Kd.C_drewN ?_ _) | (with_reducible refine Kd.C_drew ?_))); (case side4 => exact (Kd.R_reads' HO377.out).2.1); rintro e w20 ⟨rfl, hb⟩; refine ⟨_, rfl, ?_⟩; have n0_ := Aside0.mk (Kd.R_below (by (with_reducible repeat (first | apply Kd.R_alloc | apply Kd.R_drewN | apply Kd.R_drew)); exact HO377.out) hb); have n1_ := Aside0.mk (below_step (by repeat (first | (with_reducible first | exact HB.out | apply below_alloc | apply pw_below_drewN | apply below_drew1) | exact HB.out)) hb); clear HO377; clear HB; have HO377 := n0_; have HB := n1_; clear n0_ n1_; (try clear hb); (try clear hb2); (try clear hk); (try clear hi)))
          go_ret2
          exact ⟨by first | rfl | (simp [errW_none, errW_some] <;> rfl) | (simp [*, errW_none, errW_some] <;> rfl), by repeat (first | (with_reducible first | exact HB.out | apply below_alloc | apply pw_below_drewN | apply below_drew1) | exact HB.out)⟩

/-! ### laws_amount: function 27 -/
def laws_amount.f (k : Nat) (l0 : List (S56)) (a1 : ByteArray) (a2 : ByteArray) : Option (Int) := (spec_BalanceOf.f k l0 a1 a2).bind fun bt381 => (some bt381.1)
set_option maxHeartbeats 8000000 in
set_option maxRecDepth 100000 in
theorem laws_amount.calls (k : Nat) (A0 : Option Addr) (c0 : Nat) (l0 : List (S56)) (a1 : ByteArray) (a2 : ByteArray) (r : Int) (w : World) (hr0 : Kd.C k56 w A0 l0.length l0) (hc0 : l0.length ≤ c0) (h : laws_amount.f k l0 a1 a2 = some r) :
    Calls Tryz.prog 27 #[.slice A0 l0.length c0, .string a1, .string a2] w fun e w' => e = .returned (.int .i64 r) ∧ Below w.heap.size w w' := by
  have HR0 := Aside0.mk hr0
  have HC0 := Aside0.mk hc0
  clear hr0 hc0
  have HB := Aside0.mk (Below.refl w.heap.size w)
  have H : ((spec_BalanceOf.f k l0 a1 a2).bind fun bt381 => (some bt381.1)) = some r := h
  clear h
  replace H := Option.bind_eq_some_iff.mp H
  obtain ⟨⟨t381, t382⟩, A40, H⟩ := H
  replace H : (some t381) = some r := H
  have A4 := Aside0.mk A40
  clear A40
  obtain rfl := Option.some.inj H
  go_enter Tryz.func27, Tryz.ntmps27
  go_wp2_with (first | ((with_reducible refine gate_callee (f := 54) rfl ?_); refine goesL_ (some 13) rfl rfl Tryz.func54 (by kernel_rfl) rfl #[.slice A0 l0.length c0, .string a1, .string a2] rfl (by (try simp only [List.map_toArray, List.map_cons, List.map_nil]); first | done | rfl | (simp only [List.length_drop, List.length_take]; rfl)) ?_; (with_reducible refine (spec_BalanceOf.calls k _ _ l0 a1 a2 t381 t382 _ ?side1 ?side2 A4.out).mono ?_); (case side1 => repeat (first | exact HR0.out | (with_reducible refine Kd.C_alloc ?_ _) | (with_reducible refine Kd.C_drewN ?_ _) | (with_reducible refine Kd.C_drew ?_))); (case side2 => exact HC0.out); rintro e w5 ⟨rfl, hb⟩; refine ⟨_, rfl, ?_⟩; have n0_ := Aside0.mk (below_step (by repeat (first | (with_reducible first | exact HB.out | apply below_alloc | apply pw_below_drewN | apply below_drew1) | exact HB.out)) hb); clear HB; have HB := n0_; clear n0_; (try clear hb); (try clear hb2); (try clear hk); (try clear hi)))
  go_ret
  exact ⟨by first | rfl | (simp [errW_none, errW_some] <;> rfl) | (simp [*, errW_none, errW_some] <;> rfl), by repeat (first | (with_reducible first | exact HB.out | apply below_alloc | apply pw_below_drewN | apply below_drew1) | exact HB.out)⟩

/-- A state of type 80 at block g of W; what its slices lead to came in by w0. -/
def IsS80 (w0 W : World) (g : Nat) (f0 : List Int) (f1 : Int) (f2 : Int) : Prop := ∃ A0 c0, W.heap[g]? = some (.cells #[.slice A0 f0.length c0, .int .i64 f1, .int .i64 f2] 80 (0, 0)) ∧ w0.heap.size ≤ g ∧ Kd.C (Kd.int .u8) w0 A0 f0.length f0
theorem IsS80.grown {w0 W : World} {g : Nat} {f0 : List Int} {f1 : Int} {f2 : Int} {W1 : World} {row : Option Nat} (h : IsS80 w0 W g f0 f1 f2) (hw : W.grownBy W1 row) (hne : some g ≠ row) : IsS80 w0 W1 g f0 f1 f2 := by
  obtain ⟨A0, c0, hb, hg, hr0⟩ := h
  exact ⟨A0, c0, blk_grown hb hw hne, hg, hr0⟩
theorem IsS80.kept {w0 W : World} {g : Nat} {f0 : List Int} {f1 : Int} {f2 : Int} {W1 : World} {S : Nat → Prop} (h : IsS80 w0 W g f0 f1 f2) (hk : Kept W W1 S) (hne : ¬ S g) : IsS80 w0 W1 g f0 f1 f2 := by
  obtain ⟨A0, c0, hb, hg, hr0⟩ := h
  exact ⟨A0, c0, blk_kept hb hk hne, hg, hr0⟩
theorem IsS80.below {w0 W : World} {g : Nat} {f0 : List Int} {f1 : Int} {f2 : Int} {W1 : World} (h : IsS80 w0 W g f0 f1 f2) (hw : Below W.heap.size W W1) : IsS80 w0 W1 g f0 f1 f2 := h.grown (grown_of_below hw none) (by simp)
theorem IsS80.alloc {w0 W : World} {g : Nat} {f0 : List Int} {f1 : Int} {f2 : Int} (h : IsS80 w0 W g f0 f1 f2) (o : Obj) : IsS80 w0 (W.alloc o) g f0 f1 f2 := h.below (below_alloc (Below.refl _ _) o)
theorem IsS80.drewN {w0 W : World} {g : Nat} {f0 : List Int} {f1 : Int} {f2 : Int} (h : IsS80 w0 W g f0 f1 f2) (m : Nat) : IsS80 w0 (W.drewN m) g f0 f1 f2 := h
theorem IsS80.drew {w0 W : World} {g : Nat} {f0 : List Int} {f1 : Int} {f2 : Int} (h : IsS80 w0 W g f0 f1 f2) : IsS80 w0 W.drew g f0 f1 f2 := h
theorem IsS80.at_ {w0 W : World} {g : Nat} {f0 : List Int} {f1 : Int} {f2 : Int} {w' : World} {m : Nat} (hq : W.drewN m = w') (h : IsS80 w0 W g f0 f1 f2) : IsS80 w0 w' g f0 f1 f2 := by subst hq; exact IsS80.drewN h m
theorem IsS80.apart {w0 W : World} {g : Nat} {f0 : List Int} {f1 : Int} {f2 : Int} {α : Type} {d : Kd α} {e : Nat} {base : Nat} {ok : Nat → Prop} {v : Value} {xs : List α} (h : IsS80 w0 W g f0 f1 f2) (ho : d.R e W base ok v xs) (ht : ∀ q, q ∈ e :: d.E → q ≠ 80) : d.R e W base (fun k => ok k ∧ k ≠ g) v xs := by
  obtain ⟨A0, c0, hb, hg, hr0⟩ := h
  exact Kd.R_types ho hb ht
theorem IsS80.own_ne {w0 W : World} {g : Nat} {f0 : List Int} {f1 : Int} {f2 : Int} {α : Type} {d : Kd α} {e : Nat} {base : Nat} {ok : Nat → Prop} {v : Value} {xs : List α} (h : IsS80 w0 W g f0 f1 f2) (ho : d.R e W base ok v xs) (ht : e ≠ 80) : some g ≠ v.ownBlock := by
  obtain ⟨A0, c0, hb, hg, hr0⟩ := h
  exact Kd.R_ne ho hb ht
theorem IsS80.lt {w0 W : World} {g : Nat} {f0 : List Int} {f1 : Int} {f2 : Int} (h : IsS80 w0 W g f0 f1 f2) : g < W.heap.size := by
  obtain ⟨A0, c0, hb, hg, hr0⟩ := h
  exact blk_lt hb
theorem IsS80.ge {w0 W : World} {g : Nat} {f0 : List Int} {f1 : Int} {f2 : Int} (h : IsS80 w0 W g f0 f1 f2) : w0.heap.size ≤ g := by
  obtain ⟨A0, c0, hb, hg, hr0⟩ := h
  exact hg
theorem IsS80.set_1 {w0 W : World} {g : Nat} {f0 : List Int} {f1 : Int} {f2 : Int} (h : IsS80 w0 W g f0 f1 f2) (x : Int) : IsS80 w0 (W.setCell ⟨g, 1, none⟩ (.int .i64 x)) g f0 x f2 := by
  obtain ⟨A0, c0, hb, hg, hr0⟩ := h
  exact ⟨A0, c0, by simpa using blk_set hb 1 (.int .i64 x), hg, hr0⟩
theorem IsS80.set_2 {w0 W : World} {g : Nat} {f0 : List Int} {f1 : Int} {f2 : Int} (h : IsS80 w0 W g f0 f1 f2) (x : Int) : IsS80 w0 (W.setCell ⟨g, 2, none⟩ (.int .i64 x)) g f0 f1 x := by
  obtain ⟨A0, c0, hb, hg, hr0⟩ := h
  exact ⟨A0, c0, by simpa using blk_set hb 2 (.int .i64 x), hg, hr0⟩
/-! ### spec_l00Source: function 42 -/
def spec_l00Source.f (l0 : List Int) : Option (List Int × Int × Int) := some (l0, 0, (l0.length : Int) % 1000)
set_option maxHeartbeats 8000000 in
set_option maxRecDepth 100000 in
theorem spec_l00Source.calls (A0 : Option Addr) (c0 : Nat) (l0 : List Int) (r1 : List Int) (r2 : Int) (r3 : Int) (w0 w : World) (hB : Below w0.heap.size w0 w) (hr0 : Kd.C (Kd.int .u8) w0 A0 l0.length l0) (hc0 : l0.length ≤ c0) (h : spec_l00Source.f l0 = some (r1, r2, r3)) :
    Calls Tryz.prog 42 #[.slice A0 l0.length c0] w fun e w' => ∃ g_ : Nat, e = .returned (.pointer (some ⟨g_, 0, none⟩)) ∧ IsS80 w0 w' g_ r1 r2 r3 ∧ Below w0.heap.size w0 w' ∧ Below w.heap.size w w' := by
  have hu80 := Tryz.underlying80
  have HR0 := Aside0.mk hr0
  have HC0 := Aside0.mk hc0
  clear hr0 hc0
  have HBW := Aside0.mk (Below.refl w.heap.size w)
  have HW0 := Aside0.mk hB.size
  have HB := Aside0.mk hB
  clear hB
  have H : (some (l0, 0, (l0.length : Int) % 1000)) = some (r1, r2, r3) := h
  clear h
  simp only [Option.some.injEq, Prod.mk.injEq] at H
  obtain ⟨rfl, rfl, rfl⟩ := H
  go_enter Tryz.func42, Tryz.ntmps42
  go_wp2_with (first | ((with_reducible refine gate_dst (N := 8) rfl ?_); refine box_event ?hg (N := 8) ?hd (cs := #[.slice A0 l0.length c0, .int .i64 0, .int .i64 ((l0.length : Int) % 1000)]) (t := 80) ?hr ?_; (case hd => rfl); (case hg => rfl); (case hr => first | (go_simp; done) | (go_simp; rfl)); intro gb383 hg w2 hbox hb; have n0_ := Aside0.mk (below_step HBW.out hb); have n1_ := Aside0.mk (below_step (by repeat (first | (with_reducible first | exact HB.out | apply below_alloc | apply pw_below_drewN | apply below_drew1) | exact HB.out)) hb); have n2_ := Aside0.mk (hbox); have n3_ := Aside0.mk ((by rw [hg]; exact (below_size (by repeat (first | (with_reducible first | exact HBW.out | apply below_alloc | apply pw_below_drewN | apply below_drew1) | exact HBW.out))) : w.heap.size ≤ gb383)); have n4_ := Aside0.mk ((Nat.le_trans HW0.out (by rw [hg]; exact (below_size (by repeat (first | (with_reducible first | exact HBW.out | apply below_alloc | apply pw_below_drewN | apply below_drew1) | exact HBW.out))) : w.heap.size ≤ gb383) : w0.heap.size ≤ gb383)); clear HBW; clear HB; have HBW := n0_; have HB := n1_; have BK383 := n2_; have GW383 := n3_; have GE383 := n4_; clear n0_ n1_ n2_ n3_ n4_; clear hb hbox hg))
  go_ret
  exact ⟨_, rfl, (show IsS80 w0 _ gb383 l0 0 ((l0.length : Int) % 1000) from ⟨_, _, by (with_reducible repeat (first | refine blk_drewN ?_ _ | refine blk_drew ?_ | refine blk_alloc ?_ _)); exact BK383.out, GE383.out, HR0.out⟩), by repeat (first | (with_reducible first | exact HB.out | apply below_alloc | apply pw_below_drewN | apply below_drew1 | refine below_set ?_ GE383.out) | exact HB.out), by repeat (first | (with_reducible first | exact HBW.out | apply below_alloc | apply pw_below_drewN | apply below_drew1 | refine below_set ?_ GW383.out) | exact HBW.out)⟩


end Go.Proofs.YtpkfdjlmflmilaaGreatDoor.Q
end
section
namespace Go.Proofs.YtpkfdjlmflmilaaGreatDoor.Q
open Go.RowKit Go.Proofs.YtpkfdjlmflmilaaGreatDoorW.PrintWords Go.Proofs.YtpkfdjlmflmilaaGreatDoorW.PrintLast Go.Proofs.YtpkfdjlmflmilaaGreatDoorW.PrintMore
set_option linter.unusedVariables false
set_option linter.unusedSimpArgs false
def spec_l00Src_byte.f (l : List Int) (a s : Int) : Option (Int × Int × Int) :=
  if wrap64 (a + 1) ≤ (l.length : Int) then (if 0 ≤ wrap64 (wrap64 (a + 1) - 1) then (if wrap64 (wrap64 (a + 1) - 1) < (l.length : Int) then some (wrap64 (rd l (wrap64 (wrap64 (a + 1) - 1))), wrap64 (a + 1), Int.tmod (wrap64 (wrap64 (wrap64 (s * 31) + wrap64 (rd l (wrap64 (wrap64 (a + 1) - 1)))) + 7)) 2147483648) else none) else none)
  else if wrap64 (a + 1) > 3000 then some (0, wrap64 (a + 1), s)
  else some (Int.tmod (wrap64 (Int.tdiv (Int.tmod (wrap64 (wrap64 (s * 1103515245) + 12345)) 2147483648) 65536)) 256, wrap64 (a + 1), Int.tmod (wrap64 (wrap64 (s * 1103515245) + 12345)) 2147483648)
theorem add_blk (a : Addr) (i : Nat) : (a.add i).block = a.block := by unfold Addr.add; split <;> rfl
theorem i64_wrap (n : Int) : IntKind.i64.wrap n = wrap64 n := i64_w n
theorem keep_set (w : World) (g i : Nat) (u : Value) : KeepBut w (w.setCell ⟨g, i, none⟩ u) g none := ⟨by simp [World.setCell], fun k hk hg _ => Below.heap_setCell w _ u k hg⟩
theorem keep_drew {w W : World} {g : Nat} (h : KeepBut w W g none) : KeepBut w W.drew g none := h
theorem keep_drewN {w W : World} {g : Nat} (h : KeepBut w W g none) (n : Nat) : KeepBut w (W.drewN n) g none := h
set_option maxHeartbeats 8000000 in
set_option maxRecDepth 100000 in
theorem spec_l00Src_byte.calls (g : Nat) (l : List Int) (a s : Int) (r a' s' : Int) (w0 w : World) (hI : IsS80 w0 w g l a s) (hB : Below w0.heap.size w0 w) (h : spec_l00Src_byte.f l a s = some (r, a', s')) :
    Calls Tryz.prog 92 #[.pointer (some ⟨g, 0, none⟩)] w fun e w' => e = .returned (.int .i64 r) ∧ IsS80 w0 w' g l a' s' ∧ Below w0.heap.size w0 w' ∧ KeepBut w w' g none := by
  unfold spec_l00Src_byte.f at h
  obtain ⟨A0, c0, hg, hge, hC⟩ := hI
  obtain ⟨p, hp⟩ : ∃ p, wrap64 (a + 1) = p := ⟨_, rfl⟩
  have hp' : IntKind.i64.wrap (a + 1) = p := by rw [i64_wrap]; exact hp
  have hu := Tryz.underlying80
  have hub := Tryz.underlying33
  rw [hp] at h
  have HG := Aside0.mk hg
  have HB := Aside0.mk hB
  have hc0 : w.cell? ⟨g, 0, none⟩ = some (.slice A0 l.length c0) := (blk_cell hg 0).trans rfl
  have hc1 : w.cell? ⟨g, 1, none⟩ = some (.int .i64 a) := (blk_cell hg 1).trans rfl
  have hc2 : w.cell? ⟨g, 2, none⟩ = some (.int .i64 s) := (blk_cell hg 2).trans rfl
  have hf1 := blk_frozen hg 1
  have hf2 := blk_frozen hg 2
  by_cases h1 : p ≤ (l.length : Int)
  · rw [if_pos h1] at h
    obtain ⟨i, hi⟩ : ∃ i, wrap64 (p - 1) = i := ⟨_, rfl⟩
    have hi' : IntKind.i64.wrap (p - 1) = i := by rw [i64_wrap]; exact hi
    rw [hi] at h
    by_cases h2 : 0 ≤ i
    · by_cases h3 : i < (l.length : Int)
      · rw [if_pos h2, if_pos h3] at h
        obtain ⟨b, hb⟩ : ∃ b, rd l i = b := ⟨_, rfl⟩
        rw [hb] at h
        obtain ⟨c, hc⟩ : ∃ c, wrap64 b = c := ⟨_, rfl⟩
        obtain ⟨v, hv⟩ : ∃ v, wrap64 (s * 31) = v := ⟨_, rfl⟩
        rw [hc, hv] at h
        obtain ⟨u, hu0⟩ : ∃ u, wrap64 (v + c) = u := ⟨_, rfl⟩
        rw [hu0] at h
        obtain ⟨x, hx⟩ : ∃ x, wrap64 (u + 7) = x := ⟨_, rfl⟩
        rw [hx] at h
        obtain ⟨q, hq⟩ : ∃ q, Int.tmod x 2147483648 = q := ⟨_, rfl⟩
        rw [hq] at h
        injection h with h
        injection h with e1 h
        injection h with e2 e3
        subst e1
        subst e2
        subst e3
        have hc' : IntKind.i64.wrap b = c := by rw [i64_wrap]; exact hc
        have hv' : IntKind.i64.wrap (s * 31) = v := by rw [i64_wrap]; exact hv
        have hu' : IntKind.i64.wrap (v + c) = u := by rw [i64_wrap]; exact hu0
        have hx' : IntKind.i64.wrap (u + 7) = x := by rw [i64_wrap]; exact hx
        obtain ⟨ad, hA, hcell⟩ := Kd.at_int hC i h2 h3
        subst hA
        rw [hb] at hcell
        have hne : ad.block ≠ g := by
          have := World.block_lt_of_cell? w0 _ hcell
          rw [add_blk] at this
          omega
        have hcw : w.cell? (ad.add i.toNat) = some (.int .u8 b) := (hB.cell (World.block_lt_of_cell? w0 _ hcell)).trans hcell
        have hcw1 : ∀ y, (w.setCell ⟨g, 1, none⟩ y).cell? (ad.add i.toNat) = some (.int .u8 b) := fun y => (World.cell?_of_block (Below.heap_setCell w ⟨g, 1, none⟩ y _ (by rw [add_blk]; exact hne))).trans hcw
        have hcw2 : ∀ y m z, (((w.setCell ⟨g, 1, none⟩ y).drewN m).setCell ⟨g, 2, none⟩ z).cell? (ad.add i.toNat) = some (.int .u8 b) := fun y m z => (World.cell?_of_block (Below.heap_setCell _ ⟨g, 2, none⟩ z _ (by rw [add_blk]; exact hne))).trans (hcw1 y)
        have hres : Aside0 (IsS80 w0 (w.setCell ⟨g, 1, none⟩ (.int .i64 p)) g l p s) := ⟨IsS80.set_1 ⟨_, c0, hg, hge, hC⟩ p⟩
        have HBW : Aside0 (Below w0.heap.size w0 (w.setCell ⟨g, 1, none⟩ (.int .i64 p))) := ⟨below_set hB hge⟩
        have HK : Aside0 (KeepBut w (w.setCell ⟨g, 1, none⟩ (.int .i64 p)) g none) := ⟨keep_set w g 1 _⟩
        clear hg hB hC hp hv hu0 hx hc hi hb hcell hcw
        generalize l.length = n at *
        go_enter Tryz.func92, Tryz.ntmps92
        go_wp2_with fail
        go_quiet (fail)
        go_wp2
        go_region
        all_goals
          go_wp2_with fail
          go_quiet (fail)
          go_wp2
          go_ret
          exact ⟨rfl, by repeat (first | exact hres.out | apply IsS80.drewN | apply IsS80.drew | apply IsS80.set_2), by repeat (first | exact HBW.out | apply pw_below_drewN | apply below_drew1 | refine below_set ?_ hge), by repeat (first | exact HK.out | apply keep_drewN | apply keep_drew | apply KeepBut.set_)⟩
      · rw [if_pos h2, if_neg h3] at h
        cases h
    · rw [if_neg h2] at h
      cases h
  · rw [if_neg h1] at h
    by_cases h2 : p > 3000
    · rw [if_pos h2] at h
      injection h with h
      injection h with e1 h
      injection h with e2 e3
      subst e1
      subst e2
      subst e3
      have hres : Aside0 (IsS80 w0 (w.setCell ⟨g, 1, none⟩ (.int .i64 p)) g l p s) := ⟨IsS80.set_1 ⟨A0, c0, hg, hge, hC⟩ p⟩
      have h1' : ¬ (p ≤ (l.length : Int)) := h1
      clear hg hB hC hp
      generalize l.length = n at *
      go_enter Tryz.func92, Tryz.ntmps92
      go_wp2_with fail
      go_quiet (fail)
      go_wp2
      go_ret
      exact ⟨rfl, IsS80.drewN hres.out _, pw_below_drewN (below_set HB.out hge) _, keep_drewN (keep_set w g 1 _) _⟩
    · rw [if_neg h2] at h
      obtain ⟨q, hq⟩ : ∃ q, Int.tmod (wrap64 (wrap64 (s * 1103515245) + 12345)) 2147483648 = q := ⟨_, rfl⟩
      obtain ⟨u, hu0⟩ : ∃ u, wrap64 (wrap64 (s * 1103515245) + 12345) = u := ⟨_, rfl⟩
      obtain ⟨v, hv⟩ : ∃ v, wrap64 (s * 1103515245) = v := ⟨_, rfl⟩
      obtain ⟨x, hx⟩ : ∃ x, wrap64 (Int.tdiv q 65536) = x := ⟨_, rfl⟩
      rw [hq, hx] at h
      injection h with h
      injection h with e1 h
      injection h with e2 e3
      subst e1
      subst e2
      subst e3
      have hv' : IntKind.i64.wrap (s * 1103515245) = v := by rw [i64_wrap]; exact hv
      have hu' : IntKind.i64.wrap (v + 12345) = u := by rw [i64_wrap, ← hv]; exact hu0
      have hq' : Int.tmod u 2147483648 = q := by rw [← hu0]; exact hq
      have hx' : IntKind.i64.wrap (Int.tdiv q 65536) = x := by rw [i64_wrap]; exact hx
      have hres : Aside0 (IsS80 w0 (w.setCell ⟨g, 1, none⟩ (.int .i64 p)) g l p s) := ⟨IsS80.set_1 ⟨A0, c0, hg, hge, hC⟩ p⟩
      have h1' : ¬ (p ≤ (l.length : Int)) := h1
      have h2' : ¬ (3000 < p) := h2
      clear hg hB hC hp hv hu0 hx hq h2
      generalize l.length = n at *
      go_enter Tryz.func92, Tryz.ntmps92
      go_wp2_with fail
      go_quiet (fail)
      go_wp2
      go_ret
      exact ⟨rfl, IsS80.set_2 (IsS80.drewN hres.out _) _, below_set (pw_below_drewN (below_set HB.out hge) _) hge, (keep_drewN (keep_set w g 1 _) _).set_ _ _⟩
end Go.Proofs.YtpkfdjlmflmilaaGreatDoor.Q
end
section
namespace Go.Proofs.YtpkfdjlmflmilaaGreatDoor.Q
open Go.RowKit Go.Proofs.YtpkfdjlmflmilaaGreatDoorW.PrintWords Go.Proofs.YtpkfdjlmflmilaaGreatDoorW.PrintLast Go.Proofs.YtpkfdjlmflmilaaGreatDoorW.PrintMore
attribute [local go_sem] max2_int min2_int max_two min_two max_three min_three max_four min_four   -- for this text's walks alone
set_option linter.unusedVariables false
set_option linter.unusedSimpArgs false

/-! ### spec_l00Src_next: function 73 -/
def spec_l00Src_next.f (s0_0 : List Int) (s0_1 : Int) (s0_2 : Int) (a1 : Int) : Option (Int × Int × Int) := if a1 ≤ 1 then (some (0, s0_1, s0_2)) else (if a1 ≤ 256 then ((spec_l00Src_byte.f s0_0 s0_1 s0_2).bind fun bt384 => (if a1 = 0 then (none) else (some (Int.tmod bt384.1 a1, bt384.2.1, bt384.2.2)))) else ((spec_l00Src_byte.f s0_0 s0_1 s0_2).bind fun bt387 => ((spec_l00Src_byte.f s0_0 bt387.2.1 bt387.2.2).bind fun bt390 => ((spec_l00Src_byte.f s0_0 bt390.2.1 bt390.2.2).bind fun bt393 => (if a1 = 0 then (none) else (some (Int.tmod (wrap64 ((wrap64 ((wrap64 (bt387.1 * 65536)) + (wrap64 (bt390.1 * 256)))) + bt393.1)) a1, bt393.2.1, bt393.2.2)))))))
set_option maxHeartbeats 8000000 in
set_option maxRecDepth 100000 in
theorem spec_l00Src_next.calls (g : Nat) (s0_0 : List Int) (s0_1 : Int) (s0_2 : Int) (a1 : Int) (r1 : Int) (r2 : Int) (r3 : Int) (w0 w : World) (hI : IsS80 w0 w g s0_0 s0_1 s0_2) (hB : Below w0.heap.size w0 w) (h : spec_l00Src_next.f s0_0 s0_1 s0_2 a1 = some (r1, r2, r3)) :
    Calls Tryz.prog 73 #[.pointer (some ⟨g, 0, none⟩), .int .i64 a1] w fun e w' => e = .returned (.int .i64 r1) ∧ IsS80 w0 w' g s0_0 r2 r3 ∧ Below w0.heap.size w0 w' ∧ KeepBut w w' g none := by
  have HI0 := Aside0.mk hI
  have HK := Aside0.mk (KeepBut.refl w g none)
  have HL := Aside0.mk hB.size
  clear hI
  have HW0 := Aside0.mk hB.size
  have HB := Aside0.mk hB
  clear hB
  have H : (if a1 ≤ 1 then (some (0, s0_1, s0_2)) else (if a1 ≤ 256 then ((spec_l00Src_byte.f s0_0 s0_1 s0_2).bind fun bt384 => (if a1 = 0 then (none) else (some (Int.tmod bt384.1 a1, bt384.2.1, bt384.2.2)))) else ((spec_l00Src_byte.f s0_0 s0_1 s0_2).bind fun bt387 => ((spec_l00Src_byte.f s0_0 bt387.2.1 bt387.2.2).bind fun bt390 => ((spec_l00Src_byte.f s0_0 bt390.2.1 bt390.2.2).bind fun bt393 => (if a1 = 0 then (none) else (some (Int.tmod (wrap64 ((wrap64 ((wrap64 (bt387.1 * 65536)) + (wrap64 (bt390.1 * 256)))) + bt393.1)) a1, bt393.2.1, bt393.2.2)))))))) = some (r1, r2, r3) := h
  clear h
  by_cases c3 : a1 ≤ 1
  · rw [if_pos c3] at H
    have c3b0 : decide (a1 ≤ 1) = true := decide_eq_true c3
    clear c3
    simp only [Option.some.injEq, Prod.mk.injEq] at H
    obtain ⟨rfl, rfl, rfl⟩ := H
    go_enter Tryz.func73, Tryz.ntmps73
    go_wp2
    go_ret
    exact ⟨by first | rfl | (simp [errW_none, errW_some] <;> rfl) | (simp [*, errW_none, errW_some] <;> rfl), by repeat (first | (with_reducible first | exact HI0.out | apply IsS80.alloc | apply IsS80.drewN | apply IsS80.drew | apply IsS80.set_1 | apply IsS80.set_2) | exact HI0.out), by repeat (first | (with_reducible first | exact HB.out | apply below_alloc | apply pw_below_drewN | apply below_drew1 | refine below_set ?_ (IsS80.ge HI0.out)) | exact HB.out), by repeat (first | (with_reducible first | exact HK.out | apply KeepBut.set_ | apply keep_drewN | apply keep_drew | apply keep_alloc) | exact HK.out)⟩
  · rw [if_neg c3] at H
    have c3b0 : decide (a1 ≤ 1) = false := decide_eq_false c3
    clear c3
    by_cases c4 : a1 ≤ 256
    · rw [if_pos c4] at H
      have c4b0 : decide (a1 ≤ 256) = true := decide_eq_true c4
      clear c4
      replace H := Option.bind_eq_some_iff.mp H
      obtain ⟨⟨t384, t385, t386⟩, A50, H⟩ := H
      replace H : (if a1 = 0 then (none) else (some (Int.tmod t384 a1, t385, t386))) = some (r1, r2, r3) := H
      have A5 := Aside0.mk A50
      clear A50
      by_cases c6 : a1 = 0
      · rw [if_pos c6] at H
        exact absurd H (by simp)
      · rw [if_neg c6] at H
        have c6b0 : (a1 == 0) = false := beq_eq_false_iff_ne.mpr c6
        have c6b1 : (a1 != 0) = true := bne_iff_ne.mpr c6
        simp only [Option.some.injEq, Prod.mk.injEq] at H
        obtain ⟨rfl, rfl, rfl⟩ := H
        go_enter Tryz.func73, Tryz.ntmps73
        go_wp2_with (first | ((with_reducible refine gate_callee (f := 92) rfl ?_); refine goesL_ (some 13) rfl rfl Tryz.func92 (by kernel_rfl) rfl #[.pointer (some ⟨g, 0, none⟩)] rfl (by (try simp only [List.map_toArray, List.map_cons, List.map_nil]); first | done | rfl | (simp only [List.length_drop, List.length_take]; rfl)) ?_; (with_reducible refine (spec_l00Src_byte.calls g s0_0 s0_1 s0_2 t384 t385 t386 w0 _ ?side1 ?side2 A5.out).mono ?_); (case side1 => repeat (first | (with_reducible first | exact HI0.out | apply IsS80.alloc | apply IsS80.drewN | apply IsS80.drew | apply IsS80.set_1 | apply IsS80.set_2) | exact HI0.out)); (case side2 => repeat (first | (with_reducible first | exact HB.out | apply below_alloc | apply pw_below_drewN | apply below_drew1 | refine below_set ?_ (IsS80.ge HI0.out)) | exact HB.out)); rintro e w7 ⟨rfl, hi, hb, hk⟩; refine ⟨_, rfl, ?_⟩; have n0_ := Aside0.mk (KeepBut.trans (by repeat (first | (with_reducible first | exact HK.out | apply KeepBut.set_ | apply keep_drewN | apply keep_drew | apply keep_alloc) | exact HK.out)) hk (.inl rfl)); have n1_ := Aside0.mk (hb); have n2_ := Aside0.mk (hi); clear HK; clear HB; clear HI0; have HK := n0_; have HB := n1_; have HI0 := n2_; clear n0_ n1_ n2_; (try clear hb); (try clear hb2); (try clear hk); (try clear hi)))
        go_ret
        exact ⟨by first | rfl | (simp [errW_none, errW_some] <;> rfl) | (simp [*, errW_none, errW_some] <;> rfl), by repeat (first | (with_reducible first | exact HI0.out | apply IsS80.alloc | apply IsS80.drewN | apply IsS80.drew | apply IsS80.set_1 | apply IsS80.set_2) | exact HI0.out), by repeat (first | (with_reducible first | exact HB.out | apply below_alloc | apply pw_below_drewN | apply below_drew1 | refine below_set ?_ (IsS80.ge HI0.out)) | exact HB.out), by repeat (first | (with_reducible first | exact HK.out | apply KeepBut.set_ | apply keep_drewN | apply keep_drew | apply keep_alloc) | exact HK.out)⟩
    · rw [if_neg c4] at H
      have c4b0 : decide (a1 ≤ 256) = false := decide_eq_false c4
      clear c4
      replace H := Option.bind_eq_some_iff.mp H
      obtain ⟨⟨t387, t388, t389⟩, A80, H⟩ := H
      replace H : ((spec_l00Src_byte.f s0_0 t388 t389).bind fun bt390 => ((spec_l00Src_byte.f s0_0 bt390.2.1 bt390.2.2).bind fun bt393 => (if a1 = 0 then (none) else (some (Int.tmod (wrap64 ((wrap64 ((wrap64 (t387 * 65536)) + (wrap64 (bt390.1 * 256)))) + bt393.1)) a1, bt393.2.1, bt393.2.2))))) = some (r1, r2, r3) := H
      have A8 := Aside0.mk A80
      clear A80
      replace H := Option.bind_eq_some_iff.mp H
      obtain ⟨⟨t390, t391, t392⟩, A90, H⟩ := H
      replace H : ((spec_l00Src_byte.f s0_0 t391 t392).bind fun bt393 => (if a1 = 0 then (none) else (some (Int.tmod (wrap64 ((wrap64 ((wrap64 (t387 * 65536)) + (wrap64 (t390 * 256)))) + bt393.1)) a1, bt393.2.1, bt393.2.2)))) = some (r1, r2, r3) := H
      have A9 := Aside0.mk A90
      clear A90
      replace H := Option.bind_eq_some_iff.mp H
      obtain ⟨⟨t393, t394, t395⟩, A100, H⟩ := H
      replace H : (if a1 = 0 then (none) else (some (Int.tmod (wrap64 ((wrap64 ((wrap64 (t387 * 65536)) + (wrap64 (t390 * 256)))) + t393)) a1, t394, t395))) = some (r1, r2, r3) := H
      have A10 := Aside0.mk A100
      clear A100
      by_cases c11 : a1 = 0
      · rw [if_pos c11] at H
        exact absurd H (by simp)
      · rw [if_neg c11] at H
        have c11b0 : (a1 == 0) = false := beq_eq_false_iff_ne.mpr c11
        have c11b1 : (a1 != 0) = true := bne_iff_ne.mpr c11
        simp only [Option.some.injEq, Prod.mk.injEq] at H
        obtain ⟨rfl, rfl, rfl⟩ := H
        go_enter Tryz.func73, Tryz.ntmps73
        go_wp2_with (first | ((with_reducible refine gate_callee (f := 92) rfl ?_); refine goesL_ (some 17) rfl rfl Tryz.func92 (by kernel_rfl) rfl #[.pointer (some ⟨g, 0, none⟩)] rfl (by (try simp only [List.map_toArray, List.map_cons, List.map_nil]); first | done | rfl | (simp only [List.length_drop, List.length_take]; rfl)) ?_; (with_reducible refine (spec_l00Src_byte.calls g s0_0 s0_1 s0_2 t387 t388 t389 w0 _ ?side1 ?side2 A8.out).mono ?_); (case side1 => repeat (first | (with_reducible first | exact HI0.out | apply IsS80.alloc | apply IsS80.drewN | apply IsS80.drew | apply IsS80.set_1 | apply IsS80.set_2) | exact HI0.out)); (case side2 => repeat (first | (with_reducible first | exact HB.out | apply below_alloc | apply pw_below_drewN | apply below_drew1 | refine below_set ?_ (IsS80.ge HI0.out)) | exact HB.out)); rintro e w12 ⟨rfl, hi, hb, hk⟩; refine ⟨_, rfl, ?_⟩; have n0_ := Aside0.mk (KeepBut.trans (by repeat (first | (with_reducible first | exact HK.out | apply KeepBut.set_ | apply keep_drewN | apply keep_drew | apply keep_alloc) | exact HK.out)) hk (.inl rfl)); have n1_ := Aside0.mk (hb); have n2_ := Aside0.mk (hi); clear HK; clear HB; clear HI0; have HK := n0_; have HB := n1_; have HI0 := n2_; clear n0_ n1_ n2_; (try clear hb); (try clear hb2); (try clear hk); (try clear hi)) | ((with_reducible refine gate_callee (f := 92) rfl ?_); refine goesL_ (some 19) rfl rfl Tryz.func92 (by kernel_rfl) rfl #[.pointer (some ⟨g, 0, none⟩)] rfl (by (try simp only [List.map_toArray, List.map_cons, List.map_nil]); first | done | rfl | (simp only [List.length_drop, List.length_take]; rfl)) ?_; (with_reducible refine (spec_l00Src_byte.calls g s0_0 t388 t389 t390 t391 t392 w0 _ ?side1 ?side2 A9.out).mono ?_); (case side1 => repeat (first | (with_reducible first | exact HI0.out | apply IsS80.alloc | apply IsS80.drewN | apply IsS80.drew | apply IsS80.set_1 | apply IsS80.set_2) | exact HI0.out)); (case side2 => repeat (first | (with_reducible first | exact HB.out | apply below_alloc | apply pw_below_drewN | apply below_drew1 | refine below_set ?_ (IsS80.ge HI0.out)) | exact HB.out)); rintro e w13 ⟨rfl, hi, hb, hk⟩; refine ⟨_, rfl, ?_⟩; have n0_ := Aside0.mk (KeepBut.trans (by repeat (first | (with_reducible first | exact HK.out | apply KeepBut.set_ | apply keep_drewN | apply keep_drew | apply keep_alloc) | exact HK.out)) hk (.inl rfl)); have n1_ := Aside0.mk (hb); have n2_ := Aside0.mk (hi); clear HK; clear HB; clear HI0; have HK := n0_; have HB := n1_; have HI0 := n2_; clear n0_ n1_ n2_; (try clear hb); (try clear hb2); (try clear hk); (try clear hi)) | ((with_reducible refine gate_callee (f := 92) rfl ?_); refine goesL_ (some 21) rfl rfl Tryz.func92 (by kernel_rfl) rfl #[.pointer (some ⟨g, 0, none⟩)] rfl (by (try simp only [List.map_toArray, List.map_cons, List.map_nil]); first | done | rfl | (simp only [List.length_drop, List.length_take]; rfl)) ?_; (with_reducible refine (spec_l00Src_byte.calls g s0_0 t391 t392 t393 t394 t395 w0 _ ?side1 ?side2 A10.out).mono ?_); (case side1 => repeat (first | (with_reducible first | exact HI0.out | apply IsS80.alloc | apply IsS80.drewN | apply IsS80.drew | apply IsS80.set_1 | apply IsS80.set_2) | exact HI0.out)); (case side2 => repeat (first | (with_reducible first | exact HB.out | apply below_alloc | apply pw_below_drewN | apply below_drew1 | refine below_set ?_ (IsS80.ge HI0.out)) | exact HB.out)); rintro e w14 ⟨rfl, hi, hb, hk⟩; refine ⟨_, rfl, ?_⟩; have n0_ := Aside0.mk (KeepBut.trans (by repeat (first | (with_reducible first | exact HK.out | apply KeepBut.set_ | apply keep_drewN | apply keep_drew | apply keep_alloc) | exact HK.out)) hk (.inl rfl)); have n1_ := Aside0.mk (hb); have n2_ := Aside0.mk (hi); clear HK; clear HB; clear HI0; have HK := n0_; have HB := n1_; have HI0 := n2_; clear n0_ n1_ n2_; (try clear hb); (try clear hb2); (try clear hk); (try clear hi)))
        go_ret
        exact ⟨by first | rfl | (simp [errW_none, errW_some] <;> rfl) | (simp [*, errW_none, errW_some] <;> rfl), by repeat (first | (with_reducible first | exact HI0.out | apply IsS80.alloc | apply IsS80.drewN | apply IsS80.drew | apply IsS80.set_1 | apply IsS80.set_2) | exact HI0.out), by repeat (first | (with_reducible first | exact HB.out | apply below_alloc | apply pw_below_drewN | apply below_drew1 | refine below_set ?_ (IsS80.ge HI0.out)) | exact HB.out), by repeat (first | (with_reducible first | exact HK.out | apply KeepBut.set_ | apply keep_drewN | apply keep_drew | apply keep_alloc) | exact HK.out)⟩

/-! ### spec_l00Src_pick: function 74 -/
def spec_l00Src_pick.f (s0_0 : List Int) (s0_1 : Int) (s0_2 : Int) (l1 : List ByteArray) : Option (ByteArray × Int × Int) := if (l1.length : Int) = 0 then (some ((⟨#[]⟩ : ByteArray), s0_1, s0_2)) else ((spec_l00Src_next.f s0_0 s0_1 s0_2 (l1.length : Int)).bind fun bt396 => (if 0 ≤ bt396.1 then (if bt396.1 < (l1.length : Int) then (some (rdOf ByteArray.empty l1 bt396.1, bt396.2.1, bt396.2.2)) else (none)) else (none)))
set_option maxHeartbeats 8000000 in
set_option maxRecDepth 100000 in
theorem spec_l00Src_pick.calls (g : Nat) (s0_0 : List Int) (s0_1 : Int) (s0_2 : Int) (A1 : Option Addr) (c1 : Nat) (l1 : List ByteArray) (r1 : ByteArray) (r2 : Int) (r3 : Int) (w0 w : World) (hI : IsS80 w0 w g s0_0 s0_1 s0_2) (hB : Below w0.heap.size w0 w) (hr1 : Kd.C Kd.string w A1 l1.length l1) (hc1 : l1.length ≤ c1) (hf1 : ∀ ad, A1 = some ad → 0 < l1.length → ad.block ≠ g) (h : spec_l00Src_pick.f s0_0 s0_1 s0_2 l1 = some (r1, r2, r3)) :
    Calls Tryz.prog 74 #[.pointer (some ⟨g, 0, none⟩), .slice A1 l1.length c1] w fun e w' => e = .returned (.string r1) ∧ IsS80 w0 w' g s0_0 r2 r3 ∧ Below w0.heap.size w0 w' ∧ KeepBut w w' g none := by
  have HR1 := Aside0.mk hr1
  have HC1 := Aside0.mk hc1
  clear hr1 hc1
  have HI0 := Aside0.mk hI
  have HK := Aside0.mk (KeepBut.refl w g none)
  have HL := Aside0.mk hB.size
  clear hI
  have HW0 := Aside0.mk hB.size
  have HB := Aside0.mk hB
  clear hB
  have H : (if (l1.length : Int) = 0 then (some ((⟨#[]⟩ : ByteArray), s0_1, s0_2)) else ((spec_l00Src_next.f s0_0 s0_1 s0_2 (l1.length : Int)).bind fun bt396 => (if 0 ≤ bt396.1 then (if bt396.1 < (l1.length : Int) then (some (rdOf ByteArray.empty l1 bt396.1, bt396.2.1, bt396.2.2)) else (none)) else (none)))) = some (r1, r2, r3) := h
  clear h
  by_cases c3 : (l1.length : Int) = 0
  · rw [if_pos c3] at H
    have c3b0 : ((l1.length : Int) == 0) = true := beq_iff_eq.mpr c3
    have c3b1 : ((l1.length : Int) != 0) = false := bne_eq_false_iff_eq.mpr c3
    clear c3
    simp only [Option.some.injEq, Prod.mk.injEq] at H
    obtain ⟨rfl, rfl, rfl⟩ := H
    go_enter Tryz.func74, Tryz.ntmps74
    go_wp2
    go_ret
    exact ⟨by first | rfl | (simp [errW_none, errW_some] <;> rfl) | (simp [*, errW_none, errW_some] <;> rfl), by repeat (first | (with_reducible first | exact HI0.out | apply IsS80.alloc | apply IsS80.drewN | apply IsS80.drew | apply IsS80.set_1 | apply IsS80.set_2) | exact HI0.out), by repeat (first | (with_reducible first | exact HB.out | apply below_alloc | apply pw_below_drewN | apply below_drew1 | refine below_set ?_ (IsS80.ge HI0.out)) | exact HB.out), by repeat (first | (with_reducible first | exact HK.out | apply KeepBut.set_ | apply keep_drewN | apply keep_drew | apply keep_alloc) | exact HK.out)⟩
  · rw [if_neg c3] at H
    have c3b0 : ((l1.length : Int) == 0) = false := beq_eq_false_iff_ne.mpr c3
    have c3b1 : ((l1.length : Int) != 0) = true := bne_iff_ne.mpr c3
    have c3b2 : ¬ (l1 = []) := fun h_ => c3 (by rw [h_]; rfl)
    replace H := Option.bind_eq_some_iff.mp H
    obtain ⟨⟨t396, t397, t398⟩, A40, H⟩ := H
    replace H : (if 0 ≤ t396 then (if t396 < (l1.length : Int) then (some (rdOf ByteArray.empty l1 t396, t397, t398)) else (none)) else (none)) = some (r1, r2, r3) := H
    have A4 := Aside0.mk A40
    clear A40
    by_cases c5 : 0 ≤ t396
    · rw [if_pos c5] at H
      have c5b0 : decide (0 ≤ t396) = true := decide_eq_true c5
      clear c5
      by_cases c6 : t396 < (l1.length : Int)
      · rw [if_pos c6] at H
        have c6b0 : decide (t396 < (l1.length : Int)) = true := decide_eq_true c6
        clear c6
        simp only [Option.some.injEq, Prod.mk.injEq] at H
        obtain ⟨rfl, rfl, rfl⟩ := H
        go_enter Tryz.func74, Tryz.ntmps74
        go_wp2_with (first | ((with_reducible refine gate_callee (f := 73) rfl ?_); refine goesL_ (some 12) rfl rfl Tryz.func73 (by kernel_rfl) rfl #[.pointer (some ⟨g, 0, none⟩), .int .i64 (l1.length : Int)] rfl (by (try simp only [List.map_toArray, List.map_cons, List.map_nil]); first | done | rfl | (simp only [List.length_drop, List.length_take]; rfl)) ?_; (with_reducible refine (spec_l00Src_next.calls g s0_0 s0_1 s0_2 (l1.length : Int) t396 t397 t398 w0 _ ?side1 ?side2 A4.out).mono ?_); (case side1 => repeat (first | (with_reducible first | exact HI0.out | apply IsS80.alloc | apply IsS80.drewN | apply IsS80.drew | apply IsS80.set_1 | apply IsS80.set_2) | exact HI0.out)); (case side2 => repeat (first | (with_reducible first | exact HB.out | apply below_alloc | apply pw_below_drewN | apply below_drew1 | refine below_set ?_ (IsS80.ge HI0.out)) | exact HB.out)); rintro e w7 ⟨rfl, hi, hb, hk⟩; refine ⟨_, rfl, ?_⟩; have n0_ := Aside0.mk (KeepBut.trans (by repeat (first | (with_reducible first | exact HK.out | apply KeepBut.set_ | apply keep_drewN | apply keep_drew | apply keep_alloc) | exact HK.out)) hk (.inl rfl)); have n1_ := Aside0.mk (hb); have n2_ := Aside0.mk (hi); clear HK; clear HB; clear HI0; have HK := n0_; have HB := n1_; have HI0 := n2_; clear n0_ n1_ n2_; (try clear hb); (try clear hb2); (try clear hk); (try clear hi); have p399 : 0 ≤ (t396 : Int) := of_decide_eq_true (by first | (with_reducible assumption) | assumption); have q399 : t396 < (l1.length : Int) := of_decide_eq_true (by first | (with_reducible assumption) | assumption); obtain ⟨ad399, e399, hx399_0⟩ := Kd.at_string HR1.out t396 p399 q399; cases e399; replace hx399_0 := keep_cell HK.out hx399_0 (by first | (rw [add_block]; exact hf1 _ rfl (by omega)) | exact hf1 _ rfl (by omega) | exact hf1 ad399 rfl (by omega)); replace p399 := eq_true p399; replace q399 := eq_true q399))
        go_ret
        exact ⟨by first | rfl | (simp [errW_none, errW_some] <;> rfl) | (simp [*, errW_none, errW_some] <;> rfl), by repeat (first | (with_reducible first | exact HI0.out | apply IsS80.alloc | apply IsS80.drewN | apply IsS80.drew | apply IsS80.set_1 | apply IsS80.set_2) | exact HI0.out), by repeat (first | (with_reducible first | exact HB.out | apply below_alloc | apply pw_below_drewN | apply below_drew1 | refine below_set ?_ (IsS80.ge HI0.out)) | exact HB.out), by repeat (first | (with_reducible first | exact HK.out | apply KeepBut.set_ | apply keep_drewN | apply keep_drew | apply keep_alloc) | exact HK.out)⟩
      · rw [if_neg c6] at H
        exact absurd H (by simp)
    · rw [if_neg c5] at H
      exact absurd H (by simp)

/-! ### spec_l00Src_account: function 44 -/
def spec_l00Src_account.f (s0_0 : List Int) (s0_1 : Int) (s0_2 : Int) : Option (ByteArray × Int × Int) := (spec_l00Src_pick.f s0_0 s0_1 s0_2 (([(⟨#[97, 110, 110]⟩ : ByteArray), (⟨#[98, 111, 98]⟩ : ByteArray), (⟨#[99, 121]⟩ : ByteArray)] : List ByteArray))).bind fun bt403 => (some (bt403.1, bt403.2.1, bt403.2.2))
set_option maxHeartbeats 8000000 in
set_option maxRecDepth 100000 in
theorem spec_l00Src_account.calls (g : Nat) (s0_0 : List Int) (s0_1 : Int) (s0_2 : Int) (r1 : ByteArray) (r2 : Int) (r3 : Int) (w0 w : World) (hI : IsS80 w0 w g s0_0 s0_1 s0_2) (hB : Below w0.heap.size w0 w) (h : spec_l00Src_account.f s0_0 s0_1 s0_2 = some (r1, r2, r3)) :
    Calls Tryz.prog 44 #[.pointer (some ⟨g, 0, none⟩)] w fun e w' => e = .returned (.string r1) ∧ IsS80 w0 w' g s0_0 r2 r3 ∧ Below w0.heap.size w0 w' ∧ KeepBut w w' g none := by
  have HI0 := Aside0.mk hI
  have HK := Aside0.mk (KeepBut.refl w g none)
  have HL := Aside0.mk hB.size
  clear hI
  have HW0 := Aside0.mk hB.size
  have HB := Aside0.mk hB
  clear hB
  have H : ((spec_l00Src_pick.f s0_0 s0_1 s0_2 (([(⟨#[97, 110, 110]⟩ : ByteArray), (⟨#[98, 111, 98]⟩ : ByteArray), (⟨#[99, 121]⟩ : ByteArray)] : List ByteArray))).bind fun bt403 => (some (bt403.1, bt403.2.1, bt403.2.2))) = some (r1, r2, r3) := h
  clear h
  obtain ⟨y400, hy400⟩ : ∃ y_ : List ByteArray, y_ = (([(⟨#[97, 110, 110]⟩ : ByteArray), (⟨#[98, 111, 98]⟩ : ByteArray), (⟨#[99, 121]⟩ : ByteArray)] : List ByteArray)) := ⟨_, rfl⟩
  replace H : ((spec_l00Src_pick.f s0_0 s0_1 s0_2 y400).bind fun bt403 => (some (bt403.1, bt403.2.1, bt403.2.2))) = some (r1, r2, r3) := by first | (rw [hy400]; with_reducible exact H) | (have H2_ := (Option.bind_some _ _).symm.trans H; rw [hy400]; with_reducible exact H2_) | (have H2_ := (Option.bind_some _ _).symm.trans H; with_reducible exact H2_) | with_reducible exact H | (rw [hy400]; exact H) | exact H
  have Ny400 := Aside0.mk hy400
  clear hy400
  replace H := Option.bind_eq_some_iff.mp H
  obtain ⟨⟨t403, t404, t405⟩, A20, H⟩ := H
  replace H : (some (t403, t404, t405)) = some (r1, r2, r3) := H
  have A2 := Aside0.mk A20
  clear A20
  simp only [Option.some.injEq, Prod.mk.injEq] at H
  obtain ⟨rfl, rfl, rfl⟩ := H
  go_enter Tryz.func44, Tryz.ntmps44
  go_wp2_with (first | ((with_reducible refine gate_dst (N := 4) rfl ?_); refine Kd.R_lit Kd.string _ 9 ?hg (N := 4) ?hd (xs := ([(⟨#[97, 110, 110]⟩ : ByteArray), (⟨#[98, 111, 98]⟩ : ByteArray), (⟨#[99, 121]⟩ : ByteArray)] : List ByteArray)) (inner := [.string (⟨#[97, 110, 110]⟩ : ByteArray), .string (⟨#[98, 111, 98]⟩ : ByteArray), .string (⟨#[99, 121]⟩ : ByteArray)]) (ok := fun _ => True) (okp := fun _ => True) ?hr ?hp (fun _ hk => hk) trivial (Below.refl _ _) (Nat.le_refl _) (by simp) ?_; (case hd => rfl); (case hg => rfl); (case hr => first | (go_simp; done) | (go_simp; rfl)); (case hp => exact (Reps.one (show Kd.M Kd.string _ _ _ (⟨#[97, 110, 110]⟩ : ByteArray) [.string (⟨#[97, 110, 110]⟩ : ByteArray)] from rfl) (Reps.one (show Kd.M Kd.string _ _ _ (⟨#[98, 111, 98]⟩ : ByteArray) [.string (⟨#[98, 111, 98]⟩ : ByteArray)] from rfl) (Reps.one (show Kd.M Kd.string _ _ _ (⟨#[99, 121]⟩ : ByteArray) [.string (⟨#[99, 121]⟩ : ByteArray)] from rfl) (Reps.none _ _))))); intro v401 w3 ho4 hb hg_ hnew_; clear hg_ hnew_; (first | rw [← Ny400.out] at ho4 | (simp only [Int.reduceToNat] at ho4; rw [← Ny400.out] at ho4)); have n0_ := Aside0.mk (Kd.R_lower ho4 (keep_size (w := w) (g := g) (row := none) (by repeat (first | (with_reducible first | exact HK.out | apply KeepBut.set_ | apply keep_drewN | apply keep_drew | apply keep_alloc) | exact HK.out)))); have n1_ := Aside0.mk (IsS80.below (by repeat (first | (with_reducible first | exact HI0.out | apply IsS80.alloc | apply IsS80.drewN | apply IsS80.drew | apply IsS80.set_1 | apply IsS80.set_2) | exact HI0.out)) hb); have n2_ := Aside0.mk (KeepBut.trans (by repeat (first | (with_reducible first | exact HK.out | apply KeepBut.set_ | apply keep_drewN | apply keep_drew | apply keep_alloc) | exact HK.out)) (KeepBut.of_below hb g none) (.inl rfl)); have n3_ := Aside0.mk (below_step (by repeat (first | (with_reducible first | exact HB.out | apply below_alloc | apply pw_below_drewN | apply below_drew1 | refine below_set ?_ (IsS80.ge HI0.out)) | exact HB.out)) hb); clear HI0; clear HK; clear HB; have HO402 := n0_; have HI0 := n1_; have HK := n2_; have HB := n3_; clear n0_ n1_ n2_ n3_; clear hb ho4; obtain ⟨Ao5, co5, eo5⟩ := Kd.R_slice HO402.out; subst eo5) | ((with_reducible refine gate_callee (f := 74) rfl ?_); refine goesL_ (some 5) rfl rfl Tryz.func74 (by kernel_rfl) rfl #[.pointer (some ⟨g, 0, none⟩), .slice Ao5 y400.length co5] rfl (by (try simp only [List.map_toArray, List.map_cons, List.map_nil]); first | done | rfl | (simp only [List.length_drop, List.length_take]; rfl)) ?_; (with_reducible refine (spec_l00Src_pick.calls g s0_0 s0_1 s0_2 _ _ y400 t403 t404 t405 w0 _ ?side1 ?side2 ?side3 ?side4 ?side5 A2.out).mono ?_); (case side1 => repeat (first | (with_reducible first | exact HI0.out | apply IsS80.alloc | apply IsS80.drewN | apply IsS80.drew | apply IsS80.set_1 | apply IsS80.set_2) | exact HI0.out)); (case side2 => repeat (first | (with_reducible first | exact HB.out | apply below_alloc | apply pw_below_drewN | apply below_drew1 | refine below_set ?_ (IsS80.ge HI0.out)) | exact HB.out)); (case side3 => repeat (first | exact (Kd.R_reads' HO402.out).2.2 | (with_reducible refine Kd.C_alloc ?_ _) | (with_reducible refine Kd.C_drewN ?_ _) | (with_reducible refine Kd.C_drew ?_))); (case side4 => exact (Kd.R_reads' HO402.out).2.1); (case side5 => exact far_slice (IsS80.own_ne HI0.out HO402.out (by decide))); rintro e w6 ⟨rfl, hi, hb, hk⟩; refine ⟨_, rfl, ?_⟩; have n0_ := Aside0.mk (Kd.R_mono (Kd.R_keep (IsS80.apart (show IsS80 w0 _ g s0_0 s0_1 s0_2 from by repeat (first | (with_reducible first | exact HI0.out | apply IsS80.alloc | apply IsS80.drewN | apply IsS80.drew | apply IsS80.set_1 | apply IsS80.set_2) | exact HI0.out)) (by (with_reducible repeat (first | apply Kd.R_alloc | apply Kd.R_drewN | apply Kd.R_drew)); exact HO402.out) (by decide)) hk (fun _ h => h.2)) (fun _ h => h.1)); have n1_ := Aside0.mk (KeepBut.trans (by repeat (first | (with_reducible first | exact HK.out | apply KeepBut.set_ | apply keep_drewN | apply keep_drew | apply keep_alloc) | exact HK.out)) hk (.inl rfl)); have n2_ := Aside0.mk (hb); have n3_ := Aside0.mk (hi); clear HO402; clear HK; clear HB; clear HI0; have HO402 := n0_; have HK := n1_; have HB := n2_; have HI0 := n3_; clear n0_ n1_ n2_ n3_; (try clear hb); (try clear hb2); (try clear hk); (try clear hi)))
  go_ret
  exact ⟨by first | rfl | (simp [errW_none, errW_some] <;> rfl) | (simp [*, errW_none, errW_some] <;> rfl), by repeat (first | (with_reducible first | exact HI0.out | apply IsS80.alloc | apply IsS80.drewN | apply IsS80.drew | apply IsS80.set_1 | apply IsS80.set_2) | exact HI0.out), by repeat (first | (with_reducible first | exact HB.out | apply below_alloc | apply pw_below_drewN | apply below_drew1 | refine below_set ?_ (IsS80.ge HI0.out)) | exact HB.out), by repeat (first | (with_reducible first | exact HK.out | apply KeepBut.set_ | apply keep_drewN | apply keep_drew | apply keep_alloc) | exact HK.out)⟩

/-! ### spec_l00Src_denom: function 45 -/
def spec_l00Src_denom.f (s0_0 : List Int) (s0_1 : Int) (s0_2 : Int) : Option (ByteArray × Int × Int) := (spec_l00Src_pick.f s0_0 s0_1 s0_2 (([(⟨#[120]⟩ : ByteArray), (⟨#[121]⟩ : ByteArray), (⟨#[118, 120]⟩ : ByteArray)] : List ByteArray))).bind fun bt409 => (some (bt409.1, bt409.2.1, bt409.2.2))
set_option maxHeartbeats 8000000 in
set_option maxRecDepth 100000 in
theorem spec_l00Src_denom.calls (g : Nat) (s0_0 : List Int) (s0_1 : Int) (s0_2 : Int) (r1 : ByteArray) (r2 : Int) (r3 : Int) (w0 w : World) (hI : IsS80 w0 w g s0_0 s0_1 s0_2) (hB : Below w0.heap.size w0 w) (h : spec_l00Src_denom.f s0_0 s0_1 s0_2 = some (r1, r2, r3)) :
    Calls Tryz.prog 45 #[.pointer (some ⟨g, 0, none⟩)] w fun e w' => e = .returned (.string r1) ∧ IsS80 w0 w' g s0_0 r2 r3 ∧ Below w0.heap.size w0 w' ∧ KeepBut w w' g none := by
  have HI0 := Aside0.mk hI
  have HK := Aside0.mk (KeepBut.refl w g none)
  have HL := Aside0.mk hB.size
  clear hI
  have HW0 := Aside0.mk hB.size
  have HB := Aside0.mk hB
  clear hB
  have H : ((spec_l00Src_pick.f s0_0 s0_1 s0_2 (([(⟨#[120]⟩ : ByteArray), (⟨#[121]⟩ : ByteArray), (⟨#[118, 120]⟩ : ByteArray)] : List ByteArray))).bind fun bt409 => (some (bt409.1, bt409.2.1, bt409.2.2))) = some (r1, r2, r3) := h
  clear h
  obtain ⟨y406, hy406⟩ : ∃ y_ : List ByteArray, y_ = (([(⟨#[120]⟩ : ByteArray), (⟨#[121]⟩ : ByteArray), (⟨#[118, 120]⟩ : ByteArray)] : List ByteArray)) := ⟨_, rfl⟩
  replace H : ((spec_l00Src_pick.f s0_0 s0_1 s0_2 y406).bind fun bt409 => (some (bt409.1, bt409.2.1, bt409.2.2))) = some (r1, r2, r3) := by first | (rw [hy406]; with_reducible exact H) | (have H2_ := (Option.bind_some _ _).symm.trans H; rw [hy406]; with_reducible exact H2_) | (have H2_ := (Option.bind_some _ _).symm.trans H; with_reducible exact H2_) | with_reducible exact H | (rw [hy406]; exact H) | exact H
  have Ny406 := Aside0.mk hy406
  clear hy406
  replace H := Option.bind_eq_some_iff.mp H
  obtain ⟨⟨t409, t410, t411⟩, A20, H⟩ := H
  replace H : (some (t409, t410, t411)) = some (r1, r2, r3) := H
  have A2 := Aside0.mk A20
  clear A20
  simp only [Option.some.injEq, Prod.mk.injEq] at H
  obtain ⟨rfl, rfl, rfl⟩ := H
  go_enter Tryz.func45, Tryz.ntmps45
  go_wp2_with (first | ((with_reducible refine gate_dst (N := 4) rfl ?_); refine Kd.R_lit Kd.string _ 9 ?hg (N := 4) ?hd (xs := ([(⟨#[120]⟩ : ByteArray), (⟨#[121]⟩ : ByteArray), (⟨#[118, 120]⟩ : ByteArray)] : List ByteArray)) (inner := [.string (⟨#[120]⟩ : ByteArray), .string (⟨#[121]⟩ : ByteArray), .string (⟨#[118, 120]⟩ : ByteArray)]) (ok := fun _ => True) (okp := fun _ => True) ?hr ?hp (fun _ hk => hk) trivial (Below.refl _ _) (Nat.le_refl _) (by simp) ?_; (case hd => rfl); (case hg => rfl); (case hr => first | (go_simp; done) | (go_simp; rfl)); (case hp => exact (Reps.one (show Kd.M Kd.string _ _ _ (⟨#[120]⟩ : ByteArray) [.string (⟨#[120]⟩ : ByteArray)] from rfl) (Reps.one (show Kd.M Kd.string _ _ _ (⟨#[121]⟩ : ByteArray) [.string (⟨#[121]⟩ : ByteArray)] from rfl) (Reps.one (show Kd.M Kd.string _ _ _ (⟨#[118, 120]⟩ : ByteArray) [.string (⟨#[118, 120]⟩ : ByteArray)] from rfl) (Reps.none _ _))))); intro v407 w3 ho4 hb hg_ hnew_; clear hg_ hnew_; (first | rw [← Ny406.out] at ho4 | (simp only [Int.reduceToNat] at ho4; rw [← Ny406.out] at ho4)); have n0_ := Aside0.mk (Kd.R_lower ho4 (keep_size (w := w) (g := g) (row := none) (by repeat (first | (with_reducible first | exact HK.out | apply KeepBut.set_ | apply keep_drewN | apply keep_drew | apply keep_alloc) | exact HK.out)))); have n1_ := Aside0.mk (IsS80.below (by repeat (first | (with_reducible first | exact HI0.out | apply IsS80.alloc | apply IsS80.drewN | apply IsS80.drew | apply IsS80.set_1 | apply IsS80.set_2) | exact HI0.out)) hb); have n2_ := Aside0.mk (KeepBut.trans (by repeat (first | (with_reducible first | exact HK.out | apply KeepBut.set_ | apply keep_drewN | apply keep_drew | apply keep_alloc) | exact HK.out)) (KeepBut.of_below hb g none) (.inl rfl)); have n3_ := Aside0.mk (below_step (by repeat (first | (with_reducible first | exact HB.out | apply below_alloc | apply pw_below_drewN | apply below_drew1 | refine below_set ?_ (IsS80.ge HI0.out)) | exact HB.out)) hb); clear HI0; clear HK; clear HB; have HO408 := n0_; have HI0 := n1_; have HK := n2_; have HB := n3_; clear n0_ n1_ n2_ n3_; clear hb ho4; obtain ⟨Ao5, co5, eo5⟩ := Kd.R_slice HO408.out; subst eo5) | ((with_reducible refine gate_callee (f := 74) rfl ?_); refine goesL_ (some 5) rfl rfl Tryz.func74 (by kernel_rfl) rfl #[.pointer (some ⟨g, 0, none⟩), .slice Ao5 y406.length co5] rfl (by (try simp only [List.map_toArray, List.map_cons, List.map_nil]); first | done | rfl | (simp only [List.length_drop, List.length_take]; rfl)) ?_; (with_reducible refine (spec_l00Src_pick.calls g s0_0 s0_1 s0_2 _ _ y406 t409 t410 t411 w0 _ ?side1 ?side2 ?side3 ?side4 ?side5 A2.out).mono ?_); (case side1 => repeat (first | (with_reducible first | exact HI0.out | apply IsS80.alloc | apply IsS80.drewN | apply IsS80.drew | apply IsS80.set_1 | apply IsS80.set_2) | exact HI0.out)); (case side2 => repeat (first | (with_reducible first | exact HB.out | apply below_alloc | apply pw_below_drewN | apply below_drew1 | refine below_set ?_ (IsS80.ge HI0.out)) | exact HB.out)); (case side3 => repeat (first | exact (Kd.R_reads' HO408.out).2.2 | (with_reducible refine Kd.C_alloc ?_ _) | (with_reducible refine Kd.C_drewN ?_ _) | (with_reducible refine Kd.C_drew ?_))); (case side4 => exact (Kd.R_reads' HO408.out).2.1); (case side5 => exact far_slice (IsS80.own_ne HI0.out HO408.out (by decide))); rintro e w6 ⟨rfl, hi, hb, hk⟩; refine ⟨_, rfl, ?_⟩; have n0_ := Aside0.mk (Kd.R_mono (Kd.R_keep (IsS80.apart (show IsS80 w0 _ g s0_0 s0_1 s0_2 from by repeat (first | (with_reducible first | exact HI0.out | apply IsS80.alloc | apply IsS80.drewN | apply IsS80.drew | apply IsS80.set_1 | apply IsS80.set_2) | exact HI0.out)) (by (with_reducible repeat (first | apply Kd.R_alloc | apply Kd.R_drewN | apply Kd.R_drew)); exact HO408.out) (by decide)) hk (fun _ h => h.2)) (fun _ h => h.1)); have n1_ := Aside0.mk (KeepBut.trans (by repeat (first | (with_reducible first | exact HK.out | apply KeepBut.set_ | apply keep_drewN | apply keep_drew | apply keep_alloc) | exact HK.out)) hk (.inl rfl)); have n2_ := Aside0.mk (hb); have n3_ := Aside0.mk (hi); clear HO408; clear HK; clear HB; clear HI0; have HO408 := n0_; have HK := n1_; have HB := n2_; have HI0 := n3_; clear n0_ n1_ n2_ n3_; (try clear hb); (try clear hb2); (try clear hk); (try clear hi)))
  go_ret
  exact ⟨by first | rfl | (simp [errW_none, errW_some] <;> rfl) | (simp [*, errW_none, errW_some] <;> rfl), by repeat (first | (with_reducible first | exact HI0.out | apply IsS80.alloc | apply IsS80.drewN | apply IsS80.drew | apply IsS80.set_1 | apply IsS80.set_2) | exact HI0.out), by repeat (first | (with_reducible first | exact HB.out | apply below_alloc | apply pw_below_drewN | apply below_drew1 | refine below_set ?_ (IsS80.ge HI0.out)) | exact HB.out), by repeat (first | (with_reducible first | exact HK.out | apply KeepBut.set_ | apply keep_drewN | apply keep_drew | apply keep_alloc) | exact HK.out)⟩

end Go.Proofs.YtpkfdjlmflmilaaGreatDoor.Q
end
section
namespace Go.Proofs.YtpkfdjlmflmilaaGreatDoor.Q
open Go.RowKit Go.Proofs.YtpkfdjlmflmilaaGreatDoorW.PrintWords Go.Proofs.YtpkfdjlmflmilaaGreatDoorW.PrintLast Go.Proofs.YtpkfdjlmflmilaaGreatDoorW.PrintMore
set_option linter.unusedVariables false
set_option linter.unusedSimpArgs false
/-- A value that reads as a row of pairs. -/
def RV (W : World) (v : Value) (r : List S56) : Prop := ∃ A c, v = .slice A r.length c ∧ r.length ≤ c ∧ Kd.C k56 W A r.length r
theorem RV_of_R {W : World} {b : Nat} {ok : Nat → Prop} {v : Value} {r : List S56} (h : Kd.R k56 56 W b ok v r) : RV W v r := Kd.R_reads h
/-- A value that is the one before (with its row), or a row of the call's own. -/
def RO (b : Nat) (v0 : Value) (l0 : List S56) (W : World) (v : Value) (r : List S56) : Prop := (v = v0 ∧ r = l0) ∨ Kd.R k56 56 W b (fun _ => True) v r
theorem RO_lower {b b' : Nat} {v0 : Value} {l0 : List S56} {W : World} {v : Value} {r : List S56} (h : RO b v0 l0 W v r) (hb : b' ≤ b) : RO b' v0 l0 W v r := h.imp id fun h => Kd.R_lower h hb
theorem RO_below {b : Nat} {v0 : Value} {l0 : List S56} {W W' : World} {v : Value} {r : List S56} (h : RO b v0 l0 W v r) (hb : Below W.heap.size W W') : RO b v0 l0 W' v r := h.imp id fun h => Kd.R_below h hb
theorem RO_reads {b : Nat} {v0 : Value} {l0 : List S56} {W : World} {v : Value} {r : List S56} (h : RO b v0 l0 W v r) (h0 : RV W v0 l0) : RV W v r := by
  rcases h with ⟨rfl, rfl⟩ | h
  · exact h0
  · exact RV_of_R h
theorem RO_own {b : Nat} {v0 : Value} {l0 : List S56} {W : World} {v : Value} {r : List S56} (h : RO b v0 l0 W v r) (h0 : Kd.R k56 56 W b (fun _ => True) v0 l0) : Kd.R k56 56 W b (fun _ => True) v r := by
  rcases h with ⟨rfl, rfl⟩ | h
  · exact h0
  · exact h
theorem RO_trans {b b' : Nat} {v0 : Value} {l0 : List S56} {W W' : World} {v v' : Value} {r r' : List S56} (h : RO b v0 l0 W v r) (h' : RO b' v r W' v' r') (hW : Below W.heap.size W W') (hb : b ≤ b') : RO b v0 l0 W' v' r' := by
  rcases h' with ⟨rfl, rfl⟩ | h'
  · exact RO_below h hW
  · exact .inr (Kd.R_lower h' hb)
theorem R_made (W : World) (b : Nat) (hb : b ≤ W.heap.size) : Kd.R k56 56 (W.alloc (.cells #[] 56)) b (fun _ => True) (.slice (some ⟨W.heap.size, 0, none⟩) 0 0) ([] : List S56) :=
  ⟨fun _ _ => trivial, [], World.ownsRow_made W #[] 0 hb (Nat.zero_le _) (by simp), Reps.none _ _⟩
theorem C_pair (W : World) (s0 s1 : ByteArray) : Kd.C k56 (W.alloc (.cells #[.string s0, .string s1] 56)) (some ⟨W.heap.size, 0, none⟩) 1 [(⟨s0, s1⟩ : S56)] := by
  refine ⟨rfl, by omega, fun _ => ⟨_, rfl, fun j p hj => ?_⟩⟩
  cases j with
  | zero =>
    simp at hj
    subst hj
    refine ⟨[.string s0, .string s1], rfl, k56_mk _ _, fun i u hi => ?_⟩
    rw [Addr.add_lit]
    have := pair_cells (heap_alloc_new W (.cells #[.string s0, .string s1] 56)) i u hi
    simpa using this
  | succ j => simp at hj
/-- append of a row that is read, as a step of a region. -/
theorem step_rows {W w0 : World} {ops : Array Oper} {o : Oper} {a : Act} {K : Act → World → Prop} {Q : Exit → Act → World → Prop} (s x : Operand) (v : Value) (xs ys : List S56) (A : Option Addr) (c : Nat)
    (hgd : o.guard = none) (ho : o.op = .call { callee := .builtin .append, args := #[s, x], argTypes := #[24, 24] }) (hs : a.eval s = v) (hx : a.eval x = .slice A ys.length c)
    (HO : Kd.R k56 56 W w0.heap.size (fun _ => True) v xs) (HR : Kd.C k56 W A ys.length ys) (HB : Below w0.heap.size w0 W) (hl : (xs.length + ys.length) * 32 ≤ 140737488355328)
    (h : ∀ v1 w1, Kd.R k56 56 w1 w0.heap.size (fun _ => True) v1 (xs ++ ys) → Below w0.heap.size w0 w1 → W.grownBy w1 v.ownBlock → K (a.put o.dst v1) w1) :
    if Region.wanted o (yielded ops a.tmps) = true then Oper.wp Tryz.prog o a W K Q else K (a.put o.dst undef) W :=
  Kd.R_append_rows_step k56 (w0 := w0) w0.heap.size (by simp [Region.wanted, hgd]) s x 24 56 (.agg #[(.string ⟨#[]⟩), (.string ⟨#[]⟩)]) 32 ho Tryz.underlying24 info56 rfl (by decide) (by omega) v xs ys A ys.length c (fun _ => True) (fun _ => False) hs hx HO HR
    (fun x cs h => by obtain rfl := k56_open h; exact k56_mkM _ _ _ _) (fun _ h => h.elim) (fun _ _ => trivial) HB HB.size hl (fun v1 w1 h1 h2 h3 _ => h v1 w1 h1 h2 h3)

theorem wpList_rows {W w0 : World} {ops : Array Oper} {rest : List Oper} {o : Oper} {a : Act} {Q : Exit → Act → World → Prop} (s x : Operand) (v : Value) (xs ys : List S56) (A : Option Addr) (c : Nat)
    (hgd : o.guard = none) (ho : o.op = .call { callee := .builtin .append, args := #[s, x], argTypes := #[24, 24] }) (hs : a.eval s = v) (hx : a.eval x = .slice A ys.length c)
    (HO : Kd.R k56 56 W w0.heap.size (fun _ => True) v xs) (HR : Kd.C k56 W A ys.length ys) (HB : Below w0.heap.size w0 W) (hl : (xs.length + ys.length) * 32 ≤ 140737488355328)
    (h : ∀ v1 w1, Kd.R k56 56 w1 w0.heap.size (fun _ => True) v1 (xs ++ ys) → Below w0.heap.size w0 w1 → W.grownBy w1 v.ownBlock → wpList Tryz.prog ops Q rest (a.put o.dst v1) w1) :
    wpList Tryz.prog ops Q (o :: rest) a W :=
  Kd.R_append_rows k56 (w0 := w0) w0.heap.size hgd s x 24 56 (.agg #[(.string ⟨#[]⟩), (.string ⟨#[]⟩)]) 32 ho Tryz.underlying24 info56 rfl (by decide) (by omega) v xs ys A ys.length c (fun _ => True) (fun _ => False) hs hx HO HR
    (fun x cs h => by obtain rfl := k56_open h; exact k56_mkM _ _ _ _) (fun _ h => h.elim) (fun _ _ => trivial) HB HB.size hl (fun v1 w1 h1 h2 h3 _ => h v1 w1 h1 h2 h3)
theorem C_pair_grown {W W1 W2 : World} {v : Value} {s0 s1 : ByteArray} (hW : W1.heap[W.heap.size]? = (W.alloc (.cells #[.string s0, .string s1] 56)).heap[W.heap.size]?) (hlt : W.heap.size < W1.heap.size) (hg : W1.grownBy W2 v.ownBlock) (hne : some W.heap.size ≠ v.ownBlock) : Kd.C k56 W2 (some ⟨W.heap.size, 0, none⟩) 1 [(⟨s0, s1⟩ : S56)] := by
  have h2 : W2.heap[W.heap.size]? = some (.cells #[.string s0, .string s1] 56 (0, 0)) := by rw [hg.block _ hlt hne, hW]; exact heap_alloc_new W _
  refine ⟨rfl, by omega, fun _ => ⟨_, rfl, fun j p hj => ?_⟩⟩
  cases j with
  | zero =>
    simp at hj
    subst hj
    refine ⟨[.string s0, .string s1], rfl, k56_mk _ _, fun i u hi => ?_⟩
    rw [Addr.add_lit]
    have := pair_cells h2 i u hi
    simpa using this
  | succ j => simp at hj
set_option maxHeartbeats 4000000 in
set_option maxRecDepth 100000 in
theorem l03Drop_none (k : Nat) (A0 : Option Addr) (c0 : Nat) (l0 : List S56) (a1 : ByteArray) (t : Nat) (w : World) (hr0 : Kd.C k56 w A0 l0.length l0) (hc0 : l0.length ≤ c0) (ht : spec_l03At.f k l0 a1 = some (t : Int)) (htl : t ≤ l0.length)
    (hq : ∀ h : t < l0.length, ((l0[t]'h).f0.toList == a1.toList) = false) :
    Calls Tryz.prog 106 #[.slice A0 l0.length c0, .string a1] w fun e w' => e = .returned (.tuple #[.slice A0 l0.length c0, .int .i64 5]) ∧ Drawn0 w w' := by
  have HAT := spec_l03At.calls k A0 c0 l0 a1 (t : Int) w hr0 hc0 ht
  have hu := Tryz.underlying24
  have hu2 := Tryz.underlying56
  by_cases hlt : t < l0.length
  · have hq1 := hq hlt
    have hq2 : ((l0[t]'hlt).f0.toList != a1.toList) = true := by rw [bne, hq1]; rfl
    obtain ⟨ad, hA, hx0, hx1⟩ := at_T56 hr0 (t : Int) (by omega) (by omega)
    subst hA
    have hrd : rd_T56 l0 (t : Int) = l0[t] := by simp [rd_T56, List.getD, List.getElem?_eq_getElem hlt]
    rw [hrd] at hx0
    simp only [Int.toNat_natCast] at hx0
    clear hx1 hrd hq
    generalize l0[t].f0 = s0 at hq1 hq2 hx0
    generalize l0.length = n at *
    have h1 : (0 : Int) ≤ (t : Int) := by omega
    have h2 : (t : Int) < (n : Int) := by omega
    have h3 : ((t : Int) == (n : Int)) = false := by simp; omega
    clear hr0
    go_enter Tryz.func106, Tryz.ntmps106
    go_wp2_with (go_at_call 93; refine HAT.mono ?_; rintro e w' ⟨rfl, hd⟩; have HD := Aside0.mk hd; obtain ⟨⟨nd, rfl⟩⟩ := hd)
    go_ret2
    exact ⟨rfl, HD.out⟩
  · obtain rfl : t = l0.length := by omega
    clear hr0 hq ht
    generalize l0.length = n at *
    go_enter Tryz.func106, Tryz.ntmps106
    go_wp2_with (go_at_call 93; refine HAT.mono ?_; rintro e w' ⟨rfl, hd⟩; have HD := Aside0.mk hd; obtain ⟨⟨nd, rfl⟩⟩ := hd)
    go_ret2
    exact ⟨rfl, HD.out⟩
set_option maxHeartbeats 8000000 in
set_option maxRecDepth 100000 in
theorem l03Drop_some (k : Nat) (A0 : Option Addr) (c0 : Nat) (l0 : List S56) (a1 : ByteArray) (t : Nat) (w : World) (hr0 : Kd.C k56 w A0 l0.length l0) (hc0 : l0.length ≤ c0) (ht : spec_l03At.f k l0 a1 = some (t : Int)) (hlt : t < l0.length)
    (hq : (l0[t].f0.toList == a1.toList) = true) (hl : l0.length * 32 ≤ 140737488355328) :
    Calls Tryz.prog 106 #[.slice A0 l0.length c0, .string a1] w fun e w' => ∃ v, e = .returned (.tuple #[v, .int .i64 0]) ∧ Kd.R k56 56 w' w.heap.size (fun _ => True) v (l0.take t ++ l0.drop (t + 1)) ∧ Below w.heap.size w w' := by
  have HAT := spec_l03At.calls k A0 c0 l0 a1 (t : Int) w hr0 hc0 ht
  have hu := Tryz.underlying24
  have hu2 := Tryz.underlying56
  have hq2 : (l0[t].f0.toList != a1.toList) = false := by rw [bne, hq]; rfl
  obtain ⟨ad, hA, hx0, hx1⟩ := at_T56 hr0 (t : Int) (by omega) (by omega)
  subst hA
  have hrd : rd_T56 l0 (t : Int) = l0[t] := by simp [rd_T56, List.getD, List.getElem?_eq_getElem hlt]
  rw [hrd] at hx0
  simp only [Int.toNat_natCast] at hx0
  have hC1 := Kd.C_take (m := t) hr0 (by omega)
  have hC2 := Kd.C_drop (m := t + 1) (c := c0) hr0 (by omega) hc0
  have hl1 : (l0.take t).length = t := by rw [List.length_take]; omega
  have hl2 : (l0.drop (t + 1)).length = l0.length - (t + 1) := by rw [List.length_drop]
  clear hx1 hrd ht
  generalize l0[t].f0 = s0 at hq hq2 hx0
  generalize l0.take t = xs at *
  generalize l0.drop (t + 1) = ys at *
  obtain ⟨A2, hA2, HC2⟩ : ∃ A2, (if c0 = t + 1 then (some ad : Option Addr) else some (ad.add ((t + 1) * 2))) = A2 ∧ Aside0 (Kd.C k56 w A2 ys.length ys) := ⟨_, rfl, ⟨hC2⟩⟩
  have HC1 := Aside0.mk hC1
  clear hC1 hC2 hr0
  generalize l0.length = n at *
  rw [hl1] at HC1
  rw [hl2] at HC2
  have h1 : (0 : Int) ≤ (t : Int) := by omega
  have h2 : (t : Int) < (n : Int) := by omega
  have h3 : ((t : Int) == (n : Int)) = false := by simp; omega
  have h4 : (t : Int) ≤ (c0 : Int) := by omega
  have h5 : (t : Int) + 1 ≤ (n : Int) := by omega
  have h6 : IntKind.i64.wrap ((t : Int) + 1) = (t : Int) + 1 := by rw [IntKind.wrap_i64]; omega
  have h7 : (0 : Int) ≤ (t : Int) + 1 := by omega
  have h8 : ((t : Int) + 1).toNat = t + 1 := by omega
  have h9 : (t : Int) ≤ (n : Int) := by omega
  have HL1 := Aside0.mk hl1
  have HL2 := Aside0.mk hl2
  clear hl1 hl2
  go_enter Tryz.func106, Tryz.ntmps106
  go_wp2_with (go_at_call 93; refine HAT.mono ?_; rintro e w' ⟨rfl, hd⟩; obtain ⟨⟨nd, rfl⟩⟩ := hd)
  go_region_law (first
    | (refine step_rows (w0 := w) (.tmp 24) (.tmp 27) _ [] xs (some ad) c0 rfl rfl rfl (by rw [HL1.out]; simp [Act.eval, Act.put]) (R_made _ _ (by simp)) (by rw [HL1.out]; exact Kd.C_alloc (Kd.C_drew (Kd.C_drewN HC1.out _)) _) (by repeat (first | exact Below.refl _ _ | apply pw_below_drewN | apply below_drew1 | apply below_alloc)) (by have := HL1.out; simp; omega) ?_; intro v1 w1 hR1 hb1 hg1; have HR1 := Aside0.mk hR1; have HB1 := Aside0.mk hb1; clear hR1 hb1 hg1)
    | (refine step_rows (w0 := w) (.tmp 28) (.tmp 32) _ ([] ++ xs) ys A2 (c0 - (t + 1)) rfl rfl rfl (by rw [HL2.out]; simp [Act.eval, Act.put, hA2]; done) HR1.out (by rw [HL2.out]; exact Kd.C_below HC2.out HB1.out) HB1.out (by have := HL1.out; have := HL2.out; simp; omega) ?_; intro v2 w2 hR2 hb2 hg2; have HR2 := Aside0.mk hR2; have HB2 := Aside0.mk hb2; clear hR2 hb2 hg2))
  go_wp2
  go_ret2
  exact ⟨_, rfl, HR2.out, HB2.out⟩
set_option maxHeartbeats 8000000 in
set_option maxRecDepth 100000 in
theorem l03Put_set (k : Nat) (A0 : Option Addr) (c0 : Nat) (l0 : List S56) (a1 a2 : ByteArray) (t : Nat) (w : World) (hr0 : Kd.C k56 w A0 l0.length l0) (hc0 : l0.length ≤ c0) (ht : spec_l03At.f k l0 a1 = some (t : Int)) (hlt : t < l0.length)
    (hq : (l0[t].f0.toList == a1.toList) = true) (hl : l0.length * 32 ≤ 140737488355328) :
    Calls Tryz.prog 107 #[.slice A0 l0.length c0, .string a1, .string a2] w fun e w' => ∃ v, e = .returned (.tuple #[v, .int .i64 0]) ∧ Kd.R k56 56 w' w.heap.size (fun _ => True) v (l0.set t ⟨(l0.getD t z56).f0, a2⟩) ∧ Below w.heap.size w w' := by
  have HAT := spec_l03At.calls k A0 c0 l0 a1 (t : Int) w hr0 hc0 ht
  have hu := Tryz.underlying24
  have hu2 := Tryz.underlying56
  obtain ⟨ad, hA, hx0, hx1⟩ := at_T56 hr0 (t : Int) (by omega) (by omega)
  subst hA
  have hrd : rd_T56 l0 (t : Int) = l0[t] := by simp [rd_T56, List.getD, List.getElem?_eq_getElem hlt]
  rw [hrd] at hx0
  simp only [Int.toNat_natCast] at hx0
  have HSR := Aside0.mk (fun (W : World) (base g c : Nat) (ok : Nat → Prop) (hR : Kd.R k56 56 W base ok (.slice (some ⟨g, 0, none⟩) l0.length c) l0) => set_R (u := a2) hR hlt)
  have HFR := Aside0.mk (fun (W : World) (base c : Nat) (ok : Nat → Prop) (A : Option Addr) (hR : Kd.R k56 56 W base ok (.slice A l0.length c) l0) => first_R hR (by omega))
  have HC := Aside0.mk hr0
  clear hx1 hrd ht
  generalize l0[t].f0 = s0 at hq hx0
  generalize hn : l0.length = n at *
  have HN := Aside0.mk hn
  clear hn hr0
  have h1 : (0 : Int) ≤ (t : Int) := by omega
  have h2 : (t : Int) < (n : Int) := by omega
  go_enter Tryz.func107, Tryz.ntmps107
  go_wp2_with (first
    | (go_at_call 93; refine HAT.mono ?_; rintro e w' ⟨rfl, hd⟩; obtain ⟨⟨nd, rfl⟩⟩ := hd)
    | (at_builtin; refine wpList_rows (w0 := w) (.tmp 26) (.tmp 27) _ [] l0 (some ad) c0 rfl rfl rfl (by rw [HN.out]; rfl) (R_made _ _ (by simp)) (by rw [HN.out]; exact Kd.C_alloc (Kd.C_drewN HC.out _) _) (by repeat (first | exact Below.refl _ _ | apply pw_below_drewN | apply below_drew1 | apply below_alloc)) (by have := HN.out; simp; omega) ?_; intro v1 w1 hR1 hb1 hg1; rw [List.nil_append] at hR1; obtain ⟨A1, c1, rfl, hl1, _⟩ := Kd.R_reads hR1; rw [HN.out] at hl1 hR1 ⊢; obtain ⟨g, rfl⟩ := HFR.out _ _ _ _ _ hR1; obtain ⟨hS, hbg, hfz, x, hx⟩ := HSR.out _ _ _ _ _ hR1; simp only [Nat.zero_add] at hS hfz hx; have HS := Aside0.mk hS; have HBG := Aside0.mk hbg; have HB1 := Aside0.mk hb1; clear hS hbg hR1 hb1 hg1))
  go_ret2
  exact ⟨_, rfl, by first | exact HS.out | (rw [← HN.out]; exact HS.out), Below.setCell HB1.out HBG.out _⟩
set_option maxHeartbeats 4000000 in
set_option maxRecDepth 100000 in
theorem l03Put_full (k : Nat) (A0 : Option Addr) (c0 : Nat) (l0 : List S56) (a1 a2 : ByteArray) (t : Nat) (w : World) (hr0 : Kd.C k56 w A0 l0.length l0) (hc0 : l0.length ≤ c0) (ht : spec_l03At.f k l0 a1 = some (t : Int)) (htl : t ≤ l0.length)
    (hq : ∀ h : t < l0.length, ((l0[t]'h).f0.toList == a1.toList) = false) (hf : l0.length = 400) :
    Calls Tryz.prog 107 #[.slice A0 l0.length c0, .string a1, .string a2] w fun e w' => e = .returned (.tuple #[.slice A0 l0.length c0, .int .i64 7]) ∧ Drawn0 w w' := by
  have HAT := spec_l03At.calls k A0 c0 l0 a1 (t : Int) w hr0 hc0 ht
  have hu := Tryz.underlying24
  have hu2 := Tryz.underlying56
  by_cases hlt : t < l0.length
  · have hq1 := hq hlt
    obtain ⟨ad, hA, hx0, hx1⟩ := at_T56 hr0 (t : Int) (by omega) (by omega)
    subst hA
    have hrd : rd_T56 l0 (t : Int) = l0[t] := by simp [rd_T56, List.getD, List.getElem?_eq_getElem hlt]
    rw [hrd] at hx0
    simp only [Int.toNat_natCast] at hx0
    clear hx1 hrd hq
    generalize l0[t].f0 = s0 at hq1 hx0
    generalize l0.length = n at *
    subst hf
    have h1 : (0 : Int) ≤ (t : Int) := by omega
    have h2 : (t : Int) < 400 := by omega
    clear hr0
    go_enter Tryz.func107, Tryz.ntmps107
    go_wp2_with (go_at_call 93; refine HAT.mono ?_; rintro e w' ⟨rfl, hd⟩; have HD := Aside0.mk hd; obtain ⟨⟨nd, rfl⟩⟩ := hd)
    go_ret2
    exact ⟨rfl, HD.out⟩
  · obtain rfl : t = l0.length := by omega
    clear hr0 hq ht
    generalize l0.length = n at *
    subst hf
    go_enter Tryz.func107, Tryz.ntmps107
    go_wp2_with (go_at_call 93; refine HAT.mono ?_; rintro e w' ⟨rfl, hd⟩; have HD := Aside0.mk hd; obtain ⟨⟨nd, rfl⟩⟩ := hd)
    go_ret2
    exact ⟨rfl, HD.out⟩
set_option maxHeartbeats 8000000 in
set_option maxRecDepth 100000 in
theorem l03Put_ins (k : Nat) (A0 : Option Addr) (c0 : Nat) (l0 : List S56) (a1 a2 : ByteArray) (t : Nat) (w : World) (hr0 : Kd.C k56 w A0 l0.length l0) (hc0 : l0.length ≤ c0) (ht : spec_l03At.f k l0 a1 = some (t : Int)) (htl : t ≤ l0.length)
    (hq : ∀ h : t < l0.length, ((l0[t]'h).f0.toList == a1.toList) = false) (hf : l0.length ≠ 400) (hl : (l0.length + 1) * 32 ≤ 140737488355328) :
    Calls Tryz.prog 107 #[.slice A0 l0.length c0, .string a1, .string a2] w fun e w' => ∃ v, e = .returned (.tuple #[v, .int .i64 0]) ∧ Kd.R k56 56 w' w.heap.size (fun _ => True) v (l0.take t ++ ⟨a1, a2⟩ :: l0.drop t) ∧ Below w.heap.size w w' := by
  have HAT := spec_l03At.calls k A0 c0 l0 a1 (t : Int) w hr0 hc0 ht
  have hu := Tryz.underlying24
  have hu2 := Tryz.underlying56
  have hC1 := Kd.C_take (m := t) hr0 (by omega)
  have hC2 := Kd.C_drop (m := t) (c := c0) hr0 (by omega) hc0
  have hl1 : (l0.take t).length = t := by rw [List.length_take]; omega
  have hl2 : (l0.drop t).length = l0.length - t := by rw [List.length_drop]
  have hres : l0.take t ++ ⟨a1, a2⟩ :: l0.drop t = [] ++ l0.take t ++ [⟨a1, a2⟩] ++ l0.drop t := by simp
  have hA0 : A0 = none → l0.length = 0 := fun e => by
    rcases Nat.eq_zero_or_pos l0.length with h | h
    · exact h
    · obtain ⟨ad, e', _⟩ := hr0.2.2 h
      rw [e] at e'
      cases e'
  have hcell : ∀ h : t < l0.length, ∃ ad s0, A0 = some ad ∧ w.cell? (ad.add (t * 2)) = some (.string s0) ∧ (s0.toList == a1.toList) = false := fun h => by
    obtain ⟨ad, hA, hx0, hx1⟩ := at_T56 hr0 (t : Int) (by omega) (by omega)
    have hrd : rd_T56 l0 (t : Int) = l0[t] := by simp [rd_T56, List.getD, List.getElem?_eq_getElem h]
    rw [hrd] at hx0
    exact ⟨ad, _, hA, hx0, hq h⟩
  rw [hres]
  clear hq ht hr0 hres
  generalize l0.take t = xs at *
  generalize l0.drop t = ys at *
  have hA : ∃ A2, (∀ a, A0 = some a → (if c0 = t then (some a : Option Addr) else some (a.add (t * 2))) = A2) ∧ (A0 = none → A2 = none) ∧ Kd.C k56 w A2 ys.length ys := by
    refine ⟨_, ?_, ?_, hC2⟩
    · intro a ha; subst ha; rfl
    · intro ha; subst ha; split <;> rfl
  obtain ⟨A2, hAs, hAn, hC2'⟩ := hA
  have HC1 := Aside0.mk hC1
  have HC2 := Aside0.mk hC2'
  clear hC1 hC2 hC2'
  generalize l0.length = n at *
  rw [hl1] at HC1
  rw [hl2] at HC2
  have HL1 := Aside0.mk hl1
  have HL2 := Aside0.mk hl2
  clear hl1 hl2
  have h1 : (0 : Int) ≤ (t : Int) := by omega
  have h4 : (t : Int) ≤ (c0 : Int) := by omega
  have h5 : ((n : Int) == 400) = false := by simp; omega
  have h9 : (t : Int) ≤ (n : Int) := by omega
  clear hf
  by_cases hlt : t < n
  · obtain ⟨ad, s0, hA, hx0, hq1⟩ := hcell hlt
    subst hA
    have hA2 := hAs ad rfl
    have h2 : (t : Int) < (n : Int) := by omega
    clear hcell hAs hAn hA0
    go_enter Tryz.func107, Tryz.ntmps107
    go_wp2_with (go_at_call 93; refine HAT.mono ?_; rintro e w' ⟨rfl, hd⟩; obtain ⟨⟨nd, rfl⟩⟩ := hd)
    go_region_law (first
      | (refine step_rows (w0 := w) (.tmp 39) (.tmp 42) (.slice (some ⟨((w.drewN nd).drew).heap.size, 0, none⟩) 0 0) [] xs (some ad) c0 rfl rfl rfl (by rw [HL1.out]; simp [Act.eval, Act.put]) (R_made ((w.drewN nd).drew) _ (by simp)) (by rw [HL1.out]; repeat (first | exact HC1.out | apply Kd.C_alloc | apply Kd.C_drew | apply Kd.C_drewN)) (by repeat (first | exact Below.refl _ _ | apply pw_below_drewN | apply below_drew1 | apply below_alloc)) (by have := HL1.out; simp; omega) ?_; intro v1 w1 hR1 hb1 hg1; have HR1 := Aside0.mk hR1; have HB1 := Aside0.mk hb1; clear hR1 hb1 hg1)
      | (refine step_rows (w0 := w) (.tmp 39) (.tmp 42) (.slice (some ⟨((w.drewN nd).drew).heap.size, 0, none⟩) 0 0) [] xs (some ad) c0 rfl rfl rfl (by rw [HL1.out]; simp [Act.eval, Act.put]) (Kd.R_alloc (R_made ((w.drewN nd).drew) _ (by simp)) (.cells #[.string a1, .string a2] 56)) (by rw [HL1.out]; repeat (first | exact HC1.out | apply Kd.C_alloc | apply Kd.C_drew | apply Kd.C_drewN)) (by repeat (first | exact Below.refl _ _ | apply pw_below_drewN | apply below_drew1 | apply below_alloc)) (by have := HL1.out; simp; omega) ?_; intro v1 w1 hR1 hb1 hg1; have HR1 := Aside0.mk hR1; have HB1 := Aside0.mk hb1; have HP : Aside0 (Kd.C k56 w1 (some ⟨w.heap.size + 1, 0, none⟩) 1 [(⟨a1, a2⟩ : S56)]) := Aside0.mk (by have z := (C_pair_grown (W := ((w.drewN nd).drew).alloc (.cells #[] 56)) (s0 := a1) (s1 := a2) rfl (by simp) hg1 (by simp [Value.ownBlock])); simpa using z); clear hR1 hb1 hg1)
      | (refine step_rows (w0 := w) (.tmp 39) (.tmp 42) (.slice (some ⟨(((w.drewN nd).drew).alloc (.cells #[.string a1, .string a2] 56)).heap.size, 0, none⟩) 0 0) [] xs (some ad) c0 rfl rfl (by simp [Act.eval, Act.put]) (by rw [HL1.out]; simp [Act.eval, Act.put]) (R_made (((w.drewN nd).drew).alloc (.cells #[.string a1, .string a2] 56)) _ (by simp <;> omega)) (by rw [HL1.out]; repeat (first | exact HC1.out | apply Kd.C_alloc | apply Kd.C_drew | apply Kd.C_drewN)) (by repeat (first | exact Below.refl _ _ | apply pw_below_drewN | apply below_drew1 | apply below_alloc)) (by have := HL1.out; simp; omega) ?_; intro v1 w1 hR1 hb1 hg1; have HR1 := Aside0.mk hR1; have HB1 := Aside0.mk hb1; have HP : Aside0 (Kd.C k56 w1 (some ⟨w.heap.size, 0, none⟩) 1 [(⟨a1, a2⟩ : S56)]) := Aside0.mk (by have z := (C_pair_grown (W := ((w.drewN nd).drew)) (s0 := a1) (s1 := a2) (by first | exact heap_alloc_old _ _ (by simp) | (rw [heap_alloc_old _ _ (by simp)]; done) | (rw [heap_alloc_old _ _ (by simp)]; rfl)) (by simp <;> omega) hg1 (by simp [Value.ownBlock])); simpa using z); clear hR1 hb1 hg1)
      | (refine step_rows (w0 := w) (.tmp 43) (.tmp 47) v1 ([] ++ xs) [⟨a1, a2⟩] (some ⟨w.heap.size + 1, 0, none⟩) 1 rfl rfl rfl (by simp [Act.eval, Act.put]) HR1.out HP.out HB1.out (by have := HL1.out; simp; omega) ?_; intro v2 w2 hR2 hb2 hg2; have HR2 := Aside0.mk hR2; have HB2 := Aside0.mk hb2; clear hR2 hb2 hg2)
      | (refine step_rows (w0 := w) (.tmp 43) (.tmp 47) v1 ([] ++ xs) [⟨a1, a2⟩] (some ⟨w.heap.size, 0, none⟩) 1 rfl rfl rfl (by simp [Act.eval, Act.put]) HR1.out HP.out HB1.out (by have := HL1.out; simp; omega) ?_; intro v2 w2 hR2 hb2 hg2; have HR2 := Aside0.mk hR2; have HB2 := Aside0.mk hb2; clear hR2 hb2 hg2)
      | (refine step_rows (w0 := w) (.tmp 43) (.tmp 47) v1 ([] ++ xs) [⟨a1, a2⟩] (some ⟨w1.heap.size, 0, none⟩) 1 rfl rfl rfl (by simp [Act.eval, Act.put]) (Kd.R_alloc HR1.out _) (C_pair w1 a1 a2) (below_alloc HB1.out _) (by have := HL1.out; simp; omega) ?_; intro v2 w2 hR2 hb2 hg2; have HR2 := Aside0.mk hR2; have HB2 := Aside0.mk hb2; clear hR2 hb2 hg2)
      | (refine step_rows (w0 := w) (.tmp 48) (.tmp 51) v2 ([] ++ xs ++ [⟨a1, a2⟩]) ys A2 (c0 - t) rfl rfl rfl (by rw [HL2.out]; simp [Act.eval, Act.put, hA2]; done) HR2.out (by rw [HL2.out]; exact Kd.C_below HC2.out HB2.out) HB2.out (by have := HL1.out; have := HL2.out; simp; omega) ?_; intro v3 w3 hR3 hb3 hg3; have HR3 := Aside0.mk hR3; have HB3 := Aside0.mk hb3; clear hR3 hb3 hg3))
    all_goals
      go_wp2
      go_ret2
      exact ⟨_, rfl, HR3.out, HB3.out⟩
  · obtain rfl : n = t := by omega
    have h2 : decide ((n : Int) < (n : Int)) = false := by simp
    clear hcell
    cases A0 with
    | none =>
      obtain rfl := hA0 rfl
      obtain rfl := hAn rfl
      clear hA0 hAs hAn
      go_enter Tryz.func107, Tryz.ntmps107
      go_wp2_with (go_at_call 93; refine HAT.mono ?_; rintro e w' ⟨rfl, hd⟩; obtain ⟨⟨nd, rfl⟩⟩ := hd)
      have hA2 : True := trivial
      go_region_law (first
        | (refine step_rows (w0 := w) (.tmp 39) (.tmp 42) (.slice (some ⟨((w.drewN nd).drew).heap.size, 0, none⟩) 0 0) [] xs none c0 rfl rfl rfl (by rw [HL1.out]; simp [Act.eval, Act.put]) (R_made ((w.drewN nd).drew) _ (by simp)) (by rw [HL1.out]; repeat (first | exact HC1.out | apply Kd.C_alloc | apply Kd.C_drew | apply Kd.C_drewN)) (by repeat (first | exact Below.refl _ _ | apply pw_below_drewN | apply below_drew1 | apply below_alloc)) (by have := HL1.out; simp; omega) ?_; intro v1 w1 hR1 hb1 hg1; have HR1 := Aside0.mk hR1; have HB1 := Aside0.mk hb1; clear hR1 hb1 hg1)
        | (refine step_rows (w0 := w) (.tmp 39) (.tmp 42) (.slice (some ⟨((w.drewN nd).drew).heap.size, 0, none⟩) 0 0) [] xs none c0 rfl rfl rfl (by rw [HL1.out]; simp [Act.eval, Act.put]) (Kd.R_alloc (R_made ((w.drewN nd).drew) _ (by simp)) (.cells #[.string a1, .string a2] 56)) (by rw [HL1.out]; repeat (first | exact HC1.out | apply Kd.C_alloc | apply Kd.C_drew | apply Kd.C_drewN)) (by repeat (first | exact Below.refl _ _ | apply pw_below_drewN | apply below_drew1 | apply below_alloc)) (by have := HL1.out; simp; omega) ?_; intro v1 w1 hR1 hb1 hg1; have HR1 := Aside0.mk hR1; have HB1 := Aside0.mk hb1; have HP : Aside0 (Kd.C k56 w1 (some ⟨w.heap.size + 1, 0, none⟩) 1 [(⟨a1, a2⟩ : S56)]) := Aside0.mk (by have z := (C_pair_grown (W := ((w.drewN nd).drew).alloc (.cells #[] 56)) (s0 := a1) (s1 := a2) rfl (by simp) hg1 (by simp [Value.ownBlock])); simpa using z); clear hR1 hb1 hg1)
        | (refine step_rows (w0 := w) (.tmp 39) (.tmp 42) (.slice (some ⟨(((w.drewN nd).drew).alloc (.cells #[.string a1, .string a2] 56)).heap.size, 0, none⟩) 0 0) [] xs none c0 rfl rfl (by simp [Act.eval, Act.put]) (by rw [HL1.out]; simp [Act.eval, Act.put]) (R_made (((w.drewN nd).drew).alloc (.cells #[.string a1, .string a2] 56)) _ (by simp <;> omega)) (by rw [HL1.out]; repeat (first | exact HC1.out | apply Kd.C_alloc | apply Kd.C_drew | apply Kd.C_drewN)) (by repeat (first | exact Below.refl _ _ | apply pw_below_drewN | apply below_drew1 | apply below_alloc)) (by have := HL1.out; simp; omega) ?_; intro v1 w1 hR1 hb1 hg1; have HR1 := Aside0.mk hR1; have HB1 := Aside0.mk hb1; have HP : Aside0 (Kd.C k56 w1 (some ⟨w.heap.size, 0, none⟩) 1 [(⟨a1, a2⟩ : S56)]) := Aside0.mk (by have z := (C_pair_grown (W := ((w.drewN nd).drew)) (s0 := a1) (s1 := a2) (by first | exact heap_alloc_old _ _ (by simp) | (rw [heap_alloc_old _ _ (by simp)]; done) | (rw [heap_alloc_old _ _ (by simp)]; rfl)) (by simp <;> omega) hg1 (by simp [Value.ownBlock])); simpa using z); clear hR1 hb1 hg1)
        | (refine step_rows (w0 := w) (.tmp 43) (.tmp 47) v1 ([] ++ xs) [⟨a1, a2⟩] (some ⟨w.heap.size + 1, 0, none⟩) 1 rfl rfl rfl (by simp [Act.eval, Act.put]) HR1.out HP.out HB1.out (by have := HL1.out; simp; omega) ?_; intro v2 w2 hR2 hb2 hg2; have HR2 := Aside0.mk hR2; have HB2 := Aside0.mk hb2; clear hR2 hb2 hg2)
        | (refine step_rows (w0 := w) (.tmp 43) (.tmp 47) v1 ([] ++ xs) [⟨a1, a2⟩] (some ⟨w.heap.size, 0, none⟩) 1 rfl rfl rfl (by simp [Act.eval, Act.put]) HR1.out HP.out HB1.out (by have := HL1.out; simp; omega) ?_; intro v2 w2 hR2 hb2 hg2; have HR2 := Aside0.mk hR2; have HB2 := Aside0.mk hb2; clear hR2 hb2 hg2)
        | (refine step_rows (w0 := w) (.tmp 43) (.tmp 47) v1 ([] ++ xs) [⟨a1, a2⟩] (some ⟨w1.heap.size, 0, none⟩) 1 rfl rfl rfl (by simp [Act.eval, Act.put]) (Kd.R_alloc HR1.out _) (C_pair w1 a1 a2) (below_alloc HB1.out _) (by have := HL1.out; simp; omega) ?_; intro v2 w2 hR2 hb2 hg2; have HR2 := Aside0.mk hR2; have HB2 := Aside0.mk hb2; clear hR2 hb2 hg2)
        | (refine step_rows (w0 := w) (.tmp 48) (.tmp 51) v2 ([] ++ xs ++ [⟨a1, a2⟩]) ys none _ rfl rfl rfl (by rw [HL2.out]; simp [Act.eval, Act.put]; rfl) HR2.out (by rw [HL2.out]; exact Kd.C_below HC2.out HB2.out) HB2.out (by have := HL1.out; have := HL2.out; simp; omega) ?_; intro v3 w3 hR3 hb3 hg3; have HR3 := Aside0.mk hR3; have HB3 := Aside0.mk hb3; clear hR3 hb3 hg3))
      all_goals
        go_wp2
        go_ret2
        exact ⟨_, rfl, HR3.out, HB3.out⟩
    | some ad =>
      have hA2 := hAs ad rfl
      clear hA0 hAs hAn
      go_enter Tryz.func107, Tryz.ntmps107
      go_wp2_with (go_at_call 93; refine HAT.mono ?_; rintro e w' ⟨rfl, hd⟩; obtain ⟨⟨nd, rfl⟩⟩ := hd)
      go_region_law (first
        | (refine step_rows (w0 := w) (.tmp 39) (.tmp 42) (.slice (some ⟨((w.drewN nd).drew).heap.size, 0, none⟩) 0 0) [] xs (some ad) c0 rfl rfl rfl (by rw [HL1.out]; simp [Act.eval, Act.put]) (R_made ((w.drewN nd).drew) _ (by simp)) (by rw [HL1.out]; repeat (first | exact HC1.out | apply Kd.C_alloc | apply Kd.C_drew | apply Kd.C_drewN)) (by repeat (first | exact Below.refl _ _ | apply pw_below_drewN | apply below_drew1 | apply below_alloc)) (by have := HL1.out; simp; omega) ?_; intro v1 w1 hR1 hb1 hg1; have HR1 := Aside0.mk hR1; have HB1 := Aside0.mk hb1; clear hR1 hb1 hg1)
        | (refine step_rows (w0 := w) (.tmp 39) (.tmp 42) (.slice (some ⟨((w.drewN nd).drew).heap.size, 0, none⟩) 0 0) [] xs (some ad) c0 rfl rfl rfl (by rw [HL1.out]; simp [Act.eval, Act.put]) (Kd.R_alloc (R_made ((w.drewN nd).drew) _ (by simp)) (.cells #[.string a1, .string a2] 56)) (by rw [HL1.out]; repeat (first | exact HC1.out | apply Kd.C_alloc | apply Kd.C_drew | apply Kd.C_drewN)) (by repeat (first | exact Below.refl _ _ | apply pw_below_drewN | apply below_drew1 | apply below_alloc)) (by have := HL1.out; simp; omega) ?_; intro v1 w1 hR1 hb1 hg1; have HR1 := Aside0.mk hR1; have HB1 := Aside0.mk hb1; have HP : Aside0 (Kd.C k56 w1 (some ⟨w.heap.size + 1, 0, none⟩) 1 [(⟨a1, a2⟩ : S56)]) := Aside0.mk (by have z := (C_pair_grown (W := ((w.drewN nd).drew).alloc (.cells #[] 56)) (s0 := a1) (s1 := a2) rfl (by simp) hg1 (by simp [Value.ownBlock])); simpa using z); clear hR1 hb1 hg1)
        | (refine step_rows (w0 := w) (.tmp 39) (.tmp 42) (.slice (some ⟨(((w.drewN nd).drew).alloc (.cells #[.string a1, .string a2] 56)).heap.size, 0, none⟩) 0 0) [] xs (some ad) c0 rfl rfl (by simp [Act.eval, Act.put]) (by rw [HL1.out]; simp [Act.eval, Act.put]) (R_made (((w.drewN nd).drew).alloc (.cells #[.string a1, .string a2] 56)) _ (by simp <;> omega)) (by rw [HL1.out]; repeat (first | exact HC1.out | apply Kd.C_alloc | apply Kd.C_drew | apply Kd.C_drewN)) (by repeat (first | exact Below.refl _ _ | apply pw_below_drewN | apply below_drew1 | apply below_alloc)) (by have := HL1.out; simp; omega) ?_; intro v1 w1 hR1 hb1 hg1; have HR1 := Aside0.mk hR1; have HB1 := Aside0.mk hb1; have HP : Aside0 (Kd.C k56 w1 (some ⟨w.heap.size, 0, none⟩) 1 [(⟨a1, a2⟩ : S56)]) := Aside0.mk (by have z := (C_pair_grown (W := ((w.drewN nd).drew)) (s0 := a1) (s1 := a2) (by first | exact heap_alloc_old _ _ (by simp) | (rw [heap_alloc_old _ _ (by simp)]; done) | (rw [heap_alloc_old _ _ (by simp)]; rfl)) (by simp <;> omega) hg1 (by simp [Value.ownBlock])); simpa using z); clear hR1 hb1 hg1)
        | (refine step_rows (w0 := w) (.tmp 43) (.tmp 47) v1 ([] ++ xs) [⟨a1, a2⟩] (some ⟨w.heap.size + 1, 0, none⟩) 1 rfl rfl rfl (by simp [Act.eval, Act.put]) HR1.out HP.out HB1.out (by have := HL1.out; simp; omega) ?_; intro v2 w2 hR2 hb2 hg2; have HR2 := Aside0.mk hR2; have HB2 := Aside0.mk hb2; clear hR2 hb2 hg2)
        | (refine step_rows (w0 := w) (.tmp 43) (.tmp 47) v1 ([] ++ xs) [⟨a1, a2⟩] (some ⟨w.heap.size, 0, none⟩) 1 rfl rfl rfl (by simp [Act.eval, Act.put]) HR1.out HP.out HB1.out (by have := HL1.out; simp; omega) ?_; intro v2 w2 hR2 hb2 hg2; have HR2 := Aside0.mk hR2; have HB2 := Aside0.mk hb2; clear hR2 hb2 hg2)
        | (refine step_rows (w0 := w) (.tmp 43) (.tmp 47) v1 ([] ++ xs) [⟨a1, a2⟩] (some ⟨w1.heap.size, 0, none⟩) 1 rfl rfl rfl (by simp [Act.eval, Act.put]) (Kd.R_alloc HR1.out _) (C_pair w1 a1 a2) (below_alloc HB1.out _) (by have := HL1.out; simp; omega) ?_; intro v2 w2 hR2 hb2 hg2; have HR2 := Aside0.mk hR2; have HB2 := Aside0.mk hb2; clear hR2 hb2 hg2)
        | (refine step_rows (w0 := w) (.tmp 48) (.tmp 51) v2 ([] ++ xs ++ [⟨a1, a2⟩]) ys A2 (c0 - n) rfl rfl rfl (by rw [HL2.out]; simp [Act.eval, Act.put, hA2]; done) HR2.out (by rw [HL2.out]; exact Kd.C_below HC2.out HB2.out) HB2.out (by have := HL1.out; have := HL2.out; simp; omega) ?_; intro v3 w3 hR3 hb3 hg3; have HR3 := Aside0.mk hR3; have HB3 := Aside0.mk hb3; clear hR3 hb3 hg3))
      all_goals
        go_wp2
        go_ret2
        exact ⟨_, rfl, HR3.out, HB3.out⟩
def dropT (l : List S56) (t : Nat) (a : ByteArray) : List S56 × Int := if t < l.length ∧ ((l.getD t z56).f0.toList == a.toList) = true then (l.take t ++ l.drop (t + 1), 0) else (l, 5)
def putT (l : List S56) (t : Nat) (a v : ByteArray) : List S56 × Int := if t < l.length ∧ ((l.getD t z56).f0.toList == a.toList) = true then (l.set t ⟨(l.getD t z56).f0, v⟩, 0) else if l.length = 400 then (l, 7) else (l.take t ++ ⟨a, v⟩ :: l.drop t, 0)
theorem getD_at (l : List S56) (t : Nat) (h : t < l.length) : l.getD t z56 = l[t] := by simp [List.getD, List.getElem?_eq_getElem h]
theorem l03Drop_calls (k : Nat) (A0 : Option Addr) (c0 : Nat) (l0 : List S56) (a1 : ByteArray) (t : Nat) (w : World) (hr0 : Kd.C k56 w A0 l0.length l0) (hc0 : l0.length ≤ c0) (ht : spec_l03At.f k l0 a1 = some (t : Int)) (htl : t ≤ l0.length) (hl : l0.length * 32 ≤ 140737488355328) :
    Calls Tryz.prog 106 #[.slice A0 l0.length c0, .string a1] w fun e w' => ∃ v, e = .returned (.tuple #[v, .int .i64 (dropT l0 t a1).2]) ∧ RO w.heap.size (.slice A0 l0.length c0) l0 w' v (dropT l0 t a1).1 ∧ Below w.heap.size w w' := by
  by_cases h : t < l0.length ∧ ((l0.getD t z56).f0.toList == a1.toList) = true
  · have e : dropT l0 t a1 = (l0.take t ++ l0.drop (t + 1), 0) := by unfold dropT; rw [if_pos h]
    rw [e]
    rw [getD_at _ _ h.1] at h
    refine (l03Drop_some k A0 c0 l0 a1 t w hr0 hc0 ht h.1 h.2 hl).mono ?_
    rintro e w' ⟨v, rfl, hR, hb⟩
    exact ⟨v, rfl, .inr hR, hb⟩
  · have e : dropT l0 t a1 = (l0, 5) := by unfold dropT; rw [if_neg h]
    rw [e]
    refine (l03Drop_none k A0 c0 l0 a1 t w hr0 hc0 ht htl (fun hh => ?_)).mono ?_
    · rw [← getD_at _ _ hh]
      exact Bool.eq_false_iff.2 fun hx => h ⟨hh, hx⟩
    · rintro e w' ⟨rfl, hd⟩
      exact ⟨_, rfl, .inl ⟨rfl, rfl⟩, hd.below⟩
theorem l03Put_calls (k : Nat) (A0 : Option Addr) (c0 : Nat) (l0 : List S56) (a1 a2 : ByteArray) (t : Nat) (w : World) (hr0 : Kd.C k56 w A0 l0.length l0) (hc0 : l0.length ≤ c0) (ht : spec_l03At.f k l0 a1 = some (t : Int)) (htl : t ≤ l0.length) (hl : (l0.length + 1) * 32 ≤ 140737488355328) :
    Calls Tryz.prog 107 #[.slice A0 l0.length c0, .string a1, .string a2] w fun e w' => ∃ v, e = .returned (.tuple #[v, .int .i64 (putT l0 t a1 a2).2]) ∧ RO w.heap.size (.slice A0 l0.length c0) l0 w' v (putT l0 t a1 a2).1 ∧ Below w.heap.size w w' := by
  by_cases h : t < l0.length ∧ ((l0.getD t z56).f0.toList == a1.toList) = true
  · have e : putT l0 t a1 a2 = (l0.set t ⟨(l0.getD t z56).f0, a2⟩, 0) := by unfold putT; rw [if_pos h]
    rw [e]
    have h2 := h.2
    rw [getD_at _ _ h.1] at h2
    refine (l03Put_set k A0 c0 l0 a1 a2 t w hr0 hc0 ht h.1 h2 (by omega)).mono ?_
    rintro e w' ⟨v, rfl, hR, hb⟩
    exact ⟨v, rfl, .inr hR, hb⟩
  · have hn : ∀ hh : t < l0.length, ((l0[t]'hh).f0.toList == a1.toList) = false := fun hh => by
      rw [← getD_at _ _ hh]
      exact Bool.eq_false_iff.2 fun hx => h ⟨hh, hx⟩
    by_cases hf : l0.length = 400
    · have e : putT l0 t a1 a2 = (l0, 7) := by unfold putT; rw [if_neg h, if_pos hf]
      rw [e]
      refine (l03Put_full k A0 c0 l0 a1 a2 t w hr0 hc0 ht htl hn hf).mono ?_
      rintro e w' ⟨rfl, hd⟩
      exact ⟨_, rfl, .inl ⟨rfl, rfl⟩, hd.below⟩
    · have e : putT l0 t a1 a2 = (l0.take t ++ ⟨a1, a2⟩ :: l0.drop t, 0) := by unfold putT; rw [if_neg h, if_neg hf]
      rw [e]
      refine (l03Put_ins k A0 c0 l0 a1 a2 t w hr0 hc0 ht htl hn hf hl).mono ?_
      rintro e w' ⟨v, rfl, hR, hb⟩
      exact ⟨v, rfl, .inr hR, hb⟩
end Go.Proofs.YtpkfdjlmflmilaaGreatDoor.Q
end
section
namespace Go.Proofs.YtpkfdjlmflmilaaGreatDoor.Q
open Go.RowKit Go.Proofs.YtpkfdjlmflmilaaGreatDoorW.PrintWords Go.Proofs.YtpkfdjlmflmilaaGreatDoorW.PrintLast Go.Proofs.YtpkfdjlmflmilaaGreatDoorW.PrintMore
attribute [local go_sem] max2_int min2_int max_two min_two max_three min_three max_four min_four   -- for this text's walks alone
set_option linter.unusedVariables false
set_option linter.unusedSimpArgs false

/-! ### impl_bankCode: function 34 -/
def impl_bankCode.f (k : Nat) (l0 : List (S56)) (a1 : Int) (l2 : List ByteArray) : Option (Int) := (impl_storeCode.f k l0 l2).bind fun t156 => (if t156 = 0 then ((impl_areNames.f k l2).bind fun t157 => (if t157 = true then ((impl_isSome.f a1).bind fun t158 => (if t158 = true then (some 0) else (some 4))) else (some 4))) else (some t156))
set_option maxHeartbeats 8000000 in
set_option maxRecDepth 100000 in
theorem impl_bankCode.calls (k : Nat) (A0 : Option Addr) (c0 : Nat) (l0 : List (S56)) (a1 : Int) (A2 : Option Addr) (c2 : Nat) (l2 : List ByteArray) (r : Int) (w : World) (hr0 : Kd.C k56 w A0 l0.length l0) (hc0 : l0.length ≤ c0) (hr2 : Kd.C Kd.string w A2 l2.length l2) (hc2 : l2.length ≤ c2) (h : impl_bankCode.f k l0 a1 l2 = some r) :
    Calls Tryz.prog 34 #[.slice A0 l0.length c0, .int .i64 a1, .slice A2 l2.length c2] w fun e w' => e = .returned (.int .i64 r) ∧ Below w.heap.size w w' := by
  have HR0 := Aside0.mk hr0
  have HC0 := Aside0.mk hc0
  clear hr0 hc0
  have HR2 := Aside0.mk hr2
  have HC2 := Aside0.mk hc2
  clear hr2 hc2
  have HB := Aside0.mk (Below.refl w.heap.size w)
  have H : ((impl_storeCode.f k l0 l2).bind fun t156 => (if t156 = 0 then ((impl_areNames.f k l2).bind fun t157 => (if t157 = true then ((impl_isSome.f a1).bind fun t158 => (if t158 = true then (some 0) else (some 4))) else (some 4))) else (some t156))) = some r := h
  clear h
  replace H := Option.bind_eq_some_iff.mp H
  obtain ⟨t156, A40, H⟩ := H
  replace H : (if t156 = 0 then ((impl_areNames.f k l2).bind fun t157 => (if t157 = true then ((impl_isSome.f a1).bind fun t158 => (if t158 = true then (some 0) else (some 4))) else (some 4))) else (some t156)) = some r := H
  have A4 := Aside0.mk A40
  clear A40
  by_cases c5 : t156 = 0
  · rw [if_pos c5] at H
    have c5b0 : (t156 == 0) = true := beq_iff_eq.mpr c5
    have c5b1 : (t156 != 0) = false := bne_eq_false_iff_eq.mpr c5
    clear c5
    replace H := Option.bind_eq_some_iff.mp H
    obtain ⟨t157, A60, H⟩ := H
    replace H : (if t157 = true then ((impl_isSome.f a1).bind fun t158 => (if t158 = true then (some 0) else (some 4))) else (some 4)) = some r := H
    have A6 := Aside0.mk A60
    clear A60
    by_cases c7 : t157 = true
    · subst c7
      have H1 : ((impl_isSome.f a1).bind fun t158 => (if t158 = true then (some 0) else (some 4))) = some r := by rw [if_pos rfl] at H; exact H
      clear H
      have H := H1
      clear H1
      replace H := Option.bind_eq_some_iff.mp H
      obtain ⟨t158, A80, H⟩ := H
      replace H : (if t158 = true then (some 0) else (some 4)) = some r := H
      have A8 := Aside0.mk A80
      clear A80
      by_cases c9 : t158 = true
      · subst c9
        have H1 : (some 0) = some r := by rw [if_pos rfl] at H; exact H
        clear H
        have H := H1
        clear H1
        obtain rfl := Option.some.inj H
        go_enter Tryz.func34, Tryz.ntmps34
        go_wp2_with (first | ((with_reducible refine gate_callee (f := 48) rfl ?_); refine goesL_ (some 10) rfl rfl Tryz.func48 (by kernel_rfl) rfl #[.slice A0 l0.length c0, .slice A2 l2.length c2] rfl (by (try simp only [List.map_toArray, List.map_cons, List.map_nil]); first | done | rfl | (simp only [List.length_drop, List.length_take]; rfl)) ?_; (with_reducible refine (impl_storeCode.calls k _ _ l0 _ _ l2 t156 _ ?side1 ?side2 ?side3 ?side4 A4.out).mono ?_); (case side1 => repeat (first | exact HR0.out | (with_reducible refine Kd.C_alloc ?_ _) | (with_reducible refine Kd.C_drewN ?_ _) | (with_reducible refine Kd.C_drew ?_))); (case side2 => exact HC0.out); (case side3 => repeat (first | exact HR2.out | (with_reducible refine Kd.C_alloc ?_ _) | (with_reducible refine Kd.C_drewN ?_ _) | (with_reducible refine Kd.C_drew ?_))); (case side4 => exact HC2.out); rintro e w10 ⟨rfl, hb⟩; refine ⟨_, rfl, ?_⟩; have n0_ := Aside0.mk (below_step (by repeat (first | (with_reducible first | exact HB.out | apply below_alloc | apply pw_below_drewN | apply below_drew1) | exact HB.out)) hb); clear HB; have HB := n0_; clear n0_; (try clear hb); (try clear hb2); (try clear hk); (try clear hi)) | ((with_reducible refine gate_callee (f := 52) rfl ?_); refine goesL_ (some 15) rfl rfl Tryz.func52 (by kernel_rfl) rfl #[.slice A2 l2.length c2] rfl (by (try simp only [List.map_toArray, List.map_cons, List.map_nil]); first | done | rfl | (simp only [List.length_drop, List.length_take]; rfl)) ?_; (with_reducible refine (impl_areNames.calls k _ _ l2 true _ ?side1 ?side2 A6.out).mono ?_); (case side1 => repeat (first | exact (Kd.C_below HR2.out HB.out) | (with_reducible refine Kd.C_alloc ?_ _) | (with_reducible refine Kd.C_drewN ?_ _) | (with_reducible refine Kd.C_drew ?_))); (case side2 => exact HC2.out); rintro e w' ⟨rfl, ⟨nd, rfl⟩⟩; refine ⟨_, rfl, ?_⟩) | (go_at_call 60; (with_reducible refine (impl_isSome.calls a1 true _ A8.out).mono ?_); rintro e w' ⟨rfl, ⟨nd, rfl⟩⟩))
        go_ret
        exact ⟨by first | rfl | (simp [errW_none, errW_some] <;> rfl) | (simp [*, errW_none, errW_some] <;> rfl), by repeat (first | (with_reducible first | exact HB.out | apply below_alloc | apply pw_below_drewN | apply below_drew1) | exact HB.out)⟩
      · replace c9 := Bool.eq_false_iff.mpr c9
        subst c9
        have H1 : (some 4) = some r := by rw [if_neg (show ¬ (false = true) by decide)] at H; exact H
        clear H
        have H := H1
        clear H1
        obtain rfl := Option.some.inj H
        go_enter Tryz.func34, Tryz.ntmps34
        go_wp2_with (first | ((with_reducible refine gate_callee (f := 48) rfl ?_); refine goesL_ (some 10) rfl rfl Tryz.func48 (by kernel_rfl) rfl #[.slice A0 l0.length c0, .slice A2 l2.length c2] rfl (by (try simp only [List.map_toArray, List.map_cons, List.map_nil]); first | done | rfl | (simp only [List.length_drop, List.length_take]; rfl)) ?_; (with_reducible refine (impl_storeCode.calls k _ _ l0 _ _ l2 t156 _ ?side1 ?side2 ?side3 ?side4 A4.out).mono ?_); (case side1 => repeat (first | exact HR0.out | (with_reducible refine Kd.C_alloc ?_ _) | (with_reducible refine Kd.C_drewN ?_ _) | (with_reducible refine Kd.C_drew ?_))); (case side2 => exact HC0.out); (case side3 => repeat (first | exact HR2.out | (with_reducible refine Kd.C_alloc ?_ _) | (with_reducible refine Kd.C_drewN ?_ _) | (with_reducible refine Kd.C_drew ?_))); (case side4 => exact HC2.out); rintro e w11 ⟨rfl, hb⟩; refine ⟨_, rfl, ?_⟩; have n0_ := Aside0.mk (below_step (by repeat (first | (with_reducible first | exact HB.out | apply below_alloc | apply pw_below_drewN | apply below_drew1) | exact HB.out)) hb); clear HB; have HB := n0_; clear n0_; (try clear hb); (try clear hb2); (try clear hk); (try clear hi)) | ((with_reducible refine gate_callee (f := 52) rfl ?_); refine goesL_ (some 15) rfl rfl Tryz.func52 (by kernel_rfl) rfl #[.slice A2 l2.length c2] rfl (by (try simp only [List.map_toArray, List.map_cons, List.map_nil]); first | done | rfl | (simp only [List.length_drop, List.length_take]; rfl)) ?_; (with_reducible refine (impl_areNames.calls k _ _ l2 true _ ?side1 ?side2 A6.out).mono ?_); (case side1 => repeat (first | exact (Kd.C_below HR2.out HB.out) | (with_reducible refine Kd.C_alloc ?_ _) | (with_reducible refine Kd.C_drewN ?_ _) | (with_reducible refine Kd.C_drew ?_))); (case side2 => exact HC2.out); rintro e w' ⟨rfl, ⟨nd, rfl⟩⟩; refine ⟨_, rfl, ?_⟩) | (go_at_call 60; (with_reducible refine (impl_isSome.calls a1 false _ A8.out).mono ?_); rintro e w' ⟨rfl, ⟨nd, rfl⟩⟩))
        go_ret
        exact ⟨by first | rfl | (simp [errW_none, errW_some] <;> rfl) | (simp [*, errW_none, errW_some] <;> rfl), by repeat (first | (with_reducible first | exact HB.out | apply below_alloc | apply pw_below_drewN | apply below_drew1) | exact HB.out)⟩
    · replace c7 := Bool.eq_false_iff.mpr c7
      subst c7
      have H1 : (some 4) = some r := by rw [if_neg (show ¬ (false = true) by decide)] at H; exact H
      clear H
      have H := H1
      clear H1
      obtain rfl := Option.some.inj H
      go_enter Tryz.func34, Tryz.ntmps34
      go_wp2_with (first | ((with_reducible refine gate_callee (f := 48) rfl ?_); refine goesL_ (some 10) rfl rfl Tryz.func48 (by kernel_rfl) rfl #[.slice A0 l0.length c0, .slice A2 l2.length c2] rfl (by (try simp only [List.map_toArray, List.map_cons, List.map_nil]); first | done | rfl | (simp only [List.length_drop, List.length_take]; rfl)) ?_; (with_reducible refine (impl_storeCode.calls k _ _ l0 _ _ l2 t156 _ ?side1 ?side2 ?side3 ?side4 A4.out).mono ?_); (case side1 => repeat (first | exact HR0.out | (with_reducible refine Kd.C_alloc ?_ _) | (with_reducible refine Kd.C_drewN ?_ _) | (with_reducible refine Kd.C_drew ?_))); (case side2 => exact HC0.out); (case side3 => repeat (first | exact HR2.out | (with_reducible refine Kd.C_alloc ?_ _) | (with_reducible refine Kd.C_drewN ?_ _) | (with_reducible refine Kd.C_drew ?_))); (case side4 => exact HC2.out); rintro e w12 ⟨rfl, hb⟩; refine ⟨_, rfl, ?_⟩; have n0_ := Aside0.mk (below_step (by repeat (first | (with_reducible first | exact HB.out | apply below_alloc | apply pw_below_drewN | apply below_drew1) | exact HB.out)) hb); clear HB; have HB := n0_; clear n0_; (try clear hb); (try clear hb2); (try clear hk); (try clear hi)) | ((with_reducible refine gate_callee (f := 52) rfl ?_); refine goesL_ (some 15) rfl rfl Tryz.func52 (by kernel_rfl) rfl #[.slice A2 l2.length c2] rfl (by (try simp only [List.map_toArray, List.map_cons, List.map_nil]); first | done | rfl | (simp only [List.length_drop, List.length_take]; rfl)) ?_; (with_reducible refine (impl_areNames.calls k _ _ l2 false _ ?side1 ?side2 A6.out).mono ?_); (case side1 => repeat (first | exact (Kd.C_below HR2.out HB.out) | (with_reducible refine Kd.C_alloc ?_ _) | (with_reducible refine Kd.C_drewN ?_ _) | (with_reducible refine Kd.C_drew ?_))); (case side2 => exact HC2.out); rintro e w' ⟨rfl, ⟨nd, rfl⟩⟩; refine ⟨_, rfl, ?_⟩))
      go_ret
      exact ⟨by first | rfl | (simp [errW_none, errW_some] <;> rfl) | (simp [*, errW_none, errW_some] <;> rfl), by repeat (first | (with_reducible first | exact HB.out | apply below_alloc | apply pw_below_drewN | apply below_drew1) | exact HB.out)⟩
  · rw [if_neg c5] at H
    have c5b0 : (t156 == 0) = false := beq_eq_false_iff_ne.mpr c5
    have c5b1 : (t156 != 0) = true := bne_iff_ne.mpr c5
    obtain rfl := Option.some.inj H
    go_enter Tryz.func34, Tryz.ntmps34
    go_wp2_with (first | ((with_reducible refine gate_callee (f := 48) rfl ?_); refine goesL_ (some 10) rfl rfl Tryz.func48 (by kernel_rfl) rfl #[.slice A0 l0.length c0, .slice A2 l2.length c2] rfl (by (try simp only [List.map_toArray, List.map_cons, List.map_nil]); first | done | rfl | (simp only [List.length_drop, List.length_take]; rfl)) ?_; (with_reducible refine (impl_storeCode.calls k _ _ l0 _ _ l2 t156 _ ?side1 ?side2 ?side3 ?side4 A4.out).mono ?_); (case side1 => repeat (first | exact HR0.out | (with_reducible refine Kd.C_alloc ?_ _) | (with_reducible refine Kd.C_drewN ?_ _) | (with_reducible refine Kd.C_drew ?_))); (case side2 => exact HC0.out); (case side3 => repeat (first | exact HR2.out | (with_reducible refine Kd.C_alloc ?_ _) | (with_reducible refine Kd.C_drewN ?_ _) | (with_reducible refine Kd.C_drew ?_))); (case side4 => exact HC2.out); rintro e w13 ⟨rfl, hb⟩; refine ⟨_, rfl, ?_⟩; have n0_ := Aside0.mk (below_step (by repeat (first | (with_reducible first | exact HB.out | apply below_alloc | apply pw_below_drewN | apply below_drew1) | exact HB.out)) hb); clear HB; have HB := n0_; clear n0_; (try clear hb); (try clear hb2); (try clear hk); (try clear hi)))
    go_ret
    exact ⟨by first | rfl | (simp [errW_none, errW_some] <;> rfl) | (simp [*, errW_none, errW_some] <;> rfl), by repeat (first | (with_reducible first | exact HB.out | apply below_alloc | apply pw_below_drewN | apply below_drew1) | exact HB.out)⟩



/-! ### laws_eqPair: function 36 -/
/-! ### laws_eqPairS: function 11 -/
/-! ### laws_markText: function 37 -/
/-! ### laws_markPairS: function 12 -/
end Go.Proofs.YtpkfdjlmflmilaaGreatDoor.Q
end
section
namespace Go.Proofs.YtpkfdjlmflmilaaGreatDoor.Pure
open Go.RowKit Go.Proofs.YtpkfdjlmflmilaaGreatDoor.Q Go.Proofs.YtpkfdjlmflmilaaGreatDoorW.PrintWords Go.Proofs.YtpkfdjlmflmilaaGreatDoorW.PrintLast
set_option linter.unusedVariables false

theorem up64 {i n : Nat} (h : i < n) (hn : n ≤ 9223372036854775807) : wrap64 ((i : Int) + 1) = ((i + 1 : Nat) : Int) := by unfold wrap64; omega
noncomputable instance decP : DecidableEq S56 := fun a b => Classical.propDecidable (a = b)
/-! ### sizes: an answer, and where it is not negative the list is short -/
/-! ### copies -/
/-! ### comparison -/
end Go.Proofs.YtpkfdjlmflmilaaGreatDoor.Pure
end
section
namespace Go.Proofs.YtpkfdjlmflmilaaGreatDoor.Pure
open Go.RowKit Go.Proofs.YtpkfdjlmflmilaaGreatDoor.Q Go.Proofs.YtpkfdjlmflmilaaGreatDoorW.PrintWords Go.Proofs.YtpkfdjlmflmilaaGreatDoorW.PrintLast
set_option linter.unusedVariables false

/-! ### the order of texts -/
theorem less_irrefl : ∀ a : List UInt8, Op.bytesLess a a = false
  | [] => rfl
  | a :: x => by unfold Op.bytesLess; simp [less_irrefl x]
theorem less_trans : ∀ {a b c : List UInt8}, Op.bytesLess a b = true → Op.bytesLess b c = true → Op.bytesLess a c = true
  | _, _, [], _, h => by cases ‹List UInt8› <;> simp [Op.bytesLess] at h
  | _, [], _ :: _, h, _ => by cases ‹List UInt8› <;> simp [Op.bytesLess] at h
  | [], _ :: _, _ :: _, _, _ => rfl
  | a :: x, b :: y, c :: z, h, h' => by
    unfold Op.bytesLess at h h' ⊢
    simp only [Bool.or_eq_true, Bool.and_eq_true, decide_eq_true_eq, beq_iff_eq] at h h' ⊢
    rcases h with h | ⟨rfl, h⟩
    · rcases h' with h' | ⟨rfl, h'⟩
      · exact .inl (UInt8.lt_trans h h')
      · exact .inl h
    · rcases h' with h' | ⟨rfl, h'⟩
      · exact .inl h'
      · exact .inr ⟨rfl, less_trans h h'⟩
theorem less_total : ∀ {a b : List UInt8}, Op.bytesLess a b = false → Op.bytesLess b a = false → a = b
  | [], [], _, _ => rfl
  | [], _ :: _, h, _ => by simp [Op.bytesLess] at h
  | _ :: _, [], _, h => by simp [Op.bytesLess] at h
  | a :: x, b :: y, h, h' => by
    unfold Op.bytesLess at h h'
    simp only [Bool.or_eq_false_iff, Bool.and_eq_false_iff, decide_eq_false_iff_not, beq_eq_false_iff_ne] at h h'
    have e : a = b := UInt8.le_antisymm (UInt8.not_lt.1 h'.1) (UInt8.not_lt.1 h.1)
    subst e
    have h1 : Op.bytesLess x y = false := by rcases h.2 with h2 | h2; exact absurd rfl h2; exact h2
    have h2 : Op.bytesLess y x = false := by rcases h'.2 with h2 | h2; exact absurd rfl h2; exact h2
    rw [less_total h1 h2]
/-! ### a right store -/
abbrev key (l : List S56) (i : Nat) : ByteArray := (l.getD i z56).f0
def fromB (l : List S56) (i : Nat) : Bool := (List.range (l.length - i)).all fun j => pairB l (i + j)
theorem fromB_end (l : List S56) (i : Nat) (h : l.length ≤ i) : fromB l i = true := by
  unfold fromB
  rw [show l.length - i = 0 by omega]
  rfl
theorem fromB_step (l : List S56) (i : Nat) (h : i < l.length) : fromB l i = (pairB l i && fromB l (i + 1)) := by
  unfold fromB
  rw [show l.length - i = (l.length - (i + 1)) + 1 by omega, List.range_succ_eq_map, List.all_cons, List.all_map]
  congr 1
  apply List.all_congr rfl
  intro x
  simp only [Function.comp]
  congr 1
  omega
theorem rightB_from (l : List S56) : rightB l = (fromB l 0 && decide (l.length ≤ 400)) := by
  unfold rightB fromB
  congr 1
  rw [Nat.sub_zero]
  apply List.all_congr rfl
  intro x
  rw [Nat.zero_add]
theorem right_pair {l : List S56} (h : rightB l = true) (i : Nat) (hi : i < l.length) : pairB l i = true := by
  unfold rightB at h
  rw [Bool.and_eq_true] at h
  exact List.all_eq_true.1 h.1 i (List.mem_range.2 hi)
theorem right_len {l : List S56} (h : rightB l = true) : l.length ≤ 400 := by
  unfold rightB at h
  rw [Bool.and_eq_true] at h
  exact of_decide_eq_true h.2
theorem right_key {l : List S56} (h : rightB l = true) (i : Nat) (hi : i < l.length) : keyB (key l i) = true ∧ valB (l.getD i z56).f1 = true := by
  have := right_pair h i hi
  unfold pairB at this
  simp only [Bool.and_eq_true] at this
  exact ⟨this.1, this.2.1⟩
theorem right_step {l : List S56} (h : rightB l = true) (i : Nat) (hi : i + 1 < l.length) : Op.bytesLess (key l i).toList (key l (i + 1)).toList = true := by
  have := right_pair h (i + 1) hi
  unfold pairB riseB at this
  simp only [Bool.and_eq_true, Bool.or_eq_true, decide_eq_true_eq, Nat.add_sub_cancel] at this
  rcases this.2.2 with h | h
  · omega
  · exact h
theorem right_rise {l : List S56} (h : rightB l = true) (d : Nat) : ∀ i, i + d + 1 < l.length → Op.bytesLess (key l i).toList (key l (i + d + 1)).toList = true := by
  induction d with
  | zero => intro i hi; exact right_step h i hi
  | succ d ih => intro i hi; exact less_trans (ih i (by omega)) (right_step h (i + d + 1) hi)
theorem right_lt {l : List S56} (h : rightB l = true) {i j : Nat} (hij : i < j) (hj : j < l.length) : Op.bytesLess (key l i).toList (key l j).toList = true := by
  have := right_rise h (j - i - 1) i (by omega)
  rwa [show i + (j - i - 1) + 1 = j by omega] at this
theorem spec_in (n a b : Int) : spec_l01In.f n a b = some (decide (a ≤ n) && decide (n ≤ b)) := by
  unfold spec_l01In.f
  by_cases h : n ≥ a
  · rw [if_pos h, decide_eq_true (show a ≤ n from h), Bool.true_and]
  · rw [if_neg h, decide_eq_false (show ¬ a ≤ n from h), Bool.false_and]
theorem spec_key (s : ByteArray) : spec_l03Key.f s = some (keyB s) := by
  unfold spec_l03Key.f keyB
  rw [spec_in]
  simp only [Option.bind_some, Option.some.injEq]
  congr 1 <;> (rw [decide_eq_decide]; omega)
theorem spec_pair (s t : ByteArray) : spec_l03Pair.f s t = some (keyB s && valB t) := by
  unfold spec_l03Pair.f valB
  rw [spec_key]
  have : decide ((t.size : Int) ≤ 1000) = decide (t.size ≤ 1000) := by rw [decide_eq_decide]; omega
  simp only [Option.bind_some, this]
  cases keyB s <;> simp
theorem down64 {i : Nat} (h : 0 < i) (hi : i ≤ 9223372036854775807) : wrap64 ((i : Int) - 1) = ((i - 1 : Nat) : Int) := by unfold wrap64; omega
theorem spec_ok_l0 (l : List S56) (hl : l.length ≤ 9223372036854775807) (d : Nat) : ∀ (k i : Nat), l.length - i = d → d < k → spec_StoreOK.l0 k l (i : Int) = some (fromB l i) := by
  induction d with
  | zero =>
    intro k i hd hk
    obtain ⟨k, rfl⟩ : ∃ m, k = m + 1 := ⟨k - 1, by omega⟩
    simp only [spec_StoreOK.l0]
    rw [if_neg (by omega), fromB_end l i (by omega)]
  | succ d ih =>
    intro k i hd hk
    obtain ⟨k, rfl⟩ : ∃ m, k = m + 1 := ⟨k - 1, by omega⟩
    have hlt : i < l.length := by omega
    have h := ih k (i + 1) (by omega) (by omega)
    simp only [spec_StoreOK.l0, spec_pair, Option.bind_some]
    rw [if_pos (by omega), if_pos (by omega), up64 hlt hl, h, fromB_step l i hlt]
    unfold pairB riseB
    have hr : rd_T56 l (i : Int) = l.getD i z56 := by simp [rd_T56]
    rw [hr]
    cases hk' : (keyB (l.getD i z56).f0 && valB (l.getD i z56).f1) with
    | false => rw [← Bool.and_assoc, hk']; simp
    | true =>
      rw [← Bool.and_assoc, hk', if_pos rfl, Bool.true_and]
      by_cases h0 : i = 0
      · subst h0; simp
      · rw [if_pos (by omega), down64 (by omega) (by omega), if_pos (by omega), if_pos (by omega), show rd_T56 l ((i - 1 : Nat) : Int) = l.getD (i - 1) z56 by simp [rd_T56], decide_eq_false h0, Bool.false_or]
        cases Op.bytesLess (l.getD (i - 1) z56).f0.toList (l.getD i z56).f0.toList <;> simp
theorem spec_ok (l : List S56) (hl : l.length ≤ 9223372036854775807) (k : Nat) (hk : l.length < k) : spec_StoreOK.f k l = some (rightB l) := by
  unfold spec_StoreOK.f
  rw [rightB_from]
  by_cases h1 : (l.length : Int) > 4096
  · rw [if_pos h1, decide_eq_false (show ¬ l.length ≤ 400 by omega), Bool.and_false]
  · rw [if_neg h1]
    by_cases h2 : (l.length : Int) > 400
    · rw [if_pos h2, decide_eq_false (show ¬ l.length ≤ 400 by omega), Bool.and_false]
    · have := spec_ok_l0 l hl l.length k 0 (by omega) hk
      rw [if_neg h2, decide_eq_true (show l.length ≤ 400 by omega), Bool.and_true]
      exact this

/-! ### the place of a key -/
theorem w_sum (i j : Nat) (h : i + j ≤ 9223372036854775807) : wrap64 ((i : Int) + (j : Int)) = ((i + j : Nat) : Int) := by unfold wrap64; omega
theorem w_nat (n : Nat) (h : n ≤ 9223372036854775807) : wrap64 (n : Int) = (n : Int) := by unfold wrap64; omega
theorem w_succ (n : Nat) (h : n < 9223372036854775807) : wrap64 ((n : Int) + 1) = ((n + 1 : Nat) : Int) := by unfold wrap64; omega
theorem t_half (n : Nat) : Int.tdiv ((n : Nat) : Int) 2 = ((n / 2 : Nat) : Int) := by rw [Int.tdiv_eq_ediv_of_nonneg (by omega)]; omega
theorem spec_at_l0 (l : List S56) (a : ByteArray) (hl : l.length ≤ 4611686018427387904) (f : Nat) : ∀ (k i j : Nat), i ≤ j → j ≤ l.length → j - i ≤ f → f < k → spec_l03At.l0 k l a (i : Int) (j : Int) = some ((lbF l a f i j : Nat) : Int) := by
  induction f with
  | zero =>
    intro k i j hij hj hf hk
    obtain ⟨k, rfl⟩ : ∃ m, k = m + 1 := ⟨k - 1, by omega⟩
    simp only [spec_l03At.l0]
    rw [if_neg (by omega)]
    rfl
  | succ f ih =>
    intro k i j hij hj hf hk
    obtain ⟨k, rfl⟩ : ∃ m, k = m + 1 := ⟨k - 1, by omega⟩
    simp only [spec_l03At.l0, lbF]
    by_cases hlt : i < j
    · have hs : i + j ≤ 9223372036854775807 := by omega
      have h3 : (i + j) / 2 < 9223372036854775807 := by omega
      have p1 : (i : Int) < (j : Int) := by omega
      have p2 : (0 : Int) ≤ (((i + j) / 2 : Nat) : Int) := by omega
      have p3 : (((i + j) / 2 : Nat) : Int) < (l.length : Int) := by omega
      rw [w_sum i j hs, t_half (i + j), w_nat ((i + j) / 2) (Nat.le_of_lt h3), w_succ ((i + j) / 2) h3, if_pos p1, if_pos p2, if_pos p3, if_pos hlt]
      have hr : rd_T56 l (((i + j) / 2 : Nat) : Int) = l.getD ((i + j) / 2) z56 := by simp only [rd_T56, Int.toNat_natCast]
      rw [hr, Lib.toList_data, Lib.toList_data]
      by_cases hc : Op.bytesLess (l.getD ((i + j) / 2) z56).f0.data.toList a.data.toList = true
      · rw [if_pos hc, if_pos hc]; exact ih k _ _ (by omega) (by omega) (by omega) (by omega)
      · rw [if_neg hc, if_neg hc]; exact ih k _ _ (by omega) (by omega) (by omega) (by omega)
    · rw [if_neg (by omega), if_neg hlt]
theorem spec_at (l : List S56) (a : ByteArray) (hl : l.length ≤ 4611686018427387904) (k : Nat) (hk : l.length < k) : spec_l03At.f k l a = some ((lbN l a : Nat) : Int) := by
  unfold spec_l03At.f lbN
  exact spec_at_l0 l a hl l.length k 0 l.length (by omega) (by omega) (by omega) hk
theorem lbN_le (l : List S56) (a : ByteArray) : lbN l a ≤ l.length := lbF_le l a l.length 0 l.length (Nat.zero_le _)
/-- Of a rising list: what stands ahead is below, what stands from there on is not. -/
theorem lbF_spec {l : List S56} (hr : rightB l = true) (a : ByteArray) (f : Nat) : ∀ i j, i ≤ j → j ≤ l.length → j - i ≤ f → (∀ x, x < i → Op.bytesLess (key l x).toList a.toList = true) → (∀ x, j ≤ x → x < l.length → Op.bytesLess (key l x).toList a.toList = false) →
    (∀ x, x < lbF l a f i j → Op.bytesLess (key l x).toList a.toList = true) ∧ (∀ x, lbF l a f i j ≤ x → x < l.length → Op.bytesLess (key l x).toList a.toList = false) := by
  induction f with
  | zero =>
    intro i j hij hj hf h1 h2
    have : i = j := by omega
    subst this
    exact ⟨h1, h2⟩
  | succ f ih =>
    intro i j hij hj hf h1 h2
    unfold lbF
    by_cases hlt : i < j
    · rw [if_pos hlt]
      by_cases hc : Op.bytesLess (l.getD ((i + j) / 2) z56).f0.data.toList a.data.toList = true
      · rw [if_pos hc]
        rw [← Lib.toList_data, ← Lib.toList_data] at hc
        refine ih _ _ (by omega) (by omega) (by omega) (fun x hx => ?_) h2
        by_cases e : x = (i + j) / 2
        · rw [e]; exact hc
        · exact less_trans (right_lt hr (show x < (i + j) / 2 by omega) (by omega)) hc
      · rw [if_neg hc]
        rw [← Lib.toList_data, ← Lib.toList_data] at hc
        refine ih _ _ (by omega) (by omega) (by omega) h1 (fun x hx hx' => ?_)
        by_cases e : x = (i + j) / 2
        · rw [e]; exact Bool.eq_false_iff.2 hc
        · rw [Bool.eq_false_iff]
          intro hh
          exact hc (less_trans (right_lt hr (show (i + j) / 2 < x by omega) hx') hh)
    · rw [if_neg hlt]
      have : i = j := by omega
      subst this
      exact ⟨h1, h2⟩
theorem lbN_below {l : List S56} (hr : rightB l = true) (a : ByteArray) (x : Nat) (h : x < lbN l a) : Op.bytesLess (key l x).toList a.toList = true :=
  (lbF_spec hr a l.length 0 l.length (by omega) (by omega) (by omega) (fun x h => absurd h (Nat.not_lt_zero _)) (fun x h h' => by omega)).1 x h
theorem lbN_from {l : List S56} (hr : rightB l = true) (a : ByteArray) (x : Nat) (h : lbN l a ≤ x) (h' : x < l.length) : Op.bytesLess (key l x).toList a.toList = false :=
  (lbF_spec hr a l.length 0 l.length (by omega) (by omega) (by omega) (fun x h => absurd h (Nat.not_lt_zero _)) (fun x h h' => by omega)).2 x h h'

/-! ### the codes -/
def codeN (l : List S56) (long : Bool) : Int := if l.length > 4096 ∨ long = true then 2 else if rightB l = true then 0 else 1
theorem impl_code (l : List S56) (ts : List ByteArray) (k : Nat) (hk : 1 < k) : impl_storeCode.f k l ts = some (codeN l (ts.any fun x => decide (65536 < (x.size : Int)))) := by
  obtain ⟨k, rfl⟩ : ∃ m, k = m + 1 := ⟨k - 1, by omega⟩
  unfold impl_storeCode.f codeN impl_isText.f
  generalize ts.any (fun x => decide (65536 < (x.size : Int))) = b
  simp only [Option.bind_some]
  unfold impl_Pair_77.f
  by_cases h : l.length > 4096
  · rw [decide_eq_false (show ¬ (l.length : Int) ≤ 4096 by omega)]
    simp [impl_storeCode.j0, h]
  · rw [decide_eq_true (show (l.length : Int) ≤ 4096 by omega)]
    cases b with
    | true => simp [impl_storeCode.j0]
    | false =>
      simp only [Option.bind_some, if_true, Bool.not_false, Bool.not_true, impl_storeCode.j0, impl_StoreOK.f]
      have hn : ¬ (l.length > 4096 ∨ false = true) := by simp; omega
      rw [if_neg hn]
      cases rightB l <;> simp
end Go.Proofs.YtpkfdjlmflmilaaGreatDoor.Pure
end
section
namespace Go.Proofs.YtpkfdjlmflmilaaGreatDoor.Pure
open Go.RowKit Go.Proofs.YtpkfdjlmflmilaaGreatDoor.Q Go.Proofs.YtpkfdjlmflmilaaGreatDoorW.PrintWords Go.Proofs.YtpkfdjlmflmilaaGreatDoorW.PrintLast
set_option linter.unusedVariables false
def getN (l : List S56) (a : ByteArray) : ByteArray × Bool := if fdB l a = true then ((l.getD (lbN l a) z56).f1, true) else (⟨#[]⟩, false)
theorem fdB_lt {l : List S56} {a : ByteArray} (h : fdB l a = true) : lbN l a < l.length := by
  unfold fdB at h
  rw [Bool.and_eq_true] at h
  exact of_decide_eq_true h.1
theorem fdB_key {l : List S56} {a : ByteArray} (h : fdB l a = true) : (l.getD (lbN l a) z56).f0 = a := by
  unfold fdB at h
  rw [Bool.and_eq_true] at h
  have := eq_of_beq h.2
  exact Go.WideShapes.bytes_inj this
theorem fdB_eq (l : List S56) (a : ByteArray) (h : lbN l a < l.length) : fdB l a = decide ((l.getD (lbN l a) z56).f0.toList = a.toList) := by
  unfold fdB
  rw [decide_eq_true h, Bool.true_and, Lib.toList_data, Lib.toList_data, Bool.eq_iff_iff]
  simp
theorem impl_get_eq (l : List S56) (a : ByteArray) : impl_get.f l a = some (getN l a) := by
  unfold impl_get.f impl_pairAt.f getN
  rw [Option.bind_some]
  cases h : fdB l a with
  | true =>
    have := fdB_lt h
    have hr : rd_T56 l ((lbN l a : Nat) : Int) = l.getD (lbN l a) z56 := by simp only [rd_T56, Int.toNat_natCast]
    rw [if_pos rfl, if_pos (by omega), if_pos (by omega), if_pos rfl, hr]
  | false => rfl
theorem spec_get_eq (l : List S56) (a : ByteArray) (hl : l.length ≤ 4611686018427387904) (k : Nat) (hk : l.length < k) : spec_l03Get.f k l a = some (getN l a) := by
  unfold spec_l03Get.f getN
  rw [spec_at l a hl k hk, Option.bind_some]
  have hle := lbN_le l a
  by_cases hlt : lbN l a < l.length
  · have hr : rd_T56 l ((lbN l a : Nat) : Int) = l.getD (lbN l a) z56 := by simp only [rd_T56, Int.toNat_natCast]
    rw [if_pos (by omega), if_pos (by omega), hr, fdB_eq l a hlt]
    by_cases h : (l.getD (lbN l a) z56).f0.toList = a.toList
    · rw [if_pos h, if_pos (decide_eq_true h)]
    · rw [if_neg h, if_neg (by rw [decide_eq_false h]; simp)]
  · have hf : fdB l a = false := by unfold fdB; rw [decide_eq_false hlt, Bool.false_and]
    rw [if_neg (by omega), hf]
    rfl
end Go.Proofs.YtpkfdjlmflmilaaGreatDoor.Pure
end
section
namespace Go.Proofs.YtpkfdjlmflmilaaGreatDoor.Dd
set_option linter.unusedVariables false
theorem small {n : Nat} (h : n < 10) : Lib.decDigits n = [UInt8.ofNat (48 + n)] := by rw [Lib.decDigits, dif_pos h]
theorem big {n : Nat} (h : ¬ n < 10) : Lib.decDigits n = Lib.decDigits (n / 10) ++ [UInt8.ofNat (48 + n % 10)] := by rw [Lib.decDigits, dif_neg h]
theorem len : ∀ (k n : Nat), 1 ≤ k → n < 10 ^ k → (Lib.decDigits n).length ≤ k := by
  intro k
  induction k with
  | zero => intro n h; omega
  | succ k ih =>
    intro n _ hn
    by_cases h : n < 10
    · rw [small h]
      simp
    · rw [big h, List.length_append]
      have hk : 1 ≤ k := by
        rcases Nat.eq_zero_or_pos k with rfl | h1
        · simp at hn
          omega
        · exact h1
      have := ih (n / 10) hk (by rw [Nat.pow_succ] at hn; omega)
      simp
      omega
def isD (c : UInt8) : Prop := 48 ≤ c.toNat ∧ c.toNat ≤ 57
instance (c : UInt8) : Decidable (isD c) := by unfold isD; infer_instance
/-- The number that digits tell, some having gone before. -/
def val (acc : Nat) : List UInt8 → Nat
  | [] => acc
  | c :: r => val (acc * 10 + (c.toNat - 48)) r
theorem val_snoc (l : List UInt8) : ∀ (acc : Nat) (c : UInt8), val acc (l ++ [c]) = val acc l * 10 + (c.toNat - 48) := by
  induction l with
  | nil => intro acc c; rfl
  | cons x r ih => intro acc c; exact ih _ c
theorem val_le (l : List UInt8) : ∀ (acc : Nat), acc ≤ val acc l := by
  induction l with
  | nil => intro acc; exact Nat.le_refl _
  | cons x r ih =>
    intro acc
    have := ih (acc * 10 + (x.toNat - 48))
    show acc ≤ val (acc * 10 + (x.toNat - 48)) r
    omega
theorem dig_toNat {d : Nat} (h : d < 10) : (UInt8.ofNat (48 + d)).toNat = 48 + d := by
  rw [UInt8.toNat_ofNat']
  omega
theorem dig_isD {d : Nat} (h : d < 10) : isD (UInt8.ofNat (48 + d)) := by
  unfold isD
  rw [dig_toNat h]
  omega
theorem isD_dig {c : UInt8} (h : isD c) : UInt8.ofNat (48 + (c.toNat - 48)) = c := by
  unfold isD at h
  rw [show 48 + (c.toNat - 48) = c.toNat by omega]
  simp
/-- Of a number's digits: all are, they tell it, there is one, and none needless ahead. -/
theorem of_num : ∀ (n : Nat), (∀ c ∈ Lib.decDigits n, isD c) ∧ val 0 (Lib.decDigits n) = n ∧ (∃ c r, Lib.decDigits n = c :: r ∧ (c.toNat = 48 → n = 0)) := by
  intro n
  induction n using Nat.strongRecOn with
  | _ n ih =>
    by_cases h : n < 10
    · rw [small h]
      refine ⟨?_, ?_, _, [], rfl, ?_⟩
      · intro c hc
        simp only [List.mem_singleton] at hc
        subst hc
        exact dig_isD h
      · show 0 * 10 + ((UInt8.ofNat (48 + n)).toNat - 48) = n
        rw [dig_toNat h]
        omega
      · rw [dig_toNat h]
        omega
    · obtain ⟨h1, h2, c, r, h3, h4⟩ := ih (n / 10) (by omega)
      have hm : n % 10 < 10 := Nat.mod_lt _ (by decide)
      rw [big h]
      refine ⟨?_, ?_, c, r ++ [UInt8.ofNat (48 + n % 10)], by rw [h3]; rfl, fun hc => ?_⟩
      · intro x hx
        rcases List.mem_append.1 hx with hx | hx
        · exact h1 x hx
        · simp only [List.mem_singleton] at hx
          subst hx
          exact dig_isD hm
      · rw [val_snoc, h2, dig_toNat hm]
        omega
      · have := h4 hc
        omega
theorem zero_len (n : Nat) (h : n = 0) : (Lib.decDigits n).length = 1 := by
  subst h
  rw [small (by decide)]
  rfl
/-- Digits with none needless ahead are those of what they tell. -/
theorem to_num : ∀ (m : Nat) (l : List UInt8), l.length = m → l ≠ [] → (∀ c ∈ l, isD c) → (∀ c r, l = c :: r → c.toNat = 48 → r = []) → Lib.decDigits (val 0 l) = l := by
  intro m
  induction m with
  | zero => intro l hl h; exact absurd (List.eq_nil_of_length_eq_zero hl) h
  | succ m ih =>
    intro l hl hne hd hz
    obtain ⟨l', c, rfl⟩ : ∃ l' c, l = l' ++ [c] := ⟨l.dropLast, l.getLast hne, (List.dropLast_concat_getLast hne).symm⟩
    have hc : isD c := hd c (by simp)
    have hc' := hc
    unfold isD at hc'
    rw [val_snoc]
    cases l' with
    | nil =>
      have e : val 0 ([] : List UInt8) * 10 + (c.toNat - 48) = c.toNat - 48 := by show 0 * 10 + (c.toNat - 48) = _; omega
      rw [e, small (by omega), isD_dig hc]
      rfl
    | cons x r =>
      have hx : isD x := hd x (by simp)
      have hx0 : x.toNat ≠ 48 := fun h0 => by
        have := hz x (r ++ [c]) rfl h0
        simp at this
      have hx' := hx
      unfold isD at hx'
      have hv : 1 ≤ val 0 (x :: r) := by
        have := val_le r (0 * 10 + (x.toNat - 48))
        show 1 ≤ val (0 * 10 + (x.toNat - 48)) r
        omega
      rw [big (by omega), show (val 0 (x :: r) * 10 + (c.toNat - 48)) / 10 = val 0 (x :: r) by omega, show (val 0 (x :: r) * 10 + (c.toNat - 48)) % 10 = c.toNat - 48 by omega, isD_dig hc,
        ih (x :: r) (by simp at hl ⊢; omega) (by simp) (fun y hy => hd y (List.mem_append_left _ hy)) (fun y r' e h0 => by injection e with e1 e2; subst e1; exact absurd h0 hx0)]
theorem parse (l : List UInt8) : ∀ (acc : Nat), (∀ c ∈ l, isD c) → val acc l < 18446744073709551616 → Lib.parseUint10 acc l = .ok (val acc l) := by
  induction l with
  | nil => intro acc _ _; rfl
  | cons c r ih =>
    intro acc hd hv
    have hc := hd c (by simp)
    unfold isD at hc
    have h1 := val_le r (acc * 10 + (c.toNat - 48))
    have hv' : val (acc * 10 + (c.toNat - 48)) r < 18446744073709551616 := hv
    simp only [Lib.parseUint10]
    rw [if_pos hc, if_neg (by omega), if_neg (by omega)]
    exact ih _ (fun x hx => hd x (List.mem_cons_of_mem _ hx)) hv'
theorem atoi_num (n : Nat) (hn : n < 9223372036854775808) : Lib.atoiAll (Lib.decDigits n) = .ok (n : Int) := by
  obtain ⟨h1, h2, c, r, h3, _⟩ := of_num n
  have hc := h1 c (by rw [h3]; simp)
  unfold isD at hc
  have hp := parse (Lib.decDigits n) 0 h1 (by rw [h2]; omega)
  rw [h2] at hp
  rw [h3] at hp ⊢
  unfold Lib.atoiAll
  have e1 : ¬ (c.toNat = 43 ∨ c.toNat = 45) := by omega
  have e2 : ¬ c.toNat = 45 := by omega
  simp only [if_neg e1]
  have hm : Lib.parseMag (c :: r) = .ok n := by
    unfold Lib.parseMag
    rw [if_neg (by simp), hp]
  rw [hm]
  simp only [if_neg e2]
  rw [if_neg (by omega), if_neg (by omega)]
end Go.Proofs.YtpkfdjlmflmilaaGreatDoor.Dd
end
section
namespace Go.Proofs.YtpkfdjlmflmilaaGreatDoor.Pure
open Go.RowKit Go.Proofs.YtpkfdjlmflmilaaGreatDoor.Q Go.Proofs.YtpkfdjlmflmilaaGreatDoorW.PrintWords Go.Proofs.YtpkfdjlmflmilaaGreatDoorW.PrintLast
set_option linter.unusedVariables false
open Dd (isD val)
theorem itoaT_num (n : Nat) : itoaT (n : Int) = ⟨(Lib.decDigits n).toArray⟩ := by
  unfold itoaT Lib.itoa
  rw [if_neg (by omega), Int.toNat_natCast]
/-- A text is an amount's digits. -/
def amT (t : ByteArray) : Prop := (1 ≤ t.size ∧ t.size ≤ 19) ∧ (∀ c r, t.data.toList = c :: r → c.toNat = 48 → r = []) ∧ (∀ c ∈ t.data.toList, isD c) ∧ val 0 t.data.toList ≤ 1000000000000000000
theorem tl_len (t : ByteArray) : t.data.toList.length = t.size := by rw [Array.length_toList]; rfl
theorem amT_num (n : Nat) (hn : n ≤ 1000000000000000000) : amT (itoaT (n : Int)) ∧ val 0 (itoaT (n : Int)).data.toList = n := by
  obtain ⟨h1, h2, c, r, h3, h4⟩ := Dd.of_num n
  have hl := Dd.len 19 n (by omega) (Nat.lt_of_le_of_lt hn (by decide))
  have e : (itoaT (n : Int)).data.toList = Lib.decDigits n := by rw [itoaT_num]
  have hs : (itoaT (n : Int)).size = (Lib.decDigits n).length := by rw [← tl_len, e]
  refine ⟨⟨⟨?_, by omega⟩, ?_, ?_, ?_⟩, by rw [e, h2]⟩
  · rw [hs, h3]
    simp
  · intro c' r' hc h0
    rw [e] at hc
    have hcc := hc
    rw [h3] at hc
    injection hc with e1 e2
    subst e1
    have hz := Dd.zero_len n (h4 h0)
    rw [hcc] at hz
    simp at hz
    exact hz
  · rw [e]; exact h1
  · rw [e, h2]; exact hn
theorem amT_is (t : ByteArray) (h : amT t) : itoaT (val 0 t.data.toList : Nat) = t := by
  obtain ⟨⟨h1, h2⟩, h3, h4, h5⟩ := h
  have hl := tl_len t
  rw [itoaT_num, Dd.to_num t.data.toList.length t.data.toList rfl (by intro e; rw [e] at hl; simp at hl; omega) h4 h3]
theorem raT_yes (t : ByteArray) (h : amT t) : raT t = (((val 0 t.data.toList : Nat) : Int), true) := by
  have he := amT_is t h
  have hv := h.2.2.2
  have e : t.data.toList = Lib.decDigits (val 0 t.data.toList) := by
    conv => lhs; rw [← he, itoaT_num]
  unfold raT
  have ha : Lib.atoiAll t.data.toList = .ok ((val 0 t.data.toList : Nat) : Int) := by
    conv => lhs; rw [e]
    exact Dd.atoi_num _ (by omega)
  rw [ha]
  show (if (0 ≤ ((val 0 t.data.toList : Nat) : Int) ∧ ((val 0 t.data.toList : Nat) : Int) ≤ 1000000000000000000) ∧ itoaT ((val 0 t.data.toList : Nat) : Int) = t then _ else _) = _
  rw [if_pos ⟨⟨by omega, by omega⟩, he⟩]
theorem raT_no (t : ByteArray) (h : ¬ amT t) : raT t = (0, false) := by
  unfold raT
  rcases Lib.atoiAll t.data.toList with v | _ | _
  · show (if (0 ≤ v ∧ v ≤ 1000000000000000000) ∧ itoaT v = t then (v, true) else (0, false)) = (0, false)
    rw [if_neg]
    rintro ⟨⟨h0, h1⟩, he⟩
    obtain ⟨n, rfl⟩ : ∃ n : Nat, v = (n : Int) := ⟨v.toNat, by omega⟩
    exact h (he ▸ (amT_num n (by omega)).1)
  · rfl
  · rfl
/-- From so many bytes on. -/
def ofB (acc : Nat) (l : List UInt8) : Int := if (∀ c ∈ l, isD c) ∧ val acc l ≤ 1000000000000000000 then ((val acc l : Nat) : Int) else -1
theorem btl (t : ByteArray) (i : Nat) (hi : i < t.size) : bt t (i : Int) = ((t.data.toList[i]'(by rw [tl_len]; exact hi)).toNat : Int) := by
  have h : ((i : Int)).toNat < t.size := by rw [Int.toNat_natCast]; exact hi
  rw [← Go.Proofs.YtpkfdjlmflmilaaGreatDoorW.PrintWords.bt_at t (i : Int) h]
  simp only [Int.toNat_natCast]
  rfl
theorem of_l0 (t : ByteArray) (ht : t.size ≤ 65536) (d : Nat) : ∀ (k i acc : Nat), t.size - i = d → i ≤ t.size → 2 * d < k → acc ≤ 1000000000000000000 → spec_l02Of.l0 k t (acc : Int) (i : Int) = some (ofB acc (t.data.toList.drop i)) := by
  induction d with
  | zero =>
    intro k i acc hd hi hk ha
    obtain ⟨k, rfl⟩ : ∃ m, k = m + 1 := ⟨k - 1, by omega⟩
    simp only [spec_l02Of.l0]
    rw [if_neg (by omega), List.drop_of_length_le (by rw [tl_len]; omega)]
    unfold ofB
    rw [if_pos ⟨fun c hc => absurd hc List.not_mem_nil, ha⟩]
    rfl
  | succ d ih =>
    intro k i acc hd hi hk ha
    obtain ⟨k, rfl⟩ : ∃ m, k = m + 2 := ⟨k - 2, by omega⟩
    have hlt : i < t.size := by omega
    have hltl : i < t.data.toList.length := by rw [tl_len]; exact hlt
    have hdr : t.data.toList.drop i = t.data.toList[i] :: t.data.toList.drop (i + 1) := List.drop_eq_getElem_cons hltl
    have hb := btl t i hlt
    rw [hdr]
    generalize t.data.toList[i] = c at hb
    have hc := c.toNat_lt
    simp only [spec_l02Of.l0]
    rw [if_pos (by omega), if_pos (by omega), hb]
    by_cases h1 : (c.toNat : Int) < 48
    · rw [if_pos h1]
      simp only [spec_l02Of.j2]
      rw [if_pos trivial]
      unfold ofB
      rw [if_neg]
      rintro ⟨h, _⟩
      have := h c (by simp)
      unfold isD at this
      omega
    · rw [if_neg h1]
      simp only [spec_l02Of.j2]
      by_cases h2 : (c.toNat : Int) > 57
      · rw [if_pos (decide_eq_true h2)]
        unfold ofB
        rw [if_neg]
        rintro ⟨h, _⟩
        have := h c (by simp)
        unfold isD at this
        omega
      · have h2' : decide ((c.toNat : Int) > 57) = false := decide_eq_false h2
        have e0 : ((c.toNat : Int) - 48) % 256 = ((c.toNat - 48 : Nat) : Int) := by omega
        rw [h2', if_neg (by decide), if_pos (by omega), if_pos (by omega), hb, e0]
        have hisd : isD c := by unfold isD; omega
        by_cases h3 : (acc : Int) > (1000000000000000000 - ((c.toNat - 48 : Nat) : Int)) / 10
        · rw [if_pos h3]
          unfold ofB
          rw [if_neg]
          rintro ⟨_, h⟩
          have h4 := Dd.val_le (t.data.toList.drop (i + 1)) (acc * 10 + (c.toNat - 48))
          have h5 : val (acc * 10 + (c.toNat - 48)) (t.data.toList.drop (i + 1)) ≤ 1000000000000000000 := h
          omega
        · have g1 : t.size - (i + 1) = d := by omega
          have g2 : i + 1 ≤ t.size := by omega
          have g3 : 2 * d < k := by omega
          have g4 : acc * 10 + (c.toNat - 48) ≤ 1000000000000000000 := by omega
          have e1 : wrap64 ((acc : Int) * 10) = ((acc * 10 : Nat) : Int) := by unfold wrap64; omega
          have e2 : wrap64 (((acc * 10 : Nat) : Int) + ((c.toNat - 48 : Nat) : Int)) = ((acc * 10 + (c.toNat - 48) : Nat) : Int) := by unfold wrap64; omega
          have e3 : wrap64 ((i : Int) + 1) = ((i + 1 : Nat) : Int) := by unfold wrap64; omega
          rw [if_neg h3, e1, e2, e3, ih k (i + 1) (acc * 10 + (c.toNat - 48)) g1 g2 g3 g4]
          unfold ofB
          have hv : val acc (c :: t.data.toList.drop (i + 1)) = val (acc * 10 + (c.toNat - 48)) (t.data.toList.drop (i + 1)) := rfl
          rw [hv]
          by_cases h6 : (∀ x ∈ t.data.toList.drop (i + 1), isD x) ∧ val (acc * 10 + (c.toNat - 48)) (t.data.toList.drop (i + 1)) ≤ 1000000000000000000
          · rw [if_pos h6, if_pos ⟨fun x hx => by rcases List.mem_cons.1 hx with rfl | hx; exact hisd; exact h6.1 x hx, h6.2⟩]
          · rw [if_neg h6, if_neg fun h => h6 ⟨fun x hx => h.1 x (List.mem_cons_of_mem _ hx), h.2⟩]
open Classical in
theorem of_eq (t : ByteArray) (ht : t.size ≤ 65536) (k : Nat) (hk : 140000 ≤ k) : spec_l02Of.f k t = some (if amT t then ((val 0 t.data.toList : Nat) : Int) else -1) := by
  obtain ⟨k, rfl⟩ : ∃ m, k = m + 1 := ⟨k - 1, by omega⟩
  have hj : ∀ b : Bool, spec_l02Of.j0 (k + 1) t b = some (if b = true then -1 else ofB 0 t.data.toList) := by
    intro b
    simp only [spec_l02Of.j0]
    cases b with
    | true => rw [if_pos rfl, if_pos rfl]
    | false =>
      have h := of_l0 t ht t.size k 0 0 (by omega) (by omega) (by omega) (by omega)
      rw [show ((0 : Nat) : Int) = 0 from rfl, List.drop_zero] at h
      rw [if_neg (by decide), if_neg (by decide), h]
  unfold spec_l02Of.f spec_l01In.f
  have hl := tl_len t
  by_cases h1 : 1 ≤ t.size
  · rw [if_pos (by omega), Option.bind_some]
    by_cases h2 : t.size ≤ 19
    · rw [if_pos (decide_eq_true (by omega))]
      obtain ⟨c, r, hcr⟩ : ∃ c r, t.data.toList = c :: r := by
        cases h : t.data.toList with
        | nil => rw [h] at hl; simp at hl; omega
        | cons c r => exact ⟨c, r, rfl⟩
      have hof : ofB 0 t.data.toList = if (∀ c ∈ t.data.toList, isD c) ∧ val 0 t.data.toList ≤ 1000000000000000000 then ((val 0 t.data.toList : Nat) : Int) else -1 := rfl
      by_cases h3 : t.size > 1
      · have hb := btl t 0 (by omega)
        rw [show ((0 : Nat) : Int) = 0 from rfl] at hb
        have hb' : bt t 0 = (c.toNat : Int) := by
          rw [hb]
          simp [hcr]
        rw [if_pos (by omega), if_pos (by omega), hj, hb']
        by_cases h4 : c.toNat = 48
        · rw [if_pos (by simp; omega), if_neg]
          rintro ⟨_, hz, _⟩
          have := hz c r hcr h4
          rw [hcr, this] at hl
          simp at hl
          omega
        · rw [if_neg (by simp; omega), hof]
          by_cases h5 : (∀ c ∈ t.data.toList, isD c) ∧ val 0 t.data.toList ≤ 1000000000000000000
          · rw [if_pos h5, if_pos ⟨⟨h1, h2⟩, fun c' r' e h0 => by rw [hcr] at e; injection e with e1 e2; subst e1; exact absurd h0 h4, h5.1, h5.2⟩]
          · rw [if_neg h5, if_neg fun h => h5 ⟨h.2.2.1, h.2.2.2⟩]
      · rw [if_neg (by omega), hj, if_neg (by decide), hof]
        by_cases h5 : (∀ c ∈ t.data.toList, isD c) ∧ val 0 t.data.toList ≤ 1000000000000000000
        · rw [if_pos h5, if_pos ⟨⟨h1, h2⟩, fun c' r' e h0 => by rw [e] at hl; simp at hl; exact List.eq_nil_of_length_eq_zero (by omega), h5.1, h5.2⟩]
        · rw [if_neg h5, if_neg fun h => h5 ⟨h.2.2.1, h.2.2.2⟩]
    · rw [if_neg (by rw [decide_eq_false (by omega)]; decide), hj, if_pos rfl, if_neg fun h => h2 h.1.2]
  · rw [if_neg (by omega), Option.bind_some, if_neg (by decide), hj, if_pos rfl, if_neg fun h => h1 h.1.1]
end Go.Proofs.YtpkfdjlmflmilaaGreatDoor.Pure
end
section
namespace Go.Proofs.YtpkfdjlmflmilaaGreatDoor.Pure
open Go.RowKit Go.Proofs.YtpkfdjlmflmilaaGreatDoor.Q Go.Proofs.YtpkfdjlmflmilaaGreatDoorW.PrintWords Go.Proofs.YtpkfdjlmflmilaaGreatDoorW.PrintLast

def letterB (c : Int) : Bool := decide ((97 ≤ c ∧ c ≤ 122) ∨ (65 ≤ c ∧ c ≤ 90) ∨ c = 95)
def digitB (c : Int) : Bool := decide (48 ≤ c ∧ c ≤ 57)
def okB (s : ByteArray) (i : Nat) : Bool := letterB (bt s i) || (decide (i ≠ 0) && digitB (bt s i))
/-- From place i on, all signs are right. -/
def restB (s : ByteArray) (i : Nat) : Bool := (List.range (s.size - i)).all fun j => okB s (i + j)
def nameB (s : ByteArray) : Bool := decide (1 ≤ s.size ∧ s.size ≤ 40) && restB s 0
theorem restB_end (s : ByteArray) (i : Nat) (h : s.size ≤ i) : restB s i = true := by
  unfold restB
  rw [show s.size - i = 0 by omega]
  rfl
theorem restB_step (s : ByteArray) (i : Nat) (h : i < s.size) : restB s i = (okB s i && restB s (i + 1)) := by
  unfold restB
  rw [show s.size - i = (s.size - (i + 1)) + 1 by omega, List.range_succ_eq_map, List.all_cons, List.all_map]
  congr 1
  apply List.all_congr rfl
  intro x
  simp only [Function.comp]
  congr 1
  omega
theorem letter_eq (c : Int) : spec_l00Letter.f c = some (letterB c) := by
  unfold spec_l00Letter.f letterB
  repeat' split
  all_goals (simp only [Option.some.injEq])
  all_goals (first | (symm; apply decide_eq_true; omega) | (rw [Bool.eq_iff_iff]; simp; omega))
theorem digit_eq (c : Int) : spec_l00Digit.f c = some (digitB c) := by
  unfold spec_l00Digit.f digitB
  repeat' split
  all_goals (simp only [Option.some.injEq])
  all_goals (rw [Bool.eq_iff_iff]; simp; omega)
theorem wrap_up {i n : Nat} (h : i < n) (hn : n ≤ 9223372036854775807) : wrap64 ((i : Int) + 1) = ((i + 1 : Nat) : Int) := by unfold wrap64; omega
theorem spec_rest (s : ByteArray) (hs : s.size ≤ 9223372036854775807) (d : Nat) : ∀ (k i : Nat), 1 ≤ i → s.size - i = d → d < k → spec_l00Word.l0 k s (i : Int) = some (restB s i) := by
  induction d with
  | zero =>
    intro k i h1 hd hk
    obtain ⟨k, rfl⟩ : ∃ m, k = m + 1 := ⟨k - 1, by omega⟩
    simp only [spec_l00Word.l0]
    rw [if_neg (by omega), restB_end s i (by omega)]
  | succ d ih =>
    intro k i h1 hd hk
    obtain ⟨k, rfl⟩ : ∃ m, k = m + 1 := ⟨k - 1, by omega⟩
    have hlt : i < s.size := by omega
    simp only [spec_l00Word.l0]
    rw [if_pos (by omega), if_pos (by omega), letter_eq, restB_step s i hlt, wrap_up hlt hs, ih k (i + 1) (by omega) (by omega) (by omega)]
    simp only [Option.bind_some, digit_eq]
    unfold okB
    have hne : decide (i ≠ 0) = true := decide_eq_true (by omega)
    cases letterB (bt s (i : Int)) <;> cases digitB (bt s (i : Int)) <;> simp [hne]
theorem spec_name (s : ByteArray) (hs : s.size ≤ 9223372036854775807) (k : Nat) (hk : s.size + 1 < k) : spec_NameOK.f k s = some (nameB s) := by
  obtain ⟨k, rfl⟩ : ∃ m, k = m + 1 := ⟨k - 1, by omega⟩
  unfold spec_NameOK.f spec_l00Word.f nameB
  by_cases h1 : (s.size : Int) < 1
  · rw [if_pos h1]
    simp only [spec_l00Word.j0, if_true, Option.bind_some]
    rw [decide_eq_false (by omega)]
    rfl
  · rw [if_neg h1]
    by_cases h2 : (s.size : Int) > 40
    · rw [if_pos h2]
      simp only [spec_l00Word.j0, if_true, Option.bind_some]
      rw [decide_eq_false (by omega)]
      rfl
    · rw [if_neg h2, if_pos (by omega), letter_eq]
      have hr := spec_rest s hs (s.size - 1) k 1 (by omega) rfl (by omega)
      have hr' : spec_l00Word.l0 k s 1 = some (restB s 1) := hr
      simp only [Option.bind_some, spec_l00Word.j0, hr']
      rw [decide_eq_true (by omega : 1 ≤ s.size ∧ s.size ≤ 40), restB_step s 0 (by omega)]
      unfold okB
      show _ = some (true && ((letterB (bt s 0) || (decide ((0 : Nat) ≠ 0) && digitB (bt s 0))) && restB s (0 + 1)))
      cases letterB (bt s 0) <;> simp
theorem impl_rest (s : ByteArray) (hs : s.size ≤ 9223372036854775807) (d : Nat) : ∀ (k i : Nat), s.size - i = d → i ≤ s.size → d < k → impl_NameOK.l0 k s (s.size : Int) (i : Int) = some (restB s i && decide (1 ≤ s.size ∧ s.size ≤ 40)) := by
  induction d with
  | zero =>
    intro k i hd hi hk
    obtain ⟨k, rfl⟩ : ∃ m, k = m + 1 := ⟨k - 1, by omega⟩
    simp only [impl_NameOK.l0]
    rw [if_neg (by omega), restB_end s i (by omega)]
    unfold impl_within.f
    by_cases h : (s.size : Int) ≥ 1
    · rw [if_pos h]; simp; rw [Bool.eq_iff_iff]; simp; omega
    · rw [if_neg h]; simp; omega
  | succ d ih =>
    intro k i hd hi hk
    obtain ⟨k, rfl⟩ : ∃ m, k = m + 1 := ⟨k - 1, by omega⟩
    have hlt : i < s.size := by omega
    have e := ih k (i + 1) (by omega) (by omega) (by omega)
    rw [restB_step s i hlt]
    simp only [impl_NameOK.l0]
    rw [if_pos (by omega), if_pos (by omega), if_pos (by omega), wrap_up hlt hs, e]
    by_cases hL : letterB (bt s (i : Int)) = true
    · have hL' := of_decide_eq_true hL
      have : okB s i = true := by unfold okB; rw [hL]; rfl
      rw [this, Bool.true_and]
      generalize bt s (i : Int) = c at *
      repeat' split
      all_goals (first | rfl | (exfalso; omega))
    · have hL' : ¬ ((97 ≤ bt s (i : Int) ∧ bt s (i : Int) ≤ 122) ∨ (65 ≤ bt s (i : Int) ∧ bt s (i : Int) ≤ 90) ∨ bt s (i : Int) = 95) := fun h => hL (decide_eq_true h)
      by_cases hD : i ≠ 0 ∧ digitB (bt s (i : Int)) = true
      · have hD' := of_decide_eq_true hD.2
        have : okB s i = true := by unfold okB; rw [decide_eq_true hD.1, hD.2]; simp
        rw [this, Bool.true_and]
        have h0 := hD.1
        generalize bt s (i : Int) = c at *
        repeat' split
        all_goals (first | rfl | (exfalso; omega))
      · have hok : okB s i = false := by
          unfold okB
          rw [Bool.eq_false_iff.2 hL]
          by_cases h0 : i = 0
          · simp [h0]
          · have : digitB (bt s (i : Int)) = false := Bool.eq_false_iff.2 fun h => hD ⟨h0, h⟩
            rw [this]; simp
        rw [hok, Bool.false_and, Bool.false_and]
        have hD' : i = 0 ∨ ¬ (48 ≤ bt s (i : Int) ∧ bt s (i : Int) ≤ 57) := by
          by_cases h0 : i = 0
          · exact .inl h0
          · exact .inr fun h => hD ⟨h0, decide_eq_true h⟩
        generalize bt s (i : Int) = c at *
        repeat' split
        all_goals (first | rfl | (exfalso; omega))
theorem impl_name (s : ByteArray) (hs : s.size ≤ 9223372036854775807) (k : Nat) (hk : s.size < k) : impl_NameOK.f k s = some (nameB s) := by
  unfold impl_NameOK.f nameB
  have h := impl_rest s hs s.size k 0 (by omega) (by omega) hk
  have h' : impl_NameOK.l0 k s (s.size : Int) 0 = some (restB s 0 && decide (1 ≤ s.size ∧ s.size ≤ 40)) := h
  rw [h', Bool.and_comm]
end Go.Proofs.YtpkfdjlmflmilaaGreatDoor.Pure
end
section
namespace Go.Proofs.YtpkfdjlmflmilaaGreatDoor.Pure
open Go.RowKit Go.Proofs.YtpkfdjlmflmilaaGreatDoor.Q Go.Proofs.YtpkfdjlmflmilaaGreatDoorW.PrintWords Go.Proofs.YtpkfdjlmflmilaaGreatDoorW.PrintLast
set_option linter.unusedVariables false
open Dd (val isD)
/-- An account's or a denomination's name. -/
def nmB (a : ByteArray) : Bool := decide (a.size ≤ 12) && nameB a
theorem spec_nm (a : ByteArray) (k : Nat) (hk : 20 ≤ k) : spec_l05Name.f k a = some (nmB a) := by
  unfold spec_l05Name.f nmB
  by_cases h : a.size ≤ 12
  · rw [if_pos (by omega), spec_name a (by omega) k (by omega), decide_eq_true h, Bool.true_and]
    rfl
  · rw [if_neg (by omega), decide_eq_false h, Bool.false_and]
theorem impl_nm (a : ByteArray) (ha : a.size ≤ 65536) (k : Nat) (hk : 70000 ≤ k) : impl_DenomOK.f k a = some (nmB a) := by
  unfold impl_DenomOK.f nmB
  rw [impl_name a (by omega) k (by omega), Option.bind_some]
  have e : decide ((a.size : Int) ≤ 12) = decide (a.size ≤ 12) := by
    rw [Bool.eq_iff_iff]
    simp
    omega
  rw [e]
  cases nameB a
  · rw [if_neg (by decide), Bool.and_false]
  · rw [if_pos rfl, Bool.and_true]
theorem bk_rd (l : List ByteArray) (i : Nat) (h : i < l.length) : rdOf ByteArray.empty l (i : Int) = l[i] := by simp [rdOf, List.getD, List.getElem?_eq_getElem h]
theorem bk_l1 (ns : List ByteArray) (hl : ns.length ≤ 1000) (d : Nat) : ∀ (k i : Nat), ns.length - i = d → i ≤ ns.length → d + 30 < k → spec_l05Code.l1 k ns (i : Int) = some (if (ns.drop i).all nmB = true then 0 else 4) := by
  induction d with
  | zero =>
    intro k i hd hi hk
    obtain ⟨k, rfl⟩ : ∃ m, k = m + 1 := ⟨k - 1, by omega⟩
    simp only [spec_l05Code.l1]
    rw [if_neg (by omega), List.drop_of_length_le (by omega)]
    rfl
  | succ d ih =>
    intro k i hd hi hk
    obtain ⟨k, rfl⟩ : ∃ m, k = m + 1 := ⟨k - 1, by omega⟩
    have hlt : i < ns.length := by omega
    simp only [spec_l05Code.l1]
    rw [if_pos (by omega), if_pos (by omega), bk_rd ns i hlt, spec_nm _ k (by omega), Option.bind_some, w_succ i (by omega), ih k (i + 1) (by omega) (by omega) (by omega), List.drop_eq_getElem_cons hlt, List.all_cons]
    cases nmB ns[i]
    · rw [if_neg (by decide), Bool.false_and, if_neg (by decide)]
    · rw [if_pos rfl, Bool.true_and]
theorem bk_l0 (l : List S56) (hl : l.length ≤ 4096) (ns : List ByteArray) (hn : ns.length ≤ 1000) (hs : ∀ x ∈ ns, x.size ≤ 65536) (d : Nat) : ∀ (k i : Nat), ns.length - i = d → i ≤ ns.length → d + ns.length + 5000 < k →
    spec_l05Code.l0 k l ns (i : Int) = some (if rightB l = true then (if ns.all nmB = true then 0 else 4) else 1) := by
  induction d with
  | zero =>
    intro k i hd hi hk
    obtain ⟨k, rfl⟩ : ∃ m, k = m + 1 := ⟨k - 1, by omega⟩
    simp only [spec_l05Code.l0]
    have h1 := bk_l1 ns hn ns.length k 0 (by omega) (by omega) (by omega)
    rw [List.drop_zero, show ((0 : Nat) : Int) = 0 from rfl] at h1
    rw [if_neg (by omega), spec_ok l (by omega) k (by omega), Option.bind_some, h1]
    cases rightB l
    · rw [if_neg (by decide), if_neg (by decide)]
    · rw [if_pos rfl, if_pos rfl]
  | succ d ih =>
    intro k i hd hi hk
    obtain ⟨k, rfl⟩ : ∃ m, k = m + 1 := ⟨k - 1, by omega⟩
    have hlt : i < ns.length := by omega
    simp only [spec_l05Code.l0]
    have hx := hs _ (List.getElem_mem hlt)
    rw [if_pos (by omega), if_pos (by omega), bk_rd ns i hlt, if_neg (by omega), w_succ i (by omega), ih k (i + 1) (by omega) (by omega) (by omega)]
/-- The code of a store and of names that are no longer than texts. -/
def bkCode (l : List S56) (ns : List ByteArray) : Int := if l.length > 4096 then 2 else if rightB l = true then (if ns.all nmB = true then 0 else 4) else 1
theorem spec_bk (l : List S56) (ns : List ByteArray) (hn : ns.length ≤ 1000) (hs : ∀ x ∈ ns, x.size ≤ 65536) (k : Nat) (hk : 10000 < k) : spec_l05Code.f k l ns = some (bkCode l ns) := by
  unfold spec_l05Code.f bkCode
  by_cases h : l.length > 4096
  · rw [if_pos (by omega), if_pos h]
  · have h1 := bk_l0 l (by omega) ns hn hs ns.length k 0 (by omega) (by omega) (by omega)
    rw [show ((0 : Nat) : Int) = 0 from rfl] at h1
    rw [if_neg (by omega), if_neg h, h1]
/-- The amount at a key. -/
def amN (l : List S56) (a : ByteArray) : Int := (raT (getN l a).1).1
/-- No value is longer than a value. -/
def okV (l : List S56) : Prop := ∀ x ∈ l, x.f1.size ≤ 1000
theorem okV_right {l : List S56} (hr : rightB l = true) : okV l := by
  intro x hx
  obtain ⟨i, hi, rfl⟩ := List.getElem_of_mem hx
  have h3 := (right_key hr i hi).2
  unfold valB at h3
  rw [show l.getD i z56 = l[i] by simp [List.getD, List.getElem?_eq_getElem hi]] at h3
  exact of_decide_eq_true h3
theorem getN_size {l : List S56} (hv : okV l) (a : ByteArray) : (getN l a).1.size ≤ 1000 := by
  unfold getN
  by_cases h : fdB l a = true
  · rw [if_pos h]
    have hi := fdB_lt h
    rw [show l.getD (lbN l a) z56 = l[lbN l a] by simp [List.getD, List.getElem?_eq_getElem hi]]
    exact hv _ (List.getElem_mem hi)
  · rw [if_neg h]
    decide
theorem raT_range (t : ByteArray) : 0 ≤ (raT t).1 ∧ (raT t).1 ≤ 1000000000000000000 := by
  classical
  by_cases h : amT t
  · rw [raT_yes t h]
    have := h.2.2.2
    exact ⟨by show (0 : Int) ≤ ((val 0 t.data.toList : Nat) : Int); omega, by show ((val 0 t.data.toList : Nat) : Int) ≤ _; omega⟩
  · rw [raT_no t h]
    decide
theorem amN_range (l : List S56) (a : ByteArray) : 0 ≤ amN l a ∧ amN l a ≤ 1000000000000000000 := raT_range _
theorem impl_am {l : List S56} (hv : okV l) (a : ByteArray) : impl_amountAt.f l a = some (amN l a) := by
  unfold impl_amountAt.f impl_readAmount.f
  have h := getN_size hv a
  rw [impl_get_eq, Option.bind_some, if_pos (by omega), Option.bind_some]
  rfl
theorem spec_am {l : List S56} (hv : okV l) (hl : l.length ≤ 100000) (a : ByteArray) (k : Nat) (hk : 140000 ≤ k) : spec_l05Read.f k l a = some (amN l a) := by
  classical
  have h := getN_size hv a
  unfold spec_l05Read.f
  rw [spec_get_eq l a (by omega) k (by omega), Option.bind_some]
  unfold amN
  by_cases hf : fdB l a = true
  · have hg : (getN l a).2 = true := by unfold getN; rw [if_pos hf]
    rw [if_pos hg, of_eq _ (by omega) k hk, Option.bind_some]
    by_cases h2 : amT (getN l a).1
    · rw [if_pos h2, raT_yes _ h2]
      unfold mx
      rw [show (val 0 (getN l a).1.data.toList : Nat) = (val 0 (getN l a).1.data.toList : Nat) from rfl]
      congr 1
      show _ = ((val 0 (getN l a).1.data.toList : Nat) : Int)
      split <;> omega
    · rw [if_neg h2, raT_no _ h2]
      rfl
  · have hg : (getN l a) = (⟨#[]⟩, false) := by unfold getN; rw [if_neg hf]
    rw [hg, if_neg (by decide), raT_no]
    rintro ⟨⟨h1, _⟩, _⟩
    exact absurd h1 (by decide)
theorem nm_size {a : ByteArray} (h : nmB a = true) : a.size ≤ 12 := by
  unfold nmB at h
  rw [Bool.and_eq_true] at h
  exact of_decide_eq_true h.1
theorem bk_an (ns : List ByteArray) (hn : ns.length ≤ 1000) (hs : ∀ x ∈ ns, x.size ≤ 65536) (d : Nat) : ∀ (k i : Nat), ns.length - i = d → i ≤ ns.length → d + 70001 < k →
    impl_areNames.l0 k ns (ns.length : Int) (i : Int) = some ((ns.drop i).all nmB) := by
  induction d with
  | zero =>
    intro k i hd hi hk
    obtain ⟨k, rfl⟩ : ∃ m, k = m + 1 := ⟨k - 1, by omega⟩
    simp only [impl_areNames.l0]
    rw [if_neg (by omega), List.drop_of_length_le (by omega)]
    rfl
  | succ d ih =>
    intro k i hd hi hk
    obtain ⟨k, rfl⟩ : ∃ m, k = m + 1 := ⟨k - 1, by omega⟩
    have hlt : i < ns.length := by omega
    simp only [impl_areNames.l0]
    rw [if_pos (by omega), if_pos (by omega), if_pos (by omega), bk_rd ns i hlt, impl_nm _ (hs _ (List.getElem_mem hlt)) k (by omega), Option.bind_some, w_succ i (by omega), ih k (i + 1) (by omega) (by omega) (by omega), List.drop_eq_getElem_cons hlt, List.all_cons]
    cases nmB ns[i]
    · rw [if_neg (by decide), Bool.false_and]
    · rw [if_pos rfl, Bool.true_and]
theorem impl_an (ns : List ByteArray) (hn : ns.length ≤ 1000) (hs : ∀ x ∈ ns, x.size ≤ 65536) (k : Nat) (hk : 80000 ≤ k) : impl_areNames.f k ns = some (ns.all nmB) := by
  unfold impl_areNames.f
  have h := bk_an ns hn hs ns.length k 0 (by omega) (by omega) (by omega)
  rw [List.drop_zero, show ((0 : Nat) : Int) = 0 from rfl] at h
  exact h
theorem bk_zero {l : List S56} {ns : List ByteArray} (h : bkCode l ns = 0) : rightB l = true ∧ ns.all nmB = true := by
  unfold bkCode at h
  split at h
  · exact absurd h (by decide)
  · split at h
    · rename_i h1
      split at h
      · rename_i h2
        exact ⟨h1, h2⟩
      · exact absurd h (by decide)
    · exact absurd h (by decide)
/-- The code of a store, names and an amount. -/
def bcN (l : List S56) (n : Int) (ns : List ByteArray) : Int :=
  if l.length > 4096 ∨ (ns.any fun x => decide (65536 < (x.size : Int))) = true then 2 else if bkCode l ns = 0 then (if 1 ≤ n ∧ n ≤ 1000000000000000000 then 0 else 4) else bkCode l ns
theorem impl_bc (l : List S56) (n : Int) (ns : List ByteArray) (hn : ns.length ≤ 1000) (k : Nat) (hk : 140000 ≤ k) : impl_bankCode.f k l n ns = some (bcN l n ns) := by
  unfold impl_bankCode.f bcN
  rw [impl_code l ns k (by omega), Option.bind_some]
  by_cases h1 : l.length > 4096 ∨ (ns.any fun x => decide (65536 < (x.size : Int))) = true
  · have hc : codeN l (ns.any fun x => decide (65536 < (x.size : Int))) = 2 := by
      unfold codeN
      rw [if_pos h1]
    rw [hc, if_neg (by decide), if_pos h1]
  · have hc : codeN l (ns.any fun x => decide (65536 < (x.size : Int))) = if rightB l = true then 0 else 1 := by
      unfold codeN
      rw [if_neg h1]
    have hb2 : bkCode l ns = if rightB l = true then (if ns.all nmB = true then 0 else 4) else 1 := by
      unfold bkCode
      rw [if_neg (fun h => h1 (.inl h))]
    have hs : ∀ x ∈ ns, x.size ≤ 65536 := by
      intro x hx
      have h2 : ¬ (ns.any fun x => decide (65536 < (x.size : Int))) = true := fun h => h1 (.inr h)
      rw [Bool.not_eq_true, List.any_eq_false] at h2
      have := h2 x hx
      rw [decide_eq_true_eq] at this
      omega
    rw [hc, hb2, if_neg h1]
    cases hr : rightB l with
    | false => simp
    | true =>
      simp only [if_true]
      rw [impl_an ns hn hs k (by omega), Option.bind_some]
      cases hall : ns.all nmB with
      | false => simp
      | true =>
        simp only [if_true]
        unfold impl_isSome.f impl_within.f
        by_cases h3 : 1 ≤ n
        · rw [if_pos h3, Option.bind_some, Option.bind_some]
          by_cases h4 : n ≤ 1000000000000000000
          · rw [decide_eq_true h4, if_pos rfl, if_pos ⟨h3, h4⟩]
          · rw [decide_eq_false h4, if_neg (by decide), if_neg (fun h => h4 h.2)]
        · rw [if_neg h3, Option.bind_some, Option.bind_some, if_neg (by decide), if_neg (fun h => h3 h.1)]
/-- An amount is written at a key; nothing for 0. -/
def wrN (l : List S56) (a : ByteArray) (n : Int) : List S56 × Int := if n = 0 then ((dropN l a).1, 0) else putN l a (itoaT n)
/-- A number is added at a key. -/
def addN (l : List S56) (a : ByteArray) (n : Int) : List S56 × Int :=
  if amN l a + n < 0 then (l, 12) else if amN l a + n > 1000000000000000000 then (l, 13) else wrN l a (amN l a + n)
theorem itoa_small (n : Nat) (hn : n ≤ 1000000000000000000) : (itoaT (n : Int)).size ≤ 19 := by
  rw [itoaT_num]
  show (Lib.decDigits n).length ≤ 19
  refine Dd.len 19 n (by omega) ?_
  have : (10 : Nat) ^ 19 = 10000000000000000000 := by decide
  omega
theorem mem_set' {α : Type} : ∀ (l : List α) (i : Nat) (a x : α), x ∈ l.set i a → x ∈ l ∨ x = a
  | [], _, _, _, h => by cases h
  | b :: l, 0, a, x, h => by
    rcases List.mem_cons.1 h with h | h
    · exact .inr h
    · exact .inl (List.mem_cons_of_mem _ h)
  | b :: l, i + 1, a, x, h => by
    rcases List.mem_cons.1 h with h | h
    · exact .inl (h ▸ List.mem_cons_self)
    · rcases mem_set' l i a x h with h | h
      · exact .inl (List.mem_cons_of_mem _ h)
      · exact .inr h
theorem wr_ok {l : List S56} (hv : okV l) (a : ByteArray) (n : Int) (h0 : 0 ≤ n) (h1 : n ≤ 1000000000000000000) : okV (wrN l a n).1 := by
  obtain ⟨m, rfl⟩ := Int.eq_ofNat_of_zero_le h0
  have hs : (itoaT ((m : Nat) : Int)).size ≤ 1000 := by have := itoa_small m (by omega); omega
  unfold wrN dropN putN
  intro x hx
  split at hx
  · split at hx
    · rcases List.mem_append.1 hx with h | h
      · exact hv x (List.mem_of_mem_take h)
      · exact hv x (List.mem_of_mem_drop h)
    · exact hv x hx
  · split at hx
    · rcases mem_set' _ _ _ _ hx with h | rfl
      · exact hv x h
      · exact hs
    · split at hx
      · exact hv x hx
      · rcases List.mem_append.1 hx with h | h
        · exact hv x (List.mem_of_mem_take h)
        · rcases List.mem_cons.1 h with rfl | h
          · exact hs
          · exact hv x (List.mem_of_mem_drop h)
theorem add_ok {l : List S56} (hv : okV l) (a : ByteArray) (n : Int) : okV (addN l a n).1 := by
  unfold addN
  split
  · exact hv
  · split
    · exact hv
    · exact wr_ok hv a _ (by omega) (by omega)
theorem wr_len (l : List S56) (a : ByteArray) (n : Int) : (wrN l a n).1.length ≤ l.length + 1 := by
  unfold wrN dropN putN
  split
  · split
    · simp only [List.length_append, List.length_take, List.length_drop]; omega
    · simp
  · split
    · simp
    · split
      · simp
      · simp only [List.length_append, List.length_take, List.length_cons, List.length_drop]; omega
theorem add_len (l : List S56) (a : ByteArray) (n : Int) : (addN l a n).1.length ≤ l.length + 1 := by
  unfold addN
  split
  · simp
  · split
    · simp
    · exact wr_len _ _ _
/-- Two changes, whole or not at all. -/
def twoN (l : List S56) (a : ByteArray) (n : Int) (b : ByteArray) (m : Int) : List S56 × Int :=
  if (addN l a n).2 = 0 then (if (addN (addN l a n).1 b m).2 = 0 then ((addN (addN l a n).1 b m).1, 0) else (l, (addN (addN l a n).1 b m).2)) else (l, (addN l a n).2)
def bKey (a d : ByteArray) : ByteArray := (((⟨#[98, 47]⟩ : ByteArray) ++ d) ++ (⟨#[47]⟩ : ByteArray)) ++ a
def sKey (d : ByteArray) : ByteArray := (⟨#[115, 47]⟩ : ByteArray) ++ d
end Go.Proofs.YtpkfdjlmflmilaaGreatDoor.Pure
end
section
namespace Go.Proofs.YtpkfdjlmflmilaaGreatDoor.Pure
open Go.RowKit Go.Proofs.YtpkfdjlmflmilaaGreatDoor.Q Go.Proofs.YtpkfdjlmflmilaaGreatDoorW.PrintWords Go.Proofs.YtpkfdjlmflmilaaGreatDoorW.PrintLast
set_option linter.unusedVariables false
def digT (n : Nat) : ByteArray := ⟨(Lib.decDigits n).toArray⟩
theorem dd_small {n : Nat} (h : n < 10) : Lib.decDigits n = [UInt8.ofNat (48 + n)] := by rw [Lib.decDigits, dif_pos h]
theorem dd_big {n : Nat} (h : ¬ n < 10) : Lib.decDigits n = Lib.decDigits (n / 10) ++ [UInt8.ofNat (48 + n % 10)] := by rw [Lib.decDigits, dif_neg h]
theorem dd_len : ∀ (k n : Nat), 1 ≤ k → n < 10 ^ k → (Lib.decDigits n).length ≤ k := by
  intro k
  induction k with
  | zero => intro n h; omega
  | succ k ih =>
    intro n _ hn
    by_cases h : n < 10
    · rw [dd_small h]
      simp
    · rw [dd_big h, List.length_append]
      have hk : 1 ≤ k := by
        rcases Nat.eq_zero_or_pos k with rfl | h1
        · simp at hn
          omega
        · exact h1
      have := ih (n / 10) hk (by rw [Nat.pow_succ] at hn; omega)
      simp
      omega
theorem one_num (n : Nat) (h : n < 10) : strOfNums ([(wrap64 (48 + (n : Int))) % 256] : List Int) = ⟨([UInt8.ofNat (48 + n)] : List UInt8).toArray⟩ := by
  have e : (wrap64 (48 + (n : Int))) % 256 = ((48 + n : Nat) : Int) := by unfold wrap64; omega
  rw [e]
  unfold strOfNums
  rw [List.map_cons, List.map_nil, Int.toNat_natCast]
theorem digits_eq : ∀ (k n : Nat), 1 ≤ k → k ≤ 30 → n < 10 ^ k → n ≤ 9223372036854775807 → spec_l00Digits.f k (n : Int) = some (digT n) := by
  intro k
  induction k with
  | zero => intro n h; omega
  | succ k ih =>
    intro n _ hk30 hn hmax
    simp only [spec_l00Digits.f]
    rw [if_neg (by omega), if_neg (by omega)]
    by_cases h : n < 10
    · rw [if_pos (by omega), one_num n h]
      unfold digT
      rw [dd_small h]
    · have hk : 1 ≤ k := by
        rcases Nat.eq_zero_or_pos k with rfl | h1
        · simp at hn
          omega
        · exact h1
      have e1 : wrap64 (Int.tdiv (n : Int) 10) = ((n / 10 : Nat) : Int) := by
        rw [Int.tdiv_eq_ediv_of_nonneg (by omega)]
        unfold wrap64
        omega
      have e2 : Int.tmod (n : Int) 10 = ((n % 10 : Nat) : Int) := by
        rw [Int.tmod_eq_emod_of_nonneg (by omega)]
        omega
      rw [if_neg (by omega), e1, e2, ih (n / 10) hk (by omega) (by rw [Nat.pow_succ] at hn; omega) (by omega), Option.bind_some, Option.bind_some, one_num (n % 10) (by omega)]
      have hl := dd_len k (n / 10) hk (by rw [Nat.pow_succ] at hn; omega)
      have hz : (digT (n / 10)).size = (Lib.decDigits (n / 10)).length := by unfold digT; simp [ByteArray.size]
      have hz1 : (⟨([UInt8.ofNat (48 + n % 10)] : List UInt8).toArray⟩ : ByteArray).size = 1 := rfl
      rw [hz, hz1, if_pos (by omega)]
      congr 1
      unfold digT
      rw [dd_big h]
      apply Go.WideShapes.bytes_inj
      rw [ByteArray.data_append]
      simp
end Go.Proofs.YtpkfdjlmflmilaaGreatDoor.Pure
end
