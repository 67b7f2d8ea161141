/- slices.Clone, slices.Delete and slices.Insert over the pairs of a store: what they return, in memory of the call's own. -/
import Derived.Test.YtifkdlcalkccaaaProg
import Derived.Test.YtifkdlcalkccaaaWMore
import Derived.Test.YtifkdlcalkccaaaS0
import Derived.Test.YtifkdlcalkccaaaSSlA
import Derived.WalkKit
import Derived.Lib.Walk
import Derived.Deep.RegionLaw
import Derived.Deep.Draws
namespace Go.Proofs.Ytifkdlcalkccaaa.S
open Go.RowKit Go.Proofs.YtifkdlcalkccaaaW.PrintWords Go.Proofs.YtifkdlcalkccaaaW.PrintLast Go.Proofs.YtifkdlcalkccaaaW.PrintMore
set_option linter.unusedVariables false
set_option linter.unusedSimpArgs false

theorem copy_next {P : Program} {tys : Array TypeId} {ty : TypeId} {vs : Array Value} {w w' : World} {v' : Value} (hr : (Builtin.copy_ tys ty vs).run P w = .ok v' w') (q : Array Bool) : (builtin .copy tys ty q vs).run P w = .ok (.value v') w' := by simp [builtin, hr]
theorem append_next {P : Program} {tys : Array TypeId} {ty : TypeId} {vs : Array Value} {w w' : World} {v' : Value} (hr : (Builtin.append_ tys ty vs).run P w = .ok v' w') (q : Array Bool) : (builtin .append tys ty q vs).run P w = .ok (.value v') w' := by simp [builtin, hr]
theorem clear_next {P : Program} {tys : Array TypeId} {ty : TypeId} {vs : Array Value} {w w' : World} {v' : Value} (hr : (Builtin.clear_ tys ty vs).run P w = .ok v' w') (q : Array Bool) : (builtin .clear tys ty q vs).run P w = .ok (.value v') w' := by simp [builtin, hr]
theorem reps_one' {w : World} {ps : List S50} {cs : List Value} (h : Reps (k50.K w) 2 ps cs) : ∀ u ∈ cs, u.oneCell' = true := by
  intro u hu
  obtain ⟨j, hj, rfl⟩ := List.getElem_of_mem hu
  have hp : j / 2 < ps.length := by have := h.1; omega
  have h1 := h.2 (j / 2) _ (List.getElem?_eq_getElem hp)
  refine k50.K_one h1 _ ?_
  refine List.mem_iff_getElem?.2 ⟨j % 2, ?_⟩
  rw [List.getElem?_take, if_pos (by omega), List.getElem?_drop, show j / 2 * 2 + j % 2 = j by omega]
  exact List.getElem?_eq_getElem hj
theorem own_R {w : World} {b : Nat} {v : Value} {ps : List S50} {cs : List Value} (ho : w.ownsRow b 50 2 v ps.length cs) {w' : World} (h : Reps (k50.K w') 2 ps cs) : Kd.R k50 50 w b (fun _ => True) v ps := by
  refine ⟨fun _ _ => trivial, cs, ho, h.imp_ (fun p c hp => ?_)⟩
  obtain rfl := k50_open hp
  exact k50_mkM _ _ _ _
set_option maxHeartbeats 1000000 in
theorem clone_calls (A0 : Option Addr) (c0 : Nat) (l0 : List S50) (w : World) (hr0 : Kd.C k50 w A0 l0.length l0) (hb : l0.length * 32 ≤ 140737488355328) :
    Calls Try.prog 87 #[.slice A0 l0.length c0] w fun e w' => ∃ v, e = .returned v ∧ Kd.R k50 50 w' w.heap.size (fun _ => True) v l0 ∧ Below w.heap.size w w' := by
  have hu := Try.underlying25
  have hu2 := Try.underlying50
  have q25 : ∀ (w : World) (a : Option Addr) (n c n' c' : Nat), (binOp .eql 25 (.slice a n c) (.slice none n' c')).run Try.prog w = .ok (.bool a.isNone) w := fun w a n c n' c' => Lib.run_eql_slice_nil w _ _ a n c n' c' hu
  cases A0 with
  | none =>
    obtain rfl : l0 = [] := by
      rcases Nat.eq_zero_or_pos l0.length with h | h
      · exact List.eq_nil_of_length_eq_zero h
      · obtain ⟨ad, e, _⟩ := hr0.2.2 h
        cases e
    clear hr0
    go_enter Try.func87, Try.ntmps87
    go_wp2
    go_ret
    exact ⟨_, rfl, Kd.R_nil _ _ _ _ _, Below.refl _ _⟩
  | some ad =>
    obtain ⟨inner, hrep, hcell⟩ := ReadsRow.inner_ hr0
    have hbig := hr0.2.1
    obtain ⟨i0, hi, hzz⟩ := Option.map_eq_some_iff.1 info50
    simp only [Prod.mk.injEq] at hzz
    obtain ⟨hz0, hz1, hz2⟩ := hzz
    have HL := Aside0.mk hrep.1
    have HO := Aside0.mk (reps_one' hrep)
    have HC := Aside0.mk hcell
    have HR := Aside0.mk hrep
    clear hrep hcell hr0
    generalize hn : l0.length = n at *
    go_enter Try.func87, Try.ntmps87
    go_wp2_with (at_builtin; refine wpList_append_own _ rfl _ _ 25 rfl w.heap.size 50 i0 _ 2 32 hu hi hz0 hz1 hz2 rfl (by decide) _ _ _ rfl (World.ownsRow_made w #[] 0 (Nat.le_refl _) (Nat.zero_le _) (by simp)) ad n c0 inner rfl HL.out ?qc2 HO.out ?qc4 ?qc5 ?qc6 ?_)
    case qc2 => exact fun j u hj => Lib.cell?_alloc_some _ (HC.out j u hj)
    case qc4 => rw [Nat.zero_add]; unfold maxLen; omega
    case qc5 => rw [Nat.zero_add]; exact hb
    case qc6 => simp
    intro v' w1 hown hgrow hnil
    go_wp2
    go_ret
    refine ⟨v', rfl, ?_, ?_⟩
    · subst hn
      exact own_R (by simpa using hown) HR.out
    · exact ((Below.refl _ w).alloc (Nat.le_refl _) _).grown hgrow (by simp) (by intro k hk; simp [Value.ownBlock] at hk; omega)
end Go.Proofs.Ytifkdlcalkccaaa.S
