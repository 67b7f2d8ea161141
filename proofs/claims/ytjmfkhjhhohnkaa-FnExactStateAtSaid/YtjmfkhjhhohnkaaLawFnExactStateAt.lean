-- Written by xprint (this session's program over the kit's print).
import Derived.Test.YtjmfkhjhhohnkaaRows
import Derived.Test.YtjmfkhjhhohnkaaQ7
import Derived.Test.YtjmfkhjhhohnkaaFr
import Derived.Test.YtjmfkhjhhohnkaaPureFnExactStateAt
import Derived.WalkKit
import Derived.ProofKit
import Derived.OpenShut
import Derived.ShutString
import Derived.ChangeOld
import Derived.Below
import Derived.SizedLaws
namespace Go.Proofs.Ytjmfkhjhhohnkaa.fnExactStateAt
open Go.ChangeShapes Go.WideShapes Go.ChangeAt Go.RowKit Go.Proofs.YtjmfkhjhhohnkaaW.PrintWords Go.Proofs.YtjmfkhjhhohnkaaW.PrintLast Go.Proofs.Ytjmfkhjhhohnkaa.Q
open Go.ChangeMaps (open_string shut_string)
set_option linter.unusedVariables false
instance : Inhabited ByteArray := ⟨ByteArray.empty⟩
instance : Inhabited S104 := ⟨z104⟩
theorem own : ownKnob Try.prog.godebug = none := by kernel_rfl
theorem laidOut : laidOutB Try.prog = true := by kernel_rfl
set_option maxRecDepth 100000 in
theorem lifted (os : Os) (started : os.Started) (H : Type) (enc : TypeId × Value → H) :
    ReturnsInHanded {} Try.checked os 8 .any (Rows.fnExactStateAtSpec.pre6 enc Try.prog Try.f8 Rows.fnExactStateAtRow.domain false) (Rows.fnExactStateAtSpec.post enc Try.prog Try.f8 false true false false) := by
  refine returnsInHanded_of_change_sized (C := Try.checked) own started (by kernel_rfl) Try.func8
    (ChangeSpec.witness6 (enc := enc) (C := Try.checked) false ⟨#[], #[.agg #[.string ByteArray.empty, .slice none 0 0], .int .i64 0], []⟩ 8 (by kernel_rfl) (by kernel_rfl) (by kernel_rfl) (by kernel_rfl)) ?_
  intro W base args ds gs before hval0 hW hcnd hsz0 _
  have hsz : (DataW.weightsEach Try.prog (Try.f8.params.toList ++ Rows.fnExactStateAtSpec.plain.varTypes Try.prog) (ds ++ gs)).all (· ≤ reachBytes) = true := hsz0
  have hval : ∀ (j : Nat) t v, Try.f8.params[j]? = some t → args[j]? = some v → Value.okWide Try.prog W .any base t v := hval0
  have hW' := hW
  obtain ⟨p, q, hA0, hV, rfl, hfz, hnd⟩ := hW
  have hA : DataW.TrodAll enc Try.prog W 0 (fun _ => true) true Try.f8.params.toList args.toList ds p := hA0
  rw [Try.params8] at hA hval hsz
  obtain ⟨v0, vs0, d0, ds0, p0, q0, hargs, rfl, rfl, h0, r0⟩ := trodAll_cons hA
  obtain ⟨v1, vs1, d1, ds1, p1, q1, rfl, rfl, rfl, h1, r1⟩ := trodAll_cons r0
  obtain ⟨rfl, rfl, rfl⟩ := trodAll_nil r1
  obtain rfl : args = #[v0, v1] := by cases args; simp_all
  obtain ⟨rfl, rfl⟩ := trodVars_none hV
  have k0 := h0
  have lt0 : ∀ x ∈ p0, x.block < W.heap.size := by obtain ⟨m, hm⟩ := k0; exact DataW.trod_lt m _ _ _ hm
  obtain ⟨e0_0, e0_1, y0_0, y0_1, m0, rfl, g0_0, g0_1⟩ := Fr.agg2 Try.underlying46 (by kernel_rfl) (by kernel_rfl) (hval 0 46 v0 rfl rfl) h0
  obtain ⟨a0_0, b0_0, w0_0⟩ := (Fr.opens_string Try.underlying9) _ _ _ g0_0
  replace b0_0 : [e0_0] = [.string a0_0] := b0_0
  injection b0_0 with b0_0 _
  subst b0_0
  obtain ⟨l0_1, ⟨A0_1, c0_1, b0_1, hc0_1, hr0_1⟩, w0_1⟩ := (Fr.opens_slice Try.underlying44 (by kernel_rfl) (Fr.opens_struct2 (d0 := (Kd.int .i64)) (d1 := Kd.string) Try.underlying104 (by kernel_rfl) (by kernel_rfl) (Fr.opens_int Try.underlying3) (Fr.opens_string Try.underlying9) (fun x : S104 => (x.f0, x.f1)) (fun a b => ⟨a, b⟩) (fun _ _ => rfl))) _ _ _ g0_1
  injection b0_1 with b0_1 _
  subst b0_1
  obtain ⟨a1, rfl, rfl, rfl, w1⟩ := open_int Try.underlying3 (hval 1 3 v1 rfl rfl) h1
  clear hA0 hval0 hsz0 hsz
  obtain ⟨k, hk⟩ := Pure.FnExactStateAt a0_0 l0_1 a1 w0_0 w0_1 w1
  refine (Q.laws_FnExactStateAt.calls k a0_0 A0_1 c0_1 l0_1 a1 true W hr0_1 hc0_1 hk).mono fun e W' ⟨he, bel0⟩ => ?_
  have bel : Below W.heap.size W W' := bel0
  subst he
  exact ⟨_, rfl, _, _, _, [], _, [], hW', trodAll_mk1 (shut_bool Try.underlying4 _), (trodAll_cons_mk (Below.trod laidOut (by kernel_rfl) (of_decide_eq_true (by kernel_rfl)) k0 bel lt0) (trodAll_cons_mk (shut_int Try.underlying3 w1) trodAll_mk0)), rfl, bel.frame _, fun h => by cases h⟩
theorem over : Rows.fnExactStateAtRow.holds Try.pinned (OpenSpec.ofChange Rows.fnExactStateAtSpec) :=
  OpenClaim.holds_of_wide 8 Try.f8 rfl rfl rfl rfl rfl rfl rfl ⟨rfl, rfl, rfl, rfl, rfl⟩ rfl rfl rfl rfl rfl (by kernel_rfl) Try.func8 (by kernel_rfl)
    (of_decide_eq_true (by kernel_rfl)) (by unfold Func.isWrapper; first | (rw [if_pos (by decide +kernel)]; kernel_rfl) | (rw [if_neg (by decide +kernel)]; exact ⟨rfl, rfl⟩))
    (fun os started H enc _ => lifted os started H enc)
theorem proved : Rows.FnExactStateAtSaid := over
#print axioms proved
end Go.Proofs.Ytjmfkhjhhohnkaa.fnExactStateAt
namespace Go.Proofs.Ytjmfkhjhhohnkaa
/-- The row, under a short name, for the claim. -/
theorem fnExactStateAt_holds : Rows.FnExactStateAtSaid := fnExactStateAt.proved
end Go.Proofs.Ytjmfkhjhhohnkaa
