-- Written by xprint (this session's program over the kit's print).
import Derived.Test.YtjmfkhjhhohnkaaRows
import Derived.Test.YtjmfkhjhhohnkaaQ6
import Derived.Test.YtjmfkhjhhohnkaaFr
import Derived.Test.YtjmfkhjhhohnkaaPureFnExactCheckKey
import Derived.WalkKit
import Derived.ProofKit
import Derived.OpenShut
import Derived.ShutString
import Derived.ChangeOld
import Derived.Below
import Derived.SizedLaws
namespace Go.Proofs.Ytjmfkhjhhohnkaa.fnExactCheckKey
open Go.ChangeShapes Go.WideShapes Go.ChangeAt Go.RowKit Go.Proofs.YtjmfkhjhhohnkaaW.PrintWords Go.Proofs.YtjmfkhjhhohnkaaW.PrintLast Go.Proofs.Ytjmfkhjhhohnkaa.Q
open Go.ChangeMaps (open_string shut_string)
set_option linter.unusedVariables false
instance : Inhabited ByteArray := ⟨ByteArray.empty⟩
theorem own : ownKnob Try.prog.godebug = none := by kernel_rfl
theorem laidOut : laidOutB Try.prog = true := by kernel_rfl
set_option maxRecDepth 100000 in
theorem lifted (os : Os) (started : os.Started) (H : Type) (enc : TypeId × Value → H) :
    ReturnsInHanded {} Try.checked os 9 .any (Rows.fnExactCheckKeySpec.pre6 enc Try.prog Try.f9 Rows.fnExactCheckKeyRow.domain false) (Rows.fnExactCheckKeySpec.post enc Try.prog Try.f9 false true false false) := by
  refine returnsInHanded_of_change_sized (C := Try.checked) own started (by kernel_rfl) Try.func9
    (ChangeSpec.witness6 (enc := enc) (C := Try.checked) false ⟨#[], #[.string ByteArray.empty, .string ByteArray.empty, .agg #[.bool false, .string ByteArray.empty, .string ByteArray.empty, .slice none 0 0]], []⟩ 8 (by kernel_rfl) (by kernel_rfl) (by kernel_rfl) (by kernel_rfl)) ?_
  intro W base args ds gs before hval0 hW hcnd hsz0 _
  have hsz : (DataW.weightsEach Try.prog (Try.f9.params.toList ++ Rows.fnExactCheckKeySpec.plain.varTypes Try.prog) (ds ++ gs)).all (· ≤ reachBytes) = true := hsz0
  have hval : ∀ (j : Nat) t v, Try.f9.params[j]? = some t → args[j]? = some v → Value.okWide Try.prog W .any base t v := hval0
  have hW' := hW
  obtain ⟨p, q, hA0, hV, rfl, hfz, hnd⟩ := hW
  have hA : DataW.TrodAll enc Try.prog W 0 (fun _ => true) true Try.f9.params.toList args.toList ds p := hA0
  rw [Try.params9] at hA hval hsz
  obtain ⟨v0, vs0, d0, ds0, p0, q0, hargs, rfl, rfl, h0, r0⟩ := trodAll_cons hA
  obtain ⟨v1, vs1, d1, ds1, p1, q1, rfl, rfl, rfl, h1, r1⟩ := trodAll_cons r0
  obtain ⟨v2, vs2, d2, ds2, p2, q2, rfl, rfl, rfl, h2, r2⟩ := trodAll_cons r1
  obtain ⟨rfl, rfl, rfl⟩ := trodAll_nil r2
  obtain rfl : args = #[v0, v1, v2] := by cases args; simp_all
  obtain ⟨rfl, rfl⟩ := trodVars_none hV
  obtain ⟨a0, rfl, rfl, rfl, y0⟩ := open_string Try.underlying9 (hval 0 9 v0 rfl rfl) h0
  have w0 : a0.size ≤ 140737488351232 := by
    have z := sized_string hsz (j := 0) (t := 9) rfl rfl
    rw [Array.length_toList] at z
    exact z
  obtain ⟨a1, rfl, rfl, rfl, y1⟩ := open_string Try.underlying9 (hval 1 9 v1 rfl rfl) h1
  have w1 : a1.size ≤ 140737488351232 := by
    have z := sized_string hsz (j := 1) (t := 9) rfl rfl
    rw [Array.length_toList] at z
    exact z
  have k2 := h2
  have lt2 : ∀ x ∈ p2, x.block < W.heap.size := by obtain ⟨m, hm⟩ := k2; exact DataW.trod_lt m _ _ _ hm
  obtain ⟨e2_0, e2_1, e2_2, e2_3, y2_0, y2_1, y2_2, y2_3, m2, rfl, g2_0, g2_1, g2_2, g2_3⟩ := Fr.agg4 Try.underlying63 (by kernel_rfl) (by kernel_rfl) (hval 2 63 v2 rfl rfl) h2
  obtain ⟨a2_0, b2_0, w2_0⟩ := (Fr.opens_bool Try.underlying4) _ _ _ g2_0
  replace b2_0 : [e2_0] = [.bool a2_0] := b2_0
  injection b2_0 with b2_0 _
  subst b2_0
  obtain ⟨a2_1, b2_1, w2_1⟩ := (Fr.opens_string Try.underlying9) _ _ _ g2_1
  replace b2_1 : [e2_1] = [.string a2_1] := b2_1
  injection b2_1 with b2_1 _
  subst b2_1
  obtain ⟨a2_2, b2_2, w2_2⟩ := (Fr.opens_string Try.underlying9) _ _ _ g2_2
  replace b2_2 : [e2_2] = [.string a2_2] := b2_2
  injection b2_2 with b2_2 _
  subst b2_2
  obtain ⟨l2_3, ⟨A2_3, c2_3, b2_3, hc2_3, hr2_3⟩, w2_3⟩ := (Fr.opens_slice Try.underlying61 (by kernel_rfl) (Fr.opens_string Try.underlying9)) _ _ _ g2_3
  injection b2_3 with b2_3 _
  subst b2_3
  clear hA0 hval0 hsz0 hsz
  obtain ⟨k, hk⟩ := Pure.FnExactCheckKey a0 a1 a2_0 a2_1 a2_2 l2_3 w0 w1 w2_1 w2_2 w2_3
  refine (Q.laws_FnExactCheckKey.calls k a0 a1 a2_0 a2_1 a2_2 A2_3 c2_3 l2_3 true W hr2_3 hc2_3 hk).mono fun e W' ⟨he, bel0⟩ => ?_
  have bel : Below W.heap.size W W' := bel0
  subst he
  exact ⟨_, rfl, _, _, _, [], _, [], hW', trodAll_mk1 (shut_bool Try.underlying4 _), (trodAll_cons_mk (shut_string Try.underlying9 y0) (trodAll_cons_mk (shut_string Try.underlying9 y1) (trodAll_cons_mk (Below.trod laidOut (by kernel_rfl) (of_decide_eq_true (by kernel_rfl)) k2 bel lt2) trodAll_mk0))), rfl, bel.frame _, fun h => by cases h⟩
theorem over : Rows.fnExactCheckKeyRow.holds Try.pinned (OpenSpec.ofChange Rows.fnExactCheckKeySpec) :=
  OpenClaim.holds_of_wide 9 Try.f9 rfl rfl rfl rfl rfl rfl rfl ⟨rfl, rfl, rfl, rfl, rfl⟩ rfl rfl rfl rfl rfl (by kernel_rfl) Try.func9 (by kernel_rfl)
    (of_decide_eq_true (by kernel_rfl)) (by unfold Func.isWrapper; first | (rw [if_pos (by decide +kernel)]; kernel_rfl) | (rw [if_neg (by decide +kernel)]; exact ⟨rfl, rfl⟩))
    (fun os started H enc _ => lifted os started H enc)
theorem proved : Rows.FnExactCheckKeySaid := over
#print axioms proved
end Go.Proofs.Ytjmfkhjhhohnkaa.fnExactCheckKey
namespace Go.Proofs.Ytjmfkhjhhohnkaa
/-- The row, under a short name, for the claim. -/
theorem fnExactCheckKey_holds : Rows.FnExactCheckKeySaid := fnExactCheckKey.proved
end Go.Proofs.Ytjmfkhjhhohnkaa
