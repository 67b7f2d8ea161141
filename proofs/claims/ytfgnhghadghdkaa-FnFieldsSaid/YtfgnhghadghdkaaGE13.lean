/- The contract of impl.FieldsBytes. -/
import Derived.Test.YtfgnhghadghdkaaG3
import Derived.Test.YtfgnhghadghdkaaGE1
import Derived.Test.YtfgnhghadghdkaaGMb
namespace Go.Proofs.Ytfgnhghadghdkaa.G
open Go.RowKit Go.Proofs.YtfgnhghadghdkaaW.PrintWords Go.Proofs.YtfgnhghadghdkaaW.PrintLast Go.Proofs.YtfgnhghadghdkaaW.PrintMore
set_option linter.unusedVariables false
set_option linter.unusedSimpArgs false
theorem fieldsBytes1 (x : ByteArray) (W : World) : Calls Try.prog 51 #[.string x] W fun e w' => e = .returned (.bool (decide (1000 < (x.size : Int)))) ∧ W = w' := by
  go_enter Try.func51, Try.ntmps51
  go_wp2
  go_ret
  exact ⟨rfl, rfl⟩
def impl_FieldsBytes.f (k : Nat) (l : List ByteArray) : Option (List Int × Int) :=
  if (l.length : Int) ≤ 4096 then (if 40 < (l.length : Int) then some ([], 6) else if (l.any fun x => decide (1000 < (x.size : Int))) = true then some ([], 4) else (impl_fields.f k l).bind fun r => (if r.size ≤ 9223372036854775807 then some (bytesOf r, 0) else none)) else some ([], 2)
set_option maxHeartbeats 4000000 in
set_option maxRecDepth 100000 in
theorem impl_FieldsBytes.calls (k : Nat) (A0 : Option Addr) (c0 : Nat) (l : List ByteArray) (r1 : List Int) (r2 : Int) (w : World) (hr0 : Kd.C Kd.string w A0 l.length l) (hc0 : l.length ≤ c0) (h : impl_FieldsBytes.f k l = some (r1, r2)) :
    Calls Try.prog 29 #[.slice A0 l.length c0] w fun e w' => ∃ v, e = .returned (.tuple #[v, .int .i64 r2]) ∧ MB w' w.heap.size v r1 ∧ Below w.heap.size w w' := by
  unfold impl_FieldsBytes.f at h
  have hub := Try.underlying27
  have huu := Try.underlying5
  have hus := Try.underlying9
  have HIL := Aside0.mk (fun (W : World) (hr : Kd.C Kd.string W A0 l.length l) r hh => impl_isList_string.calls A0 c0 l r W hr hc0 hh)
  have HCF := Aside0.mk (fun (W : World) (hr : Kd.C Kd.string W A0 l.length l) => containsFunc_calls 51 (fun x => decide (1000 < (x.size : Int))) (enters_of Try.func51 (by kernel_rfl) rfl) fieldsBytes1 A0 c0 l W hr)
  have HFI := Aside0.mk (fun (W : World) (hr : Kd.C Kd.string W A0 l.length l) r hh => impl_fields.calls k A0 c0 l r W hr hc0 hh)
  by_cases hl : (l.length : Int) ≤ 4096
  · rw [if_pos hl] at h
    have HIL1 := Aside0.mk (fun (W : World) (hr : Kd.C Kd.string W A0 l.length l) => HIL.out W hr true (by simp [impl_isList_string.f, hl]))
    by_cases hm : 40 < (l.length : Int)
    · rw [if_pos hm] at h
      injection h with h
      injection h with e1 e2
      subst e1
      subst e2
      have HR := Aside0.mk hr0
      clear hl hr0 HIL HCF HFI
      generalize l.length = n at *
      go_enter Try.func29, Try.ntmps29
      go_wp2_with (go_at_call 49; refine (HIL1.out _ HR.out).mono ?_; rintro e w1 ⟨rfl, hd⟩; obtain ⟨⟨nd1, rfl⟩⟩ := hd)
      go_ret2
      exact ⟨_, rfl, .inl ⟨rfl, rfl⟩, pw_below_drewN (Below.refl _ w) _⟩
    · rw [if_neg hm] at h
      cases ha : (l.any fun x => decide (1000 < (x.size : Int))) with
      | true =>
        rw [ha, if_pos rfl] at h
        rw [ha] at HCF
        injection h with h
        injection h with e1 e2
        subst e1
        subst e2
        have HR := Aside0.mk hr0
        clear hl hr0 HIL HFI ha
        generalize l.length = n at *
        go_enter Try.func29, Try.ntmps29
        go_wp2_with (first
          | (go_at_call 49; refine (HIL1.out _ HR.out).mono ?_; rintro e w1 ⟨rfl, hd⟩; obtain ⟨⟨nd1, rfl⟩⟩ := hd)
          | (go_at_call 50; refine (HCF.out _ (Kd.C_drewN HR.out _)).mono ?_; rintro e w2 ⟨rfl, rfl⟩))
        go_ret2
        exact ⟨_, rfl, .inl ⟨rfl, rfl⟩, pw_below_drewN (Below.refl _ w) _⟩
      | false =>
        rw [ha, if_neg (by simp)] at h
        rw [ha] at HCF
        obtain ⟨r, hr, h⟩ := Option.bind_eq_some_iff.1 h
        by_cases hsz : r.size ≤ 9223372036854775807
        · rw [if_pos hsz] at h
          injection h with h
          injection h with e1 e2
          subst e1
          subst e2
          have HFI1 := Aside0.mk (fun W hC => HFI.out W hC r hr)
          have HR := Aside0.mk hr0
          clear hl hr0 HIL ha HFI hr
          have hcv : ∀ W : World, (convert 9 27 (.string r)).run Try.prog W = .ok (.slice (some ⟨W.heap.size, 0, none⟩) r.size (grownCap W r.size 0 5)) (Lib.bytesWorld W 5 r) := fun W => Lib.run_convert_string_bytes W 9 27 5 r hus hub huu
          generalize l.length = n at *
          go_enter Try.func29, Try.ntmps29
          go_wp2_with (first
            | (go_at_call 49; refine (HIL1.out _ HR.out).mono ?_; rintro e w1 ⟨rfl, hd⟩; obtain ⟨⟨nd1, rfl⟩⟩ := hd)
            | (go_at_call 50; refine (HCF.out _ (Kd.C_drewN HR.out _)).mono ?_; rintro e w2 ⟨rfl, rfl⟩)
            | (go_at_call 52; refine (HFI1.out _ (Kd.C_drewN HR.out _)).mono ?_; rintro e w3 ⟨rfl, hb3⟩; have HB3 := Aside0.mk hb3; clear hb3))
          go_ret2
          have hb := (pw_below_drewN (Below.refl w.heap.size w) nd1).trans (HB3.out.mono (by simp))
          exact ⟨_, rfl, MB_lower (MB_made w3 r hsz) hb.size, hb.trans ((bytes_below w3 _ r).mono hb.size)⟩
        · rw [if_neg hsz] at h
          cases h
  · rw [if_neg hl] at h
    have HIL1 := Aside0.mk (fun (W : World) (hr : Kd.C Kd.string W A0 l.length l) => HIL.out W hr false (by simp [impl_isList_string.f, hl]))
    injection h with h
    injection h with e1 e2
    subst e1
    subst e2
    have HR := Aside0.mk hr0
    clear hl hr0 HIL HCF HFI
    generalize l.length = n at *
    go_enter Try.func29, Try.ntmps29
    go_wp2_with (go_at_call 49; refine (HIL1.out _ HR.out).mono ?_; rintro e w1 ⟨rfl, hd⟩; obtain ⟨⟨nd1, rfl⟩⟩ := hd)
    go_ret2
    exact ⟨_, rfl, .inl ⟨rfl, rfl⟩, pw_below_drewN (Below.refl _ w) _⟩
end Go.Proofs.Ytfgnhghadghdkaa.G
