/- spec.l03Put where the store is not full: what it hands back is new. -/
import Derived.Test.YtifkdlcalkccaaaSE6
namespace Go.Proofs.Ytifkdlcalkccaaa.S
open Go.RowKit Go.Proofs.YtifkdlcalkccaaaW.PrintWords Go.Proofs.YtifkdlcalkccaaaW.PrintLast Go.Proofs.YtifkdlcalkccaaaW.PrintMore
set_option linter.unusedVariables false
-- EXT loop.example/g00298/spec.l03Put spec_l03Put 1 1
def spec_l03Put.f (k : Nat) (l0 : List S50) (a1 a2 : ByteArray) : Option (List S50 × Int) :=
  (spec_l03At.f k l0 a1).bind fun t => if (0 ≤ t ∧ t ≤ l0.length) ∧ l0.length < 400 then some (putT l0 t.toNat a1 a2) else none
theorem spec_l03Put.mono : ∀ a0 a1 a2 k, LeO (spec_l03Put.f k a0 a1 a2) (spec_l03Put.f (k + 1) a0 a1 a2) := by
  intro a0 a1 a2 k
  unfold spec_l03Put.f
  exact LeO.bind (spec_l03At.mono _ _ _) fun _ => LeO.refl _
theorem spec_l03Put.calls (k : Nat) (A0 : Option Addr) (c0 : Nat) (l0 : List S50) (a1 a2 : ByteArray) (r1 : List S50) (r2 : Int) (w : World) (hr0 : Kd.C k50 w A0 l0.length l0) (hc0 : l0.length ≤ c0) (h : spec_l03Put.f k l0 a1 a2 = some (r1, r2)) :
    Calls Try.prog 65 #[.slice A0 l0.length c0, .string a1, .string a2] w fun e w' => ∃ v0_ : Value, e = .returned (.tuple #[v0_, .int .i64 r2]) ∧ Kd.R k50 50 w' w.heap.size (fun _ => True) v0_ r1 ∧ Below w.heap.size w w' := by
  unfold spec_l03Put.f at h
  obtain ⟨t, ht, h⟩ := Option.bind_eq_some_iff.1 h
  by_cases hb : (0 ≤ t ∧ t ≤ l0.length) ∧ l0.length < 400
  · rw [if_pos hb] at h
    obtain ⟨tn, rfl⟩ := Int.eq_ofNat_of_zero_le hb.1.1
    rw [Int.toNat_natCast] at h
    injection h with h
    have e1 : (putT l0 tn a1 a2).1 = r1 := congrArg Prod.fst h
    have e2 : (putT l0 tn a1 a2).2 = r2 := congrArg Prod.snd h
    rw [← e1, ← e2]
    have htl : tn ≤ l0.length := by have := hb.1.2; omega
    by_cases hh : tn < l0.length ∧ ((l0.getD tn z50).f0.toList == a1.toList) = true
    · have e : putT l0 tn a1 a2 = (l0.set tn ⟨(l0.getD tn z50).f0, a2⟩, 0) := by unfold putT; rw [if_pos hh]
      rw [e]
      have h2 := hh.2
      rw [getD_at _ _ hh.1] at h2
      exact l03Put_set k A0 c0 l0 a1 a2 tn w hr0 hc0 ht hh.1 h2 (by omega)
    · have hn : ∀ q : tn < l0.length, ((l0[tn]'q).f0.toList == a1.toList) = false := fun q => by
        rw [← getD_at _ _ q]
        exact Bool.eq_false_iff.2 fun hx => hh ⟨q, hx⟩
      have e : putT l0 tn a1 a2 = (l0.take tn ++ ⟨a1, a2⟩ :: l0.drop tn, 0) := by unfold putT; rw [if_neg hh, if_neg (by omega)]
      rw [e]
      exact l03Put_ins k A0 c0 l0 a1 a2 tn w hr0 hc0 ht htl hn (by omega) (by omega)
  · rw [if_neg hb] at h
    cases h
end Go.Proofs.Ytifkdlcalkccaaa.S
