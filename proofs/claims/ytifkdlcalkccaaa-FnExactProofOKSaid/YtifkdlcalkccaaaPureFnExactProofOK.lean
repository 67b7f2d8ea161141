/- The pure statement of the law FnExactProofOK: what its functions compute answers as the law says. -/
import Derived.Test.YtifkdlcalkccaaaDefFnExactProofOK
import Derived.Test.YtifkdlcalkccaaaSs
import Derived.Test.YtifkdlcalkccaaaE4
namespace Go.Proofs.Ytifkdlcalkccaaa.Pure
open Go.RowKit Go.Proofs.Ytifkdlcalkccaaa.Q Go.Proofs.YtifkdlcalkccaaaW.PrintWords Go.Proofs.YtifkdlcalkccaaaW.PrintLast
/-- The answer behind the sides. -/
def tailB (f : Bool) (v o : ByteArray) : Bool := if f then (o.toList == ([] : List UInt8)) else ((v.toList == ([] : List UInt8)) && ((o.toList == ([] : List UInt8)) || ((o.size : Int) == 64)))
theorem size0 (o : ByteArray) : ((o.size : Int) = 0) ↔ o.toList = ([] : List UInt8) := by
  rw [Lib.toList_data, ← List.length_eq_zero_iff, data_length]
  omega
def sidesB (l : List ByteArray) (i : Nat) : Bool := !((l.drop i).any fun x => !((x.size : Int) == 32))
theorem sidesB_step (l : List ByteArray) (i : Nat) (h : i < l.length) : sidesB l i = (((l[i].size : Int) == 32) && sidesB l (i + 1)) := by
  unfold sidesB
  rw [List.drop_eq_getElem_cons h, List.any_cons, Bool.not_or, Bool.not_not]
theorem spec_sides (f : Bool) (v o : ByteArray) (l : List ByteArray) (hl : l.length ≤ 9223372036854775807) (d : Nat) : ∀ (k i : Nat), l.length - i = d → d < k → spec_ProofOK.l0 k (i : Int) f v o l = some (sidesB l i && tailB f v o) := by
  induction d with
  | zero =>
    intro k i hd hk
    obtain ⟨k, rfl⟩ : ∃ m, k = m + 1 := ⟨k - 1, by omega⟩
    have : sidesB l i = true := by unfold sidesB; rw [List.drop_of_length_le (by omega)]; rfl
    simp only [spec_ProofOK.l0]
    rw [if_neg (by omega), this, Bool.true_and]
    unfold tailB
    simp only [size0]
    cases f with
    | true => simp
    | false =>
      by_cases hv : v.toList = [] <;> by_cases ho : o.toList = [] <;> simp [hv, ho]
  | succ d ih =>
    intro k i hd hk
    obtain ⟨k, rfl⟩ : ∃ m, k = m + 1 := ⟨k - 1, by omega⟩
    have hlt : i < l.length := by omega
    simp only [spec_ProofOK.l0]
    rw [if_pos (by omega), if_pos (by omega), rd_at l i hlt, us64 hlt hl, ih k (i + 1) (by omega) (by omega), sidesB_step l i hlt]
    by_cases h : (l[i].size : Int) = 32
    · rw [if_pos h]; simp [h]
    · rw [if_neg h]; simp [h]
theorem spec_proof (f : Bool) (v o : ByteArray) (l : List ByteArray) (hl : l.length ≤ 9223372036854775807) (k : Nat) (hk : l.length + 1 < k) :
    spec_ProofOK.f k f v o l = some (decide (l.length ≤ 256) && (decide (v.size ≤ 1000) && (sidesB l 0 && tailB f v o))) := by
  obtain ⟨k, rfl⟩ : ∃ m, k = m + 1 := ⟨k - 1, by omega⟩
  unfold spec_ProofOK.f
  by_cases h : (l.length : Int) > 256
  · rw [if_pos h, decide_eq_false (show ¬ l.length ≤ 256 by omega)]
    simp [spec_ProofOK.j0]
  · rw [if_neg h, decide_eq_true (show l.length ≤ 256 by omega), Bool.true_and]
    have hs : spec_ProofOK.l0 k 0 f v o l = some (sidesB l 0 && tailB f v o) := spec_sides f v o l hl l.length k 0 (by omega) (by omega)
    by_cases hv : (v.size : Int) > 1000
    · rw [decide_eq_true hv, decide_eq_false (show ¬ v.size ≤ 1000 by omega)]
      simp [spec_ProofOK.j0]
    · rw [decide_eq_false hv, decide_eq_true (show v.size ≤ 1000 by omega), Bool.true_and]
      simp only [spec_ProofOK.j0]
      rw [if_neg (by simp)]
      exact hs
theorem impl_proof (f : Bool) (v o : ByteArray) (l : List ByteArray) (k : Nat) (hk : 0 < k) :
    impl_ProofOK.f k f v o l = some (decide (l.length ≤ 256) && (decide (v.size ≤ 1000) && (sidesB l 0 && tailB f v o))) := by
  obtain ⟨k, rfl⟩ : ∃ m, k = m + 1 := ⟨k - 1, by omega⟩
  unfold impl_ProofOK.f impl_isHash.f impl_isValue.f
  have he : (!(l.any fun x => !((x.size : Int) == 32))) = sidesB l 0 := by unfold sidesB; rw [List.drop_zero]
  rw [he]
  have hv : decide ((v.size : Int) ≤ 1000) = decide (v.size ≤ 1000) := by rw [decide_eq_decide]; omega
  rw [hv]
  have ht : (if f = true then some (o.toList == ([] : List UInt8)) else if v.toList = ([] : List UInt8) then (if o.toList = ([] : List UInt8) then some true else some ((o.size : Int) == 64)) else some false) = some (tailB f v o) := by
    unfold tailB
    cases f with
    | true => simp
    | false => by_cases hv : v.toList = [] <;> by_cases ho : o.toList = [] <;> simp [hv, ho]
  simp only [Option.bind_some, impl_ProofOK.j0, ht]
  by_cases h : (l.length : Int) > 256
  · rw [if_pos h, decide_eq_false (show ¬ l.length ≤ 256 by omega)]
    simp
  · rw [if_neg h, decide_eq_true (show l.length ≤ 256 by omega), Bool.true_and]
    cases sidesB l 0 <;> cases decide (v.size ≤ 1000) <;> simp
theorem FnExactProofOK : laws_FnExactProofOK.PureF := by
  intro f v o l hv ho ⟨hw, hl⟩
  have done : ∀ k, l.length + 1 < k → l.length ≤ 1048576 → ((laws_toKeyProof.f k f v o l).bind fun bt166 => ((spec_ProofOK.f k bt166.1 bt166.2.1 bt166.2.2.1 bt166.2.2.2).bind fun t172 => ((laws_toKeyProof.f k f v o l).bind fun bt173 => ((impl_ProofOK.f k bt173.1 bt173.2.1 bt173.2.2.1 bt173.2.2.2).bind fun t180 => (if (t180 != t172) = true then (some false) else ((laws_toKeyProof.f k f v o l).bind fun bt181 => ((laws_eqKeyProof.f k bt173.1 bt173.2.1 bt173.2.2.1 bt173.2.2.2 bt181.1 bt181.2.1 bt181.2.2.1 bt181.2.2.2).bind fun t187 => (if t187 = true then (some true) else (some false))))))))) = some true := by
    intro k hk h20
    unfold laws_toKeyProof.f
    rw [toStringS_eq l h20 k (by omega)]
    simp only [Option.bind_some]
    rw [spec_proof f v o l (by omega) k hk, impl_proof f v o l k (by omega)]
    simp only [Option.bind_some]
    unfold laws_eqKeyProof.f
    rw [eqStringS_refl l (by omega) k (by omega)]
    simp
  refine ⟨l.length + 2, ?_⟩
  unfold laws_FnExactProofOK.f laws_szKeyProof.f
  rw [w_sub 1048576 _ (by omega) (by omega) hv]
  by_cases h1 : 1048576 - (v.size : Int) < 0
  · rw [if_pos h1]; simp
  · rw [if_neg h1, w_sub _ _ (by omega) (by omega) ho]
    by_cases h2 : 1048576 - (v.size : Int) - (o.size : Int) < 0
    · rw [if_pos h2]; simp
    · obtain ⟨r, _, hr, hr'⟩ := szStringS_eq l hw hl (1048576 - (v.size : Int) - (o.size : Int)) (by omega) (by omega)
      rw [if_neg h2, hr _ (by omega)]
      simp only [Option.bind_some]
      by_cases h3 : r < 0
      · rw [if_pos h3]; simp
      · rw [if_neg h3]
        simp only [Option.bind_some]
        rw [if_neg h3]
        exact done _ (by omega) (hr' (by omega))
end Go.Proofs.Ytifkdlcalkccaaa.Pure
