/- The pure statement of the law FnExactCheckKey: what its functions compute answers as the law says. -/
import Derived.Test.YtjmfkhjhhohnkaaDefFnExactCheckKey
import Derived.Test.YtjmfkhjhhohnkaaSs
import Derived.Test.YtjmfkhjhhohnkaaE27
namespace Go.Proofs.Ytjmfkhjhhohnkaa.Pure
open Go.RowKit Go.Proofs.Ytjmfkhjhhohnkaa.Q Go.Proofs.YtjmfkhjhhohnkaaW.PrintWords Go.Proofs.YtjmfkhjhhohnkaaW.PrintLast
set_option linter.unusedVariables false
/-- The answer behind the sides. -/
def tailB (f : Bool) (v o : ByteArray) : Bool := if f then (o.toList == ([] : List UInt8)) else ((v.toList == ([] : List UInt8)) && ((o.toList == ([] : List UInt8)) || ((o.size : Int) == 64)))
theorem size0 (o : ByteArray) : ((o.size : Int) = 0) ↔ o.toList = ([] : List UInt8) := by
  rw [Lib.toList_data, ← List.length_eq_zero_iff, show o.data.toList.length = o.size from rfl]
  omega
def sidesB (l : List ByteArray) (i : Nat) : Bool := !((l.drop i).any fun x => !((x.size : Int) == 32))
theorem sidesB_step (l : List ByteArray) (i : Nat) (h : i < l.length) : sidesB l i = (((l[i].size : Int) == 32) && sidesB l (i + 1)) := by
  unfold sidesB
  rw [List.drop_eq_getElem_cons h, List.any_cons, Bool.not_or, Bool.not_not]
theorem spec_sides (f : Bool) (v o : ByteArray) (l : List ByteArray) (hl : l.length ≤ 9223372036854775807) (d : Nat) : ∀ (k i : Nat), l.length - i = d → d < k → spec_ProofOK.l0 k (i : Int) f v o l = some (sidesB l i && tailB f v o) := by
  induction d with
  | zero =>
    intro k i hd hk
    obtain ⟨k, rfl⟩ : ∃ m, k = m + 1 := ⟨k - 1, by omega⟩
    have : sidesB l i = true := by unfold sidesB; rw [List.drop_of_length_le (by omega)]; rfl
    simp only [spec_ProofOK.l0]
    rw [if_neg (by omega), this, Bool.true_and]
    unfold tailB
    simp only [size0]
    cases f with
    | true => simp
    | false =>
      by_cases hv : v.toList = [] <;> by_cases ho : o.toList = [] <;> simp [hv, ho]
  | succ d ih =>
    intro k i hd hk
    obtain ⟨k, rfl⟩ : ∃ m, k = m + 1 := ⟨k - 1, by omega⟩
    have hlt : i < l.length := by omega
    simp only [spec_ProofOK.l0]
    rw [if_pos (by omega), if_pos (by omega), rd_at l i hlt, us64 hlt hl, ih k (i + 1) (by omega) (by omega), sidesB_step l i hlt]
    by_cases h : (l[i].size : Int) = 32
    · rw [if_pos h]; simp [h]
    · rw [if_neg h]; simp [h]
theorem spec_proof (f : Bool) (v o : ByteArray) (l : List ByteArray) (hl : l.length ≤ 9223372036854775807) (k : Nat) (hk : l.length + 1 < k) :
    spec_ProofOK.f k f v o l = some (decide (l.length ≤ 256) && (decide (v.size ≤ 1000) && (sidesB l 0 && tailB f v o))) := by
  obtain ⟨k, rfl⟩ : ∃ m, k = m + 1 := ⟨k - 1, by omega⟩
  unfold spec_ProofOK.f
  by_cases h : (l.length : Int) > 256
  · rw [if_pos h, decide_eq_false (show ¬ l.length ≤ 256 by omega)]
    simp [spec_ProofOK.j0]
  · rw [if_neg h, decide_eq_true (show l.length ≤ 256 by omega), Bool.true_and]
    have hs : spec_ProofOK.l0 k 0 f v o l = some (sidesB l 0 && tailB f v o) := spec_sides f v o l hl l.length k 0 (by omega) (by omega)
    by_cases hv : (v.size : Int) > 1000
    · rw [decide_eq_true hv, decide_eq_false (show ¬ v.size ≤ 1000 by omega)]
      simp [spec_ProofOK.j0]
    · rw [decide_eq_false hv, decide_eq_true (show v.size ≤ 1000 by omega), Bool.true_and]
      simp only [spec_ProofOK.j0]
      rw [if_neg (by simp)]
      exact hs
theorem impl_proof (f : Bool) (v o : ByteArray) (l : List ByteArray) (k : Nat) (hk : 0 < k) :
    impl_ProofOK.f k f v o l = some (decide (l.length ≤ 256) && (decide (v.size ≤ 1000) && (sidesB l 0 && tailB f v o))) := by
  obtain ⟨k, rfl⟩ : ∃ m, k = m + 1 := ⟨k - 1, by omega⟩
  unfold impl_ProofOK.f impl_isHash.f impl_isValue.f
  have he : (!(l.any fun x => !((x.size : Int) == 32))) = sidesB l 0 := by unfold sidesB; rw [List.drop_zero]
  rw [he]
  have hv : decide ((v.size : Int) ≤ 1000) = decide (v.size ≤ 1000) := by rw [decide_eq_decide]; omega
  rw [hv]
  have ht : (if f = true then some (o.toList == ([] : List UInt8)) else if v.toList = ([] : List UInt8) then (if o.toList = ([] : List UInt8) then some true else some ((o.size : Int) == 64)) else some false) = some (tailB f v o) := by
    unfold tailB
    cases f with
    | true => simp
    | false => by_cases hv : v.toList = [] <;> by_cases ho : o.toList = [] <;> simp [hv, ho]
  simp only [Option.bind_some, impl_ProofOK.j0, ht]
  by_cases h : (l.length : Int) > 256
  · rw [if_pos h, decide_eq_false (show ¬ l.length ≤ 256 by omega)]
    simp
  · rw [if_neg h, decide_eq_true (show l.length ≤ 256 by omega), Bool.true_and]
    cases sidesB l 0 <;> cases decide (v.size ≤ 1000) <;> simp
theorem proof_ok (key v o : ByteArray) (f : Bool) (l : List ByteArray) (hk : key.size ≤ 60) (h : (decide (l.length ≤ 256) && (decide (v.size ≤ 1000) && (sidesB l 0 && tailB f v o))) = true) : checkOK key f v o l := by
  rw [Bool.and_eq_true, Bool.and_eq_true, Bool.and_eq_true, decide_eq_true_eq, decide_eq_true_eq] at h
  obtain ⟨h1, h2, h3, h4⟩ := h
  refine ⟨by omega, by omega, ?_, h1, ?_⟩
  · cases f with
    | true => exact Or.inl rfl
    | false =>
      refine Or.inr ?_
      unfold tailB at h4
      rw [if_neg (by decide), Bool.and_eq_true, Bool.or_eq_true, beq_iff_eq, beq_iff_eq] at h4
      rcases h4.2 with h5 | h5
      · have h6 := (size0 o).2 h5
        exact Or.inl (by omega)
      · rw [beq_iff_eq] at h5
        exact Or.inr (by omega)
  · intro s hs
    unfold sidesB at h3
    rw [List.drop_zero, Bool.not_eq_true', List.any_eq_false] at h3
    have := h3 s hs
    simp only [Bool.not_eq_true', Bool.not_eq_false, beq_iff_eq] at this
    omega
theorem same_check (root key : ByteArray) (f : Bool) (v o : ByteArray) (l : List ByteArray) (hl : l.length ≤ 9223372036854775807) (k : Nat) (hk : l.length + 4 < k) :
    ∃ x y z, spec_CheckKey.f k root key f v o l = some (x, y, z) ∧ impl_CheckKey.f k root key f v o l = some (x, y, z) := by
  obtain ⟨k, rfl⟩ : ∃ m, k = m + 2 := ⟨k - 2, by omega⟩
  have hp := spec_proof f v o l hl (k + 1) (by omega)
  have hq := impl_proof f v o l (k + 2) (by omega)
  have hok := proof_ok key v o f l
  unfold spec_CheckKey.f impl_CheckKey.f impl_isText.f impl_isHash.f
  rw [hq]
  simp only [Option.bind_some, List.any_cons, List.any_nil, Bool.or_false]
  by_cases t0 : root.size > 65536
  · rw [if_pos (by omega), decide_eq_true (show 65536 < (root.size : Int) by omega)]
    simp only [spec_CheckKey.j0, if_true, Bool.true_or, Bool.not_true]
    exact ⟨_, _, _, rfl, by rw [if_neg (by decide)]⟩
  · rw [if_neg (by omega), decide_eq_false (show ¬ 65536 < (root.size : Int) by omega), Bool.false_or]
    by_cases t1 : key.size > 65536
    · rw [decide_eq_true (show (key.size : Int) > 65536 by omega)]
      simp only [spec_CheckKey.j0, if_true, Bool.not_true]
      exact ⟨_, _, _, rfl, by rw [if_neg (by decide)]⟩
    · rw [decide_eq_false (show ¬ (key.size : Int) > 65536 by omega)]
      simp only [spec_CheckKey.j0, Bool.not_false, if_true]
      rw [if_neg (by decide)]
      by_cases t2 : (root.size : Int) = 32
      · rw [if_pos t2, t2]
        rw [show (!(!((32 : Int) == 32))) = true from rfl, if_pos rfl]
        unfold spec_l03Key.f spec_l01In.f impl_isKey.f impl_within.f
        by_cases t3 : (key.size : Int) ≥ 1
        · rw [if_pos t3]
          simp only [Option.bind_some]
          by_cases t4 : (key.size : Int) ≤ 60
          · rw [decide_eq_true t4, if_pos rfl, if_pos rfl, hp]
            simp only [Option.bind_some, spec_CheckKey.j1, impl_CheckKey.j0]
            cases hb : (decide (l.length ≤ 256) && (decide (v.size ≤ 1000) && (sidesB l 0 && tailB f v o))) with
            | false =>
              exact ⟨_, _, _, by rw [Bool.not_false, if_pos rfl], by rw [Bool.not_false, if_pos rfl]⟩
            | true =>
              have hc := hok (by omega) hb
              rw [Bool.not_true, if_neg (by decide), if_neg (by decide)]
              unfold spec_l04Check.f impl_KeyProof_leads.f
              rw [if_pos hc, Option.bind_some]
              cases checkT root key f v o l with
              | true => exact ⟨_, _, _, by rw [if_pos rfl], by rw [if_pos rfl]⟩
              | false => exact ⟨_, _, _, by rw [if_neg (by decide)], by rw [if_neg (by decide)]⟩
          · rw [decide_eq_false t4, if_neg (by decide), if_neg (by decide)]
            simp only [spec_CheckKey.j1, impl_CheckKey.j0, if_true]
            exact ⟨_, _, _, rfl, rfl⟩
        · rw [if_neg t3]
          simp only [Option.bind_some]
          rw [if_neg (by decide), if_neg (by decide)]
          simp only [spec_CheckKey.j1, impl_CheckKey.j0, if_true]
          exact ⟨_, _, _, rfl, rfl⟩
      · rw [if_neg t2, show ((root.size : Int) == 32) = false by simpa using t2]
        rw [show (!(!false)) = false from rfl, if_neg (by decide)]
        simp only [spec_CheckKey.j1, impl_CheckKey.j0, if_true]
        exact ⟨_, _, _, rfl, rfl⟩
theorem FnExactCheckKey : laws_FnExactCheckKey.PureF := by
  intro root key f v o l hroot hkey hv ho ⟨hw, hl⟩
  have done : ∀ k, l.length + 5 < k → l.length ≤ 1048576 → ((laws_toKeyProof.f k f v o l).bind fun bt220 => ((spec_CheckKey.f k root key bt220.1 bt220.2.1 bt220.2.2.1 bt220.2.2.2).bind fun bt226 => ((laws_toKeyProof.f k f v o l).bind fun bt229 => ((impl_CheckKey.f k root key bt229.1 bt229.2.1 bt229.2.2.1 bt229.2.2.2).bind fun bt236 => (if bt236.1.toList = bt226.1.toList then (if (bt236.2.1 != bt226.2.1) = true then (laws_FnExactCheckKey.j0 k true f v o l bt229.1 bt229.2.1 bt229.2.2.1 bt229.2.2.2) else (laws_FnExactCheckKey.j0 k (bt236.2.2 != bt226.2.2) f v o l bt229.1 bt229.2.1 bt229.2.2.1 bt229.2.2.2)) else (laws_FnExactCheckKey.j0 k true f v o l bt229.1 bt229.2.1 bt229.2.2.1 bt229.2.2.2)))))) = some true := by
    intro k hk h20
    obtain ⟨k, rfl⟩ : ∃ m, k = m + 1 := ⟨k - 1, by omega⟩
    have ht : ∀ k, l.length < k → laws_toKeyProof.f k f v o l = some (f, v, o, l) := by
      intro k hk
      unfold laws_toKeyProof.f
      rw [toStringS_eq l h20 k hk, Option.bind_some]
    obtain ⟨x, y, z, e1, e2⟩ := same_check root key f v o l (by omega) (k + 1) (by omega)
    rw [ht _ (by omega)]
    simp only [Option.bind_some]
    rw [e1, e2]
    have hy : (y != y) = false := by cases y <;> rfl
    have hz : (z != z) = false := by simp
    simp only [Option.bind_some]
    rw [if_pos trivial, hy, hz, if_neg (by decide)]
    simp only [laws_FnExactCheckKey.j0]
    rw [if_neg (by decide), ht _ (by omega)]
    unfold laws_eqKeyProof.f
    simp only [Option.bind_some]
    rw [eqStringS_refl l (by omega) k (by omega)]
    simp
  refine ⟨l.length + 6, ?_⟩
  unfold laws_FnExactCheckKey.f laws_szKeyProof.f
  by_cases g1 : (root.size : Int) > 1048576
  · rw [if_pos g1]
  rw [if_neg g1]
  by_cases g2 : (key.size : Int) > 1048576
  · rw [if_pos g2]
  rw [if_neg g2]
  rw [w_sub 1048576 _ (by omega) (by omega) hv]
  by_cases h1 : 1048576 - (v.size : Int) < 0
  · rw [if_pos h1]; simp
  · rw [if_neg h1, w_sub _ _ (by omega) (by omega) ho]
    by_cases h2 : 1048576 - (v.size : Int) - (o.size : Int) < 0
    · rw [if_pos h2]; simp
    · obtain ⟨r, _, hr, hr'⟩ := szStringS_eq l hw hl (1048576 - (v.size : Int) - (o.size : Int)) (by omega) (by omega)
      rw [if_neg h2, hr _ (by omega)]
      simp only [Option.bind_some]
      by_cases h3 : r < 0
      · rw [if_pos h3]; simp
      · rw [if_neg h3]
        simp only [Option.bind_some]
        rw [if_neg h3]
        exact done _ (by omega) (hr' (by omega))
end Go.Proofs.Ytjmfkhjhhohnkaa.Pure
