/- The pure statement of the law FnFields: what its functions compute answers as the law says. -/
import Derived.Test.YtfgnhghadghdkaaDefFnFields
import Derived.Test.YtfgnhghadghdkaaGRt
import Derived.Test.YtfgnhghadghdkaaGDraw
namespace Go.Proofs.Ytfgnhghadghdkaa.Pure
open Go.RowKit Go.Proofs.Ytfgnhghadghdkaa.G Go.Proofs.YtfgnhghadghdkaaW.PrintWords Go.Proofs.YtfgnhghadghdkaaW.PrintLast
theorem read_small (l : List Int) (hl : ¬ (l.length : Int) > 65536) : ∃ r q, (∀ k, 262 < k → spec_l02Read.f k (strOfNums l) = some r) ∧ (∀ k, 262 < k → impl_readFields.f k (strOfNums l) = some q) ∧ q.2 = r.2 ∧ (r.2 = true → q.1 = r.1) ∧ r.1.length ≤ 255 :=
  both_f (strOfNums l) (by rw [bySize]; omega)
theorem nums_back {l : List Int} (h : bytesOK l) : bytesOf (strOfNums l) = l := bytesOf_nums l fun x hx => by have := h x hx; omega
theorem fieldsL_ok (A : List ByteArray) : bytesOK (fieldsL A) := by
  intro x hx
  unfold fieldsL at hx
  rcases List.mem_append.1 hx with h | h
  · simp at h; omega
  · obtain ⟨t, ht, hx⟩ := List.mem_flatMap.1 h
    unfold encF at hx
    rcases List.mem_append.1 hx with h | h
    · simp at h; omega
    · unfold bytesOf at h
      obtain ⟨b, _, rfl⟩ := List.mem_map.1 h
      have := b.toNat_lt
      omega
theorem FnFields : laws_FnFields.PureF := by
  intro c m hc hm
  have hcb := bytesOK_of hc.1
  have hmb := bytesOK_of hm.1
  refine ⟨400, ?_⟩
  unfold laws_FnFields.f
  by_cases hlong : 1048576 < (c.length : Int) ∨ 1048576 < (m.length : Int)
  · rw [if_pos hlong]
  · rw [if_neg hlong]
    obtain ⟨l, hl, hl5, hls⟩ := fieldsOf_ok hcb (by omega) 400 (by omega)
    obtain ⟨hs, hi, hlen⟩ := both_ok l (by omega) (fun x hx => by have := hls x hx; omega) 400 (by omega)
    rw [hl, Option.bind_some, hi, Option.bind_some, hs, Option.bind_some]
    have hback : impl_ReadFields.f 400 (fieldsL l) = some (l, 0) := by
      unfold impl_ReadFields.f
      rw [if_neg (by omega)]
      obtain ⟨r, q, e1, e2, e3, e4, _⟩ := read_small (fieldsL l) (by omega)
      have hw := whole_bwd (strOfNums (fieldsL l)) (by rw [bySize]; exact hlen) l (by omega) (fun x hx => by have := hls x hx; omega) (nums_back (fieldsL_ok l)) 400 (by omega)
      rw [e1 400 (by omega)] at hw
      injection hw with hw
      subst hw
      rw [e2 400 (by omega), Option.bind_some, if_pos e3, e4 rfl]
    simp only []
    rw [hback, Option.bind_some, sameTexts_self l (by omega) 400 (by omega), Option.bind_some]
    by_cases hb : (m.length : Int) > 65536
    · have h1 : impl_ReadFields.f 400 m = some ([], 2) := by unfold impl_ReadFields.f; rw [if_pos hb]
      have h2 : spec_ReadFields.f 400 m = some ([], 2) := by unfold spec_ReadFields.f; rw [if_pos hb]
      rw [h1, Option.bind_some, h2, Option.bind_some, if_pos (by refine ⟨?_, ?_, ?_, ?_, ?_⟩ <;> first | trivial | rfl), if_neg (by decide)]
    · obtain ⟨r, q, e1, e2, e3, e4, _⟩ := read_small m hb
      by_cases hr : r.2 = true
      · have h1 : impl_ReadFields.f 400 m = some (r.1, 0) := by
          unfold impl_ReadFields.f
          rw [if_neg hb, e2 400 (by omega), Option.bind_some, if_pos (e3.trans hr), e4 hr]
        have h2 : spec_ReadFields.f 400 m = some (r.1, 0) := by
          unfold spec_ReadFields.f
          rw [if_neg hb, e1 400 (by omega), Option.bind_some, if_pos hr]
        have hr' : spec_l02Read.f 400 (strOfNums m) = some (r.1, true) := by rw [e1 400 (by omega), ← hr]
        obtain ⟨f1, f2, f3⟩ := whole_fwd (strOfNums m) (by rw [bySize]; omega) 400 r.1 hr'
        rw [nums_back hmb] at f3
        obtain ⟨_, hg, _⟩ := both_ok r.1 f1 f2 400 (by omega)
        rw [← f3] at hg
        rw [h1, Option.bind_some, h2, Option.bind_some, if_pos (by refine ⟨?_, ?_, ?_, ?_, ?_⟩ <;> first | trivial | rfl), if_pos rfl]
        simp only []
        rw [hg, Option.bind_some, if_pos rfl]
      · have h1 : impl_ReadFields.f 400 m = some ([], 3) := by
          unfold impl_ReadFields.f
          rw [if_neg hb, e2 400 (by omega), Option.bind_some, if_neg (fun h => hr (e3.symm.trans h))]
        have h2 : spec_ReadFields.f 400 m = some ([], 3) := by
          unfold spec_ReadFields.f
          rw [if_neg hb, e1 400 (by omega), Option.bind_some, if_neg hr]
        rw [h1, Option.bind_some, h2, Option.bind_some, if_pos (by refine ⟨?_, ?_, ?_, ?_, ?_⟩ <;> first | trivial | rfl), if_neg (by decide)]
end Go.Proofs.Ytfgnhghadghdkaa.Pure
