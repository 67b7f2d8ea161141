/- slices.Delete of one pair, in memory of the call's own. -/
import Derived.Test.YtifkdlcalkccaaaSSlB
import Derived.Outline
namespace Go.Proofs.Ytifkdlcalkccaaa.S
open Go.RowKit Go.Proofs.YtifkdlcalkccaaaW.PrintWords Go.Proofs.YtifkdlcalkccaaaW.PrintLast Go.Proofs.YtifkdlcalkccaaaW.PrintMore
set_option linter.unusedVariables false
set_option linter.unusedSimpArgs false
theorem zeroPair : ∀ w, (zeroValue 50).run Try.prog w = .ok (.agg #[.string ⟨#[]⟩, .string ⟨#[]⟩]) w := by intro w; kernel_rfl
/-- A row of which one element is taken out. -/
theorem cut_row (cur : Array Value) (xs zs : List Value) (n i cap : Nat) (hs : cur.size = cap * 2) (ht : cur.toList.take (n * 2) = xs) (hl : xs.length = n * 2) (hi : i < n) (hz : zs.length = 2)
    (c1 c2 : Array Value) (h1 : c1 = (cur.toList.take (i * 2) ++ xs.drop ((i + 1) * 2) ++ cur.toList.drop (i * 2 + (xs.drop ((i + 1) * 2)).length)).toArray)
    (h2 : c2 = (c1.toList.take ((n - 1) * 2) ++ zs ++ c1.toList.drop ((n - 1) * 2 + zs.length)).toArray) : c2.size = cap * 2 ∧ c1.size = cap * 2 ∧ c2.toList.take ((n - 1) * 2) = xs.take (i * 2) ++ xs.drop ((i + 1) * 2) := by
  have hd : (xs.drop ((i + 1) * 2)).length = (n - 1 - i) * 2 := by rw [List.length_drop, hl]; omega
  have hc : cur.toList.length = cap * 2 := by rw [Array.length_toList, hs]
  have hnc : n * 2 ≤ cap * 2 := by
    have : (cur.toList.take (n * 2)).length = n * 2 := by rw [ht, hl]
    rw [List.length_take, hc] at this
    omega
  have l1 : c1.size = cap * 2 := by
    rw [h1]
    simp only [List.size_toArray, List.length_append, List.length_take, List.length_drop, hc, hl]
    omega
  have hx : xs.take (i * 2) = cur.toList.take (i * 2) := by rw [← ht, List.take_take, Nat.min_eq_left (by omega)]
  refine ⟨?_, l1, ?_⟩
  · rw [h2]
    simp only [List.size_toArray, List.length_append, List.length_take, List.length_drop, Array.length_toList, l1, hz]
    omega
  · rw [h2]
    simp only [List.append_assoc]
    rw [List.take_append_of_le_length (by rw [List.length_take, Array.length_toList, l1]; omega), List.take_take, Nat.min_self, h1, hx]
    simp only [List.append_assoc]
    rw [← List.append_assoc, List.take_append_of_le_length (by rw [List.length_append, List.length_take, hc, hd]; omega), List.take_of_length_le (by rw [List.length_append, List.length_take, hc, hd]; omega)]
set_option maxHeartbeats 4000000 in
set_option maxRecDepth 1000000 in
theorem delete_calls (g n cap i B : Nat) (xs : List Value) (cur : Array Value) (w : World) (hg : w.heap[g]? = some (.cells cur 50 (0, 0))) (hnc : n ≤ cap) (hcm : cap ≤ 9223372036854775807) (hs : cur.size = cap * 2) (ht : cur.toList.take (n * 2) = xs) (hl : xs.length = n * 2) (hi : i < n)
    (h1 : ∀ u ∈ xs, u.oneCell' = true) (hB : B ≤ g) :
    Calls Try.prog 88 #[.slice (some ⟨g, 0, none⟩) n cap, .int .i64 (i : Int), .int .i64 ((i : Int) + 1)] w fun e w' =>
      e = .returned (.slice (some ⟨g, 0, none⟩) (n - 1) cap) ∧ w'.ownsRow B 50 2 (.slice (some ⟨g, 0, none⟩) (n - 1) cap) (n - 1) (xs.take (i * 2) ++ xs.drop ((i + 1) * 2)) ∧ Below B w w' := by
  have hu := Try.underlying25
  obtain ⟨i0, hi0, hzz⟩ := Option.map_eq_some_iff.1 info50
  simp only [Prod.mk.injEq] at hzz
  obtain ⟨hz0, hz1, hz2⟩ := hzz
  have HU := Aside0.mk hu
  obtain ⟨c1, hc1⟩ : ∃ c1, c1 = (cur.toList.take (i * 2) ++ xs.drop ((i + 1) * 2) ++ cur.toList.drop (i * 2 + (xs.drop ((i + 1) * 2)).length)).toArray := ⟨_, rfl⟩
  obtain ⟨zs, hzs⟩ : ∃ zs : List Value, zs = [.string ⟨#[]⟩, .string ⟨#[]⟩] := ⟨_, rfl⟩
  have hzl : zs.length = 2 := by rw [hzs]; rfl
  obtain ⟨c2, hc2⟩ : ∃ c2, c2 = (c1.toList.take ((n - 1) * 2) ++ zs ++ c1.toList.drop ((n - 1) * 2 + zs.length)).toArray := ⟨_, rfl⟩
  obtain ⟨r1, r2, r3⟩ := cut_row cur xs zs n i cap hs ht hl hi hzl c1 c2 hc1 hc2
  have hd : (xs.drop ((i + 1) * 2)).length = (n - 1 - i) * 2 := by rw [List.length_drop, hl]; omega
  -- the world behind the append
  obtain ⟨W1, hW1⟩ : ∃ W1, W1 = w.drew.setRow g c1 := ⟨_, rfl⟩
  have hg0 : w.drew.heap[g]? = some (.cells cur 50 (0, 0)) := hg
  have hg1 : W1.heap[g]? = some (.cells c1 50 (0, 0)) := by rw [hW1]; exact setRow_heap w.drew g cur c1 _ _ hg0
  have hcell : ∀ j u, xs[j]? = some u → w.drew.cell? ⟨g, j, none⟩ = some u := fun j u hj => by
    rw [cell_of_row w.drew g j cur _ (0, 0) hg0]
    rw [← ht, List.getElem?_take] at hj
    split at hj
    · simpa using hj
    · cases hj
  obtain ⟨A, hA, hsrc⟩ : ∃ A : Addr, (if cap = i + 1 then (some ⟨g, 0, none⟩ : Option Addr) else some ⟨g, (i + 1) * 2, none⟩) = some A ∧ Aside0 (∀ j u, (xs.drop ((i + 1) * 2))[j]? = some u → w.drew.cell? (A.add j) = some u) := by
    by_cases h : cap = i + 1
    · refine ⟨⟨g, 0, none⟩, by rw [if_pos h], ⟨fun j u hj => ?_⟩⟩
      have : xs.drop ((i + 1) * 2) = [] := List.eq_nil_of_length_eq_zero (by omega)
      rw [this] at hj
      cases hj
    · refine ⟨⟨g, (i + 1) * 2, none⟩, by rw [if_neg h], ⟨fun j u hj => ?_⟩⟩
      rw [List.getElem?_drop] at hj
      rw [Addr.add_lit]
      exact hcell _ u hj
  have hap := fun ty => append_next (run_append_room w.drew 25 ty 50 i0 hu hi0 g i cap cur hg0 A (n - (i + 1)) (cap - (i + 1)) (xs.drop ((i + 1) * 2)) (by rw [hz1, hd]; omega) hsrc.out (fun u hj => h1 u (List.mem_of_mem_drop hj)) (by omega) (by rw [hz1, hd, hs]; omega))
  have hcl := fun ty => (run_clear_one W1 25 50 ty (.agg #[.string ⟨#[]⟩, .string ⟨#[]⟩]) hu zeroPair zs (by rw [hzs]; kernel_rfl) (by rw [hzs]; intro v hv; simp at hv; subst hv; rfl) g ((n - 1) * 2) (cap - (n - 1)) c1 50 hg1 (by rw [hzl, r2]; omega))
  rw [hz1, ← hc1, ← hW1] at hap
  rw [← hc2] at hcl
  have ein : i + (n - (i + 1)) = n - 1 := by omega
  have hcl' : ∀ ty, (Builtin.clear_ #[25] ty #[.slice (some ⟨g, (i + (n - (i + 1))) * 2, none⟩) (n - (i + (n - (i + 1)))) (cap - (i + (n - (i + 1))))]).run Try.prog W1 = .ok (.tuple #[]) (W1.setRow g c2) := fun ty => by
    rw [ein, show n - (n - 1) = 1 by omega]
    exact hcl ty
  have HW := Aside0.mk hW1
  have HAP := Aside0.mk hap
  have HCL := Aside0.mk hcl'
  have EIN := Aside0.mk ein
  have HL := Aside0.mk hl
  have R1 := Aside0.mk r1
  have R3 := Aside0.mk r3
  clear r1 r2 r3 hc1 hc2 hcell hg0 hd hs ht hl hap hcl hcl' hW1 ein hzs hzl
  have hw1 : IntKind.i64.wrap ((i : Int) + 1) = (i : Int) + 1 := by rw [IntKind.wrap_i64]; omega
  have hb1 : (0 : Int) ≤ (i : Int) + 1 := by omega
  have htn : ((i : Int) + 1).toNat = i + 1 := by omega
  have hb2 : (i : Int) + 1 ≤ (n : Int) := by omega
  have hb3 : (i : Int) ≤ (i : Int) + 1 := by omega
  have hb4 : (n : Int) ≤ (cap : Int) := by omega
  have hne : ¬ ((i : Int) = (i : Int) + 1) := by omega
  have hic : i ≤ cap := by omega
  go_enter Try.func88, Try.ntmps88
  go_wp2_with fail
  go_region_law (refine step_builtin_run .append _ _ rfl rfl #[.slice (some ⟨g, 0, none⟩) i cap, .slice (some A) (n - (i + 1)) (cap - (i + 1))] (by simp [Act.eval, Act.put]) (HAP.out _) ?_)
  have hcl2 := HCL.out
  go_wp2
  go_ret
  refine ⟨by show Ending.returned (.slice (some ⟨g, 0, none⟩) (i + (n - (i + 1))) cap) = _; rw [EIN.out], ⟨by rw [List.length_append, List.length_take, List.length_drop, HL.out]; omega, .inr ⟨g, cap, c2, rfl, hB, setRow_heap W1 g c1 c2 _ _ hg1, by omega, by unfold maxLen; omega, R1.out, R3.out⟩⟩, ?_⟩
  refine below_setRow ?_ g c2 hB
  rw [HW.out]
  exact below_setRow (Below.drew (Below.refl _ _)) g c1 hB
end Go.Proofs.Ytifkdlcalkccaaa.S
