/- slices.Insert of one pair ahead of the end: in place, and in a new row. -/
import Derived.Test.YtifkdlcalkccaaaSSlI
namespace Go.Proofs.Ytifkdlcalkccaaa.S
open Go.RowKit Go.Proofs.YtifkdlcalkccaaaW.PrintWords Go.Proofs.YtifkdlcalkccaaaW.PrintLast Go.Proofs.YtifkdlcalkccaaaW.PrintMore
set_option linter.unusedVariables false
set_option linter.unusedSimpArgs false
theorem copy_pairs {w : World} {g o dLen dCap vb sOff sLen sCap m : Nat} {cur : Array Value} {t : TypeId} {cs : List Value} (ty : TypeId)
    (hg : w.heap[g]? = some (.cells cur t (0, 0))) (hm : Nat.min sLen dLen = m) (hn : cs.length = m * 2) (hsrc : ∀ j u, cs[j]? = some u → w.cell? ⟨vb, sOff + j, none⟩ = some u) (hfit : o + cs.length ≤ cur.size) (h1 : ∀ v ∈ cs, v.oneCell' = true) :
    (Builtin.copy_ #[25, 25] ty #[.slice (some ⟨g, o, none⟩) dLen dCap, .slice (some ⟨vb, sOff, none⟩) sLen sCap]).run Try.prog w = .ok (goInt m) (w.setRow g (seg cur.toList o cs).toArray) := by
  refine run_copy_sz w _ _ ty 50 2 g o dLen dCap ⟨vb, sOff, none⟩ sLen sCap m cur t cs Try.underlying25 ?_ hg hm hn (fun j u hj => by rw [Addr.add_lit]; exact hsrc j u hj) hfit h1
  kernel_rfl
set_option maxHeartbeats 4000000 in
set_option maxRecDepth 1000000 in
theorem insert_shift (g n cap i vb B : Nat) (xs : List Value) (cur : Array Value) (s0 s1 : ByteArray) (w : World) (hg : w.heap[g]? = some (.cells cur 50 (0, 0))) (hnc : n + 1 ≤ cap) (hcm : cap ≤ 9223372036854775807) (hs : cur.size = cap * 2) (ht : cur.toList.take (n * 2) = xs) (hl : xs.length = n * 2) (hi : i < n)
    (h1 : ∀ u ∈ xs, u.oneCell' = true) (hB : B ≤ g) (hvb : w.heap[vb]? = some (.cells #[.string s0, .string s1] 50 (0, 0))) (hne : vb ≠ g) :
    Calls Try.prog 89 #[.slice (some ⟨g, 0, none⟩) n cap, .int .i64 (i : Int), .slice (some ⟨vb, 0, none⟩) 1 1] w fun e w' =>
      ∃ v', e = .returned v' ∧ w'.ownsRow B 50 2 v' (n + 1) (xs.take (i * 2) ++ [.string s0, .string s1] ++ xs.drop (i * 2)) ∧ Below B w w' := by
  have hu := Try.underlying25
  have hd : (xs.drop (i * 2)).length = (n - i) * 2 := by rw [List.length_drop, hl]; omega
  have hcl : cur.toList.length = cap * 2 := by rw [Array.length_toList, hs]
  obtain ⟨c1, hc1⟩ : ∃ c1, c1 = (seg cur.toList ((i + 1) * 2) (xs.drop (i * 2))).toArray := ⟨_, rfl⟩
  obtain ⟨c2, hc2⟩ : ∃ c2, c2 = (seg c1.toList (i * 2) [.string s0, .string s1]).toArray := ⟨_, rfl⟩
  have s1' : c1.size = cap * 2 := by rw [hc1, List.size_toArray, seg_len _ _ _ (by omega), hcl]
  have hq2 : i * 2 + ([.string s0, .string s1] : List Value).length ≤ c1.toList.length := by have e := Array.length_toList (xs := c1); rw [s1'] at e; simp only [List.length_cons, List.length_nil]; omega
  have s2' : c2.size = cap * 2 := by rw [hc2, List.size_toArray, seg_len _ _ _ hq2, Array.length_toList, s1']
  have hres : c2.toList.take ((n + 1) * 2) = xs.take (i * 2) ++ [.string s0, .string s1] ++ xs.drop (i * 2) := by
    rw [hc2, hc1]
    exact shift_row cur.toList xs [.string s0, .string s1] n i ht hl hi rfl (by omega)
  obtain ⟨W1, hW1⟩ : ∃ W1, W1 = w.drew.setRow g c1 := ⟨_, rfl⟩
  have hg0 : w.drew.heap[g]? = some (.cells cur 50 (0, 0)) := hg
  have hg1 : W1.heap[g]? = some (.cells c1 50 (0, 0)) := by rw [hW1]; exact setRow_heap w.drew g cur c1 _ _ hg0
  have hv1 : W1.heap[vb]? = some (.cells #[.string s0, .string s1] 50 (0, 0)) := by rw [hW1, heap_setRow_ne _ _ _ _ hne]; exact hvb
  have hcpA : ∀ ty, (Builtin.copy_ #[25, 25] ty #[.slice (some ⟨g, (i + 1) * 2, none⟩) (n + 1 - (i + 1)) (cap - (i + 1)), .slice (some ⟨g, i * 2, none⟩) (n + 1 - i) (cap - i)]).run Try.prog w.drew = .ok (goInt (n - i : Nat)) W1 := fun ty => by
    rw [hW1, hc1]
    refine copy_pairs ty hg0 ?_ hd ?_ (by omega) (fun u hu => h1 u (List.mem_of_mem_drop hu))
    · simp only [Nat.min_def]; split <;> omega
    · intro j u hj
      rw [List.getElem?_drop] at hj
      exact cells_of hg0 ht _ u hj
  have hcpB : ∀ ty, (Builtin.copy_ #[25, 25] ty #[.slice (some ⟨g, i * 2, none⟩) (n + 1 - i) (cap - i), .slice (some ⟨vb, 0, none⟩) 1 1]).run Try.prog W1 = .ok (goInt (1 : Nat)) (W1.setRow g c2) := fun ty => by
    rw [hc2]
    refine copy_pairs ty hg1 ?_ rfl ?_ (by have e := Array.length_toList (xs := c1); omega) (pair_one s0 s1)
    · simp only [Nat.min_def]; split <;> omega
    · intro j u hj
      rw [Nat.zero_add]
      exact pair_cells hv1 j u hj
  have hov : ∀ lb cb, (callFunc 101 #[.slice (some ⟨vb, 0, none⟩) 1 1, .slice (some ⟨g, (i + 1) * 2, none⟩) lb cb]).run Try.prog w = .ok (.value (.bool false)) w := fun lb cb => by
    have hc0 : cur.size ≠ 0 := by omega
    rw [run_callFunc_extern Try.func101 (by kernel_rfl) (by kernel_rfl) (by kernel_rfl) (e := Extern.SlicesOverlaps.overlaps #[25, 25] #[4]) (by kernel_rfl),
      Lib.run_overlaps_apart w 25 4 50 hu 2 (fun w => by kernel_rfl) ⟨vb, 0, none⟩ ⟨g, (i + 1) * 2, none⟩ 1 1 lb cb hne 50 50 2 cur.size (by simp [World.shape?, hvb]) (by simp [World.shape?, hg]) hc0 (by simp [World.frozen?, hvb]) (by simp [World.frozen?, hvb])]
    rfl
  have HW := Aside0.mk hW1
  have HA := Aside0.mk (fun ty => copy_next (hcpA ty))
  have HBB := Aside0.mk hcpB
  have HS := Aside0.mk s2'
  have HR := Aside0.mk hres
  have HL := Aside0.mk hl
  have HG := Aside0.mk hg1
  clear hq2 hcl hd hc1 hc2 s1' s2' hres hW1 hg0 hg1 hv1 hcpA hcpB hl ht hs h1 hvb hg
  have hw1 : IntKind.i64.wrap ((i : Int) + 1) = (i : Int) + 1 := by rw [IntKind.wrap_i64]; omega
  have hb1 : (0 : Int) ≤ (i : Int) + 1 := by omega
  have htn : ((i : Int) + 1).toNat = i + 1 := by omega
  have hz2 : ¬ ((i : Int) = (n : Int)) := by omega
  have hz3 : ¬ ((cap : Int) < (n : Int) + 1) := by omega
  have hin : i ≤ n := by omega
  have hb2 : ¬ (cap = i + 1) := by omega
  have hb3 : (i : Int) ≤ (n : Int) := by omega
  have hb4 : ¬ (cap = i) := by omega
  have hb5 : ¬ (n = i) := by omega
  have hb6 : (i : Int) ≤ (n : Int) + 1 := by omega
  have hb7 : (n : Int) + 1 ≤ (cap : Int) := by omega
  have hb8 : (i : Int) + 1 ≤ (n : Int) + 1 := by omega
  go_enter Try.func89, Try.ntmps89
  go_wp2_with (simp only [hov])
  go_region_law (refine step_builtin_run .copy _ _ rfl rfl #[.slice (some ⟨g, (i + 1) * 2, none⟩) (n + 1 - (i + 1)) (cap - (i + 1)), .slice (some ⟨g, i * 2, none⟩) (n + 1 - i) (cap - i)] (by simp [Act.eval, Act.put]) (HA.out _) ?_)
  have hcp := HBB.out
  go_wp2
  go_ret
  refine ⟨_, rfl, ⟨?_, .inr ⟨g, cap, c2, rfl, hB, setRow_heap W1 g _ c2 _ _ HG.out, hnc, by unfold maxLen; omega, HS.out, HR.out⟩⟩, ?_⟩
  · have := HL.out
    simp only [List.length_append, List.length_take, List.length_drop, List.length_cons, List.length_nil, this]
    omega
  · refine below_setRow ?_ g c2 hB
    rw [HW.out]
    exact below_setRow (Below.drew (Below.refl _ _)) g c1 hB
set_option maxHeartbeats 4000000 in
set_option maxRecDepth 1000000 in
theorem insert_grow (g n cap i vb B : Nat) (xs : List Value) (cur : Array Value) (s0 s1 : ByteArray) (w : World) (hg : w.heap[g]? = some (.cells cur 50 (0, 0))) (hnc : n ≤ cap) (hroom : cap < n + 1) (hb : (n + 1) * 32 ≤ 140737488355328) (ht : cur.toList.take (n * 2) = xs) (hl : xs.length = n * 2) (hi : i < n)
    (h1 : ∀ u ∈ xs, u.oneCell' = true) (hB : B ≤ w.heap.size) (hvb : w.heap[vb]? = some (.cells #[.string s0, .string s1] 50 (0, 0))) :
    Calls Try.prog 89 #[.slice (some ⟨g, 0, none⟩) n cap, .int .i64 (i : Int), .slice (some ⟨vb, 0, none⟩) 1 1] w fun e w' =>
      ∃ v', e = .returned v' ∧ w'.ownsRow B 50 2 v' (n + 1) (xs.take (i * 2) ++ [.string s0, .string s1] ++ xs.drop (i * 2)) ∧ Below B w w' := by
  have hu := Try.underlying25
  have hui := Try.underlying3
  obtain ⟨i0, hi0, hzz⟩ := Option.map_eq_some_iff.1 info50
  simp only [Prod.mk.injEq] at hzz
  obtain ⟨hz0, hz1, hz2⟩ := hzz
  have hd : (xs.drop (i * 2)).length = (n - i) * 2 := by rw [List.length_drop, hl]; omega
  have htl : (xs.take (i * 2)).length = i * 2 := by rw [List.length_take, hl]; omega
  have hgw : g < w.heap.size := (Array.getElem?_eq_some_iff.1 hg).1
  have hvw : vb < w.heap.size := (Array.getElem?_eq_some_iff.1 hvb).1
  have hik : i + (n + 1 - i) = n + 1 := by omega
  have hcells := cells_of hg ht
  have hold : (Builtin.firstCells i0.size i (.slice (some ⟨g, 0, none⟩) i cap)).run Try.prog w.drew = .ok (xs.take (i * 2)).toArray w.drew := by
    rw [hz1]
    exact run_firstCells_some w.drew 2 i ⟨g, 0, none⟩ i cap (xs.take (i * 2)) htl (fun j v hj => by
      rw [Addr.add_lit, Nat.zero_add]
      rw [List.getElem?_take] at hj
      split at hj
      · exact hcells j v hj
      · cases hj)
  have hz := fun ty => Lib.run_append_grow_zeros w 25 3 ty 50 i0 _ .i64 .i64 hu hui hi0 hz0 (some ⟨g, 0, none⟩) i cap (xs.take (i * 2)) hold (n + 1 - i) (by omega) (by omega) (by omega) (by omega) (by rw [hz2]; omega) (by rw [hz2, hik]; exact growslice_fits hroom hb)
  rw [hik] at hz
  obtain ⟨G, hG⟩ : ∃ G, G = grownCap w (n + 1) cap 50 := ⟨_, rfl⟩
  have hGn : n + 1 ≤ G := by rw [hG]; exact grownCap_ge w _ _ _
  have hG63 : G ≤ 9223372036854775807 := by
    have := grownCap_le_maxLen w (n + 1) cap 50 (by unfold maxLen; omega)
    rw [← hG] at this
    unfold maxLen at this
    omega
  rw [← hG] at hz
  obtain ⟨Z, hZ⟩ : ∃ Z : List Value, Z = (Builtin.zeroCells (Value.agg #[.string ⟨#[]⟩, .string ⟨#[]⟩]).cells (n + 1 - i)).toList ++ (Builtin.zeroCells (Value.agg #[.string ⟨#[]⟩, .string ⟨#[]⟩]).cells (G - (n + 1))).toList := ⟨_, rfl⟩
  have hzc : (Value.agg #[.string (⟨#[]⟩ : ByteArray), .string (⟨#[]⟩ : ByteArray)]).cells.size = 2 := by kernel_rfl
  have hZl : Z.length = (n + 1 - i) * 2 + (G - (n + 1)) * 2 := by
    rw [hZ, List.length_append, Array.length_toList, Array.length_toList]
    simp only [Builtin.zeroCells, Array.size_map, Array.size_range, hzc]
  obtain ⟨ROW, hROW⟩ : ∃ ROW : Array Value, ROW = (xs.take (i * 2) ++ Z).toArray := ⟨_, rfl⟩
  have hRe : (xs.take (i * 2)).toArray ++ Builtin.zeroCells (Value.agg #[.string ⟨#[]⟩, .string ⟨#[]⟩]).cells (n + 1 - i) ++ Builtin.zeroCells (Value.agg #[.string ⟨#[]⟩, .string ⟨#[]⟩]).cells (G - (n + 1)) = ROW := by
    rw [hROW, hZ]
    apply Array.ext'
    simp
  rw [hRe] at hz
  have hRl : ROW.size = G * 2 := by rw [hROW, List.size_toArray, List.length_append, htl, hZl]; omega
  have hRt : ROW.toList = xs.take (i * 2) ++ Z := by rw [hROW]
  obtain ⟨W1, hW1⟩ : ∃ W1, W1 = w.drew.alloc (.cells ROW 50) := ⟨_, rfl⟩
  rw [← hW1] at hz
  obtain ⟨N, hN⟩ : ∃ N, N = w.heap.size := ⟨_, rfl⟩
  rw [← hN] at hz
  have hh1 : W1.heap[N]? = some (.cells ROW 50 (0, 0)) := by rw [hW1, hN]; exact heap_alloc_new w.drew _
  have hv1 : W1.heap[vb]? = some (.cells #[.string s0, .string s1] 50 (0, 0)) := by rw [hW1]; exact (heap_alloc_old w.drew _ hvw).trans hvb
  have hg1 : W1.heap[g]? = some (.cells cur 50 (0, 0)) := by rw [hW1]; exact (heap_alloc_old w.drew _ hgw).trans hg
  obtain ⟨c2, hc2⟩ : ∃ c2, c2 = (seg ROW.toList (i * 2) [.string s0, .string s1]).toArray := ⟨_, rfl⟩
  have hq2 : i * 2 + ([.string s0, .string s1] : List Value).length ≤ ROW.toList.length := by have e := Array.length_toList (xs := ROW); rw [hRl] at e; simp only [List.length_cons, List.length_nil]; omega
  have s2' : c2.size = G * 2 := by rw [hc2, List.size_toArray, seg_len _ _ _ hq2, Array.length_toList, hRl]
  obtain ⟨c3, hc3⟩ : ∃ c3, c3 = (seg c2.toList ((i + 1) * 2) (xs.drop (i * 2))).toArray := ⟨_, rfl⟩
  have hq3 : (i + 1) * 2 + (xs.drop (i * 2)).length ≤ c2.toList.length := by have e := Array.length_toList (xs := c2); rw [s2'] at e; omega
  have s3' : c3.size = G * 2 := by rw [hc3, List.size_toArray, seg_len _ _ _ hq3, Array.length_toList, s2']
  have hres : c3.toList.take ((n + 1) * 2) = xs.take (i * 2) ++ [.string s0, .string s1] ++ xs.drop (i * 2) := by
    rw [hc3, hc2, hRt]
    exact grow_row Z xs [.string s0, .string s1] n i hl hi rfl (by omega)
  obtain ⟨W2, hW2⟩ : ∃ W2, W2 = W1.setRow N c2 := ⟨_, rfl⟩
  obtain ⟨W3, hW3⟩ : ∃ W3, W3 = W2.drew.setRow N c3 := ⟨_, rfl⟩
  have hh2 : W2.heap[N]? = some (.cells c2 50 (0, 0)) := by rw [hW2]; exact setRow_heap W1 N ROW c2 _ _ hh1
  have hh3 : W3.heap[N]? = some (.cells c3 50 (0, 0)) := by rw [hW3]; exact setRow_heap W2.drew N c2 c3 _ _ hh2
  have hg2 : W2.heap[g]? = some (.cells cur 50 (0, 0)) := by rw [hW2, heap_setRow_ne _ _ _ _ (by omega)]; exact hg1
  have hcpA : ∀ ty, (Builtin.copy_ #[25, 25] ty #[.slice (some ⟨N, i * 2, none⟩) (n + 1 - i) (G - i), .slice (some ⟨vb, 0, none⟩) 1 1]).run Try.prog W1 = .ok (goInt (1 : Nat)) W2 := fun ty => by
    rw [hW2, hc2]
    refine copy_pairs ty hh1 ?_ rfl ?_ (by have e := Array.length_toList (xs := ROW); omega) (pair_one s0 s1)
    · simp only [Nat.min_def]; split <;> omega
    · intro j u hj
      rw [Nat.zero_add]
      exact pair_cells hv1 j u hj
  have hcpB : ∀ ty, (Builtin.copy_ #[25, 25] ty #[.slice (some ⟨N, (i + 1) * 2, none⟩) (n + 1 - (i + 1)) (G - (i + 1)), .slice (some ⟨g, i * 2, none⟩) (n - i) (cap - i)]).run Try.prog W2.drew = .ok (goInt (n - i : Nat)) W3 := fun ty => by
    rw [hW3, hc3]
    refine copy_pairs ty hh2 ?_ hd ?_ (by have e := Array.length_toList (xs := c2); omega) (fun u hu => h1 u (List.mem_of_mem_drop hu))
    · simp only [Nat.min_def]; split <;> omega
    · intro j u hj
      rw [List.getElem?_drop] at hj
      exact cells_of (w := W2.drew) hg2 ht _ u hj
  have hkk : (n : Int) + 1 - (i : Int) = ((n + 1 - i : Nat) : Int) := by omega
  have hBW : Below B w W3 := by
    rw [hW3]
    refine below_setRow (Below.drew ?_) N c3 (by omega)
    rw [hW2]
    refine below_setRow ?_ N c2 (by omega)
    rw [hW1]
    exact Below.alloc (Below.drew (Below.refl _ _)) hB _
  have hrz : ∀ ty, (Builtin.append_ #[25, 3] ty #[.slice (some ⟨g, 0, none⟩) i cap, .int .i64 ((n : Int) + 1 - (i : Int))]).run Try.prog w = .ok (.slice (some ⟨N, 0, none⟩) (n + 1) G) W1 := fun ty => by
    rw [hkk]; exact hz ty
  have HZ := Aside0.mk hrz
  have HA := Aside0.mk hcpA
  have HBB := Aside0.mk (fun ty => copy_next (hcpB ty))
  have HBW := Aside0.mk hBW
  have HS := Aside0.mk s3'
  have HR := Aside0.mk hres
  have HL := Aside0.mk hl
  have HH := Aside0.mk hh3
  have hBN : B ≤ N := by omega
  clear hkk hrz hcpA hcpB hBW s3' hres hl hh3 hh2 hg2 hg1 hv1 hh1 hW1 hW2 hW3 hc2 hc3 hq2 hq3 s2' hRt hRl hRe hROW hZl hzc hZ hz hold hcells hG hik hd htl ht h1 hvb hg hN
  have hw1 : IntKind.i64.wrap ((i : Int) + 1) = (i : Int) + 1 := by rw [IntKind.wrap_i64]; omega
  have hb1 : (0 : Int) ≤ (i : Int) + 1 := by omega
  have htn : ((i : Int) + 1).toNat = i + 1 := by omega
  have hz2' : ¬ ((i : Int) = (n : Int)) := by omega
  have hz3 : (cap : Int) < (n : Int) + 1 := by omega
  have hin : i ≤ n := by omega
  have hGi : ¬ (G = i) := by omega
  have hGim : ¬ (G = i + 1) := by omega
  have hci : ¬ (cap = i) := by omega
  have hb3 : (i : Int) ≤ (n : Int) := by omega
  have hb6 : (i : Int) ≤ (n : Int) + 1 := by omega
  have hb8 : (i : Int) + 1 ≤ (n : Int) + 1 := by omega
  have hcp := HA.out
  go_enter Try.func89, Try.ntmps89
  go_wp2_with (at_builtin; refine Lib.wpList_append_run _ rfl _ _ _ _ rfl _ _ rfl rfl _ _ (HZ.out _) ?_)
  go_region_law (refine step_builtin_run .copy _ _ rfl rfl #[.slice (some ⟨N, (i + 1) * 2, none⟩) (n + 1 - (i + 1)) (G - (i + 1)), .slice (some ⟨g, i * 2, none⟩) (n - i) (cap - i)] (by simp [Act.eval, Act.put]) (HBB.out _) ?_)
  go_wp2
  go_ret
  refine ⟨_, rfl, ⟨?_, .inr ⟨N, G, c3, rfl, hBN, HH.out, hGn, by unfold maxLen; omega, HS.out, HR.out⟩⟩, HBW.out⟩
  have := HL.out
  simp only [List.length_append, List.length_take, List.length_drop, List.length_cons, List.length_nil, this]
  omega
end Go.Proofs.Ytifkdlcalkccaaa.S
