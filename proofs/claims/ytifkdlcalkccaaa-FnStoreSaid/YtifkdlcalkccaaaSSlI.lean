/- slices.Insert of one pair, in memory of the call's own. -/
import Derived.Test.YtifkdlcalkccaaaSSlB
import Derived.Outline
namespace Go.Proofs.Ytifkdlcalkccaaa.S
open Go.RowKit Go.Proofs.YtifkdlcalkccaaaW.PrintWords Go.Proofs.YtifkdlcalkccaaaW.PrintLast Go.Proofs.YtifkdlcalkccaaaW.PrintMore
set_option linter.unusedVariables false
set_option linter.unusedSimpArgs false
def seg (l : List Value) (o : Nat) (cs : List Value) : List Value := l.take o ++ cs ++ l.drop (o + cs.length)
theorem seg_len (l : List Value) (o : Nat) (cs : List Value) (h : o + cs.length ≤ l.length) : (seg l o cs).length = l.length := by
  unfold seg
  simp only [List.length_append, List.length_take, List.length_drop]
  omega
theorem seg_take (l : List Value) (o k : Nat) (cs : List Value) (hk : k ≤ o) (h : o ≤ l.length) : (seg l o cs).take k = l.take k := by
  unfold seg
  rw [List.append_assoc, List.take_append_of_le_length (by rw [List.length_take]; omega), List.take_take, Nat.min_eq_left hk]
theorem seg_upto (l : List Value) (o : Nat) (cs : List Value) (h : o ≤ l.length) : (seg l o cs).take (o + cs.length) = l.take o ++ cs := by
  unfold seg
  rw [List.take_append_of_le_length (by rw [List.length_append, List.length_take]; omega), List.take_of_length_le (by rw [List.length_append, List.length_take]; omega)]
theorem seg_drop (l : List Value) (o : Nat) (cs : List Value) (h : o ≤ l.length) : (seg l o cs).drop o = cs ++ l.drop (o + cs.length) := by
  unfold seg
  rw [List.append_assoc, List.drop_append_of_le_length (by rw [List.length_take]; omega), List.drop_eq_nil_of_le (by rw [List.length_take]; omega), List.nil_append]
/-- What the two copies leave, in place. -/
theorem shift_row (cur xs vs : List Value) (n i : Nat) (hx : cur.take (n * 2) = xs) (hl : xs.length = n * 2) (hi : i < n) (hv : vs.length = 2) (hc : (n + 1) * 2 ≤ cur.length) :
    (seg (seg cur ((i + 1) * 2) (xs.drop (i * 2))) (i * 2) vs).take ((n + 1) * 2) = xs.take (i * 2) ++ vs ++ xs.drop (i * 2) := by
  have hd : (xs.drop (i * 2)).length = (n - i) * 2 := by rw [List.length_drop, hl]; omega
  have e1 : (seg cur ((i + 1) * 2) (xs.drop (i * 2))).take (i * 2) = xs.take (i * 2) := by
    rw [seg_take _ _ _ _ (by omega) (by omega), ← hx, List.take_take, Nat.min_eq_left (by omega)]
  have e2 : (seg cur ((i + 1) * 2) (xs.drop (i * 2))).drop (i * 2 + vs.length) = xs.drop (i * 2) ++ cur.drop ((i + 1) * 2 + (xs.drop (i * 2)).length) := by
    rw [hv, show i * 2 + 2 = (i + 1) * 2 by omega, seg_drop _ _ _ (by omega)]
  rw [show seg (seg cur ((i + 1) * 2) (xs.drop (i * 2))) (i * 2) vs = (seg cur ((i + 1) * 2) (xs.drop (i * 2))).take (i * 2) ++ vs ++ (seg cur ((i + 1) * 2) (xs.drop (i * 2))).drop (i * 2 + vs.length) from rfl, e1, e2, ← List.append_assoc, List.take_append_of_le_length (by simp only [List.length_append, List.length_take, hd, hv, hl]; omega), List.take_of_length_le (by simp only [List.length_append, List.length_take, hd, hv, hl]; omega)]
/-- .. and in a new row. -/
theorem grow_row (zs xs vs : List Value) (n i : Nat) (hl : xs.length = n * 2) (hi : i < n) (hv : vs.length = 2) (hz : (n + 1 - i) * 2 ≤ zs.length) :
    (seg (seg (xs.take (i * 2) ++ zs) (i * 2) vs) ((i + 1) * 2) (xs.drop (i * 2))).take ((n + 1) * 2) = xs.take (i * 2) ++ vs ++ xs.drop (i * 2) := by
  have hd : (xs.drop (i * 2)).length = (n - i) * 2 := by rw [List.length_drop, hl]; omega
  have ht : (xs.take (i * 2)).length = i * 2 := by rw [List.length_take, hl]; omega
  have hr : (xs.take (i * 2) ++ zs).length = i * 2 + zs.length := by rw [List.length_append, ht]
  have e0 : (xs.take (i * 2) ++ zs).take (i * 2) = xs.take (i * 2) := List.take_left' ht
  have e1 : (seg (xs.take (i * 2) ++ zs) (i * 2) vs).take ((i + 1) * 2) = xs.take (i * 2) ++ vs := by
    rw [show (i + 1) * 2 = i * 2 + vs.length by omega, seg_upto _ _ _ (by omega), e0]
  have hs := seg_len (xs.take (i * 2) ++ zs) (i * 2) vs (by omega)
  have := seg_upto (seg (xs.take (i * 2) ++ zs) (i * 2) vs) ((i + 1) * 2) (xs.drop (i * 2)) (by omega)
  rw [show (n + 1) * 2 = (i + 1) * 2 + (xs.drop (i * 2)).length by omega, this, e1]
theorem cells_of {w : World} {g : Nat} {cur : Array Value} {t : TypeId} {xs : List Value} {k : Nat} (hg : w.heap[g]? = some (.cells cur t (0, 0))) (ht : cur.toList.take k = xs) : ∀ j u, xs[j]? = some u → w.cell? ⟨g, j, none⟩ = some u := fun j u hj => by
  rw [cell_of_row w g j cur _ (0, 0) hg]
  rw [← ht, List.getElem?_take] at hj
  split at hj
  · simpa using hj
  · cases hj
theorem pair_cells {w : World} {vb : Nat} {t : TypeId} {s0 s1 : ByteArray} (h : w.heap[vb]? = some (.cells #[.string s0, .string s1] t (0, 0))) : ∀ j u, ([.string s0, .string s1] : List Value)[j]? = some u → w.cell? ⟨vb, j, none⟩ = some u := fun j u hj => by
  rw [cell_of_row w vb j _ _ (0, 0) h]
  simpa using hj
theorem pair_one (s0 s1 : ByteArray) : ∀ u ∈ ([.string s0, .string s1] : List Value), u.oneCell' = true := by
  intro v hv; simp at hv; rcases hv with rfl | rfl <;> rfl

set_option maxHeartbeats 4000000 in
set_option maxRecDepth 1000000 in
theorem insert_end (v : Value) (n vb B : Nat) (xs : List Value) (s0 s1 : ByteArray) (w : World) (hown : w.ownsRow B 50 2 v n xs) (hb : (n + 1) * 32 ≤ 140737488355328)
    (hvb : w.heap[vb]? = some (.cells #[.string s0, .string s1] 50 (0, 0))) (hB : B ≤ w.heap.size) :
    Calls Try.prog 89 #[v, .int .i64 (n : Int), .slice (some ⟨vb, 0, none⟩) 1 1] w fun e w' =>
      ∃ v', e = .returned v' ∧ w'.ownsRow B 50 2 v' (n + 1) (xs ++ [.string s0, .string s1]) ∧ Below B w w' := by
  have hu := Try.underlying25
  obtain ⟨i0, hi0, hzz⟩ := Option.map_eq_some_iff.1 info50
  simp only [Prod.mk.injEq] at hzz
  obtain ⟨hz0, hz1, hz2⟩ := hzz
  have HO := Aside0.mk hown
  have HV := Aside0.mk (pair_cells hvb)
  have hbase := own_base hown
  have hsl : ∃ A c, v = .slice A n c ∧ n ≤ c ∧ (A = none → n = 0) ∧ c ≤ 9223372036854775807 ∧ ∀ a, A = some a → ∃ g, a = ⟨g, 0, none⟩ := by
    rcases hown.2 with ⟨rfl, rfl⟩ | ⟨g, cap, cur, rfl, _, _, h1, h2, _⟩
    · exact ⟨none, 0, rfl, Nat.le_refl _, fun _ => rfl, by omega, fun a h => by cases h⟩
    · exact ⟨_, cap, rfl, h1, fun h => (by cases h), by simpa [maxLen] using h2, fun a h => ⟨g, by injection h with h; exact h.symm⟩⟩
  obtain ⟨A, c, rfl, hnc, hA, hcm, hAg⟩ := hsl
  have HBS := Aside0.mk hbase
  clear hown hvb hbase
  cases A with
  | none =>
    obtain rfl := hA rfl
    clear hA hAg
    go_enter Try.func89, Try.ntmps89
    go_wp2_with (at_builtin; refine wpList_append_own _ rfl _ _ 25 rfl B 50 i0 _ 2 32 hu hi0 hz0 hz1 hz2 rfl (by decide) _ 0 xs rfl HO.out ⟨vb, 0, none⟩ 1 1 [.string s0, .string s1] rfl rfl ?c1 (pair_one s0 s1) ?c3 ?c4 hB ?_)
    case c1 => exact fun j u hj => by first | exact HV.out j u hj | (rw [Addr.add_lit, Nat.zero_add]; exact HV.out j u hj)
    try (case c3 => unfold maxLen; omega)
    try (case c4 => exact hb)
    intro v' w1 hown1 hgrow _
    go_wp2
    go_ret
    exact ⟨v', rfl, hown1, (Below.refl _ w).grown hgrow hB HBS.out⟩
  | some a =>
    obtain ⟨g, rfl⟩ := hAg a rfl
    clear hA hAg
    by_cases hcn : c = n
    · obtain rfl : n = c := hcn.symm
      go_enter Try.func89, Try.ntmps89
      go_wp2_with (at_builtin; refine wpList_append_own _ rfl _ _ 25 rfl B 50 i0 _ 2 32 hu hi0 hz0 hz1 hz2 rfl (by decide) _ n xs rfl HO.out ⟨vb, 0, none⟩ 1 1 [.string s0, .string s1] rfl rfl ?c1 (pair_one s0 s1) ?c3 ?c4 hB ?_)
      case c1 => exact fun j u hj => by first | exact HV.out j u hj | (rw [Addr.add_lit, Nat.zero_add]; exact HV.out j u hj)
      try (case c3 => unfold maxLen; omega)
      try (case c4 => exact hb)
      intro v' w1 hown1 hgrow _
      go_wp2
      go_ret
      exact ⟨v', rfl, hown1, (Below.refl _ w).grown hgrow hB HBS.out⟩
    · have hcn' : ¬ n = c := fun h => hcn h.symm
      go_enter Try.func89, Try.ntmps89
      go_wp2_with (at_builtin; refine wpList_append_own _ rfl _ _ 25 rfl B 50 i0 _ 2 32 hu hi0 hz0 hz1 hz2 rfl (by decide) _ n xs rfl HO.out ⟨vb, 0, none⟩ 1 1 [.string s0, .string s1] rfl rfl ?d1 (pair_one s0 s1) ?d3 ?d4 hB ?_)
      case d1 => exact fun j u hj => by first | exact HV.out j u hj | (rw [Addr.add_lit, Nat.zero_add]; exact HV.out j u hj)
      try (case d3 => unfold maxLen; omega)
      try (case d4 => exact hb)
      intro v' w1 hown1 hgrow _
      go_wp2
      go_ret
      exact ⟨v', rfl, hown1, (Below.refl _ w).grown hgrow hB HBS.out⟩
end Go.Proofs.Ytifkdlcalkccaaa.S
