/- Rows of bytes that a conversion of a text has made: their block bears a mark behind its last cell. -/
import Derived.Test.YtfgnhghadghdkaaProg
import Derived.Test.YtfgnhghadghdkaaWMore
import Derived.Test.YtfgnhghadghdkaaG0
import Derived.WalkKit
import Derived.Lib.Walk
import Derived.Lib.ConvBytes
import Derived.Laws.CopyRow
import Derived.Deep.LoopGhost
import Derived.Deep.Draws
namespace Go.Proofs.Ytfgnhghadghdkaa.G
open Go.RowKit Go.Proofs.YtfgnhghadghdkaaW.PrintWords Go.Proofs.YtfgnhghadghdkaaW.PrintLast Go.Proofs.YtfgnhghadghdkaaW.PrintMore
set_option linter.unusedVariables false
set_option linter.unusedSimpArgs false
def MB (W : World) (base : Nat) (v : Value) (l : List Int) : Prop :=
  (v = .slice none 0 0 ∧ l = []) ∨ ∃ g cap cur, v = .slice (some ⟨g, 0, none⟩) l.length cap ∧ base ≤ g ∧ W.heap[g]? = some (.cells cur 5 (cap, cap + 1)) ∧ l.length ≤ cap ∧ cap ≤ 9223372036854775807 ∧ cur.size = cap ∧ cur.toList.take l.length = nums .u8 l
theorem mb_cell {W : World} {g : Nat} {cur : Array Value} {t : TypeId} {fr : Nat × Nat} (h : W.heap[g]? = some (.cells cur t fr)) (i : Nat) : W.cell? ⟨g, i, none⟩ = cur[i]? := by simp [World.cell?, h]
theorem mb_frozen {W : World} {g cap : Nat} {cur : Array Value} {t : TypeId} (h : W.heap[g]? = some (.cells cur t (cap, cap + 1))) (i : Nat) (hi : i < cap) : W.frozen? ⟨g, i, none⟩ = false := by
  simp [World.frozen?, h]
  omega
theorem MB_reads {W : World} {b : Nat} {v : Value} {l : List Int} (h : MB W b v l) : ∃ A c, v = .slice A l.length c ∧ l.length ≤ c ∧ Kd.C (Kd.int .u8) W A l.length l := by
  rcases h with ⟨rfl, rfl⟩ | ⟨g, cap, cur, rfl, hb, hg, hc, hm, hs, ht⟩
  · exact ⟨none, 0, rfl, Nat.le_refl _, rfl, by simp, fun h => absurd h (by simp)⟩
  · refine ⟨_, cap, rfl, hc, rfl, by omega, fun _ => ⟨_, rfl, fun j p hj => ⟨[.int .u8 p], rfl, rfl, fun i u hi => ?_⟩⟩⟩
    cases i with
    | succ i => simp at hi
    | zero =>
      simp at hi
      subst hi
      have hjl := (List.getElem?_eq_some_iff.1 hj).1
      rw [show j * (Kd.int .u8).sz + 0 = j by show j * 1 + 0 = j; omega, Addr.add_lit, Nat.zero_add, mb_cell hg]
      have h1 : (cur.toList.take l.length)[j]? = some (.int .u8 p) := by rw [ht]; simp [nums, hj]
      rw [List.getElem?_take, if_pos hjl] at h1
      simpa using h1
theorem MB_block {W : World} {b : Nat} {v : Value} {l : List Int} (h : MB W b v l) (k : Nat) (hk : v.ownBlock = some k) : b ≤ k ∧ k < W.heap.size := by
  rcases h with ⟨rfl, rfl⟩ | ⟨g, cap, cur, rfl, hb, hg, _⟩
  · simp [Value.ownBlock] at hk
  · have : g = k := by simpa [Value.ownBlock] using hk
    subst this
    exact ⟨hb, (Array.getElem?_eq_some_iff.1 hg).1⟩
theorem MB_move {W W1 : World} {b : Nat} {v : Value} {l : List Int} (h : MB W b v l) (hm : ∀ k, v.ownBlock = some k → W1.heap[k]? = W.heap[k]?) : MB W1 b v l := by
  rcases h with h | ⟨g, cap, cur, rfl, hb, hg, r⟩
  · exact .inl h
  · exact .inr ⟨g, cap, cur, rfl, hb, (hm g (by simp [Value.ownBlock])).trans hg, r⟩
theorem MB_below {W W1 : World} {b : Nat} {v : Value} {l : List Int} (h : MB W b v l) (hb : Below W.heap.size W W1) : MB W1 b v l := MB_move h (fun k hk => hb.block k (MB_block h k hk).2)
theorem MB_lower {W : World} {b b' : Nat} {v : Value} {l : List Int} (h : MB W b v l) (hb : b' ≤ b) : MB W b' v l := by
  rcases h with h | ⟨g, cap, cur, rfl, hg, r⟩
  · exact .inl h
  · exact .inr ⟨g, cap, cur, rfl, by omega, r⟩
theorem bytes_below (w : World) (e : TypeId) (s : ByteArray) : Below w.heap.size w (Lib.bytesWorld w e s) :=
  ⟨by simp [Lib.bytesWorld, World.freeze, World.alloc, World.drew, -World.alloc_eq, -World.drew_eq], by simp [Lib.bytesWorld, World.freeze, World.alloc, World.drew, -World.alloc_eq, -World.drew_eq], by simp [Lib.bytesWorld, World.freeze, World.alloc, World.drew, -World.alloc_eq, -World.drew_eq], by rw [Lib.bytesWorld_size]; omega, fun k hk => Lib.bytesWorld_at_old w e s k hk⟩
/-- What '[]byte(s)' makes. -/
theorem MB_made (w : World) (s : ByteArray) (hs : s.size ≤ 9223372036854775807) : MB (Lib.bytesWorld w 5 s) w.heap.size (.slice (some ⟨w.heap.size, 0, none⟩) s.size (grownCap w s.size 0 5)) (bytesOf s) := by
  have hge := grownCap_ge w s.size 0 5
  have hle := grownCap_le_maxLen w s.size 0 5 (by unfold maxLen; omega)
  have hsz : (Lib.bytesCells w 5 s).size = grownCap w s.size 0 5 := by
    unfold Lib.bytesCells
    rw [Array.size_append, Array.size_map, Array.size_replicate]
    show s.size + _ = _
    omega
  have hbl : (bytesOf s).length = s.size := bytesOf_length s
  refine .inr ⟨w.heap.size, grownCap w s.size 0 5, Lib.bytesCells w 5 s, by rw [hbl], Nat.le_refl _, ?_, by rw [hbl]; exact hge, by simpa [maxLen] using hle, hsz, ?_⟩
  · rw [Lib.bytesWorld_at_new, hsz]
  · rw [hbl]
    unfold Lib.bytesCells
    rw [Array.toList_append, List.take_append_of_le_length (by simp <;> exact Nat.le_refl _), List.take_of_length_le (by simp <;> exact Nat.le_refl _)]
    simp [nums, bytesOf]
def marked (n : Nat) : List Int := (List.range n).map fun i => ((1 + i : Nat) : Int) % 256
theorem marked_len (n : Nat) : (marked n).length = n := by simp [marked]
set_option maxHeartbeats 4000000 in
set_option maxRecDepth 100000 in
/-- The bytes are marked. -/
theorem mark_MB (W : World) (b : Nat) (v : Value) (l : List Int) (h : MB W b v l) (hn : l.length ≤ 1073741824) :
    Calls Try.prog 23 #[v, .int .i64 1] W fun e w' => e = .returned (.int .i64 ((1 + l.length : Nat) : Int)) ∧ MB w' b v (marked l.length) ∧ (∀ B, B ≤ b → Below B W w') ∧ (∀ k, k < W.heap.size → v.ownBlock ≠ some k → w'.heap[k]? = W.heap[k]?) := by
  have hu := Try.underlying27
  rcases h with ⟨rfl, rfl⟩ | ⟨g, cap, cur, rfl, hb, hg, hc, hm, hs, ht⟩
  · go_enter Try.func23, Try.ntmps23
    go_wp2
    go_loopg [1, 5] 1 (fun gg s1 s5 wr => s1 = .int .i64 1 ∧ s5 = .int .i64 0 ∧ W = wr)
    case atStart => exact ⟨rfl, rfl, rfl⟩
    case round =>
      obtain ⟨rfl, rfl, rfl⟩ := hrel
      go_wp2
      go_ret
      exact ⟨rfl, .inl ⟨rfl, rfl⟩, fun B _ => Below.refl _ _, fun k _ _ => rfl⟩
  · have hgw : g < W.heap.size := (Array.getElem?_eq_some_iff.1 hg).1
    generalize hnn : l.length = n at *
    clear hnn
    have HG := Aside0.mk hg
    clear hg ht
    go_enter Try.func23, Try.ntmps23
    go_wp2
    go_loopg [1, 5] n (fun gg s1 s5 wr => ∃ i : Nat, i ≤ n ∧ n - i ≤ gg ∧ s1 = .int .i64 ((1 + i : Nat) : Int) ∧ s5 = .int .i64 i ∧ Aside0 (∃ c2, wr.heap[g]? = some (.cells c2 5 (cap, cap + 1)) ∧ c2.size = cap ∧ c2.toList.take i = nums .u8 (marked i)) ∧ Aside0 (∀ B, B ≤ b → Below B W wr) ∧ Aside0 (∀ k, k < W.heap.size → g ≠ k → wr.heap[k]? = W.heap[k]?))
    case atStart => exact ⟨0, Nat.zero_le _, by omega, rfl, rfl, ⟨cur, HG.out, hs, by simp [marked, nums]⟩, ⟨fun B _ => Below.refl _ _⟩, ⟨fun k _ _ => rfl⟩⟩
    case round =>
      obtain ⟨i, hin, hgg, rfl, rfl, HC, HB, HK⟩ := hrel
      by_cases hlt : i < n
      · obtain ⟨c2, h1, h2, h3⟩ := HC.out
        obtain ⟨x0, hcell⟩ : ∃ x, wr.cell? ⟨g, i, none⟩ = some x := ⟨c2[i]'(by omega), by rw [mb_cell h1]; exact Array.getElem?_eq_getElem (by omega)⟩
        have hfz : wr.frozen? ⟨g, i, none⟩ = false := mb_frozen h1 i (by omega)
        have hb1 : (i : Int) < (n : Int) := by omega
        have e1 : IntKind.u8.wrap ((1 + i : Nat) : Int) = ((1 + i : Nat) : Int) % 256 := IntKind.wrap_u8 _
        have H1 := Aside0.mk h1
        have H2 := Aside0.mk h2
        have H3 := Aside0.mk h3
        clear h1 h2 h3 HC
        go_wp2
        go_roundg (n - (i + 1))
        case measure => omega
        case rel =>
          refine ⟨i + 1, by omega, by omega, by go_num, by go_num, ⟨?_⟩, ⟨?_⟩, ⟨?_⟩⟩
          · refine ⟨c2.setIfInBounds i (.int .u8 (((1 + i : Nat) : Int) % 256)), ?_, by simp [H2.out], ?_⟩
            · rw [setCell_eq_setRow wr g i c2 _ _ _ H1.out]; exact setRow_heap wr g c2 _ _ _ H1.out
            · have hi2 : i < c2.toList.length := by rw [Array.length_toList, H2.out]; omega
              rw [Array.toList_setIfInBounds, List.take_succ_eq_append_getElem (by rw [List.length_set]; exact hi2), List.take_set_of_le (Nat.le_refl i), H3.out, List.getElem_set_self]
              simp [marked, nums, List.range_succ]
          · exact fun B hB => Below.setCell (HB.out B hB) (by show B ≤ g; omega) _
          · exact fun k hk hne => (Below.heap_setCell wr _ _ k (by show k ≠ g; omega)).trans (HK.out k hk hne)
      · obtain rfl : i = n := by omega
        obtain ⟨c2, h1, h2, h3⟩ := HC.out
        have hb1 : ¬ ((i : Int) < (i : Int)) := by omega
        have H1 := Aside0.mk h1
        have H2 := Aside0.mk h2
        have H3 := Aside0.mk h3
        clear h1 h2 h3 HC
        go_wp2
        go_ret
        refine ⟨rfl, .inr ⟨g, cap, c2, by rw [marked_len], hb, H1.out, by rw [marked_len]; exact hc, hm, H2.out, by rw [marked_len]; exact H3.out⟩, HB.out, fun k hk hne => HK.out k hk (fun e => hne (by rw [e]; rfl))⟩
end Go.Proofs.Ytfgnhghadghdkaa.G
