/- Rows of bytes that a conversion of a text has made: their block bears a mark behind its last cell. -/
import Derived.Test.YtjmfkhjhhohnkaaProg
import Derived.Test.YtjmfkhjhhohnkaaWMore
import Derived.Test.YtjmfkhjhhohnkaaQ0
import Derived.WalkKit
import Derived.Lib.Walk
import Derived.Lib.ConvBytes
import Derived.Laws.CopyRow
import Derived.Deep.LoopGhost
import Derived.Deep.Draws
namespace Go.Proofs.Ytjmfkhjhhohnkaa.Q
open Go.RowKit Go.Proofs.YtjmfkhjhhohnkaaW.PrintWords Go.Proofs.YtjmfkhjhhohnkaaW.PrintLast Go.Proofs.YtjmfkhjhhohnkaaW.PrintMore
set_option linter.unusedVariables false
set_option linter.unusedSimpArgs false
def MB (W : World) (base : Nat) (v : Value) (l : List Int) : Prop :=
  (v = .slice none 0 0 ∧ l = []) ∨ ∃ g cap cur, v = .slice (some ⟨g, 0, none⟩) l.length cap ∧ base ≤ g ∧ W.heap[g]? = some (.cells cur 5 (cap, cap + 1)) ∧ l.length ≤ cap ∧ cap ≤ 9223372036854775807 ∧ cur.size = cap ∧ cur.toList.take l.length = nums .u8 l
theorem mb_cell {W : World} {g : Nat} {cur : Array Value} {t : TypeId} {fr : Nat × Nat} (h : W.heap[g]? = some (.cells cur t fr)) (i : Nat) : W.cell? ⟨g, i, none⟩ = cur[i]? := by simp [World.cell?, h]
theorem mb_frozen {W : World} {g cap : Nat} {cur : Array Value} {t : TypeId} (h : W.heap[g]? = some (.cells cur t (cap, cap + 1))) (i : Nat) (hi : i < cap) : W.frozen? ⟨g, i, none⟩ = false := by
  simp [World.frozen?, h]
  omega
theorem MB_reads {W : World} {b : Nat} {v : Value} {l : List Int} (h : MB W b v l) : ∃ A c, v = .slice A l.length c ∧ l.length ≤ c ∧ Kd.C (Kd.int .u8) W A l.length l := by
  rcases h with ⟨rfl, rfl⟩ | ⟨g, cap, cur, rfl, hb, hg, hc, hm, hs, ht⟩
  · exact ⟨none, 0, rfl, Nat.le_refl _, rfl, by simp, fun h => absurd h (by simp)⟩
  · refine ⟨_, cap, rfl, hc, rfl, by omega, fun _ => ⟨_, rfl, fun j p hj => ⟨[.int .u8 p], rfl, rfl, fun i u hi => ?_⟩⟩⟩
    cases i with
    | succ i => simp at hi
    | zero =>
      simp at hi
      subst hi
      have hjl := (List.getElem?_eq_some_iff.1 hj).1
      rw [show j * (Kd.int .u8).sz + 0 = j by show j * 1 + 0 = j; omega, Addr.add_lit, Nat.zero_add, mb_cell hg]
      have h1 : (cur.toList.take l.length)[j]? = some (.int .u8 p) := by rw [ht]; simp [nums, hj]
      rw [List.getElem?_take, if_pos hjl] at h1
      simpa using h1
theorem MB_block {W : World} {b : Nat} {v : Value} {l : List Int} (h : MB W b v l) (k : Nat) (hk : v.ownBlock = some k) : b ≤ k ∧ k < W.heap.size := by
  rcases h with ⟨rfl, rfl⟩ | ⟨g, cap, cur, rfl, hb, hg, _⟩
  · simp [Value.ownBlock] at hk
  · have : g = k := by simpa [Value.ownBlock] using hk
    subst this
    exact ⟨hb, (Array.getElem?_eq_some_iff.1 hg).1⟩
theorem MB_move {W W1 : World} {b : Nat} {v : Value} {l : List Int} (h : MB W b v l) (hm : ∀ k, v.ownBlock = some k → W1.heap[k]? = W.heap[k]?) : MB W1 b v l := by
  rcases h with h | ⟨g, cap, cur, rfl, hb, hg, r⟩
  · exact .inl h
  · exact .inr ⟨g, cap, cur, rfl, hb, (hm g (by simp [Value.ownBlock])).trans hg, r⟩
theorem MB_below {W W1 : World} {b : Nat} {v : Value} {l : List Int} (h : MB W b v l) (hb : Below W.heap.size W W1) : MB W1 b v l := MB_move h (fun k hk => hb.block k (MB_block h k hk).2)
theorem MB_lower {W : World} {b b' : Nat} {v : Value} {l : List Int} (h : MB W b v l) (hb : b' ≤ b) : MB W b' v l := by
  rcases h with h | ⟨g, cap, cur, rfl, hg, r⟩
  · exact .inl h
  · exact .inr ⟨g, cap, cur, rfl, by omega, r⟩
theorem bytes_below (w : World) (e : TypeId) (s : ByteArray) : Below w.heap.size w (Lib.bytesWorld w e s) :=
  ⟨by simp [Lib.bytesWorld, World.freeze, World.alloc, World.drew, -World.alloc_eq, -World.drew_eq], by simp [Lib.bytesWorld, World.freeze, World.alloc, World.drew, -World.alloc_eq, -World.drew_eq], by simp [Lib.bytesWorld, World.freeze, World.alloc, World.drew, -World.alloc_eq, -World.drew_eq], by rw [Lib.bytesWorld_size]; omega, fun k hk => Lib.bytesWorld_at_old w e s k hk⟩
/-- What '[]byte(s)' makes. -/
theorem MB_made (w : World) (s : ByteArray) (hs : s.size ≤ 9223372036854775807) : MB (Lib.bytesWorld w 5 s) w.heap.size (.slice (some ⟨w.heap.size, 0, none⟩) s.size (grownCap w s.size 0 5)) (bytesOf s) := by
  have hge := grownCap_ge w s.size 0 5
  have hle := grownCap_le_maxLen w s.size 0 5 (by unfold maxLen; omega)
  have hsz : (Lib.bytesCells w 5 s).size = grownCap w s.size 0 5 := by
    unfold Lib.bytesCells
    rw [Array.size_append, Array.size_map, Array.size_replicate]
    show s.size + _ = _
    omega
  have hbl : (bytesOf s).length = s.size := bytesOf_length s
  refine .inr ⟨w.heap.size, grownCap w s.size 0 5, Lib.bytesCells w 5 s, by rw [hbl], Nat.le_refl _, ?_, by rw [hbl]; exact hge, by simpa [maxLen] using hle, hsz, ?_⟩
  · rw [Lib.bytesWorld_at_new, hsz]
  · rw [hbl]
    unfold Lib.bytesCells
    rw [Array.toList_append, List.take_append_of_le_length (by simp <;> exact Nat.le_refl _), List.take_of_length_le (by simp <;> exact Nat.le_refl _)]
    simp [nums, bytesOf]
end Go.Proofs.Ytjmfkhjhhohnkaa.Q
