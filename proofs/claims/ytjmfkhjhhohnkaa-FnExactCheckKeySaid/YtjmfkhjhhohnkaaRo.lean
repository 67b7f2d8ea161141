/- Rows of words in memory, by their cells: read, written, kept. -/
import Derived.Test.YtjmfkhjhhohnkaaAr
namespace Go.Proofs.Ytjmfkhjhhohnkaa.Ar
open Go.RowKit Go.Proofs.YtjmfkhjhhohnkaaW.PrintWords Go.Proofs.YtjmfkhjhhohnkaaW.PrintLast Go.Proofs.YtjmfkhjhhohnkaaW.PrintMore
set_option linter.unusedVariables false
/-- These words lie at the head of block g. -/
def Row (w : World) (g : Nat) (L : List Int) : Prop := ∀ i : Nat, i < L.length → w.cell? ⟨g, i, none⟩ = some (.int .u32 (rd L i)) ∧ w.frozen? ⟨g, i, none⟩ = false
variable {w w' : World} {g : Nat} {L : List Int}
theorem Has.row {t : Nat} (h : Has w g t L) : Row w g L := fun i hi => ⟨h.cell i hi, blk_frozen h i⟩
theorem Row.celli (h : Row w g L) (i : Int) (h0 : 0 ≤ i) (h1 : i < (L.length : Int)) : w.cell? ⟨g, i.toNat, none⟩ = some (.int .u32 (rd L i)) ∧ w.frozen? ⟨g, i.toNat, none⟩ = false := by
  have := h i.toNat (by omega)
  rw [show ((i.toNat : Nat) : Int) = i by omega] at this
  exact this
theorem Row.lt (h : Row w g L) (hl : 0 < L.length) : g < w.heap.size := World.block_lt_of_cell? w _ (h 0 hl).1
theorem Row.same (h : Row w g L) (hb : w'.heap[g]? = w.heap[g]?) : Row w' g L := by
  intro i hi
  obtain ⟨h1, h2⟩ := h i hi
  exact ⟨(World.cell?_of_block (w := w) hb).trans h1, (World.frozen?_of_block (w := w) hb).trans h2⟩
theorem Row.below (h : Row w g L) {b : Nat} (hb : Below b w w') (hg : g < b) : Row w' g L := h.same (hb.block g hg)
theorem Row.drew (h : Row w g L) : Row w.drew g L := h.same rfl
theorem Row.drewN (h : Row w g L) (n : Nat) : Row (w.drewN n) g L := h.same rfl
theorem Row.far (h : Row w g L) {p : Addr} (hp : g ≠ p.block) (u : Value) : Row (w.setCell p u) g L := h.same (Below.heap_setCell w p u g hp)
theorem Row.set (h : Row w g L) (i : Nat) (hi : i < L.length) (x : Int) : Row (w.setCell ⟨g, i, none⟩ (.int .u32 x)) g (L.set i x) := by
  intro j hj
  rw [List.length_set] at hj
  obtain ⟨h1, h2⟩ := h j hj
  refine ⟨?_, (World.frozen?_setCell _ _ _ _).trans h2⟩
  by_cases he : i = j
  · subst he
    rw [World.cell?_setCell_same _ _ _ h1]
    simp [rd, List.getD, hj]
  · rw [World.cell?_setCell_other _ _ _ _ (fun e => he (by injection e))]
    rw [h1]
    simp only [rd, Int.toNat_natCast, List.getD, List.getElem?_set_ne he]
/-- Of a row of the call's own. -/
theorem Row.of_R {e : Nat} {base : Nat} {ok : Nat → Prop} {n c : Nat} (h : Kd.R (Kd.int .u32) e w base ok (.slice (some ⟨g, 0, none⟩) n c) L) : Row w g L := by
  intro i hi
  have hn := (Kd.R_reads' h).1
  have := Kd.R_celln 0 h (i : Int) (by omega) (by omega)
  exact this
end Go.Proofs.Ytjmfkhjhhohnkaa.Ar
