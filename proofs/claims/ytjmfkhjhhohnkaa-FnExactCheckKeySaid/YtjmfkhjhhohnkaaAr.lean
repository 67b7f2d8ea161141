/- Arrays of words in memory: a block of 8 or 64 cells made, read, written, as a whole and cell by cell. -/
import Derived.Test.YtjmfkhjhhohnkaaWMore
import Derived.Deep.WholeRow
import Derived.Lib.SmallJoins
namespace Go.Proofs.Ytjmfkhjhhohnkaa.Ar
open Go.RowKit Go.Proofs.YtjmfkhjhhohnkaaW.PrintWords Go.Proofs.YtjmfkhjhhohnkaaW.PrintLast Go.Proofs.YtjmfkhjhhohnkaaW.PrintMore
set_option linter.unusedVariables false
def cl (L : List Int) : Array Value := (L.map (Value.int .u32)).toArray
theorem cl_size (L : List Int) : (cl L).size = L.length := by simp [cl]
theorem cl_one (L : List Int) : (cl L).all (·.oneCell') = true := by
  rw [Array.all_eq_true_iff_forall_mem]
  intro x hx
  simp only [cl, List.mem_toArray, List.mem_map] at hx
  obtain ⟨a, _, rfl⟩ := hx
  rfl
theorem cl_set (L : List Int) (i : Nat) (x : Int) : (cl L).setIfInBounds i (.int .u32 x) = cl (L.set i x) := by
  simp only [cl, List.setIfInBounds_toArray, List.map_set]
/-- Block g holds these words. -/
def Has (w : World) (g : Nat) (t : TypeId) (L : List Int) : Prop := w.heap[g]? = some (.cells (cl L) t (0, 0))
theorem Has.lt {w : World} {g t : Nat} {L : List Int} (h : Has w g t L) : g < w.heap.size := by
  unfold Has at h
  exact (Array.getElem?_eq_some_iff.1 h).1
theorem Has.cell {w : World} {g t : Nat} {L : List Int} (h : Has w g t L) (i : Nat) (hi : i < L.length) : w.cell? ⟨g, i, none⟩ = some (.int .u32 (rd L i)) := by
  rw [cell_of_row w g i (cl L) t (0, 0) h]
  simp [cl, rd, List.getElem?_eq_getElem hi, List.getD]
theorem Has.celli {w : World} {g t : Nat} {L : List Int} (h : Has w g t L) (i : Int) (h0 : 0 ≤ i) (h1 : i < (L.length : Int)) : w.cell? ⟨g, i.toNat, none⟩ = some (.int .u32 (rd L i)) := by
  have := h.cell i.toNat (by omega)
  rw [this, show ((i.toNat : Nat) : Int) = i by omega]
theorem Has.below {w w' : World} {g t : Nat} {L : List Int} (h : Has w g t L) {b : Nat} (hb : Below b w w') (hg : g < b) : Has w' g t L := (hb.block g hg).trans h
theorem Has.drewN {w : World} {g t : Nat} {L : List Int} (h : Has w g t L) (n : Nat) : Has (w.drewN n) g t L := h.below (pw_below_drewN (Below.refl _ _) n) h.lt
theorem Has.drew {w : World} {g t : Nat} {L : List Int} (h : Has w g t L) : Has w.drew g t L := h.below (below_drew (Below.refl _ _)) h.lt
theorem Has.set {w : World} {g t : Nat} {L : List Int} (h : Has w g t L) (i : Nat) (x : Int) : Has (w.setCell ⟨g, i, none⟩ (.int .u32 x)) g t (L.set i x) := by
  have := blk_set h i (.int .u32 x)
  rw [cl_set] at this
  exact this
theorem Has.far {w : World} {g t : Nat} {L : List Int} (h : Has w g t L) {p : Addr} (hp : g ≠ p.block) (u : Value) : Has (w.setCell p u) g t L := blk_far h hp u
section
variable {P : Program} {ops : Array Oper} {rest : List Oper} {o : Oper} {a : Act} {Q : Exit → Act → World → Prop} {W : World}
theorem run_alloc {t : TypeId} {cs : Array Value} (hz : (P.info? t).map (·.zero) = some (some (.agg cs))) (w : World) :
    (Instr.alloc t true (.tuple #[])).run P w = .ok (.pointer (some ⟨w.heap.size, 0, none⟩)) (w.alloc (.cells cs t)) := by
  cases hq : P.info? t with
  | none => simp [hq] at hz
  | some i =>
    simp [hq] at hz
    simp [Instr.alloc, zeroValue, typeInfo, hq, hz, newVar, newRow, Value.cells, Result.andThen]
/-- 'var a [n]T' -/
theorem ar_alloc (hgd : o.guard = none) {t : TypeId} (ho : o.op = .alloc t) {L : List Int} (hz : (P.info? t).map (·.zero) = some (some (.agg (cl L))))
    (h : ∀ g, g = W.heap.size → ∀ w1, Has w1 g t L → Below W.heap.size W w1 → w1.heap.size = W.heap.size + 1 → wpList P ops Q rest (a.put o.dst (.pointer (some ⟨g, 0, none⟩))) w1) : wpList P ops Q (o :: rest) a W := by
  refine Kd.event_run (v := .pointer (some ⟨W.heap.size, 0, none⟩)) (w1 := W.alloc (.cells (cl L) t)) hgd ?_ (h _ rfl _ (heap_alloc_last W _) (below_alloc (Below.refl _ _) _) (by show (W.heap.push _).size = _; simp))
  simp only [execOp, ho, Sem.run_bind, run_alloc hz, Result.andThen, Sem.run_pure]
/-- A parameter's own array. -/
theorem ar_box (hgd : o.guard = none) {t : TypeId} {x : Operand} (ho : o.op = .box t x) {L : List Int} (hx : a.eval x = .agg (cl L))
    (h : ∀ g, g = W.heap.size → ∀ w1, Has w1 g t L → Below W.heap.size W w1 → w1.heap.size = W.heap.size + 1 → wpList P ops Q rest (a.put o.dst (.pointer (some ⟨g, 0, none⟩))) w1) : wpList P ops Q (o :: rest) a W := by
  refine Kd.event_run (v := .pointer (some ⟨W.heap.size, 0, none⟩)) (w1 := W.alloc (.cells (cl L) t)) hgd ?_ (h _ rfl _ (heap_alloc_last W _) (below_alloc (Below.refl _ _) _) (by show (W.heap.push _).size = _; simp))
  simp [execOp, ho, hx, Instr.box, newVar, newRow, Value.cells, Result.andThen]
/-- '[n]T{..}' -/
theorem ar_build (hgd : o.guard = none) {t : TypeId} {parts : Array (Nat × Operand)} (ho : o.op = .build t parts) {L : List Int} (hb : P.built t ((parts.map fun (i, x) => (i, a.eval x)).toList) = some (cl L))
    (h : wpList P ops Q rest (a.put o.dst (.agg (cl L))) W) : wpList P ops Q (o :: rest) a W := by
  refine Kd.event_run (v := .agg (cl L)) (w1 := W) hgd ?_ h
  simp only [execOp, ho, Sem.run_bind, run_build W t _ _ hb, Result.andThen, Sem.run_pure]
/-- The whole array is read. -/
theorem ar_load (hgd : o.guard = none) {t : TypeId} {x : Operand} (ho : o.op = .load t x) {g : Nat} {L : List Int} {n e : Nat} (hx : a.eval x = .pointer (some ⟨g, 0, none⟩)) (hg : Has W g t L)
    (hu : P.underlying t = some (.array n e)) (hi : (P.info? t).map (·.size) = some L.length)
    (h : wpList P ops Q rest (a.put o.dst (.agg (cl L))) W) : wpList P ops Q (o :: rest) a W := by
  refine Kd.event_run (v := .agg (cl L)) (w1 := W) hgd ?_ h
  have := run_loadVar_row W g t t (cl L) (0, 0) _ hg hu rfl (by rw [cl_size]; exact hi)
  simp only [execOp, ho, hx, Instr.loadAt, Instr.sureAddr, Sem.run_bind, Sem.run_pure, this, Result.andThen]
theorem skip_run {w1 : World} (hgd : o.guard = none) (hd : o.dst = none) (hrun : (execOp a.eval o).run P W = .ok .skip w1) (h : wpList P ops Q rest a w1) : wpList P ops Q (o :: rest) a W := by
  refine wpList_plain hgd fun K hK => ?_
  unfold Oper.wp
  rw [hrun]
  refine hK _ _ ?_
  rw [hd]
  exact h
/-- The whole array is written. -/
theorem ar_store (hgd : o.guard = none) (hd : o.dst = none) {t : TypeId} {x y : Operand} (ho : o.op = .store t x y) {g : Nat} {L L' : List Int} (hx : a.eval x = .pointer (some ⟨g, 0, none⟩)) (hy : a.eval y = .agg (cl L')) (hg : Has W g t L)
    (hi : (P.info? t).map (·.size) = some L'.length) (hl : L.length = L'.length)
    (h : ∀ w1, Has w1 g t L' → (∀ b, b ≤ g → Below b W w1) → w1.heap.size = W.heap.size → (∀ k, k ≠ g → w1.heap[k]? = W.heap[k]?) → wpList P ops Q rest a w1) : wpList P ops Q (o :: rest) a W := by
  have hr := run_storeVar_row (P := P) W g t t (cl L) (cl L') hg (by rw [cl_size]; exact hi) (by rw [cl_size, cl_size]; exact hl) (cl_one L')
  have hfar : ∀ k, k ≠ g → (W.setRow g (cl L')).heap[k]? = W.heap[k]? := by
    intro k hk
    simp only [World.setRow]
    rw [Array.getElem?_modify, if_neg (fun e => hk e.symm)]
  refine skip_run (w1 := W.setRow g (cl L')) hgd hd ?_ (h _ (setRow_heap W g (cl L) (cl L') t (0, 0) hg) (fun b hb => ⟨rfl, rfl, rfl, by simp [World.setRow], fun k hk => hfar k (by omega)⟩) (by simp [World.setRow]) hfar)
  simp only [execOp, ho, hx, hy, Instr.storeAt, Instr.sureAddr, Sem.run_bind, Sem.run_pure, hr, Result.andThen]
/-- An element of an array value. -/
theorem ar_index (hgd : o.guard = none) {t : TypeId} {x y : Operand} (ho : o.op = .index t x y) {L : List Int} {i : Int} {n e : Nat} (hx : a.eval x = .agg (cl L)) (hy : a.eval y = .int .i64 i) (h0 : 0 ≤ i) (h1 : i < (L.length : Int)) (hn : n = L.length)
    (hu : P.underlying t = some (.array n e)) (hs : (P.info? e).map (·.size) = some 1) (hue : P.underlying e = some (.int .u32))
    (h : wpList P ops Q rest (a.put o.dst (.int .u32 (rd L i))) W) : wpList P ops Q (o :: rest) a W := by
  refine Kd.event_run (v := .int .u32 (rd L i)) (w1 := W) hgd ?_ h
  obtain ⟨k, rfl⟩ := Int.eq_ofNat_of_zero_le h0
  have hk : k < L.length := by omega
  cases hq : P.info? e with
  | none => simp [hq] at hs
  | some d =>
    simp [hq] at hs
    subst hn
    have hc : (cl L)[k]? = some (.int .u32 (rd L k)) := by simp [cl, rd, List.getElem?_eq_getElem hk, List.getD]
    simp [execOp, ho, hx, hy, Instr.index, asIntOf, run_underlying hu, sizeOf, typeInfo, hq, hs, hk, Result.andThen, part, isAgg, run_underlying hue, hc]
theorem load_run {w : World} {t : TypeId} {x : Operand} (ho : o.op = .load t x) {g : Nat} {L : List Int} {n e : Nat} (hx : a.eval x = .pointer (some ⟨g, 0, none⟩)) (hg : Has w g t L)
    (hu : P.underlying t = some (.array n e)) (hi : (P.info? t).map (·.size) = some L.length) : (execOp a.eval o).run P w = .ok (.value (.agg (cl L))) w := by
  have := run_loadVar_row w g t t (cl L) (0, 0) _ hg hu rfl (by rw [cl_size]; exact hi)
  simp only [execOp, ho, hx, Instr.loadAt, Instr.sureAddr, Sem.run_bind, Sem.run_pure, this, Result.andThen]
/-- In a region that draws: 'var a [n]T'. -/
theorem alloc_step {w : World} {N : Option Tmp} {K : Act → World → Prop} (hw : Region.wanted o (yielded ops a.tmps) = true) (hN : o.dst = N) {t : TypeId} (ho : o.op = .alloc t) {L : List Int} (hz : (P.info? t).map (·.zero) = some (some (.agg (cl L))))
    (h : ∀ g, g = w.heap.size → ∀ w1, Has w1 g t L → Below w.heap.size w w1 → K (a.put N (.pointer (some ⟨g, 0, none⟩))) w1) : if Region.wanted o (yielded ops a.tmps) = true then Oper.wp P o a w K Q else K (a.put N undef) w := by
  refine value_ (w1 := w.alloc (.cells (cl L) t)) (v := .pointer (some ⟨w.heap.size, 0, none⟩)) hw hN ?_ (h _ rfl _ (heap_alloc_last w _) (below_alloc (Below.refl _ _) _))
  simp only [execOp, ho, Sem.run_bind, run_alloc hz, Result.andThen, Sem.run_pure]
/-- In a region that draws: a whole array is written. -/
theorem store_step {w : World} {K : Act → World → Prop} (hw : Region.wanted o (yielded ops a.tmps) = true) (hN : o.dst = none) {t : TypeId} {x y : Operand} (ho : o.op = .store t x y) {g : Nat} {L L' : List Int} (hx : a.eval x = .pointer (some ⟨g, 0, none⟩)) (hy : a.eval y = .agg (cl L')) (hg : Has w g t L)
    (hi : (P.info? t).map (·.size) = some L'.length) (hl : L.length = L'.length)
    (h : ∀ w1, Has w1 g t L' → (∀ b, b ≤ g → Below b w w1) → w1.heap.size = w.heap.size → (∀ k, k ≠ g → w1.heap[k]? = w.heap[k]?) → K a w1) : if Region.wanted o (yielded ops a.tmps) = true then Oper.wp P o a w K Q else K (a.put none undef) w := by
  have hr := run_storeVar_row (P := P) w g t t (cl L) (cl L') hg (by rw [cl_size]; exact hi) (by rw [cl_size, cl_size]; exact hl) (cl_one L')
  have hfar : ∀ k, k ≠ g → (w.setRow g (cl L')).heap[k]? = w.heap[k]? := by
    intro k hk
    simp only [World.setRow]
    rw [Array.getElem?_modify, if_neg (fun e => hk e.symm)]
  refine skip_ (w1 := w.setRow g (cl L')) hw hN ?_ (h _ (setRow_heap w g (cl L) (cl L') t (0, 0) hg) (fun b hb => ⟨rfl, rfl, rfl, by simp [World.setRow], fun k hk => hfar k (by omega)⟩) (by simp [World.setRow]) hfar)
  simp only [execOp, ho, hx, hy, Instr.storeAt, Instr.sureAddr, Sem.run_bind, Sem.run_pure, hr, Result.andThen]
end
end Go.Proofs.Ytjmfkhjhhohnkaa.Ar
