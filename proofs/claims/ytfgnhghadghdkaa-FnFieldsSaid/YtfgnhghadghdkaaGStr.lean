/- Appends to a row of bytes, as steps of a region: a text, a row. -/
import Derived.Test.YtfgnhghadghdkaaGMb
import Derived.Deep.RegionLaw
import Derived.Lib.AppendStr
import Derived.Test.YtfgnhghadghdkaaGSlA
namespace Go.Proofs.Ytfgnhghadghdkaa.G
open Go.RowKit Go.Proofs.YtfgnhghadghdkaaW.PrintWords Go.Proofs.YtfgnhghadghdkaaW.PrintLast Go.Proofs.YtfgnhghadghdkaaW.PrintMore
set_option linter.unusedVariables false
set_option linter.unusedSimpArgs false
theorem reps_nums {w : World} {b : Nat} {ok : Nat → Prop} {l : List Int} {cs : List Value} (h : Reps ((Kd.int .u8).M w b ok) 1 l cs) : cs = nums .u8 l := by
  apply List.ext_getElem?
  intro j
  have hl := h.1
  rcases Nat.lt_or_ge j l.length with hj | hj
  · have h1 := h.2 j _ (List.getElem?_eq_getElem hj)
    have h2 : (cs.drop (j * 1)).take 1 = [.int .u8 l[j]] := h1
    have h3 : ((cs.drop (j * 1)).take 1)[0]? = some (.int .u8 l[j]) := by rw [h2]; rfl
    rw [List.getElem?_take, if_pos (by omega), List.getElem?_drop, Nat.mul_one, Nat.add_zero] at h3
    rw [h3]
    simp [nums, List.getElem?_eq_getElem hj]
  · rw [List.getElem?_eq_none (by omega), List.getElem?_eq_none (by simp [nums]; omega)]
theorem nums_reps (w : World) (b : Nat) (ok : Nat → Prop) (l : List Int) : Reps ((Kd.int .u8).M w b ok) 1 l (nums .u8 l) := by
  refine ⟨by simp [nums], fun j p hj => ?_⟩
  show ((nums .u8 l).drop (j * 1)).take 1 = [.int .u8 p]
  have hjl := (List.getElem?_eq_some_iff.1 hj).1
  apply List.ext_getElem?
  intro i
  rw [List.getElem?_take]
  split
  · have : i = 0 := by omega
    subst this
    rw [List.getElem?_drop, Nat.mul_one, Nat.add_zero]
    simp [nums, hj]
  · rw [List.getElem?_eq_none (by simp; omega)]
set_option maxRecDepth 100000 in
/-- append of a text, as a step of a region. -/
theorem step_str {W w0 : World} {ops : Array Oper} {o : Oper} {a : Act} {K : Act → World → Prop} {Q : Exit → Act → World → Prop} {E : Prop} (s x : Operand) (v : Value) (l : List Int) (y : ByteArray)
    (hgd : o.guard = none) (ho : o.op = .call { callee := .builtin .append, args := #[s, x], argTypes := #[27, 9] }) (hs : a.eval s = v) (hx : a.eval x = .string y)
    (HO : Kd.R (Kd.int .u8) 5 W w0.heap.size (fun _ => True) v l) (HB : Below w0.heap.size w0 W) (hl : l.length + y.size ≤ 140737488355328)
    (h : ∀ v1 w1, Kd.R (Kd.int .u8) 5 w1 w0.heap.size (fun _ => True) v1 (l ++ bytesOf y) → Below w0.heap.size w0 w1 → W.grownBy w1 v.ownBlock → K (a.put o.dst v1) w1) :
    if Region.wanted o (yielded ops a.tmps) = true then Oper.wp Try.prog o a W K Q else E := by
  obtain ⟨_, inner, hown, hr⟩ := HO
  have hin := reps_nums hr
  subst hin
  obtain ⟨i0, hi0, hzz⟩ := Option.map_eq_some_iff.1 info5
  simp only [Prod.mk.injEq] at hzz
  obtain ⟨hz0, hz1, hz2⟩ := hzz
  obtain ⟨v1, w1, hrun, hown1, hg, _⟩ := Lib.run_append_own_string (P := Try.prog) W w0.heap.size 27 9 o.type 5 i0 Try.underlying27 Try.underlying9 hi0 hz0 hz1 hz2 v l.length (nums .u8 l) hown y (by unfold maxLen; omega) hl HB.size
  have hc : nums .u8 (l ++ bytesOf y) = nums .u8 l ++ Lib.strCells y := by
    rw [nums_append]
    congr 1
    simp [nums, bytesOf, Lib.strCells]
  refine step_builtin_run .append #[s, x] #[27, 9] hgd ho #[v, .string y] (by simp [hs, hx]) (v' := v1) (w' := w1) (fun q => by simp [builtin, hrun]) (h v1 w1 ⟨fun _ _ => trivial, nums .u8 (l ++ bytesOf y), ?_, nums_reps _ _ _ _⟩ (HB.grown hg HB.size (own_base hown)) hg)
  rw [List.length_append, bytesOf_length, hc]
  exact hown1
/-- append of a row of bytes that is read, as a step of a region. -/
theorem step_bytes {W w0 : World} {ops : Array Oper} {o : Oper} {a : Act} {K : Act → World → Prop} {Q : Exit → Act → World → Prop} (s x : Operand) (v : Value) (xs ys : List Int) (A : Option Addr) (c : Nat)
    (hgd : o.guard = none) (ho : o.op = .call { callee := .builtin .append, args := #[s, x], argTypes := #[27, 27] }) (hs : a.eval s = v) (hx : a.eval x = .slice A ys.length c)
    (HO : Kd.R (Kd.int .u8) 5 W w0.heap.size (fun _ => True) v xs) (HR : Kd.C (Kd.int .u8) W A ys.length ys) (HB : Below w0.heap.size w0 W) (hl : (xs.length + ys.length) * 1 ≤ 140737488355328)
    (h : ∀ v1 w1, Kd.R (Kd.int .u8) 5 w1 w0.heap.size (fun _ => True) v1 (xs ++ ys) → Below w0.heap.size w0 w1 → W.grownBy w1 v.ownBlock → K (a.put o.dst v1) w1) :
    if Region.wanted o (yielded ops a.tmps) = true then Oper.wp Try.prog o a W K Q else K (a.put o.dst undef) W :=
  Kd.R_append_rows_step (Kd.int .u8) (w0 := w0) w0.heap.size (by simp [Region.wanted, hgd]) s x 27 5 (.int .u8 0) 1 ho Try.underlying27 info5 rfl (by decide) (by omega) v xs ys A ys.length c (fun _ => True) (fun _ => False) hs hx HO HR
    (fun x cs h => h) (fun _ h => h.elim) (fun _ _ => trivial) HB HB.size hl (fun v1 w1 h1 h2 h3 _ => h v1 w1 h1 h2 h3)
theorem C_two (W : World) (x y : Int) : Kd.C (Kd.int .u8) (W.alloc (.cells #[.int .u8 x, .int .u8 y] 5)) (some ⟨W.heap.size, 0, none⟩) 2 [x, y] := by
  refine ⟨rfl, by simp, fun _ => ⟨_, rfl, fun j p hj => ⟨[.int .u8 p], rfl, rfl, fun i u hi => ?_⟩⟩⟩
  cases i with
  | succ i => simp at hi
  | zero =>
    simp at hi
    subst hi
    rw [show j * (Kd.int .u8).sz + 0 = j by show j * 1 + 0 = j; omega, Addr.add_lit, Nat.zero_add, mb_cell (heap_alloc_new W _)]
    match j, hj with
    | 0, hj => simpa using hj
    | 1, hj => simpa using hj
    | j + 2, hj => simp at hj
end Go.Proofs.Ytfgnhghadghdkaa.G
