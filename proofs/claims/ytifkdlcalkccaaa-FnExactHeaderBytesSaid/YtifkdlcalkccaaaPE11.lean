/- The contracts of spec.l06Bytes, spec.HeaderBytes and impl.HeaderBytes. -/
import Derived.Test.YtifkdlcalkccaaaP2
import Derived.Test.YtifkdlcalkccaaaP3
import Derived.Test.YtifkdlcalkccaaaPMb
import Derived.Deep.RegionLaw
import Derived.Lib.AppendStr
import Derived.Test.YtifkdlcalkccaaaPSlA
namespace Go.Proofs.Ytifkdlcalkccaaa.P
open Go.RowKit Go.Proofs.YtifkdlcalkccaaaW.PrintWords Go.Proofs.YtifkdlcalkccaaaW.PrintLast Go.Proofs.YtifkdlcalkccaaaW.PrintMore
set_option linter.unusedVariables false
set_option linter.unusedSimpArgs false
theorem reps_nums {w : World} {b : Nat} {ok : Nat → Prop} {l : List Int} {cs : List Value} (h : Reps ((Kd.int .u8).M w b ok) 1 l cs) : cs = nums .u8 l := by
  apply List.ext_getElem?
  intro j
  have hl := h.1
  rcases Nat.lt_or_ge j l.length with hj | hj
  · have h1 := h.2 j _ (List.getElem?_eq_getElem hj)
    have h2 : (cs.drop (j * 1)).take 1 = [.int .u8 l[j]] := h1
    have h3 : ((cs.drop (j * 1)).take 1)[0]? = some (.int .u8 l[j]) := by rw [h2]; rfl
    rw [List.getElem?_take, if_pos (by omega), List.getElem?_drop, Nat.mul_one, Nat.add_zero] at h3
    rw [h3]
    simp [nums, List.getElem?_eq_getElem hj]
  · rw [List.getElem?_eq_none (by omega), List.getElem?_eq_none (by simp [nums]; omega)]
theorem nums_reps (w : World) (b : Nat) (ok : Nat → Prop) (l : List Int) : Reps ((Kd.int .u8).M w b ok) 1 l (nums .u8 l) := by
  refine ⟨by simp [nums], fun j p hj => ?_⟩
  show ((nums .u8 l).drop (j * 1)).take 1 = [.int .u8 p]
  have hjl := (List.getElem?_eq_some_iff.1 hj).1
  apply List.ext_getElem?
  intro i
  rw [List.getElem?_take]
  split
  · have : i = 0 := by omega
    subst this
    rw [List.getElem?_drop, Nat.mul_one, Nat.add_zero]
    simp [nums, hj]
  · rw [List.getElem?_eq_none (by simp; omega)]
set_option maxRecDepth 100000 in
/-- append of a text, as a step of a region. -/
theorem step_str {W w0 : World} {ops : Array Oper} {o : Oper} {a : Act} {K : Act → World → Prop} {Q : Exit → Act → World → Prop} {E : Prop} (s x : Operand) (v : Value) (l : List Int) (y : ByteArray)
    (hgd : o.guard = none) (ho : o.op = .call { callee := .builtin .append, args := #[s, x], argTypes := #[46, 9] }) (hs : a.eval s = v) (hx : a.eval x = .string y)
    (HO : Kd.R (Kd.int .u8) 5 W w0.heap.size (fun _ => True) v l) (HB : Below w0.heap.size w0 W) (hl : l.length + y.size ≤ 140737488355328)
    (h : ∀ v1 w1, Kd.R (Kd.int .u8) 5 w1 w0.heap.size (fun _ => True) v1 (l ++ bytesOf y) → Below w0.heap.size w0 w1 → W.grownBy w1 v.ownBlock → K (a.put o.dst v1) w1) :
    if Region.wanted o (yielded ops a.tmps) = true then Oper.wp Try.prog o a W K Q else E := by
  obtain ⟨_, inner, hown, hr⟩ := HO
  have hin := reps_nums hr
  subst hin
  obtain ⟨i0, hi0, hzz⟩ := Option.map_eq_some_iff.1 info5
  simp only [Prod.mk.injEq] at hzz
  obtain ⟨hz0, hz1, hz2⟩ := hzz
  obtain ⟨v1, w1, hrun, hown1, hg, _⟩ := Lib.run_append_own_string (P := Try.prog) W w0.heap.size 46 9 o.type 5 i0 Try.underlying46 Try.underlying9 hi0 hz0 hz1 hz2 v l.length (nums .u8 l) hown y (by unfold maxLen; omega) hl HB.size
  have hc : nums .u8 (l ++ bytesOf y) = nums .u8 l ++ Lib.strCells y := by
    rw [nums_append]
    congr 1
    simp [nums, bytesOf, Lib.strCells]
  refine step_builtin_run .append #[s, x] #[46, 9] hgd ho #[v, .string y] (by simp [hs, hx]) (v' := v1) (w' := w1) (fun q => by simp [builtin, hrun]) (h v1 w1 ⟨fun _ _ => trivial, nums .u8 (l ++ bytesOf y), ?_, nums_reps _ _ _ _⟩ (HB.grown hg HB.size (own_base hown)) hg)
  rw [List.length_append, bytesOf_length, hc]
  exact hown1
def hdrL (a b : Int) (s u : ByteArray) : List Int := [a % 256, (b / 16777216) % 256, (b / 65536) % 256, (b / 256) % 256, b % 256] ++ bytesOf s ++ bytesOf u
theorem R_five (W : World) (b : Nat) (x0 x1 x2 x3 x4 : Int) (hb : b ≤ W.heap.size) : Kd.R (Kd.int .u8) 5 (W.alloc (.cells #[.int .u8 x0, .int .u8 x1, .int .u8 x2, .int .u8 x3, .int .u8 x4] 5)) b (fun _ => True) (.slice (some ⟨W.heap.size, 0, none⟩) 5 5) [x0, x1, x2, x3, x4] :=
  ⟨fun _ _ => trivial, nums .u8 [x0, x1, x2, x3, x4], by
    have h := World.ownsRow_lit (base := b) (e := 5) (size := 1) W #[.int .u8 x0, .int .u8 x1, .int .u8 x2, .int .u8 x3, .int .u8 x4] 5 hb (by simp [maxLen]) rfl
    exact h, nums_reps _ _ _ _⟩
set_option maxHeartbeats 8000000 in
set_option maxRecDepth 100000 in
theorem l06Bytes_calls (a b : Int) (s u : ByteArray) (w : World) (hl : s.size + u.size ≤ 1073741824) :
    Calls Try.prog 75 #[.agg #[.int .i64 a, .int .i64 b, .string s, .string u]] w fun e w' => ∃ v, e = .returned v ∧ Kd.R (Kd.int .u8) 5 w' w.heap.size (fun _ => True) v (hdrL a b s u) ∧ Below w.heap.size w w' := by
  have hu := Try.underlying65
  have hbs := bytesOf_length s
  have HBS := Aside0.mk hbs
  clear hbs
  go_enter Try.func75, Try.ntmps75
  go_wp2
  go_region_law (first
    | (refine step_str (w0 := w) (.tmp 23) (.tmp 25) (.slice (some ⟨(w.alloc (.cells #[.int .i64 a, .int .i64 b, .string s, .string u] 65)).heap.size, 0, none⟩) 5 5) [a % 256, (b / 16777216) % 256, (b / 65536) % 256, (b / 256) % 256, b % 256] s rfl rfl (by simp [Act.eval, Act.put]) (by simp [Act.eval, Act.put]) (by first | exact R_five (w.alloc (.cells #[.int .i64 a, .int .i64 b, .string s, .string u] 65)) _ _ _ _ _ _ (by simp) | exact Kd.R_drew (R_five (w.alloc (.cells #[.int .i64 a, .int .i64 b, .string s, .string u] 65)) _ _ _ _ _ _ (by simp)) | exact Kd.R_drewN (R_five (w.alloc (.cells #[.int .i64 a, .int .i64 b, .string s, .string u] 65)) _ _ _ _ _ _ (by simp)) _) (by first | exact below_drew (below_alloc (below_alloc (Below.refl _ w) _) _) | exact pw_below_drewN (below_alloc (below_alloc (Below.refl _ w) _) _) _) (by simp; omega) ?_; intro v1 w1 hR1 hb1 hg1; have hk : w1.heap[w.heap.size]? = some (.cells #[.int .i64 a, .int .i64 b, .string s, .string u] 65 (0, 0)) := (hg1.block _ (by simp <;> omega) (by simp [Value.ownBlock])).trans (by first | (rw [heap_alloc_old _ _ (by simp)]; exact heap_alloc_new w _) | (show (((w.alloc (.cells #[.int .i64 a, .int .i64 b, .string s, .string u] 65))).alloc _).heap[w.heap.size]? = _; rw [heap_alloc_old _ _ (by simp)]; exact heap_alloc_new w _)); have hld : w1.cell? ⟨w.heap.size, 3, none⟩ = some (.string u) := (mb_cell hk 3).trans rfl; have HR1 := Aside0.mk hR1; have HB1 := Aside0.mk hb1; clear hR1 hb1 hg1 hk)
    | (refine step_str (w0 := w) (.tmp 26) (.tmp 28) v1 ([a % 256, (b / 16777216) % 256, (b / 65536) % 256, (b / 256) % 256, b % 256] ++ bytesOf s) u rfl rfl (by simp [Act.eval, Act.put]) (by simp [Act.eval, Act.put]) HR1.out HB1.out (by have := HBS.out; simp; omega) ?_; intro v2 w2 hR2 hb2 hg2; have HR2 := Aside0.mk hR2; have HB2 := Aside0.mk hb2; clear hR2 hb2 hg2))
  all_goals
    go_wp2
    go_ret
    exact ⟨_, rfl, HR2.out, HB2.out⟩
def impl_HeaderBytes.f (k : Nat) (a b : Int) (s u : ByteArray) : Option (List Int × Int) :=
  (impl_HeaderOK.f a b s u).bind fun t => if t = true then (impl_Header_bytes.f k a b s u).bind fun r => (if r.size ≤ 9223372036854775807 then some (bytesOf r, 0) else none) else some ([], 1)
set_option maxHeartbeats 4000000 in
set_option maxRecDepth 100000 in
theorem impl_HeaderBytes.calls (k : Nat) (a b : Int) (s u : ByteArray) (r1 : List Int) (r2 : Int) (w : World) (h : impl_HeaderBytes.f k a b s u = some (r1, r2)) :
    Calls Try.prog 45 #[.agg #[.int .i64 a, .int .i64 b, .string s, .string u]] w fun e w' => ∃ v, e = .returned (.tuple #[v, .int .i64 r2]) ∧ MB w' w.heap.size v r1 ∧ Below w.heap.size w w' := by
  unfold impl_HeaderBytes.f at h
  obtain ⟨t, ht, h⟩ := Option.bind_eq_some_iff.1 h
  have hu := Try.underlying65
  have hub := Try.underlying46
  have huu := Try.underlying5
  have hus := Try.underlying9
  have HOK := Aside0.mk (fun W => impl_HeaderOK.calls a b s u t W ht)
  clear ht
  cases t with
  | true =>
    rw [if_pos rfl] at h
    obtain ⟨r, hr, h⟩ := Option.bind_eq_some_iff.1 h
    have HBY := Aside0.mk (fun W => impl_Header_bytes.calls k a b s u r W hr)
    by_cases hsz : r.size ≤ 9223372036854775807
    · rw [if_pos hsz] at h
      injection h with h
      injection h with e1 e2
      subst e1
      subst e2
      clear hr
      have hcv : ∀ W : World, (convert 9 46 (.string r)).run Try.prog W = .ok (.slice (some ⟨W.heap.size, 0, none⟩) r.size (grownCap W r.size 0 5)) (Lib.bytesWorld W 5 r) := fun W => Lib.run_convert_string_bytes W 9 46 5 r hus hub huu
      go_enter Try.func45, Try.ntmps45
      go_wp2_with (first
        | (go_at_call 76; refine (HOK.out _).mono ?_; rintro e w1 ⟨rfl, hb1⟩; have hx0 : w1.cell? ⟨w.heap.size, 0, none⟩ = some (.int .i64 a) := (hb1.cell (by simp)).trans ((mb_cell (heap_alloc_new w _) 0).trans rfl); have hx1 : w1.cell? ⟨w.heap.size, 1, none⟩ = some (.int .i64 b) := (hb1.cell (by simp)).trans ((mb_cell (heap_alloc_new w _) 1).trans rfl); have hx2 : w1.cell? ⟨w.heap.size, 2, none⟩ = some (.string s) := (hb1.cell (by simp)).trans ((mb_cell (heap_alloc_new w _) 2).trans rfl); have hx3 : w1.cell? ⟨w.heap.size, 3, none⟩ = some (.string u) := (hb1.cell (by simp)).trans ((mb_cell (heap_alloc_new w _) 3).trans rfl); have HB1 := Aside0.mk hb1; clear hb1)
        | (go_at_call 77; refine (HBY.out _).mono ?_; rintro e w2 ⟨rfl, hb2⟩; have HB2 := Aside0.mk hb2; clear hb2))
      go_ret2
      have hs1 : w.heap.size ≤ w1.heap.size := Nat.le_trans (by simp) HB1.out.size
      have hs2 : w.heap.size ≤ w2.heap.size := Nat.le_trans hs1 HB2.out.size
      have hb : Below w.heap.size w w2 := (((Below.refl _ w).alloc (Nat.le_refl _) _).trans (HB1.out.mono (by simp))).trans (HB2.out.mono hs1)
      exact ⟨_, rfl, MB_lower (MB_made w2 r hsz) hs2, hb.trans ((bytes_below w2 _ r).mono hs2)⟩
    · rw [if_neg hsz] at h
      cases h
  | false =>
    rw [if_neg (by simp)] at h
    injection h with h
    injection h with e1 e2
    subst e1
    subst e2
    go_enter Try.func45, Try.ntmps45
    go_wp2_with (go_at_call 76; refine (HOK.out _).mono ?_; rintro e w1 ⟨rfl, hb1⟩; have HB1 := Aside0.mk hb1; clear hb1)
    go_ret2
    exact ⟨_, rfl, .inl ⟨rfl, rfl⟩, ((Below.refl _ w).alloc (Nat.le_refl _) _).trans (HB1.out.mono (by simp))⟩
def spec_HeaderBytes.f (a b : Int) (s u : ByteArray) : Option (List Int × Int) :=
  (spec_HeaderOK.f a b s u).bind fun t => if t = true then (if s.size + u.size ≤ 1073741824 then some (hdrL a b s u, 0) else none) else some ([], 1)
set_option maxHeartbeats 4000000 in
set_option maxRecDepth 100000 in
theorem spec_HeaderBytes.calls (a b : Int) (s u : ByteArray) (r1 : List Int) (r2 : Int) (w : World) (h : spec_HeaderBytes.f a b s u = some (r1, r2)) :
    Calls Try.prog 43 #[.agg #[.int .i64 a, .int .i64 b, .string s, .string u]] w fun e w' => ∃ v0_ : Value, e = .returned (.tuple #[v0_, .int .i64 r2]) ∧ Kd.R (Kd.int .u8) 5 w' w.heap.size (fun _ => True) v0_ r1 ∧ Below w.heap.size w w' := by
  unfold spec_HeaderBytes.f at h
  obtain ⟨t, ht, h⟩ := Option.bind_eq_some_iff.1 h
  have hu := Try.underlying65
  have HOK := Aside0.mk (fun W => spec_HeaderOK.calls a b s u t W ht)
  clear ht
  cases t with
  | true =>
    rw [if_pos rfl] at h
    by_cases hsz : s.size + u.size ≤ 1073741824
    · rw [if_pos hsz] at h
      injection h with h
      injection h with e1 e2
      subst e1
      subst e2
      have HBY := Aside0.mk (fun W => l06Bytes_calls a b s u W hsz)
      go_enter Try.func43, Try.ntmps43
      go_wp2_with (first
        | (go_at_call 74; refine (HOK.out _).mono ?_; rintro e w1 ⟨rfl, hb1⟩; have hx0 : w1.cell? ⟨w.heap.size, 0, none⟩ = some (.int .i64 a) := (hb1.cell (by simp)).trans ((mb_cell (heap_alloc_new w _) 0).trans rfl); have hx1 : w1.cell? ⟨w.heap.size, 1, none⟩ = some (.int .i64 b) := (hb1.cell (by simp)).trans ((mb_cell (heap_alloc_new w _) 1).trans rfl); have hx2 : w1.cell? ⟨w.heap.size, 2, none⟩ = some (.string s) := (hb1.cell (by simp)).trans ((mb_cell (heap_alloc_new w _) 2).trans rfl); have hx3 : w1.cell? ⟨w.heap.size, 3, none⟩ = some (.string u) := (hb1.cell (by simp)).trans ((mb_cell (heap_alloc_new w _) 3).trans rfl); have HB1 := Aside0.mk hb1; clear hb1)
        | (go_at_call 75; refine (HBY.out _).mono ?_; rintro e w2 ⟨v, rfl, hR2, hb2⟩; have HR2 := Aside0.mk hR2; have HB2 := Aside0.mk hb2; clear hR2 hb2))
      go_ret2
      have hs1 : w.heap.size ≤ w1.heap.size := Nat.le_trans (by simp) HB1.out.size
      exact ⟨_, rfl, Kd.R_lower HR2.out hs1, (((Below.refl _ w).alloc (Nat.le_refl _) _).trans (HB1.out.mono (by simp))).trans (HB2.out.mono hs1)⟩
    · rw [if_neg hsz] at h
      cases h
  | false =>
    rw [if_neg (by simp)] at h
    injection h with h
    injection h with e1 e2
    subst e1
    subst e2
    go_enter Try.func43, Try.ntmps43
    go_wp2_with (go_at_call 74; refine (HOK.out _).mono ?_; rintro e w1 ⟨rfl, hb1⟩; have HB1 := Aside0.mk hb1; clear hb1)
    go_ret2
    have hs1 : w.heap.size ≤ w1.heap.size := Nat.le_trans (by simp) HB1.out.size
    refine ⟨_, rfl, ⟨fun _ _ => trivial, [], World.ownsRow_made w1 #[] 0 hs1 (Nat.zero_le _) (by simp), Reps.none _ _⟩, below_alloc (((Below.refl _ w).alloc (Nat.le_refl _) _).trans (HB1.out.mono (by simp))) _⟩
end Go.Proofs.Ytifkdlcalkccaaa.P
