/- The reference's bytes of a header, and its hash. -/
import Derived.Test.YtjmfkhjhhohnkaaEh
import Derived.Test.YtjmfkhjhhohnkaaMbs
import Derived.Test.YtjmfkhjhhohnkaaSlA
import Derived.Deep.RegionLaw
import Derived.Lib.AppendStr
import Derived.Lib.SlBytesConst
import Derived.ArgAppend
namespace Go.Proofs.Ytjmfkhjhhohnkaa.Q
open Go.RowKit Go.Proofs.YtjmfkhjhhohnkaaW.PrintWords Go.Proofs.YtjmfkhjhhohnkaaW.PrintLast Go.Proofs.YtjmfkhjhhohnkaaW.PrintMore
open Go.Proofs.Ytjmfkhjhhohnkaa.T (ssha sha)
set_option linter.unusedVariables false
set_option linter.unusedSimpArgs false
theorem reps_nums {w : World} {b : Nat} {ok : Nat → Prop} {l : List Int} {cs : List Value} (h : Reps ((Kd.int .u8).M w b ok) 1 l cs) : cs = nums .u8 l := by
  apply List.ext_getElem?
  intro j
  have hl := h.1
  rcases Nat.lt_or_ge j l.length with hj | hj
  · have h1 := h.2 j _ (List.getElem?_eq_getElem hj)
    have h2 : (cs.drop (j * 1)).take 1 = [.int .u8 l[j]] := h1
    have h3 : ((cs.drop (j * 1)).take 1)[0]? = some (.int .u8 l[j]) := by rw [h2]; rfl
    rw [List.getElem?_take, if_pos (by omega), List.getElem?_drop, Nat.mul_one, Nat.add_zero] at h3
    rw [h3]
    simp [nums, List.getElem?_eq_getElem hj]
  · rw [List.getElem?_eq_none (by omega), List.getElem?_eq_none (by simp [nums]; omega)]
theorem nums_reps (w : World) (b : Nat) (ok : Nat → Prop) (l : List Int) : Reps ((Kd.int .u8).M w b ok) 1 l (nums .u8 l) := by
  refine ⟨by simp [nums], fun j p hj => ?_⟩
  show ((nums .u8 l).drop (j * 1)).take 1 = [.int .u8 p]
  have hjl := (List.getElem?_eq_some_iff.1 hj).1
  apply List.ext_getElem?
  intro i
  rw [List.getElem?_take]
  split
  · have : i = 0 := by omega
    subst this
    rw [List.getElem?_drop, Nat.mul_one, Nat.add_zero]
    simp [nums, hj]
  · rw [List.getElem?_eq_none (by simp; omega)]
set_option maxRecDepth 100000 in
/-- append of a text, as a step of a region. -/
theorem step_str {W w0 : World} {ops : Array Oper} {o : Oper} {a : Act} {K : Act → World → Prop} {Q : Exit → Act → World → Prop} {E : Prop} (s x : Operand) (v : Value) (l : List Int) (y : ByteArray)
    (hgd : o.guard = none) (ho : o.op = .call { callee := .builtin .append, args := #[s, x], argTypes := #[22, 9] }) (hs : a.eval s = v) (hx : a.eval x = .string y)
    (HO : Kd.R (Kd.int .u8) 5 W w0.heap.size (fun _ => True) v l) (HB : Below w0.heap.size w0 W) (hl : l.length + y.size ≤ 140737488355328)
    (h : ∀ v1 w1, Kd.R (Kd.int .u8) 5 w1 w0.heap.size (fun _ => True) v1 (l ++ bytesOf y) → Below w0.heap.size w0 w1 → W.grownBy w1 v.ownBlock → K (a.put o.dst v1) w1) :
    if Region.wanted o (yielded ops a.tmps) = true then Oper.wp Try.prog o a W K Q else E := by
  obtain ⟨_, inner, hown, hr⟩ := HO
  have hin := reps_nums hr
  subst hin
  obtain ⟨i0, hi0, hzz⟩ := Option.map_eq_some_iff.1 info5
  simp only [Prod.mk.injEq] at hzz
  obtain ⟨hz0, hz1, hz2⟩ := hzz
  obtain ⟨v1, w1, hrun, hown1, hg, _⟩ := Lib.run_append_own_string (P := Try.prog) W w0.heap.size 22 9 o.type 5 i0 Try.underlying22 Try.underlying9 hi0 hz0 hz1 hz2 v l.length (nums .u8 l) hown y (by unfold maxLen; omega) hl HB.size
  have hc : nums .u8 (l ++ bytesOf y) = nums .u8 l ++ Lib.strCells y := by
    rw [nums_append]
    congr 1
    simp [nums, bytesOf, Lib.strCells]
  refine step_builtin_run .append #[s, x] #[22, 9] hgd ho #[v, .string y] (by simp [hs, hx]) (v' := v1) (w' := w1) (fun q => by simp [builtin, hrun]) (h v1 w1 ⟨fun _ _ => trivial, nums .u8 (l ++ bytesOf y), ?_, nums_reps _ _ _ _⟩ (HB.grown hg HB.size (own_base hown)) hg)
  rw [List.length_append, bytesOf_length, hc]
  exact hown1
def hdrL (a b : Int) (s u : ByteArray) : List Int := [a % 256, (b / 16777216) % 256, (b / 65536) % 256, (b / 256) % 256, b % 256] ++ bytesOf s ++ bytesOf u
theorem R_five (W : World) (b : Nat) (x0 x1 x2 x3 x4 : Int) (hb : b ≤ W.heap.size) : Kd.R (Kd.int .u8) 5 (W.alloc (.cells #[.int .u8 x0, .int .u8 x1, .int .u8 x2, .int .u8 x3, .int .u8 x4] 5)) b (fun _ => True) (.slice (some ⟨W.heap.size, 0, none⟩) 5 5) [x0, x1, x2, x3, x4] :=
  ⟨fun _ _ => trivial, nums .u8 [x0, x1, x2, x3, x4], by
    have h := World.ownsRow_lit (base := b) (e := 5) (size := 1) W #[.int .u8 x0, .int .u8 x1, .int .u8 x2, .int .u8 x3, .int .u8 x4] 5 hb (by simp [maxLen]) rfl
    exact h, nums_reps _ _ _ _⟩
set_option maxHeartbeats 8000000 in
set_option maxRecDepth 100000 in
theorem l06Bytes_calls (a b : Int) (s u : ByteArray) (w : World) (hl : s.size + u.size ≤ 1073741824) :
    Calls Try.prog 77 #[.agg #[.int .i64 a, .int .i64 b, .string s, .string u]] w fun e w' => ∃ v, e = .returned v ∧ Kd.R (Kd.int .u8) 5 w' w.heap.size (fun _ => True) v (hdrL a b s u) ∧ Below w.heap.size w w' := by
  have hu := Try.underlying41
  have hbs := bytesOf_length s
  have HBS := Aside0.mk hbs
  clear hbs
  go_enter Try.func77, Try.ntmps77
  go_wp2
  go_region_law (first
    | (refine step_str (w0 := w) (.tmp 23) (.tmp 25) (.slice (some ⟨(w.alloc (.cells #[.int .i64 a, .int .i64 b, .string s, .string u] 41)).heap.size, 0, none⟩) 5 5) [a % 256, (b / 16777216) % 256, (b / 65536) % 256, (b / 256) % 256, b % 256] s rfl rfl (by simp [Act.eval, Act.put]) (by simp [Act.eval, Act.put]) (by first | exact R_five (w.alloc (.cells #[.int .i64 a, .int .i64 b, .string s, .string u] 41)) _ _ _ _ _ _ (by simp) | exact Kd.R_drew (R_five (w.alloc (.cells #[.int .i64 a, .int .i64 b, .string s, .string u] 41)) _ _ _ _ _ _ (by simp)) | exact Kd.R_drewN (R_five (w.alloc (.cells #[.int .i64 a, .int .i64 b, .string s, .string u] 41)) _ _ _ _ _ _ (by simp)) _) (by first | exact below_drew (below_alloc (below_alloc (Below.refl _ w) _) _) | exact pw_below_drewN (below_alloc (below_alloc (Below.refl _ w) _) _) _) (by simp; omega) ?_; intro v1 w1 hR1 hb1 hg1; have hk : w1.heap[w.heap.size]? = some (.cells #[.int .i64 a, .int .i64 b, .string s, .string u] 41 (0, 0)) := (hg1.block _ (by simp <;> omega) (by simp [Value.ownBlock])).trans (by first | (rw [heap_alloc_old _ _ (by simp)]; exact heap_alloc_new w _) | (show (((w.alloc (.cells #[.int .i64 a, .int .i64 b, .string s, .string u] 41))).alloc _).heap[w.heap.size]? = _; rw [heap_alloc_old _ _ (by simp)]; exact heap_alloc_new w _)); have hld : w1.cell? ⟨w.heap.size, 3, none⟩ = some (.string u) := (mb_cell hk 3).trans rfl; have HR1 := Aside0.mk hR1; have HB1 := Aside0.mk hb1; clear hR1 hb1 hg1 hk)
    | (refine step_str (w0 := w) (.tmp 26) (.tmp 28) v1 ([a % 256, (b / 16777216) % 256, (b / 65536) % 256, (b / 256) % 256, b % 256] ++ bytesOf s) u rfl rfl (by simp [Act.eval, Act.put]) (by simp [Act.eval, Act.put]) HR1.out HB1.out (by have := HBS.out; simp; omega) ?_; intro v2 w2 hR2 hb2 hg2; have HR2 := Aside0.mk hR2; have HB2 := Aside0.mk hb2; clear hR2 hb2 hg2))
  all_goals
    go_wp2
    go_ret
    exact ⟨_, rfl, HR2.out, HB2.out⟩
theorem hash_l6 (w : World) (l : List Int) (n : Nat) (hn : l.length = n) (hs : n ≤ 1099511627776) (A : Option Addr) (c : Nat) (hc : n ≤ c) (hC : Kd.C (Kd.int .u8) w A n l) :
    Calls Try.prog 37 #[.slice A n c] w fun e w' => e = .returned (.string (ssha l)) ∧ Below w.heap.size w w' := by
  subst hn
  exact T.spec_l01Hash.walk A c l w hC hc hs
-- EXT loop.example/g00298/spec.l06Hash spec_l06Hash 1 0
def spec_l06Hash.f (a0_0 : Int) (a0_1 : Int) (a0_2 : ByteArray) (a0_3 : ByteArray) : Option ByteArray := if a0_2.size + a0_3.size ≤ 1000000 then some (ssha ([104, 101, 97, 100, 101, 114] ++ hdrL a0_0 a0_1 a0_2 a0_3)) else none
set_option maxHeartbeats 8000000 in
set_option maxRecDepth 100000 in
theorem spec_l06Hash.calls (a0_0 : Int) (a0_1 : Int) (a0_2 : ByteArray) (a0_3 : ByteArray) (r : ByteArray) (w : World) (h : spec_l06Hash.f a0_0 a0_1 a0_2 a0_3 = some r) :
    Calls Try.prog 46 #[.agg #[.int .i64 a0_0, .int .i64 a0_1, .string a0_2, .string a0_3]] w fun e w' => e = .returned (.string r) ∧ Below w.heap.size w w' := by
  unfold spec_l06Hash.f at h
  split at h
  case isFalse => cases h
  case isTrue hs =>
    injection h with h
    subst h
    obtain ⟨L, hL⟩ : ∃ L, L = hdrL a0_0 a0_1 a0_2 a0_3 := ⟨_, rfl⟩
    have hl : L.length = 5 + a0_2.size + a0_3.size := by rw [hL]; unfold hdrL; simp [bytesOf_length]; omega
    have HLL := Aside0.mk (show L.length ≤ 1000005 by omega)
    have HBY := Aside0.mk (fun W => l06Bytes_calls a0_0 a0_1 a0_2 a0_3 W (by omega))
    have HLP := Aside0.mk (show 0 < L.length by omega)
    rw [← hL] at HBY ⊢
    have hu := Try.underlying41
    obtain ⟨n6, hn6⟩ : ∃ n, L.length = n := ⟨_, rfl⟩
    obtain ⟨n7, hn7⟩ : ∃ n, (([104, 101, 97, 100, 101, 114] : List Int) ++ L).length = n := ⟨_, rfl⟩
    have HN6 := Aside0.mk hn6
    have HN7 := Aside0.mk hn7
    have HB7 := Aside0.mk (show n7 ≤ 1000020 by rw [← hn7]; simp; have := HLL.out; omega)
    have HN76 := Aside0.mk (show n7 = 6 + n6 by rw [← hn7, ← hn6]; simp; omega)
    clear hl hL hs hn6 hn7
    go_enter Try.func46, Try.ntmps46
    have hcv : (convert 22 22 (.slice (some ⟨w.heap.size + 1, 0, none⟩) 6 6)).run Try.prog ((w.alloc (.cells #[.int .i64 a0_0, .int .i64 a0_1, .string a0_2, .string a0_3] 41)).alloc (.cells #[.int .u8 104, .int .u8 101, .int .u8 97, .int .u8 100, .int .u8 101, .int .u8 114] 5)) = .ok (.slice (some ⟨w.heap.size + 1, 0, none⟩) 6 6) ((w.alloc (.cells #[.int .i64 a0_0, .int .i64 a0_1, .string a0_2, .string a0_3] 41)).alloc (.cells #[.int .u8 104, .int .u8 101, .int .u8 97, .int .u8 100, .int .u8 101, .int .u8 114] 5 (6, 7))) := by
      have := Lib.run_convert_bytes_const (P := Try.prog) (w.alloc (.cells #[.int .i64 a0_0, .int .i64 a0_1, .string a0_2, .string a0_3] 41)) 22 5 #[.int .u8 104, .int .u8 101, .int .u8 97, .int .u8 100, .int .u8 101, .int .u8 114] 6 6 Try.underlying22 Try.underlying5
      rw [show (w.alloc (.cells #[.int .i64 a0_0, .int .i64 a0_1, .string a0_2, .string a0_3] 41)).heap.size = w.heap.size + 1 by show (w.heap.push _).size = _; simp] at this
      exact this
    go_wp2_with fail
    refine (HBY.out _).mono ?_
    rintro e w6 ⟨v6, rfl, hR6, hb6⟩
    clear hcv
    obtain ⟨g6, c6, hv6, _, _, _⟩ := Kd.R_form hR6 HLP.out
    subst hv6
    have HNEW : Aside0 (∀ j u, (encs (Value.int .u8) L)[j]? = some u → w6.cell? ((⟨g6, 0, none⟩ : Addr).add j) = some u) := by
      refine ⟨fun j u hj => ?_⟩
      have hjl : j < L.length := by
        have := (List.getElem?_eq_some_iff.1 hj).1
        simpa [encs] using this
      have h1 := (Kd.R_celln 0 hR6 (j : Int) (by omega) (by omega)).1
      have h2 : u = .int .u8 L[j] := by
        simp only [encs, List.getElem?_map, List.getElem?_eq_getElem hjl, Option.map_some] at hj
        exact (Option.some.inj hj).symm
      rw [add_plain, h2]
      rw [Int.toNat_natCast] at h1
      rw [h1]
      simp [rdOf, List.getD, hjl]
    have HOLD : Aside0 (∀ b, (some ⟨w.heap.size + 1, 0, none⟩ : Option Addr) = some b → ∀ j u, ([.int .u8 104, .int .u8 101, .int .u8 97, .int .u8 100, .int .u8 101, .int .u8 114] : List Value)[j]? = some u → w6.cell? (b.add j) = some u) := by
      refine ⟨fun b hb j u hj => ?_⟩
      injection hb with hb
      subst hb
      rw [add_plain]
      have hsz : (w.alloc (.cells #[.int .i64 a0_0, .int .i64 a0_1, .string a0_2, .string a0_3] 41)).heap.size = w.heap.size + 1 := by show (w.heap.push _).size = _; simp
      have h1 := heap_alloc_last (w.alloc (.cells #[.int .i64 a0_0, .int .i64 a0_1, .string a0_2, .string a0_3] 41)) (.cells #[.int .u8 104, .int .u8 101, .int .u8 97, .int .u8 100, .int .u8 101, .int .u8 114] 5 (6, 7))
      rw [hsz] at h1
      have h2 := (hb6.block (w.heap.size + 1) (blk_lt h1)).trans h1
      rw [mb_cell h2]
      simpa using hj
    have HB6 := Aside0.mk (show Below w.heap.size w w6 from ((below_alloc (below_alloc (Below.refl _ _) _) _).trans (hb6.mono (by simp; omega))))
    clear hR6 hb6
    rw [HN6.out]
    obtain ⟨i0, hi0, hz0⟩ := Option.map_eq_some_iff.1 (show (Try.prog.info? 5).map (fun i => (i.zero, i.size, i.bytes)) = some (some (.int .u8 0), 1, 1) by kernel_rfl)
    simp only [Prod.mk.injEq] at hz0
    have HI := Aside0.mk hi0
    have HZ0 := Aside0.mk hz0
    clear hi0 hz0
    go_wp2_with (first
      | ((with_reducible refine gate_dst (N := 7) rfl ?_); refine wpList_append_grows _ rfl (.tmp 4) (.tmp 6) 22 rfl 5 i0 (.int .u8 0) 1 1 Try.underlying22 HI.out HZ0.out.1 HZ0.out.2.1 HZ0.out.2.2 rfl (by decide) (some ⟨w.heap.size + 1, 0, none⟩) 6 6 [.int .u8 104, .int .u8 101, .int .u8 97, .int .u8 100, .int .u8 101, .int .u8 114] rfl (by simp) rfl HOLD.out ⟨g6, 0, none⟩ n6 c6 (encs (Value.int .u8) L) rfl (by rw [encs_length, HN6.out, Nat.mul_one]) HNEW.out (by intro u hu; simp only [encs, List.mem_map] at hu; obtain ⟨y, _, rfl⟩ := hu; rfl) (by have := HLP.out; have := HN6.out; omega) (by have := HLL.out; have := HN6.out; unfold maxLen; omega) (by have := HLL.out; have := HN6.out; omega) ?_; intro v7 w7 hown hgr; replace hown := Aside0.mk hown; replace hgr := Aside0.mk hgr; obtain ⟨A7, c7, hv7, hc7, hC7⟩ := Kd.R_reads (Kd.R_of_own (h1 := fun _ => rfl) (enc := Value.int .u8) (xs := ([104, 101, 97, 100, 101, 114] : List Int) ++ L) (ok := fun _ => True) (by rw [HN7.out, HN76.out]; have := hown.out; simpa [encs] using this) (fun _ _ => trivial)); subst hv7; rw [HN7.out] at hC7 hc7 ⊢; have HC7 := Aside0.mk hC7; have HCC7 := Aside0.mk hc7; clear hC7 hc7)
      | (go_at_call 37; refine (hash_l6 _ _ n7 HN7.out (by have := HB7.out; omega) A7 c7 HCC7.out HC7.out).mono ?_; rintro e w8 ⟨rfl, hb8⟩; have HB8 := Aside0.mk hb8; clear hb8))
    go_ret
    exact ⟨rfl, below_step (HB6.out.grown hgr.out HB6.out.size (by simp)) HB8.out⟩
end Go.Proofs.Ytjmfkhjhhohnkaa.Q
