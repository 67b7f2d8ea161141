/- The contracts of spec.StoreDrop and spec.StorePut (and of what they call). -/
import Derived.Test.YtifkdlcalkccaaaS7
import Derived.Test.YtifkdlcalkccaaaSE5
import Derived.Deep.RegionLaw
import Derived.Deep.QuietTactic
import Derived.BigQuiet
namespace Go.Proofs.Ytifkdlcalkccaaa.S
open Go.RowKit Go.Proofs.YtifkdlcalkccaaaW.PrintWords Go.Proofs.YtifkdlcalkccaaaW.PrintLast Go.Proofs.YtifkdlcalkccaaaW.PrintMore
set_option linter.unusedVariables false
set_option linter.unusedSimpArgs false
/-- A value that reads as a row of pairs. -/
def RV (W : World) (v : Value) (r : List S50) : Prop := ∃ A c, v = .slice A r.length c ∧ r.length ≤ c ∧ Kd.C k50 W A r.length r
theorem RV_of_R {W : World} {b : Nat} {ok : Nat → Prop} {v : Value} {r : List S50} (h : Kd.R k50 50 W b ok v r) : RV W v r := Kd.R_reads h
theorem R_made (W : World) (b : Nat) (hb : b ≤ W.heap.size) : Kd.R k50 50 (W.alloc (.cells #[] 50)) b (fun _ => True) (.slice (some ⟨W.heap.size, 0, none⟩) 0 0) ([] : List S50) :=
  ⟨fun _ _ => trivial, [], World.ownsRow_made W #[] 0 hb (Nat.zero_le _) (by simp), Reps.none _ _⟩
theorem C_pair (W : World) (s0 s1 : ByteArray) : Kd.C k50 (W.alloc (.cells #[.string s0, .string s1] 50)) (some ⟨W.heap.size, 0, none⟩) 1 [(⟨s0, s1⟩ : S50)] := by
  refine ⟨rfl, by omega, fun _ => ⟨_, rfl, fun j p hj => ?_⟩⟩
  cases j with
  | zero =>
    simp at hj
    subst hj
    refine ⟨[.string s0, .string s1], rfl, k50_mk _ _, fun i u hi => ?_⟩
    rw [Addr.add_lit]
    have := pair_cells (heap_alloc_new W (.cells #[.string s0, .string s1] 50)) i u hi
    simpa using this
  | succ j => simp at hj
/-- append of a row that is read, as a step of a region. -/
theorem step_rows {W w0 : World} {ops : Array Oper} {o : Oper} {a : Act} {K : Act → World → Prop} {Q : Exit → Act → World → Prop} (s x : Operand) (v : Value) (xs ys : List S50) (A : Option Addr) (c : Nat)
    (hgd : o.guard = none) (ho : o.op = .call { callee := .builtin .append, args := #[s, x], argTypes := #[25, 25] }) (hs : a.eval s = v) (hx : a.eval x = .slice A ys.length c)
    (HO : Kd.R k50 50 W w0.heap.size (fun _ => True) v xs) (HR : Kd.C k50 W A ys.length ys) (HB : Below w0.heap.size w0 W) (hl : (xs.length + ys.length) * 32 ≤ 140737488355328)
    (h : ∀ v1 w1, Kd.R k50 50 w1 w0.heap.size (fun _ => True) v1 (xs ++ ys) → Below w0.heap.size w0 w1 → W.grownBy w1 v.ownBlock → K (a.put o.dst v1) w1) :
    if Region.wanted o (yielded ops a.tmps) = true then Oper.wp Try.prog o a W K Q else K (a.put o.dst undef) W :=
  Kd.R_append_rows_step k50 (w0 := w0) w0.heap.size (by simp [Region.wanted, hgd]) s x 25 50 (.agg #[(.string ⟨#[]⟩), (.string ⟨#[]⟩)]) 32 ho Try.underlying25 info50 rfl (by decide) (by omega) v xs ys A ys.length c (fun _ => True) (fun _ => False) hs hx HO HR
    (fun x cs h => by obtain rfl := k50_open h; exact k50_mkM _ _ _ _) (fun _ h => h.elim) (fun _ _ => trivial) HB HB.size hl (fun v1 w1 h1 h2 h3 _ => h v1 w1 h1 h2 h3)

theorem wpList_rows {W w0 : World} {ops : Array Oper} {rest : List Oper} {o : Oper} {a : Act} {Q : Exit → Act → World → Prop} (s x : Operand) (v : Value) (xs ys : List S50) (A : Option Addr) (c : Nat)
    (hgd : o.guard = none) (ho : o.op = .call { callee := .builtin .append, args := #[s, x], argTypes := #[25, 25] }) (hs : a.eval s = v) (hx : a.eval x = .slice A ys.length c)
    (HO : Kd.R k50 50 W w0.heap.size (fun _ => True) v xs) (HR : Kd.C k50 W A ys.length ys) (HB : Below w0.heap.size w0 W) (hl : (xs.length + ys.length) * 32 ≤ 140737488355328)
    (h : ∀ v1 w1, Kd.R k50 50 w1 w0.heap.size (fun _ => True) v1 (xs ++ ys) → Below w0.heap.size w0 w1 → W.grownBy w1 v.ownBlock → wpList Try.prog ops Q rest (a.put o.dst v1) w1) :
    wpList Try.prog ops Q (o :: rest) a W :=
  Kd.R_append_rows k50 (w0 := w0) w0.heap.size hgd s x 25 50 (.agg #[(.string ⟨#[]⟩), (.string ⟨#[]⟩)]) 32 ho Try.underlying25 info50 rfl (by decide) (by omega) v xs ys A ys.length c (fun _ => True) (fun _ => False) hs hx HO HR
    (fun x cs h => by obtain rfl := k50_open h; exact k50_mkM _ _ _ _) (fun _ h => h.elim) (fun _ _ => trivial) HB HB.size hl (fun v1 w1 h1 h2 h3 _ => h v1 w1 h1 h2 h3)
theorem C_pair_grown {W W1 W2 : World} {v : Value} {s0 s1 : ByteArray} (hW : W1.heap[W.heap.size]? = (W.alloc (.cells #[.string s0, .string s1] 50)).heap[W.heap.size]?) (hlt : W.heap.size < W1.heap.size) (hg : W1.grownBy W2 v.ownBlock) (hne : some W.heap.size ≠ v.ownBlock) : Kd.C k50 W2 (some ⟨W.heap.size, 0, none⟩) 1 [(⟨s0, s1⟩ : S50)] := by
  have h2 : W2.heap[W.heap.size]? = some (.cells #[.string s0, .string s1] 50 (0, 0)) := by rw [hg.block _ hlt hne, hW]; exact heap_alloc_new W _
  refine ⟨rfl, by omega, fun _ => ⟨_, rfl, fun j p hj => ?_⟩⟩
  cases j with
  | zero =>
    simp at hj
    subst hj
    refine ⟨[.string s0, .string s1], rfl, k50_mk _ _, fun i u hi => ?_⟩
    rw [Addr.add_lit]
    have := pair_cells h2 i u hi
    simpa using this
  | succ j => simp at hj
set_option maxHeartbeats 4000000 in
set_option maxRecDepth 100000 in
theorem l03Drop_none (k : Nat) (A0 : Option Addr) (c0 : Nat) (l0 : List S50) (a1 : ByteArray) (t : Nat) (w : World) (hr0 : Kd.C k50 w A0 l0.length l0) (hc0 : l0.length ≤ c0) (ht : spec_l03At.f k l0 a1 = some (t : Int)) (htl : t ≤ l0.length)
    (hq : ∀ h : t < l0.length, ((l0[t]'h).f0.toList == a1.toList) = false) :
    Calls Try.prog 63 #[.slice A0 l0.length c0, .string a1] w fun e w' => e = .returned (.tuple #[.slice A0 l0.length c0, .int .i64 5]) ∧ Drawn0 w w' := by
  have HAT := spec_l03At.calls k A0 c0 l0 a1 (t : Int) w hr0 hc0 ht
  have hu := Try.underlying25
  have hu2 := Try.underlying50
  by_cases hlt : t < l0.length
  · have hq1 := hq hlt
    have hq2 : ((l0[t]'hlt).f0.toList != a1.toList) = true := by rw [bne, hq1]; rfl
    obtain ⟨ad, hA, hx0, hx1⟩ := at_T50 hr0 (t : Int) (by omega) (by omega)
    subst hA
    have hrd : rd_T50 l0 (t : Int) = l0[t] := by simp [rd_T50, List.getD, List.getElem?_eq_getElem hlt]
    rw [hrd] at hx0
    simp only [Int.toNat_natCast] at hx0
    clear hx1 hrd hq
    generalize l0[t].f0 = s0 at hq1 hq2 hx0
    generalize l0.length = n at *
    have h1 : (0 : Int) ≤ (t : Int) := by omega
    have h2 : (t : Int) < (n : Int) := by omega
    have h3 : ((t : Int) == (n : Int)) = false := by simp; omega
    clear hr0
    go_enter Try.func63, Try.ntmps63
    go_wp2_with (go_at_call 82; refine HAT.mono ?_; rintro e w' ⟨rfl, hd⟩; have HD := Aside0.mk hd; obtain ⟨⟨nd, rfl⟩⟩ := hd)
    go_ret2
    exact ⟨rfl, HD.out⟩
  · obtain rfl : t = l0.length := by omega
    clear hr0 hq ht
    generalize l0.length = n at *
    go_enter Try.func63, Try.ntmps63
    go_wp2_with (go_at_call 82; refine HAT.mono ?_; rintro e w' ⟨rfl, hd⟩; have HD := Aside0.mk hd; obtain ⟨⟨nd, rfl⟩⟩ := hd)
    go_ret2
    exact ⟨rfl, HD.out⟩
set_option maxHeartbeats 8000000 in
set_option maxRecDepth 100000 in
theorem l03Drop_some (k : Nat) (A0 : Option Addr) (c0 : Nat) (l0 : List S50) (a1 : ByteArray) (t : Nat) (w : World) (hr0 : Kd.C k50 w A0 l0.length l0) (hc0 : l0.length ≤ c0) (ht : spec_l03At.f k l0 a1 = some (t : Int)) (hlt : t < l0.length)
    (hq : (l0[t].f0.toList == a1.toList) = true) (hl : l0.length * 32 ≤ 140737488355328) :
    Calls Try.prog 63 #[.slice A0 l0.length c0, .string a1] w fun e w' => ∃ v, e = .returned (.tuple #[v, .int .i64 0]) ∧ Kd.R k50 50 w' w.heap.size (fun _ => True) v (l0.take t ++ l0.drop (t + 1)) ∧ Below w.heap.size w w' := by
  have HAT := spec_l03At.calls k A0 c0 l0 a1 (t : Int) w hr0 hc0 ht
  have hu := Try.underlying25
  have hu2 := Try.underlying50
  have hq2 : (l0[t].f0.toList != a1.toList) = false := by rw [bne, hq]; rfl
  obtain ⟨ad, hA, hx0, hx1⟩ := at_T50 hr0 (t : Int) (by omega) (by omega)
  subst hA
  have hrd : rd_T50 l0 (t : Int) = l0[t] := by simp [rd_T50, List.getD, List.getElem?_eq_getElem hlt]
  rw [hrd] at hx0
  simp only [Int.toNat_natCast] at hx0
  have hC1 := Kd.C_take (m := t) hr0 (by omega)
  have hC2 := Kd.C_drop (m := t + 1) (c := c0) hr0 (by omega) hc0
  have hl1 : (l0.take t).length = t := by rw [List.length_take]; omega
  have hl2 : (l0.drop (t + 1)).length = l0.length - (t + 1) := by rw [List.length_drop]
  clear hx1 hrd ht
  generalize l0[t].f0 = s0 at hq hq2 hx0
  generalize l0.take t = xs at *
  generalize l0.drop (t + 1) = ys at *
  obtain ⟨A2, hA2, HC2⟩ : ∃ A2, (if c0 = t + 1 then (some ad : Option Addr) else some (ad.add ((t + 1) * 2))) = A2 ∧ Aside0 (Kd.C k50 w A2 ys.length ys) := ⟨_, rfl, ⟨hC2⟩⟩
  have HC1 := Aside0.mk hC1
  clear hC1 hC2 hr0
  generalize l0.length = n at *
  rw [hl1] at HC1
  rw [hl2] at HC2
  have h1 : (0 : Int) ≤ (t : Int) := by omega
  have h2 : (t : Int) < (n : Int) := by omega
  have h3 : ((t : Int) == (n : Int)) = false := by simp; omega
  have h4 : (t : Int) ≤ (c0 : Int) := by omega
  have h5 : (t : Int) + 1 ≤ (n : Int) := by omega
  have h6 : IntKind.i64.wrap ((t : Int) + 1) = (t : Int) + 1 := by rw [IntKind.wrap_i64]; omega
  have h7 : (0 : Int) ≤ (t : Int) + 1 := by omega
  have h8 : ((t : Int) + 1).toNat = t + 1 := by omega
  have h9 : (t : Int) ≤ (n : Int) := by omega
  have HL1 := Aside0.mk hl1
  have HL2 := Aside0.mk hl2
  clear hl1 hl2
  go_enter Try.func63, Try.ntmps63
  go_wp2_with (go_at_call 82; refine HAT.mono ?_; rintro e w' ⟨rfl, hd⟩; obtain ⟨⟨nd, rfl⟩⟩ := hd)
  go_region_law (first
    | (refine step_rows (w0 := w) (.tmp 24) (.tmp 27) _ [] xs (some ad) c0 rfl rfl rfl (by rw [HL1.out]; simp [Act.eval, Act.put]) (R_made _ _ (by simp)) (by rw [HL1.out]; exact Kd.C_alloc (Kd.C_drew (Kd.C_drewN HC1.out _)) _) (by repeat (first | exact Below.refl _ _ | apply pw_below_drewN | apply below_drew1 | apply below_alloc)) (by have := HL1.out; simp; omega) ?_; intro v1 w1 hR1 hb1 hg1; have HR1 := Aside0.mk hR1; have HB1 := Aside0.mk hb1; clear hR1 hb1 hg1)
    | (refine step_rows (w0 := w) (.tmp 28) (.tmp 32) _ ([] ++ xs) ys A2 (c0 - (t + 1)) rfl rfl rfl (by rw [HL2.out]; simp [Act.eval, Act.put, hA2]; done) HR1.out (by rw [HL2.out]; exact Kd.C_below HC2.out HB1.out) HB1.out (by have := HL1.out; have := HL2.out; simp; omega) ?_; intro v2 w2 hR2 hb2 hg2; have HR2 := Aside0.mk hR2; have HB2 := Aside0.mk hb2; clear hR2 hb2 hg2))
  go_wp2
  go_ret2
  exact ⟨_, rfl, HR2.out, HB2.out⟩
set_option maxHeartbeats 8000000 in
set_option maxRecDepth 100000 in
theorem l03Put_set (k : Nat) (A0 : Option Addr) (c0 : Nat) (l0 : List S50) (a1 a2 : ByteArray) (t : Nat) (w : World) (hr0 : Kd.C k50 w A0 l0.length l0) (hc0 : l0.length ≤ c0) (ht : spec_l03At.f k l0 a1 = some (t : Int)) (hlt : t < l0.length)
    (hq : (l0[t].f0.toList == a1.toList) = true) (hl : l0.length * 32 ≤ 140737488355328) :
    Calls Try.prog 65 #[.slice A0 l0.length c0, .string a1, .string a2] w fun e w' => ∃ v, e = .returned (.tuple #[v, .int .i64 0]) ∧ Kd.R k50 50 w' w.heap.size (fun _ => True) v (l0.set t ⟨(l0.getD t z50).f0, a2⟩) ∧ Below w.heap.size w w' := by
  have HAT := spec_l03At.calls k A0 c0 l0 a1 (t : Int) w hr0 hc0 ht
  have hu := Try.underlying25
  have hu2 := Try.underlying50
  obtain ⟨ad, hA, hx0, hx1⟩ := at_T50 hr0 (t : Int) (by omega) (by omega)
  subst hA
  have hrd : rd_T50 l0 (t : Int) = l0[t] := by simp [rd_T50, List.getD, List.getElem?_eq_getElem hlt]
  rw [hrd] at hx0
  simp only [Int.toNat_natCast] at hx0
  have HSR := Aside0.mk (fun (W : World) (base g c : Nat) (ok : Nat → Prop) (hR : Kd.R k50 50 W base ok (.slice (some ⟨g, 0, none⟩) l0.length c) l0) => set_R (u := a2) hR hlt)
  have HFR := Aside0.mk (fun (W : World) (base c : Nat) (ok : Nat → Prop) (A : Option Addr) (hR : Kd.R k50 50 W base ok (.slice A l0.length c) l0) => first_R hR (by omega))
  have HC := Aside0.mk hr0
  clear hx1 hrd ht
  generalize l0[t].f0 = s0 at hq hx0
  generalize hn : l0.length = n at *
  have HN := Aside0.mk hn
  clear hn hr0
  have h1 : (0 : Int) ≤ (t : Int) := by omega
  have h2 : (t : Int) < (n : Int) := by omega
  go_enter Try.func65, Try.ntmps65
  go_wp2_with (first
    | (go_at_call 82; refine HAT.mono ?_; rintro e w' ⟨rfl, hd⟩; obtain ⟨⟨nd, rfl⟩⟩ := hd)
    | (at_builtin; refine wpList_rows (w0 := w) (.tmp 26) (.tmp 27) _ [] l0 (some ad) c0 rfl rfl rfl (by rw [HN.out]; rfl) (R_made _ _ (by simp)) (by rw [HN.out]; exact Kd.C_alloc (Kd.C_drewN HC.out _) _) (by repeat (first | exact Below.refl _ _ | apply pw_below_drewN | apply below_drew1 | apply below_alloc)) (by have := HN.out; simp; omega) ?_; intro v1 w1 hR1 hb1 hg1; rw [List.nil_append] at hR1; obtain ⟨A1, c1, rfl, hl1, _⟩ := Kd.R_reads hR1; rw [HN.out] at hl1 hR1 ⊢; obtain ⟨g, rfl⟩ := HFR.out _ _ _ _ _ hR1; obtain ⟨hS, hbg, hfz, x, hx⟩ := HSR.out _ _ _ _ _ hR1; simp only [Nat.zero_add] at hS hfz hx; have HS := Aside0.mk hS; have HBG := Aside0.mk hbg; have HB1 := Aside0.mk hb1; clear hS hbg hR1 hb1 hg1))
  go_ret2
  exact ⟨_, rfl, by first | exact HS.out | (rw [← HN.out]; exact HS.out), Below.setCell HB1.out HBG.out _⟩
set_option maxHeartbeats 4000000 in
set_option maxRecDepth 100000 in
theorem l03Put_full (k : Nat) (A0 : Option Addr) (c0 : Nat) (l0 : List S50) (a1 a2 : ByteArray) (t : Nat) (w : World) (hr0 : Kd.C k50 w A0 l0.length l0) (hc0 : l0.length ≤ c0) (ht : spec_l03At.f k l0 a1 = some (t : Int)) (htl : t ≤ l0.length)
    (hq : ∀ h : t < l0.length, ((l0[t]'h).f0.toList == a1.toList) = false) (hf : l0.length = 400) :
    Calls Try.prog 65 #[.slice A0 l0.length c0, .string a1, .string a2] w fun e w' => e = .returned (.tuple #[.slice A0 l0.length c0, .int .i64 7]) ∧ Drawn0 w w' := by
  have HAT := spec_l03At.calls k A0 c0 l0 a1 (t : Int) w hr0 hc0 ht
  have hu := Try.underlying25
  have hu2 := Try.underlying50
  by_cases hlt : t < l0.length
  · have hq1 := hq hlt
    obtain ⟨ad, hA, hx0, hx1⟩ := at_T50 hr0 (t : Int) (by omega) (by omega)
    subst hA
    have hrd : rd_T50 l0 (t : Int) = l0[t] := by simp [rd_T50, List.getD, List.getElem?_eq_getElem hlt]
    rw [hrd] at hx0
    simp only [Int.toNat_natCast] at hx0
    clear hx1 hrd hq
    generalize l0[t].f0 = s0 at hq1 hx0
    generalize l0.length = n at *
    subst hf
    have h1 : (0 : Int) ≤ (t : Int) := by omega
    have h2 : (t : Int) < 400 := by omega
    clear hr0
    go_enter Try.func65, Try.ntmps65
    go_wp2_with (go_at_call 82; refine HAT.mono ?_; rintro e w' ⟨rfl, hd⟩; have HD := Aside0.mk hd; obtain ⟨⟨nd, rfl⟩⟩ := hd)
    go_ret2
    exact ⟨rfl, HD.out⟩
  · obtain rfl : t = l0.length := by omega
    clear hr0 hq ht
    generalize l0.length = n at *
    subst hf
    go_enter Try.func65, Try.ntmps65
    go_wp2_with (go_at_call 82; refine HAT.mono ?_; rintro e w' ⟨rfl, hd⟩; have HD := Aside0.mk hd; obtain ⟨⟨nd, rfl⟩⟩ := hd)
    go_ret2
    exact ⟨rfl, HD.out⟩
set_option maxHeartbeats 8000000 in
set_option maxRecDepth 100000 in
theorem l03Put_ins (k : Nat) (A0 : Option Addr) (c0 : Nat) (l0 : List S50) (a1 a2 : ByteArray) (t : Nat) (w : World) (hr0 : Kd.C k50 w A0 l0.length l0) (hc0 : l0.length ≤ c0) (ht : spec_l03At.f k l0 a1 = some (t : Int)) (htl : t ≤ l0.length)
    (hq : ∀ h : t < l0.length, ((l0[t]'h).f0.toList == a1.toList) = false) (hf : l0.length ≠ 400) (hl : (l0.length + 1) * 32 ≤ 140737488355328) :
    Calls Try.prog 65 #[.slice A0 l0.length c0, .string a1, .string a2] w fun e w' => ∃ v, e = .returned (.tuple #[v, .int .i64 0]) ∧ Kd.R k50 50 w' w.heap.size (fun _ => True) v (l0.take t ++ ⟨a1, a2⟩ :: l0.drop t) ∧ Below w.heap.size w w' := by
  have HAT := spec_l03At.calls k A0 c0 l0 a1 (t : Int) w hr0 hc0 ht
  have hu := Try.underlying25
  have hu2 := Try.underlying50
  have hC1 := Kd.C_take (m := t) hr0 (by omega)
  have hC2 := Kd.C_drop (m := t) (c := c0) hr0 (by omega) hc0
  have hl1 : (l0.take t).length = t := by rw [List.length_take]; omega
  have hl2 : (l0.drop t).length = l0.length - t := by rw [List.length_drop]
  have hres : l0.take t ++ ⟨a1, a2⟩ :: l0.drop t = [] ++ l0.take t ++ [⟨a1, a2⟩] ++ l0.drop t := by simp
  have hA0 : A0 = none → l0.length = 0 := fun e => by
    rcases Nat.eq_zero_or_pos l0.length with h | h
    · exact h
    · obtain ⟨ad, e', _⟩ := hr0.2.2 h
      rw [e] at e'
      cases e'
  have hcell : ∀ h : t < l0.length, ∃ ad s0, A0 = some ad ∧ w.cell? (ad.add (t * 2)) = some (.string s0) ∧ (s0.toList == a1.toList) = false := fun h => by
    obtain ⟨ad, hA, hx0, hx1⟩ := at_T50 hr0 (t : Int) (by omega) (by omega)
    have hrd : rd_T50 l0 (t : Int) = l0[t] := by simp [rd_T50, List.getD, List.getElem?_eq_getElem h]
    rw [hrd] at hx0
    exact ⟨ad, _, hA, hx0, hq h⟩
  rw [hres]
  clear hq ht hr0 hres
  generalize l0.take t = xs at *
  generalize l0.drop t = ys at *
  have hA : ∃ A2, (∀ a, A0 = some a → (if c0 = t then (some a : Option Addr) else some (a.add (t * 2))) = A2) ∧ (A0 = none → A2 = none) ∧ Kd.C k50 w A2 ys.length ys := by
    refine ⟨_, ?_, ?_, hC2⟩
    · intro a ha; subst ha; rfl
    · intro ha; subst ha; split <;> rfl
  obtain ⟨A2, hAs, hAn, hC2'⟩ := hA
  have HC1 := Aside0.mk hC1
  have HC2 := Aside0.mk hC2'
  clear hC1 hC2 hC2'
  generalize l0.length = n at *
  rw [hl1] at HC1
  rw [hl2] at HC2
  have HL1 := Aside0.mk hl1
  have HL2 := Aside0.mk hl2
  clear hl1 hl2
  have h1 : (0 : Int) ≤ (t : Int) := by omega
  have h4 : (t : Int) ≤ (c0 : Int) := by omega
  have h5 : ((n : Int) == 400) = false := by simp; omega
  have h9 : (t : Int) ≤ (n : Int) := by omega
  clear hf
  by_cases hlt : t < n
  · obtain ⟨ad, s0, hA, hx0, hq1⟩ := hcell hlt
    subst hA
    have hA2 := hAs ad rfl
    have h2 : (t : Int) < (n : Int) := by omega
    clear hcell hAs hAn hA0
    go_enter Try.func65, Try.ntmps65
    go_wp2_with (go_at_call 82; refine HAT.mono ?_; rintro e w' ⟨rfl, hd⟩; obtain ⟨⟨nd, rfl⟩⟩ := hd)
    go_region_law (first
      | (refine step_rows (w0 := w) (.tmp 39) (.tmp 42) (.slice (some ⟨((w.drewN nd).drew).heap.size, 0, none⟩) 0 0) [] xs (some ad) c0 rfl rfl rfl (by rw [HL1.out]; simp [Act.eval, Act.put]) (R_made ((w.drewN nd).drew) _ (by simp)) (by rw [HL1.out]; repeat (first | exact HC1.out | apply Kd.C_alloc | apply Kd.C_drew | apply Kd.C_drewN)) (by repeat (first | exact Below.refl _ _ | apply pw_below_drewN | apply below_drew1 | apply below_alloc)) (by have := HL1.out; simp; omega) ?_; intro v1 w1 hR1 hb1 hg1; have HR1 := Aside0.mk hR1; have HB1 := Aside0.mk hb1; clear hR1 hb1 hg1)
      | (refine step_rows (w0 := w) (.tmp 39) (.tmp 42) (.slice (some ⟨((w.drewN nd).drew).heap.size, 0, none⟩) 0 0) [] xs (some ad) c0 rfl rfl rfl (by rw [HL1.out]; simp [Act.eval, Act.put]) (Kd.R_alloc (R_made ((w.drewN nd).drew) _ (by simp)) (.cells #[.string a1, .string a2] 50)) (by rw [HL1.out]; repeat (first | exact HC1.out | apply Kd.C_alloc | apply Kd.C_drew | apply Kd.C_drewN)) (by repeat (first | exact Below.refl _ _ | apply pw_below_drewN | apply below_drew1 | apply below_alloc)) (by have := HL1.out; simp; omega) ?_; intro v1 w1 hR1 hb1 hg1; have HR1 := Aside0.mk hR1; have HB1 := Aside0.mk hb1; have HP : Aside0 (Kd.C k50 w1 (some ⟨w.heap.size + 1, 0, none⟩) 1 [(⟨a1, a2⟩ : S50)]) := Aside0.mk (by have z := (C_pair_grown (W := ((w.drewN nd).drew).alloc (.cells #[] 50)) (s0 := a1) (s1 := a2) rfl (by simp) hg1 (by simp [Value.ownBlock])); simpa using z); clear hR1 hb1 hg1)
      | (refine step_rows (w0 := w) (.tmp 39) (.tmp 42) (.slice (some ⟨(((w.drewN nd).drew).alloc (.cells #[.string a1, .string a2] 50)).heap.size, 0, none⟩) 0 0) [] xs (some ad) c0 rfl rfl (by simp [Act.eval, Act.put]) (by rw [HL1.out]; simp [Act.eval, Act.put]) (R_made (((w.drewN nd).drew).alloc (.cells #[.string a1, .string a2] 50)) _ (by simp <;> omega)) (by rw [HL1.out]; repeat (first | exact HC1.out | apply Kd.C_alloc | apply Kd.C_drew | apply Kd.C_drewN)) (by repeat (first | exact Below.refl _ _ | apply pw_below_drewN | apply below_drew1 | apply below_alloc)) (by have := HL1.out; simp; omega) ?_; intro v1 w1 hR1 hb1 hg1; have HR1 := Aside0.mk hR1; have HB1 := Aside0.mk hb1; have HP : Aside0 (Kd.C k50 w1 (some ⟨w.heap.size, 0, none⟩) 1 [(⟨a1, a2⟩ : S50)]) := Aside0.mk (by have z := (C_pair_grown (W := ((w.drewN nd).drew)) (s0 := a1) (s1 := a2) (by first | exact heap_alloc_old _ _ (by simp) | (rw [heap_alloc_old _ _ (by simp)]; done) | (rw [heap_alloc_old _ _ (by simp)]; rfl)) (by simp <;> omega) hg1 (by simp [Value.ownBlock])); simpa using z); clear hR1 hb1 hg1)
      | (refine step_rows (w0 := w) (.tmp 43) (.tmp 47) v1 ([] ++ xs) [⟨a1, a2⟩] (some ⟨w.heap.size + 1, 0, none⟩) 1 rfl rfl rfl (by simp [Act.eval, Act.put]) HR1.out HP.out HB1.out (by have := HL1.out; simp; omega) ?_; intro v2 w2 hR2 hb2 hg2; have HR2 := Aside0.mk hR2; have HB2 := Aside0.mk hb2; clear hR2 hb2 hg2)
      | (refine step_rows (w0 := w) (.tmp 43) (.tmp 47) v1 ([] ++ xs) [⟨a1, a2⟩] (some ⟨w.heap.size, 0, none⟩) 1 rfl rfl rfl (by simp [Act.eval, Act.put]) HR1.out HP.out HB1.out (by have := HL1.out; simp; omega) ?_; intro v2 w2 hR2 hb2 hg2; have HR2 := Aside0.mk hR2; have HB2 := Aside0.mk hb2; clear hR2 hb2 hg2)
      | (refine step_rows (w0 := w) (.tmp 43) (.tmp 47) v1 ([] ++ xs) [⟨a1, a2⟩] (some ⟨w1.heap.size, 0, none⟩) 1 rfl rfl rfl (by simp [Act.eval, Act.put]) (Kd.R_alloc HR1.out _) (C_pair w1 a1 a2) (below_alloc HB1.out _) (by have := HL1.out; simp; omega) ?_; intro v2 w2 hR2 hb2 hg2; have HR2 := Aside0.mk hR2; have HB2 := Aside0.mk hb2; clear hR2 hb2 hg2)
      | (refine step_rows (w0 := w) (.tmp 48) (.tmp 51) v2 ([] ++ xs ++ [⟨a1, a2⟩]) ys A2 (c0 - t) rfl rfl rfl (by rw [HL2.out]; simp [Act.eval, Act.put, hA2]; done) HR2.out (by rw [HL2.out]; exact Kd.C_below HC2.out HB2.out) HB2.out (by have := HL1.out; have := HL2.out; simp; omega) ?_; intro v3 w3 hR3 hb3 hg3; have HR3 := Aside0.mk hR3; have HB3 := Aside0.mk hb3; clear hR3 hb3 hg3))
    all_goals
      go_wp2
      go_ret2
      exact ⟨_, rfl, HR3.out, HB3.out⟩
  · obtain rfl : n = t := by omega
    have h2 : decide ((n : Int) < (n : Int)) = false := by simp
    clear hcell
    cases A0 with
    | none =>
      obtain rfl := hA0 rfl
      obtain rfl := hAn rfl
      clear hA0 hAs hAn
      go_enter Try.func65, Try.ntmps65
      go_wp2_with (go_at_call 82; refine HAT.mono ?_; rintro e w' ⟨rfl, hd⟩; obtain ⟨⟨nd, rfl⟩⟩ := hd)
      have hA2 : True := trivial
      go_region_law (first
        | (refine step_rows (w0 := w) (.tmp 39) (.tmp 42) (.slice (some ⟨((w.drewN nd).drew).heap.size, 0, none⟩) 0 0) [] xs none c0 rfl rfl rfl (by rw [HL1.out]; simp [Act.eval, Act.put]) (R_made ((w.drewN nd).drew) _ (by simp)) (by rw [HL1.out]; repeat (first | exact HC1.out | apply Kd.C_alloc | apply Kd.C_drew | apply Kd.C_drewN)) (by repeat (first | exact Below.refl _ _ | apply pw_below_drewN | apply below_drew1 | apply below_alloc)) (by have := HL1.out; simp; omega) ?_; intro v1 w1 hR1 hb1 hg1; have HR1 := Aside0.mk hR1; have HB1 := Aside0.mk hb1; clear hR1 hb1 hg1)
        | (refine step_rows (w0 := w) (.tmp 39) (.tmp 42) (.slice (some ⟨((w.drewN nd).drew).heap.size, 0, none⟩) 0 0) [] xs none c0 rfl rfl rfl (by rw [HL1.out]; simp [Act.eval, Act.put]) (Kd.R_alloc (R_made ((w.drewN nd).drew) _ (by simp)) (.cells #[.string a1, .string a2] 50)) (by rw [HL1.out]; repeat (first | exact HC1.out | apply Kd.C_alloc | apply Kd.C_drew | apply Kd.C_drewN)) (by repeat (first | exact Below.refl _ _ | apply pw_below_drewN | apply below_drew1 | apply below_alloc)) (by have := HL1.out; simp; omega) ?_; intro v1 w1 hR1 hb1 hg1; have HR1 := Aside0.mk hR1; have HB1 := Aside0.mk hb1; have HP : Aside0 (Kd.C k50 w1 (some ⟨w.heap.size + 1, 0, none⟩) 1 [(⟨a1, a2⟩ : S50)]) := Aside0.mk (by have z := (C_pair_grown (W := ((w.drewN nd).drew).alloc (.cells #[] 50)) (s0 := a1) (s1 := a2) rfl (by simp) hg1 (by simp [Value.ownBlock])); simpa using z); clear hR1 hb1 hg1)
        | (refine step_rows (w0 := w) (.tmp 39) (.tmp 42) (.slice (some ⟨(((w.drewN nd).drew).alloc (.cells #[.string a1, .string a2] 50)).heap.size, 0, none⟩) 0 0) [] xs none c0 rfl rfl (by simp [Act.eval, Act.put]) (by rw [HL1.out]; simp [Act.eval, Act.put]) (R_made (((w.drewN nd).drew).alloc (.cells #[.string a1, .string a2] 50)) _ (by simp <;> omega)) (by rw [HL1.out]; repeat (first | exact HC1.out | apply Kd.C_alloc | apply Kd.C_drew | apply Kd.C_drewN)) (by repeat (first | exact Below.refl _ _ | apply pw_below_drewN | apply below_drew1 | apply below_alloc)) (by have := HL1.out; simp; omega) ?_; intro v1 w1 hR1 hb1 hg1; have HR1 := Aside0.mk hR1; have HB1 := Aside0.mk hb1; have HP : Aside0 (Kd.C k50 w1 (some ⟨w.heap.size, 0, none⟩) 1 [(⟨a1, a2⟩ : S50)]) := Aside0.mk (by have z := (C_pair_grown (W := ((w.drewN nd).drew)) (s0 := a1) (s1 := a2) (by first | exact heap_alloc_old _ _ (by simp) | (rw [heap_alloc_old _ _ (by simp)]; done) | (rw [heap_alloc_old _ _ (by simp)]; rfl)) (by simp <;> omega) hg1 (by simp [Value.ownBlock])); simpa using z); clear hR1 hb1 hg1)
        | (refine step_rows (w0 := w) (.tmp 43) (.tmp 47) v1 ([] ++ xs) [⟨a1, a2⟩] (some ⟨w.heap.size + 1, 0, none⟩) 1 rfl rfl rfl (by simp [Act.eval, Act.put]) HR1.out HP.out HB1.out (by have := HL1.out; simp; omega) ?_; intro v2 w2 hR2 hb2 hg2; have HR2 := Aside0.mk hR2; have HB2 := Aside0.mk hb2; clear hR2 hb2 hg2)
        | (refine step_rows (w0 := w) (.tmp 43) (.tmp 47) v1 ([] ++ xs) [⟨a1, a2⟩] (some ⟨w.heap.size, 0, none⟩) 1 rfl rfl rfl (by simp [Act.eval, Act.put]) HR1.out HP.out HB1.out (by have := HL1.out; simp; omega) ?_; intro v2 w2 hR2 hb2 hg2; have HR2 := Aside0.mk hR2; have HB2 := Aside0.mk hb2; clear hR2 hb2 hg2)
        | (refine step_rows (w0 := w) (.tmp 43) (.tmp 47) v1 ([] ++ xs) [⟨a1, a2⟩] (some ⟨w1.heap.size, 0, none⟩) 1 rfl rfl rfl (by simp [Act.eval, Act.put]) (Kd.R_alloc HR1.out _) (C_pair w1 a1 a2) (below_alloc HB1.out _) (by have := HL1.out; simp; omega) ?_; intro v2 w2 hR2 hb2 hg2; have HR2 := Aside0.mk hR2; have HB2 := Aside0.mk hb2; clear hR2 hb2 hg2)
        | (refine step_rows (w0 := w) (.tmp 48) (.tmp 51) v2 ([] ++ xs ++ [⟨a1, a2⟩]) ys none _ rfl rfl rfl (by rw [HL2.out]; simp [Act.eval, Act.put]; rfl) HR2.out (by rw [HL2.out]; exact Kd.C_below HC2.out HB2.out) HB2.out (by have := HL1.out; have := HL2.out; simp; omega) ?_; intro v3 w3 hR3 hb3 hg3; have HR3 := Aside0.mk hR3; have HB3 := Aside0.mk hb3; clear hR3 hb3 hg3))
      all_goals
        go_wp2
        go_ret2
        exact ⟨_, rfl, HR3.out, HB3.out⟩
    | some ad =>
      have hA2 := hAs ad rfl
      clear hA0 hAs hAn
      go_enter Try.func65, Try.ntmps65
      go_wp2_with (go_at_call 82; refine HAT.mono ?_; rintro e w' ⟨rfl, hd⟩; obtain ⟨⟨nd, rfl⟩⟩ := hd)
      go_region_law (first
        | (refine step_rows (w0 := w) (.tmp 39) (.tmp 42) (.slice (some ⟨((w.drewN nd).drew).heap.size, 0, none⟩) 0 0) [] xs (some ad) c0 rfl rfl rfl (by rw [HL1.out]; simp [Act.eval, Act.put]) (R_made ((w.drewN nd).drew) _ (by simp)) (by rw [HL1.out]; repeat (first | exact HC1.out | apply Kd.C_alloc | apply Kd.C_drew | apply Kd.C_drewN)) (by repeat (first | exact Below.refl _ _ | apply pw_below_drewN | apply below_drew1 | apply below_alloc)) (by have := HL1.out; simp; omega) ?_; intro v1 w1 hR1 hb1 hg1; have HR1 := Aside0.mk hR1; have HB1 := Aside0.mk hb1; clear hR1 hb1 hg1)
        | (refine step_rows (w0 := w) (.tmp 39) (.tmp 42) (.slice (some ⟨((w.drewN nd).drew).heap.size, 0, none⟩) 0 0) [] xs (some ad) c0 rfl rfl rfl (by rw [HL1.out]; simp [Act.eval, Act.put]) (Kd.R_alloc (R_made ((w.drewN nd).drew) _ (by simp)) (.cells #[.string a1, .string a2] 50)) (by rw [HL1.out]; repeat (first | exact HC1.out | apply Kd.C_alloc | apply Kd.C_drew | apply Kd.C_drewN)) (by repeat (first | exact Below.refl _ _ | apply pw_below_drewN | apply below_drew1 | apply below_alloc)) (by have := HL1.out; simp; omega) ?_; intro v1 w1 hR1 hb1 hg1; have HR1 := Aside0.mk hR1; have HB1 := Aside0.mk hb1; have HP : Aside0 (Kd.C k50 w1 (some ⟨w.heap.size + 1, 0, none⟩) 1 [(⟨a1, a2⟩ : S50)]) := Aside0.mk (by have z := (C_pair_grown (W := ((w.drewN nd).drew).alloc (.cells #[] 50)) (s0 := a1) (s1 := a2) rfl (by simp) hg1 (by simp [Value.ownBlock])); simpa using z); clear hR1 hb1 hg1)
        | (refine step_rows (w0 := w) (.tmp 39) (.tmp 42) (.slice (some ⟨(((w.drewN nd).drew).alloc (.cells #[.string a1, .string a2] 50)).heap.size, 0, none⟩) 0 0) [] xs (some ad) c0 rfl rfl (by simp [Act.eval, Act.put]) (by rw [HL1.out]; simp [Act.eval, Act.put]) (R_made (((w.drewN nd).drew).alloc (.cells #[.string a1, .string a2] 50)) _ (by simp <;> omega)) (by rw [HL1.out]; repeat (first | exact HC1.out | apply Kd.C_alloc | apply Kd.C_drew | apply Kd.C_drewN)) (by repeat (first | exact Below.refl _ _ | apply pw_below_drewN | apply below_drew1 | apply below_alloc)) (by have := HL1.out; simp; omega) ?_; intro v1 w1 hR1 hb1 hg1; have HR1 := Aside0.mk hR1; have HB1 := Aside0.mk hb1; have HP : Aside0 (Kd.C k50 w1 (some ⟨w.heap.size, 0, none⟩) 1 [(⟨a1, a2⟩ : S50)]) := Aside0.mk (by have z := (C_pair_grown (W := ((w.drewN nd).drew)) (s0 := a1) (s1 := a2) (by first | exact heap_alloc_old _ _ (by simp) | (rw [heap_alloc_old _ _ (by simp)]; done) | (rw [heap_alloc_old _ _ (by simp)]; rfl)) (by simp <;> omega) hg1 (by simp [Value.ownBlock])); simpa using z); clear hR1 hb1 hg1)
        | (refine step_rows (w0 := w) (.tmp 43) (.tmp 47) v1 ([] ++ xs) [⟨a1, a2⟩] (some ⟨w.heap.size + 1, 0, none⟩) 1 rfl rfl rfl (by simp [Act.eval, Act.put]) HR1.out HP.out HB1.out (by have := HL1.out; simp; omega) ?_; intro v2 w2 hR2 hb2 hg2; have HR2 := Aside0.mk hR2; have HB2 := Aside0.mk hb2; clear hR2 hb2 hg2)
        | (refine step_rows (w0 := w) (.tmp 43) (.tmp 47) v1 ([] ++ xs) [⟨a1, a2⟩] (some ⟨w.heap.size, 0, none⟩) 1 rfl rfl rfl (by simp [Act.eval, Act.put]) HR1.out HP.out HB1.out (by have := HL1.out; simp; omega) ?_; intro v2 w2 hR2 hb2 hg2; have HR2 := Aside0.mk hR2; have HB2 := Aside0.mk hb2; clear hR2 hb2 hg2)
        | (refine step_rows (w0 := w) (.tmp 43) (.tmp 47) v1 ([] ++ xs) [⟨a1, a2⟩] (some ⟨w1.heap.size, 0, none⟩) 1 rfl rfl rfl (by simp [Act.eval, Act.put]) (Kd.R_alloc HR1.out _) (C_pair w1 a1 a2) (below_alloc HB1.out _) (by have := HL1.out; simp; omega) ?_; intro v2 w2 hR2 hb2 hg2; have HR2 := Aside0.mk hR2; have HB2 := Aside0.mk hb2; clear hR2 hb2 hg2)
        | (refine step_rows (w0 := w) (.tmp 48) (.tmp 51) v2 ([] ++ xs ++ [⟨a1, a2⟩]) ys A2 (c0 - n) rfl rfl rfl (by rw [HL2.out]; simp [Act.eval, Act.put, hA2]; done) HR2.out (by rw [HL2.out]; exact Kd.C_below HC2.out HB2.out) HB2.out (by have := HL1.out; have := HL2.out; simp; omega) ?_; intro v3 w3 hR3 hb3 hg3; have HR3 := Aside0.mk hR3; have HB3 := Aside0.mk hb3; clear hR3 hb3 hg3))
      all_goals
        go_wp2
        go_ret2
        exact ⟨_, rfl, HR3.out, HB3.out⟩
def dropT (l : List S50) (t : Nat) (a : ByteArray) : List S50 × Int := if t < l.length ∧ ((l.getD t z50).f0.toList == a.toList) = true then (l.take t ++ l.drop (t + 1), 0) else (l, 5)
def putT (l : List S50) (t : Nat) (a v : ByteArray) : List S50 × Int := if t < l.length ∧ ((l.getD t z50).f0.toList == a.toList) = true then (l.set t ⟨(l.getD t z50).f0, v⟩, 0) else if l.length = 400 then (l, 7) else (l.take t ++ ⟨a, v⟩ :: l.drop t, 0)
theorem getD_at (l : List S50) (t : Nat) (h : t < l.length) : l.getD t z50 = l[t] := by simp [List.getD, List.getElem?_eq_getElem h]
theorem l03Drop_calls (k : Nat) (A0 : Option Addr) (c0 : Nat) (l0 : List S50) (a1 : ByteArray) (t : Nat) (w : World) (hr0 : Kd.C k50 w A0 l0.length l0) (hc0 : l0.length ≤ c0) (ht : spec_l03At.f k l0 a1 = some (t : Int)) (htl : t ≤ l0.length) (hl : l0.length * 32 ≤ 140737488355328) :
    Calls Try.prog 63 #[.slice A0 l0.length c0, .string a1] w fun e w' => ∃ v, e = .returned (.tuple #[v, .int .i64 (dropT l0 t a1).2]) ∧ RV w' v (dropT l0 t a1).1 ∧ Below w.heap.size w w' := by
  by_cases h : t < l0.length ∧ ((l0.getD t z50).f0.toList == a1.toList) = true
  · have e : dropT l0 t a1 = (l0.take t ++ l0.drop (t + 1), 0) := by unfold dropT; rw [if_pos h]
    rw [e]
    rw [getD_at _ _ h.1] at h
    refine (l03Drop_some k A0 c0 l0 a1 t w hr0 hc0 ht h.1 h.2 hl).mono ?_
    rintro e w' ⟨v, rfl, hR, hb⟩
    exact ⟨v, rfl, RV_of_R hR, hb⟩
  · have e : dropT l0 t a1 = (l0, 5) := by unfold dropT; rw [if_neg h]
    rw [e]
    refine (l03Drop_none k A0 c0 l0 a1 t w hr0 hc0 ht htl (fun hh => ?_)).mono ?_
    · rw [← getD_at _ _ hh]
      exact Bool.eq_false_iff.2 fun hx => h ⟨hh, hx⟩
    · rintro e w' ⟨rfl, hd⟩
      exact ⟨_, rfl, ⟨A0, c0, rfl, hc0, Kd.C_below hr0 hd.below⟩, hd.below⟩
theorem l03Put_calls (k : Nat) (A0 : Option Addr) (c0 : Nat) (l0 : List S50) (a1 a2 : ByteArray) (t : Nat) (w : World) (hr0 : Kd.C k50 w A0 l0.length l0) (hc0 : l0.length ≤ c0) (ht : spec_l03At.f k l0 a1 = some (t : Int)) (htl : t ≤ l0.length) (hl : (l0.length + 1) * 32 ≤ 140737488355328) :
    Calls Try.prog 65 #[.slice A0 l0.length c0, .string a1, .string a2] w fun e w' => ∃ v, e = .returned (.tuple #[v, .int .i64 (putT l0 t a1 a2).2]) ∧ RV w' v (putT l0 t a1 a2).1 ∧ Below w.heap.size w w' := by
  by_cases h : t < l0.length ∧ ((l0.getD t z50).f0.toList == a1.toList) = true
  · have e : putT l0 t a1 a2 = (l0.set t ⟨(l0.getD t z50).f0, a2⟩, 0) := by unfold putT; rw [if_pos h]
    rw [e]
    have h2 := h.2
    rw [getD_at _ _ h.1] at h2
    refine (l03Put_set k A0 c0 l0 a1 a2 t w hr0 hc0 ht h.1 h2 (by omega)).mono ?_
    rintro e w' ⟨v, rfl, hR, hb⟩
    exact ⟨v, rfl, RV_of_R hR, hb⟩
  · have hn : ∀ hh : t < l0.length, ((l0[t]'hh).f0.toList == a1.toList) = false := fun hh => by
      rw [← getD_at _ _ hh]
      exact Bool.eq_false_iff.2 fun hx => h ⟨hh, hx⟩
    by_cases hf : l0.length = 400
    · have e : putT l0 t a1 a2 = (l0, 7) := by unfold putT; rw [if_neg h, if_pos hf]
      rw [e]
      refine (l03Put_full k A0 c0 l0 a1 a2 t w hr0 hc0 ht htl hn hf).mono ?_
      rintro e w' ⟨rfl, hd⟩
      exact ⟨_, rfl, ⟨A0, c0, rfl, hc0, Kd.C_below hr0 hd.below⟩, hd.below⟩
    · have e : putT l0 t a1 a2 = (l0.take t ++ ⟨a1, a2⟩ :: l0.drop t, 0) := by unfold putT; rw [if_neg h, if_neg hf]
      rw [e]
      refine (l03Put_ins k A0 c0 l0 a1 a2 t w hr0 hc0 ht htl hn hf hl).mono ?_
      rintro e w' ⟨v, rfl, hR, hb⟩
      exact ⟨v, rfl, RV_of_R hR, hb⟩
theorem dropT_len (l : List S50) (t : Nat) (a : ByteArray) : (dropT l t a).1.length ≤ l.length := by
  unfold dropT
  split
  · simp only [List.length_append, List.length_take, List.length_drop]; omega
  · exact Nat.le_refl _
theorem putT_len (l : List S50) (t : Nat) (a v : ByteArray) : (putT l t a v).1.length ≤ l.length + 1 := by
  unfold putT
  split
  · simp
  · split
    · exact Nat.le_succ _
    · simp only [List.length_append, List.length_take, List.length_cons, List.length_drop]; omega

-- EXT loop.example/g00298/spec.StoreDrop spec_StoreDrop 1 1
def spec_StoreDrop.f (k : Nat) (l0 : List S50) (a1 : ByteArray) : Option (List S50 × Int) :=
  if (l0.length : Int) > 4096 ∨ (a1.size : Int) > 65536 then some ([], 2) else (spec_l03Code.f k l0 a1).bind fun c => if c = 0 then (spec_l03At.f k l0 a1).bind fun t => (if 0 ≤ t ∧ t ≤ l0.length then some (dropT l0 t.toNat a1) else none) else some ([], c)
theorem spec_StoreDrop.mono : ∀ a0 a1 k, LeO (spec_StoreDrop.f k a0 a1) (spec_StoreDrop.f (k + 1) a0 a1) := by
  intro a0 a1 k
  unfold spec_StoreDrop.f
  refine LeO.ite (LeO.refl _) (LeO.bind (spec_l03Code.mono _ _ _) fun _ => LeO.ite (LeO.bind (spec_l03At.mono _ _ _) fun _ => LeO.refl _) (LeO.refl _))
set_option maxHeartbeats 8000000 in
set_option maxRecDepth 100000 in
theorem spec_StoreDrop.calls (k : Nat) (A0 : Option Addr) (c0 : Nat) (l0 : List S50) (a1 : ByteArray) (r1 : List S50) (r2 : Int) (w : World) (hr0 : Kd.C k50 w A0 l0.length l0) (hc0 : l0.length ≤ c0) (h : spec_StoreDrop.f k l0 a1 = some (r1, r2)) :
    Calls Try.prog 28 #[.slice A0 l0.length c0, .string a1] w fun e w' => ∃ v0_ : Value, e = .returned (.tuple #[v0_, .int .i64 r2]) ∧ Kd.R k50 50 w' w.heap.size (fun _ => True) v0_ r1 ∧ Below w.heap.size w w' := by
  unfold spec_StoreDrop.f at h
  by_cases hlong : (l0.length : Int) > 4096 ∨ (a1.size : Int) > 65536
  · rw [if_pos hlong] at h
    injection h with h
    have e1 : [] = r1 := congrArg Prod.fst h
    have e2 : (2 : Int) = r2 := congrArg Prod.snd h
    subst e1
    subst e2
    clear h hr0 hc0
    generalize l0.length = n at *
    by_cases hl : (n : Int) > 4096
    · clear hlong
      go_enter Try.func28, Try.ntmps28
      go_wp2
      go_ret2
      exact ⟨_, rfl, R_made w _ (Nat.le_refl _), (Below.refl _ _).alloc (Nat.le_refl _) _⟩
    · have hk : (a1.size : Int) > 65536 := by omega
      have hl' : ¬ (4096 < (n : Int)) := by omega
      clear hlong hl
      go_enter Try.func28, Try.ntmps28
      go_wp2
      go_ret2
      exact ⟨_, rfl, R_made w _ (Nat.le_refl _), (Below.refl _ _).alloc (Nat.le_refl _) _⟩
  · rw [if_neg hlong] at h
    obtain ⟨c, hc, h⟩ := Option.bind_eq_some_iff.1 h
    have HCO := spec_l03Code.calls k A0 c0 l0 a1 c w hr0 hc0 hc
    have hl1 : ¬ (4096 < (l0.length : Int)) := by omega
    have hl2 : ¬ (65536 < (a1.size : Int)) := by omega
    clear hlong hc
    by_cases hz : c = 0
    · subst hz
      rw [if_pos rfl] at h
      obtain ⟨t, ht, h⟩ := Option.bind_eq_some_iff.1 h
      by_cases hb : 0 ≤ t ∧ t ≤ (l0.length : Int)
      · rw [if_pos hb] at h
        obtain ⟨tn, rfl⟩ := Int.eq_ofNat_of_zero_le hb.1
        rw [Int.toNat_natCast] at h
        injection h with h
        have e1 : (dropT l0 tn a1).1 = r1 := congrArg Prod.fst h
        have e2 : (dropT l0 tn a1).2 = r2 := congrArg Prod.snd h
        have HD := Aside0.mk (fun (W : World) (hr : Kd.C k50 W A0 l0.length l0) => l03Drop_calls k A0 c0 l0 a1 tn W hr hc0 ht (by omega) (by omega))
        have hlen := dropT_len l0 tn a1
        rw [e1] at HD hlen
        rw [e2] at HD
        have HC := Aside0.mk hr0
        clear h e1 e2 hr0 ht hb
        generalize l0.length = n at *
        go_enter Try.func28, Try.ntmps28
        go_wp2_with (first
          | (go_at_call 60; refine HCO.mono ?_; rintro e w1 ⟨rfl, hb1⟩; have HB1 := Aside0.mk hb1; clear hb1)
          | (go_at_call 63; refine (HD.out _ (Kd.C_below HC.out HB1.out)).mono ?_; rintro e w2 ⟨v, rfl, hRV, hb2⟩; have HB2 := Aside0.mk hb2; obtain ⟨A2, c2, rfl, hl3, hC2⟩ := hRV; have HC2 := Aside0.mk hC2; clear hb2 hC2)
          | (at_builtin; refine wpList_rows (w0 := w) _ _ _ [] r1 A2 c2 rfl rfl rfl rfl (R_made w2 _ (Nat.le_trans HB1.out.size HB2.out.size)) (Kd.C_alloc HC2.out _) (below_alloc (HB1.out.trans (HB2.out.mono HB1.out.size)) _) (by simp; omega) ?_; intro v3 w3 hR3 hb3 hg3; rw [List.nil_append] at hR3; have HR3 := Aside0.mk hR3; have HB3 := Aside0.mk hb3; clear hR3 hb3 hg3))
        go_ret2
        exact ⟨_, rfl, HR3.out, HB3.out⟩
      · rw [if_neg hb] at h
        cases h
    · rw [if_neg hz] at h
      injection h with h
      have e1 : [] = r1 := congrArg Prod.fst h
      have e2 : c = r2 := congrArg Prod.snd h
      subst e1
      subst e2
      clear h hr0 hc0
      generalize l0.length = n at *
      have hz1 : (c == 0) = false := by simpa using hz
      have hz2 : (c != 0) = true := by simpa using hz
      clear hz
      go_enter Try.func28, Try.ntmps28
      go_wp2_with (go_at_call 60; refine HCO.mono ?_; rintro e w1 ⟨rfl, hb1⟩; have HB1 := Aside0.mk hb1; clear hb1)
      go_ret2
      exact ⟨_, rfl, R_made w1 _ HB1.out.size, below_alloc HB1.out _⟩
-- EXT loop.example/g00298/spec.StorePut spec_StorePut 1 1
def spec_StorePut.f (k : Nat) (l0 : List S50) (a1 a2 : ByteArray) : Option (List S50 × Int) :=
  if (l0.length : Int) > 4096 ∨ (a1.size : Int) > 65536 ∨ (a2.size : Int) > 65536 then some ([], 2) else (spec_l03Code.f k l0 a1).bind fun c => if c = 0 then if (a2.size : Int) > 1000 then some ([], 4) else (spec_l03At.f k l0 a1).bind fun t => (if 0 ≤ t ∧ t ≤ l0.length then some (putT l0 t.toNat a1 a2) else none) else some ([], c)
theorem spec_StorePut.mono : ∀ a0 a1 a2 k, LeO (spec_StorePut.f k a0 a1 a2) (spec_StorePut.f (k + 1) a0 a1 a2) := by
  intro a0 a1 a2 k
  unfold spec_StorePut.f
  refine LeO.ite (LeO.refl _) (LeO.bind (spec_l03Code.mono _ _ _) fun _ => LeO.ite (LeO.ite (LeO.refl _) (LeO.bind (spec_l03At.mono _ _ _) fun _ => LeO.refl _)) (LeO.refl _))
set_option maxHeartbeats 8000000 in
set_option maxRecDepth 100000 in
theorem spec_StorePut.calls (k : Nat) (A0 : Option Addr) (c0 : Nat) (l0 : List S50) (a1 a2 : ByteArray) (r1 : List S50) (r2 : Int) (w : World) (hr0 : Kd.C k50 w A0 l0.length l0) (hc0 : l0.length ≤ c0) (h : spec_StorePut.f k l0 a1 a2 = some (r1, r2)) :
    Calls Try.prog 30 #[.slice A0 l0.length c0, .string a1, .string a2] w fun e w' => ∃ v0_ : Value, e = .returned (.tuple #[v0_, .int .i64 r2]) ∧ Kd.R k50 50 w' w.heap.size (fun _ => True) v0_ r1 ∧ Below w.heap.size w w' := by
  unfold spec_StorePut.f at h
  by_cases hlong : (l0.length : Int) > 4096 ∨ (a1.size : Int) > 65536 ∨ (a2.size : Int) > 65536
  · rw [if_pos hlong] at h
    injection h with h
    have e1 : [] = r1 := congrArg Prod.fst h
    have e2 : (2 : Int) = r2 := congrArg Prod.snd h
    subst e1
    subst e2
    clear h hr0 hc0
    generalize l0.length = n at *
    by_cases hl : (n : Int) > 4096
    · clear hlong
      go_enter Try.func30, Try.ntmps30
      go_wp2
      go_ret2
      exact ⟨_, rfl, R_made w _ (Nat.le_refl _), (Below.refl _ _).alloc (Nat.le_refl _) _⟩
    · have hl' : ¬ (4096 < (n : Int)) := by omega
      by_cases hk : (a1.size : Int) > 65536
      · clear hlong hl
        go_enter Try.func30, Try.ntmps30
        go_wp2
        go_ret2
        exact ⟨_, rfl, R_made w _ (Nat.le_refl _), (Below.refl _ _).alloc (Nat.le_refl _) _⟩
      · have hk1 : ¬ (65536 < (a1.size : Int)) := by omega
        have hk2 : (a2.size : Int) > 65536 := by omega
        clear hlong hl hk
        go_enter Try.func30, Try.ntmps30
        go_wp2
        go_ret2
        exact ⟨_, rfl, R_made w _ (Nat.le_refl _), (Below.refl _ _).alloc (Nat.le_refl _) _⟩
  · rw [if_neg hlong] at h
    obtain ⟨c, hc, h⟩ := Option.bind_eq_some_iff.1 h
    have HCO := spec_l03Code.calls k A0 c0 l0 a1 c w hr0 hc0 hc
    have hl1 : ¬ (4096 < (l0.length : Int)) := by omega
    have hl2 : ¬ (65536 < (a1.size : Int)) := by omega
    have hl3 : ¬ (65536 < (a2.size : Int)) := by omega
    clear hlong hc
    by_cases hz : c = 0
    · subst hz
      rw [if_pos rfl] at h
      by_cases hv : (a2.size : Int) > 1000
      · rw [if_pos hv] at h
        injection h with h
        have e1 : [] = r1 := congrArg Prod.fst h
        have e2 : (4 : Int) = r2 := congrArg Prod.snd h
        subst e1
        subst e2
        clear h hr0 hc0
        generalize l0.length = n at *
        go_enter Try.func30, Try.ntmps30
        go_wp2_with (go_at_call 60; refine HCO.mono ?_; rintro e w1 ⟨rfl, hb1⟩; have HB1 := Aside0.mk hb1; clear hb1)
        go_ret2
        exact ⟨_, rfl, R_made w1 _ HB1.out.size, below_alloc HB1.out _⟩
      · rw [if_neg hv] at h
        have hv' : ¬ (1000 < (a2.size : Int)) := by omega
        clear hv
        obtain ⟨t, ht, h⟩ := Option.bind_eq_some_iff.1 h
        by_cases hb : 0 ≤ t ∧ t ≤ (l0.length : Int)
        · rw [if_pos hb] at h
          obtain ⟨tn, rfl⟩ := Int.eq_ofNat_of_zero_le hb.1
          rw [Int.toNat_natCast] at h
          injection h with h
          have e1 : (putT l0 tn a1 a2).1 = r1 := congrArg Prod.fst h
          have e2 : (putT l0 tn a1 a2).2 = r2 := congrArg Prod.snd h
          have HD := Aside0.mk (fun (W : World) (hr : Kd.C k50 W A0 l0.length l0) => l03Put_calls k A0 c0 l0 a1 a2 tn W hr hc0 ht (by omega) (by omega))
          have hlen := putT_len l0 tn a1 a2
          rw [e1] at HD hlen
          rw [e2] at HD
          have HC := Aside0.mk hr0
          clear h e1 e2 hr0 ht hb
          generalize l0.length = n at *
          go_enter Try.func30, Try.ntmps30
          go_wp2_with (first
            | (go_at_call 60; refine HCO.mono ?_; rintro e w1 ⟨rfl, hb1⟩; have HB1 := Aside0.mk hb1; clear hb1)
            | (go_at_call 65; refine (HD.out _ (Kd.C_below HC.out HB1.out)).mono ?_; rintro e w2 ⟨v, rfl, hRV, hb2⟩; have HB2 := Aside0.mk hb2; obtain ⟨A2, c2, rfl, hl3, hC2⟩ := hRV; have HC2 := Aside0.mk hC2; clear hb2 hC2)
            | (at_builtin; refine wpList_rows (w0 := w) _ _ _ [] r1 A2 c2 rfl rfl rfl rfl (R_made w2 _ (Nat.le_trans HB1.out.size HB2.out.size)) (Kd.C_alloc HC2.out _) (below_alloc (HB1.out.trans (HB2.out.mono HB1.out.size)) _) (by simp; omega) ?_; intro v3 w3 hR3 hb3 hg3; rw [List.nil_append] at hR3; have HR3 := Aside0.mk hR3; have HB3 := Aside0.mk hb3; clear hR3 hb3 hg3))
          go_ret2
          exact ⟨_, rfl, HR3.out, HB3.out⟩
        · rw [if_neg hb] at h
          cases h
    · rw [if_neg hz] at h
      injection h with h
      have e1 : [] = r1 := congrArg Prod.fst h
      have e2 : c = r2 := congrArg Prod.snd h
      subst e1
      subst e2
      clear h hr0 hc0
      generalize l0.length = n at *
      have hz1 : (c == 0) = false := by simpa using hz
      have hz2 : (c != 0) = true := by simpa using hz
      clear hz
      go_enter Try.func30, Try.ntmps30
      go_wp2_with (go_at_call 60; refine HCO.mono ?_; rintro e w1 ⟨rfl, hb1⟩; have HB1 := Aside0.mk hb1; clear hb1)
      go_ret2
      exact ⟨_, rfl, R_made w1 _ HB1.out.size, below_alloc HB1.out _⟩
end Go.Proofs.Ytifkdlcalkccaaa.S
