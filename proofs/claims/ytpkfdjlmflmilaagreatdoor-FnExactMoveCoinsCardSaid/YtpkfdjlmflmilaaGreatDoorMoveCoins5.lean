/- The theorem of this text: the law's own given statement, for all arguments; no condition stands ahead of it. -/
import Derived.Deep.RegionLaw
import Derived.Deep.QuietTactic
import Derived.BigQuiet
import Derived.Lib.ItoaNum
import Derived.Lib.Strings
import Derived.WideShapes
import Derived.Test.YtpkfdjlmflmilaaGreatDoorProg
import Derived.Lib.SmallJoins
import Derived.Deep.Slices
import Derived.Deep.Fields
import Derived.Test.YtpkfdjlmflmilaaGreatDoorCards
import Derived.Test.YtpkfdjlmflmilaaGreatDoorTie
import Derived.WalkKit
import Derived.ProofKit
import Derived.OpenShut
import Derived.ShutString
import Derived.ChangeOld
import Derived.Below
import Derived.SizedLaws
import Derived.Deep.DeepWitnessRowRef
import Derived.Test.YtpkfdjlmflmilaaGreatDoorMoveCoins1
import Derived.Test.YtpkfdjlmflmilaaGreatDoorMoveCoins2
import Derived.Test.YtpkfdjlmflmilaaGreatDoorMoveCoins3
import Derived.Test.YtpkfdjlmflmilaaGreatDoorMoveCoins4
section
namespace Go.Proofs.YtpkfdjlmflmilaaGreatDoor.Q
open Go.RowKit Go.Proofs.YtpkfdjlmflmilaaGreatDoorW.PrintWords Go.Proofs.YtpkfdjlmflmilaaGreatDoorW.PrintLast Go.Proofs.YtpkfdjlmflmilaaGreatDoorW.PrintMore
set_option linter.unusedVariables false
set_option linter.unusedSimpArgs false
/-- A value that reads as a row of pairs. -/
def RV (W : World) (v : Value) (r : List S56) : Prop := ∃ A c, v = .slice A r.length c ∧ r.length ≤ c ∧ Kd.C k56 W A r.length r
theorem RV_of_R {W : World} {b : Nat} {ok : Nat → Prop} {v : Value} {r : List S56} (h : Kd.R k56 56 W b ok v r) : RV W v r := Kd.R_reads h
theorem R_made (W : World) (b : Nat) (hb : b ≤ W.heap.size) : Kd.R k56 56 (W.alloc (.cells #[] 56)) b (fun _ => True) (.slice (some ⟨W.heap.size, 0, none⟩) 0 0) ([] : List S56) :=
  ⟨fun _ _ => trivial, [], World.ownsRow_made W #[] 0 hb (Nat.zero_le _) (by simp), Reps.none _ _⟩
theorem C_pair (W : World) (s0 s1 : ByteArray) : Kd.C k56 (W.alloc (.cells #[.string s0, .string s1] 56)) (some ⟨W.heap.size, 0, none⟩) 1 [(⟨s0, s1⟩ : S56)] := by
  refine ⟨rfl, by omega, fun _ => ⟨_, rfl, fun j p hj => ?_⟩⟩
  cases j with
  | zero =>
    simp at hj
    subst hj
    refine ⟨[.string s0, .string s1], rfl, k56_mk _ _, fun i u hi => ?_⟩
    rw [Addr.add_lit]
    have := pair_cells (heap_alloc_new W (.cells #[.string s0, .string s1] 56)) i u hi
    simpa using this
  | succ j => simp at hj
/-- append of a row that is read, as a step of a region. -/
theorem step_rows {W w0 : World} {ops : Array Oper} {o : Oper} {a : Act} {K : Act → World → Prop} {Q : Exit → Act → World → Prop} (s x : Operand) (v : Value) (xs ys : List S56) (A : Option Addr) (c : Nat)
    (hgd : o.guard = none) (ho : o.op = .call { callee := .builtin .append, args := #[s, x], argTypes := #[24, 24] }) (hs : a.eval s = v) (hx : a.eval x = .slice A ys.length c)
    (HO : Kd.R k56 56 W w0.heap.size (fun _ => True) v xs) (HR : Kd.C k56 W A ys.length ys) (HB : Below w0.heap.size w0 W) (hl : (xs.length + ys.length) * 32 ≤ 140737488355328)
    (h : ∀ v1 w1, Kd.R k56 56 w1 w0.heap.size (fun _ => True) v1 (xs ++ ys) → Below w0.heap.size w0 w1 → W.grownBy w1 v.ownBlock → K (a.put o.dst v1) w1) :
    if Region.wanted o (yielded ops a.tmps) = true then Oper.wp Tryz.prog o a W K Q else K (a.put o.dst undef) W :=
  Kd.R_append_rows_step k56 (w0 := w0) w0.heap.size (by simp [Region.wanted, hgd]) s x 24 56 (.agg #[(.string ⟨#[]⟩), (.string ⟨#[]⟩)]) 32 ho Tryz.underlying24 info56 rfl (by decide) (by omega) v xs ys A ys.length c (fun _ => True) (fun _ => False) hs hx HO HR
    (fun x cs h => by obtain rfl := k56_open h; exact k56_mkM _ _ _ _) (fun _ h => h.elim) (fun _ _ => trivial) HB HB.size hl (fun v1 w1 h1 h2 h3 _ => h v1 w1 h1 h2 h3)

theorem wpList_rows {W w0 : World} {ops : Array Oper} {rest : List Oper} {o : Oper} {a : Act} {Q : Exit → Act → World → Prop} (s x : Operand) (v : Value) (xs ys : List S56) (A : Option Addr) (c : Nat)
    (hgd : o.guard = none) (ho : o.op = .call { callee := .builtin .append, args := #[s, x], argTypes := #[24, 24] }) (hs : a.eval s = v) (hx : a.eval x = .slice A ys.length c)
    (HO : Kd.R k56 56 W w0.heap.size (fun _ => True) v xs) (HR : Kd.C k56 W A ys.length ys) (HB : Below w0.heap.size w0 W) (hl : (xs.length + ys.length) * 32 ≤ 140737488355328)
    (h : ∀ v1 w1, Kd.R k56 56 w1 w0.heap.size (fun _ => True) v1 (xs ++ ys) → Below w0.heap.size w0 w1 → W.grownBy w1 v.ownBlock → wpList Tryz.prog ops Q rest (a.put o.dst v1) w1) :
    wpList Tryz.prog ops Q (o :: rest) a W :=
  Kd.R_append_rows k56 (w0 := w0) w0.heap.size hgd s x 24 56 (.agg #[(.string ⟨#[]⟩), (.string ⟨#[]⟩)]) 32 ho Tryz.underlying24 info56 rfl (by decide) (by omega) v xs ys A ys.length c (fun _ => True) (fun _ => False) hs hx HO HR
    (fun x cs h => by obtain rfl := k56_open h; exact k56_mkM _ _ _ _) (fun _ h => h.elim) (fun _ _ => trivial) HB HB.size hl (fun v1 w1 h1 h2 h3 _ => h v1 w1 h1 h2 h3)
theorem C_pair_grown {W W1 W2 : World} {v : Value} {s0 s1 : ByteArray} (hW : W1.heap[W.heap.size]? = (W.alloc (.cells #[.string s0, .string s1] 56)).heap[W.heap.size]?) (hlt : W.heap.size < W1.heap.size) (hg : W1.grownBy W2 v.ownBlock) (hne : some W.heap.size ≠ v.ownBlock) : Kd.C k56 W2 (some ⟨W.heap.size, 0, none⟩) 1 [(⟨s0, s1⟩ : S56)] := by
  have h2 : W2.heap[W.heap.size]? = some (.cells #[.string s0, .string s1] 56 (0, 0)) := by rw [hg.block _ hlt hne, hW]; exact heap_alloc_new W _
  refine ⟨rfl, by omega, fun _ => ⟨_, rfl, fun j p hj => ?_⟩⟩
  cases j with
  | zero =>
    simp at hj
    subst hj
    refine ⟨[.string s0, .string s1], rfl, k56_mk _ _, fun i u hi => ?_⟩
    rw [Addr.add_lit]
    have := pair_cells h2 i u hi
    simpa using this
  | succ j => simp at hj
set_option maxHeartbeats 4000000 in
set_option maxRecDepth 100000 in
theorem l03Drop_none (k : Nat) (A0 : Option Addr) (c0 : Nat) (l0 : List S56) (a1 : ByteArray) (t : Nat) (w : World) (hr0 : Kd.C k56 w A0 l0.length l0) (hc0 : l0.length ≤ c0) (ht : spec_l03At.f k l0 a1 = some (t : Int)) (htl : t ≤ l0.length)
    (hq : ∀ h : t < l0.length, ((l0[t]'h).f0.toList == a1.toList) = false) :
    Calls Tryz.prog 106 #[.slice A0 l0.length c0, .string a1] w fun e w' => e = .returned (.tuple #[.slice A0 l0.length c0, .int .i64 5]) ∧ Drawn0 w w' := by
  have HAT := spec_l03At.calls k A0 c0 l0 a1 (t : Int) w hr0 hc0 ht
  have hu := Tryz.underlying24
  have hu2 := Tryz.underlying56
  by_cases hlt : t < l0.length
  · have hq1 := hq hlt
    have hq2 : ((l0[t]'hlt).f0.toList != a1.toList) = true := by rw [bne, hq1]; rfl
    obtain ⟨ad, hA, hx0, hx1⟩ := at_T56 hr0 (t : Int) (by omega) (by omega)
    subst hA
    have hrd : rd_T56 l0 (t : Int) = l0[t] := by simp [rd_T56, List.getD, List.getElem?_eq_getElem hlt]
    rw [hrd] at hx0
    simp only [Int.toNat_natCast] at hx0
    clear hx1 hrd hq
    generalize l0[t].f0 = s0 at hq1 hq2 hx0
    generalize l0.length = n at *
    have h1 : (0 : Int) ≤ (t : Int) := by omega
    have h2 : (t : Int) < (n : Int) := by omega
    have h3 : ((t : Int) == (n : Int)) = false := by simp; omega
    clear hr0
    go_enter Tryz.func106, Tryz.ntmps106
    go_wp2_with (go_at_call 93; refine HAT.mono ?_; rintro e w' ⟨rfl, hd⟩; have HD := Aside0.mk hd; obtain ⟨⟨nd, rfl⟩⟩ := hd)
    go_ret2
    exact ⟨rfl, HD.out⟩
  · obtain rfl : t = l0.length := by omega
    clear hr0 hq ht
    generalize l0.length = n at *
    go_enter Tryz.func106, Tryz.ntmps106
    go_wp2_with (go_at_call 93; refine HAT.mono ?_; rintro e w' ⟨rfl, hd⟩; have HD := Aside0.mk hd; obtain ⟨⟨nd, rfl⟩⟩ := hd)
    go_ret2
    exact ⟨rfl, HD.out⟩
set_option maxHeartbeats 8000000 in
set_option maxRecDepth 100000 in
theorem l03Drop_some (k : Nat) (A0 : Option Addr) (c0 : Nat) (l0 : List S56) (a1 : ByteArray) (t : Nat) (w : World) (hr0 : Kd.C k56 w A0 l0.length l0) (hc0 : l0.length ≤ c0) (ht : spec_l03At.f k l0 a1 = some (t : Int)) (hlt : t < l0.length)
    (hq : (l0[t].f0.toList == a1.toList) = true) (hl : l0.length * 32 ≤ 140737488355328) :
    Calls Tryz.prog 106 #[.slice A0 l0.length c0, .string a1] w fun e w' => ∃ v, e = .returned (.tuple #[v, .int .i64 0]) ∧ Kd.R k56 56 w' w.heap.size (fun _ => True) v (l0.take t ++ l0.drop (t + 1)) ∧ Below w.heap.size w w' := by
  have HAT := spec_l03At.calls k A0 c0 l0 a1 (t : Int) w hr0 hc0 ht
  have hu := Tryz.underlying24
  have hu2 := Tryz.underlying56
  have hq2 : (l0[t].f0.toList != a1.toList) = false := by rw [bne, hq]; rfl
  obtain ⟨ad, hA, hx0, hx1⟩ := at_T56 hr0 (t : Int) (by omega) (by omega)
  subst hA
  have hrd : rd_T56 l0 (t : Int) = l0[t] := by simp [rd_T56, List.getD, List.getElem?_eq_getElem hlt]
  rw [hrd] at hx0
  simp only [Int.toNat_natCast] at hx0
  have hC1 := Kd.C_take (m := t) hr0 (by omega)
  have hC2 := Kd.C_drop (m := t + 1) (c := c0) hr0 (by omega) hc0
  have hl1 : (l0.take t).length = t := by rw [List.length_take]; omega
  have hl2 : (l0.drop (t + 1)).length = l0.length - (t + 1) := by rw [List.length_drop]
  clear hx1 hrd ht
  generalize l0[t].f0 = s0 at hq hq2 hx0
  generalize l0.take t = xs at *
  generalize l0.drop (t + 1) = ys at *
  obtain ⟨A2, hA2, HC2⟩ : ∃ A2, (if c0 = t + 1 then (some ad : Option Addr) else some (ad.add ((t + 1) * 2))) = A2 ∧ Aside0 (Kd.C k56 w A2 ys.length ys) := ⟨_, rfl, ⟨hC2⟩⟩
  have HC1 := Aside0.mk hC1
  clear hC1 hC2 hr0
  generalize l0.length = n at *
  rw [hl1] at HC1
  rw [hl2] at HC2
  have h1 : (0 : Int) ≤ (t : Int) := by omega
  have h2 : (t : Int) < (n : Int) := by omega
  have h3 : ((t : Int) == (n : Int)) = false := by simp; omega
  have h4 : (t : Int) ≤ (c0 : Int) := by omega
  have h5 : (t : Int) + 1 ≤ (n : Int) := by omega
  have h6 : IntKind.i64.wrap ((t : Int) + 1) = (t : Int) + 1 := by rw [IntKind.wrap_i64]; omega
  have h7 : (0 : Int) ≤ (t : Int) + 1 := by omega
  have h8 : ((t : Int) + 1).toNat = t + 1 := by omega
  have h9 : (t : Int) ≤ (n : Int) := by omega
  have HL1 := Aside0.mk hl1
  have HL2 := Aside0.mk hl2
  clear hl1 hl2
  go_enter Tryz.func106, Tryz.ntmps106
  go_wp2_with (go_at_call 93; refine HAT.mono ?_; rintro e w' ⟨rfl, hd⟩; obtain ⟨⟨nd, rfl⟩⟩ := hd)
  go_region_law (first
    | (refine step_rows (w0 := w) (.tmp 24) (.tmp 27) _ [] xs (some ad) c0 rfl rfl rfl (by rw [HL1.out]; simp [Act.eval, Act.put]) (R_made _ _ (by simp)) (by rw [HL1.out]; exact Kd.C_alloc (Kd.C_drew (Kd.C_drewN HC1.out _)) _) (by repeat (first | exact Below.refl _ _ | apply pw_below_drewN | apply below_drew1 | apply below_alloc)) (by have := HL1.out; simp; omega) ?_; intro v1 w1 hR1 hb1 hg1; have HR1 := Aside0.mk hR1; have HB1 := Aside0.mk hb1; clear hR1 hb1 hg1)
    | (refine step_rows (w0 := w) (.tmp 28) (.tmp 32) _ ([] ++ xs) ys A2 (c0 - (t + 1)) rfl rfl rfl (by rw [HL2.out]; simp [Act.eval, Act.put, hA2]; done) HR1.out (by rw [HL2.out]; exact Kd.C_below HC2.out HB1.out) HB1.out (by have := HL1.out; have := HL2.out; simp; omega) ?_; intro v2 w2 hR2 hb2 hg2; have HR2 := Aside0.mk hR2; have HB2 := Aside0.mk hb2; clear hR2 hb2 hg2))
  go_wp2
  go_ret2
  exact ⟨_, rfl, HR2.out, HB2.out⟩
set_option maxHeartbeats 8000000 in
set_option maxRecDepth 100000 in
theorem l03Put_set (k : Nat) (A0 : Option Addr) (c0 : Nat) (l0 : List S56) (a1 a2 : ByteArray) (t : Nat) (w : World) (hr0 : Kd.C k56 w A0 l0.length l0) (hc0 : l0.length ≤ c0) (ht : spec_l03At.f k l0 a1 = some (t : Int)) (hlt : t < l0.length)
    (hq : (l0[t].f0.toList == a1.toList) = true) (hl : l0.length * 32 ≤ 140737488355328) :
    Calls Tryz.prog 107 #[.slice A0 l0.length c0, .string a1, .string a2] w fun e w' => ∃ v, e = .returned (.tuple #[v, .int .i64 0]) ∧ Kd.R k56 56 w' w.heap.size (fun _ => True) v (l0.set t ⟨(l0.getD t z56).f0, a2⟩) ∧ Below w.heap.size w w' := by
  have HAT := spec_l03At.calls k A0 c0 l0 a1 (t : Int) w hr0 hc0 ht
  have hu := Tryz.underlying24
  have hu2 := Tryz.underlying56
  obtain ⟨ad, hA, hx0, hx1⟩ := at_T56 hr0 (t : Int) (by omega) (by omega)
  subst hA
  have hrd : rd_T56 l0 (t : Int) = l0[t] := by simp [rd_T56, List.getD, List.getElem?_eq_getElem hlt]
  rw [hrd] at hx0
  simp only [Int.toNat_natCast] at hx0
  have HSR := Aside0.mk (fun (W : World) (base g c : Nat) (ok : Nat → Prop) (hR : Kd.R k56 56 W base ok (.slice (some ⟨g, 0, none⟩) l0.length c) l0) => set_R (u := a2) hR hlt)
  have HFR := Aside0.mk (fun (W : World) (base c : Nat) (ok : Nat → Prop) (A : Option Addr) (hR : Kd.R k56 56 W base ok (.slice A l0.length c) l0) => first_R hR (by omega))
  have HC := Aside0.mk hr0
  clear hx1 hrd ht
  generalize l0[t].f0 = s0 at hq hx0
  generalize hn : l0.length = n at *
  have HN := Aside0.mk hn
  clear hn hr0
  have h1 : (0 : Int) ≤ (t : Int) := by omega
  have h2 : (t : Int) < (n : Int) := by omega
  go_enter Tryz.func107, Tryz.ntmps107
  go_wp2_with (first
    | (go_at_call 93; refine HAT.mono ?_; rintro e w' ⟨rfl, hd⟩; obtain ⟨⟨nd, rfl⟩⟩ := hd)
    | (at_builtin; refine wpList_rows (w0 := w) (.tmp 26) (.tmp 27) _ [] l0 (some ad) c0 rfl rfl rfl (by rw [HN.out]; rfl) (R_made _ _ (by simp)) (by rw [HN.out]; exact Kd.C_alloc (Kd.C_drewN HC.out _) _) (by repeat (first | exact Below.refl _ _ | apply pw_below_drewN | apply below_drew1 | apply below_alloc)) (by have := HN.out; simp; omega) ?_; intro v1 w1 hR1 hb1 hg1; rw [List.nil_append] at hR1; obtain ⟨A1, c1, rfl, hl1, _⟩ := Kd.R_reads hR1; rw [HN.out] at hl1 hR1 ⊢; obtain ⟨g, rfl⟩ := HFR.out _ _ _ _ _ hR1; obtain ⟨hS, hbg, hfz, x, hx⟩ := HSR.out _ _ _ _ _ hR1; simp only [Nat.zero_add] at hS hfz hx; have HS := Aside0.mk hS; have HBG := Aside0.mk hbg; have HB1 := Aside0.mk hb1; clear hS hbg hR1 hb1 hg1))
  go_ret2
  exact ⟨_, rfl, by first | exact HS.out | (rw [← HN.out]; exact HS.out), Below.setCell HB1.out HBG.out _⟩
set_option maxHeartbeats 4000000 in
set_option maxRecDepth 100000 in
theorem l03Put_full (k : Nat) (A0 : Option Addr) (c0 : Nat) (l0 : List S56) (a1 a2 : ByteArray) (t : Nat) (w : World) (hr0 : Kd.C k56 w A0 l0.length l0) (hc0 : l0.length ≤ c0) (ht : spec_l03At.f k l0 a1 = some (t : Int)) (htl : t ≤ l0.length)
    (hq : ∀ h : t < l0.length, ((l0[t]'h).f0.toList == a1.toList) = false) (hf : l0.length = 400) :
    Calls Tryz.prog 107 #[.slice A0 l0.length c0, .string a1, .string a2] w fun e w' => e = .returned (.tuple #[.slice A0 l0.length c0, .int .i64 7]) ∧ Drawn0 w w' := by
  have HAT := spec_l03At.calls k A0 c0 l0 a1 (t : Int) w hr0 hc0 ht
  have hu := Tryz.underlying24
  have hu2 := Tryz.underlying56
  by_cases hlt : t < l0.length
  · have hq1 := hq hlt
    obtain ⟨ad, hA, hx0, hx1⟩ := at_T56 hr0 (t : Int) (by omega) (by omega)
    subst hA
    have hrd : rd_T56 l0 (t : Int) = l0[t] := by simp [rd_T56, List.getD, List.getElem?_eq_getElem hlt]
    rw [hrd] at hx0
    simp only [Int.toNat_natCast] at hx0
    clear hx1 hrd hq
    generalize l0[t].f0 = s0 at hq1 hx0
    generalize l0.length = n at *
    subst hf
    have h1 : (0 : Int) ≤ (t : Int) := by omega
    have h2 : (t : Int) < 400 := by omega
    clear hr0
    go_enter Tryz.func107, Tryz.ntmps107
    go_wp2_with (go_at_call 93; refine HAT.mono ?_; rintro e w' ⟨rfl, hd⟩; have HD := Aside0.mk hd; obtain ⟨⟨nd, rfl⟩⟩ := hd)
    go_ret2
    exact ⟨rfl, HD.out⟩
  · obtain rfl : t = l0.length := by omega
    clear hr0 hq ht
    generalize l0.length = n at *
    subst hf
    go_enter Tryz.func107, Tryz.ntmps107
    go_wp2_with (go_at_call 93; refine HAT.mono ?_; rintro e w' ⟨rfl, hd⟩; have HD := Aside0.mk hd; obtain ⟨⟨nd, rfl⟩⟩ := hd)
    go_ret2
    exact ⟨rfl, HD.out⟩
set_option maxHeartbeats 8000000 in
set_option maxRecDepth 100000 in
theorem l03Put_ins (k : Nat) (A0 : Option Addr) (c0 : Nat) (l0 : List S56) (a1 a2 : ByteArray) (t : Nat) (w : World) (hr0 : Kd.C k56 w A0 l0.length l0) (hc0 : l0.length ≤ c0) (ht : spec_l03At.f k l0 a1 = some (t : Int)) (htl : t ≤ l0.length)
    (hq : ∀ h : t < l0.length, ((l0[t]'h).f0.toList == a1.toList) = false) (hf : l0.length ≠ 400) (hl : (l0.length + 1) * 32 ≤ 140737488355328) :
    Calls Tryz.prog 107 #[.slice A0 l0.length c0, .string a1, .string a2] w fun e w' => ∃ v, e = .returned (.tuple #[v, .int .i64 0]) ∧ Kd.R k56 56 w' w.heap.size (fun _ => True) v (l0.take t ++ ⟨a1, a2⟩ :: l0.drop t) ∧ Below w.heap.size w w' := by
  have HAT := spec_l03At.calls k A0 c0 l0 a1 (t : Int) w hr0 hc0 ht
  have hu := Tryz.underlying24
  have hu2 := Tryz.underlying56
  have hC1 := Kd.C_take (m := t) hr0 (by omega)
  have hC2 := Kd.C_drop (m := t) (c := c0) hr0 (by omega) hc0
  have hl1 : (l0.take t).length = t := by rw [List.length_take]; omega
  have hl2 : (l0.drop t).length = l0.length - t := by rw [List.length_drop]
  have hres : l0.take t ++ ⟨a1, a2⟩ :: l0.drop t = [] ++ l0.take t ++ [⟨a1, a2⟩] ++ l0.drop t := by simp
  have hA0 : A0 = none → l0.length = 0 := fun e => by
    rcases Nat.eq_zero_or_pos l0.length with h | h
    · exact h
    · obtain ⟨ad, e', _⟩ := hr0.2.2 h
      rw [e] at e'
      cases e'
  have hcell : ∀ h : t < l0.length, ∃ ad s0, A0 = some ad ∧ w.cell? (ad.add (t * 2)) = some (.string s0) ∧ (s0.toList == a1.toList) = false := fun h => by
    obtain ⟨ad, hA, hx0, hx1⟩ := at_T56 hr0 (t : Int) (by omega) (by omega)
    have hrd : rd_T56 l0 (t : Int) = l0[t] := by simp [rd_T56, List.getD, List.getElem?_eq_getElem h]
    rw [hrd] at hx0
    exact ⟨ad, _, hA, hx0, hq h⟩
  rw [hres]
  clear hq ht hr0 hres
  generalize l0.take t = xs at *
  generalize l0.drop t = ys at *
  have hA : ∃ A2, (∀ a, A0 = some a → (if c0 = t then (some a : Option Addr) else some (a.add (t * 2))) = A2) ∧ (A0 = none → A2 = none) ∧ Kd.C k56 w A2 ys.length ys := by
    refine ⟨_, ?_, ?_, hC2⟩
    · intro a ha; subst ha; rfl
    · intro ha; subst ha; split <;> rfl
  obtain ⟨A2, hAs, hAn, hC2'⟩ := hA
  have HC1 := Aside0.mk hC1
  have HC2 := Aside0.mk hC2'
  clear hC1 hC2 hC2'
  generalize l0.length = n at *
  rw [hl1] at HC1
  rw [hl2] at HC2
  have HL1 := Aside0.mk hl1
  have HL2 := Aside0.mk hl2
  clear hl1 hl2
  have h1 : (0 : Int) ≤ (t : Int) := by omega
  have h4 : (t : Int) ≤ (c0 : Int) := by omega
  have h5 : ((n : Int) == 400) = false := by simp; omega
  have h9 : (t : Int) ≤ (n : Int) := by omega
  clear hf
  by_cases hlt : t < n
  · obtain ⟨ad, s0, hA, hx0, hq1⟩ := hcell hlt
    subst hA
    have hA2 := hAs ad rfl
    have h2 : (t : Int) < (n : Int) := by omega
    clear hcell hAs hAn hA0
    go_enter Tryz.func107, Tryz.ntmps107
    go_wp2_with (go_at_call 93; refine HAT.mono ?_; rintro e w' ⟨rfl, hd⟩; obtain ⟨⟨nd, rfl⟩⟩ := hd)
    go_region_law (first
      | (refine step_rows (w0 := w) (.tmp 39) (.tmp 42) (.slice (some ⟨((w.drewN nd).drew).heap.size, 0, none⟩) 0 0) [] xs (some ad) c0 rfl rfl rfl (by rw [HL1.out]; simp [Act.eval, Act.put]) (R_made ((w.drewN nd).drew) _ (by simp)) (by rw [HL1.out]; repeat (first | exact HC1.out | apply Kd.C_alloc | apply Kd.C_drew | apply Kd.C_drewN)) (by repeat (first | exact Below.refl _ _ | apply pw_below_drewN | apply below_drew1 | apply below_alloc)) (by have := HL1.out; simp; omega) ?_; intro v1 w1 hR1 hb1 hg1; have HR1 := Aside0.mk hR1; have HB1 := Aside0.mk hb1; clear hR1 hb1 hg1)
      | (refine step_rows (w0 := w) (.tmp 39) (.tmp 42) (.slice (some ⟨((w.drewN nd).drew).heap.size, 0, none⟩) 0 0) [] xs (some ad) c0 rfl rfl rfl (by rw [HL1.out]; simp [Act.eval, Act.put]) (Kd.R_alloc (R_made ((w.drewN nd).drew) _ (by simp)) (.cells #[.string a1, .string a2] 56)) (by rw [HL1.out]; repeat (first | exact HC1.out | apply Kd.C_alloc | apply Kd.C_drew | apply Kd.C_drewN)) (by repeat (first | exact Below.refl _ _ | apply pw_below_drewN | apply below_drew1 | apply below_alloc)) (by have := HL1.out; simp; omega) ?_; intro v1 w1 hR1 hb1 hg1; have HR1 := Aside0.mk hR1; have HB1 := Aside0.mk hb1; have HP : Aside0 (Kd.C k56 w1 (some ⟨w.heap.size + 1, 0, none⟩) 1 [(⟨a1, a2⟩ : S56)]) := Aside0.mk (by have z := (C_pair_grown (W := ((w.drewN nd).drew).alloc (.cells #[] 56)) (s0 := a1) (s1 := a2) rfl (by simp) hg1 (by simp [Value.ownBlock])); simpa using z); clear hR1 hb1 hg1)
      | (refine step_rows (w0 := w) (.tmp 39) (.tmp 42) (.slice (some ⟨(((w.drewN nd).drew).alloc (.cells #[.string a1, .string a2] 56)).heap.size, 0, none⟩) 0 0) [] xs (some ad) c0 rfl rfl (by simp [Act.eval, Act.put]) (by rw [HL1.out]; simp [Act.eval, Act.put]) (R_made (((w.drewN nd).drew).alloc (.cells #[.string a1, .string a2] 56)) _ (by simp <;> omega)) (by rw [HL1.out]; repeat (first | exact HC1.out | apply Kd.C_alloc | apply Kd.C_drew | apply Kd.C_drewN)) (by repeat (first | exact Below.refl _ _ | apply pw_below_drewN | apply below_drew1 | apply below_alloc)) (by have := HL1.out; simp; omega) ?_; intro v1 w1 hR1 hb1 hg1; have HR1 := Aside0.mk hR1; have HB1 := Aside0.mk hb1; have HP : Aside0 (Kd.C k56 w1 (some ⟨w.heap.size, 0, none⟩) 1 [(⟨a1, a2⟩ : S56)]) := Aside0.mk (by have z := (C_pair_grown (W := ((w.drewN nd).drew)) (s0 := a1) (s1 := a2) (by first | exact heap_alloc_old _ _ (by simp) | (rw [heap_alloc_old _ _ (by simp)]; done) | (rw [heap_alloc_old _ _ (by simp)]; rfl)) (by simp <;> omega) hg1 (by simp [Value.ownBlock])); simpa using z); clear hR1 hb1 hg1)
      | (refine step_rows (w0 := w) (.tmp 43) (.tmp 47) v1 ([] ++ xs) [⟨a1, a2⟩] (some ⟨w.heap.size + 1, 0, none⟩) 1 rfl rfl rfl (by simp [Act.eval, Act.put]) HR1.out HP.out HB1.out (by have := HL1.out; simp; omega) ?_; intro v2 w2 hR2 hb2 hg2; have HR2 := Aside0.mk hR2; have HB2 := Aside0.mk hb2; clear hR2 hb2 hg2)
      | (refine step_rows (w0 := w) (.tmp 43) (.tmp 47) v1 ([] ++ xs) [⟨a1, a2⟩] (some ⟨w.heap.size, 0, none⟩) 1 rfl rfl rfl (by simp [Act.eval, Act.put]) HR1.out HP.out HB1.out (by have := HL1.out; simp; omega) ?_; intro v2 w2 hR2 hb2 hg2; have HR2 := Aside0.mk hR2; have HB2 := Aside0.mk hb2; clear hR2 hb2 hg2)
      | (refine step_rows (w0 := w) (.tmp 43) (.tmp 47) v1 ([] ++ xs) [⟨a1, a2⟩] (some ⟨w1.heap.size, 0, none⟩) 1 rfl rfl rfl (by simp [Act.eval, Act.put]) (Kd.R_alloc HR1.out _) (C_pair w1 a1 a2) (below_alloc HB1.out _) (by have := HL1.out; simp; omega) ?_; intro v2 w2 hR2 hb2 hg2; have HR2 := Aside0.mk hR2; have HB2 := Aside0.mk hb2; clear hR2 hb2 hg2)
      | (refine step_rows (w0 := w) (.tmp 48) (.tmp 51) v2 ([] ++ xs ++ [⟨a1, a2⟩]) ys A2 (c0 - t) rfl rfl rfl (by rw [HL2.out]; simp [Act.eval, Act.put, hA2]; done) HR2.out (by rw [HL2.out]; exact Kd.C_below HC2.out HB2.out) HB2.out (by have := HL1.out; have := HL2.out; simp; omega) ?_; intro v3 w3 hR3 hb3 hg3; have HR3 := Aside0.mk hR3; have HB3 := Aside0.mk hb3; clear hR3 hb3 hg3))
    all_goals
      go_wp2
      go_ret2
      exact ⟨_, rfl, HR3.out, HB3.out⟩
  · obtain rfl : n = t := by omega
    have h2 : decide ((n : Int) < (n : Int)) = false := by simp
    clear hcell
    cases A0 with
    | none =>
      obtain rfl := hA0 rfl
      obtain rfl := hAn rfl
      clear hA0 hAs hAn
      go_enter Tryz.func107, Tryz.ntmps107
      go_wp2_with (go_at_call 93; refine HAT.mono ?_; rintro e w' ⟨rfl, hd⟩; obtain ⟨⟨nd, rfl⟩⟩ := hd)
      have hA2 : True := trivial
      go_region_law (first
        | (refine step_rows (w0 := w) (.tmp 39) (.tmp 42) (.slice (some ⟨((w.drewN nd).drew).heap.size, 0, none⟩) 0 0) [] xs none c0 rfl rfl rfl (by rw [HL1.out]; simp [Act.eval, Act.put]) (R_made ((w.drewN nd).drew) _ (by simp)) (by rw [HL1.out]; repeat (first | exact HC1.out | apply Kd.C_alloc | apply Kd.C_drew | apply Kd.C_drewN)) (by repeat (first | exact Below.refl _ _ | apply pw_below_drewN | apply below_drew1 | apply below_alloc)) (by have := HL1.out; simp; omega) ?_; intro v1 w1 hR1 hb1 hg1; have HR1 := Aside0.mk hR1; have HB1 := Aside0.mk hb1; clear hR1 hb1 hg1)
        | (refine step_rows (w0 := w) (.tmp 39) (.tmp 42) (.slice (some ⟨((w.drewN nd).drew).heap.size, 0, none⟩) 0 0) [] xs none c0 rfl rfl rfl (by rw [HL1.out]; simp [Act.eval, Act.put]) (Kd.R_alloc (R_made ((w.drewN nd).drew) _ (by simp)) (.cells #[.string a1, .string a2] 56)) (by rw [HL1.out]; repeat (first | exact HC1.out | apply Kd.C_alloc | apply Kd.C_drew | apply Kd.C_drewN)) (by repeat (first | exact Below.refl _ _ | apply pw_below_drewN | apply below_drew1 | apply below_alloc)) (by have := HL1.out; simp; omega) ?_; intro v1 w1 hR1 hb1 hg1; have HR1 := Aside0.mk hR1; have HB1 := Aside0.mk hb1; have HP : Aside0 (Kd.C k56 w1 (some ⟨w.heap.size + 1, 0, none⟩) 1 [(⟨a1, a2⟩ : S56)]) := Aside0.mk (by have z := (C_pair_grown (W := ((w.drewN nd).drew).alloc (.cells #[] 56)) (s0 := a1) (s1 := a2) rfl (by simp) hg1 (by simp [Value.ownBlock])); simpa using z); clear hR1 hb1 hg1)
        | (refine step_rows (w0 := w) (.tmp 39) (.tmp 42) (.slice (some ⟨(((w.drewN nd).drew).alloc (.cells #[.string a1, .string a2] 56)).heap.size, 0, none⟩) 0 0) [] xs none c0 rfl rfl (by simp [Act.eval, Act.put]) (by rw [HL1.out]; simp [Act.eval, Act.put]) (R_made (((w.drewN nd).drew).alloc (.cells #[.string a1, .string a2] 56)) _ (by simp <;> omega)) (by rw [HL1.out]; repeat (first | exact HC1.out | apply Kd.C_alloc | apply Kd.C_drew | apply Kd.C_drewN)) (by repeat (first | exact Below.refl _ _ | apply pw_below_drewN | apply below_drew1 | apply below_alloc)) (by have := HL1.out; simp; omega) ?_; intro v1 w1 hR1 hb1 hg1; have HR1 := Aside0.mk hR1; have HB1 := Aside0.mk hb1; have HP : Aside0 (Kd.C k56 w1 (some ⟨w.heap.size, 0, none⟩) 1 [(⟨a1, a2⟩ : S56)]) := Aside0.mk (by have z := (C_pair_grown (W := ((w.drewN nd).drew)) (s0 := a1) (s1 := a2) (by first | exact heap_alloc_old _ _ (by simp) | (rw [heap_alloc_old _ _ (by simp)]; done) | (rw [heap_alloc_old _ _ (by simp)]; rfl)) (by simp <;> omega) hg1 (by simp [Value.ownBlock])); simpa using z); clear hR1 hb1 hg1)
        | (refine step_rows (w0 := w) (.tmp 43) (.tmp 47) v1 ([] ++ xs) [⟨a1, a2⟩] (some ⟨w.heap.size + 1, 0, none⟩) 1 rfl rfl rfl (by simp [Act.eval, Act.put]) HR1.out HP.out HB1.out (by have := HL1.out; simp; omega) ?_; intro v2 w2 hR2 hb2 hg2; have HR2 := Aside0.mk hR2; have HB2 := Aside0.mk hb2; clear hR2 hb2 hg2)
        | (refine step_rows (w0 := w) (.tmp 43) (.tmp 47) v1 ([] ++ xs) [⟨a1, a2⟩] (some ⟨w.heap.size, 0, none⟩) 1 rfl rfl rfl (by simp [Act.eval, Act.put]) HR1.out HP.out HB1.out (by have := HL1.out; simp; omega) ?_; intro v2 w2 hR2 hb2 hg2; have HR2 := Aside0.mk hR2; have HB2 := Aside0.mk hb2; clear hR2 hb2 hg2)
        | (refine step_rows (w0 := w) (.tmp 43) (.tmp 47) v1 ([] ++ xs) [⟨a1, a2⟩] (some ⟨w1.heap.size, 0, none⟩) 1 rfl rfl rfl (by simp [Act.eval, Act.put]) (Kd.R_alloc HR1.out _) (C_pair w1 a1 a2) (below_alloc HB1.out _) (by have := HL1.out; simp; omega) ?_; intro v2 w2 hR2 hb2 hg2; have HR2 := Aside0.mk hR2; have HB2 := Aside0.mk hb2; clear hR2 hb2 hg2)
        | (refine step_rows (w0 := w) (.tmp 48) (.tmp 51) v2 ([] ++ xs ++ [⟨a1, a2⟩]) ys none _ rfl rfl rfl (by rw [HL2.out]; simp [Act.eval, Act.put]; rfl) HR2.out (by rw [HL2.out]; exact Kd.C_below HC2.out HB2.out) HB2.out (by have := HL1.out; have := HL2.out; simp; omega) ?_; intro v3 w3 hR3 hb3 hg3; have HR3 := Aside0.mk hR3; have HB3 := Aside0.mk hb3; clear hR3 hb3 hg3))
      all_goals
        go_wp2
        go_ret2
        exact ⟨_, rfl, HR3.out, HB3.out⟩
    | some ad =>
      have hA2 := hAs ad rfl
      clear hA0 hAs hAn
      go_enter Tryz.func107, Tryz.ntmps107
      go_wp2_with (go_at_call 93; refine HAT.mono ?_; rintro e w' ⟨rfl, hd⟩; obtain ⟨⟨nd, rfl⟩⟩ := hd)
      go_region_law (first
        | (refine step_rows (w0 := w) (.tmp 39) (.tmp 42) (.slice (some ⟨((w.drewN nd).drew).heap.size, 0, none⟩) 0 0) [] xs (some ad) c0 rfl rfl rfl (by rw [HL1.out]; simp [Act.eval, Act.put]) (R_made ((w.drewN nd).drew) _ (by simp)) (by rw [HL1.out]; repeat (first | exact HC1.out | apply Kd.C_alloc | apply Kd.C_drew | apply Kd.C_drewN)) (by repeat (first | exact Below.refl _ _ | apply pw_below_drewN | apply below_drew1 | apply below_alloc)) (by have := HL1.out; simp; omega) ?_; intro v1 w1 hR1 hb1 hg1; have HR1 := Aside0.mk hR1; have HB1 := Aside0.mk hb1; clear hR1 hb1 hg1)
        | (refine step_rows (w0 := w) (.tmp 39) (.tmp 42) (.slice (some ⟨((w.drewN nd).drew).heap.size, 0, none⟩) 0 0) [] xs (some ad) c0 rfl rfl rfl (by rw [HL1.out]; simp [Act.eval, Act.put]) (Kd.R_alloc (R_made ((w.drewN nd).drew) _ (by simp)) (.cells #[.string a1, .string a2] 56)) (by rw [HL1.out]; repeat (first | exact HC1.out | apply Kd.C_alloc | apply Kd.C_drew | apply Kd.C_drewN)) (by repeat (first | exact Below.refl _ _ | apply pw_below_drewN | apply below_drew1 | apply below_alloc)) (by have := HL1.out; simp; omega) ?_; intro v1 w1 hR1 hb1 hg1; have HR1 := Aside0.mk hR1; have HB1 := Aside0.mk hb1; have HP : Aside0 (Kd.C k56 w1 (some ⟨w.heap.size + 1, 0, none⟩) 1 [(⟨a1, a2⟩ : S56)]) := Aside0.mk (by have z := (C_pair_grown (W := ((w.drewN nd).drew).alloc (.cells #[] 56)) (s0 := a1) (s1 := a2) rfl (by simp) hg1 (by simp [Value.ownBlock])); simpa using z); clear hR1 hb1 hg1)
        | (refine step_rows (w0 := w) (.tmp 39) (.tmp 42) (.slice (some ⟨(((w.drewN nd).drew).alloc (.cells #[.string a1, .string a2] 56)).heap.size, 0, none⟩) 0 0) [] xs (some ad) c0 rfl rfl (by simp [Act.eval, Act.put]) (by rw [HL1.out]; simp [Act.eval, Act.put]) (R_made (((w.drewN nd).drew).alloc (.cells #[.string a1, .string a2] 56)) _ (by simp <;> omega)) (by rw [HL1.out]; repeat (first | exact HC1.out | apply Kd.C_alloc | apply Kd.C_drew | apply Kd.C_drewN)) (by repeat (first | exact Below.refl _ _ | apply pw_below_drewN | apply below_drew1 | apply below_alloc)) (by have := HL1.out; simp; omega) ?_; intro v1 w1 hR1 hb1 hg1; have HR1 := Aside0.mk hR1; have HB1 := Aside0.mk hb1; have HP : Aside0 (Kd.C k56 w1 (some ⟨w.heap.size, 0, none⟩) 1 [(⟨a1, a2⟩ : S56)]) := Aside0.mk (by have z := (C_pair_grown (W := ((w.drewN nd).drew)) (s0 := a1) (s1 := a2) (by first | exact heap_alloc_old _ _ (by simp) | (rw [heap_alloc_old _ _ (by simp)]; done) | (rw [heap_alloc_old _ _ (by simp)]; rfl)) (by simp <;> omega) hg1 (by simp [Value.ownBlock])); simpa using z); clear hR1 hb1 hg1)
        | (refine step_rows (w0 := w) (.tmp 43) (.tmp 47) v1 ([] ++ xs) [⟨a1, a2⟩] (some ⟨w.heap.size + 1, 0, none⟩) 1 rfl rfl rfl (by simp [Act.eval, Act.put]) HR1.out HP.out HB1.out (by have := HL1.out; simp; omega) ?_; intro v2 w2 hR2 hb2 hg2; have HR2 := Aside0.mk hR2; have HB2 := Aside0.mk hb2; clear hR2 hb2 hg2)
        | (refine step_rows (w0 := w) (.tmp 43) (.tmp 47) v1 ([] ++ xs) [⟨a1, a2⟩] (some ⟨w.heap.size, 0, none⟩) 1 rfl rfl rfl (by simp [Act.eval, Act.put]) HR1.out HP.out HB1.out (by have := HL1.out; simp; omega) ?_; intro v2 w2 hR2 hb2 hg2; have HR2 := Aside0.mk hR2; have HB2 := Aside0.mk hb2; clear hR2 hb2 hg2)
        | (refine step_rows (w0 := w) (.tmp 43) (.tmp 47) v1 ([] ++ xs) [⟨a1, a2⟩] (some ⟨w1.heap.size, 0, none⟩) 1 rfl rfl rfl (by simp [Act.eval, Act.put]) (Kd.R_alloc HR1.out _) (C_pair w1 a1 a2) (below_alloc HB1.out _) (by have := HL1.out; simp; omega) ?_; intro v2 w2 hR2 hb2 hg2; have HR2 := Aside0.mk hR2; have HB2 := Aside0.mk hb2; clear hR2 hb2 hg2)
        | (refine step_rows (w0 := w) (.tmp 48) (.tmp 51) v2 ([] ++ xs ++ [⟨a1, a2⟩]) ys A2 (c0 - n) rfl rfl rfl (by rw [HL2.out]; simp [Act.eval, Act.put, hA2]; done) HR2.out (by rw [HL2.out]; exact Kd.C_below HC2.out HB2.out) HB2.out (by have := HL1.out; have := HL2.out; simp; omega) ?_; intro v3 w3 hR3 hb3 hg3; have HR3 := Aside0.mk hR3; have HB3 := Aside0.mk hb3; clear hR3 hb3 hg3))
      all_goals
        go_wp2
        go_ret2
        exact ⟨_, rfl, HR3.out, HB3.out⟩
def dropT (l : List S56) (t : Nat) (a : ByteArray) : List S56 × Int := if t < l.length ∧ ((l.getD t z56).f0.toList == a.toList) = true then (l.take t ++ l.drop (t + 1), 0) else (l, 5)
def putT (l : List S56) (t : Nat) (a v : ByteArray) : List S56 × Int := if t < l.length ∧ ((l.getD t z56).f0.toList == a.toList) = true then (l.set t ⟨(l.getD t z56).f0, v⟩, 0) else if l.length = 400 then (l, 7) else (l.take t ++ ⟨a, v⟩ :: l.drop t, 0)
theorem getD_at (l : List S56) (t : Nat) (h : t < l.length) : l.getD t z56 = l[t] := by simp [List.getD, List.getElem?_eq_getElem h]
theorem l03Drop_calls (k : Nat) (A0 : Option Addr) (c0 : Nat) (l0 : List S56) (a1 : ByteArray) (t : Nat) (w : World) (hr0 : Kd.C k56 w A0 l0.length l0) (hc0 : l0.length ≤ c0) (ht : spec_l03At.f k l0 a1 = some (t : Int)) (htl : t ≤ l0.length) (hl : l0.length * 32 ≤ 140737488355328) :
    Calls Tryz.prog 106 #[.slice A0 l0.length c0, .string a1] w fun e w' => ∃ v, e = .returned (.tuple #[v, .int .i64 (dropT l0 t a1).2]) ∧ RV w' v (dropT l0 t a1).1 ∧ Below w.heap.size w w' := by
  by_cases h : t < l0.length ∧ ((l0.getD t z56).f0.toList == a1.toList) = true
  · have e : dropT l0 t a1 = (l0.take t ++ l0.drop (t + 1), 0) := by unfold dropT; rw [if_pos h]
    rw [e]
    rw [getD_at _ _ h.1] at h
    refine (l03Drop_some k A0 c0 l0 a1 t w hr0 hc0 ht h.1 h.2 hl).mono ?_
    rintro e w' ⟨v, rfl, hR, hb⟩
    exact ⟨v, rfl, RV_of_R hR, hb⟩
  · have e : dropT l0 t a1 = (l0, 5) := by unfold dropT; rw [if_neg h]
    rw [e]
    refine (l03Drop_none k A0 c0 l0 a1 t w hr0 hc0 ht htl (fun hh => ?_)).mono ?_
    · rw [← getD_at _ _ hh]
      exact Bool.eq_false_iff.2 fun hx => h ⟨hh, hx⟩
    · rintro e w' ⟨rfl, hd⟩
      exact ⟨_, rfl, ⟨A0, c0, rfl, hc0, Kd.C_below hr0 hd.below⟩, hd.below⟩
theorem l03Put_calls (k : Nat) (A0 : Option Addr) (c0 : Nat) (l0 : List S56) (a1 a2 : ByteArray) (t : Nat) (w : World) (hr0 : Kd.C k56 w A0 l0.length l0) (hc0 : l0.length ≤ c0) (ht : spec_l03At.f k l0 a1 = some (t : Int)) (htl : t ≤ l0.length) (hl : (l0.length + 1) * 32 ≤ 140737488355328) :
    Calls Tryz.prog 107 #[.slice A0 l0.length c0, .string a1, .string a2] w fun e w' => ∃ v, e = .returned (.tuple #[v, .int .i64 (putT l0 t a1 a2).2]) ∧ RV w' v (putT l0 t a1 a2).1 ∧ Below w.heap.size w w' := by
  by_cases h : t < l0.length ∧ ((l0.getD t z56).f0.toList == a1.toList) = true
  · have e : putT l0 t a1 a2 = (l0.set t ⟨(l0.getD t z56).f0, a2⟩, 0) := by unfold putT; rw [if_pos h]
    rw [e]
    have h2 := h.2
    rw [getD_at _ _ h.1] at h2
    refine (l03Put_set k A0 c0 l0 a1 a2 t w hr0 hc0 ht h.1 h2 (by omega)).mono ?_
    rintro e w' ⟨v, rfl, hR, hb⟩
    exact ⟨v, rfl, RV_of_R hR, hb⟩
  · have hn : ∀ hh : t < l0.length, ((l0[t]'hh).f0.toList == a1.toList) = false := fun hh => by
      rw [← getD_at _ _ hh]
      exact Bool.eq_false_iff.2 fun hx => h ⟨hh, hx⟩
    by_cases hf : l0.length = 400
    · have e : putT l0 t a1 a2 = (l0, 7) := by unfold putT; rw [if_neg h, if_pos hf]
      rw [e]
      refine (l03Put_full k A0 c0 l0 a1 a2 t w hr0 hc0 ht htl hn hf).mono ?_
      rintro e w' ⟨rfl, hd⟩
      exact ⟨_, rfl, ⟨A0, c0, rfl, hc0, Kd.C_below hr0 hd.below⟩, hd.below⟩
    · have e : putT l0 t a1 a2 = (l0.take t ++ ⟨a1, a2⟩ :: l0.drop t, 0) := by unfold putT; rw [if_neg h, if_neg hf]
      rw [e]
      refine (l03Put_ins k A0 c0 l0 a1 a2 t w hr0 hc0 ht htl hn hf hl).mono ?_
      rintro e w' ⟨v, rfl, hR, hb⟩
      exact ⟨v, rfl, RV_of_R hR, hb⟩
end Go.Proofs.YtpkfdjlmflmilaaGreatDoor.Q
end
section
namespace Go.Proofs.YtpkfdjlmflmilaaGreatDoor.Pure
open Go.RowKit Go.Proofs.YtpkfdjlmflmilaaGreatDoor.Q Go.Proofs.YtpkfdjlmflmilaaGreatDoorW.PrintWords Go.Proofs.YtpkfdjlmflmilaaGreatDoorW.PrintLast
set_option linter.unusedVariables false
def digT (n : Nat) : ByteArray := ⟨(Lib.decDigits n).toArray⟩
theorem dd_small {n : Nat} (h : n < 10) : Lib.decDigits n = [UInt8.ofNat (48 + n)] := by rw [Lib.decDigits, dif_pos h]
theorem dd_big {n : Nat} (h : ¬ n < 10) : Lib.decDigits n = Lib.decDigits (n / 10) ++ [UInt8.ofNat (48 + n % 10)] := by rw [Lib.decDigits, dif_neg h]
theorem dd_len : ∀ (k n : Nat), 1 ≤ k → n < 10 ^ k → (Lib.decDigits n).length ≤ k := by
  intro k
  induction k with
  | zero => intro n h; omega
  | succ k ih =>
    intro n _ hn
    by_cases h : n < 10
    · rw [dd_small h]
      simp
    · rw [dd_big h, List.length_append]
      have hk : 1 ≤ k := by
        rcases Nat.eq_zero_or_pos k with rfl | h1
        · simp at hn
          omega
        · exact h1
      have := ih (n / 10) hk (by rw [Nat.pow_succ] at hn; omega)
      simp
      omega
theorem one_num (n : Nat) (h : n < 10) : strOfNums ([(wrap64 (48 + (n : Int))) % 256] : List Int) = ⟨([UInt8.ofNat (48 + n)] : List UInt8).toArray⟩ := by
  have e : (wrap64 (48 + (n : Int))) % 256 = ((48 + n : Nat) : Int) := by unfold wrap64; omega
  rw [e]
  unfold strOfNums
  rw [List.map_cons, List.map_nil, Int.toNat_natCast]
theorem digits_eq : ∀ (k n : Nat), 1 ≤ k → k ≤ 30 → n < 10 ^ k → n ≤ 9223372036854775807 → spec_l00Digits.f k (n : Int) = some (digT n) := by
  intro k
  induction k with
  | zero => intro n h; omega
  | succ k ih =>
    intro n _ hk30 hn hmax
    simp only [spec_l00Digits.f]
    rw [if_neg (by omega), if_neg (by omega)]
    by_cases h : n < 10
    · rw [if_pos (by omega), one_num n h]
      unfold digT
      rw [dd_small h]
    · have hk : 1 ≤ k := by
        rcases Nat.eq_zero_or_pos k with rfl | h1
        · simp at hn
          omega
        · exact h1
      have e1 : wrap64 (Int.tdiv (n : Int) 10) = ((n / 10 : Nat) : Int) := by
        rw [Int.tdiv_eq_ediv_of_nonneg (by omega)]
        unfold wrap64
        omega
      have e2 : Int.tmod (n : Int) 10 = ((n % 10 : Nat) : Int) := by
        rw [Int.tmod_eq_emod_of_nonneg (by omega)]
        omega
      rw [if_neg (by omega), e1, e2, ih (n / 10) hk (by omega) (by rw [Nat.pow_succ] at hn; omega) (by omega), Option.bind_some, Option.bind_some, one_num (n % 10) (by omega)]
      have hl := dd_len k (n / 10) hk (by rw [Nat.pow_succ] at hn; omega)
      have hz : (digT (n / 10)).size = (Lib.decDigits (n / 10)).length := by unfold digT; simp [ByteArray.size]
      have hz1 : (⟨([UInt8.ofNat (48 + n % 10)] : List UInt8).toArray⟩ : ByteArray).size = 1 := rfl
      rw [hz, hz1, if_pos (by omega)]
      congr 1
      unfold digT
      rw [dd_big h]
      apply Go.WideShapes.bytes_inj
      rw [ByteArray.data_append]
      simp
end Go.Proofs.YtpkfdjlmflmilaaGreatDoor.Pure
end
section
namespace Go.Proofs.YtpkfdjlmflmilaaGreatDoor.Q
open Go.RowKit Go.Proofs.YtpkfdjlmflmilaaGreatDoorW.PrintWords Go.Proofs.YtpkfdjlmflmilaaGreatDoorW.PrintLast Go.Proofs.YtpkfdjlmflmilaaGreatDoorW.PrintMore Go.Proofs.YtpkfdjlmflmilaaGreatDoor.Pure
set_option linter.unusedVariables false
set_option linter.unusedSimpArgs false
theorem fdB_cond (l : List S56) (a : ByteArray) : (lbN l a < l.length ∧ ((l.getD (lbN l a) z56).f0.toList == a.toList) = true) ↔ fdB l a = true := by
  unfold fdB
  rw [Bool.and_eq_true, decide_eq_true_iff, Lib.toList_data, Lib.toList_data]
theorem dropT_eq (l : List S56) (a : ByteArray) : dropT l (lbN l a) a = dropN l a := by
  unfold dropT dropN
  by_cases h : fdB l a = true
  · rw [if_pos h, if_pos ((fdB_cond l a).2 h)]
  · rw [if_neg h, if_neg (fun e => h ((fdB_cond l a).1 e))]
theorem putT_eq (l : List S56) (a v : ByteArray) : putT l (lbN l a) a v = putN l a v := by
  unfold putT putN
  by_cases h : fdB l a = true
  · rw [if_pos h, if_pos ((fdB_cond l a).2 h)]
  · rw [if_neg h, if_neg (fun e => h ((fdB_cond l a).1 e))]
theorem RV_below {W W' : World} {v : Value} {r : List S56} (h : RV W v r) (hb : Below W.heap.size W W') : RV W' v r := by
  obtain ⟨A, c, rfl, hc, hC⟩ := h
  exact ⟨A, c, rfl, hc, Kd.C_below hC hb⟩
theorem dig_eq (m : Nat) (hm : m ≤ 1000000000000000000) : spec_l00Digits.f 30 (m : Int) = some (itoaT (m : Int)) := by
  have h30 : (10 : Nat) ^ 30 = 1000000000000000000000000000000 := by decide
  rw [digits_eq 30 m (by omega) (by omega) (by omega) (by omega), itoaT_num]
  rfl
set_option maxHeartbeats 8000000 in
set_option maxRecDepth 100000 in
theorem l05Write_calls (A0 : Option Addr) (c0 : Nat) (l0 : List S56) (a1 : ByteArray) (n : Int) (w : World) (hr0 : Kd.C k56 w A0 l0.length l0) (hc0 : l0.length ≤ c0) (hl : l0.length ≤ 5000) (h0 : 0 ≤ n) (h1 : n ≤ 1000000000000000000) :
    Calls Tryz.prog 87 #[.slice A0 l0.length c0, .string a1, .int .i64 n] w fun e w' => ∃ v, e = .returned (.tuple #[v, .int .i64 (wrN l0 a1 n).2]) ∧ RV w' v (wrN l0 a1 n).1 ∧ Below w.heap.size w w' := by
  have hat := spec_at l0 a1 (by omega) (l0.length + 1) (by omega)
  have hle := lbN_le l0 a1
  by_cases hz : n = 0
  · subst hz
    have HD := l03Drop_calls (l0.length + 1) A0 c0 l0 a1 (lbN l0 a1) w hr0 hc0 hat hle (by omega)
    rw [dropT_eq] at HD
    have e : wrN l0 a1 0 = ((dropN l0 a1).1, 0) := by unfold wrN; rw [if_pos rfl]
    rw [e]
    clear e hat hle hr0 hc0
    generalize (dropN l0 a1).1 = r1 at *
    generalize (dropN l0 a1).2 = r2 at *
    generalize l0.length = m at *
    have HX := Aside0.mk HD
    clear HD
    go_enter Tryz.func87, Tryz.ntmps87
    go_wp2_with (go_at_call 106; refine HX.out.mono ?_; rintro e w1 ⟨v, rfl, hRV, hb1⟩; have HR1 := Aside0.mk hRV; have HB1 := Aside0.mk hb1; clear hRV hb1)
    go_ret2
    exact ⟨_, rfl, HR1.out, HB1.out⟩
  · obtain ⟨d, rfl⟩ := Int.eq_ofNat_of_zero_le h0
    have HDG := Aside0.mk (spec_l00Digits.calls 30 (d : Int) _ w (dig_eq d (by omega)))
    have HP : ∀ W, Kd.C k56 W A0 l0.length l0 → _ := fun W hr => l03Put_calls (l0.length + 1) A0 c0 l0 a1 (itoaT ((d : Nat) : Int)) (lbN l0 a1) W hr hc0 hat hle (by omega)
    rw [putT_eq] at HP
    have e : wrN l0 a1 ((d : Nat) : Int) = putN l0 a1 (itoaT ((d : Nat) : Int)) := by unfold wrN; rw [if_neg hz]
    rw [e]
    clear e hat hle
    have HC := Aside0.mk hr0
    have HX := Aside0.mk HP
    clear HP hr0
    generalize (putN l0 a1 (itoaT ((d : Nat) : Int))).1 = r1 at *
    generalize (putN l0 a1 (itoaT ((d : Nat) : Int))).2 = r2 at *
    generalize itoaT ((d : Nat) : Int) = t at *
    generalize ((d : Nat) : Int) = n at *
    have hz1 : (n == 0) = false := by simpa using hz
    have hz2 : (n != 0) = true := by simpa using hz
    clear hz
    go_enter Tryz.func87, Tryz.ntmps87
    go_wp2_with (first
      | (go_at_call 108; refine HDG.out.mono ?_; rintro e w1 ⟨rfl, hb1⟩; have HB1 := Aside0.mk hb1; clear hb1)
      | (go_at_call 107; refine (HX.out _ (Kd.C_below HC.out HB1.out)).mono ?_; rintro e w2 ⟨v, rfl, hRV, hb2⟩; have HR2 := Aside0.mk hRV; have HB2 := Aside0.mk hb2; clear hRV hb2))
    go_ret2
    exact ⟨_, rfl, HR2.out, HB1.out.trans (HB2.out.mono HB1.out.size)⟩
set_option maxHeartbeats 8000000 in
set_option maxRecDepth 100000 in
theorem l05Add_calls (A0 : Option Addr) (c0 : Nat) (l0 : List S56) (a1 : ByteArray) (n : Int) (w : World) (hr0 : Kd.C k56 w A0 l0.length l0) (hc0 : l0.length ≤ c0) (hl : l0.length ≤ 5000) (hv : okV l0) (h0 : -1000000000000000000 ≤ n) (h1 : n ≤ 1000000000000000000) :
    Calls Tryz.prog 58 #[.slice A0 l0.length c0, .string a1, .int .i64 n] w fun e w' => ∃ v, e = .returned (.tuple #[v, .int .i64 (addN l0 a1 n).2]) ∧ RV w' v (addN l0 a1 n).1 ∧ Below w.heap.size w w' := by
  have HRD := Aside0.mk (spec_l05Read.calls 140000 A0 c0 l0 a1 _ w hr0 hc0 (spec_am hv (by omega) a1 140000 (by omega)))
  have hrg := amN_range l0 a1
  have HC := Aside0.mk hr0
  have HK := Aside0.mk hc0
  have HL := Aside0.mk hl
  have hW : ∀ y W, amN l0 a1 + n = y → Kd.C k56 W A0 l0.length l0 → 0 ≤ y → y ≤ 1000000000000000000 → _ := fun y W _ hr g0 g1 => l05Write_calls A0 c0 l0 a1 y W hr hc0 hl g0 g1
  have HX := Aside0.mk hW
  clear hW
  unfold addN
  generalize amN l0 a1 = x at *
  have hw : wrap64 (x + n) = x + n := by unfold wrap64; omega
  rw [← hw]
  generalize hy : wrap64 (x + n) = y at hw ⊢
  have HY := Aside0.mk hw.symm
  have hxy : -1000000000000000000 ≤ y ∧ y ≤ 2000000000000000000 := by omega
  clear hw
  clear h0 h1 hrg hr0 hc0 hl hv
  by_cases c1 : y < 0
  · rw [if_pos c1]
    have c1b : decide (y < 0) = true := decide_eq_true c1
    clear c1 hxy
    clear HX
    generalize hlen : l0.length = m at *
    go_enter Tryz.func58, Tryz.ntmps58
    go_wp2_with (go_at_call 46; refine HRD.out.mono ?_; rintro e w1 ⟨rfl, hb1⟩; have HB1 := Aside0.mk hb1; clear hb1)
    go_ret2
    exact ⟨_, rfl, ⟨A0, c0, by rw [hlen]; rfl, by rw [hlen]; exact HK.out, by rw [hlen]; exact Kd.C_below HC.out HB1.out⟩, HB1.out⟩
  · rw [if_neg c1]
    have c1b : decide (y < 0) = false := decide_eq_false c1
    by_cases c2 : y > 1000000000000000000
    · rw [if_pos c2]
      have c2b : decide (1000000000000000000 < y) = true := decide_eq_true c2
      clear c1 c2 hxy HX
      generalize hlen : l0.length = m at *
      go_enter Tryz.func58, Tryz.ntmps58
      go_wp2_with (go_at_call 46; refine HRD.out.mono ?_; rintro e w1 ⟨rfl, hb1⟩; have HB1 := Aside0.mk hb1; clear hb1)
      go_ret2
      exact ⟨_, rfl, ⟨A0, c0, by rw [hlen]; rfl, by rw [hlen]; exact HK.out, by rw [hlen]; exact Kd.C_below HC.out HB1.out⟩, HB1.out⟩
    · rw [if_neg c2]
      have c2b : decide (1000000000000000000 < y) = false := decide_eq_false c2
      have g0 := Aside0.mk (show 0 ≤ y by omega)
      have g1 := Aside0.mk (show y ≤ 1000000000000000000 by omega)
      clear c1 c2 hxy
      generalize hlen : l0.length = m at *
      go_enter Tryz.func58, Tryz.ntmps58
      go_wp2_with (first
        | (go_at_call 46; refine HRD.out.mono ?_; rintro e w1 ⟨rfl, hb1⟩; have HB1 := Aside0.mk hb1; clear hb1)
        | (go_at_call 87; refine (HX.out y _ HY.out (Kd.C_below HC.out HB1.out) g0.out g1.out).mono ?_; rintro e w2 ⟨v, rfl, hRV, hb2⟩; have HR2 := Aside0.mk hRV; have HB2 := Aside0.mk hb2; clear hRV hb2))
      go_ret2
      exact ⟨_, rfl, HR2.out, HB1.out.trans (HB2.out.mono HB1.out.size)⟩
end Go.Proofs.YtpkfdjlmflmilaaGreatDoor.Q
end
section
namespace Go.Proofs.YtpkfdjlmflmilaaGreatDoor.Q
open Go.RowKit Go.Proofs.YtpkfdjlmflmilaaGreatDoorW.PrintWords Go.Proofs.YtpkfdjlmflmilaaGreatDoorW.PrintLast Go.Proofs.YtpkfdjlmflmilaaGreatDoorW.PrintMore Go.Proofs.YtpkfdjlmflmilaaGreatDoor.Pure
set_option linter.unusedVariables false
set_option linter.unusedSimpArgs false
theorem zs2 (d : ByteArray) : ((⟨#[98, 47]⟩ : ByteArray) ++ d).size = 2 + d.size := by rw [ByteArray.size_append]; rfl
theorem zs3 (d : ByteArray) : (((⟨#[98, 47]⟩ : ByteArray) ++ d) ++ (⟨#[47]⟩ : ByteArray)).size = 3 + d.size := by rw [ByteArray.size_append, zs2, show (⟨#[47]⟩ : ByteArray).size = 1 from rfl]; omega
theorem spec_bkey (a d : ByteArray) (ha : a.size ≤ 65536) (hd : d.size ≤ 65536) : spec_l05Key.f a d = some (bKey a d) := by
  unfold spec_l05Key.f bKey
  rw [zs2, zs3, if_pos (by omega), if_pos (by omega), if_pos (by omega)]
/-- The second change, at whatever the first gave. -/
theorem add_RV {W : World} {v : Value} {r : List S56} (a : ByteArray) (n : Int) (h : RV W v r) (hl : r.length ≤ 5000) (hv : okV r) (h0 : -1000000000000000000 ≤ n) (h1 : n ≤ 1000000000000000000) :
    Calls Tryz.prog 58 #[v, .string a, .int .i64 n] W fun e w' => ∃ v, e = .returned (.tuple #[v, .int .i64 (addN r a n).2]) ∧ RV w' v (addN r a n).1 ∧ Below W.heap.size W w' := by
  obtain ⟨A, c, rfl, hc, hC⟩ := h
  exact l05Add_calls A c r a n W hC hc hl hv h0 h1

set_option maxHeartbeats 8000000 in
set_option maxRecDepth 100000 in
theorem l05Move_calls (A0 : Option Addr) (c0 : Nat) (l0 : List S56) (from_ : ByteArray) (to_ : ByteArray) (denom : ByteArray) (n : Int) (w : World) (hr0 : Kd.C k56 w A0 l0.length l0) (hc0 : l0.length ≤ c0) (hl : l0.length ≤ 4500) (hv : okV l0) (hfrom_ : from_.size ≤ 65536) (hto_ : to_.size ≤ 65536) (hdenom : denom.size ≤ 65536) (h0 : 1 ≤ n) (h1 : n ≤ 1000000000000000000) :
    Calls Tryz.prog 40 #[.slice A0 l0.length c0, .string from_, .string to_, .string denom, .int .i64 n] w fun e w' => ∃ v, e = .returned (.tuple #[v, .int .i64 (twoN l0 (bKey from_ denom) (-n) (bKey to_ denom) n).2]) ∧ RV w' v (twoN l0 (bKey from_ denom) (-n) (bKey to_ denom) n).1 ∧ Below w.heap.size w w' := by
  have HK_from_ := Aside0.mk (fun W => spec_l05Key.calls from_ denom (bKey from_ denom) W (spec_bkey from_ denom hfrom_ hdenom))
  have HK_to_ := Aside0.mk (fun W => spec_l05Key.calls to_ denom (bKey to_ denom) W (spec_bkey to_ denom hto_ hdenom))
  have HRV : ∀ W, Below w.heap.size w W → RV W (.slice A0 l0.length c0) l0 := fun W hb => ⟨A0, c0, rfl, hc0, Kd.C_below hr0 hb⟩
  have hlen := add_len l0 (bKey from_ denom) (-n)
  have hok := add_ok hv (bKey from_ denom) (-n)
  have X1 := Aside0.mk (fun (W : World) (h : RV W (.slice A0 l0.length c0) l0) => add_RV (bKey from_ denom) (-n) h (by omega) hv (by omega) (by omega))
  have X2 := Aside0.mk (fun (W : World) (v : Value) (h : RV W v (addN l0 (bKey from_ denom) (-n)).1) => add_RV (bKey to_ denom) n h (by omega) hok (by omega) (by omega))
  unfold twoN
  generalize bKey from_ denom = q1 at *
  generalize bKey to_ denom = q2 at *
  obtain ⟨r1, e1, hp1⟩ : ∃ r e, addN l0 q1 (-n) = (r, e) := ⟨_, _, rfl⟩
  rw [hp1] at hlen hok X1 X2 ⊢
  obtain ⟨r2, e2, hp2⟩ : ∃ r e, addN r1 q2 n = (r, e) := ⟨_, _, rfl⟩
  rw [hp2] at X2 ⊢
  simp only [] at X1 X2 ⊢
  clear hp1 hp2 hlen hok hl hv hr0 hc0 hfrom_ hto_ hdenom
  have hn : wrap64 (-n) = -n := by unfold wrap64; omega
  generalize hm : -n = m at X1 X2 hn
  have hn2 : wrap64 (-n) = m := by rw [hm]; exact hn
  clear hn hm
  clear h0 h1
  have HR := Aside0.mk HRV
  clear HRV
  generalize l0.length = len at *
  by_cases c1 : e1 = 0
  · subst c1
    rw [if_pos rfl]
    by_cases c_ : e2 = 0
    · subst c_
      rw [if_pos rfl]
      go_enter Tryz.func40, Tryz.ntmps40
      go_wp2_with (first | (go_at_call 59; refine (HK_from_.out _).mono ?_; rintro e w1 ⟨rfl, hd1⟩; have HB1 := Aside0.mk hd1.below; clear hd1) | (go_at_call 58; refine (X1.out _ (HR.out _ HB1.out)).mono ?_; rintro e w2 ⟨v2, rfl, hR2, hb2⟩; have HR2 := Aside0.mk hR2; have HB2 := Aside0.mk (HB1.out.trans (hb2.mono HB1.out.size)); clear hR2 hb2 HB1) | (go_at_call 59; refine (HK_to_.out _).mono ?_; rintro e w3 ⟨rfl, hd3⟩; have HR3 := Aside0.mk (RV_below HR2.out hd3.below); have HB3 := Aside0.mk (HB2.out.trans (hd3.below.mono HB2.out.size)); clear hd3 HB2 HR2) | (go_at_call 58; refine (X2.out _ _ HR3.out).mono ?_; rintro e w4 ⟨v4, rfl, hR4, hb4⟩; have HR4 := Aside0.mk hR4; have HB4 := Aside0.mk (HB3.out.trans (hb4.mono HB3.out.size)); clear hR4 hb4 HB3))
      go_ret2
      exact ⟨_, rfl, HR4.out, HB4.out⟩
    · rw [if_neg c_]
      have z1 : (e2 == 0) = false := by simpa using c_
      have z2 : (e2 != 0) = true := by simpa using c_
      clear c_
      go_enter Tryz.func40, Tryz.ntmps40
      go_wp2_with (first | (go_at_call 59; refine (HK_from_.out _).mono ?_; rintro e w1 ⟨rfl, hd1⟩; have HB1 := Aside0.mk hd1.below; clear hd1) | (go_at_call 58; refine (X1.out _ (HR.out _ HB1.out)).mono ?_; rintro e w2 ⟨v2, rfl, hR2, hb2⟩; have HR2 := Aside0.mk hR2; have HB2 := Aside0.mk (HB1.out.trans (hb2.mono HB1.out.size)); clear hR2 hb2 HB1) | (go_at_call 59; refine (HK_to_.out _).mono ?_; rintro e w3 ⟨rfl, hd3⟩; have HR3 := Aside0.mk (RV_below HR2.out hd3.below); have HB3 := Aside0.mk (HB2.out.trans (hd3.below.mono HB2.out.size)); clear hd3 HB2 HR2) | (go_at_call 58; refine (X2.out _ _ HR3.out).mono ?_; rintro e w4 ⟨v4, rfl, hR4, hb4⟩; have HR4 := Aside0.mk hR4; have HB4 := Aside0.mk (HB3.out.trans (hb4.mono HB3.out.size)); clear hR4 hb4 HB3))
      go_ret2
      exact ⟨_, rfl, HR.out _ HB4.out, HB4.out⟩
  · rw [if_neg c1]
    have c_ := c1
    clear c1
    have z1 : (e1 == 0) = false := by simpa using c_
    have z2 : (e1 != 0) = true := by simpa using c_
    clear c_
    go_enter Tryz.func40, Tryz.ntmps40
    go_wp2_with (first | (go_at_call 59; refine (HK_from_.out _).mono ?_; rintro e w1 ⟨rfl, hd1⟩; have HB1 := Aside0.mk hd1.below; clear hd1) | (go_at_call 58; refine (X1.out _ (HR.out _ HB1.out)).mono ?_; rintro e w2 ⟨v2, rfl, hR2, hb2⟩; have HR2 := Aside0.mk hR2; have HB2 := Aside0.mk (HB1.out.trans (hb2.mono HB1.out.size)); clear hR2 hb2 HB1))
    go_ret2
    exact ⟨_, rfl, HR.out _ HB2.out, HB2.out⟩
end Go.Proofs.YtpkfdjlmflmilaaGreatDoor.Q
end
section
namespace Go.Proofs.YtpkfdjlmflmilaaGreatDoor.Q
open Go.RowKit Go.Proofs.YtpkfdjlmflmilaaGreatDoorW.PrintWords Go.Proofs.YtpkfdjlmflmilaaGreatDoorW.PrintLast Go.Proofs.YtpkfdjlmflmilaaGreatDoorW.PrintMore Go.Proofs.YtpkfdjlmflmilaaGreatDoor.Pure
set_option linter.unusedVariables false
set_option linter.unusedSimpArgs false
/-- What a bank's function gives: the code, or the two changes. -/
def bankN (l : List S56) (ns : List ByteArray) (n : Int) (a : ByteArray) (x : Int) (b : ByteArray) (y : Int) : List S56 × Int := if bcN l n ns = 0 then twoN l a x b y else ([], bcN l n ns)
theorem two_len (l : List S56) (a : ByteArray) (x : Int) (b : ByteArray) (y : Int) : (twoN l a x b y).1.length ≤ l.length + 2 := by
  have h1 := add_len l a x
  have h2 := add_len (addN l a x).1 b y
  unfold twoN
  split
  · split
    · show (addN (addN l a x).1 b y).1.length ≤ _
      omega
    · show l.length ≤ _
      omega
  · show l.length ≤ _
    omega

def spec_MoveCoins.f (l0 : List S56) (a1 a2 a3 : ByteArray) (a4 : Int) : Option (List S56 × Int) := some (bankN l0 [a1, a2, a3] a4 (bKey a1 a3) (-a4) (bKey a2 a3) a4)
set_option maxHeartbeats 8000000 in
set_option maxRecDepth 100000 in
theorem spec_MoveCoins.calls (A0 : Option Addr) (c0 : Nat) (l0 : List S56) (a1 a2 a3 : ByteArray) (a4 : Int) (r1 : List S56) (r2 : Int) (w : World) (hr0 : Kd.C k56 w A0 l0.length l0) (hc0 : l0.length ≤ c0) (h : spec_MoveCoins.f l0 a1 a2 a3 a4 = some (r1, r2)) :
    Calls Tryz.prog 16 #[.slice A0 l0.length c0, .string a1, .string a2, .string a3, .int .i64 a4] w fun e w' => ∃ v0_ : Value, e = .returned (.tuple #[v0_, .int .i64 r2]) ∧ Kd.R k56 56 w' w.heap.size (fun _ => True) v0_ r1 ∧ Below w.heap.size w w' := by
  unfold spec_MoveCoins.f at h
  injection h with h
  unfold bankN bcN at h
  by_cases hlong : l0.length > 4096 ∨ ([a1, a2, a3].any fun x => decide (65536 < (x.size : Int))) = true
  · rw [if_pos hlong, if_neg (by decide)] at h
    have e1 : [] = r1 := congrArg Prod.fst h
    have e2 : (2 : Int) = r2 := congrArg Prod.snd h
    subst e1
    subst e2
    clear h hr0 hc0
    simp only [List.any_cons, List.any_nil, Bool.or_false, Bool.or_eq_true, decide_eq_true_eq] at hlong
    generalize l0.length = len at *
    by_cases hl0 : (len : Int) > 4096
    · clear hlong
      go_enter Tryz.func16, Tryz.ntmps16
      go_wp2
      go_ret2
      exact ⟨_, rfl, R_made w _ (Nat.le_refl _), (Below.refl _ _).alloc (Nat.le_refl _) _⟩
    · have hm0 : ¬ (4096 < (len : Int)) := by omega
      by_cases hl1 : (a1.size : Int) > 65536
      · clear hlong
        go_enter Tryz.func16, Tryz.ntmps16
        go_wp2
        go_ret2
        exact ⟨_, rfl, R_made w _ (Nat.le_refl _), (Below.refl _ _).alloc (Nat.le_refl _) _⟩
      · have hm1 : ¬ (65536 < (a1.size : Int)) := by omega
        by_cases hl2 : (a2.size : Int) > 65536
        · clear hlong
          go_enter Tryz.func16, Tryz.ntmps16
          go_wp2
          go_ret2
          exact ⟨_, rfl, R_made w _ (Nat.le_refl _), (Below.refl _ _).alloc (Nat.le_refl _) _⟩
        · have hm2 : ¬ (65536 < (a2.size : Int)) := by omega
          have hl3 : (a3.size : Int) > 65536 := by omega
          clear hlong hl0 hl1 hl2
          go_enter Tryz.func16, Tryz.ntmps16
          go_wp2
          go_ret2
          exact ⟨_, rfl, R_made w _ (Nat.le_refl _), (Below.refl _ _).alloc (Nat.le_refl _) _⟩
  · rw [if_neg hlong] at h
    simp only [List.any_cons, List.any_nil, Bool.or_false, Bool.or_eq_true, decide_eq_true_eq] at hlong
    have hm0 : ¬ (4096 < (l0.length : Int)) := by omega
    have hm1 : ¬ (65536 < (a1.size : Int)) := by omega
    have hm2 : ¬ (65536 < (a2.size : Int)) := by omega
    have hm3 : ¬ (65536 < (a3.size : Int)) := by omega
    have hs : ∀ x ∈ [a1, a2, a3], x.size ≤ 65536 := by simp; omega
    have HBK := Aside0.mk (spec_bk l0 [a1, a2, a3] (by simp) hs 20000 (by omega))
    have HRI : bkCode l0 [a1, a2, a3] = 0 → rightB l0 = true := fun hz => (bk_zero hz).1
    clear hlong hs
    have HB := Aside0.mk (Below.refl w.heap.size w)
    have HC := Aside0.mk hr0
    have HK := Aside0.mk hc0
    clear hr0 hc0
    obtain ⟨y1, hy1⟩ : ∃ y_ : List ByteArray, y_ = [a1, a2, a3] := ⟨_, rfl⟩
    rw [← hy1] at HBK HRI h
    have Ny1 := Aside0.mk hy1
    clear hy1
    generalize bkCode l0 y1 = c at *
    by_cases hz : c = 0
    · subst hz
      have hrt := HRI rfl
      have hlr := right_len hrt
      have hokv := okV_right hrt
      have HIN := Aside0.mk (spec_in a4 1 1000000000000000000)
      rw [if_pos rfl] at h
      by_cases hn : 1 ≤ a4 ∧ a4 ≤ 1000000000000000000
      · rw [if_pos hn, if_pos rfl] at h
        rw [decide_eq_true hn.1, decide_eq_true hn.2, Bool.and_self] at HIN
        have e1 : (twoN l0 (bKey a1 a3) (-a4) (bKey a2 a3) a4).1 = r1 := congrArg Prod.fst h
        have e2 : (twoN l0 (bKey a1 a3) (-a4) (bKey a2 a3) a4).2 = r2 := congrArg Prod.snd h
        have HX := Aside0.mk (fun (W : World) (hr : Kd.C k56 W A0 l0.length l0) => l05Move_calls A0 c0 l0 a1 a2 a3 a4 W hr HK.out (by omega) hokv (by omega) (by omega) (by omega) hn.1 hn.2)
        have hlen := two_len l0 (bKey a1 a3) (-a4) (bKey a2 a3) a4
        rw [e1] at HX hlen
        rw [e2] at HX
        clear h e1 e2 hn hrt hokv HRI
        go_enter Tryz.func16, Tryz.ntmps16
        go_wp2_with (first | ((with_reducible refine gate_dst (N := 38) rfl ?_); (try (refine gate_guard (by rfl) ?_; dsimp only)); refine Kd.R_lit Kd.string _ 9 ?hg (N := 38) ?hd (xs := ([a1, a2, a3] : List ByteArray)) (inner := [.string a1, .string a2, .string a3]) (ok := fun _ => True) (okp := fun _ => True) ?hr ?hp (fun _ hk => hk) trivial (Below.refl _ _) (Nat.le_refl _) (by simp) ?_; (case hd => rfl); (case hg => rfl); (case hr => first | (go_simp; done) | (go_simp; rfl)); (case hp => exact (Reps.one (show Kd.M Kd.string _ _ _ a1 [.string a1] from rfl) (Reps.one (show Kd.M Kd.string _ _ _ a2 [.string a2] from rfl) (Reps.one (show Kd.M Kd.string _ _ _ a3 [.string a3] from rfl) (Reps.none _ _))))); intro v1 w1 ho hb hg_ hnew_; clear hg_ hnew_; (first | rw [← Ny1.out] at ho | (simp only [Int.reduceToNat] at ho; rw [← Ny1.out] at ho)); have HO1 := Aside0.mk (Kd.R_lower ho (below_size (by repeat (first | (with_reducible first | exact HB.out | apply below_alloc | apply pw_below_drewN | apply below_drew1) | exact HB.out)))); have HB1 := Aside0.mk (below_step (by repeat (first | (with_reducible first | exact HB.out | apply below_alloc | apply pw_below_drewN | apply below_drew1) | exact HB.out)) hb); clear ho hb; obtain ⟨A1, c1, eo1⟩ := Kd.R_slice HO1.out; subst eo1) | (go_at_call 30; refine (spec_l05Code.calls 20000 A0 c0 l0 A1 c1 y1 _ _ (Kd.C_below HC.out HB1.out) HK.out (Kd.R_reads' HO1.out).2.2 (Kd.R_reads' HO1.out).2.1 HBK.out).mono ?_; rintro e w2 ⟨rfl, hb2⟩; have HB2 := Aside0.mk (HB1.out.trans (hb2.mono HB1.out.size)); clear hb2) | (go_at_call 31; refine (spec_l01In.calls a4 1 1000000000000000000 _ _ HIN.out).mono ?_; rintro e w3 ⟨rfl, hd3⟩; have HB3 := Aside0.mk (HB2.out.trans (hd3.below.mono HB2.out.size)); clear hd3) | (go_at_call 40; refine (HX.out _ (Kd.C_below HC.out HB3.out)).mono ?_; rintro e w4 ⟨v, rfl, hRV, hb4⟩; have HB4 := Aside0.mk (HB3.out.trans (hb4.mono HB3.out.size)); obtain ⟨A2, c2, rfl, hl3, hC2⟩ := hRV; have HC2 := Aside0.mk hC2; clear hb4 hC2) | (at_builtin; refine wpList_rows (w0 := w) _ _ _ [] r1 A2 c2 rfl rfl rfl rfl (R_made w4 _ HB4.out.size) (Kd.C_alloc HC2.out _) (below_alloc HB4.out _) (by simp; omega) ?_; intro v3 w5 hR3 hb3 hg3; rw [List.nil_append] at hR3; have HR3 := Aside0.mk hR3; have HB5 := Aside0.mk hb3; clear hR3 hb3 hg3))
        go_ret2
        exact ⟨_, rfl, HR3.out, HB5.out⟩
      · rw [if_neg hn, if_neg (by decide)] at h
        have e1 : [] = r1 := congrArg Prod.fst h
        have e2 : (4 : Int) = r2 := congrArg Prod.snd h
        subst e1
        subst e2
        have hb : (decide (1 ≤ a4) && decide (a4 ≤ 1000000000000000000)) = false := by rw [Bool.and_eq_false_iff, decide_eq_false_iff_not, decide_eq_false_iff_not]; omega
        rw [hb] at HIN
        clear h hn hb hrt hokv hlr HRI
        go_enter Tryz.func16, Tryz.ntmps16
        go_wp2_with (first | ((with_reducible refine gate_dst (N := 38) rfl ?_); (try (refine gate_guard (by rfl) ?_; dsimp only)); refine Kd.R_lit Kd.string _ 9 ?hg (N := 38) ?hd (xs := ([a1, a2, a3] : List ByteArray)) (inner := [.string a1, .string a2, .string a3]) (ok := fun _ => True) (okp := fun _ => True) ?hr ?hp (fun _ hk => hk) trivial (Below.refl _ _) (Nat.le_refl _) (by simp) ?_; (case hd => rfl); (case hg => rfl); (case hr => first | (go_simp; done) | (go_simp; rfl)); (case hp => exact (Reps.one (show Kd.M Kd.string _ _ _ a1 [.string a1] from rfl) (Reps.one (show Kd.M Kd.string _ _ _ a2 [.string a2] from rfl) (Reps.one (show Kd.M Kd.string _ _ _ a3 [.string a3] from rfl) (Reps.none _ _))))); intro v1 w1 ho hb hg_ hnew_; clear hg_ hnew_; (first | rw [← Ny1.out] at ho | (simp only [Int.reduceToNat] at ho; rw [← Ny1.out] at ho)); have HO1 := Aside0.mk (Kd.R_lower ho (below_size (by repeat (first | (with_reducible first | exact HB.out | apply below_alloc | apply pw_below_drewN | apply below_drew1) | exact HB.out)))); have HB1 := Aside0.mk (below_step (by repeat (first | (with_reducible first | exact HB.out | apply below_alloc | apply pw_below_drewN | apply below_drew1) | exact HB.out)) hb); clear ho hb; obtain ⟨A1, c1, eo1⟩ := Kd.R_slice HO1.out; subst eo1) | (go_at_call 30; refine (spec_l05Code.calls 20000 A0 c0 l0 A1 c1 y1 _ _ (Kd.C_below HC.out HB1.out) HK.out (Kd.R_reads' HO1.out).2.2 (Kd.R_reads' HO1.out).2.1 HBK.out).mono ?_; rintro e w2 ⟨rfl, hb2⟩; have HB2 := Aside0.mk (HB1.out.trans (hb2.mono HB1.out.size)); clear hb2) | (go_at_call 31; refine (spec_l01In.calls a4 1 1000000000000000000 _ _ HIN.out).mono ?_; rintro e w3 ⟨rfl, hd3⟩; have HB3 := Aside0.mk (HB2.out.trans (hd3.below.mono HB2.out.size)); clear hd3))
        go_ret2
        exact ⟨_, rfl, R_made w3 _ HB3.out.size, below_alloc HB3.out _⟩
    · rw [if_neg hz, if_neg hz] at h
      have e1 : [] = r1 := congrArg Prod.fst h
      have e2 : c = r2 := congrArg Prod.snd h
      subst e1
      subst e2
      clear h HRI
      have hz1 : (c == 0) = false := by simpa using hz
      have hz2 : (c != 0) = true := by simpa using hz
      clear hz
      go_enter Tryz.func16, Tryz.ntmps16
      go_wp2_with (first | ((with_reducible refine gate_dst (N := 38) rfl ?_); (try (refine gate_guard (by rfl) ?_; dsimp only)); refine Kd.R_lit Kd.string _ 9 ?hg (N := 38) ?hd (xs := ([a1, a2, a3] : List ByteArray)) (inner := [.string a1, .string a2, .string a3]) (ok := fun _ => True) (okp := fun _ => True) ?hr ?hp (fun _ hk => hk) trivial (Below.refl _ _) (Nat.le_refl _) (by simp) ?_; (case hd => rfl); (case hg => rfl); (case hr => first | (go_simp; done) | (go_simp; rfl)); (case hp => exact (Reps.one (show Kd.M Kd.string _ _ _ a1 [.string a1] from rfl) (Reps.one (show Kd.M Kd.string _ _ _ a2 [.string a2] from rfl) (Reps.one (show Kd.M Kd.string _ _ _ a3 [.string a3] from rfl) (Reps.none _ _))))); intro v1 w1 ho hb hg_ hnew_; clear hg_ hnew_; (first | rw [← Ny1.out] at ho | (simp only [Int.reduceToNat] at ho; rw [← Ny1.out] at ho)); have HO1 := Aside0.mk (Kd.R_lower ho (below_size (by repeat (first | (with_reducible first | exact HB.out | apply below_alloc | apply pw_below_drewN | apply below_drew1) | exact HB.out)))); have HB1 := Aside0.mk (below_step (by repeat (first | (with_reducible first | exact HB.out | apply below_alloc | apply pw_below_drewN | apply below_drew1) | exact HB.out)) hb); clear ho hb; obtain ⟨A1, c1, eo1⟩ := Kd.R_slice HO1.out; subst eo1) | (go_at_call 30; refine (spec_l05Code.calls 20000 A0 c0 l0 A1 c1 y1 _ _ (Kd.C_below HC.out HB1.out) HK.out (Kd.R_reads' HO1.out).2.2 (Kd.R_reads' HO1.out).2.1 HBK.out).mono ?_; rintro e w2 ⟨rfl, hb2⟩; have HB2 := Aside0.mk (HB1.out.trans (hb2.mono HB1.out.size)); clear hb2))
      go_ret2
      exact ⟨_, rfl, R_made w2 _ HB2.out.size, below_alloc HB2.out _⟩
end Go.Proofs.YtpkfdjlmflmilaaGreatDoor.Q
end
section
namespace Go.Proofs.YtpkfdjlmflmilaaGreatDoor.Q
open Go.RowKit Go.Proofs.YtpkfdjlmflmilaaGreatDoorW.PrintWords Go.Proofs.YtpkfdjlmflmilaaGreatDoorW.PrintLast Go.Proofs.YtpkfdjlmflmilaaGreatDoorW.PrintMore Go.Proofs.YtpkfdjlmflmilaaGreatDoor.Pure
set_option linter.unusedVariables false
set_option linter.unusedSimpArgs false
theorem c_new (w : World) (v : Value) (t : TypeId) : (w.alloc (Obj.cells #[v] t)).cell? ⟨w.heap.size, 0, none⟩ = some v := (blk_cell (heap_alloc_new w _) 0).trans rfl
theorem size_one (w : World) (o : Obj) : (w.alloc o).heap.size = w.heap.size + 1 := by simp
theorem R_nil (W : World) (b : Nat) : Kd.R k56 56 W b (fun _ => True) (.slice none 0 0) ([] : List S56) := ⟨fun _ _ => trivial, [], ⟨rfl, .inl ⟨rfl, rfl⟩⟩, Reps.none _ _⟩
end Go.Proofs.YtpkfdjlmflmilaaGreatDoor.Q
end
section
namespace Go.Proofs.YtpkfdjlmflmilaaGreatDoor.Q
open Go.RowKit Go.Proofs.YtpkfdjlmflmilaaGreatDoorW.PrintWords Go.Proofs.YtpkfdjlmflmilaaGreatDoorW.PrintLast Go.Proofs.YtpkfdjlmflmilaaGreatDoorW.PrintMore Go.Proofs.YtpkfdjlmflmilaaGreatDoor.Pure
set_option linter.unusedVariables false
set_option linter.unusedSimpArgs false
set_option maxHeartbeats 8000000 in
set_option maxRecDepth 100000 in
theorem all_move (A0 : Option Addr) (c0 gr g1 g2 g3 g4 : Nat) (l0 : List S56) (a b d : ByteArray) (n : Int) (w : World) (hr0 : Kd.C k56 w A0 l0.length l0) (hc0 : l0.length ≤ c0) (htab : Tb.TB w) (hrt : rightB l0 = true) (hza : a.size ≤ 65536) (hzb : b.size ≤ 65536) (hzd : d.size ≤ 65536) (h0 : 1 ≤ n) (h1 : n ≤ 1000000000000000000)
    (b1 : w.cell? ⟨g1, 0, none⟩ = some (.string d)) (b2 : w.cell? ⟨g2, 0, none⟩ = some (.string a)) (b3 : w.cell? ⟨g3, 0, none⟩ = some (.int .i64 n)) (b4 : w.cell? ⟨g4, 0, none⟩ = some (.string b)) (hgr : gr < w.heap.size)
    (hx0 : w.cell? ⟨gr, 0, none⟩ = some (.func (.func 71) #[] #[.pointer (some ⟨g1, 0, none⟩), .pointer (some ⟨g2, 0, none⟩), .pointer (some ⟨g3, 0, none⟩)])) (hx1 : w.cell? ⟨gr, 1, none⟩ = some (.func (.func 72) #[] #[.pointer (some ⟨g1, 0, none⟩), .pointer (some ⟨g4, 0, none⟩), .pointer (some ⟨g3, 0, none⟩)])) :
    Calls Tryz.prog 62 #[.slice A0 l0.length c0, .slice (some ⟨gr, 0, none⟩) 2 2] w fun e w' => ∃ v, e = .returned (.tuple #[v, .int .i64 (twoN l0 (bKey a d) (-n) (bKey b d) n).2]) ∧ Kd.R k56 56 w' w.heap.size (fun _ => True) v (twoN l0 (bKey a d) (-n) (bKey b d) n).1 ∧ Below w.heap.size w w' := by
  have hlr := right_len hrt
  have hokv := okV_right hrt
  have hl2 := add_len l0 (bKey a d) (-n)
  have ho2 := add_ok hokv (bKey a d) (-n)
  have hde := drop_empty hrt
  have HA := all_move_calls A0 c0 gr g1 g2 g3 g4 l0 (addN l0 (bKey a d) (-n)).1 (addN (addN l0 (bKey a d) (-n)).1 (bKey b d) n).1 (addN l0 (bKey a d) (-n)).2 (addN (addN l0 (bKey a d) (-n)).1 (bKey b d) n).2 w hgr hx0 hx1
    ⟨fun W hb => (impl_drop.calls A0 c0 l0 ⟨#[]⟩ l0 5 W (Kd.C_below hr0 hb) hc0 (by unfold impl_drop.f; rw [if_pos (by omega), hde])).mono fun e w' h => h⟩
    ⟨fun W A c hb hC hc => Calls.mono (zmove_1_1_calls (.slice A l0.length c) g1 g2 g3 d a (bKey a d) n _ _ W (cell_keep b1 hb) (cell_keep b2 hb) (cell_keep b3 hb) ⟨fun W => impl_balanceKey.calls d a _ W (impl_bkeyY a d hza hzd)⟩ ⟨fun W' hb2 => fewer_at (bKey a d) n hb hC hc htab (by omega) hokv h0 h1 hb2⟩) (fun e w' ⟨v, he, hR, hB⟩ => ⟨v, he, hR, hB.mono hb.size⟩)⟩
    ⟨fun W A c hb hC hc => Calls.mono (zmove_1_2_calls (.slice A (addN l0 (bKey a d) (-n)).1.length c) g1 g4 g3 d b (bKey b d) n _ _ W (cell_keep b1 hb) (cell_keep b4 hb) (cell_keep b3 hb) ⟨fun W => impl_balanceKey.calls d b _ W (impl_bkeyY b d hzb hzd)⟩ ⟨fun W' hb2 => more_at (bKey b d) n hb hC hc htab (by omega) ho2 h0 h1 hb2⟩) (fun e w' ⟨v, he, hR, hB⟩ => ⟨v, he, hR, hB.mono hb.size⟩)⟩
  refine HA.mono ?_
  rintro e w' ⟨v, rfl, hR, hB⟩
  refine ⟨v, ?_, ?_, hB⟩
  · unfold twoN
    by_cases c1 : (addN l0 (bKey a d) (-n)).2 = 0
    · rw [if_pos c1, if_pos c1]
      by_cases c2 : (addN (addN l0 (bKey a d) (-n)).1 (bKey b d) n).2 = 0
      · rw [if_pos c2, if_pos c2]
      · rw [if_neg c2, if_neg c2]
    · rw [if_neg c1, if_neg c1]
  · unfold twoN
    by_cases c1 : (addN l0 (bKey a d) (-n)).2 = 0
    · rw [if_pos c1] at hR ⊢
      by_cases c2 : (addN (addN l0 (bKey a d) (-n)).1 (bKey b d) n).2 = 0
      · rw [if_pos c2] at hR ⊢
        exact hR
      · rw [if_neg c2] at hR ⊢
        exact hR
    · rw [if_neg c1] at hR ⊢
      exact hR
set_option maxHeartbeats 8000000 in
set_option maxRecDepth 100000 in
theorem move1_calls (A0 : Option Addr) (c0 g1 g2 g3 g4 : Nat) (l0 : List S56) (a b d : ByteArray) (n : Int) (w : World) (hr0 : Kd.C k56 w A0 l0.length l0) (hc0 : l0.length ≤ c0) (htab : Tb.TB w) (hrt : rightB l0 = true) (hza : a.size ≤ 65536) (hzb : b.size ≤ 65536) (hzd : d.size ≤ 65536) (h0 : 1 ≤ n) (h1 : n ≤ 1000000000000000000)
    (b1 : w.cell? ⟨g1, 0, none⟩ = some (.string d)) (b2 : w.cell? ⟨g2, 0, none⟩ = some (.string a)) (b3 : w.cell? ⟨g3, 0, none⟩ = some (.int .i64 n)) (b4 : w.cell? ⟨g4, 0, none⟩ = some (.string b)) :
    Calls Tryz.prog 70 #[.slice A0 l0.length c0, .pointer (some ⟨g1, 0, none⟩), .pointer (some ⟨g2, 0, none⟩), .pointer (some ⟨g3, 0, none⟩), .pointer (some ⟨g4, 0, none⟩)] w fun e w' => ∃ v, e = .returned (.tuple #[v, .int .i64 (twoN l0 (bKey a d) (-n) (bKey b d) n).2]) ∧ Kd.R k56 56 w' w.heap.size (fun _ => True) v (twoN l0 (bKey a d) (-n) (bKey b d) n).1 ∧ Below w.heap.size w w' := by
  have HX := Aside0.mk (fun (W : World) (gr : Nat) (hb : Below w.heap.size w W) => all_move A0 c0 gr g1 g2 g3 g4 l0 a b d n W (Kd.C_below hr0 hb) hc0 (Tb.TB.below htab hb (Nat.le_refl _)) hrt hza hzb hzd h0 h1 (cell_keep b1 hb) (cell_keep b2 hb) (cell_keep b3 hb) (cell_keep b4 hb))
  have HBr := Aside0.mk (Below.refl w.heap.size w)
  clear hr0 hc0 htab hrt hza hzb hzd h0 h1 b1 b2 b3 b4
  generalize (twoN l0 (bKey a d) (-n) (bKey b d) n).1 = rr at *
  generalize (twoN l0 (bKey a d) (-n) (bKey b d) n).2 = ee at *
  generalize l0.length = len at *
  go_enter Tryz.func70, Tryz.ntmps70
  go_wp2_with (go_at_call 62; (refine (HX.out _ w.heap.size (below_alloc HBr.out _) (alloc_lt _ _) ((blk_cell (heap_alloc_new w _) 0).trans rfl) ((blk_cell (heap_alloc_new w _) 1).trans rfl)).mono ?_; rintro e w2 ⟨v2, rfl, hR2, hb2⟩; have HR2 := Aside0.mk (Kd.R_lower hR2 (below_alloc HBr.out _).size); have HB2 := Aside0.mk ((below_alloc HBr.out _).trans (hb2.mono (below_alloc HBr.out _).size)); clear hR2 hb2))
  go_ret2
  exact ⟨_, rfl, HR2.out, HB2.out⟩
set_option maxHeartbeats 8000000 in
set_option maxRecDepth 100000 in
theorem move_calls (a b d : ByteArray) (n : Int) (w : World) :
    Calls Tryz.prog 41 #[.string a, .string b, .string d, .int .i64 n] w fun e w' => ∃ g1 g2 g3 g4, e = .returned (.func (.func 70) #[] #[.pointer (some ⟨g1, 0, none⟩), .pointer (some ⟨g2, 0, none⟩), .pointer (some ⟨g3, 0, none⟩), .pointer (some ⟨g4, 0, none⟩)]) ∧
      w'.cell? ⟨g1, 0, none⟩ = some (.string d) ∧ w'.cell? ⟨g2, 0, none⟩ = some (.string a) ∧ w'.cell? ⟨g3, 0, none⟩ = some (.int .i64 n) ∧ w'.cell? ⟨g4, 0, none⟩ = some (.string b) ∧ Below w.heap.size w w' := by
  go_enter Tryz.func41, Tryz.ntmps41
  go_wp2
  go_ret
  refine ⟨_, _, _, _, rfl, ?_, ?_, ?_, ?_, ?_⟩
  · have h := c_new ((w.alloc (Obj.cells #[Value.string a] 9)).alloc (Obj.cells #[Value.string b] 9)) (Value.string d) 9
    simp only [size_one] at h
    exact (cell_keep h ((Below.refl _ _).alloc (Nat.le_refl _) _))
  · have h := c_new w (Value.string a) 9
    exact (cell_keep (cell_keep (cell_keep h ((Below.refl _ _).alloc (Nat.le_refl _) _)) ((Below.refl _ _).alloc (Nat.le_refl _) _)) ((Below.refl _ _).alloc (Nat.le_refl _) _))
  · have h := c_new (((w.alloc (Obj.cells #[Value.string a] 9)).alloc (Obj.cells #[Value.string b] 9)).alloc (Obj.cells #[Value.string d] 9)) (Value.int .i64 n) 3
    simp only [size_one] at h
    exact h
  · have h := c_new (w.alloc (Obj.cells #[Value.string a] 9)) (Value.string b) 9
    simp only [size_one] at h
    exact (cell_keep (cell_keep h ((Below.refl _ _).alloc (Nat.le_refl _) _)) ((Below.refl _ _).alloc (Nat.le_refl _) _))
  · exact (below_alloc (below_alloc (below_alloc (below_alloc (Below.refl _ _) _) _) _) _)
def impl_MoveCoins.f (l0 : List S56) (a1 a2 a3 : ByteArray) (a4 : Int) : Option (List S56 × Int) := some (bankN l0 [a1, a2, a3] a4 (bKey a1 a3) (-a4) (bKey a2 a3) a4)
set_option maxHeartbeats 8000000 in
set_option maxRecDepth 100000 in
theorem impl_MoveCoins.calls (A0 : Option Addr) (c0 : Nat) (l0 : List S56) (a1 a2 a3 : ByteArray) (a4 : Int) (r1 : List S56) (r2 : Int) (w : World) (hr0 : Kd.C k56 w A0 l0.length l0) (hc0 : l0.length ≤ c0) (htab : Tb.TB w) (h : impl_MoveCoins.f l0 a1 a2 a3 a4 = some (r1, r2)) :
    Calls Tryz.prog 17 #[.slice A0 l0.length c0, .string a1, .string a2, .string a3, .int .i64 a4] w fun e w' => ∃ v0_ : Value, e = .returned (.tuple #[v0_, .int .i64 r2]) ∧ Kd.R k56 56 w' w.heap.size (fun _ => True) v0_ r1 ∧ Below w.heap.size w w' := by
  unfold impl_MoveCoins.f at h
  injection h with h
  unfold bankN at h
  have HB := Aside0.mk (Below.refl w.heap.size w)
  have HC := Aside0.mk hr0
  have HK := Aside0.mk hc0
  have HBK := Aside0.mk (impl_bc l0 a4 [a1, a2, a3] (by simp) 140000 (by omega))
  obtain ⟨y1, hy1⟩ : ∃ y_ : List ByteArray, y_ = [a1, a2, a3] := ⟨_, rfl⟩
  have HPR : bcN l0 a4 y1 = 0 → rightB l0 = true ∧ a1.size ≤ 65536 ∧ a2.size ≤ 65536 ∧ a3.size ≤ 65536 ∧ 1 ≤ a4 ∧ a4 ≤ 1000000000000000000 := by
    intro hz
    rw [hy1] at hz
    unfold bcN at hz
    split at hz
    · exact absurd hz (by decide)
    · rename_i hlong
      simp only [List.any_cons, List.any_nil, Bool.or_false, Bool.or_eq_true, decide_eq_true_eq] at hlong
      split at hz
      · rename_i hbk
        split at hz
        · rename_i hn
          exact ⟨(bk_zero hbk).1, by omega, by omega, by omega, hn.1, hn.2⟩
        · exact absurd hz (by decide)
      · rename_i hbk
        exact absurd hz hbk
  rw [← hy1] at HBK h
  have Ny1 := Aside0.mk hy1
  clear hy1
  generalize bcN l0 a4 y1 = c at *
  by_cases hz : c = 0
  · subst hz
    obtain ⟨hrt, hs1, hs2, hs3, hn1, hn2⟩ := HPR rfl
    rw [if_pos rfl] at h
    have e1 : (twoN l0 (bKey a1 a3) (-a4) (bKey a2 a3) a4).1 = r1 := congrArg Prod.fst h
    have e2 : (twoN l0 (bKey a1 a3) (-a4) (bKey a2 a3) a4).2 = r2 := congrArg Prod.snd h
    have HX := Aside0.mk (fun (W : World) (g1 g2 g3 g4 : Nat) (hb : Below w.heap.size w W) => move1_calls A0 c0 g1 g2 g3 g4 l0 a1 a2 a3 a4 W (Kd.C_below hr0 hb) hc0 (Tb.TB.below htab hb (Nat.le_refl _)) hrt hs1 hs2 hs3 hn1 hn2)
    rw [e1, e2] at HX
    clear h e1 e2 hn1 hn2 hrt hs1 hs2 hs3 HPR hr0 hc0 htab
    go_enter Tryz.func17, Tryz.ntmps17
    go_wp2_with (first | ((with_reducible refine gate_dst (N := 18) rfl ?_); (try (refine gate_guard (by rfl) ?_; dsimp only)); refine Kd.R_lit Kd.string _ 9 ?hg (N := 18) ?hd (xs := ([a1, a2, a3] : List ByteArray)) (inner := [.string a1, .string a2, .string a3]) (ok := fun _ => True) (okp := fun _ => True) ?hr ?hp (fun _ hk => hk) trivial (Below.refl _ _) (Nat.le_refl _) (by simp) ?_; (case hd => rfl); (case hg => rfl); (case hr => first | (go_simp; done) | (go_simp; rfl)); (case hp => exact (Reps.one (show Kd.M Kd.string _ _ _ a1 [.string a1] from rfl) (Reps.one (show Kd.M Kd.string _ _ _ a2 [.string a2] from rfl) (Reps.one (show Kd.M Kd.string _ _ _ a3 [.string a3] from rfl) (Reps.none _ _))))); intro v1 w1 ho hb hg_ hnew_; clear hg_ hnew_; (first | rw [← Ny1.out] at ho | (simp only [Int.reduceToNat] at ho; rw [← Ny1.out] at ho)); have HO1 := Aside0.mk (Kd.R_lower ho (below_size (by repeat (first | (with_reducible first | exact HB.out | apply below_alloc | apply pw_below_drewN | apply below_drew1) | exact HB.out)))); have HB1 := Aside0.mk (below_step (by repeat (first | (with_reducible first | exact HB.out | apply below_alloc | apply pw_below_drewN | apply below_drew1) | exact HB.out)) hb); clear ho hb; obtain ⟨A1, c1, eo1⟩ := Kd.R_slice HO1.out; subst eo1) | (go_at_call 34; refine (impl_bankCode.calls 140000 A0 c0 l0 a4 A1 c1 y1 _ _ (Kd.C_below HC.out HB1.out) HK.out (Kd.R_reads' HO1.out).2.2 (Kd.R_reads' HO1.out).2.1 HBK.out).mono ?_; rintro e w2 ⟨rfl, hb2⟩; have HB2 := Aside0.mk (HB1.out.trans (hb2.mono HB1.out.size)); clear hb2) | (go_at_call 41; refine (move_calls a1 a2 a3 a4 _).mono ?_; rintro e w3 ⟨g1, g2, g3, g4, rfl, b1, b2, b3, b4, hb3⟩; have HC1 := Aside0.mk b1; have HC2 := Aside0.mk b2; have HC3 := Aside0.mk b3; have HC4 := Aside0.mk b4; have HB3 := Aside0.mk (HB2.out.trans (hb3.mono HB2.out.size)); clear b1 b2 b3 b4 hb3) | (go_at_call 70; refine (HX.out _ g1 g2 g3 g4 HB3.out HC1.out HC2.out HC3.out HC4.out).mono ?_; rintro e w4 ⟨v4, rfl, hR4, hb4⟩; have HR4 := Aside0.mk (Kd.R_lower hR4 HB3.out.size); have HB4 := Aside0.mk (HB3.out.trans (hb4.mono HB3.out.size)); clear hR4 hb4))
    go_ret2
    exact ⟨_, rfl, HR4.out, HB4.out⟩
  · rw [if_neg hz] at h
    have e1 : [] = r1 := congrArg Prod.fst h
    have e2 : c = r2 := congrArg Prod.snd h
    subst e1
    subst e2
    clear h HPR hr0 hc0 htab
    have hz1 : (c == 0) = false := by simpa using hz
    have hz2 : (c != 0) = true := by simpa using hz
    clear hz
    go_enter Tryz.func17, Tryz.ntmps17
    go_wp2_with (first | ((with_reducible refine gate_dst (N := 18) rfl ?_); (try (refine gate_guard (by rfl) ?_; dsimp only)); refine Kd.R_lit Kd.string _ 9 ?hg (N := 18) ?hd (xs := ([a1, a2, a3] : List ByteArray)) (inner := [.string a1, .string a2, .string a3]) (ok := fun _ => True) (okp := fun _ => True) ?hr ?hp (fun _ hk => hk) trivial (Below.refl _ _) (Nat.le_refl _) (by simp) ?_; (case hd => rfl); (case hg => rfl); (case hr => first | (go_simp; done) | (go_simp; rfl)); (case hp => exact (Reps.one (show Kd.M Kd.string _ _ _ a1 [.string a1] from rfl) (Reps.one (show Kd.M Kd.string _ _ _ a2 [.string a2] from rfl) (Reps.one (show Kd.M Kd.string _ _ _ a3 [.string a3] from rfl) (Reps.none _ _))))); intro v1 w1 ho hb hg_ hnew_; clear hg_ hnew_; (first | rw [← Ny1.out] at ho | (simp only [Int.reduceToNat] at ho; rw [← Ny1.out] at ho)); have HO1 := Aside0.mk (Kd.R_lower ho (below_size (by repeat (first | (with_reducible first | exact HB.out | apply below_alloc | apply pw_below_drewN | apply below_drew1) | exact HB.out)))); have HB1 := Aside0.mk (below_step (by repeat (first | (with_reducible first | exact HB.out | apply below_alloc | apply pw_below_drewN | apply below_drew1) | exact HB.out)) hb); clear ho hb; obtain ⟨A1, c1, eo1⟩ := Kd.R_slice HO1.out; subst eo1) | (go_at_call 34; refine (impl_bankCode.calls 140000 A0 c0 l0 a4 A1 c1 y1 _ _ (Kd.C_below HC.out HB1.out) HK.out (Kd.R_reads' HO1.out).2.2 (Kd.R_reads' HO1.out).2.1 HBK.out).mono ?_; rintro e w2 ⟨rfl, hb2⟩; have HB2 := Aside0.mk (HB1.out.trans (hb2.mono HB1.out.size)); clear hb2))
    go_ret2
    exact ⟨_, rfl, R_nil w2 _, HB2.out⟩
end Go.Proofs.YtpkfdjlmflmilaaGreatDoor.Q
end
section
namespace Go.Proofs.YtpkfdjlmflmilaaGreatDoor.Q
open Go.RowKit Go.Proofs.YtpkfdjlmflmilaaGreatDoorW.PrintWords Go.Proofs.YtpkfdjlmflmilaaGreatDoorW.PrintLast Go.Proofs.YtpkfdjlmflmilaaGreatDoorW.PrintMore
attribute [local go_sem] max2_int min2_int max_two min_two max_three min_three max_four min_four   -- for this text's walks alone
set_option linter.unusedVariables false
set_option linter.unusedSimpArgs false

/-! ### laws_FnExactMoveCoins: function 5 -/
mutual
def laws_FnExactMoveCoins.j0 : Nat → List (S52) → ByteArray → ByteArray → ByteArray → Int → List (S56) → Int → List (S56) → List (S56) → Int → Bool → Option (Bool)
  | 0, _, _, _, _, _, _, _, _, _, _, _ => none
  | k + 1, x0, x1, x2, x3, x4, x12, x13, x14, x15, x16, x65 => if x65 = true then (some false) else ((laws_toPairS.f k x0).bind fun t264 => ((laws_eqPairS.f k x14 t264).bind fun t267 => (if t267 = true then ((laws_markPairS.f k x14 1).bind fun bt268 => (if bt268.1 < 0 then (laws_FnExactMoveCoins.j1 k x0 x1 x2 x3 x4 x12 x13 x15 true) else ((laws_eqPairS.f k x15 x12).bind fun t270 => (if t270 = true then (laws_FnExactMoveCoins.j1 k x0 x1 x2 x3 x4 x12 x13 x15 (x16 != x13)) else (laws_FnExactMoveCoins.j1 k x0 x1 x2 x3 x4 x12 x13 x15 true))))) else (some false))))
def laws_FnExactMoveCoins.j1 : Nat → List (S52) → ByteArray → ByteArray → ByteArray → Int → List (S56) → Int → List (S56) → Bool → Option (Bool)
  | 0, _, _, _, _, _, _, _, _, _ => none
  | k + 1, x0, x1, x2, x3, x4, x12, x13, x15, x86 => if x86 = true then (some false) else ((laws_markPairS.f k x15 1).bind fun bt271 => ((laws_heldPairS.f k bt271.2 1).bind fun t273 => (if t273 < 0 then (some false) else (if t273 = bt271.1 then ((laws_toPairS.f k x0).bind fun t274 => ((impl_MoveCoins.f t274 x1 x2 x3 x4).bind fun bt277 => ((laws_eqPairS.f k bt277.1 x12).bind fun t281 => (if t281 = true then (laws_FnExactMoveCoins.j2 k bt271.2 bt271.1 (bt277.2 != x13)) else (laws_FnExactMoveCoins.j2 k bt271.2 bt271.1 true))))) else (some false)))))
def laws_FnExactMoveCoins.j2 : Nat → List (S56) → Int → Bool → Option (Bool)
  | 0, _, _, _ => none
  | k + 1, x15, x18, x116 => if x116 = true then (some false) else ((laws_heldPairS.f k x15 1).bind fun t282 => (if t282 < 0 then (some false) else (if t282 = x18 then (some true) else (some false))))
end
def laws_FnExactMoveCoins.f (k : Nat) (l0 : List (S52)) (a1 : ByteArray) (a2 : ByteArray) (a3 : ByteArray) (a4 : Int) : Option (Bool) := if (a1.size : Int) > 1048576 then (some true) else (if (a2.size : Int) > 1048576 then (some true) else (if (a3.size : Int) > 1048576 then (some true) else ((laws_szPairS.f k l0 1048576).bind fun t248 => (if t248 < 0 then (some true) else ((laws_toPairS.f k l0).bind fun t249 => ((spec_MoveCoins.f t249 a1 a2 a3 a4).bind fun bt252 => ((laws_toPairS.f k l0).bind fun t256 => ((impl_MoveCoins.f t256 a1 a2 a3 a4).bind fun bt259 => ((laws_eqPairS.f k bt259.1 bt252.1).bind fun t263 => (if t263 = true then (laws_FnExactMoveCoins.j0 k l0 a1 a2 a3 a4 bt252.1 bt252.2 t256 bt259.1 bt259.2 (bt259.2 != bt252.2)) else (laws_FnExactMoveCoins.j0 k l0 a1 a2 a3 a4 bt252.1 bt252.2 t256 bt259.1 bt259.2 true)))))))))))
set_option maxHeartbeats 8000000 in
set_option maxRecDepth 100000 in
theorem laws_FnExactMoveCoins.calls (k : Nat) (A0 : Option Addr) (c0 : Nat) (l0 : List (S52)) (a1 : ByteArray) (a2 : ByteArray) (a3 : ByteArray) (a4 : Int) (r : Bool) (w : World) (hr0 : Kd.C k52 w A0 l0.length l0) (hc0 : l0.length ≤ c0) (htab : Tb.TB w) (h : laws_FnExactMoveCoins.f k l0 a1 a2 a3 a4 = some r) :
    Calls Tryz.prog 5 #[.slice A0 l0.length c0, .string a1, .string a2, .string a3, .int .i64 a4] w fun e w' => e = .returned (.bool r) ∧ Below w.heap.size w w' := by
  have HT := Aside0.mk htab
  clear htab
  have HR0 := Aside0.mk hr0
  have HC0 := Aside0.mk hc0
  clear hr0 hc0
  have HB := Aside0.mk (Below.refl w.heap.size w)
  have H : (if (a1.size : Int) > 1048576 then (some true) else (if (a2.size : Int) > 1048576 then (some true) else (if (a3.size : Int) > 1048576 then (some true) else ((laws_szPairS.f k l0 1048576).bind fun t248 => (if t248 < 0 then (some true) else ((laws_toPairS.f k l0).bind fun t249 => ((spec_MoveCoins.f t249 a1 a2 a3 a4).bind fun bt252 => ((laws_toPairS.f k l0).bind fun t256 => ((impl_MoveCoins.f t256 a1 a2 a3 a4).bind fun bt259 => ((laws_eqPairS.f k bt259.1 bt252.1).bind fun t263 => (if t263 = true then (laws_FnExactMoveCoins.j0 k l0 a1 a2 a3 a4 bt252.1 bt252.2 t256 bt259.1 bt259.2 (bt259.2 != bt252.2)) else (laws_FnExactMoveCoins.j0 k l0 a1 a2 a3 a4 bt252.1 bt252.2 t256 bt259.1 bt259.2 true)))))))))))) = some r := h
  clear h
  by_cases c6 : (a1.size : Int) > 1048576
  · rw [if_pos c6] at H
    have c6b0 : decide (1048576 < (a1.size : Int)) = true := decide_eq_true c6
    have c6b1 : decide (1048576 < a1.size) = true := decide_eq_true (by omega)
    clear c6
    obtain rfl := Option.some.inj H
    go_enter Tryz.func5, Tryz.ntmps5
    go_wp2
    go_ret
    exact ⟨by first | rfl | (simp [errW_none, errW_some] <;> rfl) | (simp [*, errW_none, errW_some] <;> rfl), by repeat (first | (with_reducible first | exact HB.out | apply below_alloc | apply pw_below_drewN | apply below_drew1) | exact HB.out)⟩
  · rw [if_neg c6] at H
    have c6b0 : decide (1048576 < (a1.size : Int)) = false := decide_eq_false c6
    have c6b1 : decide (1048576 < a1.size) = false := decide_eq_false (by omega)
    clear c6
    by_cases c7 : (a2.size : Int) > 1048576
    · rw [if_pos c7] at H
      have c7b0 : decide (1048576 < (a2.size : Int)) = true := decide_eq_true c7
      have c7b1 : decide (1048576 < a2.size) = true := decide_eq_true (by omega)
      clear c7
      obtain rfl := Option.some.inj H
      go_enter Tryz.func5, Tryz.ntmps5
      go_wp2
      go_ret
      exact ⟨by first | rfl | (simp [errW_none, errW_some] <;> rfl) | (simp [*, errW_none, errW_some] <;> rfl), by repeat (first | (with_reducible first | exact HB.out | apply below_alloc | apply pw_below_drewN | apply below_drew1) | exact HB.out)⟩
    · rw [if_neg c7] at H
      have c7b0 : decide (1048576 < (a2.size : Int)) = false := decide_eq_false c7
      have c7b1 : decide (1048576 < a2.size) = false := decide_eq_false (by omega)
      clear c7
      by_cases c8 : (a3.size : Int) > 1048576
      · rw [if_pos c8] at H
        have c8b0 : decide (1048576 < (a3.size : Int)) = true := decide_eq_true c8
        have c8b1 : decide (1048576 < a3.size) = true := decide_eq_true (by omega)
        clear c8
        obtain rfl := Option.some.inj H
        go_enter Tryz.func5, Tryz.ntmps5
        go_wp2
        go_ret
        exact ⟨by first | rfl | (simp [errW_none, errW_some] <;> rfl) | (simp [*, errW_none, errW_some] <;> rfl), by repeat (first | (with_reducible first | exact HB.out | apply below_alloc | apply pw_below_drewN | apply below_drew1) | exact HB.out)⟩
      · rw [if_neg c8] at H
        have c8b0 : decide (1048576 < (a3.size : Int)) = false := decide_eq_false c8
        have c8b1 : decide (1048576 < a3.size) = false := decide_eq_false (by omega)
        clear c8
        replace H := Option.bind_eq_some_iff.mp H
        obtain ⟨t248, A90, H⟩ := H
        replace H : (if t248 < 0 then (some true) else ((laws_toPairS.f k l0).bind fun t249 => ((spec_MoveCoins.f t249 a1 a2 a3 a4).bind fun bt252 => ((laws_toPairS.f k l0).bind fun t256 => ((impl_MoveCoins.f t256 a1 a2 a3 a4).bind fun bt259 => ((laws_eqPairS.f k bt259.1 bt252.1).bind fun t263 => (if t263 = true then (laws_FnExactMoveCoins.j0 k l0 a1 a2 a3 a4 bt252.1 bt252.2 t256 bt259.1 bt259.2 (bt259.2 != bt252.2)) else (laws_FnExactMoveCoins.j0 k l0 a1 a2 a3 a4 bt252.1 bt252.2 t256 bt259.1 bt259.2 true)))))))) = some r := H
        have A9 := Aside0.mk A90
        clear A90
        by_cases c10 : t248 < 0
        · rw [if_pos c10] at H
          have c10b0 : decide (t248 < 0) = true := decide_eq_true c10
          clear c10
          obtain rfl := Option.some.inj H
          go_enter Tryz.func5, Tryz.ntmps5
          go_wp2_with (first | ((with_reducible refine gate_callee (f := 7) rfl ?_); refine goesL_ (some 33) rfl rfl Tryz.func7 (by kernel_rfl) rfl #[.slice A0 l0.length c0, .int .i64 1048576] rfl (by (try simp only [List.map_toArray, List.map_cons, List.map_nil]); first | done | rfl | (simp only [List.length_drop, List.length_take]; rfl)) ?_; (with_reducible refine (laws_szPairS.calls k _ _ l0 1048576 t248 _ ?side1 ?side2 A9.out).mono ?_); (case side1 => repeat (first | exact HR0.out | (with_reducible refine Kd.C_alloc ?_ _) | (with_reducible refine Kd.C_drewN ?_ _) | (with_reducible refine Kd.C_drew ?_))); (case side2 => exact HC0.out); rintro e w11 ⟨rfl, hb⟩; refine ⟨_, rfl, ?_⟩; have n0_ := Aside0.mk (below_step (by repeat (first | (with_reducible first | exact HB.out | apply below_alloc | apply pw_below_drewN | apply below_drew1) | exact HB.out)) hb); clear HB; have HB := n0_; clear n0_; (try clear hb); (try clear hb2); (try clear hk); (try clear hi)))
          go_ret
          exact ⟨by first | rfl | (simp [errW_none, errW_some] <;> rfl) | (simp [*, errW_none, errW_some] <;> rfl), by repeat (first | (with_reducible first | exact HB.out | apply below_alloc | apply pw_below_drewN | apply below_drew1) | exact HB.out)⟩
        · rw [if_neg c10] at H
          have c10b0 : decide (t248 < 0) = false := decide_eq_false c10
          clear c10
          replace H := Option.bind_eq_some_iff.mp H
          obtain ⟨t249, A120, H⟩ := H
          replace H : ((spec_MoveCoins.f t249 a1 a2 a3 a4).bind fun bt252 => ((laws_toPairS.f k l0).bind fun t256 => ((impl_MoveCoins.f t256 a1 a2 a3 a4).bind fun bt259 => ((laws_eqPairS.f k bt259.1 bt252.1).bind fun t263 => (if t263 = true then (laws_FnExactMoveCoins.j0 k l0 a1 a2 a3 a4 bt252.1 bt252.2 t256 bt259.1 bt259.2 (bt259.2 != bt252.2)) else (laws_FnExactMoveCoins.j0 k l0 a1 a2 a3 a4 bt252.1 bt252.2 t256 bt259.1 bt259.2 true)))))) = some r := H
          have A12 := Aside0.mk A120
          clear A120
          replace H := Option.bind_eq_some_iff.mp H
          obtain ⟨⟨t252, t253⟩, A130, H⟩ := H
          replace H : ((laws_toPairS.f k l0).bind fun t256 => ((impl_MoveCoins.f t256 a1 a2 a3 a4).bind fun bt259 => ((laws_eqPairS.f k bt259.1 t252).bind fun t263 => (if t263 = true then (laws_FnExactMoveCoins.j0 k l0 a1 a2 a3 a4 t252 t253 t256 bt259.1 bt259.2 (bt259.2 != t253)) else (laws_FnExactMoveCoins.j0 k l0 a1 a2 a3 a4 t252 t253 t256 bt259.1 bt259.2 true))))) = some r := H
          have A13 := Aside0.mk A130
          clear A130
          replace H := Option.bind_eq_some_iff.mp H
          obtain ⟨t256, A140, H⟩ := H
          replace H : ((impl_MoveCoins.f t256 a1 a2 a3 a4).bind fun bt259 => ((laws_eqPairS.f k bt259.1 t252).bind fun t263 => (if t263 = true then (laws_FnExactMoveCoins.j0 k l0 a1 a2 a3 a4 t252 t253 t256 bt259.1 bt259.2 (bt259.2 != t253)) else (laws_FnExactMoveCoins.j0 k l0 a1 a2 a3 a4 t252 t253 t256 bt259.1 bt259.2 true)))) = some r := H
          have A14 := Aside0.mk A140
          clear A140
          replace H := Option.bind_eq_some_iff.mp H
          obtain ⟨⟨t259, t260⟩, A150, H⟩ := H
          replace H : ((laws_eqPairS.f k t259 t252).bind fun t263 => (if t263 = true then (laws_FnExactMoveCoins.j0 k l0 a1 a2 a3 a4 t252 t253 t256 t259 t260 (t260 != t253)) else (laws_FnExactMoveCoins.j0 k l0 a1 a2 a3 a4 t252 t253 t256 t259 t260 true))) = some r := H
          have A15 := Aside0.mk A150
          clear A150
          have HC16 := Aside0.mk H
          clear H
          go_enter Tryz.func5, Tryz.ntmps5
          go_upto_region 14 with (first | ((with_reducible refine gate_callee (f := 7) rfl ?_); refine goesL_ (some 33) rfl rfl Tryz.func7 (by kernel_rfl) rfl #[.slice A0 l0.length c0, .int .i64 1048576] rfl (by (try simp only [List.map_toArray, List.map_cons, List.map_nil]); first | done | rfl | (simp only [List.length_drop, List.length_take]; rfl)) ?_; (with_reducible refine (laws_szPairS.calls k _ _ l0 1048576 t248 _ ?side1 ?side2 A9.out).mono ?_); (case side1 => repeat (first | exact HR0.out | (with_reducible refine Kd.C_alloc ?_ _) | (with_reducible refine Kd.C_drewN ?_ _) | (with_reducible refine Kd.C_drew ?_))); (case side2 => exact HC0.out); rintro e w17 ⟨rfl, hb⟩; refine ⟨_, rfl, ?_⟩; have n0_ := Aside0.mk (below_step (by repeat (first | (with_reducible first | exact HB.out | apply below_alloc | apply pw_below_drewN | apply below_drew1) | exact HB.out)) hb); clear HB; have HB := n0_; clear n0_; (try clear hb); (try clear hb2); (try clear hk); (try clear hi)) | ((with_reducible refine gate_callee (f := 9) rfl ?_); refine goesL_ (some 38) rfl rfl Tryz.func9 (by kernel_rfl) rfl #[.slice A0 l0.length c0] rfl (by (try simp only [List.map_toArray, List.map_cons, List.map_nil]); first | done | rfl | (simp only [List.length_drop, List.length_take]; rfl)) ?_; (with_reducible refine (laws_toPairS.calls k _ _ l0 t249 _ ?side1 ?side2 A12.out).mono ?_); (case side1 => repeat (first | exact (Kd.C_below HR0.out HB.out) | (with_reducible refine Kd.C_alloc ?_ _) | (with_reducible refine Kd.C_drewN ?_ _) | (with_reducible refine Kd.C_drew ?_))); (case side2 => exact HC0.out); rintro e w18 ⟨v250, rfl, ho0, hb⟩; refine ⟨_, rfl, ?_⟩; have n0_ := Aside0.mk (Kd.R_lower ho0 (below_size (by repeat (first | (with_reducible first | exact HB.out | apply below_alloc | apply pw_below_drewN | apply below_drew1) | exact HB.out)))); have n1_ := Aside0.mk (below_step (by repeat (first | (with_reducible first | exact HB.out | apply below_alloc | apply pw_below_drewN | apply below_drew1) | exact HB.out)) hb); clear HB; have HO251 := n0_; have HB := n1_; clear n0_ n1_; (try clear hb); (try clear hb2); (try clear hk); (try clear hi); (try clear ho0); obtain ⟨Ao19, co19, eo19⟩ := Kd.R_slice HO251.out; subst eo19) | ((with_reducible refine gate_callee (f := 16) rfl ?_); refine goesL_ (some 43) rfl rfl Tryz.func16 (by kernel_rfl) rfl #[.slice Ao19 t249.length co19, .string a1, .string a2, .string a3, .int .i64 a4] rfl (by (try simp only [List.map_toArray, List.map_cons, List.map_nil]); first | done | rfl | (simp only [List.length_drop, List.length_take]; rfl)) ?_; (with_reducible refine (spec_MoveCoins.calls _ _ t249 a1 a2 a3 a4 t252 t253 _ ?side1 ?side2 A13.out).mono ?_); (case side1 => repeat (first | exact (Kd.R_reads' HO251.out).2.2 | (with_reducible refine Kd.C_alloc ?_ _) | (with_reducible refine Kd.C_drewN ?_ _) | (with_reducible refine Kd.C_drew ?_))); (case side2 => exact (Kd.R_reads' HO251.out).2.1); rintro e w20 ⟨v254, rfl, ho0, hb⟩; refine ⟨_, rfl, ?_⟩; have n0_ := Aside0.mk (Kd.R_elder' (by (with_reducible repeat (first | apply Kd.R_alloc | apply Kd.R_drewN | apply Kd.R_drew)); exact HO251.out) (Kd.R_base ho0) hb); have n1_ := Aside0.mk (Kd.R_lower (Kd.R_new' ho0 (Kd.R_lt (by (with_reducible repeat (first | apply Kd.R_alloc | apply Kd.R_drewN | apply Kd.R_drew)); exact HO251.out))) (below_size (by repeat (first | (with_reducible first | exact HB.out | apply below_alloc | apply pw_below_drewN | apply below_drew1) | exact HB.out)))); have n2_ := Aside0.mk (below_step (by repeat (first | (with_reducible first | exact HB.out | apply below_alloc | apply pw_below_drewN | apply below_drew1) | exact HB.out)) hb); clear HO251; clear HB; have HO251 := n0_; have HO255 := n1_; have HB := n2_; clear n0_ n1_ n2_; (try clear hb); (try clear hb2); (try clear hk); (try clear hi); (try clear ho0)) | ((with_reducible refine gate_callee (f := 9) rfl ?_); refine goesL_ (some 47) rfl rfl Tryz.func9 (by kernel_rfl) rfl #[.slice A0 l0.length c0] rfl (by (try simp only [List.map_toArray, List.map_cons, List.map_nil]); first | done | rfl | (simp only [List.length_drop, List.length_take]; rfl)) ?_; (with_reducible refine (laws_toPairS.calls k _ _ l0 t256 _ ?side1 ?side2 A14.out).mono ?_); (case side1 => repeat (first | exact (Kd.C_below HR0.out HB.out) | (with_reducible refine Kd.C_alloc ?_ _) | (with_reducible refine Kd.C_drewN ?_ _) | (with_reducible refine Kd.C_drew ?_))); (case side2 => exact HC0.out); rintro e w21 ⟨v257, rfl, ho0, hb⟩; refine ⟨_, rfl, ?_⟩; have n0_ := Aside0.mk (Kd.R_elder' (by (with_reducible repeat (first | apply Kd.R_alloc | apply Kd.R_drewN | apply Kd.R_drew)); exact HO251.out) (Kd.R_base ho0) hb); have n1_ := Aside0.mk (Kd.R_elder' (by (with_reducible repeat (first | apply Kd.R_alloc | apply Kd.R_drewN | apply Kd.R_drew)); exact HO255.out) (Kd.R_base ho0) hb); have n2_ := Aside0.mk (Kd.R_lower (Kd.R_new' (Kd.R_new' ho0 (Kd.R_lt (by (with_reducible repeat (first | apply Kd.R_alloc | apply Kd.R_drewN | apply Kd.R_drew)); exact HO251.out))) (Kd.R_lt (by (with_reducible repeat (first | apply Kd.R_alloc | apply Kd.R_drewN | apply Kd.R_drew)); exact HO255.out))) (below_size (by repeat (first | (with_reducible first | exact HB.out | apply below_alloc | apply pw_below_drewN | apply below_drew1) | exact HB.out)))); have n3_ := Aside0.mk (below_step (by repeat (first | (with_reducible first | exact HB.out | apply below_alloc | apply pw_below_drewN | apply below_drew1) | exact HB.out)) hb); clear HO251; clear HO255; clear HB; have HO251 := n0_; have HO255 := n1_; have HO258 := n2_; have HB := n3_; clear n0_ n1_ n2_ n3_; (try clear hb); (try clear hb2); (try clear hk); (try clear hi); (try clear ho0); obtain ⟨Ao22, co22, eo22⟩ := Kd.R_slice HO258.out; subst eo22) | ((with_reducible refine gate_callee (f := 17) rfl ?_); refine goesL_ (some 54) rfl rfl Tryz.func17 (by kernel_rfl) rfl #[.slice Ao22 t256.length co22, .string a1, .string a2, .string a3, .int .i64 a4] rfl (by (try simp only [List.map_toArray, List.map_cons, List.map_nil]); first | done | rfl | (simp only [List.length_drop, List.length_take]; rfl)) ?_; (with_reducible refine (impl_MoveCoins.calls _ _ t256 a1 a2 a3 a4 t259 t260 _ ?side1 ?side2 ?tb1 A15.out).mono ?_); (case tb1 => exact Tb.TB.below HT.out (by repeat (first | (with_reducible first | exact HB.out | apply below_alloc | apply pw_below_drewN | apply below_drew1) | exact HB.out)) (Nat.le_refl _)); (case side1 => repeat (first | exact (Kd.R_reads' HO258.out).2.2 | (with_reducible refine Kd.C_alloc ?_ _) | (with_reducible refine Kd.C_drewN ?_ _) | (with_reducible refine Kd.C_drew ?_))); (case side2 => exact (Kd.R_reads' HO258.out).2.1); rintro e w23 ⟨v261, rfl, ho0, hb⟩; refine ⟨_, rfl, ?_⟩; have n0_ := Aside0.mk (Kd.R_elder' (by (with_reducible repeat (first | apply Kd.R_alloc | apply Kd.R_drewN | apply Kd.R_drew)); exact HO251.out) (Kd.R_base ho0) hb); have n1_ := Aside0.mk (Kd.R_elder' (by (with_reducible repeat (first | apply Kd.R_alloc | apply Kd.R_drewN | apply Kd.R_drew)); exact HO255.out) (Kd.R_base ho0) hb); have n2_ := Aside0.mk (Kd.R_elder' (by (with_reducible repeat (first | apply Kd.R_alloc | apply Kd.R_drewN | apply Kd.R_drew)); exact HO258.out) (Kd.R_base ho0) hb); have n3_ := Aside0.mk (Kd.R_lower (Kd.R_new' (Kd.R_new' (Kd.R_new' ho0 (Kd.R_lt (by (with_reducible repeat (first | apply Kd.R_alloc | apply Kd.R_drewN | apply Kd.R_drew)); exact HO251.out))) (Kd.R_lt (by (with_reducible repeat (first | apply Kd.R_alloc | apply Kd.R_drewN | apply Kd.R_drew)); exact HO255.out))) (Kd.R_lt (by (with_reducible repeat (first | apply Kd.R_alloc | apply Kd.R_drewN | apply Kd.R_drew)); exact HO258.out))) (below_size (by repeat (first | (with_reducible first | exact HB.out | apply below_alloc | apply pw_below_drewN | apply below_drew1) | exact HB.out)))); have n4_ := Aside0.mk (below_step (by repeat (first | (with_reducible first | exact HB.out | apply below_alloc | apply pw_below_drewN | apply below_drew1) | exact HB.out)) hb); clear HO251; clear HO255; clear HO258; clear HB; have HO251 := n0_; have HO255 := n1_; have HO258 := n2_; have HO262 := n3_; have HB := n4_; clear n0_ n1_ n2_ n3_ n4_; (try clear hb); (try clear hb2); (try clear hk); (try clear hi); (try clear ho0)))
          (try simp only [Act.put, List.setIfInBounds_toArray, List.set_cons_zero, List.set_cons_succ])
          go_cut [65] (fun v65 wc => ∃ (kq : Nat) (x65_15 : Bool), v65 = .bool x65_15 ∧ Aside0 (laws_FnExactMoveCoins.j0 kq l0 a1 a2 a3 a4 t252 t253 t256 t259 t260 x65_15 = some r) ∧ Aside0 (kq ≤ k) ∧ Aside0 (Kd.R k56 56 wc w.heap.size (fun k_ => some k_ ≠ ((.slice Ao22 t256.length co22) : Value).ownBlock ∧ some k_ ≠ (v261 : Value).ownBlock) v254 t252) ∧ Aside0 (Kd.R k56 56 wc w.heap.size (fun k_ => some k_ ≠ (v254 : Value).ownBlock ∧ some k_ ≠ (v261 : Value).ownBlock) (.slice Ao22 t256.length co22) t256) ∧ Aside0 (Kd.R k56 56 wc w.heap.size (fun k_ => some k_ ≠ (v254 : Value).ownBlock ∧ some k_ ≠ ((.slice Ao22 t256.length co22) : Value).ownBlock) v261 t259) ∧ Aside0 (Below w.heap.size w wc))
          case first =>
            have H := HC16.out
            clear HC16
            replace H := Option.bind_eq_some_iff.mp H
            obtain ⟨t263, A240, H⟩ := H
            replace H : (if t263 = true then (laws_FnExactMoveCoins.j0 k l0 a1 a2 a3 a4 t252 t253 t256 t259 t260 (t260 != t253)) else (laws_FnExactMoveCoins.j0 k l0 a1 a2 a3 a4 t252 t253 t256 t259 t260 true)) = some r := H
            have A24 := Aside0.mk A240
            clear A240
            by_cases c25 : t263 = true
            · subst c25
              have H1 : (laws_FnExactMoveCoins.j0 k l0 a1 a2 a3 a4 t252 t253 t256 t259 t260 (t260 != t253)) = some r := by rw [if_pos rfl] at H; exact H
              clear H
              have H := H1
              clear H1
              have H' := Aside0.mk H
              clear H
              obtain ⟨Ao26, co26, eo26⟩ := Kd.R_slice HO262.out
              subst eo26
              obtain ⟨Ao27, co27, eo27⟩ := Kd.R_slice HO255.out
              subst eo27
              go_wp2_with (first | ((with_reducible refine gate_callee (f := 11) rfl ?_); refine goesL_ (some 59) rfl rfl Tryz.func11 (by kernel_rfl) rfl #[.slice Ao26 t259.length co26, .slice Ao27 t252.length co27] rfl (by (try simp only [List.map_toArray, List.map_cons, List.map_nil]); first | done | rfl | (simp only [List.length_drop, List.length_take]; rfl)) ?_; (with_reducible refine (laws_eqPairS.calls k _ _ t259 _ _ t252 true _ ?side1 ?side2 ?side3 ?side4 A24.out).mono ?_); (case side1 => repeat (first | exact (Kd.R_reads' HO262.out).2.2 | (with_reducible refine Kd.C_alloc ?_ _) | (with_reducible refine Kd.C_drewN ?_ _) | (with_reducible refine Kd.C_drew ?_))); (case side2 => exact (Kd.R_reads' HO262.out).2.1); (case side3 => repeat (first | exact (Kd.R_reads' HO255.out).2.2 | (with_reducible refine Kd.C_alloc ?_ _) | (with_reducible refine Kd.C_drewN ?_ _) | (with_reducible refine Kd.C_drew ?_))); (case side4 => exact (Kd.R_reads' HO255.out).2.1); rintro e w28 ⟨rfl, hb⟩; refine ⟨_, rfl, ?_⟩; have n0_ := Aside0.mk (Kd.R_below (by (with_reducible repeat (first | apply Kd.R_alloc | apply Kd.R_drewN | apply Kd.R_drew)); exact HO251.out) hb); have n1_ := Aside0.mk (Kd.R_below (by (with_reducible repeat (first | apply Kd.R_alloc | apply Kd.R_drewN | apply Kd.R_drew)); exact HO255.out) hb); have n2_ := Aside0.mk (Kd.R_below (by (with_reducible repeat (first | apply Kd.R_alloc | apply Kd.R_drewN | apply Kd.R_drew)); exact HO258.out) hb); have n3_ := Aside0.mk (Kd.R_below (by (with_reducible repeat (first | apply Kd.R_alloc | apply Kd.R_drewN | apply Kd.R_drew)); exact HO262.out) hb); have n4_ := Aside0.mk (below_step (by repeat (first | (with_reducible first | exact HB.out | apply below_alloc | apply pw_below_drewN | apply below_drew1) | exact HB.out)) hb); clear HO251; clear HO255; clear HO258; clear HO262; clear HB; have HO251 := n0_; have HO255 := n1_; have HO258 := n2_; have HO262 := n3_; have HB := n4_; clear n0_ n1_ n2_ n3_ n4_; (try clear hb); (try clear hb2); (try clear hk); (try clear hi)))
              go_meet
              case rel => exact ⟨_, ((t260 != t253)), (by first | rfl | (simp; done) | (simp [*]; done)), H', ⟨by first | omega | exact Nat.le_refl _⟩, ⟨by (with_reducible repeat (first | apply Kd.R_alloc | apply Kd.R_drewN | apply Kd.R_drew)); exact Kd.R_mono HO255.out (fun _ hk => ⟨hk.1.2, hk.2⟩)⟩, ⟨by (with_reducible repeat (first | apply Kd.R_alloc | apply Kd.R_drewN | apply Kd.R_drew)); exact Kd.R_mono HO258.out (fun _ hk => ⟨hk.1.2, hk.2⟩)⟩, ⟨by (with_reducible repeat (first | apply Kd.R_alloc | apply Kd.R_drewN | apply Kd.R_drew)); exact Kd.R_mono HO262.out (fun _ hk => ⟨hk.1.2, hk.2⟩)⟩, ⟨by repeat (first | (with_reducible first | exact HB.out | apply below_alloc | apply pw_below_drewN | apply below_drew1) | exact HB.out)⟩⟩
            · replace c25 := Bool.eq_false_iff.mpr c25
              subst c25
              have H1 : (laws_FnExactMoveCoins.j0 k l0 a1 a2 a3 a4 t252 t253 t256 t259 t260 true) = some r := by rw [if_neg (show ¬ (false = true) by decide)] at H; exact H
              clear H
              have H := H1
              clear H1
              have H' := Aside0.mk H
              clear H
              obtain ⟨Ao29, co29, eo29⟩ := Kd.R_slice HO262.out
              subst eo29
              obtain ⟨Ao30, co30, eo30⟩ := Kd.R_slice HO255.out
              subst eo30
              go_wp2_with (first | ((with_reducible refine gate_callee (f := 11) rfl ?_); refine goesL_ (some 59) rfl rfl Tryz.func11 (by kernel_rfl) rfl #[.slice Ao29 t259.length co29, .slice Ao30 t252.length co30] rfl (by (try simp only [List.map_toArray, List.map_cons, List.map_nil]); first | done | rfl | (simp only [List.length_drop, List.length_take]; rfl)) ?_; (with_reducible refine (laws_eqPairS.calls k _ _ t259 _ _ t252 false _ ?side1 ?side2 ?side3 ?side4 A24.out).mono ?_); (case side1 => repeat (first | exact (Kd.R_reads' HO262.out).2.2 | (with_reducible refine Kd.C_alloc ?_ _) | (with_reducible refine Kd.C_drewN ?_ _) | (with_reducible refine Kd.C_drew ?_))); (case side2 => exact (Kd.R_reads' HO262.out).2.1); (case side3 => repeat (first | exact (Kd.R_reads' HO255.out).2.2 | (with_reducible refine Kd.C_alloc ?_ _) | (with_reducible refine Kd.C_drewN ?_ _) | (with_reducible refine Kd.C_drew ?_))); (case side4 => exact (Kd.R_reads' HO255.out).2.1); rintro e w31 ⟨rfl, hb⟩; refine ⟨_, rfl, ?_⟩; have n0_ := Aside0.mk (Kd.R_below (by (with_reducible repeat (first | apply Kd.R_alloc | apply Kd.R_drewN | apply Kd.R_drew)); exact HO251.out) hb); have n1_ := Aside0.mk (Kd.R_below (by (with_reducible repeat (first | apply Kd.R_alloc | apply Kd.R_drewN | apply Kd.R_drew)); exact HO255.out) hb); have n2_ := Aside0.mk (Kd.R_below (by (with_reducible repeat (first | apply Kd.R_alloc | apply Kd.R_drewN | apply Kd.R_drew)); exact HO258.out) hb); have n3_ := Aside0.mk (Kd.R_below (by (with_reducible repeat (first | apply Kd.R_alloc | apply Kd.R_drewN | apply Kd.R_drew)); exact HO262.out) hb); have n4_ := Aside0.mk (below_step (by repeat (first | (with_reducible first | exact HB.out | apply below_alloc | apply pw_below_drewN | apply below_drew1) | exact HB.out)) hb); clear HO251; clear HO255; clear HO258; clear HO262; clear HB; have HO251 := n0_; have HO255 := n1_; have HO258 := n2_; have HO262 := n3_; have HB := n4_; clear n0_ n1_ n2_ n3_ n4_; (try clear hb); (try clear hb2); (try clear hk); (try clear hi)))
              go_meet
              case rel => exact ⟨_, (true), (by first | rfl | (simp; done) | (simp [*]; done)), H', ⟨by first | omega | exact Nat.le_refl _⟩, ⟨by (with_reducible repeat (first | apply Kd.R_alloc | apply Kd.R_drewN | apply Kd.R_drew)); exact Kd.R_mono HO255.out (fun _ hk => ⟨hk.1.2, hk.2⟩)⟩, ⟨by (with_reducible repeat (first | apply Kd.R_alloc | apply Kd.R_drewN | apply Kd.R_drew)); exact Kd.R_mono HO258.out (fun _ hk => ⟨hk.1.2, hk.2⟩)⟩, ⟨by (with_reducible repeat (first | apply Kd.R_alloc | apply Kd.R_drewN | apply Kd.R_drew)); exact Kd.R_mono HO262.out (fun _ hk => ⟨hk.1.2, hk.2⟩)⟩, ⟨by repeat (first | (with_reducible first | exact HB.out | apply below_alloc | apply pw_below_drewN | apply below_drew1) | exact HB.out)⟩⟩
          case rest =>
            clear HC16
            try clear c1
            try clear c2
            try clear p2
            try clear c5
            try clear c6
            try clear c6b0
            try clear c6b1
            try clear c7
            try clear c7b0
            try clear c7b1
            try clear c8
            try clear c8b0
            try clear c8b1
            try clear c9
            try clear c10
            try clear c10b0
            try clear c11
            try clear c16
            try clear c17
            try clear c25
            obtain ⟨kq, x65_15, rfl, HA, HJ15, HO_12, HO_14, HO_15, HB⟩ := hcut
            cases kq with
            | zero => exact absurd HA.out (by simp [laws_FnExactMoveCoins.j0])
            | succ kj15 =>
              have H := HA.out
              clear HA
              simp only [laws_FnExactMoveCoins.j0] at H
              by_cases c32 : x65_15 = true
              · subst c32
                have H1 : (some false) = some r := by rw [if_pos rfl] at H; exact H
                clear H
                have H := H1
                clear H1
                obtain rfl := Option.some.inj H
                go_wp2
                go_ret
                exact ⟨by first | rfl | (simp [errW_none, errW_some] <;> rfl) | (simp [*, errW_none, errW_some] <;> rfl), by repeat (first | (with_reducible first | exact HB.out | apply below_alloc | apply pw_below_drewN | apply below_drew1) | exact HB.out)⟩
              · replace c32 := Bool.eq_false_iff.mpr c32
                subst c32
                have H1 : ((laws_toPairS.f kj15 l0).bind fun t264 => ((laws_eqPairS.f kj15 t256 t264).bind fun t267 => (if t267 = true then ((laws_markPairS.f kj15 t256 1).bind fun bt268 => (if bt268.1 < 0 then (laws_FnExactMoveCoins.j1 kj15 l0 a1 a2 a3 a4 t252 t253 t259 true) else ((laws_eqPairS.f kj15 t259 t252).bind fun t270 => (if t270 = true then (laws_FnExactMoveCoins.j1 kj15 l0 a1 a2 a3 a4 t252 t253 t259 (t260 != t253)) else (laws_FnExactMoveCoins.j1 kj15 l0 a1 a2 a3 a4 t252 t253 t259 true))))) else (some false)))) = some r := by rw [if_neg (show ¬ (false = true) by decide)] at H; exact H
                clear H
                have H := H1
                clear H1
                replace H := Option.bind_eq_some_iff.mp H
                obtain ⟨t264, A330, H⟩ := H
                replace H : ((laws_eqPairS.f kj15 t256 t264).bind fun t267 => (if t267 = true then ((laws_markPairS.f kj15 t256 1).bind fun bt268 => (if bt268.1 < 0 then (laws_FnExactMoveCoins.j1 kj15 l0 a1 a2 a3 a4 t252 t253 t259 true) else ((laws_eqPairS.f kj15 t259 t252).bind fun t270 => (if t270 = true then (laws_FnExactMoveCoins.j1 kj15 l0 a1 a2 a3 a4 t252 t253 t259 (t260 != t253)) else (laws_FnExactMoveCoins.j1 kj15 l0 a1 a2 a3 a4 t252 t253 t259 true))))) else (some false))) = some r := H
                have A33 := Aside0.mk A330
                clear A330
                replace H := Option.bind_eq_some_iff.mp H
                obtain ⟨t267, A340, H⟩ := H
                replace H : (if t267 = true then ((laws_markPairS.f kj15 t256 1).bind fun bt268 => (if bt268.1 < 0 then (laws_FnExactMoveCoins.j1 kj15 l0 a1 a2 a3 a4 t252 t253 t259 true) else ((laws_eqPairS.f kj15 t259 t252).bind fun t270 => (if t270 = true then (laws_FnExactMoveCoins.j1 kj15 l0 a1 a2 a3 a4 t252 t253 t259 (t260 != t253)) else (laws_FnExactMoveCoins.j1 kj15 l0 a1 a2 a3 a4 t252 t253 t259 true))))) else (some false)) = some r := H
                have A34 := Aside0.mk A340
                clear A340
                by_cases c35 : t267 = true
                · subst c35
                  have H1 : ((laws_markPairS.f kj15 t256 1).bind fun bt268 => (if bt268.1 < 0 then (laws_FnExactMoveCoins.j1 kj15 l0 a1 a2 a3 a4 t252 t253 t259 true) else ((laws_eqPairS.f kj15 t259 t252).bind fun t270 => (if t270 = true then (laws_FnExactMoveCoins.j1 kj15 l0 a1 a2 a3 a4 t252 t253 t259 (t260 != t253)) else (laws_FnExactMoveCoins.j1 kj15 l0 a1 a2 a3 a4 t252 t253 t259 true))))) = some r := by rw [if_pos rfl] at H; exact H
                  clear H
                  have H := H1
                  clear H1
                  replace H := Option.bind_eq_some_iff.mp H
                  obtain ⟨⟨t268, t269⟩, A360, H⟩ := H
                  replace H : (if t268 < 0 then (laws_FnExactMoveCoins.j1 kj15 l0 a1 a2 a3 a4 t252 t253 t259 true) else ((laws_eqPairS.f kj15 t259 t252).bind fun t270 => (if t270 = true then (laws_FnExactMoveCoins.j1 kj15 l0 a1 a2 a3 a4 t252 t253 t259 (t260 != t253)) else (laws_FnExactMoveCoins.j1 kj15 l0 a1 a2 a3 a4 t252 t253 t259 true)))) = some r := H
                  have A36 := Aside0.mk A360
                  clear A360
                  have HC37 := Aside0.mk H
                  clear H
                  go_upto_region 20 with (first | ((with_reducible refine gate_callee (f := 9) rfl ?_); refine goesL_ (some 68) rfl rfl Tryz.func9 (by kernel_rfl) rfl #[.slice A0 l0.length c0] rfl (by (try simp only [List.map_toArray, List.map_cons, List.map_nil]); first | done | rfl | (simp only [List.length_drop, List.length_take]; rfl)) ?_; (with_reducible refine (laws_toPairS.calls kj15 _ _ l0 t264 _ ?side1 ?side2 A33.out).mono ?_); (case side1 => repeat (first | exact (Kd.C_below HR0.out HB.out) | (with_reducible refine Kd.C_alloc ?_ _) | (with_reducible refine Kd.C_drewN ?_ _) | (with_reducible refine Kd.C_drew ?_))); (case side2 => exact HC0.out); rintro e w38 ⟨v265, rfl, ho0, hb⟩; refine ⟨_, rfl, ?_⟩; have n0_ := Aside0.mk (Kd.R_elder' (by (with_reducible repeat (first | apply Kd.R_alloc | apply Kd.R_drewN | apply Kd.R_drew)); exact HO_12.out) (Kd.R_base ho0) hb); have n1_ := Aside0.mk (Kd.R_elder' (by (with_reducible repeat (first | apply Kd.R_alloc | apply Kd.R_drewN | apply Kd.R_drew)); exact HO_14.out) (Kd.R_base ho0) hb); have n2_ := Aside0.mk (Kd.R_elder' (by (with_reducible repeat (first | apply Kd.R_alloc | apply Kd.R_drewN | apply Kd.R_drew)); exact HO_15.out) (Kd.R_base ho0) hb); have n3_ := Aside0.mk (Kd.R_lower (Kd.R_new' (Kd.R_new' (Kd.R_new' ho0 (Kd.R_lt (by (with_reducible repeat (first | apply Kd.R_alloc | apply Kd.R_drewN | apply Kd.R_drew)); exact HO_12.out))) (Kd.R_lt (by (with_reducible repeat (first | apply Kd.R_alloc | apply Kd.R_drewN | apply Kd.R_drew)); exact HO_14.out))) (Kd.R_lt (by (with_reducible repeat (first | apply Kd.R_alloc | apply Kd.R_drewN | apply Kd.R_drew)); exact HO_15.out))) (below_size (by repeat (first | (with_reducible first | exact HB.out | apply below_alloc | apply pw_below_drewN | apply below_drew1) | exact HB.out)))); have n4_ := Aside0.mk (below_step (by repeat (first | (with_reducible first | exact HB.out | apply below_alloc | apply pw_below_drewN | apply below_drew1) | exact HB.out)) hb); clear HO_12; clear HO_14; clear HO_15; clear HB; have HO_12 := n0_; have HO_14 := n1_; have HO_15 := n2_; have HO266 := n3_; have HB := n4_; clear n0_ n1_ n2_ n3_ n4_; (try clear hb); (try clear hb2); (try clear hk); (try clear hi); (try clear ho0); obtain ⟨Ao39, co39, eo39⟩ := Kd.R_slice HO266.out; subst eo39) | ((with_reducible refine gate_callee (f := 11) rfl ?_); refine goesL_ (some 69) rfl rfl Tryz.func11 (by kernel_rfl) rfl #[.slice Ao22 t256.length co22, .slice Ao39 t264.length co39] rfl (by (try simp only [List.map_toArray, List.map_cons, List.map_nil]); first | done | rfl | (simp only [List.length_drop, List.length_take]; rfl)) ?_; (with_reducible refine (laws_eqPairS.calls kj15 _ _ t256 _ _ t264 true _ ?side1 ?side2 ?side3 ?side4 A34.out).mono ?_); (case side1 => repeat (first | exact (Kd.R_reads' HO_14.out).2.2 | (with_reducible refine Kd.C_alloc ?_ _) | (with_reducible refine Kd.C_drewN ?_ _) | (with_reducible refine Kd.C_drew ?_))); (case side2 => exact (Kd.R_reads' HO_14.out).2.1); (case side3 => repeat (first | exact (Kd.R_reads' HO266.out).2.2 | (with_reducible refine Kd.C_alloc ?_ _) | (with_reducible refine Kd.C_drewN ?_ _) | (with_reducible refine Kd.C_drew ?_))); (case side4 => exact (Kd.R_reads' HO266.out).2.1); rintro e w40 ⟨rfl, hb⟩; refine ⟨_, rfl, ?_⟩; have n0_ := Aside0.mk (Kd.R_below (by (with_reducible repeat (first | apply Kd.R_alloc | apply Kd.R_drewN | apply Kd.R_drew)); exact HO_12.out) hb); have n1_ := Aside0.mk (Kd.R_below (by (with_reducible repeat (first | apply Kd.R_alloc | apply Kd.R_drewN | apply Kd.R_drew)); exact HO_14.out) hb); have n2_ := Aside0.mk (Kd.R_below (by (with_reducible repeat (first | apply Kd.R_alloc | apply Kd.R_drewN | apply Kd.R_drew)); exact HO_15.out) hb); have n3_ := Aside0.mk (Kd.R_below (by (with_reducible repeat (first | apply Kd.R_alloc | apply Kd.R_drewN | apply Kd.R_drew)); exact HO266.out) hb); have n4_ := Aside0.mk (below_step (by repeat (first | (with_reducible first | exact HB.out | apply below_alloc | apply pw_below_drewN | apply below_drew1) | exact HB.out)) hb); clear HO_12; clear HO_14; clear HO_15; clear HO266; clear HB; have HO_12 := n0_; have HO_14 := n1_; have HO_15 := n2_; have HO266 := n3_; have HB := n4_; clear n0_ n1_ n2_ n3_ n4_; (try clear hb); (try clear hb2); (try clear hk); (try clear hi)) | ((with_reducible refine gate_callee (f := 12) rfl ?_); refine goesL_ (some 73) rfl rfl Tryz.func12 (by kernel_rfl) rfl #[.slice Ao22 t256.length co22, .int .i64 1] rfl (by (try simp only [List.map_toArray, List.map_cons, List.map_nil]); first | done | rfl | (simp only [List.length_drop, List.length_take]; rfl)) ?_; (with_reducible refine (laws_markPairS.calls kj15 (fun k_ => some k_ = (.slice Ao22 t256.length co22 : Value).ownBlock) (.slice Ao22 t256.length co22) t256 1 t268 t269 w _ ?side1 ?side2 A36.out).mono ?_); (case side1 => repeat (first | (with_reducible first | exact HB.out | apply below_alloc | apply pw_below_drewN | apply below_drew1) | exact HB.out)); (case side2 => exact Kd.R_tight rfl HO_14.out); rintro e w41 ⟨rfl, hy0, hb, hkp⟩; refine ⟨_, rfl, ?_⟩; have n0_ := Aside0.mk (Kd.R_mono (ok' := fun k_ => some k_ ≠ (.slice Ao22 t256.length co22 : Value).ownBlock ∧ some k_ ≠ (v261 : Value).ownBlock ∧ some k_ ≠ (.slice Ao39 t264.length co39 : Value).ownBlock) (Kd.R_keptB (HO_12.out) hkp (fun k_ hk_ hs_ => (hk_.1.1) hs_)) (fun k_ hk_ => ⟨hk_.1.1.1, hk_.1.1.2, hk_.1.2⟩)); have n1_ := Aside0.mk (Kd.R_reok rfl hy0 (fun k_ e_ => HO_14.out.1 k_ e_)); have n2_ := Aside0.mk (Kd.R_mono (ok' := fun k_ => some k_ ≠ (v254 : Value).ownBlock ∧ some k_ ≠ (.slice Ao22 t256.length co22 : Value).ownBlock ∧ some k_ ≠ (.slice Ao39 t264.length co39 : Value).ownBlock) (Kd.R_keptB (HO_15.out) hkp (fun k_ hk_ hs_ => (hk_.1.2) hs_)) (fun k_ hk_ => ⟨hk_.1.1.1, hk_.1.1.2, hk_.1.2⟩)); have n3_ := Aside0.mk (Kd.R_mono (ok' := fun k_ => some k_ ≠ (v254 : Value).ownBlock ∧ some k_ ≠ (.slice Ao22 t256.length co22 : Value).ownBlock ∧ some k_ ≠ (v261 : Value).ownBlock) (Kd.R_keptB (HO266.out) hkp (fun k_ hk_ hs_ => (hk_.1.2) hs_)) (fun k_ hk_ => ⟨hk_.1.1.1.2, hk_.1.1.2, hk_.1.2⟩)); have n4_ := Aside0.mk (hb); clear HO_12; clear HO_14; clear HO_15; clear HO266; clear HB; have HO_12 := n0_; have HO_14 := n1_; have HO_15 := n2_; have HO266 := n3_; have HB := n4_; clear n0_ n1_ n2_ n3_ n4_; (try clear hb); (try clear hkp); (try clear hy0)))
                  (try simp only [Act.put, List.setIfInBounds_toArray, List.set_cons_zero, List.set_cons_succ])
                  go_cut [86] (fun v86 wc => ∃ (kq : Nat) (x86_36 : Bool), v86 = .bool x86_36 ∧ Aside0 (laws_FnExactMoveCoins.j1 kq l0 a1 a2 a3 a4 t252 t253 t259 x86_36 = some r) ∧ Aside0 (kq ≤ kj15) ∧ Aside0 (Kd.R k56 56 wc w.heap.size (fun k_ => some k_ ≠ (v261 : Value).ownBlock) v254 t252) ∧ Aside0 (Kd.R k56 56 wc w.heap.size (fun k_ => some k_ ≠ (v254 : Value).ownBlock) v261 t259) ∧ Aside0 (Below w.heap.size w wc))
                  case first =>
                    have H := HC37.out
                    clear HC37
                    by_cases c42 : t268 < 0
                    · rw [if_pos c42] at H
                      have c42b0 : decide (t268 < 0) = true := decide_eq_true c42
                      clear c42
                      (first | rw [c42b0] | (simp only [i64_w, i32_w]; rw [c42b0]) | skip)
                      have H' := Aside0.mk H
                      clear H
                      go_wp2
                      go_meet
                      case rel => exact ⟨_, (true), (by first | rfl | (simp; done) | (simp [*]; done)), H', ⟨by have := HJ15.out; first | omega | exact Nat.le_refl _⟩, ⟨by (with_reducible repeat (first | apply Kd.R_alloc | apply Kd.R_drewN | apply Kd.R_drew)); exact Kd.R_mono HO_12.out (fun _ hk => hk.2.1)⟩, ⟨by (with_reducible repeat (first | apply Kd.R_alloc | apply Kd.R_drewN | apply Kd.R_drew)); exact Kd.R_mono HO_15.out (fun _ hk => hk.1)⟩, ⟨by repeat (first | (with_reducible first | exact HB.out | apply below_alloc | apply pw_below_drewN | apply below_drew1) | exact HB.out)⟩⟩
                    · rw [if_neg c42] at H
                      have c42b0 : decide (t268 < 0) = false := decide_eq_false c42
                      clear c42
                      (first | rw [c42b0] | (simp only [i64_w, i32_w]; rw [c42b0]) | skip)
                      replace H := Option.bind_eq_some_iff.mp H
                      obtain ⟨t270, A430, H⟩ := H
                      replace H : (if t270 = true then (laws_FnExactMoveCoins.j1 kj15 l0 a1 a2 a3 a4 t252 t253 t259 (t260 != t253)) else (laws_FnExactMoveCoins.j1 kj15 l0 a1 a2 a3 a4 t252 t253 t259 true)) = some r := H
                      have A43 := Aside0.mk A430
                      clear A430
                      by_cases c44 : t270 = true
                      · subst c44
                        have H1 : (laws_FnExactMoveCoins.j1 kj15 l0 a1 a2 a3 a4 t252 t253 t259 (t260 != t253)) = some r := by rw [if_pos rfl] at H; exact H
                        clear H
                        have H := H1
                        clear H1
                        have H' := Aside0.mk H
                        clear H
                        obtain ⟨Ao45, co45, eo45⟩ := Kd.R_slice HO_15.out
                        subst eo45
                        obtain ⟨Ao46, co46, eo46⟩ := Kd.R_slice HO_12.out
                        subst eo46
                        go_wp2_with (first | (go_at_call 11; (with_reducible refine (laws_eqPairS.calls kj15 _ _ t259 _ _ t252 true _ ?side1 ?side2 ?side3 ?side4 A43.out).mono ?_); (case side1 => repeat (first | exact (Kd.R_reads' HO_15.out).2.2 | (with_reducible refine Kd.C_alloc ?_ _) | (with_reducible refine Kd.C_drewN ?_ _) | (with_reducible refine Kd.C_drew ?_))); (case side2 => exact (Kd.R_reads' HO_15.out).2.1); (case side3 => repeat (first | exact (Kd.R_reads' HO_12.out).2.2 | (with_reducible refine Kd.C_alloc ?_ _) | (with_reducible refine Kd.C_drewN ?_ _) | (with_reducible refine Kd.C_drew ?_))); (case side4 => exact (Kd.R_reads' HO_12.out).2.1); rintro e w47 ⟨rfl, hb⟩; have n0_ := Aside0.mk (Kd.R_below (by (with_reducible repeat (first | apply Kd.R_alloc | apply Kd.R_drewN | apply Kd.R_drew)); exact HO_12.out) hb); have n1_ := Aside0.mk (Kd.R_below (by (with_reducible repeat (first | apply Kd.R_alloc | apply Kd.R_drewN | apply Kd.R_drew)); exact HO_14.out) hb); have n2_ := Aside0.mk (Kd.R_below (by (with_reducible repeat (first | apply Kd.R_alloc | apply Kd.R_drewN | apply Kd.R_drew)); exact HO_15.out) hb); have n3_ := Aside0.mk (Kd.R_below (by (with_reducible repeat (first | apply Kd.R_alloc | apply Kd.R_drewN | apply Kd.R_drew)); exact HO266.out) hb); have n4_ := Aside0.mk (below_step (by repeat (first | (with_reducible first | exact HB.out | apply below_alloc | apply pw_below_drewN | apply below_drew1) | exact HB.out)) hb); clear HO_12; clear HO_14; clear HO_15; clear HO266; clear HB; have HO_12 := n0_; have HO_14 := n1_; have HO_15 := n2_; have HO266 := n3_; have HB := n4_; clear n0_ n1_ n2_ n3_ n4_; (try clear hb); (try clear hb2); (try clear hk); (try clear hi)))
                        go_meet
                        case rel => exact ⟨_, ((t260 != t253)), (by first | rfl | (simp; done) | (simp [*]; done)), H', ⟨by have := HJ15.out; first | omega | exact Nat.le_refl _⟩, ⟨by (with_reducible repeat (first | apply Kd.R_alloc | apply Kd.R_drewN | apply Kd.R_drew)); exact Kd.R_mono HO_12.out (fun _ hk => hk.2.1)⟩, ⟨by (with_reducible repeat (first | apply Kd.R_alloc | apply Kd.R_drewN | apply Kd.R_drew)); exact Kd.R_mono HO_15.out (fun _ hk => hk.1)⟩, ⟨by repeat (first | (with_reducible first | exact HB.out | apply below_alloc | apply pw_below_drewN | apply below_drew1) | exact HB.out)⟩⟩
                      · replace c44 := Bool.eq_false_iff.mpr c44
                        subst c44
                        have H1 : (laws_FnExactMoveCoins.j1 kj15 l0 a1 a2 a3 a4 t252 t253 t259 true) = some r := by rw [if_neg (show ¬ (false = true) by decide)] at H; exact H
                        clear H
                        have H := H1
                        clear H1
                        have H' := Aside0.mk H
                        clear H
                        obtain ⟨Ao48, co48, eo48⟩ := Kd.R_slice HO_15.out
                        subst eo48
                        obtain ⟨Ao49, co49, eo49⟩ := Kd.R_slice HO_12.out
                        subst eo49
                        go_wp2_with (first | (go_at_call 11; (with_reducible refine (laws_eqPairS.calls kj15 _ _ t259 _ _ t252 false _ ?side1 ?side2 ?side3 ?side4 A43.out).mono ?_); (case side1 => repeat (first | exact (Kd.R_reads' HO_15.out).2.2 | (with_reducible refine Kd.C_alloc ?_ _) | (with_reducible refine Kd.C_drewN ?_ _) | (with_reducible refine Kd.C_drew ?_))); (case side2 => exact (Kd.R_reads' HO_15.out).2.1); (case side3 => repeat (first | exact (Kd.R_reads' HO_12.out).2.2 | (with_reducible refine Kd.C_alloc ?_ _) | (with_reducible refine Kd.C_drewN ?_ _) | (with_reducible refine Kd.C_drew ?_))); (case side4 => exact (Kd.R_reads' HO_12.out).2.1); rintro e w50 ⟨rfl, hb⟩; have n0_ := Aside0.mk (Kd.R_below (by (with_reducible repeat (first | apply Kd.R_alloc | apply Kd.R_drewN | apply Kd.R_drew)); exact HO_12.out) hb); have n1_ := Aside0.mk (Kd.R_below (by (with_reducible repeat (first | apply Kd.R_alloc | apply Kd.R_drewN | apply Kd.R_drew)); exact HO_14.out) hb); have n2_ := Aside0.mk (Kd.R_below (by (with_reducible repeat (first | apply Kd.R_alloc | apply Kd.R_drewN | apply Kd.R_drew)); exact HO_15.out) hb); have n3_ := Aside0.mk (Kd.R_below (by (with_reducible repeat (first | apply Kd.R_alloc | apply Kd.R_drewN | apply Kd.R_drew)); exact HO266.out) hb); have n4_ := Aside0.mk (below_step (by repeat (first | (with_reducible first | exact HB.out | apply below_alloc | apply pw_below_drewN | apply below_drew1) | exact HB.out)) hb); clear HO_12; clear HO_14; clear HO_15; clear HO266; clear HB; have HO_12 := n0_; have HO_14 := n1_; have HO_15 := n2_; have HO266 := n3_; have HB := n4_; clear n0_ n1_ n2_ n3_ n4_; (try clear hb); (try clear hb2); (try clear hk); (try clear hi)))
                        go_meet
                        case rel => exact ⟨_, (true), (by first | rfl | (simp; done) | (simp [*]; done)), H', ⟨by have := HJ15.out; first | omega | exact Nat.le_refl _⟩, ⟨by (with_reducible repeat (first | apply Kd.R_alloc | apply Kd.R_drewN | apply Kd.R_drew)); exact Kd.R_mono HO_12.out (fun _ hk => hk.2.1)⟩, ⟨by (with_reducible repeat (first | apply Kd.R_alloc | apply Kd.R_drewN | apply Kd.R_drew)); exact Kd.R_mono HO_15.out (fun _ hk => hk.1)⟩, ⟨by repeat (first | (with_reducible first | exact HB.out | apply below_alloc | apply pw_below_drewN | apply below_drew1) | exact HB.out)⟩⟩
                  case rest =>
                    clear HC37
                    try clear c1
                    try clear c2
                    try clear p2
                    try clear c3
                    try clear c4
                    try clear c5
                    try clear c6
                    try clear c6b0
                    try clear c6b1
                    try clear c7
                    try clear c7b0
                    try clear c7b1
                    try clear c8
                    try clear c8b0
                    try clear c8b1
                    try clear c9
                    try clear c10
                    try clear c10b0
                    try clear c11
                    try clear c12
                    try clear c16
                    try clear c17
                    try clear c25
                    try clear c32
                    try clear c35
                    try clear c42
                    try clear c42b0
                    try clear c44
                    try clear p2
                    obtain ⟨kq, x86_36, rfl, HA, HJ36, HO_12, HO_15, HB⟩ := hcut
                    cases kq with
                    | zero => exact absurd HA.out (by simp [laws_FnExactMoveCoins.j1])
                    | succ kj36 =>
                      have H := HA.out
                      clear HA
                      simp only [laws_FnExactMoveCoins.j1] at H
                      by_cases c51 : x86_36 = true
                      · subst c51
                        have H1 : (some false) = some r := by rw [if_pos rfl] at H; exact H
                        clear H
                        have H := H1
                        clear H1
                        obtain rfl := Option.some.inj H
                        go_wp2
                        go_ret
                        exact ⟨by first | rfl | (simp [errW_none, errW_some] <;> rfl) | (simp [*, errW_none, errW_some] <;> rfl), by repeat (first | (with_reducible first | exact HB.out | apply below_alloc | apply pw_below_drewN | apply below_drew1) | exact HB.out)⟩
                      · replace c51 := Bool.eq_false_iff.mpr c51
                        subst c51
                        have H1 : ((laws_markPairS.f kj36 t259 1).bind fun bt271 => ((laws_heldPairS.f kj36 bt271.2 1).bind fun t273 => (if t273 < 0 then (some false) else (if t273 = bt271.1 then ((laws_toPairS.f kj36 l0).bind fun t274 => ((impl_MoveCoins.f t274 a1 a2 a3 a4).bind fun bt277 => ((laws_eqPairS.f kj36 bt277.1 t252).bind fun t281 => (if t281 = true then (laws_FnExactMoveCoins.j2 kj36 bt271.2 bt271.1 (bt277.2 != t253)) else (laws_FnExactMoveCoins.j2 kj36 bt271.2 bt271.1 true))))) else (some false))))) = some r := by rw [if_neg (show ¬ (false = true) by decide)] at H; exact H
                        clear H
                        have H := H1
                        clear H1
                        replace H := Option.bind_eq_some_iff.mp H
                        obtain ⟨⟨t271, t272⟩, A520, H⟩ := H
                        replace H : ((laws_heldPairS.f kj36 t272 1).bind fun t273 => (if t273 < 0 then (some false) else (if t273 = t271 then ((laws_toPairS.f kj36 l0).bind fun t274 => ((impl_MoveCoins.f t274 a1 a2 a3 a4).bind fun bt277 => ((laws_eqPairS.f kj36 bt277.1 t252).bind fun t281 => (if t281 = true then (laws_FnExactMoveCoins.j2 kj36 t272 t271 (bt277.2 != t253)) else (laws_FnExactMoveCoins.j2 kj36 t272 t271 true))))) else (some false)))) = some r := H
                        have A52 := Aside0.mk A520
                        clear A520
                        replace H := Option.bind_eq_some_iff.mp H
                        obtain ⟨t273, A530, H⟩ := H
                        replace H : (if t273 < 0 then (some false) else (if t273 = t271 then ((laws_toPairS.f kj36 l0).bind fun t274 => ((impl_MoveCoins.f t274 a1 a2 a3 a4).bind fun bt277 => ((laws_eqPairS.f kj36 bt277.1 t252).bind fun t281 => (if t281 = true then (laws_FnExactMoveCoins.j2 kj36 t272 t271 (bt277.2 != t253)) else (laws_FnExactMoveCoins.j2 kj36 t272 t271 true))))) else (some false))) = some r := H
                        have A53 := Aside0.mk A530
                        clear A530
                        by_cases c54 : t273 < 0
                        · rw [if_pos c54] at H
                          have c54b0 : decide (t273 < 0) = true := decide_eq_true c54
                          clear c54
                          obtain rfl := Option.some.inj H
                          obtain ⟨Ao55, co55, eo55⟩ := Kd.R_slice HO_15.out
                          subst eo55
                          go_wp2_with (first | ((with_reducible refine gate_callee (f := 12) rfl ?_); refine goesL_ (some 89) rfl rfl Tryz.func12 (by kernel_rfl) rfl #[.slice Ao55 t259.length co55, .int .i64 1] rfl (by (try simp only [List.map_toArray, List.map_cons, List.map_nil]); first | done | rfl | (simp only [List.length_drop, List.length_take]; rfl)) ?_; (with_reducible refine (laws_markPairS.calls kj36 (fun k_ => some k_ = (.slice Ao55 t259.length co55 : Value).ownBlock) (.slice Ao55 t259.length co55) t259 1 t271 t272 w _ ?side1 ?side2 A52.out).mono ?_); (case side1 => repeat (first | (with_reducible first | exact HB.out | apply below_alloc | apply pw_below_drewN | apply below_drew1) | exact HB.out)); (case side2 => exact Kd.R_tight rfl HO_15.out); rintro e w56 ⟨rfl, hy0, hb, hkp⟩; refine ⟨_, rfl, ?_⟩; have n0_ := Aside0.mk (Kd.R_mono (ok' := fun k_ => some k_ ≠ (.slice Ao55 t259.length co55 : Value).ownBlock) (Kd.R_keptB (HO_12.out) hkp (fun k_ hk_ hs_ => (hk_) hs_)) (fun k_ hk_ => hk_.1)); have n1_ := Aside0.mk (Kd.R_reok rfl hy0 (fun k_ e_ => HO_15.out.1 k_ e_)); have n2_ := Aside0.mk (hb); clear HO_12; clear HO_15; clear HB; have HO_12 := n0_; have HO_15 := n1_; have HB := n2_; clear n0_ n1_ n2_; (try clear hb); (try clear hkp); (try clear hy0)) | ((with_reducible refine gate_callee (f := 13) rfl ?_); refine goesL_ (some 92) rfl rfl Tryz.func13 (by kernel_rfl) rfl #[.slice Ao55 t272.length co55, .int .i64 1] rfl (by (try simp only [List.map_toArray, List.map_cons, List.map_nil]); first | done | (rw [show t272.length = t259.length from (Kd.R_reads' HO_15.out).1.symm] <;> rfl) | rfl | (simp only [List.length_drop, List.length_take]; rfl)) ?_; (with_reducible refine (laws_heldPairS.calls kj36 _ _ t272 1 t273 _ ?side1 ?side2 A53.out).mono ?_); (case side1 => repeat (first | exact (Kd.R_reads' HO_15.out).2.2 | (with_reducible refine Kd.C_alloc ?_ _) | (with_reducible refine Kd.C_drewN ?_ _) | (with_reducible refine Kd.C_drew ?_))); (case side2 => rw [show t272.length = t259.length from (Kd.R_reads' HO_15.out).1.symm]; exact (Kd.R_reads' HO_15.out).2.1); rintro e w57 ⟨rfl, hb⟩; refine ⟨_, rfl, ?_⟩; have n0_ := Aside0.mk (Kd.R_below (by (with_reducible repeat (first | apply Kd.R_alloc | apply Kd.R_drewN | apply Kd.R_drew)); exact HO_12.out) hb); have n1_ := Aside0.mk (Kd.R_below (by (with_reducible repeat (first | apply Kd.R_alloc | apply Kd.R_drewN | apply Kd.R_drew)); exact HO_15.out) hb); have n2_ := Aside0.mk (below_step (by repeat (first | (with_reducible first | exact HB.out | apply below_alloc | apply pw_below_drewN | apply below_drew1) | exact HB.out)) hb); clear HO_12; clear HO_15; clear HB; have HO_12 := n0_; have HO_15 := n1_; have HB := n2_; clear n0_ n1_ n2_; (try clear hb); (try clear hb2); (try clear hk); (try clear hi)))
                          go_ret
                          exact ⟨by first | rfl | (simp [errW_none, errW_some] <;> rfl) | (simp [*, errW_none, errW_some] <;> rfl), by repeat (first | (with_reducible first | exact HB.out | apply below_alloc | apply pw_below_drewN | apply below_drew1) | exact HB.out)⟩
                        · rw [if_neg c54] at H
                          have c54b0 : decide (t273 < 0) = false := decide_eq_false c54
                          clear c54
                          by_cases c58 : t273 = t271
                          · rw [if_pos c58] at H
                            have c58b0 : (t273 == t271) = true := beq_iff_eq.mpr c58
                            have c58b1 : (t273 != t271) = false := bne_eq_false_iff_eq.mpr c58
                            clear c58
                            replace H := Option.bind_eq_some_iff.mp H
                            obtain ⟨t274, A590, H⟩ := H
                            replace H : ((impl_MoveCoins.f t274 a1 a2 a3 a4).bind fun bt277 => ((laws_eqPairS.f kj36 bt277.1 t252).bind fun t281 => (if t281 = true then (laws_FnExactMoveCoins.j2 kj36 t272 t271 (bt277.2 != t253)) else (laws_FnExactMoveCoins.j2 kj36 t272 t271 true)))) = some r := H
                            have A59 := Aside0.mk A590
                            clear A590
                            replace H := Option.bind_eq_some_iff.mp H
                            obtain ⟨⟨t277, t278⟩, A600, H⟩ := H
                            replace H : ((laws_eqPairS.f kj36 t277 t252).bind fun t281 => (if t281 = true then (laws_FnExactMoveCoins.j2 kj36 t272 t271 (t278 != t253)) else (laws_FnExactMoveCoins.j2 kj36 t272 t271 true))) = some r := H
                            have A60 := Aside0.mk A600
                            clear A600
                            have HC61 := Aside0.mk H
                            clear H
                            obtain ⟨Ao62, co62, eo62⟩ := Kd.R_slice HO_15.out
                            subst eo62
                            go_upto_region 31 with (first | ((with_reducible refine gate_callee (f := 12) rfl ?_); refine goesL_ (some 89) rfl rfl Tryz.func12 (by kernel_rfl) rfl #[.slice Ao62 t259.length co62, .int .i64 1] rfl (by (try simp only [List.map_toArray, List.map_cons, List.map_nil]); first | done | rfl | (simp only [List.length_drop, List.length_take]; rfl)) ?_; (with_reducible refine (laws_markPairS.calls kj36 (fun k_ => some k_ = (.slice Ao62 t259.length co62 : Value).ownBlock) (.slice Ao62 t259.length co62) t259 1 t271 t272 w _ ?side1 ?side2 A52.out).mono ?_); (case side1 => repeat (first | (with_reducible first | exact HB.out | apply below_alloc | apply pw_below_drewN | apply below_drew1) | exact HB.out)); (case side2 => exact Kd.R_tight rfl HO_15.out); rintro e w63 ⟨rfl, hy0, hb, hkp⟩; refine ⟨_, rfl, ?_⟩; have n0_ := Aside0.mk (Kd.R_mono (ok' := fun k_ => some k_ ≠ (.slice Ao62 t259.length co62 : Value).ownBlock) (Kd.R_keptB (HO_12.out) hkp (fun k_ hk_ hs_ => (hk_) hs_)) (fun k_ hk_ => hk_.1)); have n1_ := Aside0.mk (Kd.R_reok rfl hy0 (fun k_ e_ => HO_15.out.1 k_ e_)); have n2_ := Aside0.mk (hb); clear HO_12; clear HO_15; clear HB; have HO_12 := n0_; have HO_15 := n1_; have HB := n2_; clear n0_ n1_ n2_; (try clear hb); (try clear hkp); (try clear hy0)) | ((with_reducible refine gate_callee (f := 13) rfl ?_); refine goesL_ (some 92) rfl rfl Tryz.func13 (by kernel_rfl) rfl #[.slice Ao62 t272.length co62, .int .i64 1] rfl (by (try simp only [List.map_toArray, List.map_cons, List.map_nil]); first | done | (rw [show t272.length = t259.length from (Kd.R_reads' HO_15.out).1.symm] <;> rfl) | rfl | (simp only [List.length_drop, List.length_take]; rfl)) ?_; (with_reducible refine (laws_heldPairS.calls kj36 _ _ t272 1 t273 _ ?side1 ?side2 A53.out).mono ?_); (case side1 => repeat (first | exact (Kd.R_reads' HO_15.out).2.2 | (with_reducible refine Kd.C_alloc ?_ _) | (with_reducible refine Kd.C_drewN ?_ _) | (with_reducible refine Kd.C_drew ?_))); (case side2 => rw [show t272.length = t259.length from (Kd.R_reads' HO_15.out).1.symm]; exact (Kd.R_reads' HO_15.out).2.1); rintro e w64 ⟨rfl, hb⟩; refine ⟨_, rfl, ?_⟩; have n0_ := Aside0.mk (Kd.R_below (by (with_reducible repeat (first | apply Kd.R_alloc | apply Kd.R_drewN | apply Kd.R_drew)); exact HO_12.out) hb); have n1_ := Aside0.mk (Kd.R_below (by (with_reducible repeat (first | apply Kd.R_alloc | apply Kd.R_drewN | apply Kd.R_drew)); exact HO_15.out) hb); have n2_ := Aside0.mk (below_step (by repeat (first | (with_reducible first | exact HB.out | apply below_alloc | apply pw_below_drewN | apply below_drew1) | exact HB.out)) hb); clear HO_12; clear HO_15; clear HB; have HO_12 := n0_; have HO_15 := n1_; have HB := n2_; clear n0_ n1_ n2_; (try clear hb); (try clear hb2); (try clear hk); (try clear hi)) | ((with_reducible refine gate_callee (f := 9) rfl ?_); refine goesL_ (some 100) rfl rfl Tryz.func9 (by kernel_rfl) rfl #[.slice A0 l0.length c0] rfl (by (try simp only [List.map_toArray, List.map_cons, List.map_nil]); first | done | rfl | (simp only [List.length_drop, List.length_take]; rfl)) ?_; (with_reducible refine (laws_toPairS.calls kj36 _ _ l0 t274 _ ?side1 ?side2 A59.out).mono ?_); (case side1 => repeat (first | exact (Kd.C_below HR0.out HB.out) | (with_reducible refine Kd.C_alloc ?_ _) | (with_reducible refine Kd.C_drewN ?_ _) | (with_reducible refine Kd.C_drew ?_))); (case side2 => exact HC0.out); rintro e w65 ⟨v275, rfl, ho0, hb⟩; refine ⟨_, rfl, ?_⟩; have n0_ := Aside0.mk (Kd.R_elder' (by (with_reducible repeat (first | apply Kd.R_alloc | apply Kd.R_drewN | apply Kd.R_drew)); exact HO_12.out) (Kd.R_base ho0) hb); have n1_ := Aside0.mk (Kd.R_elder' (by (with_reducible repeat (first | apply Kd.R_alloc | apply Kd.R_drewN | apply Kd.R_drew)); exact HO_15.out) (Kd.R_base ho0) hb); have n2_ := Aside0.mk (Kd.R_lower (Kd.R_new' (Kd.R_new' ho0 (Kd.R_lt (by (with_reducible repeat (first | apply Kd.R_alloc | apply Kd.R_drewN | apply Kd.R_drew)); exact HO_12.out))) (Kd.R_lt (by (with_reducible repeat (first | apply Kd.R_alloc | apply Kd.R_drewN | apply Kd.R_drew)); exact HO_15.out))) (below_size (by repeat (first | (with_reducible first | exact HB.out | apply below_alloc | apply pw_below_drewN | apply below_drew1) | exact HB.out)))); have n3_ := Aside0.mk (below_step (by repeat (first | (with_reducible first | exact HB.out | apply below_alloc | apply pw_below_drewN | apply below_drew1) | exact HB.out)) hb); clear HO_12; clear HO_15; clear HB; have HO_12 := n0_; have HO_15 := n1_; have HO276 := n2_; have HB := n3_; clear n0_ n1_ n2_ n3_; (try clear hb); (try clear hb2); (try clear hk); (try clear hi); (try clear ho0); obtain ⟨Ao66, co66, eo66⟩ := Kd.R_slice HO276.out; subst eo66) | ((with_reducible refine gate_callee (f := 17) rfl ?_); refine goesL_ (some 105) rfl rfl Tryz.func17 (by kernel_rfl) rfl #[.slice Ao66 t274.length co66, .string a1, .string a2, .string a3, .int .i64 a4] rfl (by (try simp only [List.map_toArray, List.map_cons, List.map_nil]); first | done | rfl | (simp only [List.length_drop, List.length_take]; rfl)) ?_; (with_reducible refine (impl_MoveCoins.calls _ _ t274 a1 a2 a3 a4 t277 t278 _ ?side1 ?side2 ?tb1 A60.out).mono ?_); (case tb1 => exact Tb.TB.below HT.out (by repeat (first | (with_reducible first | exact HB.out | apply below_alloc | apply pw_below_drewN | apply below_drew1) | exact HB.out)) (Nat.le_refl _)); (case side1 => repeat (first | exact (Kd.R_reads' HO276.out).2.2 | (with_reducible refine Kd.C_alloc ?_ _) | (with_reducible refine Kd.C_drewN ?_ _) | (with_reducible refine Kd.C_drew ?_))); (case side2 => exact (Kd.R_reads' HO276.out).2.1); rintro e w67 ⟨v279, rfl, ho0, hb⟩; refine ⟨_, rfl, ?_⟩; have n0_ := Aside0.mk (Kd.R_elder' (by (with_reducible repeat (first | apply Kd.R_alloc | apply Kd.R_drewN | apply Kd.R_drew)); exact HO_12.out) (Kd.R_base ho0) hb); have n1_ := Aside0.mk (Kd.R_elder' (by (with_reducible repeat (first | apply Kd.R_alloc | apply Kd.R_drewN | apply Kd.R_drew)); exact HO_15.out) (Kd.R_base ho0) hb); have n2_ := Aside0.mk (Kd.R_elder' (by (with_reducible repeat (first | apply Kd.R_alloc | apply Kd.R_drewN | apply Kd.R_drew)); exact HO276.out) (Kd.R_base ho0) hb); have n3_ := Aside0.mk (Kd.R_lower (Kd.R_new' (Kd.R_new' (Kd.R_new' ho0 (Kd.R_lt (by (with_reducible repeat (first | apply Kd.R_alloc | apply Kd.R_drewN | apply Kd.R_drew)); exact HO_12.out))) (Kd.R_lt (by (with_reducible repeat (first | apply Kd.R_alloc | apply Kd.R_drewN | apply Kd.R_drew)); exact HO_15.out))) (Kd.R_lt (by (with_reducible repeat (first | apply Kd.R_alloc | apply Kd.R_drewN | apply Kd.R_drew)); exact HO276.out))) (below_size (by repeat (first | (with_reducible first | exact HB.out | apply below_alloc | apply pw_below_drewN | apply below_drew1) | exact HB.out)))); have n4_ := Aside0.mk (below_step (by repeat (first | (with_reducible first | exact HB.out | apply below_alloc | apply pw_below_drewN | apply below_drew1) | exact HB.out)) hb); clear HO_12; clear HO_15; clear HO276; clear HB; have HO_12 := n0_; have HO_15 := n1_; have HO276 := n2_; have HO280 := n3_; have HB := n4_; clear n0_ n1_ n2_ n3_ n4_; (try clear hb); (try clear hb2); (try clear hk); (try clear hi); (try clear ho0)))
                            (try simp only [Act.put, List.setIfInBounds_toArray, List.set_cons_zero, List.set_cons_succ])
                            go_cut [116] (fun v116 wc => ∃ (kq : Nat) (x116_60 : Bool), v116 = .bool x116_60 ∧ Aside0 (laws_FnExactMoveCoins.j2 kq t272 t271 x116_60 = some r) ∧ Aside0 (kq ≤ kj36) ∧ Aside0 (Kd.R k56 56 wc w.heap.size (fun _ => True) (.slice Ao62 t259.length co62) t272) ∧ Aside0 (Below w.heap.size w wc))
                            case first =>
                              have H := HC61.out
                              clear HC61
                              replace H := Option.bind_eq_some_iff.mp H
                              obtain ⟨t281, A680, H⟩ := H
                              replace H : (if t281 = true then (laws_FnExactMoveCoins.j2 kj36 t272 t271 (t278 != t253)) else (laws_FnExactMoveCoins.j2 kj36 t272 t271 true)) = some r := H
                              have A68 := Aside0.mk A680
                              clear A680
                              by_cases c69 : t281 = true
                              · subst c69
                                have H1 : (laws_FnExactMoveCoins.j2 kj36 t272 t271 (t278 != t253)) = some r := by rw [if_pos rfl] at H; exact H
                                clear H
                                have H := H1
                                clear H1
                                have H' := Aside0.mk H
                                clear H
                                obtain ⟨Ao70, co70, eo70⟩ := Kd.R_slice HO280.out
                                subst eo70
                                obtain ⟨Ao71, co71, eo71⟩ := Kd.R_slice HO_12.out
                                subst eo71
                                go_wp2_with (first | ((with_reducible refine gate_callee (f := 11) rfl ?_); refine goesL_ (some 110) rfl rfl Tryz.func11 (by kernel_rfl) rfl #[.slice Ao70 t277.length co70, .slice Ao71 t252.length co71] rfl (by (try simp only [List.map_toArray, List.map_cons, List.map_nil]); first | done | rfl | (simp only [List.length_drop, List.length_take]; rfl)) ?_; (with_reducible refine (laws_eqPairS.calls kj36 _ _ t277 _ _ t252 true _ ?side1 ?side2 ?side3 ?side4 A68.out).mono ?_); (case side1 => repeat (first | exact (Kd.R_reads' HO280.out).2.2 | (with_reducible refine Kd.C_alloc ?_ _) | (with_reducible refine Kd.C_drewN ?_ _) | (with_reducible refine Kd.C_drew ?_))); (case side2 => exact (Kd.R_reads' HO280.out).2.1); (case side3 => repeat (first | exact (Kd.R_reads' HO_12.out).2.2 | (with_reducible refine Kd.C_alloc ?_ _) | (with_reducible refine Kd.C_drewN ?_ _) | (with_reducible refine Kd.C_drew ?_))); (case side4 => exact (Kd.R_reads' HO_12.out).2.1); rintro e w72 ⟨rfl, hb⟩; refine ⟨_, rfl, ?_⟩; have n0_ := Aside0.mk (Kd.R_below (by (with_reducible repeat (first | apply Kd.R_alloc | apply Kd.R_drewN | apply Kd.R_drew)); exact HO_12.out) hb); have n1_ := Aside0.mk (Kd.R_below (by (with_reducible repeat (first | apply Kd.R_alloc | apply Kd.R_drewN | apply Kd.R_drew)); exact HO_15.out) hb); have n2_ := Aside0.mk (Kd.R_below (by (with_reducible repeat (first | apply Kd.R_alloc | apply Kd.R_drewN | apply Kd.R_drew)); exact HO276.out) hb); have n3_ := Aside0.mk (Kd.R_below (by (with_reducible repeat (first | apply Kd.R_alloc | apply Kd.R_drewN | apply Kd.R_drew)); exact HO280.out) hb); have n4_ := Aside0.mk (below_step (by repeat (first | (with_reducible first | exact HB.out | apply below_alloc | apply pw_below_drewN | apply below_drew1) | exact HB.out)) hb); clear HO_12; clear HO_15; clear HO276; clear HO280; clear HB; have HO_12 := n0_; have HO_15 := n1_; have HO276 := n2_; have HO280 := n3_; have HB := n4_; clear n0_ n1_ n2_ n3_ n4_; (try clear hb); (try clear hb2); (try clear hk); (try clear hi)))
                                go_meet
                                case rel => exact ⟨_, ((t278 != t253)), (by first | rfl | (simp; done) | (simp [*]; done)), H', ⟨by have := HJ15.out; have := HJ36.out; first | omega | exact Nat.le_refl _⟩, ⟨by (with_reducible repeat (first | apply Kd.R_alloc | apply Kd.R_drewN | apply Kd.R_drew)); exact Kd.R_mono HO_15.out (fun _ hk => trivial)⟩, ⟨by repeat (first | (with_reducible first | exact HB.out | apply below_alloc | apply pw_below_drewN | apply below_drew1) | exact HB.out)⟩⟩
                              · replace c69 := Bool.eq_false_iff.mpr c69
                                subst c69
                                have H1 : (laws_FnExactMoveCoins.j2 kj36 t272 t271 true) = some r := by rw [if_neg (show ¬ (false = true) by decide)] at H; exact H
                                clear H
                                have H := H1
                                clear H1
                                have H' := Aside0.mk H
                                clear H
                                obtain ⟨Ao73, co73, eo73⟩ := Kd.R_slice HO280.out
                                subst eo73
                                obtain ⟨Ao74, co74, eo74⟩ := Kd.R_slice HO_12.out
                                subst eo74
                                go_wp2_with (first | ((with_reducible refine gate_callee (f := 11) rfl ?_); refine goesL_ (some 110) rfl rfl Tryz.func11 (by kernel_rfl) rfl #[.slice Ao73 t277.length co73, .slice Ao74 t252.length co74] rfl (by (try simp only [List.map_toArray, List.map_cons, List.map_nil]); first | done | rfl | (simp only [List.length_drop, List.length_take]; rfl)) ?_; (with_reducible refine (laws_eqPairS.calls kj36 _ _ t277 _ _ t252 false _ ?side1 ?side2 ?side3 ?side4 A68.out).mono ?_); (case side1 => repeat (first | exact (Kd.R_reads' HO280.out).2.2 | (with_reducible refine Kd.C_alloc ?_ _) | (with_reducible refine Kd.C_drewN ?_ _) | (with_reducible refine Kd.C_drew ?_))); (case side2 => exact (Kd.R_reads' HO280.out).2.1); (case side3 => repeat (first | exact (Kd.R_reads' HO_12.out).2.2 | (with_reducible refine Kd.C_alloc ?_ _) | (with_reducible refine Kd.C_drewN ?_ _) | (with_reducible refine Kd.C_drew ?_))); (case side4 => exact (Kd.R_reads' HO_12.out).2.1); rintro e w75 ⟨rfl, hb⟩; refine ⟨_, rfl, ?_⟩; have n0_ := Aside0.mk (Kd.R_below (by (with_reducible repeat (first | apply Kd.R_alloc | apply Kd.R_drewN | apply Kd.R_drew)); exact HO_12.out) hb); have n1_ := Aside0.mk (Kd.R_below (by (with_reducible repeat (first | apply Kd.R_alloc | apply Kd.R_drewN | apply Kd.R_drew)); exact HO_15.out) hb); have n2_ := Aside0.mk (Kd.R_below (by (with_reducible repeat (first | apply Kd.R_alloc | apply Kd.R_drewN | apply Kd.R_drew)); exact HO276.out) hb); have n3_ := Aside0.mk (Kd.R_below (by (with_reducible repeat (first | apply Kd.R_alloc | apply Kd.R_drewN | apply Kd.R_drew)); exact HO280.out) hb); have n4_ := Aside0.mk (below_step (by repeat (first | (with_reducible first | exact HB.out | apply below_alloc | apply pw_below_drewN | apply below_drew1) | exact HB.out)) hb); clear HO_12; clear HO_15; clear HO276; clear HO280; clear HB; have HO_12 := n0_; have HO_15 := n1_; have HO276 := n2_; have HO280 := n3_; have HB := n4_; clear n0_ n1_ n2_ n3_ n4_; (try clear hb); (try clear hb2); (try clear hk); (try clear hi)))
                                go_meet
                                case rel => exact ⟨_, (true), (by first | rfl | (simp; done) | (simp [*]; done)), H', ⟨by have := HJ15.out; have := HJ36.out; first | omega | exact Nat.le_refl _⟩, ⟨by (with_reducible repeat (first | apply Kd.R_alloc | apply Kd.R_drewN | apply Kd.R_drew)); exact Kd.R_mono HO_15.out (fun _ hk => trivial)⟩, ⟨by repeat (first | (with_reducible first | exact HB.out | apply below_alloc | apply pw_below_drewN | apply below_drew1) | exact HB.out)⟩⟩
                            case rest =>
                              clear HC61
                              try clear c1
                              try clear c2
                              try clear p2
                              try clear c3
                              try clear c4
                              try clear c5
                              try clear c6
                              try clear c6b0
                              try clear c6b1
                              try clear c7
                              try clear c7b0
                              try clear c7b1
                              try clear c8
                              try clear c8b0
                              try clear c8b1
                              try clear c9
                              try clear c10
                              try clear c10b0
                              try clear c11
                              try clear c12
                              try clear c13
                              try clear c16
                              try clear c17
                              try clear c25
                              try clear c32
                              try clear c35
                              try clear c42
                              try clear c42b0
                              try clear c44
                              try clear c51
                              try clear c54
                              try clear c54b0
                              try clear c58
                              try clear c58b0
                              try clear c58b1
                              try clear c69
                              try clear p2
                              obtain ⟨kq, x116_60, rfl, HA, HJ60, HO_15, HB⟩ := hcut
                              have hl15_60 := (Kd.R_reads' HO_15.out).1
                              rw [hl15_60] at HO_15
                              (try simp only [hl15_60])
                              cases kq with
                              | zero => exact absurd HA.out (by simp [laws_FnExactMoveCoins.j2])
                              | succ kj60 =>
                                have H := HA.out
                                clear HA
                                simp only [laws_FnExactMoveCoins.j2] at H
                                by_cases c76 : x116_60 = true
                                · subst c76
                                  have H1 : (some false) = some r := by rw [if_pos rfl] at H; exact H
                                  clear H
                                  have H := H1
                                  clear H1
                                  obtain rfl := Option.some.inj H
                                  go_wp2
                                  go_ret
                                  exact ⟨by first | rfl | (simp [errW_none, errW_some] <;> rfl) | (simp [*, errW_none, errW_some] <;> rfl), by repeat (first | (with_reducible first | exact HB.out | apply below_alloc | apply pw_below_drewN | apply below_drew1) | exact HB.out)⟩
                                · replace c76 := Bool.eq_false_iff.mpr c76
                                  subst c76
                                  have H1 : ((laws_heldPairS.f kj60 t272 1).bind fun t282 => (if t282 < 0 then (some false) else (if t282 = t271 then (some true) else (some false)))) = some r := by rw [if_neg (show ¬ (false = true) by decide)] at H; exact H
                                  clear H
                                  have H := H1
                                  clear H1
                                  replace H := Option.bind_eq_some_iff.mp H
                                  obtain ⟨t282, A770, H⟩ := H
                                  replace H : (if t282 < 0 then (some false) else (if t282 = t271 then (some true) else (some false))) = some r := H
                                  have A77 := Aside0.mk A770
                                  clear A770
                                  by_cases c78 : t282 < 0
                                  · rw [if_pos c78] at H
                                    have c78b0 : decide (t282 < 0) = true := decide_eq_true c78
                                    clear c78
                                    obtain rfl := Option.some.inj H
                                    go_wp2_with (first | ((with_reducible refine gate_callee (f := 13) rfl ?_); refine goesL_ (some 119) rfl rfl Tryz.func13 (by kernel_rfl) rfl #[.slice Ao62 t272.length co62, .int .i64 1] rfl (by (try simp only [List.map_toArray, List.map_cons, List.map_nil]); first | done | rfl | (simp only [List.length_drop, List.length_take]; rfl)) ?_; (with_reducible refine (laws_heldPairS.calls kj60 _ _ t272 1 t282 _ ?side1 ?side2 A77.out).mono ?_); (case side1 => repeat (first | exact (Kd.R_reads' HO_15.out).2.2 | (with_reducible refine Kd.C_alloc ?_ _) | (with_reducible refine Kd.C_drewN ?_ _) | (with_reducible refine Kd.C_drew ?_))); (case side2 => exact (Kd.R_reads' HO_15.out).2.1); rintro e w79 ⟨rfl, hb⟩; refine ⟨_, rfl, ?_⟩; have n0_ := Aside0.mk (Kd.R_below (by (with_reducible repeat (first | apply Kd.R_alloc | apply Kd.R_drewN | apply Kd.R_drew)); exact HO_15.out) hb); have n1_ := Aside0.mk (below_step (by repeat (first | (with_reducible first | exact HB.out | apply below_alloc | apply pw_below_drewN | apply below_drew1) | exact HB.out)) hb); clear HO_15; clear HB; have HO_15 := n0_; have HB := n1_; clear n0_ n1_; (try clear hb); (try clear hb2); (try clear hk); (try clear hi)))
                                    go_ret
                                    exact ⟨by first | rfl | (simp [errW_none, errW_some] <;> rfl) | (simp [*, errW_none, errW_some] <;> rfl), by repeat (first | (with_reducible first | exact HB.out | apply below_alloc | apply pw_below_drewN | apply below_drew1) | exact HB.out)⟩
                                  · rw [if_neg c78] at H
                                    have c78b0 : decide (t282 < 0) = false := decide_eq_false c78
                                    clear c78
                                    by_cases c80 : t282 = t271
                                    · rw [if_pos c80] at H
                                      have c80b0 : (t282 == t271) = true := beq_iff_eq.mpr c80
                                      have c80b1 : (t282 != t271) = false := bne_eq_false_iff_eq.mpr c80
                                      clear c80
                                      obtain rfl := Option.some.inj H
                                      go_wp2_with (first | ((with_reducible refine gate_callee (f := 13) rfl ?_); refine goesL_ (some 119) rfl rfl Tryz.func13 (by kernel_rfl) rfl #[.slice Ao62 t272.length co62, .int .i64 1] rfl (by (try simp only [List.map_toArray, List.map_cons, List.map_nil]); first | done | rfl | (simp only [List.length_drop, List.length_take]; rfl)) ?_; (with_reducible refine (laws_heldPairS.calls kj60 _ _ t272 1 t282 _ ?side1 ?side2 A77.out).mono ?_); (case side1 => repeat (first | exact (Kd.R_reads' HO_15.out).2.2 | (with_reducible refine Kd.C_alloc ?_ _) | (with_reducible refine Kd.C_drewN ?_ _) | (with_reducible refine Kd.C_drew ?_))); (case side2 => exact (Kd.R_reads' HO_15.out).2.1); rintro e w81 ⟨rfl, hb⟩; refine ⟨_, rfl, ?_⟩; have n0_ := Aside0.mk (Kd.R_below (by (with_reducible repeat (first | apply Kd.R_alloc | apply Kd.R_drewN | apply Kd.R_drew)); exact HO_15.out) hb); have n1_ := Aside0.mk (below_step (by repeat (first | (with_reducible first | exact HB.out | apply below_alloc | apply pw_below_drewN | apply below_drew1) | exact HB.out)) hb); clear HO_15; clear HB; have HO_15 := n0_; have HB := n1_; clear n0_ n1_; (try clear hb); (try clear hb2); (try clear hk); (try clear hi)))
                                      go_ret
                                      exact ⟨by first | rfl | (simp [errW_none, errW_some] <;> rfl) | (simp [*, errW_none, errW_some] <;> rfl), by repeat (first | (with_reducible first | exact HB.out | apply below_alloc | apply pw_below_drewN | apply below_drew1) | exact HB.out)⟩
                                    · rw [if_neg c80] at H
                                      have c80b0 : (t282 == t271) = false := beq_eq_false_iff_ne.mpr c80
                                      have c80b1 : (t282 != t271) = true := bne_iff_ne.mpr c80
                                      obtain rfl := Option.some.inj H
                                      go_wp2_with (first | ((with_reducible refine gate_callee (f := 13) rfl ?_); refine goesL_ (some 119) rfl rfl Tryz.func13 (by kernel_rfl) rfl #[.slice Ao62 t272.length co62, .int .i64 1] rfl (by (try simp only [List.map_toArray, List.map_cons, List.map_nil]); first | done | rfl | (simp only [List.length_drop, List.length_take]; rfl)) ?_; (with_reducible refine (laws_heldPairS.calls kj60 _ _ t272 1 t282 _ ?side1 ?side2 A77.out).mono ?_); (case side1 => repeat (first | exact (Kd.R_reads' HO_15.out).2.2 | (with_reducible refine Kd.C_alloc ?_ _) | (with_reducible refine Kd.C_drewN ?_ _) | (with_reducible refine Kd.C_drew ?_))); (case side2 => exact (Kd.R_reads' HO_15.out).2.1); rintro e w82 ⟨rfl, hb⟩; refine ⟨_, rfl, ?_⟩; have n0_ := Aside0.mk (Kd.R_below (by (with_reducible repeat (first | apply Kd.R_alloc | apply Kd.R_drewN | apply Kd.R_drew)); exact HO_15.out) hb); have n1_ := Aside0.mk (below_step (by repeat (first | (with_reducible first | exact HB.out | apply below_alloc | apply pw_below_drewN | apply below_drew1) | exact HB.out)) hb); clear HO_15; clear HB; have HO_15 := n0_; have HB := n1_; clear n0_ n1_; (try clear hb); (try clear hb2); (try clear hk); (try clear hi)))
                                      go_ret
                                      exact ⟨by first | rfl | (simp [errW_none, errW_some] <;> rfl) | (simp [*, errW_none, errW_some] <;> rfl), by repeat (first | (with_reducible first | exact HB.out | apply below_alloc | apply pw_below_drewN | apply below_drew1) | exact HB.out)⟩
                          · rw [if_neg c58] at H
                            have c58b0 : (t273 == t271) = false := beq_eq_false_iff_ne.mpr c58
                            have c58b1 : (t273 != t271) = true := bne_iff_ne.mpr c58
                            obtain rfl := Option.some.inj H
                            obtain ⟨Ao83, co83, eo83⟩ := Kd.R_slice HO_15.out
                            subst eo83
                            go_wp2_with (first | ((with_reducible refine gate_callee (f := 12) rfl ?_); refine goesL_ (some 89) rfl rfl Tryz.func12 (by kernel_rfl) rfl #[.slice Ao83 t259.length co83, .int .i64 1] rfl (by (try simp only [List.map_toArray, List.map_cons, List.map_nil]); first | done | rfl | (simp only [List.length_drop, List.length_take]; rfl)) ?_; (with_reducible refine (laws_markPairS.calls kj36 (fun k_ => some k_ = (.slice Ao83 t259.length co83 : Value).ownBlock) (.slice Ao83 t259.length co83) t259 1 t271 t272 w _ ?side1 ?side2 A52.out).mono ?_); (case side1 => repeat (first | (with_reducible first | exact HB.out | apply below_alloc | apply pw_below_drewN | apply below_drew1) | exact HB.out)); (case side2 => exact Kd.R_tight rfl HO_15.out); rintro e w84 ⟨rfl, hy0, hb, hkp⟩; refine ⟨_, rfl, ?_⟩; have n0_ := Aside0.mk (Kd.R_mono (ok' := fun k_ => some k_ ≠ (.slice Ao83 t259.length co83 : Value).ownBlock) (Kd.R_keptB (HO_12.out) hkp (fun k_ hk_ hs_ => (hk_) hs_)) (fun k_ hk_ => hk_.1)); have n1_ := Aside0.mk (Kd.R_reok rfl hy0 (fun k_ e_ => HO_15.out.1 k_ e_)); have n2_ := Aside0.mk (hb); clear HO_12; clear HO_15; clear HB; have HO_12 := n0_; have HO_15 := n1_; have HB := n2_; clear n0_ n1_ n2_; (try clear hb); (try clear hkp); (try clear hy0)) | ((with_reducible refine gate_callee (f := 13) rfl ?_); refine goesL_ (some 92) rfl rfl Tryz.func13 (by kernel_rfl) rfl #[.slice Ao83 t272.length co83, .int .i64 1] rfl (by (try simp only [List.map_toArray, List.map_cons, List.map_nil]); first | done | (rw [show t272.length = t259.length from (Kd.R_reads' HO_15.out).1.symm] <;> rfl) | rfl | (simp only [List.length_drop, List.length_take]; rfl)) ?_; (with_reducible refine (laws_heldPairS.calls kj36 _ _ t272 1 t273 _ ?side1 ?side2 A53.out).mono ?_); (case side1 => repeat (first | exact (Kd.R_reads' HO_15.out).2.2 | (with_reducible refine Kd.C_alloc ?_ _) | (with_reducible refine Kd.C_drewN ?_ _) | (with_reducible refine Kd.C_drew ?_))); (case side2 => rw [show t272.length = t259.length from (Kd.R_reads' HO_15.out).1.symm]; exact (Kd.R_reads' HO_15.out).2.1); rintro e w85 ⟨rfl, hb⟩; refine ⟨_, rfl, ?_⟩; have n0_ := Aside0.mk (Kd.R_below (by (with_reducible repeat (first | apply Kd.R_alloc | apply Kd.R_drewN | apply Kd.R_drew)); exact HO_12.out) hb); have n1_ := Aside0.mk (Kd.R_below (by (with_reducible repeat (first | apply Kd.R_alloc | apply Kd.R_drewN | apply Kd.R_drew)); exact HO_15.out) hb); have n2_ := Aside0.mk (below_step (by repeat (first | (with_reducible first | exact HB.out | apply below_alloc | apply pw_below_drewN | apply below_drew1) | exact HB.out)) hb); clear HO_12; clear HO_15; clear HB; have HO_12 := n0_; have HO_15 := n1_; have HB := n2_; clear n0_ n1_ n2_; (try clear hb); (try clear hb2); (try clear hk); (try clear hi)))
                            go_ret
                            exact ⟨by first | rfl | (simp [errW_none, errW_some] <;> rfl) | (simp [*, errW_none, errW_some] <;> rfl), by repeat (first | (with_reducible first | exact HB.out | apply below_alloc | apply pw_below_drewN | apply below_drew1) | exact HB.out)⟩
                · replace c35 := Bool.eq_false_iff.mpr c35
                  subst c35
                  have H1 : (some false) = some r := by rw [if_neg (show ¬ (false = true) by decide)] at H; exact H
                  clear H
                  have H := H1
                  clear H1
                  obtain rfl := Option.some.inj H
                  go_wp2_with (first | ((with_reducible refine gate_callee (f := 9) rfl ?_); refine goesL_ (some 68) rfl rfl Tryz.func9 (by kernel_rfl) rfl #[.slice A0 l0.length c0] rfl (by (try simp only [List.map_toArray, List.map_cons, List.map_nil]); first | done | rfl | (simp only [List.length_drop, List.length_take]; rfl)) ?_; (with_reducible refine (laws_toPairS.calls kj15 _ _ l0 t264 _ ?side1 ?side2 A33.out).mono ?_); (case side1 => repeat (first | exact (Kd.C_below HR0.out HB.out) | (with_reducible refine Kd.C_alloc ?_ _) | (with_reducible refine Kd.C_drewN ?_ _) | (with_reducible refine Kd.C_drew ?_))); (case side2 => exact HC0.out); rintro e w86 ⟨v265, rfl, ho0, hb⟩; refine ⟨_, rfl, ?_⟩; have n0_ := Aside0.mk (Kd.R_elder' (by (with_reducible repeat (first | apply Kd.R_alloc | apply Kd.R_drewN | apply Kd.R_drew)); exact HO_12.out) (Kd.R_base ho0) hb); have n1_ := Aside0.mk (Kd.R_elder' (by (with_reducible repeat (first | apply Kd.R_alloc | apply Kd.R_drewN | apply Kd.R_drew)); exact HO_14.out) (Kd.R_base ho0) hb); have n2_ := Aside0.mk (Kd.R_elder' (by (with_reducible repeat (first | apply Kd.R_alloc | apply Kd.R_drewN | apply Kd.R_drew)); exact HO_15.out) (Kd.R_base ho0) hb); have n3_ := Aside0.mk (Kd.R_lower (Kd.R_new' (Kd.R_new' (Kd.R_new' ho0 (Kd.R_lt (by (with_reducible repeat (first | apply Kd.R_alloc | apply Kd.R_drewN | apply Kd.R_drew)); exact HO_12.out))) (Kd.R_lt (by (with_reducible repeat (first | apply Kd.R_alloc | apply Kd.R_drewN | apply Kd.R_drew)); exact HO_14.out))) (Kd.R_lt (by (with_reducible repeat (first | apply Kd.R_alloc | apply Kd.R_drewN | apply Kd.R_drew)); exact HO_15.out))) (below_size (by repeat (first | (with_reducible first | exact HB.out | apply below_alloc | apply pw_below_drewN | apply below_drew1) | exact HB.out)))); have n4_ := Aside0.mk (below_step (by repeat (first | (with_reducible first | exact HB.out | apply below_alloc | apply pw_below_drewN | apply below_drew1) | exact HB.out)) hb); clear HO_12; clear HO_14; clear HO_15; clear HB; have HO_12 := n0_; have HO_14 := n1_; have HO_15 := n2_; have HO266 := n3_; have HB := n4_; clear n0_ n1_ n2_ n3_ n4_; (try clear hb); (try clear hb2); (try clear hk); (try clear hi); (try clear ho0); obtain ⟨Ao87, co87, eo87⟩ := Kd.R_slice HO266.out; subst eo87) | ((with_reducible refine gate_callee (f := 11) rfl ?_); refine goesL_ (some 69) rfl rfl Tryz.func11 (by kernel_rfl) rfl #[.slice Ao22 t256.length co22, .slice Ao87 t264.length co87] rfl (by (try simp only [List.map_toArray, List.map_cons, List.map_nil]); first | done | rfl | (simp only [List.length_drop, List.length_take]; rfl)) ?_; (with_reducible refine (laws_eqPairS.calls kj15 _ _ t256 _ _ t264 false _ ?side1 ?side2 ?side3 ?side4 A34.out).mono ?_); (case side1 => repeat (first | exact (Kd.R_reads' HO_14.out).2.2 | (with_reducible refine Kd.C_alloc ?_ _) | (with_reducible refine Kd.C_drewN ?_ _) | (with_reducible refine Kd.C_drew ?_))); (case side2 => exact (Kd.R_reads' HO_14.out).2.1); (case side3 => repeat (first | exact (Kd.R_reads' HO266.out).2.2 | (with_reducible refine Kd.C_alloc ?_ _) | (with_reducible refine Kd.C_drewN ?_ _) | (with_reducible refine Kd.C_drew ?_))); (case side4 => exact (Kd.R_reads' HO266.out).2.1); rintro e w88 ⟨rfl, hb⟩; refine ⟨_, rfl, ?_⟩; have n0_ := Aside0.mk (Kd.R_below (by (with_reducible repeat (first | apply Kd.R_alloc | apply Kd.R_drewN | apply Kd.R_drew)); exact HO_12.out) hb); have n1_ := Aside0.mk (Kd.R_below (by (with_reducible repeat (first | apply Kd.R_alloc | apply Kd.R_drewN | apply Kd.R_drew)); exact HO_14.out) hb); have n2_ := Aside0.mk (Kd.R_below (by (with_reducible repeat (first | apply Kd.R_alloc | apply Kd.R_drewN | apply Kd.R_drew)); exact HO_15.out) hb); have n3_ := Aside0.mk (Kd.R_below (by (with_reducible repeat (first | apply Kd.R_alloc | apply Kd.R_drewN | apply Kd.R_drew)); exact HO266.out) hb); have n4_ := Aside0.mk (below_step (by repeat (first | (with_reducible first | exact HB.out | apply below_alloc | apply pw_below_drewN | apply below_drew1) | exact HB.out)) hb); clear HO_12; clear HO_14; clear HO_15; clear HO266; clear HB; have HO_12 := n0_; have HO_14 := n1_; have HO_15 := n2_; have HO266 := n3_; have HB := n4_; clear n0_ n1_ n2_ n3_ n4_; (try clear hb); (try clear hb2); (try clear hk); (try clear hi)))
                  go_ret
                  exact ⟨by first | rfl | (simp [errW_none, errW_some] <;> rfl) | (simp [*, errW_none, errW_some] <;> rfl), by repeat (first | (with_reducible first | exact HB.out | apply below_alloc | apply pw_below_drewN | apply below_drew1) | exact HB.out)⟩



end Go.Proofs.YtpkfdjlmflmilaaGreatDoor.Q
end
section
namespace Go.Proofs.YtpkfdjlmflmilaaGreatDoor.Fr
open Go.ChangeShapes Go.WideShapes Go.RowKit Go.Deep Go.Proofs.YtpkfdjlmflmilaaGreatDoorW.PrintWords Go.Proofs.YtpkfdjlmflmilaaGreatDoorW.PrintLast
set_option linter.unusedVariables false
section
variable {H : Type} {α β γ δ : Type}
def Opens (enc : TypeId × Value → H) (P : Program) (w : World) (base : Nat) (spare : Nat → Bool) (held : Bool) (d : Kd α) (t : TypeId) (wf : α → Prop) : Prop :=
  ∀ (fuel : Nat) (cs : List Value) (x : DataW H × List MemPlace), DataW.trod enc P w base spare held fuel t cs = some x → ∃ y : α, d.K w y cs ∧ wf y
variable {enc : TypeId × Value → H} {P : Program} {w : World} {base : Nat} {spare : Nat → Bool} {held : Bool}
theorem opens_string {t : TypeId} (ht : P.underlying t = some .string) : Opens enc P w base spare held Kd.string t (fun s => s.size ≤ 9223372036854775807) := by
  intro fuel cs x h
  obtain ⟨s, rfl, _, hs⟩ := DataW.trod_string ht h
  exact ⟨s, rfl, by simpa [maxLen] using hs⟩
theorem opens_slice [Inhabited α] {d : Kd α} {t e : TypeId} {wf : α → Prop} (ht : P.underlying t = some (.slice e)) (hsz : P.cellsOf e = d.sz) (hd : Opens enc P w base spare held d e wf) :
    Opens enc P w base spare held (Kd.slice e d) t (fun l => (∀ x ∈ l, wf x) ∧ l.length ≤ 9223372036854775807) := by
  intro fuel cs x h
  rcases open_slice ht h with ⟨rfl, _⟩ | ⟨a, len, cap, m, n, D, Pl, rfl, _, hl, hm, hmm, _, hx⟩
  · refine ⟨[], ⟨none, 0, rfl, Nat.le_refl _, ⟨rfl, by simp, fun h => absurd h (by simp)⟩⟩, ?_⟩
    show (∀ x ∈ ([] : List α), wf x) ∧ ([] : List α).length ≤ 9223372036854775807
    exact ⟨fun x h => absurd h List.not_mem_nil, by simp⟩
  · have hlm : len ≤ m := by rw [hmm]; split <;> omega
    obtain ⟨Y, hY⟩ := choose_lt (α := α) (n := len) (p := fun i y => wf y ∧ ∃ cs', w.cells? base (a.add (i * P.cellsOf e)) (P.cellsOf e) = some cs' ∧ d.K w y cs') (fun i hi => by
      obtain ⟨cs', h1, h2⟩ := hx i (by omega)
      obtain ⟨y, hk, hw⟩ := hd _ _ _ h2
      exact ⟨y, hw, cs', h1, hk⟩)
    have hlen : ((List.range len).map Y).length = len := by simp
    simp only [maxLen] at hm
    refine ⟨(List.range len).map Y, ⟨some a, cap, by rw [hlen], by rw [hlen]; exact hl, ?_⟩, ?_, by rw [hlen]; omega⟩
    · rw [hlen]
      refine ⟨hlen, by omega, fun _ => ⟨a, rfl, fun j p hj => ?_⟩⟩
      have hjl : j < len := by have := (List.getElem?_eq_some_iff.1 hj).1; rw [hlen] at this; exact this
      obtain ⟨_, cs', h1, hk⟩ := hY j hjl
      have hp : Y j = p := by
        rw [List.getElem?_map, List.getElem?_range hjl] at hj
        exact Option.some.inj hj
      subst hp
      obtain ⟨_, hcl, hat⟩ := World.cells?_some h1
      refine ⟨cs', d.K_len hk, hk, fun i u hi => ?_⟩
      have hil : i < P.cellsOf e := by have := (List.getElem?_eq_some_iff.1 hi).1; omega
      rw [← hsz, ← Go.Deep.add_add, hat i hil, hi]
    · intro x hx'
      obtain ⟨i, hi, rfl⟩ := List.mem_map.1 hx'
      exact (hY i (List.mem_range.1 hi)).1
/-- A struct of one-cell fields: two of them. -/
theorem opens_struct2 {f0 f1 : Field} {d0 : Kd α} {d1 : Kd β} {t : TypeId} {w0 : α → Prop} {w1 : β → Prop} (hs : P.underlying t = some (.struct #[f0, f1])) (hone : oneCellFields P #[f0, f1] = true) (hC : P.cellsOf t = 2)
    (h0 : Opens enc P w base spare held d0 f0.type w0) (h1 : Opens enc P w base spare held d1 f1.type w1) (f : γ → α × β) (mk : α → β → γ) (hmk : ∀ a b, f (mk a b) = (a, b)) :
    Opens enc P w base spare held (Kd.iso (Kd.pair d0 d1) f) t (fun x => w0 (f x).1 ∧ w1 (f x).2) := by
  intro fuel cs x h
  obtain ⟨xs, n, _, hx, hcl, hlen, hg⟩ := DataW.trod_struct hs h
  obtain ⟨o0, k0⟩ := hone_of hone 0 f0 rfl
  obtain ⟨o1, k1⟩ := hone_of hone 1 f1 rfl
  match cs, hcl.trans hC with
  | [c0, c1], _ =>
    match xs, hlen with
    | [y0, y1], _ =>
      have g0 : DataW.trod enc P w base spare held n f0.type [c0] = some y0 := by simpa [o0, k0] using hg 0 f0 rfl
      have g1 : DataW.trod enc P w base spare held n f1.type [c1] = some y1 := by simpa [o1, k1] using hg 1 f1 rfl
      obtain ⟨a, ha, hwa⟩ := h0 _ _ _ g0
      obtain ⟨b, hb, hwb⟩ := h1 _ _ _ g1
      refine ⟨mk a b, ?_, ?_⟩
      · show (Kd.pair d0 d1).K w (f (mk a b)) [c0, c1]
        rw [hmk]
        exact ⟨[c0], [c1], rfl, ha, hb⟩
      · show w0 (f (mk a b)).1 ∧ w1 (f (mk a b)).2
        rw [hmk]
        exact ⟨hwa, hwb⟩
end
section
variable {H : Type} {enc : TypeId × Value → H} {P : Program} {w : World} {base : Nat} {spare : Nat → Bool} {held : Bool}
end
end Go.Proofs.YtpkfdjlmflmilaaGreatDoor.Fr
end
section
namespace Go.Proofs.YtpkfdjlmflmilaaGreatDoor.Q
open Go.RowKit Go.Proofs.YtpkfdjlmflmilaaGreatDoorW.PrintWords Go.Proofs.YtpkfdjlmflmilaaGreatDoorW.PrintLast
/-- The one pure statement of laws_FnExactMoveCoins. -/
def laws_FnExactMoveCoins.PureF : Prop := ∀ (l0 : List (S52)) (a1 : ByteArray) (a2 : ByteArray) (a3 : ByteArray) (a4 : Int), ((∀ x ∈ l0, (x.f0.size ≤ 9223372036854775807) ∧ (x.f1.size ≤ 9223372036854775807)) ∧ l0.length ≤ 9223372036854775807) → (a1.size ≤ 140737488351232) → (a2.size ≤ 140737488351232) → (a3.size ≤ 140737488351232) → ((Lit.int .i64 a4).wf = true) → ∃ k, laws_FnExactMoveCoins.f k l0 a1 a2 a3 a4 = some true
end Go.Proofs.YtpkfdjlmflmilaaGreatDoor.Q
end
section
namespace Go.Proofs.YtpkfdjlmflmilaaGreatDoor.Pure
open Go.RowKit Go.Proofs.YtpkfdjlmflmilaaGreatDoor.Q Go.Proofs.YtpkfdjlmflmilaaGreatDoorW.PrintWords Go.Proofs.YtpkfdjlmflmilaaGreatDoorW.PrintLast
set_option linter.unusedVariables false
theorem bytesSize (l : List Int) : (strOfNums l).size = l.length := by unfold strOfNums; simp [ByteArray.size]
theorem w_suc (n : Nat) (h : n < 9223372036854775807) : wrap64 ((n : Int) + 1) = ((n + 1 : Nat) : Int) := by unfold wrap64; omega
theorem w_ten (n : Nat) (h : n < 9223372036854775807) : wrap64 (Int.tdiv (n : Int) 10) = ((n / 10 : Nat) : Int) := by
  rw [Int.tdiv_eq_ediv_of_nonneg (by omega)]
  unfold wrap64
  omega
theorem markText_l0 (d : Nat) : ∀ (n : Nat) (out : ByteArray), n < 10 ^ d → d ≤ 18 → out.size + d ≤ 100 → ∃ r, ∀ k, d < k → laws_markText.l0 k (n : Int) out = some r := by
  induction d with
  | zero =>
    intro n out hn hd hs
    have : n = 0 := by simpa using hn
    subst this
    refine ⟨(⟨#[109]⟩ : ByteArray) ++ out, fun k hk => ?_⟩
    obtain ⟨k, rfl⟩ : ∃ m, k = m + 1 := ⟨k - 1, by omega⟩
    simp only [laws_markText.l0]
    rw [if_neg (by simp), if_pos (by omega)]
  | succ d ih =>
    intro n out hn hd hs
    have hp : 10 ^ d ≤ 10 ^ 18 := Nat.pow_le_pow_right (by decide) (by omega)
    by_cases h0 : n = 0
    · subst h0
      refine ⟨(⟨#[109]⟩ : ByteArray) ++ out, fun k hk => ?_⟩
      obtain ⟨k, rfl⟩ : ∃ m, k = m + 1 := ⟨k - 1, by omega⟩
      simp only [laws_markText.l0]
      rw [if_neg (by simp), if_pos (by omega)]
    · have hn' : n / 10 < 10 ^ d := by rw [Nat.div_lt_iff_lt_mul (by decide)]; rw [Nat.pow_succ] at hn; exact hn
      obtain ⟨r, hr⟩ := ih (n / 10) (strOfNums [(wrap64 (48 + (Int.tmod (n : Int) 10))) % 256] ++ out) hn' (by omega) (by rw [ByteArray.size_append, bytesSize]; simp; omega)
      refine ⟨r, fun k hk => ?_⟩
      obtain ⟨k, rfl⟩ : ∃ m, k = m + 1 := ⟨k - 1, by omega⟩
      simp only [laws_markText.l0, Option.bind_some]
      have hb : n < 9223372036854775807 := by have p18 : (10 : Nat) ^ 18 = 1000000000000000000 := by decide
                                              have := Nat.pow_le_pow_right (show 0 < 10 by decide) (show d + 1 ≤ 18 by omega)
                                              omega
      rw [if_pos (by omega), if_pos (by rw [bytesSize]; simp; omega), w_ten n hb]
      exact hr k (by omega)
theorem markText_some (n : Nat) (hn : n < 10 ^ 18) : ∃ r, ∀ k, 20 < k → laws_markText.f k (n : Int) = some r := by
  by_cases h0 : n = 0
  · subst h0
    exact ⟨_, fun k _ => by unfold laws_markText.f; rw [if_pos (by simp)]⟩
  · obtain ⟨r, hr⟩ := markText_l0 18 n ⟨#[]⟩ hn (by decide) (by simp [ByteArray.size])
    exact ⟨r, fun k hk => by unfold laws_markText.f; rw [if_neg (by omega)]; exact hr k (by omega)⟩
/-- The mark's text. -/
noncomputable def mt (n : Nat) : ByteArray := @Classical.epsilon ByteArray ⟨ByteArray.empty⟩ fun r => ∀ k, 20 < k → laws_markText.f k (n : Int) = some r
theorem mt_eq (n : Nat) (h : n < 10 ^ 18) (k : Nat) (hk : 20 < k) : laws_markText.f k (n : Int) = some (mt n) := Classical.epsilon_spec (markText_some n h) k hk
theorem mt_at (n : Nat) (h : n ≤ 4294967296) (k : Nat) (hk : 20 < k) : laws_markText.f k (n : Int) = some (mt n) :=
  mt_eq n (Nat.lt_of_le_of_lt h (by decide)) k hk
/-- A marked list. -/
noncomputable def mkd (n : Nat) : List S56 := (List.range n).map fun i => ⟨mt (1 + 2 * i), mt (1 + 2 * i + 1)⟩
theorem mkd_len (n : Nat) : (mkd n).length = n := by simp [mkd]
theorem mkd_succ (n : Nat) : mkd (n + 1) = mkd n ++ [⟨mt (1 + 2 * n), mt (1 + 2 * n + 1)⟩] := by simp [mkd, List.range_succ]
theorem markPairS_l0 (n : Nat) (hl : n ≤ 1073741824) (d : Nat) : ∀ (k i : Nat) (x : List S56), x.length = n → n - i = d → i ≤ n → x.take i = mkd i → d + 21 < k →
    laws_markPairS.l0 k x ((1 + 2 * i : Nat) : Int) (i : Int) = some (((1 + 2 * n : Nat) : Int), mkd n) := by
  induction d with
  | zero =>
    intro k i x hx hd hi ht hk
    obtain ⟨k, rfl⟩ : ∃ m, k = m + 1 := ⟨k - 1, by omega⟩
    have : i = n := by omega
    subst this
    simp only [laws_markPairS.l0]
    rw [if_neg (by omega)]
    rw [List.take_of_length_le (by omega)] at ht
    rw [ht]
  | succ d ih =>
    intro k i x hx hd hi ht hk
    obtain ⟨k, rfl⟩ : ∃ m, k = m + 1 := ⟨k - 1, by omega⟩
    have hlt : i < x.length := by omega
    have q1 : 1 + 2 * i ≤ 4294967296 := by omega
    have q2 : 1 + 2 * i + 1 ≤ 4294967296 := by omega
    have q3 : 20 < k := by omega
    have b1 : 1 + 2 * i < 9223372036854775807 := Nat.lt_of_le_of_lt q1 (by decide)
    have b2 : 1 + 2 * i + 1 < 9223372036854775807 := Nat.lt_of_le_of_lt q2 (by decide)
    simp only [laws_markPairS.l0]
    rw [if_pos (by omega), mt_at (1 + 2 * i) q1 k q3]
    simp -implicitDefEqProofs only [Option.bind_some]
    have hn : x.length ≤ 9223372036854775807 := by omega
    simp only [w_suc (1 + 2 * i) b1, w_suc (1 + 2 * i + 1) b2, up64 hlt hn]
    rw [if_pos (by omega), mt_at (1 + 2 * i + 1) q2 k q3]
    simp -implicitDefEqProofs only [Option.bind_some]
    rw [show 1 + 2 * i + 1 + 1 = 1 + 2 * (i + 1) by omega, Int.toNat_natCast]
    refine ih k (i + 1) _ (by rw [List.length_set, List.length_set]; exact hx) (by omega) (by omega) ?_ (by omega)
    rw [mkd_succ, List.take_succ_eq_append_getElem (by rw [List.length_set, List.length_set]; omega), List.getElem_set_self, List.take_set_of_le (Nat.le_refl i), List.take_set_of_le (Nat.le_refl i), ht]
    simp [rd_T56, List.getD, List.getElem?_set_self hlt]
theorem markPairS_eq (x : List S56) (hl : x.length ≤ 1073741824) (k : Nat) (hk : x.length + 21 < k) : laws_markPairS.f k x 1 = some (((1 + 2 * x.length : Nat) : Int), mkd x.length) := by
  unfold laws_markPairS.f
  exact markPairS_l0 x.length hl x.length k 0 x rfl (by omega) (by omega) (by simp [mkd]) hk
theorem heldPairS_l0 (n : Nat) (hl : n ≤ 1073741824) (d : Nat) : ∀ (k i : Nat), n - i = d → i ≤ n → d + 21 < k → laws_heldPairS.l0 k (mkd n) ((1 + 2 * i : Nat) : Int) (i : Int) = some ((1 + 2 * n : Nat) : Int) := by
  induction d with
  | zero =>
    intro k i hd hi hk
    obtain ⟨k, rfl⟩ : ∃ m, k = m + 1 := ⟨k - 1, by omega⟩
    have : i = n := by omega
    subst this
    simp only [laws_heldPairS.l0]
    rw [if_neg (by rw [mkd_len]; omega)]
  | succ d ih =>
    intro k i hd hi hk
    obtain ⟨k, rfl⟩ : ∃ m, k = m + 1 := ⟨k - 1, by omega⟩
    have hlt : i < n := by omega
    have q1 : 1 + 2 * i ≤ 4294967296 := by omega
    have q2 : 1 + 2 * i + 1 ≤ 4294967296 := by omega
    have q3 : 20 < k := by omega
    have b1 : 1 + 2 * i < 9223372036854775807 := Nat.lt_of_le_of_lt q1 (by decide)
    have b2 : 1 + 2 * i + 1 < 9223372036854775807 := Nat.lt_of_le_of_lt q2 (by decide)
    have hr : rd_T56 (mkd n) (i : Int) = ⟨mt (1 + 2 * i), mt (1 + 2 * i + 1)⟩ := by simp [rd_T56, mkd, List.getD, hlt]
    simp only [laws_heldPairS.l0]
    rw [if_pos (by rw [mkd_len]; omega), if_pos (by omega), mt_at (1 + 2 * i) q1 k q3, hr]
    simp -implicitDefEqProofs only [Option.bind_some, if_true]
    have hn : n ≤ 9223372036854775807 := by omega
    simp only [w_suc (1 + 2 * i) b1, w_suc (1 + 2 * i + 1) b2, up64 hlt hn]
    rw [mt_at (1 + 2 * i + 1) q2 k q3]
    simp -implicitDefEqProofs only [Option.bind_some, if_true]
    rw [show 1 + 2 * i + 1 + 1 = 1 + 2 * (i + 1) by omega]
    exact ih k (i + 1) (by omega) (by omega) (by omega)
theorem heldPairS_eq (n : Nat) (hl : n ≤ 1073741824) (k : Nat) (hk : n + 21 < k) : laws_heldPairS.f k (mkd n) 1 = some ((1 + 2 * n : Nat) : Int) := by
  unfold laws_heldPairS.f
  exact heldPairS_l0 n hl n k 0 (by omega) (by omega) hk
end Go.Proofs.YtpkfdjlmflmilaaGreatDoor.Pure
end
section
namespace Go.Proofs.YtpkfdjlmflmilaaGreatDoor.Pure
open Go.RowKit Go.Proofs.YtpkfdjlmflmilaaGreatDoor.Q Go.Proofs.YtpkfdjlmflmilaaGreatDoorW.PrintWords Go.Proofs.YtpkfdjlmflmilaaGreatDoorW.PrintLast
set_option linter.unusedVariables false
theorem bank_len (l : List S56) (ns : List ByteArray) (n : Int) (a : ByteArray) (x : Int) (b : ByteArray) (y : Int) : (bankN l ns n a x b y).1.length ≤ l.length + 2 := by
  unfold bankN
  split
  · exact two_len _ _ _ _ _
  · simp
theorem FnExactMoveCoins : laws_FnExactMoveCoins.PureF := by
  intro l a b d n ⟨hw, hl⟩ ha hb hd hn
  obtain ⟨r, hr, hr'⟩ := szPairS_eq l hw hl
  refine ⟨l.length + 40 + 1 + 1 + 1, ?_⟩
  unfold laws_FnExactMoveCoins.f
  by_cases h0 : (a.size : Int) > 1048576
  · rw [if_pos h0]
  · rw [if_neg h0]
    by_cases h01 : (b.size : Int) > 1048576
    · rw [if_pos h01]
    · rw [if_neg h01]
      by_cases h00 : (d.size : Int) > 1048576
      · rw [if_pos h00]
      · rw [if_neg h00, hr _ (by omega), Option.bind_some]
        by_cases h : r < 0
        · rw [if_pos h]
        · have h20 := hr' (by omega)
          have hlm : (l.map cv).length = l.length := List.length_map ..
          obtain ⟨p, hp⟩ : ∃ p, p = bankN (l.map cv) [a, b, d] n (bKey a d) (-n) (bKey b d) n := ⟨_, rfl⟩
          have e1 : spec_MoveCoins.f (l.map cv) a b d n = some p := by rw [hp]; rfl
          have e2 : impl_MoveCoins.f (l.map cv) a b d n = some p := by rw [hp]; rfl
          have hG : p.1.length ≤ l.length + 2 := by rw [hp, ← hlm]; exact bank_len _ _ _ _ _ _ _
          clear hp
          rw [if_neg h, toPairS_eq l h20 _ (by omega), Option.bind_some, e1, Option.bind_some, Option.bind_some, e2, Option.bind_some]
          obtain ⟨G, c⟩ := p
          simp only at hG
          rw [eqPairS_eq G G (by omega) _ (by omega), Option.bind_some, if_pos (by simp), bne_self_eq_false]
          simp only [laws_FnExactMoveCoins.j0]
          rw [if_neg (by simp), toPairS_eq l h20 _ (by omega), Option.bind_some, eqPairS_eq _ _ (by omega) _ (by omega), Option.bind_some, if_pos (by simp), markPairS_eq _ (by omega) _ (by omega), Option.bind_some, if_neg (by omega),
            eqPairS_eq G G (by omega) _ (by omega), Option.bind_some, if_pos (by simp), bne_self_eq_false]
          simp only [laws_FnExactMoveCoins.j1]
          rw [if_neg (by simp), markPairS_eq G (by omega) _ (by omega), Option.bind_some, heldPairS_eq G.length (by omega) _ (by omega), Option.bind_some, if_neg (by omega), if_pos rfl, toPairS_eq l h20 _ (by omega), Option.bind_some, e2, Option.bind_some,
            eqPairS_eq G G (by omega) _ (by omega), Option.bind_some, if_pos (by simp), bne_self_eq_false]
          simp only [laws_FnExactMoveCoins.j2]
          rw [if_neg (by simp), heldPairS_eq G.length (by omega) _ (by omega), Option.bind_some, if_neg (by omega), if_pos rfl]
end Go.Proofs.YtpkfdjlmflmilaaGreatDoor.Pure
end
section
namespace Go.Proofs.YtpkfdjlmflmilaaGreatDoor.fnExactMoveCoins
open Go.ChangeShapes Go.WideShapes Go.ChangeAt Go.RowKit Go.Proofs.YtpkfdjlmflmilaaGreatDoorW.PrintWords Go.Proofs.YtpkfdjlmflmilaaGreatDoorW.PrintLast Go.Proofs.YtpkfdjlmflmilaaGreatDoor.Q
open Go.ChangeMaps (open_string shut_string)
set_option linter.unusedVariables false
set_option maxRecDepth 100000
instance : Inhabited ByteArray := ⟨ByteArray.empty⟩
instance : Inhabited S52 := ⟨z52⟩
theorem own : ownKnob Tryz.prog.godebug = none := by kernel_rfl
theorem laidOut : laidOutB Tryz.prog = true := by kernel_rfl
theorem contract (H : Type) (enc : TypeId × Value → H) (W : World) (base : Nat) (args : Array Value) (ds gs : List (DataW H)) (before : List MemPlace)
    (hval0 : ∀ (j : Nat) t v, Tryz.f5.params[j]? = some t → args[j]? = some v → Value.okWide Tryz.prog W .any base t v)
    (hW : DataW.Whole enc Tryz.prog Tryz.f5.params.toList Rows.fnExactMoveCoinsSpec.vars false W args.toList ds gs before)
    (hsz0 : (DataW.weightsEach Tryz.prog (Tryz.f5.params.toList ++ (OpenSpec.ofChange Rows.fnExactMoveCoinsSpec).bare.plain.varTypes Tryz.prog) (ds ++ gs)).all (· ≤ reachBytes) = true) (hL : laidMetH Tryz.prog Rows.fnExactMoveCoinsRow.laid W) :
    Calls Tryz.prog 5 args W fun e W' => ∃ v, e = .returned v ∧ Rows.fnExactMoveCoinsSpec.post enc Tryz.prog Tryz.f5 false true false false W args v W' := by
  have htb : Tb.TB W := Tb.tb_of_laid hL
  have hsz : (DataW.weightsEach Tryz.prog (Tryz.f5.params.toList ++ Rows.fnExactMoveCoinsSpec.plain.varTypes Tryz.prog) (ds ++ gs)).all (· ≤ reachBytes) = true := hsz0
  have hval : ∀ (j : Nat) t v, Tryz.f5.params[j]? = some t → args[j]? = some v → Value.okWide Tryz.prog W .any base t v := hval0
  have hW' := hW
  obtain ⟨p, q, hA0, hV, rfl, hfz, hnd⟩ := hW
  have hA : DataW.TrodAll enc Tryz.prog W 0 (fun _ => true) true Tryz.f5.params.toList args.toList ds p := hA0
  rw [Tryz.params5] at hA hval hsz
  obtain ⟨v0, vs0, d0, ds0, p0, q0, hargs, rfl, rfl, h0, r0⟩ := trodAll_cons hA
  obtain ⟨v1, vs1, d1, ds1, p1, q1, rfl, rfl, rfl, h1, r1⟩ := trodAll_cons r0
  obtain ⟨v2, vs2, d2, ds2, p2, q2, rfl, rfl, rfl, h2, r2⟩ := trodAll_cons r1
  obtain ⟨v3, vs3, d3, ds3, p3, q3, rfl, rfl, rfl, h3, r3⟩ := trodAll_cons r2
  obtain ⟨v4, vs4, d4, ds4, p4, q4, rfl, rfl, rfl, h4, r4⟩ := trodAll_cons r3
  obtain ⟨rfl, rfl, rfl⟩ := trodAll_nil r4
  obtain rfl : args = #[v0, v1, v2, v3, v4] := by cases args; simp_all
  obtain ⟨rfl, rfl⟩ := trodVars_none hV
  have k0 := h0
  have lt0 : ∀ x ∈ p0, x.block < W.heap.size := by obtain ⟨m, hm⟩ := k0; exact DataW.trod_lt m _ _ _ hm
  obtain ⟨A0, len0, c0, rfl⟩ := okWide_slice Tryz.underlying22 (hval 0 22 v0 rfl rfl)
  obtain ⟨fuel0, hf0⟩ := h0
  obtain ⟨l0, ⟨A0', c0', e0, hc0, hr0⟩, w0⟩ := (Fr.opens_slice Tryz.underlying22 (by kernel_rfl) (Fr.opens_struct2 (d0 := Kd.string) (d1 := Kd.string) Tryz.underlying52 (by kernel_rfl) (by kernel_rfl) (Fr.opens_string Tryz.underlying9) (Fr.opens_string Tryz.underlying9) (fun x : S52 => (x.f0, x.f1)) (fun a b => ⟨a, b⟩) (fun _ _ => rfl))) _ _ _ hf0
  simp [Value.cells] at e0
  obtain ⟨rfl, rfl, rfl⟩ := e0
  obtain ⟨a1, rfl, rfl, rfl, y1⟩ := open_string Tryz.underlying9 (hval 1 9 v1 rfl rfl) h1
  have w1 : a1.size ≤ 140737488351232 := by
    have z := sized_string hsz (j := 1) (t := 9) rfl rfl
    rw [Array.length_toList] at z
    exact z
  obtain ⟨a2, rfl, rfl, rfl, y2⟩ := open_string Tryz.underlying9 (hval 2 9 v2 rfl rfl) h2
  have w2 : a2.size ≤ 140737488351232 := by
    have z := sized_string hsz (j := 2) (t := 9) rfl rfl
    rw [Array.length_toList] at z
    exact z
  obtain ⟨a3, rfl, rfl, rfl, y3⟩ := open_string Tryz.underlying9 (hval 3 9 v3 rfl rfl) h3
  have w3 : a3.size ≤ 140737488351232 := by
    have z := sized_string hsz (j := 3) (t := 9) rfl rfl
    rw [Array.length_toList] at z
    exact z
  obtain ⟨a4, rfl, rfl, rfl, w4⟩ := open_int Tryz.underlying3 (hval 4 3 v4 rfl rfl) h4
  clear hA0 hval0 hsz0 hsz
  obtain ⟨k, hk⟩ := Pure.FnExactMoveCoins l0 a1 a2 a3 a4 w0 w1 w2 w3 w4
  refine (Q.laws_FnExactMoveCoins.calls k A0 c0 l0 a1 a2 a3 a4 true W hr0 hc0 (htab := htb) hk).mono fun e W' ⟨he, bel0⟩ => ?_
  have bel : Below W.heap.size W W' := bel0
  subst he
  exact ⟨_, rfl, _, _, _, [], _, [], hW', trodAll_mk1 (shut_bool Tryz.underlying4 _), (trodAll_cons_mk (Below.trod laidOut (by kernel_rfl) (of_decide_eq_true (by kernel_rfl)) k0 bel lt0) (trodAll_cons_mk (shut_string Tryz.underlying9 y1) (trodAll_cons_mk (shut_string Tryz.underlying9 y2) (trodAll_cons_mk (shut_string Tryz.underlying9 y3) (trodAll_cons_mk (shut_int Tryz.underlying3 w4) trodAll_mk0))))), rfl, bel.frame _, fun h => by cases h⟩
theorem reads (os : Os) {H : Type} (enc : TypeId × Value → H) : ∃ places, DataW.whole enc Tryz.prog ((Tb.laidWorld os).forCall (fun _ _ => 0) ⟨#[], #[.slice none 0 0, .string ByteArray.empty, .string ByteArray.empty, .string ByteArray.empty, .int .i64 0], []⟩).memory Tryz.f5.params.toList Rows.fnExactMoveCoinsSpec.vars false (#[.slice none 0 0, .string ByteArray.empty, .string ByteArray.empty, .string ByteArray.empty, .int .i64 0] : Array Value).toList 8 = some ([.nil, .lit (.string []), .lit (.string []), .lit (.string []), .lit (.int .i64 0)], [], places) := ⟨[], by kernel_rfl⟩
theorem laid_met (os : Os) : laidMetH Tryz.prog Rows.fnExactMoveCoinsRow.laid ((Tb.laidWorld os).forCall (fun _ _ => 0) ⟨#[], #[.slice none 0 0, .string ByteArray.empty, .string ByteArray.empty, .string ByteArray.empty, .int .i64 0], []⟩).memory := Tb.laidWorld_met os _
theorem lifted (os : Os) (started : os.Started) (H : Type) (enc : TypeId × Value → H) (F : Stop.Interp) :
    ReturnsInHanded {} Tryz.checked os 5 .any ((OpenSpec.ofChange Rows.fnExactMoveCoinsSpec).preRow enc Tryz.prog Tryz.f5 Rows.fnExactMoveCoinsRow.domain false Rows.fnExactMoveCoinsRow.laid) (((OpenSpec.ofChange Rows.fnExactMoveCoinsSpec).at F).post enc Tryz.prog Tryz.f5 false true false false) := by
  obtain ⟨places, hx⟩ := reads os enc
  refine returnsInHanded_of_row (C := Tryz.checked) (s := OpenSpec.ofChange Rows.fnExactMoveCoinsSpec) own started (by kernel_rfl) Tryz.func5
    (witness_row_atRef (enc := enc) (C := Tryz.checked) false (Tb.laidWorld os) #[.slice none 0 0, .string ByteArray.empty, .string ByteArray.empty, .string ByteArray.empty, .int .i64 0] rfl (by kernel_rfl) (by kernel_rfl) (by kernel_rfl)
      (OpenSpec.preRow_of_cond 8 hx (by kernel_rfl) (fun k hk => by cases hk) (by kernel_rfl) (laid_met os))) ?_
  intro W base args ds gs before hval hW _ _ hsz hL _ _
  exact contract H enc W base args ds gs before hval hW hsz hL
theorem said : Rows.FnExactMoveCoinsSaid :=
  OpenClaim.holds_of_cond 5 Tryz.f5 rfl rfl rfl rfl rfl rfl rfl ⟨rfl, rfl, rfl, rfl, rfl⟩ rfl rfl rfl rfl rfl (by kernel_rfl) Tryz.func5 (by kernel_rfl)
    (of_decide_eq_true (by kernel_rfl)) (by unfold Func.isWrapper; first | (rw [if_pos (by decide +kernel)]; kernel_rfl) | (rw [if_neg (by decide +kernel)]; exact ⟨rfl, rfl⟩))
    (fun os started H enc _ F => by rw [OpenClaim.pre_eq_preRow]; exact lifted os started H enc F)
theorem plain (f : FuncId) (fn : Func) (hf : Tryz.pinned.checked.prog.funcNamed "loop.example/g00298/laws.FnExactMoveCoins" = some f) (hfn : Tryz.pinned.checked.prog.funcs[f]? = some fn) :
    true = Tryz.pinned.checked.prog.looks [] ∧ ∀ (j : Nat) t, fn.params[j]? = some t → Tryz.pinned.checked.prog.wantsStandIn t = false := by
  obtain rfl : f = 5 := Option.some.inj ((show Tryz.prog.funcNamed "loop.example/g00298/laws.FnExactMoveCoins" = some 5 by kernel_rfl).symm.trans hf) |>.symm
  obtain rfl : fn = Tryz.f5 := (Option.some.inj (Tryz.func5.symm.trans hfn)).symm
  refine ⟨by kernel_rfl, fun j t ht => ?_⟩
  rw [Tryz.params5] at ht
  have hm := Array.mem_of_getElem? ht
  simp only [List.mem_toArray, List.mem_cons, List.not_mem_nil, or_false] at hm
  rcases hm with rfl | rfl | rfl | rfl | rfl
  all_goals first | exact (show Tryz.prog.wantsStandIn 22 = false by kernel_rfl) | exact (show Tryz.prog.wantsStandIn 9 = false by kernel_rfl) | exact (show Tryz.prog.wantsStandIn 3 = false by kernel_rfl)
theorem card : Rows.FnExactMoveCoinsCardSaid :=
  Claim7.holds_tied_plain_at .later [] _ _ _ _ said (fun _ h => by cases h) (by kernel_rfl) (fun _ h => by cases h) fnExactMoveCoins_row_tie rfl ⟨rfl, rfl⟩ (by kernel_rfl) rfl plain (by kernel_rfl)
#print axioms card
end Go.Proofs.YtpkfdjlmflmilaaGreatDoor.fnExactMoveCoins
namespace Go.Proofs.YtpkfdjlmflmilaaGreatDoor
/-- The card, under a short name, for the claim. -/
theorem fnExactMoveCoins_holds : Rows.FnExactMoveCoinsCardSaid := fnExactMoveCoins.card
end Go.Proofs.YtpkfdjlmflmilaaGreatDoor
end
