/- The contracts of impl.put and impl.drop. -/
import Derived.Test.YtifkdlcalkccaaaSSlD
import Derived.Test.YtifkdlcalkccaaaSSlJ
import Derived.Test.YtifkdlcalkccaaaSE3
namespace Go.Proofs.Ytifkdlcalkccaaa.S
open Go.RowKit Go.Proofs.YtifkdlcalkccaaaW.PrintWords Go.Proofs.YtifkdlcalkccaaaW.PrintLast Go.Proofs.YtifkdlcalkccaaaW.PrintMore
set_option linter.unusedVariables false
set_option linter.unusedSimpArgs false
theorem own_of_R {w : World} {b : Nat} {ok : Nat → Prop} {v : Value} {l : List S50} (h : Kd.R k50 50 w b ok v l) : ∃ inner, w.ownsRow b 50 2 v l.length inner ∧ Reps (k50.K w) 2 l inner := by
  obtain ⟨_, inner, ho, hr⟩ := h
  exact ⟨inner, ho, hr.imp_ (fun _ _ hp => k50.K_of_M hp)⟩
theorem own_at {w : World} {b : Nat} {v : Value} {n : Nat} {xs : List Value} (h : w.ownsRow b 50 2 v n xs) (hn : 0 < n) :
    ∃ g cap cur, v = .slice (some ⟨g, 0, none⟩) n cap ∧ b ≤ g ∧ w.heap[g]? = some (.cells cur 50 (0, 0)) ∧ n ≤ cap ∧ cap ≤ 9223372036854775807 ∧ cur.size = cap * 2 ∧ cur.toList.take (n * 2) = xs := by
  rcases h.2 with ⟨_, h0⟩ | ⟨g, cap, cur, e, hb, hg, hc, hm, hs, ht⟩
  · omega
  · exact ⟨g, cap, cur, e, hb, hg, hc, by simpa [maxLen] using hm, hs, ht⟩
/-- slices.Insert of one pair. -/
theorem insert_calls (v : Value) (n i vb B : Nat) (xs : List Value) (s0 s1 : ByteArray) (w : World) (hown : w.ownsRow B 50 2 v n xs) (hi : i ≤ n) (hb : (n + 1) * 32 ≤ 140737488355328) (h1 : ∀ u ∈ xs, u.oneCell' = true)
    (hvb : w.heap[vb]? = some (.cells #[.string s0, .string s1] 50 (0, 0))) (hne : v.ownBlock ≠ some vb) (hB : B ≤ w.heap.size) :
    Calls Try.prog 89 #[v, .int .i64 (i : Int), .slice (some ⟨vb, 0, none⟩) 1 1] w fun e w' =>
      ∃ v', e = .returned v' ∧ w'.ownsRow B 50 2 v' (n + 1) (xs.take (i * 2) ++ [.string s0, .string s1] ++ xs.drop (i * 2)) ∧ Below B w w' := by
  by_cases hin : i = n
  · subst hin
    have := insert_end v i vb B xs s0 s1 w hown hb hvb hB
    have hl := hown.1
    rwa [List.take_of_length_le (by omega), List.drop_eq_nil_of_le (by omega), List.append_nil]
  · obtain ⟨g, cap, cur, rfl, hg, hh, hc, hm, hs, ht⟩ := own_at hown (by omega)
    by_cases hr : n + 1 ≤ cap
    · exact insert_shift g n cap i vb B xs cur s0 s1 w hh hr hm hs ht hown.1 (by omega) h1 hg hvb (by intro e; apply hne; rw [e]; rfl)
    · exact insert_grow g n cap i vb B xs cur s0 s1 w hh hc (by omega) hb ht hown.1 (by omega) h1 hB hvb

theorem delete_R {W : World} {base : Nat} {ok : Nat → Prop} {A : Option Addr} {c k : Nat} {l : List S50} (hR : Kd.R k50 50 W base ok (.slice A l.length c) l) (hk : k < l.length) :
    Calls Try.prog 88 #[.slice A l.length c, .int .i64 (k : Int), .int .i64 ((k : Int) + 1)] W fun e w' => ∃ v', e = .returned v' ∧ Kd.R k50 50 w' base (fun _ => True) v' (l.take k ++ l.drop (k + 1)) ∧ Below base W w' := by
  obtain ⟨inner, ho, hr⟩ := own_of_R hR
  obtain ⟨g, cap, cur, e, hb, hh, hc, hm, hs, ht⟩ := own_at ho (by omega)
  injection e with e1 _ e3
  subst e1
  subst e3
  refine (delete_calls g l.length c k base inner cur W hh hc hm hs ht ho.1 hk (reps_one' hr) hb).mono ?_
  rintro e w' ⟨rfl, hown, hbl⟩
  refine ⟨_, rfl, ?_, hbl⟩
  have hlen : (l.take k ++ l.drop (k + 1)).length = l.length - 1 := by rw [List.length_append, List.length_take, List.length_drop]; omega
  exact own_R (by rw [hlen]; exact hown) (reps_append (reps_take hr k (by omega)) (reps_drop hr (k + 1)))
theorem insert_R {W : World} {base : Nat} {ok : Nat → Prop} {v : Value} {k vb : Nat} {s0 s1 : ByteArray} {l : List S50} (hR : Kd.R k50 50 W base ok v l) (hk : k ≤ l.length) (hl : (l.length + 1) * 32 ≤ 140737488355328)
    (hvb : W.heap[vb]? = some (.cells #[.string s0, .string s1] 50 (0, 0))) (hne : v.ownBlock ≠ some vb) (hB : base ≤ W.heap.size) :
    Calls Try.prog 89 #[v, .int .i64 (k : Int), .slice (some ⟨vb, 0, none⟩) 1 1] W fun e w' => ∃ v', e = .returned v' ∧ Kd.R k50 50 w' base (fun _ => True) v' (l.take k ++ ⟨s0, s1⟩ :: l.drop k) ∧ Below base W w' := by
  obtain ⟨inner, ho, hr⟩ := own_of_R hR
  refine (insert_calls v l.length k vb base inner s0 s1 W ho hk hl (reps_one' hr) hvb hne hB).mono ?_
  rintro e w' ⟨v', rfl, hown, hbl⟩
  refine ⟨_, rfl, ?_, hbl⟩
  have hlen : (l.take k ++ ⟨s0, s1⟩ :: l.drop k).length = l.length + 1 := by rw [List.length_append, List.length_cons, List.length_take, List.length_drop]; omega
  have h1 : Reps (k50.K W) 2 [(⟨s0, s1⟩ : S50)] [.string s0, .string s1] := reps_one (k50_mk W ⟨s0, s1⟩) rfl
  have h2 := reps_append (reps_append (reps_take hr k hk) h1) (reps_drop hr k)
  rw [List.append_assoc, List.singleton_append] at h2
  exact own_R (by rw [hlen]; exact hown) h2
/-- The second half of an element is written. -/
theorem set_R {W : World} {base g off c k : Nat} {ok : Nat → Prop} {u : ByteArray} {l : List S50} (hR : Kd.R k50 50 W base ok (.slice (some ⟨g, off, none⟩) l.length c) l) (hk : k < l.length) :
    Kd.R k50 50 (W.setCell ⟨g, off + k * 2 + 1, none⟩ (.string u)) base (fun _ => True) (.slice (some ⟨g, off, none⟩) l.length c) (l.set k ⟨(l.getD k z50).f0, u⟩) ∧ base ≤ g ∧ W.frozen? ⟨g, off + k * 2 + 1, none⟩ = false ∧ ∃ x, W.cell? ⟨g, off + k * 2 + 1, none⟩ = some x := by
  obtain ⟨inner, ho, hr⟩ := own_of_R hR
  obtain ⟨g', cap, cur, e, hb, hh, hc, hm, hs, ht⟩ := own_at ho (by omega)
  injection e with e1 _ e3
  injection e1 with e1
  injection e1 with e1 e2 _
  subst e1
  subst e2
  subst e3
  have hkc : k * 2 + 1 < cur.size := by omega
  refine ⟨?_, hb, by simp [World.frozen?, hh], ⟨_, by simp only [Nat.zero_add]; rw [cell_of_row W g _ cur _ (0, 0) hh]; exact Array.getElem?_eq_getElem hkc⟩⟩
  rw [Nat.zero_add, setCell_eq_setRow W g (k * 2 + 1) cur _ (0, 0) _ hh]
  have hil := ho.1
  have e0 : l.getD k z50 = l[k] := by simp [List.getD, List.getElem?_eq_getElem hk]
  have hk1 := k50_open (hr.2 k _ (List.getElem?_eq_getElem hk))
  have hset : inner.set (k * 2 + 1) (.string u) = inner.take (k * 2) ++ [.string l[k].f0, .string u] ++ inner.drop ((k + 1) * 2) := by
    apply List.ext_getElem?
    intro j
    have hin : ∀ i, i < 2 → inner[k * 2 + i]? = ([.string l[k].f0, .string l[k].f1] : List Value)[i]? := fun i hi => by
      rw [← hk1, List.getElem?_take, if_pos hi, List.getElem?_drop]
    rw [List.getElem?_set, List.append_assoc]
    rcases Nat.lt_or_ge j (k * 2) with h | h
    · rw [if_neg (by omega), List.getElem?_append_left (by rw [List.length_take]; omega), List.getElem?_take, if_pos h]
    · rw [List.getElem?_append_right (by rw [List.length_take]; omega), List.length_take, Nat.min_eq_left (by omega)]
      rcases Nat.lt_or_ge j ((k + 1) * 2) with h' | h'
      · obtain rfl | rfl : j = k * 2 ∨ j = k * 2 + 1 := by omega
        · have := hin 0 (by omega)
          rw [if_neg (by omega), Nat.sub_self]
          simpa using this
        · rw [if_pos rfl, if_pos (by omega)]
          simp
      · rw [if_neg (by omega), List.getElem?_append_right (by simp; omega), List.getElem?_drop]
        congr 1
        simp
        omega
  refine own_R (cs := inner.set (k * 2 + 1) (.string u)) (w' := W) ⟨by rw [List.length_set, List.length_set]; exact ho.1, .inr ⟨g, c, _, by rw [List.length_set], hb, setRow_heap W g cur _ _ _ hh, by rw [List.length_set]; exact hc, by simpa [maxLen] using hm, by simp [hs], ?_⟩⟩ ?_
  · rw [List.length_set, Array.toList_setIfInBounds, List.take_set, ht]
  · have h1 : Reps (k50.K W) 2 [(⟨l[k].f0, u⟩ : S50)] [.string l[k].f0, .string u] := reps_one (k50_mk W ⟨l[k].f0, u⟩) rfl
    have h2 := reps_append (reps_append (reps_take hr k (by omega)) h1) (reps_drop hr (k + 1))
    rw [hset, e0, List.set_eq_take_append_cons_drop, if_pos hk]
    rw [List.append_assoc, List.singleton_append] at h2
    exact h2

def dropN (l : List S50) (a : ByteArray) : List S50 × Int := if fdB l a = true then (l.take (lbN l a) ++ l.drop (lbN l a + 1), 0) else (l, 5)
-- EXT loop.example/g00298/impl.drop impl_drop 1 0
def impl_drop.f (l0 : List S50) (a1 : ByteArray) : Option (List S50 × Int) := if l0.length < 4398046511104 then some (dropN l0 a1) else none
set_option maxHeartbeats 4000000 in
set_option maxRecDepth 100000 in
theorem impl_drop.calls (A0 : Option Addr) (c0 : Nat) (l0 : List S50) (a1 : ByteArray) (r1 : List S50) (r2 : Int) (w : World) (hr0 : Kd.C k50 w A0 l0.length l0) (hc0 : l0.length ≤ c0) (h : impl_drop.f l0 a1 = some (r1, r2)) :
    Calls Try.prog 64 #[.slice A0 l0.length c0, .string a1] w fun e w' => ∃ v0_ : Value, e = .returned (.tuple #[v0_, .int .i64 r2]) ∧ Kd.R k50 50 w' w.heap.size (fun _ => True) v0_ r1 ∧ Below w.heap.size w w' := by
  unfold impl_drop.f at h
  by_cases hlt : l0.length < 4398046511104
  · rw [if_pos hlt] at h
    injection h with h
    have HCL := clone_calls A0 c0 l0 w hr0 (by omega)
    have hle := lbF_le l0 a1 l0.length 0 l0.length (Nat.zero_le _)
    have hfd : fdB l0 a1 = true → lbN l0 a1 < l0.length := fun hh => by
      unfold fdB at hh
      rw [Bool.and_eq_true] at hh
      exact of_decide_eq_true hh.1
    have HPA : ∀ A c W, Kd.C k50 W A l0.length l0 → l0.length ≤ c → Calls Try.prog 86 #[.slice A l0.length c, .string a1] W fun e w' => e = .returned (.tuple #[.int .i64 ((lbN l0 a1 : Nat) : Int), .bool (fdB l0 a1)]) ∧ Below W.heap.size W w' := fun A c W hC hc => impl_pairAt.calls A c l0 a1 _ _ W hC hc rfl
    unfold dropN at h
    clear hr0 hc0
    cases hq : fdB l0 a1 with
    | true =>
      rw [hq, if_pos rfl] at h
      rw [hq] at HPA
      have hk := hfd hq
      clear hfd hq hle
      generalize lbN l0 a1 = k at hk h HPA
      have hr1 : l0.take k ++ l0.drop (k + 1) = r1 := congrArg Prod.fst h
      have hr2 : (0 : Int) = r2 := congrArg Prod.snd h
      clear h
      have H1 := Aside0.mk hr1
      clear hr1
      subst hr2
      have HP := Aside0.mk HPA
      clear HPA
      generalize hn : l0.length = n at hlt hk HCL HP
      have HN := Aside0.mk hn
      clear hn
      have hk0 : (0 : Int) ≤ (k : Int) := by omega
      have hkn : (k : Int) + 1 ≤ 9223372036854775807 := by omega
      go_enter Try.func64, Try.ntmps64
      go_wp2_with (first
        | (go_at_call 87; refine HCL.mono ?_; rintro e w1 ⟨v, rfl, hR, hb1⟩; have HR := Aside0.mk hR; have HB1 := Aside0.mk hb1; obtain ⟨A1, c1, rfl, hl1, hC1⟩ := Kd.R_reads hR; rw [HN.out] at hl1 hC1 ⊢; have HC1 := Aside0.mk hC1; clear hR hb1 hC1)
        | (go_at_call 86; refine (HP.out _ _ _ HC1.out hl1).mono ?_; rintro e w2 ⟨rfl, hb2⟩; have HB2 := Aside0.mk hb2; clear hb2)
        | (go_at_call 88; have DL := delete_R (Kd.R_below HR.out HB2.out) (k := k) (by rw [HN.out]; exact hk); rw [HN.out] at DL; refine DL.mono ?_; rintro e w3 ⟨v3, rfl, hR3, hb3⟩; have HR3 := Aside0.mk hR3; have HB3 := Aside0.mk hb3; clear DL hR3 hb3))
      go_ret2
      exact ⟨_, rfl, by rw [← H1.out]; exact HR3.out, (HB1.out.trans (HB2.out.mono HB1.out.size)).trans HB3.out⟩
    | false =>
      rw [hq, if_neg (by simp)] at h
      rw [hq] at HPA
      clear hfd hq hle
      generalize lbN l0 a1 = k at HPA
      have hr1 : l0 = r1 := congrArg Prod.fst h
      have hr2 : (5 : Int) = r2 := congrArg Prod.snd h
      clear h
      subst hr1
      subst hr2
      have HP := Aside0.mk HPA
      clear HPA
      generalize hn : l0.length = n at hlt HCL HP
      have HN := Aside0.mk hn
      clear hn
      go_enter Try.func64, Try.ntmps64
      go_wp2_with (first
        | (go_at_call 87; refine HCL.mono ?_; rintro e w1 ⟨v, rfl, hR, hb1⟩; have HR := Aside0.mk hR; have HB1 := Aside0.mk hb1; obtain ⟨A1, c1, rfl, hl1, hC1⟩ := Kd.R_reads hR; rw [HN.out] at hl1 hC1 ⊢; have HC1 := Aside0.mk hC1; clear hR hb1 hC1)
        | (go_at_call 86; refine (HP.out _ _ _ HC1.out hl1).mono ?_; rintro e w2 ⟨rfl, hb2⟩; have HB2 := Aside0.mk hb2; clear hb2))
      go_ret2
      exact ⟨_, rfl, by rw [← HN.out]; exact Kd.R_below HR.out HB2.out, HB1.out.trans (HB2.out.mono HB1.out.size)⟩
  · rw [if_neg hlt] at h
    cases h
theorem first_R {W : World} {base c : Nat} {ok : Nat → Prop} {A : Option Addr} {l : List S50} (hR : Kd.R k50 50 W base ok (.slice A l.length c) l) (hk : 0 < l.length) : ∃ g, A = some ⟨g, 0, none⟩ := by
  obtain ⟨inner, ho, hr⟩ := own_of_R hR
  obtain ⟨g, cap, cur, e, _⟩ := own_at ho hk
  injection e with e1
  exact ⟨g, e1⟩
def putN (l : List S50) (a v : ByteArray) : List S50 × Int := if fdB l a = true then (l.set (lbN l a) ⟨(l.getD (lbN l a) z50).f0, v⟩, 0) else if l.length = 400 then (l, 7) else (l.take (lbN l a) ++ ⟨a, v⟩ :: l.drop (lbN l a), 0)
-- EXT loop.example/g00298/impl.put impl_put 1 0
def impl_put.f (l0 : List S50) (a1 a2 : ByteArray) : Option (List S50 × Int) := if l0.length < 4398046511104 then some (putN l0 a1 a2) else none
set_option maxHeartbeats 8000000 in
set_option maxRecDepth 100000 in
theorem impl_put.calls (A0 : Option Addr) (c0 : Nat) (l0 : List S50) (a1 a2 : ByteArray) (r1 : List S50) (r2 : Int) (w : World) (hr0 : Kd.C k50 w A0 l0.length l0) (hc0 : l0.length ≤ c0) (h : impl_put.f l0 a1 a2 = some (r1, r2)) :
    Calls Try.prog 66 #[.slice A0 l0.length c0, .string a1, .string a2] w fun e w' => ∃ v0_ : Value, e = .returned (.tuple #[v0_, .int .i64 r2]) ∧ Kd.R k50 50 w' w.heap.size (fun _ => True) v0_ r1 ∧ Below w.heap.size w w' := by
  unfold impl_put.f at h
  by_cases hlt : l0.length < 4398046511104
  · rw [if_pos hlt] at h
    injection h with h
    have HCL := clone_calls A0 c0 l0 w hr0 (by omega)
    have hle : lbN l0 a1 ≤ l0.length := lbF_le l0 a1 l0.length 0 l0.length (Nat.zero_le _)
    have hfd : fdB l0 a1 = true → lbN l0 a1 < l0.length := fun hh => by
      unfold fdB at hh
      rw [Bool.and_eq_true] at hh
      exact of_decide_eq_true hh.1
    have HPA : ∀ A c W, Kd.C k50 W A l0.length l0 → l0.length ≤ c → Calls Try.prog 86 #[.slice A l0.length c, .string a1] W fun e w' => e = .returned (.tuple #[.int .i64 ((lbN l0 a1 : Nat) : Int), .bool (fdB l0 a1)]) ∧ Below W.heap.size W w' := fun A c W hC hc => impl_pairAt.calls A c l0 a1 _ _ W hC hc rfl
    have hu := Try.underlying25
    have hu2 := Try.underlying50
    unfold putN at h
    clear hr0 hc0
    cases hq : fdB l0 a1 with
    | true =>
      rw [hq, if_pos rfl] at h
      rw [hq] at HPA
      have hk := hfd hq
      clear hfd hq hle
      generalize lbN l0 a1 = k at hk h HPA
      have hr1 : l0.set k ⟨(l0.getD k z50).f0, a2⟩ = r1 := congrArg Prod.fst h
      have hr2 : (0 : Int) = r2 := congrArg Prod.snd h
      clear h
      have H1 := Aside0.mk hr1
      clear hr1
      subst hr2
      have HP := Aside0.mk HPA
      clear HPA
      have HSR := Aside0.mk (fun (W : World) (base g c : Nat) (ok : Nat → Prop) (hR : Kd.R k50 50 W base ok (.slice (some ⟨g, 0, none⟩) l0.length c) l0) => set_R (u := a2) hR hk)
      have HFR := Aside0.mk (fun (W : World) (base c : Nat) (ok : Nat → Prop) (A : Option Addr) (hR : Kd.R k50 50 W base ok (.slice A l0.length c) l0) => first_R hR (by omega))
      generalize hn : l0.length = n at hlt hk HCL HP
      have HN := Aside0.mk hn
      clear hn
      have hk0 : (0 : Int) ≤ (k : Int) := by omega
      have hkn : (k : Int) < (n : Int) := by omega
      go_enter Try.func66, Try.ntmps66
      go_wp2_with (first
        | (go_at_call 87; refine HCL.mono ?_; rintro e w1 ⟨v, rfl, hR, hb1⟩; have HB1 := Aside0.mk hb1; obtain ⟨A1, c1, rfl, hl1, hC1⟩ := Kd.R_reads hR; obtain ⟨g, rfl⟩ := HFR.out _ _ _ _ _ hR; have HR := Aside0.mk hR; rw [HN.out] at hl1 hC1 ⊢; have HC1 := Aside0.mk hC1; clear hR hb1 hC1)
        | (go_at_call 86; refine (HP.out _ _ _ HC1.out hl1).mono ?_; rintro e w2 ⟨rfl, hb2⟩; have HB2 := Aside0.mk hb2; clear hb2; obtain ⟨hS, hbg, hfz, x, hx⟩ := HSR.out _ _ _ _ _ (Kd.R_below HR.out HB2.out); simp only [Nat.zero_add] at hS hfz hx; have HS := Aside0.mk hS; have HBG := Aside0.mk hbg; clear hS hbg))
      go_ret2
      exact ⟨_, rfl, by rw [← H1.out, ← HN.out]; exact HS.out, Below.setCell (HB1.out.trans (HB2.out.mono HB1.out.size)) HBG.out _⟩
    | false =>
      rw [hq, if_neg (by simp)] at h
      rw [hq] at HPA
      clear hfd hq
      generalize lbN l0 a1 = k at hle h HPA
      by_cases hfull : l0.length = 400
      · rw [if_pos hfull] at h
        have hr1 : l0 = r1 := congrArg Prod.fst h
        have hr2 : (7 : Int) = r2 := congrArg Prod.snd h
        clear h hle
        subst hr1
        subst hr2
        have HP := Aside0.mk HPA
        clear HPA
        generalize hn : l0.length = n at hlt HCL HP hfull
        have HN := Aside0.mk hn
        clear hn
        subst hfull
        go_enter Try.func66, Try.ntmps66
        go_wp2_with (first
          | (go_at_call 87; refine HCL.mono ?_; rintro e w1 ⟨v, rfl, hR, hb1⟩; have HR := Aside0.mk hR; have HB1 := Aside0.mk hb1; obtain ⟨A1, c1, rfl, hl1, hC1⟩ := Kd.R_reads hR; rw [HN.out] at hl1 hC1 ⊢; have HC1 := Aside0.mk hC1; clear hR hb1 hC1)
          | (go_at_call 86; refine (HP.out _ _ _ HC1.out hl1).mono ?_; rintro e w2 ⟨rfl, hb2⟩; have HB2 := Aside0.mk hb2; clear hb2))
        go_ret2
        exact ⟨_, rfl, by rw [← HN.out]; exact Kd.R_below HR.out HB2.out, HB1.out.trans (HB2.out.mono HB1.out.size)⟩
      · rw [if_neg hfull] at h
        have hr1 : l0.take k ++ ⟨a1, a2⟩ :: l0.drop k = r1 := congrArg Prod.fst h
        have hr2 : (0 : Int) = r2 := congrArg Prod.snd h
        clear h
        have H1 := Aside0.mk hr1
        clear hr1
        subst hr2
        have HP := Aside0.mk HPA
        clear HPA
        have HIR := Aside0.mk (fun (W : World) (base vb : Nat) (ok : Nat → Prop) (v : Value) (hR : Kd.R k50 50 W base ok v l0) => insert_R (s0 := a1) (s1 := a2) (vb := vb) hR hle (by omega))
        generalize hn : l0.length = n at hlt hle HCL HP hfull
        have HN := Aside0.mk hn
        clear hn
        have hk0 : (0 : Int) ≤ (k : Int) := by omega
        have hkn : (k : Int) ≤ (n : Int) := by omega
        have hf2 : ((n : Int) == 400) = false := by simp; omega
        clear hfull
        go_enter Try.func66, Try.ntmps66
        go_wp2_with (first
          | (go_at_call 87; refine HCL.mono ?_; rintro e w1 ⟨v, rfl, hR, hb1⟩; have HR := Aside0.mk hR; have HB1 := Aside0.mk hb1; obtain ⟨A1, c1, rfl, hl1, hC1⟩ := Kd.R_reads hR; rw [HN.out] at hl1 hC1 ⊢; have HC1 := Aside0.mk hC1; clear hR hb1 hC1)
          | (go_at_call 86; refine (HP.out _ _ _ HC1.out hl1).mono ?_; rintro e w2 ⟨rfl, hb2⟩; have HB2 := Aside0.mk hb2; clear hb2)
          | (go_at_call 89; have hRa := Kd.R_alloc (Kd.R_below HR.out HB2.out) (.cells #[.string a1, .string a2] 50); have HIN := HIR.out _ _ w2.heap.size _ _ hRa (heap_alloc_new w2 _) (by intro e; have := own_lt (own_of_R (Kd.R_below HR.out HB2.out)).choose_spec.1 _ e; omega) (by have := HB1.out.size; have := HB2.out.size; simp; omega); rw [HN.out] at HIN; refine HIN.mono ?_; rintro e w3 ⟨v3, rfl, hR3, hb3⟩; have HR3 := Aside0.mk hR3; have HB3 := Aside0.mk hb3; clear HIN hRa hR3 hb3))
        go_ret2
        exact ⟨_, rfl, by rw [← H1.out]; exact HR3.out, (Below.alloc (HB1.out.trans (HB2.out.mono HB1.out.size)) (by have := HB1.out.size; have := HB2.out.size; omega) _).trans HB3.out⟩
  · rw [if_neg hlt] at h
    cases h
end Go.Proofs.Ytifkdlcalkccaaa.S
