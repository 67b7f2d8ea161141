/- A statement of (KeyProof).leads whose operations come up in any order. -/
import Derived.Test.YtjmfkhjhhohnkaaQ4
import Derived.Test.YtjmfkhjhhohnkaaE26
import Derived.Test.YtjmfkhjhhohnkaaEh
namespace Go.Proofs.Ytjmfkhjhhohnkaa.Q
open Go.RowKit Go.Shelf Go.Proofs.YtjmfkhjhhohnkaaW.PrintWords Go.Proofs.YtjmfkhjhhohnkaaW.PrintLast Go.Proofs.YtjmfkhjhhohnkaaW.PrintMore
open Go.Proofs.Ytjmfkhjhhohnkaa.T (ssha sha)
set_option linter.unusedVariables false
set_option linter.unusedSimpArgs false
/-- A text's box. -/
def bxS (w : World) (g : Nat) (s : ByteArray) : Prop := w.heap[g]? = some (.cells #[.string s] 9 (0, 0))
theorem bxS_cell {w : World} {g : Nat} {s : ByteArray} (h : bxS w g s) : w.cell? ⟨g, 0, none⟩ = some (.string s) := (blk_cell h 0).trans rfl
theorem bxS_frozen {w : World} {g : Nat} {s : ByteArray} (h : bxS w g s) : w.frozen? ⟨g, 0, none⟩ = false := blk_frozen h 0
theorem bxS_below {w w' : World} {g : Nat} {s : ByteArray} (h : bxS w g s) (hb : Below w.heap.size w w') : bxS w' g s := blk_below h hb
theorem bxS_lt {w : World} {g : Nat} {s : ByteArray} (h : bxS w g s) : g < w.heap.size := blk_lt h
def leads.T3 : Bool × List (List Nat × List Nat) := (true, [([], []), ([0], [0]), ([], []), ([2], [2]), ([3], [3]), ([1, 4], [1, 4]), ([5, 4], [5]), ([6, 6, 0, 1, 2, 3, 4, 5, 6], [6])])
def leads.B3 : List Nat := [0, 1, 0, 4, 12, 31, 63, 127]
theorem leads.tab3 : rtab .any (opsOf Try.f66 3) = leads.T3 := by kernel_rfl
theorem leads.bits3 : waitsOk leads.T3.2 leads.B3 = true := by kernel_rfl
set_option maxHeartbeats 16000000 in
set_option maxRecDepth 100000 in
theorem leads_r3 {Q : Exit → Act → World → Prop} (u0 u1 u2 u4 u5 u6 u9 u10 u11 u12 u13 u14 u15 u16 u17 u18 u19 u20 u21 u22 u23 u24 u25 u26 u27 u28 u29 u30 u31 u32 u33 u34 u35 u36 u37 u38 u39 u40 u41 u42 u43 u44 u45 u46 u47 u48 u49 u50 u51 u52 u53 u54 u55 u56 u57 u58 u59 u60 u61 u62 u63 u64 u65 u66 u67 u68 u69 : Value) (g gp : Nat) (path value v h emp : ByteArray) (wr : World) (c0 : wr.cell? ⟨gp, 0, none⟩ = some (.string path)) (c1 : wr.cell? ⟨g, 1, none⟩ = some (.string value)) (HO : Aside0 (bxS wr (gp + 1) emp)) (hz1 : (9223372036854775807 < 4 + path.size) = False) (hz2 : (9223372036854775807 < 4 + path.size + v.size) = False) (HVC : Aside0 (∀ W, Calls Try.prog 89 #[.string value] W fun e w' => e = .returned (.string v) ∧ Below W.heap.size W w')) (HHC : Aside0 (∀ W, Calls Try.prog 38 #[.string (⟨#[108, 101, 97, 102]⟩ ++ path ++ v)] W fun e w' => e = .returned (.string h) ∧ Below W.heap.size W w'))
    (hpan : ∀ c a t v w, Q (.panic c) (Act.put a (some t) v) w → Q (.panic c) a w) (hQ : Aside0 (∀ (v18 v19 v20 v21 v22 v23 v24 : Value) (w' : World), (∃ w6, Below wr.heap.size wr w6 ∧ w' = w6.setCell ⟨gp + 1, 0, none⟩ (.string h)) → Q .normal ⟨List.toArray (u0 :: u1 :: u2 :: .pointer (some ⟨g, 0, none⟩) :: u4 :: u5 :: u6 :: .pointer (some ⟨gp, 0, none⟩) :: .pointer (some ⟨(gp + 1), 0, none⟩) :: u9 :: u10 :: u11 :: u12 :: u13 :: u14 :: u15 :: u16 :: u17 :: v18 :: v19 :: v20 :: v21 :: v22 :: v23 :: v24 :: u25 :: u26 :: u27 :: u28 :: u29 :: u30 :: u31 :: u32 :: u33 :: u34 :: u35 :: u36 :: u37 :: u38 :: u39 :: u40 :: u41 :: u42 :: u43 :: u44 :: u45 :: u46 :: u47 :: u48 :: u49 :: u50 :: u51 :: u52 :: u53 :: u54 :: u55 :: u56 :: u57 :: u58 :: u59 :: u60 :: u61 :: u62 :: u63 :: u64 :: u65 :: u66 :: u67 :: u68 :: u69 :: []), []⟩ w')) :
    Code.wp Try.prog (Code.region 3 (opsOf Try.f66 3) true) Q ⟨List.toArray (u0 :: u1 :: u2 :: .pointer (some ⟨g, 0, none⟩) :: u4 :: u5 :: u6 :: .pointer (some ⟨gp, 0, none⟩) :: .pointer (some ⟨(gp + 1), 0, none⟩) :: u9 :: u10 :: u11 :: u12 :: u13 :: u14 :: u15 :: u16 :: u17 :: u18 :: u19 :: u20 :: u21 :: u22 :: u23 :: u24 :: u25 :: u26 :: u27 :: u28 :: u29 :: u30 :: u31 :: u32 :: u33 :: u34 :: u35 :: u36 :: u37 :: u38 :: u39 :: u40 :: u41 :: u42 :: u43 :: u44 :: u45 :: u46 :: u47 :: u48 :: u49 :: u50 :: u51 :: u52 :: u53 :: u54 :: u55 :: u56 :: u57 :: u58 :: u59 :: u60 :: u61 :: u62 :: u63 :: u64 :: u65 :: u66 :: u67 :: u68 :: u69 :: []), []⟩ wr := by
  conv => arg 2; arg 2; whnf
  refine start_ (n := 8) (S := fun w' => w'.cell? ⟨gp, 0, none⟩ = some (.string path) ∧ w'.cell? ⟨g, 1, none⟩ = some (.string value)) (ds := [7]) #[false, false, false, false, false, false, false, false] (by kernel_rfl) rfl rfl ⟨c0, c1⟩ (fun hHeld => ?_)
  refine with_tabW leads.tab3 leads.bits3 (fun HT_ HW_ => ?_)
  refine pure_ (i := 2) (N := some 20) (v := ?_) (a' := ?_) #[false, false, true, false, false, false, false, false] rfl rfl (any_of HT_.out (by kernel_rfl)) (fun _ _ _ h => hpan _ _ _ _ _ h) (Or.inl ⟨by rfl, ?_⟩) ?_ ?_
  rotate_left
  · intro w'
    go_simp
    with_reducible rfl
  rotate_left
  · simp only [Act.put, List.setIfInBounds_toArray, List.set_cons_zero, List.set_cons_succ, i64_w, i32_w]
    rfl
  refine take_ (i := 0) (N := some 18) (v := ?_) (a' := ?_) #[true, false, true, false, false, false, false, false] rfl rfl (take_ofW HT_.out HW_.out (by kernel_rfl)) (fun _ _ _ h => hpan _ _ _ _ _ h) (Or.inl ⟨by rfl, ?_⟩) hHeld ?_ ?_
  rotate_left
  · rintro w' ⟨s0, s1⟩
    go_simp
    with_reducible rfl
  rotate_left
  · simp only [Act.put, List.setIfInBounds_toArray, List.set_cons_zero, List.set_cons_succ, i64_w, i32_w]
    rfl
  refine pure_ (i := 1) (N := some 19) (v := ?_) (a' := ?_) #[true, true, true, false, false, false, false, false] rfl rfl (any_of HT_.out (by kernel_rfl)) (fun _ _ _ h => hpan _ _ _ _ _ h) (Or.inl ⟨by rfl, ?_⟩) ?_ ?_
  rotate_left
  · intro w'
    go_simp
    with_reducible rfl
  rotate_left
  · simp only [Act.put, List.setIfInBounds_toArray, List.set_cons_zero, List.set_cons_succ, i64_w, i32_w]
    rfl
  refine take_ (i := 3) (N := some 21) (v := ?_) (a' := ?_) #[true, true, true, true, false, false, false, false] rfl rfl (take_ofW HT_.out HW_.out (by kernel_rfl)) (fun _ _ _ h => hpan _ _ _ _ _ h) (Or.inl ⟨by rfl, ?_⟩) hHeld ?_ ?_
  rotate_left
  · rintro w' ⟨s0, s1⟩
    go_simp
    with_reducible rfl
  rotate_left
  · simp only [Act.put, List.setIfInBounds_toArray, List.set_cons_zero, List.set_cons_succ, i64_w, i32_w]
    rfl
  refine one_ (i := 4) (N := some 22) #[true, true, true, true, true, false, false, false] rfl rfl (one_of HT_.out (by kernel_rfl)) (by decide) (fun K hK => ?_)
  refine goes_ Try.func89 (by kernel_rfl) rfl #[.string value] (by rfl) rfl rfl (by simp only [List.map_toArray, List.map_cons, List.map_nil]; rfl) ?_
  refine (HVC.out _).mono ?_
  rintro e_ w5 ⟨rfl, b5⟩
  refine ⟨_, rfl, ?_⟩
  refine hK.out _ _ ⟨(b5.cell (World.block_lt_of_cell? _ _ hHeld.1)).trans hHeld.1, (b5.cell (World.block_lt_of_cell? _ _ hHeld.2)).trans hHeld.2⟩ (fun hHeld => ?_)
  clear hK K
  refine norm_ (a' := ?_) ?_ ?_
  rotate_left
  · show Act.put _ (some 22) _ = _
    simp only [Act.put, List.setIfInBounds_toArray, List.set_cons_zero, List.set_cons_succ, i64_w, i32_w]
    rfl
  refine pure_ (i := 5) (N := some 23) (v := ?_) (a' := ?_) #[true, true, true, true, true, true, false, false] rfl rfl (any_of HT_.out (by kernel_rfl)) (fun _ _ _ h => hpan _ _ _ _ _ h) (Or.inl ⟨by rfl, ?_⟩) ?_ ?_
  rotate_left
  · intro w'
    go_simp
    with_reducible rfl
  rotate_left
  · simp only [Act.put, List.setIfInBounds_toArray, List.set_cons_zero, List.set_cons_succ, i64_w, i32_w]
    rfl
  refine one_ (i := 6) (N := some 24) #[true, true, true, true, true, true, true, false] rfl rfl (one_of HT_.out (by kernel_rfl)) (by decide) (fun K hK => ?_)
  refine goes_ Try.func38 (by kernel_rfl) rfl #[.string (⟨#[108, 101, 97, 102]⟩ ++ path ++ v)] (by rfl) rfl rfl (by simp only [List.map_toArray, List.map_cons, List.map_nil]; rfl) ?_
  refine (HHC.out _).mono ?_
  rintro e_ w6 ⟨rfl, b6⟩
  refine ⟨_, rfl, ?_⟩
  refine hK.out _ _ ⟨(b6.cell (World.block_lt_of_cell? _ _ hHeld.1)).trans hHeld.1, (b6.cell (World.block_lt_of_cell? _ _ hHeld.2)).trans hHeld.2⟩ (fun hHeld => ?_)
  clear hK K
  refine norm_ (a' := ?_) ?_ ?_
  rotate_left
  · show Act.put _ (some 24) _ = _
    simp only [Act.put, List.setIfInBounds_toArray, List.set_cons_zero, List.set_cons_succ, i64_w, i32_w]
    rfl
  refine last_ (i := 7) (N := none) #[true, true, true, true, true, true, true, true] rfl rfl (one_of HT_.out (by kernel_rfl)) (by decide) (fun K hK => ?_)
  have O6 := Aside0.mk (bxS_below (bxS_below (show bxS wr.drew (gp + 1) emp from HO.out) b5) b6)
  have cO := bxS_cell O6.out
  have fO := bxS_frozen O6.out
  refine skip_ (w1 := ?_) (by rfl) rfl ?_ ?_
  rotate_left
  · go_simp
    rfl
  refine hK.out _ _ ?_
  clear hK K
  refine done_ (done_of HT_.out (by kernel_rfl)) ?_

  refine hQ.out _ _ _ _ _ _ _ _ ?_
  exact ⟨w6, below_step (below_step (below_drew1 (Below.refl wr.heap.size wr)) b5) b6, rfl⟩
end Go.Proofs.Ytjmfkhjhhohnkaa.Q
