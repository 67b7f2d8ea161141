/- impl.blockHash: the eight words behind a block of 64 bytes. (Its drawing regions were printed by wip/gen/gen_bh.py over the kit's regions.py.) -/
import Derived.Test.YtjmfkhjhhohnkaaT1
import Derived.Test.YtjmfkhjhhohnkaaWo
namespace Go.Proofs.Ytjmfkhjhhohnkaa.T
open Go.RowKit Go.Proofs.YtjmfkhjhhohnkaaW.PrintWords Go.Proofs.YtjmfkhjhhohnkaaW.PrintLast Go.Proofs.YtjmfkhjhhohnkaaW.PrintMore Go.Proofs.Ytjmfkhjhhohnkaa.Ar
set_option linter.unusedVariables false
set_option linter.unusedSimpArgs false
def tn (x : Int) (n : Int) : Int := (impl_turned.f x n).getD 0
theorem turned_6 (x : Int) : impl_turned.f x 6 = some (tn x 6) := by
  unfold tn impl_turned.f bits_RotateLeft32.f
  rw [if_pos (by decide +kernel), if_pos (by decide +kernel)]
  rfl
theorem turned_11 (x : Int) : impl_turned.f x 11 = some (tn x 11) := by
  unfold tn impl_turned.f bits_RotateLeft32.f
  rw [if_pos (by decide +kernel), if_pos (by decide +kernel)]
  rfl
theorem turned_25 (x : Int) : impl_turned.f x 25 = some (tn x 25) := by
  unfold tn impl_turned.f bits_RotateLeft32.f
  rw [if_pos (by decide +kernel), if_pos (by decide +kernel)]
  rfl
theorem turned_2 (x : Int) : impl_turned.f x 2 = some (tn x 2) := by
  unfold tn impl_turned.f bits_RotateLeft32.f
  rw [if_pos (by decide +kernel), if_pos (by decide +kernel)]
  rfl
theorem turned_13 (x : Int) : impl_turned.f x 13 = some (tn x 13) := by
  unfold tn impl_turned.f bits_RotateLeft32.f
  rw [if_pos (by decide +kernel), if_pos (by decide +kernel)]
  rfl
theorem turned_22 (x : Int) : impl_turned.f x 22 = some (tn x 22) := by
  unfold tn impl_turned.f bits_RotateLeft32.f
  rw [if_pos (by decide +kernel), if_pos (by decide +kernel)]
  rfl
/-- What comes in at a round's head, and the other sum. -/
def pp (e f g h k w : Int) : Int := (h + Go.bits .xor .u32 (Go.bits .xor .u32 (tn e 6) (tn e 11)) (tn e 25) + Go.bits .or .u32 (Go.bits .and .u32 e f) (Go.bits .and .u32 (Go.bits .xor .u32 IntKind.u32.max e) g) + k + w) % 4294967296
def qq (a b c : Int) : Int := (Go.bits .xor .u32 (Go.bits .xor .u32 (tn a 2) (tn a 13)) (tn a 22) + Go.bits .or .u32 (Go.bits .or .u32 (Go.bits .and .u32 a b) (Go.bits .and .u32 a c)) (Go.bits .and .u32 b c)) % 4294967296
def rnd (K W v : List Int) (x : Int) : List Int :=
  [(pp (rd v 4) (rd v 5) (rd v 6) (rd v 7) (rd K x) (rd W x) + qq (rd v 0) (rd v 1) (rd v 2)) % 4294967296, rd v 0, rd v 1, rd v 2, (rd v 3 + pp (rd v 4) (rd v 5) (rd v 6) (rd v 7) (rd K x) (rd W x)) % 4294967296, rd v 4, rd v 5, rd v 6]
def vl (K W v : List Int) : Nat → List Int
  | 0 => v
  | i + 1 => rnd K W (vl K W v i) i
theorem vl_len (K W v : List Int) (h : v.length = 8) : ∀ i, (vl K W v i).length = 8
  | 0 => h
  | i + 1 => rfl
theorem vl_up (K W v : List Int) {x : Int} (h : 0 ≤ x) : vl K W v (x + 1).toNat = rnd K W (vl K W v x.toNat) x := by
  rw [show (x + 1).toNat = x.toNat + 1 by omega, vl, show ((x.toNat : Nat) : Int) = x by omega]
def al (V0 V : List Int) : Nat → List Int
  | 0 => V
  | i + 1 => (al V0 V i).set i ((rd (al V0 V i) i + rd V0 i) % 4294967296)
theorem al_len (V0 V : List Int) (h : V.length = 8) : ∀ i, (al V0 V i).length = 8
  | 0 => h
  | i + 1 => by rw [al, List.length_set]; exact al_len V0 V h i
theorem al_up (V0 V : List Int) {x : Int} (h : 0 ≤ x) : al V0 V (x + 1).toNat = (al V0 V x.toNat).set x.toNat ((rd (al V0 V x.toNat) x + rd V0 x) % 4294967296) := by
  rw [show (x + 1).toNat = x.toNat + 1 by omega, al, show ((x.toNat : Nat) : Int) = x by omega]
def impl_blockHash.T5 : Bool × List (List Nat × List Nat) := (true, [([], []), ([0], [0]), ([], []), ([2], [2]), ([], []), ([4], [4]), ([], []), ([6], [6]), ([], []), ([8], [8]), ([], []), ([10], [10]), ([1, 0, 1], [1]), ([3, 12, 0, 1, 2, 3, 12], [3]), ([5, 13, 0, 1, 2, 3, 4, 5, 12, 13], [5]), ([7, 14, 0, 1, 2, 3, 4, 5, 6, 7, 12, 13, 14], [7]), ([9, 15, 0, 1, 2, 3, 4, 5, 6, 7, 8, 9, 12, 13, 14, 15], [9]), ([11, 16, 0, 1, 2, 3, 4, 5, 6, 7, 8, 9, 10, 11, 12, 13, 14, 15, 16], [11])])
def impl_blockHash.B5 : List Nat := [0, 1, 0, 4, 0, 16, 0, 64, 0, 256, 0, 1024, 3, 4111, 12351, 28927, 62463, 131071]
theorem impl_blockHash.tab5 : rtab .any (opsOf Try.f74 5) = impl_blockHash.T5 := by kernel_rfl
theorem impl_blockHash.bits5 : waitsOk impl_blockHash.T5.2 impl_blockHash.B5 = true := by kernel_rfl
def impl_blockHash.T6 : Bool × List (List Nat × List Nat) := (true, [([], []), ([0], [0]), ([], []), ([2], [2]), ([], []), ([4, 3], [4]), ([3, 5], [3, 5]), ([], []), ([7, 5], [7]), ([6, 8], [6, 8]), ([1, 9], [1, 9]), ([], []), ([], []), ([11, 12], [11, 12]), ([], []), ([14], [14]), ([], []), ([15, 16], [15, 16]), ([13, 17], [13, 17]), ([10, 18], [10, 18]), ([], []), ([20], [20]), ([21], [21]), ([19, 22], [19, 22]), ([], []), ([24], [24]), ([25], [25]), ([23, 26], [23, 26]), ([27, 8, 0, 1, 2, 3, 4, 5, 6, 7, 8, 9, 10, 11, 12, 13, 14, 15, 16, 17, 18, 19, 20, 21, 22, 23, 24, 25, 26, 27], [27])])
def impl_blockHash.B6 : List Nat := [0, 1, 0, 4, 0, 28, 60, 0, 188, 508, 1023, 0, 0, 6144, 0, 16384, 0, 114688, 260096, 524287, 0, 1048576, 3145728, 8388607, 0, 16777216, 50331648, 134217727, 268435455]
theorem impl_blockHash.tab6 : rtab .any (opsOf Try.f74 6) = impl_blockHash.T6 := by kernel_rfl
theorem impl_blockHash.bits6 : waitsOk impl_blockHash.T6.2 impl_blockHash.B6 = true := by kernel_rfl
def blk (V0 K : List Int) (s : ByteArray) : List Int := al V0 (vl K (wl s 64) V0 64) 8
theorem built8 (y0 y1 y2 y3 y4 y5 y6 y7 : Int) : Try.prog.built 96 [(0, .int .u32 y0), (1, .int .u32 y1), (2, .int .u32 y2), (3, .int .u32 y3), (4, .int .u32 y4), (5, .int .u32 y5), (6, .int .u32 y6), (7, .int .u32 y7)] = some (cl [y0, y1, y2, y3, y4, y5, y6, y7]) := by kernel_rfl
set_option maxHeartbeats 16000000 in
set_option maxRecDepth 100000 in
theorem blockHash_r1 {Q : Exit → Act → World → Prop} (u0 u1 u4 u5 u6 u7 u8 u9 u10 u11 u12 u13 u14 u15 u16 u17 u18 u19 u20 u21 u22 u23 u24 u25 u26 u27 u28 u29 u30 u31 u32 u33 u34 u35 u36 u37 u38 u39 u40 u41 u42 u43 u44 u45 u46 u47 u48 u49 u50 u51 u52 u53 u54 u55 u56 u57 u58 u59 u60 u61 u62 u63 u64 u65 u66 u67 u68 u69 u70 u71 u72 u73 u74 u75 u76 u77 u78 u79 u80 u81 u82 u83 u84 u85 u86 u87 u88 u89 u90 u91 u92 u93 u94 u95 u96 u97 u98 u99 u100 u101 u102 u103 u104 u105 u106 u107 u108 u109 u110 u111 u112 : Value) (s : ByteArray) (g3 : Nat) (V0 Wl : List Int) (wr : World) (HG3 : Aside0 (Has wr.drew g3 96 V0)) (HV0 : Aside0 (V0.length = 8)) (HWL : Aside0 (Wl.length = 64)) (HWO : Aside0 (∀ W, Calls Try.prog 100 #[.string s] W fun e w' => e = .returned (.agg (cl Wl)) ∧ Below W.heap.size W w')) (wz : World) (HQW : Aside0 (wz = wr.drew))
    (hpan : ∀ c a t v w, Q (.panic c) (Act.put a (some t) v) w → Q (.panic c) a w) (hQ : Aside0 (∀ (v19 v20 v21 : Value) (w' : World) (g7 g8 : Nat), g7 ≠ g8 → wz.heap.size ≤ g7 → wz.heap.size ≤ g8 → Has w' g7 96 V0 → Has w' g8 98 Wl → Below wz.heap.size wz w' → Q .normal ⟨List.toArray (u0 :: u1 :: .string s :: .pointer (some ⟨g3, 0, none⟩) :: u4 :: u5 :: u6 :: .pointer (some ⟨g7, 0, none⟩) :: .pointer (some ⟨g8, 0, none⟩) :: u9 :: u10 :: u11 :: u12 :: u13 :: u14 :: u15 :: u16 :: u17 :: u18 :: v19 :: v20 :: v21 :: u22 :: u23 :: u24 :: u25 :: u26 :: u27 :: u28 :: u29 :: u30 :: u31 :: u32 :: u33 :: u34 :: u35 :: u36 :: u37 :: u38 :: u39 :: u40 :: u41 :: u42 :: u43 :: u44 :: u45 :: u46 :: u47 :: u48 :: u49 :: u50 :: u51 :: u52 :: u53 :: u54 :: u55 :: u56 :: u57 :: u58 :: u59 :: u60 :: u61 :: u62 :: u63 :: u64 :: u65 :: u66 :: u67 :: u68 :: u69 :: u70 :: u71 :: u72 :: u73 :: u74 :: u75 :: u76 :: u77 :: u78 :: u79 :: u80 :: u81 :: u82 :: u83 :: u84 :: u85 :: u86 :: u87 :: u88 :: u89 :: u90 :: u91 :: u92 :: u93 :: u94 :: u95 :: u96 :: u97 :: u98 :: u99 :: u100 :: u101 :: u102 :: u103 :: u104 :: u105 :: u106 :: u107 :: u108 :: u109 :: u110 :: u111 :: u112 :: []), []⟩ w')) :
    Code.wp Try.prog (Code.region 1 (opsOf Try.f74 1) true) Q ⟨List.toArray (u0 :: u1 :: .string s :: .pointer (some ⟨g3, 0, none⟩) :: u4 :: u5 :: u6 :: u7 :: u8 :: u9 :: u10 :: u11 :: u12 :: u13 :: u14 :: u15 :: u16 :: u17 :: u18 :: u19 :: u20 :: u21 :: u22 :: u23 :: u24 :: u25 :: u26 :: u27 :: u28 :: u29 :: u30 :: u31 :: u32 :: u33 :: u34 :: u35 :: u36 :: u37 :: u38 :: u39 :: u40 :: u41 :: u42 :: u43 :: u44 :: u45 :: u46 :: u47 :: u48 :: u49 :: u50 :: u51 :: u52 :: u53 :: u54 :: u55 :: u56 :: u57 :: u58 :: u59 :: u60 :: u61 :: u62 :: u63 :: u64 :: u65 :: u66 :: u67 :: u68 :: u69 :: u70 :: u71 :: u72 :: u73 :: u74 :: u75 :: u76 :: u77 :: u78 :: u79 :: u80 :: u81 :: u82 :: u83 :: u84 :: u85 :: u86 :: u87 :: u88 :: u89 :: u90 :: u91 :: u92 :: u93 :: u94 :: u95 :: u96 :: u97 :: u98 :: u99 :: u100 :: u101 :: u102 :: u103 :: u104 :: u105 :: u106 :: u107 :: u108 :: u109 :: u110 :: u111 :: u112 :: []), []⟩ wr := by
  conv => arg 2; arg 2; whnf
  refine start_ (n := 7) (S := fun w' => Has w' g3 96 V0) (ds := []) #[false, false, false, false, false, false, false] (by kernel_rfl) rfl rfl (HG3.out) (fun hHeld => ?_)
  generalize wr.drew = wq at HG3 HQW hHeld ⊢
  refine pure_ (i := 1) (N := some 20) (v := ?_) (a' := ?_) #[false, true, false, false, false, false, false] rfl rfl (by kernel_rfl) (fun _ _ _ h => hpan _ _ _ _ _ h) (Or.inl ⟨by rfl, ?_⟩) ?_ ?_
  rotate_left
  · intro w'
    go_simp
    with_reducible rfl
  rotate_left
  · simp only [Act.put, List.setIfInBounds_toArray, List.set_cons_zero, List.set_cons_succ, i64_w, i32_w]
    rfl
  refine take_ (i := 0) (N := some 19) (v := .agg (cl V0)) (a' := ?_) #[true, true, false, false, false, false, false] rfl rfl (by kernel_rfl) (fun _ _ _ h => hpan _ _ _ _ _ h) (Or.inl ⟨by rfl, ?_⟩) hHeld ?_ ?_
  · intro w' s0
    exact load_run rfl rfl s0 Try.underlying96 (by rw [HV0.out]; kernel_rfl)
  rotate_left
  · simp only [Act.put, List.setIfInBounds_toArray, List.set_cons_zero, List.set_cons_succ, i64_w, i32_w]
    rfl
  refine join_ (σ := Nat × Nat) 2 #[true, true, true, true, true, false, false] (fun s_ => [(21, .agg (cl Wl)), (7, .pointer (some ⟨s_.1, 0, none⟩)), (8, .pointer (some ⟨s_.2, 0, none⟩))]) (fun s_ w' => s_.1 ≠ s_.2 ∧ wq.heap.size ≤ s_.1 ∧ wq.heap.size ≤ s_.2 ∧ Has w' g3 96 V0 ∧ Has w' s_.1 96 (List.replicate 8 0) ∧ Has w' s_.2 98 (List.replicate 64 0) ∧ Below wq.heap.size wq w') ?_ ?_
  rotate_left
  · intro hCont
    refine three_ (i := 2) (j := 3) (k := 4) (Ni := some 21) (Nj := some 7) (Nk := some 8) #[true, true, true, false, false, false, false] #[true, true, false, true, false, false, false] #[true, true, false, false, true, false, false] rfl rfl rfl rfl rfl rfl (by kernel_rfl) (by decide) (by decide) (by decide) (fun K hK => ?_) (fun K hK => ?_) (fun K hK => ?_)
    · skip
      refine goes_ Try.func100 (by kernel_rfl) rfl #[.string s] (by rfl) rfl rfl (by simp only [List.map_toArray, List.map_cons, List.map_nil]; rfl) ?_
      refine (HWO.out _).mono ?_
      rintro e wc ⟨rfl, bc⟩
      refine ⟨_, rfl, ?_⟩
      refine hK.out _ _ ((hHeld.below bc hHeld.lt)) (fun hHeld => ?_)
      clear hK K
      refine norm_ (a' := ?_) ?_ ?_
      rotate_left
      · show Act.put _ (some 21) _ = _
        simp only [Act.put, List.setIfInBounds_toArray, List.set_cons_zero, List.set_cons_succ, i64_w, i32_w]
        rfl
      refine two_ (i := 3) (j := 4) (Ni := some 7) (Nj := some 8) #[true, true, true, true, false, false, false] #[true, true, true, false, true, false, false] rfl rfl rfl rfl (by kernel_rfl) (by decide) (by decide) (fun K hK => ?_) (fun K hK => ?_)
      · skip
        refine alloc_step (by rfl) rfl rfl (L := List.replicate 8 0) (by kernel_rfl) ?_
        rintro g7 e7 wa H7 ba
        refine hK.out _ _ ((hHeld.below ba hHeld.lt)) (fun hHeld => ?_)
        clear hK K
        refine norm_ (a' := ?_) ?_ ?_
        rotate_left
        · show Act.put _ (some 7) _ = _
          simp only [Act.put, List.setIfInBounds_toArray, List.set_cons_zero, List.set_cons_succ, i64_w, i32_w]
          rfl
        refine one_ (i := 4) (N := some 8) #[true, true, true, true, true, false, false] rfl rfl (by kernel_rfl) (by decide) (fun K hK => ?_)
        refine alloc_step (by rfl) rfl rfl (L := List.replicate 64 0) (by kernel_rfl) ?_
        rintro g8 e8 wd H8 bd
        refine hK.out _ _ ((hHeld.below bd hHeld.lt)) (fun hHeld => ?_)
        clear hK K
        refine norm_ (a' := ?_) ?_ ?_
        rotate_left
        · show Act.put _ (some 8) _ = _
          simp only [Act.put, List.setIfInBounds_toArray, List.set_cons_zero, List.set_cons_succ, i64_w, i32_w]
          rfl
        exact norm_ (by simp only [putAll, Act.put, List.setIfInBounds_toArray, List.set_cons_zero, List.set_cons_succ]) (hCont (g7, g8) _ ⟨by show g7 ≠ g8; have s1 := bc.size; have s2 := ba.size; have s3 := bd.size; have l7 := H7.lt; have l8 := H8.lt; omega, by show _ ≤ g7; have s1 := bc.size; have s2 := ba.size; have s3 := bd.size; have l7 := H7.lt; have l8 := H8.lt; omega, by show _ ≤ g8; have s1 := bc.size; have s2 := ba.size; have s3 := bd.size; have l7 := H7.lt; have l8 := H8.lt; omega, hHeld, (H7.below bd (Has.lt H7)), H8, (below_step (below_step bc ba) bd)⟩)
      · skip
        refine alloc_step (by rfl) rfl rfl (L := List.replicate 64 0) (by kernel_rfl) ?_
        rintro g8 e8 wd H8 bd
        refine hK.out _ _ ((hHeld.below bd hHeld.lt)) (fun hHeld => ?_)
        clear hK K
        refine norm_ (a' := ?_) ?_ ?_
        rotate_left
        · show Act.put _ (some 8) _ = _
          simp only [Act.put, List.setIfInBounds_toArray, List.set_cons_zero, List.set_cons_succ, i64_w, i32_w]
          rfl
        refine one_ (i := 3) (N := some 7) #[true, true, true, true, true, false, false] rfl rfl (by kernel_rfl) (by decide) (fun K hK => ?_)
        refine alloc_step (by rfl) rfl rfl (L := List.replicate 8 0) (by kernel_rfl) ?_
        rintro g7 e7 wa H7 ba
        refine hK.out _ _ ((hHeld.below ba hHeld.lt)) (fun hHeld => ?_)
        clear hK K
        refine norm_ (a' := ?_) ?_ ?_
        rotate_left
        · show Act.put _ (some 7) _ = _
          simp only [Act.put, List.setIfInBounds_toArray, List.set_cons_zero, List.set_cons_succ, i64_w, i32_w]
          rfl
        exact norm_ (by simp only [putAll, Act.put, List.setIfInBounds_toArray, List.set_cons_zero, List.set_cons_succ]) (hCont (g7, g8) _ ⟨by show g7 ≠ g8; have s1 := bc.size; have s2 := ba.size; have s3 := bd.size; have l7 := H7.lt; have l8 := H8.lt; omega, by show _ ≤ g7; have s1 := bc.size; have s2 := ba.size; have s3 := bd.size; have l7 := H7.lt; have l8 := H8.lt; omega, by show _ ≤ g8; have s1 := bc.size; have s2 := ba.size; have s3 := bd.size; have l7 := H7.lt; have l8 := H8.lt; omega, hHeld, H7, (H8.below ba (Has.lt H8)), (below_step (below_step bc bd) ba)⟩)
    · skip
      refine alloc_step (by rfl) rfl rfl (L := List.replicate 8 0) (by kernel_rfl) ?_
      rintro g7 e7 wa H7 ba
      refine hK.out _ _ ((hHeld.below ba hHeld.lt)) (fun hHeld => ?_)
      clear hK K
      refine norm_ (a' := ?_) ?_ ?_
      rotate_left
      · show Act.put _ (some 7) _ = _
        simp only [Act.put, List.setIfInBounds_toArray, List.set_cons_zero, List.set_cons_succ, i64_w, i32_w]
        rfl
      refine two_ (i := 2) (j := 4) (Ni := some 21) (Nj := some 8) #[true, true, true, true, false, false, false] #[true, true, false, true, true, false, false] rfl rfl rfl rfl (by kernel_rfl) (by decide) (by decide) (fun K hK => ?_) (fun K hK => ?_)
      · skip
        refine goes_ Try.func100 (by kernel_rfl) rfl #[.string s] (by rfl) rfl rfl (by simp only [List.map_toArray, List.map_cons, List.map_nil]; rfl) ?_
        refine (HWO.out _).mono ?_
        rintro e wc ⟨rfl, bc⟩
        refine ⟨_, rfl, ?_⟩
        refine hK.out _ _ ((hHeld.below bc hHeld.lt)) (fun hHeld => ?_)
        clear hK K
        refine norm_ (a' := ?_) ?_ ?_
        rotate_left
        · show Act.put _ (some 21) _ = _
          simp only [Act.put, List.setIfInBounds_toArray, List.set_cons_zero, List.set_cons_succ, i64_w, i32_w]
          rfl
        refine one_ (i := 4) (N := some 8) #[true, true, true, true, true, false, false] rfl rfl (by kernel_rfl) (by decide) (fun K hK => ?_)
        refine alloc_step (by rfl) rfl rfl (L := List.replicate 64 0) (by kernel_rfl) ?_
        rintro g8 e8 wd H8 bd
        refine hK.out _ _ ((hHeld.below bd hHeld.lt)) (fun hHeld => ?_)
        clear hK K
        refine norm_ (a' := ?_) ?_ ?_
        rotate_left
        · show Act.put _ (some 8) _ = _
          simp only [Act.put, List.setIfInBounds_toArray, List.set_cons_zero, List.set_cons_succ, i64_w, i32_w]
          rfl
        exact norm_ (by simp only [putAll, Act.put, List.setIfInBounds_toArray, List.set_cons_zero, List.set_cons_succ]) (hCont (g7, g8) _ ⟨by show g7 ≠ g8; have s1 := bc.size; have s2 := ba.size; have s3 := bd.size; have l7 := H7.lt; have l8 := H8.lt; omega, by show _ ≤ g7; have s1 := bc.size; have s2 := ba.size; have s3 := bd.size; have l7 := H7.lt; have l8 := H8.lt; omega, by show _ ≤ g8; have s1 := bc.size; have s2 := ba.size; have s3 := bd.size; have l7 := H7.lt; have l8 := H8.lt; omega, hHeld, ((H7.below bc (Has.lt H7)).below bd (Has.lt (H7.below bc (Has.lt H7)))), H8, (below_step (below_step ba bc) bd)⟩)
      · skip
        refine alloc_step (by rfl) rfl rfl (L := List.replicate 64 0) (by kernel_rfl) ?_
        rintro g8 e8 wd H8 bd
        refine hK.out _ _ ((hHeld.below bd hHeld.lt)) (fun hHeld => ?_)
        clear hK K
        refine norm_ (a' := ?_) ?_ ?_
        rotate_left
        · show Act.put _ (some 8) _ = _
          simp only [Act.put, List.setIfInBounds_toArray, List.set_cons_zero, List.set_cons_succ, i64_w, i32_w]
          rfl
        refine one_ (i := 2) (N := some 21) #[true, true, true, true, true, false, false] rfl rfl (by kernel_rfl) (by decide) (fun K hK => ?_)
        refine goes_ Try.func100 (by kernel_rfl) rfl #[.string s] (by rfl) rfl rfl (by simp only [List.map_toArray, List.map_cons, List.map_nil]; rfl) ?_
        refine (HWO.out _).mono ?_
        rintro e wc ⟨rfl, bc⟩
        refine ⟨_, rfl, ?_⟩
        refine hK.out _ _ ((hHeld.below bc hHeld.lt)) (fun hHeld => ?_)
        clear hK K
        refine norm_ (a' := ?_) ?_ ?_
        rotate_left
        · show Act.put _ (some 21) _ = _
          simp only [Act.put, List.setIfInBounds_toArray, List.set_cons_zero, List.set_cons_succ, i64_w, i32_w]
          rfl
        exact norm_ (by simp only [putAll, Act.put, List.setIfInBounds_toArray, List.set_cons_zero, List.set_cons_succ]) (hCont (g7, g8) _ ⟨by show g7 ≠ g8; have s1 := bc.size; have s2 := ba.size; have s3 := bd.size; have l7 := H7.lt; have l8 := H8.lt; omega, by show _ ≤ g7; have s1 := bc.size; have s2 := ba.size; have s3 := bd.size; have l7 := H7.lt; have l8 := H8.lt; omega, by show _ ≤ g8; have s1 := bc.size; have s2 := ba.size; have s3 := bd.size; have l7 := H7.lt; have l8 := H8.lt; omega, hHeld, ((H7.below bd (Has.lt H7)).below bc (Has.lt (H7.below bd (Has.lt H7)))), (H8.below bc (Has.lt H8)), (below_step (below_step ba bd) bc)⟩)
    · skip
      refine alloc_step (by rfl) rfl rfl (L := List.replicate 64 0) (by kernel_rfl) ?_
      rintro g8 e8 wd H8 bd
      refine hK.out _ _ ((hHeld.below bd hHeld.lt)) (fun hHeld => ?_)
      clear hK K
      refine norm_ (a' := ?_) ?_ ?_
      rotate_left
      · show Act.put _ (some 8) _ = _
        simp only [Act.put, List.setIfInBounds_toArray, List.set_cons_zero, List.set_cons_succ, i64_w, i32_w]
        rfl
      refine two_ (i := 2) (j := 3) (Ni := some 21) (Nj := some 7) #[true, true, true, false, true, false, false] #[true, true, false, true, true, false, false] rfl rfl rfl rfl (by kernel_rfl) (by decide) (by decide) (fun K hK => ?_) (fun K hK => ?_)
      · skip
        refine goes_ Try.func100 (by kernel_rfl) rfl #[.string s] (by rfl) rfl rfl (by simp only [List.map_toArray, List.map_cons, List.map_nil]; rfl) ?_
        refine (HWO.out _).mono ?_
        rintro e wc ⟨rfl, bc⟩
        refine ⟨_, rfl, ?_⟩
        refine hK.out _ _ ((hHeld.below bc hHeld.lt)) (fun hHeld => ?_)
        clear hK K
        refine norm_ (a' := ?_) ?_ ?_
        rotate_left
        · show Act.put _ (some 21) _ = _
          simp only [Act.put, List.setIfInBounds_toArray, List.set_cons_zero, List.set_cons_succ, i64_w, i32_w]
          rfl
        refine one_ (i := 3) (N := some 7) #[true, true, true, true, true, false, false] rfl rfl (by kernel_rfl) (by decide) (fun K hK => ?_)
        refine alloc_step (by rfl) rfl rfl (L := List.replicate 8 0) (by kernel_rfl) ?_
        rintro g7 e7 wa H7 ba
        refine hK.out _ _ ((hHeld.below ba hHeld.lt)) (fun hHeld => ?_)
        clear hK K
        refine norm_ (a' := ?_) ?_ ?_
        rotate_left
        · show Act.put _ (some 7) _ = _
          simp only [Act.put, List.setIfInBounds_toArray, List.set_cons_zero, List.set_cons_succ, i64_w, i32_w]
          rfl
        exact norm_ (by simp only [putAll, Act.put, List.setIfInBounds_toArray, List.set_cons_zero, List.set_cons_succ]) (hCont (g7, g8) _ ⟨by show g7 ≠ g8; have s1 := bc.size; have s2 := ba.size; have s3 := bd.size; have l7 := H7.lt; have l8 := H8.lt; omega, by show _ ≤ g7; have s1 := bc.size; have s2 := ba.size; have s3 := bd.size; have l7 := H7.lt; have l8 := H8.lt; omega, by show _ ≤ g8; have s1 := bc.size; have s2 := ba.size; have s3 := bd.size; have l7 := H7.lt; have l8 := H8.lt; omega, hHeld, H7, ((H8.below bc (Has.lt H8)).below ba (Has.lt (H8.below bc (Has.lt H8)))), (below_step (below_step bd bc) ba)⟩)
      · skip
        refine alloc_step (by rfl) rfl rfl (L := List.replicate 8 0) (by kernel_rfl) ?_
        rintro g7 e7 wa H7 ba
        refine hK.out _ _ ((hHeld.below ba hHeld.lt)) (fun hHeld => ?_)
        clear hK K
        refine norm_ (a' := ?_) ?_ ?_
        rotate_left
        · show Act.put _ (some 7) _ = _
          simp only [Act.put, List.setIfInBounds_toArray, List.set_cons_zero, List.set_cons_succ, i64_w, i32_w]
          rfl
        refine one_ (i := 2) (N := some 21) #[true, true, true, true, true, false, false] rfl rfl (by kernel_rfl) (by decide) (fun K hK => ?_)
        refine goes_ Try.func100 (by kernel_rfl) rfl #[.string s] (by rfl) rfl rfl (by simp only [List.map_toArray, List.map_cons, List.map_nil]; rfl) ?_
        refine (HWO.out _).mono ?_
        rintro e wc ⟨rfl, bc⟩
        refine ⟨_, rfl, ?_⟩
        refine hK.out _ _ ((hHeld.below bc hHeld.lt)) (fun hHeld => ?_)
        clear hK K
        refine norm_ (a' := ?_) ?_ ?_
        rotate_left
        · show Act.put _ (some 21) _ = _
          simp only [Act.put, List.setIfInBounds_toArray, List.set_cons_zero, List.set_cons_succ, i64_w, i32_w]
          rfl
        exact norm_ (by simp only [putAll, Act.put, List.setIfInBounds_toArray, List.set_cons_zero, List.set_cons_succ]) (hCont (g7, g8) _ ⟨by show g7 ≠ g8; have s1 := bc.size; have s2 := ba.size; have s3 := bd.size; have l7 := H7.lt; have l8 := H8.lt; omega, by show _ ≤ g7; have s1 := bc.size; have s2 := ba.size; have s3 := bd.size; have l7 := H7.lt; have l8 := H8.lt; omega, by show _ ≤ g8; have s1 := bc.size; have s2 := ba.size; have s3 := bd.size; have l7 := H7.lt; have l8 := H8.lt; omega, hHeld, (H7.below bc (Has.lt H7)), ((H8.below ba (Has.lt H8)).below bc (Has.lt (H8.below ba (Has.lt H8)))), (below_step (below_step bd ba) bc)⟩)
  rintro ⟨g7, g8⟩ wf ⟨ne78, le7, le8, hHeld, H7, H8, bf⟩
  replace ne78 : g7 ≠ g8 := ne78
  replace le7 : wq.heap.size ≤ g7 := le7
  replace le8 : wq.heap.size ≤ g8 := le8
  replace H7 : Has wf g7 96 (List.replicate 8 0) := H7
  replace H8 : Has wf g8 98 (List.replicate 64 0) := H8
  refine norm_ (a' := ?_) ?_ ?_
  rotate_left
  · simp only [putAll, Act.put, List.setIfInBounds_toArray, List.set_cons_zero, List.set_cons_succ]
    rfl
  refine one_ (i := 5) (N := none) #[true, true, true, true, true, true, false] rfl rfl (by kernel_rfl) (by decide) (fun K hK => ?_)
  refine store_step (by rfl) rfl rfl (L := List.replicate 8 0) (L' := V0) rfl rfl H7 (by rw [HV0.out]; kernel_rfl) (by rw [HV0.out]; rfl) ?_
  rintro w5 H75 b5 z5 f5
  refine hK.out _ _ (((f5 g3 (fun h => by have := HG3.out.lt; omega)).trans hHeld)) (fun hHeld => ?_)
  clear hK K
  refine one_ (i := 6) (N := none) #[true, true, true, true, true, true, true] rfl rfl (by kernel_rfl) (by decide) (fun K hK => ?_)
  have H86 := (f5 g8 (fun h => ne78 h.symm)).trans H8
  refine store_step (by rfl) rfl rfl (L := List.replicate 64 0) (L' := Wl) rfl rfl H86 (by rw [HWL.out]; kernel_rfl) (by rw [HWL.out]; rfl) ?_
  rintro w6 H86' b6 z6 f6
  refine hK.out _ _ (((f6 g3 (fun h => by have := HG3.out.lt; omega)).trans hHeld)) (fun hHeld => ?_)
  clear hK K
  refine done_ (by kernel_rfl) ?_
  have hz := HQW.out
  subst hz
  refine hQ.out _ _ _ _ g7 g8 ne78 le7 le8 ((f6 g7 ne78).trans H75) H86' (bf.trans ((b5 _ le7).trans (b6 _ le8)))
set_option maxHeartbeats 16000000 in
set_option maxRecDepth 100000 in
theorem blockHash_r5 {Q : Exit → Act → World → Prop} (u0 u1 u2 u3 u4 u5 u6 u8 u9 u10 u11 u12 u13 u14 u15 u16 u17 u18 u19 u20 u21 u22 u23 u24 u25 u26 u27 u28 u29 u30 u31 u32 u33 u34 u35 u36 u37 u38 u39 u40 u41 u42 u43 u44 u45 u46 u47 u48 u49 u50 u51 u52 u53 u54 u55 u56 u57 u58 u59 u60 u61 u62 u63 u64 u65 u66 u67 u68 u69 u70 u71 u72 u73 u74 u75 u76 u77 u78 u79 u80 u81 u82 u83 u84 u85 u86 u87 u88 u89 u90 u91 u92 u93 u94 u95 u96 u97 u98 u99 u100 u101 u102 u103 u104 u105 u106 u107 u108 u109 u110 u111 u112 : Value) (g7 : Nat) (a b c e f g : Int) (wr : World) (c0 : wr.cell? ⟨g7, 0, none⟩ = some (.int .u32 a)) (c1 : wr.cell? ⟨g7, 1, none⟩ = some (.int .u32 b)) (c2 : wr.cell? ⟨g7, 2, none⟩ = some (.int .u32 c)) (c4 : wr.cell? ⟨g7, 4, none⟩ = some (.int .u32 e)) (c5 : wr.cell? ⟨g7, 5, none⟩ = some (.int .u32 f)) (c6 : wr.cell? ⟨g7, 6, none⟩ = some (.int .u32 g))
    (hpan : ∀ c a t v w, Q (.panic c) (Act.put a (some t) v) w → Q (.panic c) a w) (hQ : Aside0 (∀ (v25 v26 v27 v28 v29 v30 v31 v32 v33 v34 v35 v36 : Value) (w' : World), Drawn0 wr w' → Q .normal ⟨List.toArray (u0 :: u1 :: u2 :: u3 :: u4 :: u5 :: u6 :: .pointer (some ⟨g7, 0, none⟩) :: u8 :: u9 :: .int .u32 a :: .int .u32 b :: .int .u32 c :: .int .u32 e :: .int .u32 f :: .int .u32 g :: u16 :: u17 :: u18 :: u19 :: u20 :: u21 :: u22 :: u23 :: u24 :: v25 :: v26 :: v27 :: v28 :: v29 :: v30 :: v31 :: v32 :: v33 :: v34 :: v35 :: v36 :: u37 :: u38 :: u39 :: u40 :: u41 :: u42 :: u43 :: u44 :: u45 :: u46 :: u47 :: u48 :: u49 :: u50 :: u51 :: u52 :: u53 :: u54 :: u55 :: u56 :: u57 :: u58 :: u59 :: u60 :: u61 :: u62 :: u63 :: u64 :: u65 :: u66 :: u67 :: u68 :: u69 :: u70 :: u71 :: u72 :: u73 :: u74 :: u75 :: u76 :: u77 :: u78 :: u79 :: u80 :: u81 :: u82 :: u83 :: u84 :: u85 :: u86 :: u87 :: u88 :: u89 :: u90 :: u91 :: u92 :: u93 :: u94 :: u95 :: u96 :: u97 :: u98 :: u99 :: u100 :: u101 :: u102 :: u103 :: u104 :: u105 :: u106 :: u107 :: u108 :: u109 :: u110 :: u111 :: u112 :: []), []⟩ w')) :
    Code.wp Try.prog (Code.region 5 (opsOf Try.f74 5) true) Q ⟨List.toArray (u0 :: u1 :: u2 :: u3 :: u4 :: u5 :: u6 :: .pointer (some ⟨g7, 0, none⟩) :: u8 :: u9 :: u10 :: u11 :: u12 :: u13 :: u14 :: u15 :: u16 :: u17 :: u18 :: u19 :: u20 :: u21 :: u22 :: u23 :: u24 :: u25 :: u26 :: u27 :: u28 :: u29 :: u30 :: u31 :: u32 :: u33 :: u34 :: u35 :: u36 :: u37 :: u38 :: u39 :: u40 :: u41 :: u42 :: u43 :: u44 :: u45 :: u46 :: u47 :: u48 :: u49 :: u50 :: u51 :: u52 :: u53 :: u54 :: u55 :: u56 :: u57 :: u58 :: u59 :: u60 :: u61 :: u62 :: u63 :: u64 :: u65 :: u66 :: u67 :: u68 :: u69 :: u70 :: u71 :: u72 :: u73 :: u74 :: u75 :: u76 :: u77 :: u78 :: u79 :: u80 :: u81 :: u82 :: u83 :: u84 :: u85 :: u86 :: u87 :: u88 :: u89 :: u90 :: u91 :: u92 :: u93 :: u94 :: u95 :: u96 :: u97 :: u98 :: u99 :: u100 :: u101 :: u102 :: u103 :: u104 :: u105 :: u106 :: u107 :: u108 :: u109 :: u110 :: u111 :: u112 :: []), []⟩ wr := by
  conv => arg 2; arg 2; whnf
  refine start_ (n := 18) (S := fun w' => w'.cell? ⟨g7, 0, none⟩ = some (.int .u32 a) ∧ w'.cell? ⟨g7, 1, none⟩ = some (.int .u32 b) ∧ w'.cell? ⟨g7, 2, none⟩ = some (.int .u32 c) ∧ w'.cell? ⟨g7, 4, none⟩ = some (.int .u32 e) ∧ w'.cell? ⟨g7, 5, none⟩ = some (.int .u32 f) ∧ w'.cell? ⟨g7, 6, none⟩ = some (.int .u32 g)) (ds := []) #[false, false, false, false, false, false, false, false, false, false, false, false, false, false, false, false, false, false] (by kernel_rfl) rfl rfl ⟨c0, c1, c2, c4, c5, c6⟩ (fun hHeld => ?_)
  refine with_tabW impl_blockHash.tab5 impl_blockHash.bits5 (fun HT_ HW_ => ?_)
  refine pure_ (i := 0) (N := some 25) (v := ?_) (a' := ?_) #[true, false, false, false, false, false, false, false, false, false, false, false, false, false, false, false, false, false] rfl rfl (any_of HT_.out (by kernel_rfl)) (fun _ _ _ h => hpan _ _ _ _ _ h) (Or.inl ⟨by rfl, ?_⟩) ?_ ?_
  rotate_left
  · intro w'
    go_simp
    with_reducible rfl
  rotate_left
  · simp only [Act.put, List.setIfInBounds_toArray, List.set_cons_zero, List.set_cons_succ, i64_w, i32_w]
    rfl
  refine pure_ (i := 2) (N := some 27) (v := ?_) (a' := ?_) #[true, false, true, false, false, false, false, false, false, false, false, false, false, false, false, false, false, false] rfl rfl (any_of HT_.out (by kernel_rfl)) (fun _ _ _ h => hpan _ _ _ _ _ h) (Or.inl ⟨by rfl, ?_⟩) ?_ ?_
  rotate_left
  · intro w'
    go_simp
    with_reducible rfl
  rotate_left
  · simp only [Act.put, List.setIfInBounds_toArray, List.set_cons_zero, List.set_cons_succ, i64_w, i32_w]
    rfl
  refine pure_ (i := 4) (N := some 29) (v := ?_) (a' := ?_) #[true, false, true, false, true, false, false, false, false, false, false, false, false, false, false, false, false, false] rfl rfl (any_of HT_.out (by kernel_rfl)) (fun _ _ _ h => hpan _ _ _ _ _ h) (Or.inl ⟨by rfl, ?_⟩) ?_ ?_
  rotate_left
  · intro w'
    go_simp
    with_reducible rfl
  rotate_left
  · simp only [Act.put, List.setIfInBounds_toArray, List.set_cons_zero, List.set_cons_succ, i64_w, i32_w]
    rfl
  refine pure_ (i := 6) (N := some 31) (v := ?_) (a' := ?_) #[true, false, true, false, true, false, true, false, false, false, false, false, false, false, false, false, false, false] rfl rfl (any_of HT_.out (by kernel_rfl)) (fun _ _ _ h => hpan _ _ _ _ _ h) (Or.inl ⟨by rfl, ?_⟩) ?_ ?_
  rotate_left
  · intro w'
    go_simp
    with_reducible rfl
  rotate_left
  · simp only [Act.put, List.setIfInBounds_toArray, List.set_cons_zero, List.set_cons_succ, i64_w, i32_w]
    rfl
  refine pure_ (i := 8) (N := some 33) (v := ?_) (a' := ?_) #[true, false, true, false, true, false, true, false, true, false, false, false, false, false, false, false, false, false] rfl rfl (any_of HT_.out (by kernel_rfl)) (fun _ _ _ h => hpan _ _ _ _ _ h) (Or.inl ⟨by rfl, ?_⟩) ?_ ?_
  rotate_left
  · intro w'
    go_simp
    with_reducible rfl
  rotate_left
  · simp only [Act.put, List.setIfInBounds_toArray, List.set_cons_zero, List.set_cons_succ, i64_w, i32_w]
    rfl
  refine pure_ (i := 10) (N := some 35) (v := ?_) (a' := ?_) #[true, false, true, false, true, false, true, false, true, false, true, false, false, false, false, false, false, false] rfl rfl (any_of HT_.out (by kernel_rfl)) (fun _ _ _ h => hpan _ _ _ _ _ h) (Or.inl ⟨by rfl, ?_⟩) ?_ ?_
  rotate_left
  · intro w'
    go_simp
    with_reducible rfl
  rotate_left
  · simp only [Act.put, List.setIfInBounds_toArray, List.set_cons_zero, List.set_cons_succ, i64_w, i32_w]
    rfl
  refine take_ (i := 1) (N := some 26) (v := ?_) (a' := ?_) #[true, true, true, false, true, false, true, false, true, false, true, false, false, false, false, false, false, false] rfl rfl (take_ofW HT_.out HW_.out (by kernel_rfl)) (fun _ _ _ h => hpan _ _ _ _ _ h) (Or.inl ⟨by rfl, ?_⟩) hHeld ?_ ?_
  rotate_left
  · rintro w' ⟨s0, s1, s2, s3, s4, s5⟩
    go_simp
    with_reducible rfl
  rotate_left
  · simp only [Act.put, List.setIfInBounds_toArray, List.set_cons_zero, List.set_cons_succ, i64_w, i32_w]
    rfl
  refine pure_ (i := 12) (N := some 10) (v := ?_) (a' := ?_) #[true, true, true, false, true, false, true, false, true, false, true, false, true, false, false, false, false, false] rfl rfl (any_of HT_.out (by kernel_rfl)) (fun _ _ _ h => hpan _ _ _ _ _ h) (Or.inl ⟨by rfl, ?_⟩) ?_ ?_
  rotate_left
  · intro w'
    go_simp
    with_reducible rfl
  rotate_left
  · simp only [Act.put, List.setIfInBounds_toArray, List.set_cons_zero, List.set_cons_succ, i64_w, i32_w]
    rfl
  refine take_ (i := 3) (N := some 28) (v := ?_) (a' := ?_) #[true, true, true, true, true, false, true, false, true, false, true, false, true, false, false, false, false, false] rfl rfl (take_ofW HT_.out HW_.out (by kernel_rfl)) (fun _ _ _ h => hpan _ _ _ _ _ h) (Or.inl ⟨by rfl, ?_⟩) hHeld ?_ ?_
  rotate_left
  · rintro w' ⟨s0, s1, s2, s3, s4, s5⟩
    go_simp
    with_reducible rfl
  rotate_left
  · simp only [Act.put, List.setIfInBounds_toArray, List.set_cons_zero, List.set_cons_succ, i64_w, i32_w]
    rfl
  refine pure_ (i := 13) (N := some 11) (v := ?_) (a' := ?_) #[true, true, true, true, true, false, true, false, true, false, true, false, true, true, false, false, false, false] rfl rfl (any_of HT_.out (by kernel_rfl)) (fun _ _ _ h => hpan _ _ _ _ _ h) (Or.inl ⟨by rfl, ?_⟩) ?_ ?_
  rotate_left
  · intro w'
    go_simp
    with_reducible rfl
  rotate_left
  · simp only [Act.put, List.setIfInBounds_toArray, List.set_cons_zero, List.set_cons_succ, i64_w, i32_w]
    rfl
  refine take_ (i := 5) (N := some 30) (v := ?_) (a' := ?_) #[true, true, true, true, true, true, true, false, true, false, true, false, true, true, false, false, false, false] rfl rfl (take_ofW HT_.out HW_.out (by kernel_rfl)) (fun _ _ _ h => hpan _ _ _ _ _ h) (Or.inl ⟨by rfl, ?_⟩) hHeld ?_ ?_
  rotate_left
  · rintro w' ⟨s0, s1, s2, s3, s4, s5⟩
    go_simp
    with_reducible rfl
  rotate_left
  · simp only [Act.put, List.setIfInBounds_toArray, List.set_cons_zero, List.set_cons_succ, i64_w, i32_w]
    rfl
  refine pure_ (i := 14) (N := some 12) (v := ?_) (a' := ?_) #[true, true, true, true, true, true, true, false, true, false, true, false, true, true, true, false, false, false] rfl rfl (any_of HT_.out (by kernel_rfl)) (fun _ _ _ h => hpan _ _ _ _ _ h) (Or.inl ⟨by rfl, ?_⟩) ?_ ?_
  rotate_left
  · intro w'
    go_simp
    with_reducible rfl
  rotate_left
  · simp only [Act.put, List.setIfInBounds_toArray, List.set_cons_zero, List.set_cons_succ, i64_w, i32_w]
    rfl
  refine take_ (i := 7) (N := some 32) (v := ?_) (a' := ?_) #[true, true, true, true, true, true, true, true, true, false, true, false, true, true, true, false, false, false] rfl rfl (take_ofW HT_.out HW_.out (by kernel_rfl)) (fun _ _ _ h => hpan _ _ _ _ _ h) (Or.inl ⟨by rfl, ?_⟩) hHeld ?_ ?_
  rotate_left
  · rintro w' ⟨s0, s1, s2, s3, s4, s5⟩
    go_simp
    with_reducible rfl
  rotate_left
  · simp only [Act.put, List.setIfInBounds_toArray, List.set_cons_zero, List.set_cons_succ, i64_w, i32_w]
    rfl
  refine pure_ (i := 15) (N := some 13) (v := ?_) (a' := ?_) #[true, true, true, true, true, true, true, true, true, false, true, false, true, true, true, true, false, false] rfl rfl (any_of HT_.out (by kernel_rfl)) (fun _ _ _ h => hpan _ _ _ _ _ h) (Or.inl ⟨by rfl, ?_⟩) ?_ ?_
  rotate_left
  · intro w'
    go_simp
    with_reducible rfl
  rotate_left
  · simp only [Act.put, List.setIfInBounds_toArray, List.set_cons_zero, List.set_cons_succ, i64_w, i32_w]
    rfl
  refine take_ (i := 9) (N := some 34) (v := ?_) (a' := ?_) #[true, true, true, true, true, true, true, true, true, true, true, false, true, true, true, true, false, false] rfl rfl (take_ofW HT_.out HW_.out (by kernel_rfl)) (fun _ _ _ h => hpan _ _ _ _ _ h) (Or.inl ⟨by rfl, ?_⟩) hHeld ?_ ?_
  rotate_left
  · rintro w' ⟨s0, s1, s2, s3, s4, s5⟩
    go_simp
    with_reducible rfl
  rotate_left
  · simp only [Act.put, List.setIfInBounds_toArray, List.set_cons_zero, List.set_cons_succ, i64_w, i32_w]
    rfl
  refine pure_ (i := 16) (N := some 14) (v := ?_) (a' := ?_) #[true, true, true, true, true, true, true, true, true, true, true, false, true, true, true, true, true, false] rfl rfl (any_of HT_.out (by kernel_rfl)) (fun _ _ _ h => hpan _ _ _ _ _ h) (Or.inl ⟨by rfl, ?_⟩) ?_ ?_
  rotate_left
  · intro w'
    go_simp
    with_reducible rfl
  rotate_left
  · simp only [Act.put, List.setIfInBounds_toArray, List.set_cons_zero, List.set_cons_succ, i64_w, i32_w]
    rfl
  refine take_ (i := 11) (N := some 36) (v := ?_) (a' := ?_) #[true, true, true, true, true, true, true, true, true, true, true, true, true, true, true, true, true, false] rfl rfl (take_ofW HT_.out HW_.out (by kernel_rfl)) (fun _ _ _ h => hpan _ _ _ _ _ h) (Or.inl ⟨by rfl, ?_⟩) hHeld ?_ ?_
  rotate_left
  · rintro w' ⟨s0, s1, s2, s3, s4, s5⟩
    go_simp
    with_reducible rfl
  rotate_left
  · simp only [Act.put, List.setIfInBounds_toArray, List.set_cons_zero, List.set_cons_succ, i64_w, i32_w]
    rfl
  refine pure_ (i := 17) (N := some 15) (v := ?_) (a' := ?_) #[true, true, true, true, true, true, true, true, true, true, true, true, true, true, true, true, true, true] rfl rfl (any_of HT_.out (by kernel_rfl)) (fun _ _ _ h => hpan _ _ _ _ _ h) (Or.inl ⟨by rfl, ?_⟩) ?_ ?_
  rotate_left
  · intro w'
    go_simp
    with_reducible rfl
  rotate_left
  · simp only [Act.put, List.setIfInBounds_toArray, List.set_cons_zero, List.set_cons_succ, i64_w, i32_w]
    rfl
  refine done_ (done_of HT_.out (by kernel_rfl)) ?_

  refine hQ.out _ _ _ _ _ _ _ _ _ _ _ _ _ ?_
  repeat (first | exact Drawn0.refl _ | apply Drawn0.step)
set_option maxHeartbeats 16000000 in
set_option maxRecDepth 100000 in
theorem blockHash_r6 {Q : Exit → Act → World → Prop} (u0 u1 u2 u3 u5 u6 u10 u11 u12 u16 u17 u18 u19 u20 u21 u22 u23 u24 u25 u26 u27 u28 u29 u30 u31 u32 u33 u34 u35 u36 u37 u38 u39 u40 u41 u42 u43 u44 u45 u46 u47 u48 u49 u50 u51 u52 u53 u54 u55 u56 u57 u58 u59 u60 u61 u62 u63 u64 u65 u66 u67 u68 u69 u70 u71 u72 u73 u74 u75 u76 u77 u78 u79 u80 u81 u82 u83 u84 u85 u86 u87 u88 u89 u90 u91 u92 u93 u94 u95 u96 u97 u98 u99 u100 u101 u102 u103 u104 u105 u106 u107 u108 u109 u110 u111 u112 : Value) (g4 g7 g8 : Nat) (x e f g y7 kx wx_ : Int) (wr : World) (px : (0 ≤ x) = True) (qx : (x < 64) = True) (c7 : wr.cell? ⟨g7, 7, none⟩ = some (.int .u32 y7)) (ck : wr.cell? ⟨g4, x.toNat, none⟩ = some (.int .u32 kx)) (cw : wr.cell? ⟨g8, x.toNat, none⟩ = some (.int .u32 wx_))
    (hpan : ∀ c a t v w, Q (.panic c) (Act.put a (some t) v) w → Q (.panic c) a w) (hQ : Aside0 (∀ (v37 v38 v39 v40 v41 v42 v43 v44 v45 v46 v47 v48 v49 v50 v51 v52 v53 v54 v55 v56 v57 v58 v59 v60 v61 v62 v63 v64 : Value) (w' : World), Drawn0 wr w' → Q .normal ⟨List.toArray (u0 :: u1 :: u2 :: u3 :: .pointer (some ⟨g4, 0, none⟩) :: u5 :: u6 :: .pointer (some ⟨g7, 0, none⟩) :: .pointer (some ⟨g8, 0, none⟩) :: .int .i64 x :: u10 :: u11 :: u12 :: .int .u32 e :: .int .u32 f :: .int .u32 g :: .int .u32 (pp e f g y7 kx wx_) :: u17 :: u18 :: u19 :: u20 :: u21 :: u22 :: u23 :: u24 :: u25 :: u26 :: u27 :: u28 :: u29 :: u30 :: u31 :: u32 :: u33 :: u34 :: u35 :: u36 :: v37 :: v38 :: v39 :: v40 :: v41 :: v42 :: v43 :: v44 :: v45 :: v46 :: v47 :: v48 :: v49 :: v50 :: v51 :: v52 :: v53 :: v54 :: v55 :: v56 :: v57 :: v58 :: v59 :: v60 :: v61 :: v62 :: v63 :: v64 :: u65 :: u66 :: u67 :: u68 :: u69 :: u70 :: u71 :: u72 :: u73 :: u74 :: u75 :: u76 :: u77 :: u78 :: u79 :: u80 :: u81 :: u82 :: u83 :: u84 :: u85 :: u86 :: u87 :: u88 :: u89 :: u90 :: u91 :: u92 :: u93 :: u94 :: u95 :: u96 :: u97 :: u98 :: u99 :: u100 :: u101 :: u102 :: u103 :: u104 :: u105 :: u106 :: u107 :: u108 :: u109 :: u110 :: u111 :: u112 :: []), []⟩ w')) :
    Code.wp Try.prog (Code.region 6 (opsOf Try.f74 6) true) Q ⟨List.toArray (u0 :: u1 :: u2 :: u3 :: .pointer (some ⟨g4, 0, none⟩) :: u5 :: u6 :: .pointer (some ⟨g7, 0, none⟩) :: .pointer (some ⟨g8, 0, none⟩) :: .int .i64 x :: u10 :: u11 :: u12 :: .int .u32 e :: .int .u32 f :: .int .u32 g :: u16 :: u17 :: u18 :: u19 :: u20 :: u21 :: u22 :: u23 :: u24 :: u25 :: u26 :: u27 :: u28 :: u29 :: u30 :: u31 :: u32 :: u33 :: u34 :: u35 :: u36 :: u37 :: u38 :: u39 :: u40 :: u41 :: u42 :: u43 :: u44 :: u45 :: u46 :: u47 :: u48 :: u49 :: u50 :: u51 :: u52 :: u53 :: u54 :: u55 :: u56 :: u57 :: u58 :: u59 :: u60 :: u61 :: u62 :: u63 :: u64 :: u65 :: u66 :: u67 :: u68 :: u69 :: u70 :: u71 :: u72 :: u73 :: u74 :: u75 :: u76 :: u77 :: u78 :: u79 :: u80 :: u81 :: u82 :: u83 :: u84 :: u85 :: u86 :: u87 :: u88 :: u89 :: u90 :: u91 :: u92 :: u93 :: u94 :: u95 :: u96 :: u97 :: u98 :: u99 :: u100 :: u101 :: u102 :: u103 :: u104 :: u105 :: u106 :: u107 :: u108 :: u109 :: u110 :: u111 :: u112 :: []), []⟩ wr := by
  conv => arg 2; arg 2; whnf
  refine start_ (n := 29) (S := fun w' => w'.cell? ⟨g7, 7, none⟩ = some (.int .u32 y7) ∧ w'.cell? ⟨g4, x.toNat, none⟩ = some (.int .u32 kx) ∧ w'.cell? ⟨g8, x.toNat, none⟩ = some (.int .u32 wx_)) (ds := []) #[false, false, false, false, false, false, false, false, false, false, false, false, false, false, false, false, false, false, false, false, false, false, false, false, false, false, false, false, false] (by kernel_rfl) rfl rfl ⟨c7, ck, cw⟩ (fun hHeld => ?_)
  refine with_tabW impl_blockHash.tab6 impl_blockHash.bits6 (fun HT_ HW_ => ?_)
  refine pure_ (i := 0) (N := some 37) (v := ?_) (a' := ?_) #[true, false, false, false, false, false, false, false, false, false, false, false, false, false, false, false, false, false, false, false, false, false, false, false, false, false, false, false, false] rfl rfl (any_of HT_.out (by kernel_rfl)) (fun _ _ _ h => hpan _ _ _ _ _ h) (Or.inl ⟨by rfl, ?_⟩) ?_ ?_
  rotate_left
  · intro w'
    go_simp
    with_reducible rfl
  rotate_left
  · simp only [Act.put, List.setIfInBounds_toArray, List.set_cons_zero, List.set_cons_succ, i64_w, i32_w]
    rfl
  refine pure_ (i := 2) (N := some 39) (v := ?_) (a' := ?_) #[true, false, true, false, false, false, false, false, false, false, false, false, false, false, false, false, false, false, false, false, false, false, false, false, false, false, false, false, false] rfl rfl (any_of HT_.out (by kernel_rfl)) (fun _ _ _ h => hpan _ _ _ _ _ h) (Or.inl ⟨by rfl, ?_⟩) ?_ ?_
  rotate_left
  · intro w'
    go_simp
    with_reducible rfl
  rotate_left
  · simp only [Act.put, List.setIfInBounds_toArray, List.set_cons_zero, List.set_cons_succ, i64_w, i32_w]
    rfl
  refine pure_ (i := 4) (N := some 41) (v := ?_) (a' := ?_) #[true, false, true, false, true, false, false, false, false, false, false, false, false, false, false, false, false, false, false, false, false, false, false, false, false, false, false, false, false] rfl rfl (any_of HT_.out (by kernel_rfl)) (fun _ _ _ h => hpan _ _ _ _ _ h) (Or.inl ⟨by rfl, ?_⟩) ?_ ?_
  rotate_left
  · intro w'
    go_simp
    with_reducible rfl
  rotate_left
  · simp only [Act.put, List.setIfInBounds_toArray, List.set_cons_zero, List.set_cons_succ, i64_w, i32_w]
    rfl
  refine pure_ (i := 7) (N := some 44) (v := ?_) (a' := ?_) #[true, false, true, false, true, false, false, true, false, false, false, false, false, false, false, false, false, false, false, false, false, false, false, false, false, false, false, false, false] rfl rfl (any_of HT_.out (by kernel_rfl)) (fun _ _ _ h => hpan _ _ _ _ _ h) (Or.inl ⟨by rfl, ?_⟩) ?_ ?_
  rotate_left
  · intro w'
    go_simp
    with_reducible rfl
  rotate_left
  · simp only [Act.put, List.setIfInBounds_toArray, List.set_cons_zero, List.set_cons_succ, i64_w, i32_w]
    rfl
  refine pure_ (i := 11) (N := some 48) (v := ?_) (a' := ?_) #[true, false, true, false, true, false, false, true, false, false, false, true, false, false, false, false, false, false, false, false, false, false, false, false, false, false, false, false, false] rfl rfl (any_of HT_.out (by kernel_rfl)) (fun _ _ _ h => hpan _ _ _ _ _ h) (Or.inl ⟨by rfl, ?_⟩) ?_ ?_
  rotate_left
  · intro w'
    go_simp
    with_reducible rfl
  rotate_left
  · simp only [Act.put, List.setIfInBounds_toArray, List.set_cons_zero, List.set_cons_succ, i64_w, i32_w]
    rfl
  refine pure_ (i := 12) (N := some 49) (v := ?_) (a' := ?_) #[true, false, true, false, true, false, false, true, false, false, false, true, true, false, false, false, false, false, false, false, false, false, false, false, false, false, false, false, false] rfl rfl (any_of HT_.out (by kernel_rfl)) (fun _ _ _ h => hpan _ _ _ _ _ h) (Or.inl ⟨by rfl, ?_⟩) ?_ ?_
  rotate_left
  · intro w'
    go_simp
    with_reducible rfl
  rotate_left
  · simp only [Act.put, List.setIfInBounds_toArray, List.set_cons_zero, List.set_cons_succ, i64_w, i32_w]
    rfl
  refine pure_ (i := 13) (N := some 50) (v := ?_) (a' := ?_) #[true, false, true, false, true, false, false, true, false, false, false, true, true, true, false, false, false, false, false, false, false, false, false, false, false, false, false, false, false] rfl rfl (any_of HT_.out (by kernel_rfl)) (fun _ _ _ h => hpan _ _ _ _ _ h) (Or.inl ⟨by rfl, ?_⟩) ?_ ?_
  rotate_left
  · intro w'
    go_simp
    with_reducible rfl
  rotate_left
  · simp only [Act.put, List.setIfInBounds_toArray, List.set_cons_zero, List.set_cons_succ, i64_w, i32_w]
    rfl
  refine pure_ (i := 14) (N := some 51) (v := ?_) (a' := ?_) #[true, false, true, false, true, false, false, true, false, false, false, true, true, true, true, false, false, false, false, false, false, false, false, false, false, false, false, false, false] rfl rfl (any_of HT_.out (by kernel_rfl)) (fun _ _ _ h => hpan _ _ _ _ _ h) (Or.inl ⟨by rfl, ?_⟩) ?_ ?_
  rotate_left
  · intro w'
    go_simp
    with_reducible rfl
  rotate_left
  · simp only [Act.put, List.setIfInBounds_toArray, List.set_cons_zero, List.set_cons_succ, i64_w, i32_w]
    rfl
  refine pure_ (i := 15) (N := some 52) (v := ?_) (a' := ?_) #[true, false, true, false, true, false, false, true, false, false, false, true, true, true, true, true, false, false, false, false, false, false, false, false, false, false, false, false, false] rfl rfl (any_of HT_.out (by kernel_rfl)) (fun _ _ _ h => hpan _ _ _ _ _ h) (Or.inl ⟨by rfl, ?_⟩) ?_ ?_
  rotate_left
  · intro w'
    go_simp
    with_reducible rfl
  rotate_left
  · simp only [Act.put, List.setIfInBounds_toArray, List.set_cons_zero, List.set_cons_succ, i64_w, i32_w]
    rfl
  refine pure_ (i := 16) (N := some 53) (v := ?_) (a' := ?_) #[true, false, true, false, true, false, false, true, false, false, false, true, true, true, true, true, true, false, false, false, false, false, false, false, false, false, false, false, false] rfl rfl (any_of HT_.out (by kernel_rfl)) (fun _ _ _ h => hpan _ _ _ _ _ h) (Or.inl ⟨by rfl, ?_⟩) ?_ ?_
  rotate_left
  · intro w'
    go_simp
    with_reducible rfl
  rotate_left
  · simp only [Act.put, List.setIfInBounds_toArray, List.set_cons_zero, List.set_cons_succ, i64_w, i32_w]
    rfl
  refine pure_ (i := 17) (N := some 54) (v := ?_) (a' := ?_) #[true, false, true, false, true, false, false, true, false, false, false, true, true, true, true, true, true, true, false, false, false, false, false, false, false, false, false, false, false] rfl rfl (any_of HT_.out (by kernel_rfl)) (fun _ _ _ h => hpan _ _ _ _ _ h) (Or.inl ⟨by rfl, ?_⟩) ?_ ?_
  rotate_left
  · intro w'
    go_simp
    with_reducible rfl
  rotate_left
  · simp only [Act.put, List.setIfInBounds_toArray, List.set_cons_zero, List.set_cons_succ, i64_w, i32_w]
    rfl
  refine pure_ (i := 18) (N := some 55) (v := ?_) (a' := ?_) #[true, false, true, false, true, false, false, true, false, false, false, true, true, true, true, true, true, true, true, false, false, false, false, false, false, false, false, false, false] rfl rfl (any_of HT_.out (by kernel_rfl)) (fun _ _ _ h => hpan _ _ _ _ _ h) (Or.inl ⟨by rfl, ?_⟩) ?_ ?_
  rotate_left
  · intro w'
    go_simp
    with_reducible rfl
  rotate_left
  · simp only [Act.put, List.setIfInBounds_toArray, List.set_cons_zero, List.set_cons_succ, i64_w, i32_w]
    rfl
  refine pure_ (i := 20) (N := some 57) (v := ?_) (a' := ?_) #[true, false, true, false, true, false, false, true, false, false, false, true, true, true, true, true, true, true, true, false, true, false, false, false, false, false, false, false, false] rfl rfl (any_of HT_.out (by kernel_rfl)) (fun _ _ _ h => hpan _ _ _ _ _ h) (Or.inl ⟨by rfl, ?_⟩) ?_ ?_
  rotate_left
  · intro w'
    go_simp
    with_reducible rfl
  rotate_left
  · simp only [Act.put, List.setIfInBounds_toArray, List.set_cons_zero, List.set_cons_succ, i64_w, i32_w]
    rfl
  refine pure_ (i := 21) (N := some 58) (v := ?_) (a' := ?_) #[true, false, true, false, true, false, false, true, false, false, false, true, true, true, true, true, true, true, true, false, true, true, false, false, false, false, false, false, false] rfl rfl (any_of HT_.out (by kernel_rfl)) (fun _ _ _ h => hpan _ _ _ _ _ h) (Or.inl ⟨by rfl, ?_⟩) ?_ ?_
  rotate_left
  · intro w'
    go_simp
    with_reducible rfl
  rotate_left
  · simp only [Act.put, List.setIfInBounds_toArray, List.set_cons_zero, List.set_cons_succ, i64_w, i32_w]
    rfl
  refine pure_ (i := 24) (N := some 61) (v := ?_) (a' := ?_) #[true, false, true, false, true, false, false, true, false, false, false, true, true, true, true, true, true, true, true, false, true, true, false, false, true, false, false, false, false] rfl rfl (any_of HT_.out (by kernel_rfl)) (fun _ _ _ h => hpan _ _ _ _ _ h) (Or.inl ⟨by rfl, ?_⟩) ?_ ?_
  rotate_left
  · intro w'
    go_simp
    with_reducible rfl
  rotate_left
  · simp only [Act.put, List.setIfInBounds_toArray, List.set_cons_zero, List.set_cons_succ, i64_w, i32_w]
    rfl
  refine pure_ (i := 25) (N := some 62) (v := ?_) (a' := ?_) #[true, false, true, false, true, false, false, true, false, false, false, true, true, true, true, true, true, true, true, false, true, true, false, false, true, true, false, false, false] rfl rfl (any_of HT_.out (by kernel_rfl)) (fun _ _ _ h => hpan _ _ _ _ _ h) (Or.inl ⟨by rfl, ?_⟩) ?_ ?_
  rotate_left
  · intro w'
    go_simp
    with_reducible rfl
  rotate_left
  · simp only [Act.put, List.setIfInBounds_toArray, List.set_cons_zero, List.set_cons_succ, i64_w, i32_w]
    rfl
  refine take_ (i := 1) (N := some 38) (v := ?_) (a' := ?_) #[true, true, true, false, true, false, false, true, false, false, false, true, true, true, true, true, true, true, true, false, true, true, false, false, true, true, false, false, false] rfl rfl (take_ofW HT_.out HW_.out (by kernel_rfl)) (fun _ _ _ h => hpan _ _ _ _ _ h) (Or.inl ⟨by rfl, ?_⟩) hHeld ?_ ?_
  rotate_left
  · rintro w' ⟨s0, s1, s2⟩
    go_simp
    with_reducible rfl
  rotate_left
  · simp only [Act.put, List.setIfInBounds_toArray, List.set_cons_zero, List.set_cons_succ, i64_w, i32_w]
    rfl
  refine take_ (i := 22) (N := some 59) (v := ?_) (a' := ?_) #[true, true, true, false, true, false, false, true, false, false, false, true, true, true, true, true, true, true, true, false, true, true, true, false, true, true, false, false, false] rfl rfl (take_ofW HT_.out HW_.out (by kernel_rfl)) (fun _ _ _ h => hpan _ _ _ _ _ h) (Or.inl ⟨by rfl, ?_⟩) hHeld ?_ ?_
  rotate_left
  · rintro w' ⟨s0, s1, s2⟩
    go_simp
    with_reducible rfl
  rotate_left
  · simp only [Act.put, List.setIfInBounds_toArray, List.set_cons_zero, List.set_cons_succ, i64_w, i32_w]
    rfl
  refine take_ (i := 26) (N := some 63) (v := ?_) (a' := ?_) #[true, true, true, false, true, false, false, true, false, false, false, true, true, true, true, true, true, true, true, false, true, true, true, false, true, true, true, false, false] rfl rfl (take_ofW HT_.out HW_.out (by kernel_rfl)) (fun _ _ _ h => hpan _ _ _ _ _ h) (Or.inl ⟨by rfl, ?_⟩) hHeld ?_ ?_
  rotate_left
  · rintro w' ⟨s0, s1, s2⟩
    go_simp
    with_reducible rfl
  rotate_left
  · simp only [Act.put, List.setIfInBounds_toArray, List.set_cons_zero, List.set_cons_succ, i64_w, i32_w]
    rfl
  refine one_ (i := 3) (N := some 40) #[true, true, true, true, true, false, false, true, false, false, false, true, true, true, true, true, true, true, true, false, true, true, true, false, true, true, true, false, false] rfl rfl (one_of HT_.out (by kernel_rfl)) (by decide) (fun K hK => ?_)
  refine goes_ Try.func101 (by kernel_rfl) rfl #[.int .u32 e, .int .i64 6] (by rfl) rfl rfl (by simp only [List.map_toArray, List.map_cons, List.map_nil]; rfl) ?_
  refine (impl_turned.calls _ _ _ _ (turned_6 e)).mono ?_
  rintro e_ wt ⟨rfl, ⟨nd, rfl⟩⟩
  refine ⟨_, rfl, ?_⟩
  refine hK.out _ _ ⟨hHeld.1, hHeld.2.1, hHeld.2.2⟩ (fun hHeld => ?_)
  clear hK K
  refine norm_ (a' := ?_) ?_ ?_
  rotate_left
  · show Act.put _ (some 40) _ = _
    simp only [Act.put, List.setIfInBounds_toArray, List.set_cons_zero, List.set_cons_succ, i64_w, i32_w]
    rfl
  refine one_ (i := 5) (N := some 42) #[true, true, true, true, true, true, false, true, false, false, false, true, true, true, true, true, true, true, true, false, true, true, true, false, true, true, true, false, false] rfl rfl (one_of HT_.out (by kernel_rfl)) (by decide) (fun K hK => ?_)
  refine goes_ Try.func101 (by kernel_rfl) rfl #[.int .u32 e, .int .i64 11] (by rfl) rfl rfl (by simp only [List.map_toArray, List.map_cons, List.map_nil]; rfl) ?_
  refine (impl_turned.calls _ _ _ _ (turned_11 e)).mono ?_
  rintro e_ wt ⟨rfl, ⟨nd, rfl⟩⟩
  refine ⟨_, rfl, ?_⟩
  refine hK.out _ _ ⟨hHeld.1, hHeld.2.1, hHeld.2.2⟩ (fun hHeld => ?_)
  clear hK K
  refine norm_ (a' := ?_) ?_ ?_
  rotate_left
  · show Act.put _ (some 42) _ = _
    simp only [Act.put, List.setIfInBounds_toArray, List.set_cons_zero, List.set_cons_succ, i64_w, i32_w]
    rfl
  refine pure_ (i := 6) (N := some 43) (v := ?_) (a' := ?_) #[true, true, true, true, true, true, true, true, false, false, false, true, true, true, true, true, true, true, true, false, true, true, true, false, true, true, true, false, false] rfl rfl (any_of HT_.out (by kernel_rfl)) (fun _ _ _ h => hpan _ _ _ _ _ h) (Or.inl ⟨by rfl, ?_⟩) ?_ ?_
  rotate_left
  · intro w'
    go_simp
    with_reducible rfl
  rotate_left
  · simp only [Act.put, List.setIfInBounds_toArray, List.set_cons_zero, List.set_cons_succ, i64_w, i32_w]
    rfl
  refine one_ (i := 8) (N := some 45) #[true, true, true, true, true, true, true, true, true, false, false, true, true, true, true, true, true, true, true, false, true, true, true, false, true, true, true, false, false] rfl rfl (one_of HT_.out (by kernel_rfl)) (by decide) (fun K hK => ?_)
  refine goes_ Try.func101 (by kernel_rfl) rfl #[.int .u32 e, .int .i64 25] (by rfl) rfl rfl (by simp only [List.map_toArray, List.map_cons, List.map_nil]; rfl) ?_
  refine (impl_turned.calls _ _ _ _ (turned_25 e)).mono ?_
  rintro e_ wt ⟨rfl, ⟨nd, rfl⟩⟩
  refine ⟨_, rfl, ?_⟩
  refine hK.out _ _ ⟨hHeld.1, hHeld.2.1, hHeld.2.2⟩ (fun hHeld => ?_)
  clear hK K
  refine norm_ (a' := ?_) ?_ ?_
  rotate_left
  · show Act.put _ (some 45) _ = _
    simp only [Act.put, List.setIfInBounds_toArray, List.set_cons_zero, List.set_cons_succ, i64_w, i32_w]
    rfl
  refine pure_ (i := 9) (N := some 46) (v := ?_) (a' := ?_) #[true, true, true, true, true, true, true, true, true, true, false, true, true, true, true, true, true, true, true, false, true, true, true, false, true, true, true, false, false] rfl rfl (any_of HT_.out (by kernel_rfl)) (fun _ _ _ h => hpan _ _ _ _ _ h) (Or.inl ⟨by rfl, ?_⟩) ?_ ?_
  rotate_left
  · intro w'
    go_simp
    with_reducible rfl
  rotate_left
  · simp only [Act.put, List.setIfInBounds_toArray, List.set_cons_zero, List.set_cons_succ, i64_w, i32_w]
    rfl
  refine pure_ (i := 10) (N := some 47) (v := ?_) (a' := ?_) #[true, true, true, true, true, true, true, true, true, true, true, true, true, true, true, true, true, true, true, false, true, true, true, false, true, true, true, false, false] rfl rfl (any_of HT_.out (by kernel_rfl)) (fun _ _ _ h => hpan _ _ _ _ _ h) (Or.inl ⟨by rfl, ?_⟩) ?_ ?_
  rotate_left
  · intro w'
    go_simp
    with_reducible rfl
  rotate_left
  · simp only [Act.put, List.setIfInBounds_toArray, List.set_cons_zero, List.set_cons_succ, i64_w, i32_w]
    rfl
  refine pure_ (i := 19) (N := some 56) (v := ?_) (a' := ?_) #[true, true, true, true, true, true, true, true, true, true, true, true, true, true, true, true, true, true, true, true, true, true, true, false, true, true, true, false, false] rfl rfl (any_of HT_.out (by kernel_rfl)) (fun _ _ _ h => hpan _ _ _ _ _ h) (Or.inl ⟨by rfl, ?_⟩) ?_ ?_
  rotate_left
  · intro w'
    go_simp
    with_reducible rfl
  rotate_left
  · simp only [Act.put, List.setIfInBounds_toArray, List.set_cons_zero, List.set_cons_succ, i64_w, i32_w]
    rfl
  refine pure_ (i := 23) (N := some 60) (v := ?_) (a' := ?_) #[true, true, true, true, true, true, true, true, true, true, true, true, true, true, true, true, true, true, true, true, true, true, true, true, true, true, true, false, false] rfl rfl (any_of HT_.out (by kernel_rfl)) (fun _ _ _ h => hpan _ _ _ _ _ h) (Or.inl ⟨by rfl, ?_⟩) ?_ ?_
  rotate_left
  · intro w'
    go_simp
    with_reducible rfl
  rotate_left
  · simp only [Act.put, List.setIfInBounds_toArray, List.set_cons_zero, List.set_cons_succ, i64_w, i32_w]
    rfl
  refine pure_ (i := 27) (N := some 64) (v := ?_) (a' := ?_) #[true, true, true, true, true, true, true, true, true, true, true, true, true, true, true, true, true, true, true, true, true, true, true, true, true, true, true, true, false] rfl rfl (any_of HT_.out (by kernel_rfl)) (fun _ _ _ h => hpan _ _ _ _ _ h) (Or.inl ⟨by rfl, ?_⟩) ?_ ?_
  rotate_left
  · intro w'
    go_simp
    with_reducible rfl
  rotate_left
  · simp only [Act.put, List.setIfInBounds_toArray, List.set_cons_zero, List.set_cons_succ, i64_w, i32_w]
    rfl
  refine pure_ (i := 28) (N := some 16) (v := ?_) (a' := ?_) #[true, true, true, true, true, true, true, true, true, true, true, true, true, true, true, true, true, true, true, true, true, true, true, true, true, true, true, true, true] rfl rfl (any_of HT_.out (by kernel_rfl)) (fun _ _ _ h => hpan _ _ _ _ _ h) (Or.inl ⟨by rfl, ?_⟩) ?_ ?_
  rotate_left
  · intro w'
    go_simp
    with_reducible rfl
  rotate_left
  · simp only [Act.put, List.setIfInBounds_toArray, List.set_cons_zero, List.set_cons_succ, i64_w, i32_w]
    rfl
  refine done_ (done_of HT_.out (by kernel_rfl)) ?_

  rw [show (if IntKind.u32.signed = true then (-1 : Int) else IntKind.u32.max) = IntKind.u32.max from rfl]
  rw [show IntKind.u32.wrap (IntKind.u32.wrap (IntKind.u32.wrap (IntKind.u32.wrap (y7 + Go.bits .xor .u32 (Go.bits .xor .u32 (tn e 6) (tn e 11)) (tn e 25)) + Go.bits .or .u32 (Go.bits .and .u32 e f) (Go.bits .and .u32 (Go.bits .xor .u32 IntKind.u32.max e) g)) + kx) + wx_) = pp e f g y7 kx wx_ by unfold pp; simp only [IntKind.wrap_u32]; omega]
  refine hQ.out _ _ _ _ _ _ _ _ _ _ _ _ _ _ _ _ _ _ _ _ _ _ _ _ _ _ _ _ _ ?_
  repeat (first | exact Drawn0.refl _ | apply Drawn0.step)
set_option maxHeartbeats 16000000 in
set_option maxRecDepth 100000 in
theorem blockHash_r7 {Q : Exit → Act → World → Prop} (u0 u1 u2 u3 u4 u5 u6 u7 u8 u9 u13 u14 u15 u16 u17 u18 u19 u20 u21 u22 u23 u24 u25 u26 u27 u28 u29 u30 u31 u32 u33 u34 u35 u36 u37 u38 u39 u40 u41 u42 u43 u44 u45 u46 u47 u48 u49 u50 u51 u52 u53 u54 u55 u56 u57 u58 u59 u60 u61 u62 u63 u64 u65 u66 u67 u68 u69 u70 u71 u72 u73 u74 u75 u76 u77 u78 u79 u80 u81 u82 u83 u84 u85 u86 u87 u88 u89 u90 u91 u92 u93 u94 u95 u96 u97 u98 u99 u100 u101 u102 u103 u104 u105 u106 u107 u108 u109 u110 u111 u112 : Value) (a b c : Int) (wr : World) 
    (hQ : Aside0 (∀ (v65 v66 v67 v68 v69 v70 v71 v72 v73 v74 v75 v76 v77 v78 v79 v80 v81 v82 v83 v84 : Value) (w' : World), Drawn0 wr w' → Q .normal ⟨List.toArray (u0 :: u1 :: u2 :: u3 :: u4 :: u5 :: u6 :: u7 :: u8 :: u9 :: .int .u32 a :: .int .u32 b :: .int .u32 c :: u13 :: u14 :: u15 :: u16 :: .int .u32 (qq a b c) :: u18 :: u19 :: u20 :: u21 :: u22 :: u23 :: u24 :: u25 :: u26 :: u27 :: u28 :: u29 :: u30 :: u31 :: u32 :: u33 :: u34 :: u35 :: u36 :: u37 :: u38 :: u39 :: u40 :: u41 :: u42 :: u43 :: u44 :: u45 :: u46 :: u47 :: u48 :: u49 :: u50 :: u51 :: u52 :: u53 :: u54 :: u55 :: u56 :: u57 :: u58 :: u59 :: u60 :: u61 :: u62 :: u63 :: u64 :: v65 :: v66 :: v67 :: v68 :: v69 :: v70 :: v71 :: v72 :: v73 :: v74 :: v75 :: v76 :: v77 :: v78 :: v79 :: v80 :: v81 :: v82 :: v83 :: v84 :: u85 :: u86 :: u87 :: u88 :: u89 :: u90 :: u91 :: u92 :: u93 :: u94 :: u95 :: u96 :: u97 :: u98 :: u99 :: u100 :: u101 :: u102 :: u103 :: u104 :: u105 :: u106 :: u107 :: u108 :: u109 :: u110 :: u111 :: u112 :: []), []⟩ w')) :
    Code.wp Try.prog (Code.region 7 (opsOf Try.f74 7) false) Q ⟨List.toArray (u0 :: u1 :: u2 :: u3 :: u4 :: u5 :: u6 :: u7 :: u8 :: u9 :: .int .u32 a :: .int .u32 b :: .int .u32 c :: u13 :: u14 :: u15 :: u16 :: u17 :: u18 :: u19 :: u20 :: u21 :: u22 :: u23 :: u24 :: u25 :: u26 :: u27 :: u28 :: u29 :: u30 :: u31 :: u32 :: u33 :: u34 :: u35 :: u36 :: u37 :: u38 :: u39 :: u40 :: u41 :: u42 :: u43 :: u44 :: u45 :: u46 :: u47 :: u48 :: u49 :: u50 :: u51 :: u52 :: u53 :: u54 :: u55 :: u56 :: u57 :: u58 :: u59 :: u60 :: u61 :: u62 :: u63 :: u64 :: u65 :: u66 :: u67 :: u68 :: u69 :: u70 :: u71 :: u72 :: u73 :: u74 :: u75 :: u76 :: u77 :: u78 :: u79 :: u80 :: u81 :: u82 :: u83 :: u84 :: u85 :: u86 :: u87 :: u88 :: u89 :: u90 :: u91 :: u92 :: u93 :: u94 :: u95 :: u96 :: u97 :: u98 :: u99 :: u100 :: u101 :: u102 :: u103 :: u104 :: u105 :: u106 :: u107 :: u108 :: u109 :: u110 :: u111 :: u112 :: []), []⟩ wr := by
  conv => arg 2; arg 2; whnf
  go_wp2_with fail
  refine (impl_turned.calls _ _ _ _ (turned_2 a)).mono ?_
  rintro e_ w' ⟨rfl, ⟨n1, rfl⟩⟩
  go_wp2_with fail
  refine (impl_turned.calls _ _ _ _ (turned_13 a)).mono ?_
  rintro e_ w' ⟨rfl, ⟨n2, rfl⟩⟩
  go_wp2_with fail
  refine (impl_turned.calls _ _ _ _ (turned_22 a)).mono ?_
  rintro e_ w' ⟨rfl, ⟨n3, rfl⟩⟩
  go_wp2
  refine hQ.out _ _ _ _ _ _ _ _ _ _ _ _ _ _ _ _ _ _ _ _ _ ?_
  repeat (first | exact Drawn0.refl _ | apply Drawn0.step)
set_option maxHeartbeats 16000000 in
set_option maxRecDepth 100000 in
theorem blockHash_r8 {Q : Exit → Act → World → Prop} (u0 u1 u2 u3 u4 u5 u6 u8 u9 u18 u19 u20 u21 u22 u23 u24 u25 u26 u27 u28 u29 u30 u31 u32 u33 u34 u35 u36 u37 u38 u39 u40 u41 u42 u43 u44 u45 u46 u47 u48 u49 u50 u51 u52 u53 u54 u55 u56 u57 u58 u59 u60 u61 u62 u63 u64 u65 u66 u67 u68 u69 u70 u71 u72 u73 u74 u75 u76 u77 u78 u79 u80 u81 u82 u83 u84 u85 u86 u87 u88 u89 u90 u91 u92 u93 u94 u95 u96 u97 u98 u99 u100 u101 u102 u103 u104 u105 u106 u107 u108 u109 u110 u111 u112 : Value) (g7 : Nat) (V : List Int) (a b c e f g p q : Int) (wr : World) (H7 : Aside0 (Has wr g7 96 V)) (HV : Aside0 (V.length = 8))
    (hQ : Aside0 (∀ (v85 v86 v87 v88 v89 v90 v91 v92 v93 v94 v95 v96 v97 v98 : Value) (w' : World), Has w' g7 96 [(p + q) % 4294967296, a, b, c, (rd V 3 + p) % 4294967296, e, f, g] → (∀ b, b ≤ g7 → Below b wr w') → (∀ k, k ≠ g7 → w'.heap[k]? = wr.heap[k]?) → Q .normal ⟨List.toArray (u0 :: u1 :: u2 :: u3 :: u4 :: u5 :: u6 :: .pointer (some ⟨g7, 0, none⟩) :: u8 :: u9 :: .int .u32 a :: .int .u32 b :: .int .u32 c :: .int .u32 e :: .int .u32 f :: .int .u32 g :: .int .u32 p :: .int .u32 q :: u18 :: u19 :: u20 :: u21 :: u22 :: u23 :: u24 :: u25 :: u26 :: u27 :: u28 :: u29 :: u30 :: u31 :: u32 :: u33 :: u34 :: u35 :: u36 :: u37 :: u38 :: u39 :: u40 :: u41 :: u42 :: u43 :: u44 :: u45 :: u46 :: u47 :: u48 :: u49 :: u50 :: u51 :: u52 :: u53 :: u54 :: u55 :: u56 :: u57 :: u58 :: u59 :: u60 :: u61 :: u62 :: u63 :: u64 :: u65 :: u66 :: u67 :: u68 :: u69 :: u70 :: u71 :: u72 :: u73 :: u74 :: u75 :: u76 :: u77 :: u78 :: u79 :: u80 :: u81 :: u82 :: u83 :: u84 :: v85 :: v86 :: v87 :: v88 :: v89 :: v90 :: v91 :: v92 :: v93 :: v94 :: v95 :: v96 :: v97 :: v98 :: u99 :: u100 :: u101 :: u102 :: u103 :: u104 :: u105 :: u106 :: u107 :: u108 :: u109 :: u110 :: u111 :: u112 :: []), []⟩ w')) :
    Code.wp Try.prog (Code.region 8 (opsOf Try.f74 8) false) Q ⟨List.toArray (u0 :: u1 :: u2 :: u3 :: u4 :: u5 :: u6 :: .pointer (some ⟨g7, 0, none⟩) :: u8 :: u9 :: .int .u32 a :: .int .u32 b :: .int .u32 c :: .int .u32 e :: .int .u32 f :: .int .u32 g :: .int .u32 p :: .int .u32 q :: u18 :: u19 :: u20 :: u21 :: u22 :: u23 :: u24 :: u25 :: u26 :: u27 :: u28 :: u29 :: u30 :: u31 :: u32 :: u33 :: u34 :: u35 :: u36 :: u37 :: u38 :: u39 :: u40 :: u41 :: u42 :: u43 :: u44 :: u45 :: u46 :: u47 :: u48 :: u49 :: u50 :: u51 :: u52 :: u53 :: u54 :: u55 :: u56 :: u57 :: u58 :: u59 :: u60 :: u61 :: u62 :: u63 :: u64 :: u65 :: u66 :: u67 :: u68 :: u69 :: u70 :: u71 :: u72 :: u73 :: u74 :: u75 :: u76 :: u77 :: u78 :: u79 :: u80 :: u81 :: u82 :: u83 :: u84 :: u85 :: u86 :: u87 :: u88 :: u89 :: u90 :: u91 :: u92 :: u93 :: u94 :: u95 :: u96 :: u97 :: u98 :: u99 :: u100 :: u101 :: u102 :: u103 :: u104 :: u105 :: u106 :: u107 :: u108 :: u109 :: u110 :: u111 :: u112 :: []), []⟩ wr := by
  conv => arg 2; arg 2; whnf
  have c3 := H7.out.cell 3 (by rw [HV.out]; decide)
  go_wp2_with (first
    | ((with_reducible refine gate_dst (N := 98) rfl ?_); refine ar_build rfl rfl (L := [(p + q) % 4294967296, a, b, c, (rd V 3 + p) % 4294967296, e, f, g]) (by simp only [List.map_toArray, List.map_cons, List.map_nil, Act.eval, Act.put]; exact built8 _ _ _ _ _ _ _ _) ?_)
    | ((with_reducible refine gate_store rfl ?_); refine ar_store rfl rfl rfl rfl rfl H7.out (by kernel_rfl) (by rw [HV.out]; rfl) ?_; rintro w7 H7' b7 z7 f7; replace z7 := Aside0.mk z7))
  refine hQ.out _ _ _ _ _ _ _ _ _ _ _ _ _ _ _ H7' b7 f7
set_option maxHeartbeats 16000000 in
set_option maxRecDepth 100000 in
theorem blockHash_r13 {Q : Exit → Act → World → Prop} (u0 u1 u2 u4 u5 u6 u8 u9 u10 u11 u12 u13 u14 u15 u16 u17 u19 u20 u21 u22 u23 u24 u25 u26 u27 u28 u29 u30 u31 u32 u33 u34 u35 u36 u37 u38 u39 u40 u41 u42 u43 u44 u45 u46 u47 u48 u49 u50 u51 u52 u53 u54 u55 u56 u57 u58 u59 u60 u61 u62 u63 u64 u65 u66 u67 u68 u69 u70 u71 u72 u73 u74 u75 u76 u77 u78 u79 u80 u81 u82 u83 u84 u85 u86 u87 u88 u89 u90 u91 u92 u93 u94 u95 u96 u97 u98 u99 u100 u101 u102 u103 u104 u105 u106 u107 u108 u109 u110 u111 u112 : Value) (g3 g7 : Nat) (y cu cv : Int) (wr : World) (px : (0 ≤ y) = True) (qx : (y < 8) = True) (c7 : wr.cell? ⟨g7, y.toNat, none⟩ = some (.int .u32 cu)) (c3 : wr.cell? ⟨g3, y.toNat, none⟩ = some (.int .u32 cv)) (hf : wr.frozen? ⟨g7, y.toNat, none⟩ = false)
    (hpan : ∀ c a t v w, Q (.panic c) (Act.put a (some t) v) w → Q (.panic c) a w) (hQ : Aside0 (∀ (v103 v104 v105 v106 v107 v108 v109 v110 : Value) (w' : World), w' = (wr.setCell ⟨g7, y.toNat, none⟩ (.int .u32 ((cu + cv) % 4294967296))).drew → Q .normal ⟨List.toArray (u0 :: u1 :: u2 :: .pointer (some ⟨g3, 0, none⟩) :: u4 :: u5 :: u6 :: .pointer (some ⟨g7, 0, none⟩) :: u8 :: u9 :: u10 :: u11 :: u12 :: u13 :: u14 :: u15 :: u16 :: u17 :: .int .i64 y :: u19 :: u20 :: u21 :: u22 :: u23 :: u24 :: u25 :: u26 :: u27 :: u28 :: u29 :: u30 :: u31 :: u32 :: u33 :: u34 :: u35 :: u36 :: u37 :: u38 :: u39 :: u40 :: u41 :: u42 :: u43 :: u44 :: u45 :: u46 :: u47 :: u48 :: u49 :: u50 :: u51 :: u52 :: u53 :: u54 :: u55 :: u56 :: u57 :: u58 :: u59 :: u60 :: u61 :: u62 :: u63 :: u64 :: u65 :: u66 :: u67 :: u68 :: u69 :: u70 :: u71 :: u72 :: u73 :: u74 :: u75 :: u76 :: u77 :: u78 :: u79 :: u80 :: u81 :: u82 :: u83 :: u84 :: u85 :: u86 :: u87 :: u88 :: u89 :: u90 :: u91 :: u92 :: u93 :: u94 :: u95 :: u96 :: u97 :: u98 :: u99 :: u100 :: u101 :: u102 :: v103 :: v104 :: v105 :: v106 :: v107 :: v108 :: v109 :: v110 :: u111 :: u112 :: []), []⟩ w')) :
    Code.wp Try.prog (Code.region 13 (opsOf Try.f74 13) true) Q ⟨List.toArray (u0 :: u1 :: u2 :: .pointer (some ⟨g3, 0, none⟩) :: u4 :: u5 :: u6 :: .pointer (some ⟨g7, 0, none⟩) :: u8 :: u9 :: u10 :: u11 :: u12 :: u13 :: u14 :: u15 :: u16 :: u17 :: .int .i64 y :: u19 :: u20 :: u21 :: u22 :: u23 :: u24 :: u25 :: u26 :: u27 :: u28 :: u29 :: u30 :: u31 :: u32 :: u33 :: u34 :: u35 :: u36 :: u37 :: u38 :: u39 :: u40 :: u41 :: u42 :: u43 :: u44 :: u45 :: u46 :: u47 :: u48 :: u49 :: u50 :: u51 :: u52 :: u53 :: u54 :: u55 :: u56 :: u57 :: u58 :: u59 :: u60 :: u61 :: u62 :: u63 :: u64 :: u65 :: u66 :: u67 :: u68 :: u69 :: u70 :: u71 :: u72 :: u73 :: u74 :: u75 :: u76 :: u77 :: u78 :: u79 :: u80 :: u81 :: u82 :: u83 :: u84 :: u85 :: u86 :: u87 :: u88 :: u89 :: u90 :: u91 :: u92 :: u93 :: u94 :: u95 :: u96 :: u97 :: u98 :: u99 :: u100 :: u101 :: u102 :: u103 :: u104 :: u105 :: u106 :: u107 :: u108 :: u109 :: u110 :: u111 :: u112 :: []), []⟩ wr := by
  conv => arg 2; arg 2; whnf
  refine start_ (n := 9) (S := fun w' => w'.cell? ⟨g7, y.toNat, none⟩ = some (.int .u32 cu) ∧ w'.cell? ⟨g3, y.toNat, none⟩ = some (.int .u32 cv)) (ds := [8]) #[false, false, false, false, false, false, false, false, false] (by kernel_rfl) rfl rfl ⟨c7, c3⟩ (fun hHeld => ?_)
  refine pure_ (i := 0) (N := some 103) (v := ?_) (a' := ?_) #[true, false, false, false, false, false, false, false, false] rfl rfl (by kernel_rfl) (fun _ _ _ h => hpan _ _ _ _ _ h) (Or.inl ⟨by rfl, ?_⟩) ?_ ?_
  rotate_left
  · intro w'
    go_simp
    with_reducible rfl
  rotate_left
  · simp only [Act.put, List.setIfInBounds_toArray, List.set_cons_zero, List.set_cons_succ, i64_w, i32_w]
    rfl
  refine pure_ (i := 1) (N := some 104) (v := ?_) (a' := ?_) #[true, true, false, false, false, false, false, false, false] rfl rfl (by kernel_rfl) (fun _ _ _ h => hpan _ _ _ _ _ h) (Or.inl ⟨by rfl, ?_⟩) ?_ ?_
  rotate_left
  · intro w'
    go_simp
    with_reducible rfl
  rotate_left
  · simp only [Act.put, List.setIfInBounds_toArray, List.set_cons_zero, List.set_cons_succ, i64_w, i32_w]
    rfl
  refine pure_ (i := 3) (N := some 106) (v := ?_) (a' := ?_) #[true, true, false, true, false, false, false, false, false] rfl rfl (by kernel_rfl) (fun _ _ _ h => hpan _ _ _ _ _ h) (Or.inl ⟨by rfl, ?_⟩) ?_ ?_
  rotate_left
  · intro w'
    go_simp
    with_reducible rfl
  rotate_left
  · simp only [Act.put, List.setIfInBounds_toArray, List.set_cons_zero, List.set_cons_succ, i64_w, i32_w]
    rfl
  refine pure_ (i := 4) (N := some 107) (v := ?_) (a' := ?_) #[true, true, false, true, true, false, false, false, false] rfl rfl (by kernel_rfl) (fun _ _ _ h => hpan _ _ _ _ _ h) (Or.inl ⟨by rfl, ?_⟩) ?_ ?_
  rotate_left
  · intro w'
    go_simp
    with_reducible rfl
  rotate_left
  · simp only [Act.put, List.setIfInBounds_toArray, List.set_cons_zero, List.set_cons_succ, i64_w, i32_w]
    rfl
  refine take_ (i := 2) (N := some 105) (v := ?_) (a' := ?_) #[true, true, true, true, true, false, false, false, false] rfl rfl (by kernel_rfl) (fun _ _ _ h => hpan _ _ _ _ _ h) (Or.inl ⟨by rfl, ?_⟩) hHeld ?_ ?_
  rotate_left
  · rintro w' ⟨s0, s1⟩
    go_simp
    with_reducible rfl
  rotate_left
  · simp only [Act.put, List.setIfInBounds_toArray, List.set_cons_zero, List.set_cons_succ, i64_w, i32_w]
    rfl
  refine take_ (i := 5) (N := some 108) (v := ?_) (a' := ?_) #[true, true, true, true, true, true, false, false, false] rfl rfl (by kernel_rfl) (fun _ _ _ h => hpan _ _ _ _ _ h) (Or.inl ⟨by rfl, ?_⟩) hHeld ?_ ?_
  rotate_left
  · rintro w' ⟨s0, s1⟩
    go_simp
    with_reducible rfl
  rotate_left
  · simp only [Act.put, List.setIfInBounds_toArray, List.set_cons_zero, List.set_cons_succ, i64_w, i32_w]
    rfl
  refine pure_ (i := 6) (N := some 109) (v := ?_) (a' := ?_) #[true, true, true, true, true, true, true, false, false] rfl rfl (by kernel_rfl) (fun _ _ _ h => hpan _ _ _ _ _ h) (Or.inl ⟨by rfl, ?_⟩) ?_ ?_
  rotate_left
  · intro w'
    go_simp
    with_reducible rfl
  rotate_left
  · simp only [Act.put, List.setIfInBounds_toArray, List.set_cons_zero, List.set_cons_succ, i64_w, i32_w]
    rfl
  refine pure_ (i := 7) (N := some 110) (v := ?_) (a' := ?_) #[true, true, true, true, true, true, true, true, false] rfl rfl (by kernel_rfl) (fun _ _ _ h => hpan _ _ _ _ _ h) (Or.inl ⟨by rfl, ?_⟩) ?_ ?_
  rotate_left
  · intro w'
    go_simp
    with_reducible rfl
  rotate_left
  · simp only [Act.put, List.setIfInBounds_toArray, List.set_cons_zero, List.set_cons_succ, i64_w, i32_w]
    rfl
  refine last_ (i := 8) (N := none) #[true, true, true, true, true, true, true, true, true] rfl rfl (by kernel_rfl) (by decide) (fun K hK => ?_)
  refine skip_ (w1 := ?_) (by rfl) rfl ?_ ?_
  rotate_left
  · go_simp
    rfl
  refine hK.out _ _ ?_
  clear hK K
  refine done_ (by kernel_rfl) ?_

  refine hQ.out _ _ _ _ _ _ _ _ _ ?_
  simp only [IntKind.wrap_u32]
set_option maxHeartbeats 16000000 in
set_option maxRecDepth 100000 in
theorem impl_blockHash.calls (V0 K : List Int) (s : ByteArray) (w : World) (hs : s.size = 64) (hv : V0.length = 8) (hk : K.length = 64) :
    Calls Try.prog 74 #[.agg (cl V0), .agg (cl K), .string s] w fun e w' => e = .returned (.agg (cl (blk V0 K s))) ∧ Below w.heap.size w w' := by
  have HS := Aside0.mk hs
  have HV0 := Aside0.mk hv
  have HKL := Aside0.mk hk
  obtain ⟨Wl, hWl⟩ : ∃ L, L = wl s 64 := ⟨_, rfl⟩
  have HWO : Aside0 (∀ W, Calls Try.prog 100 #[.string s] W fun e w' => e = .returned (.agg (cl Wl)) ∧ Below W.heap.size W w') := ⟨fun W => by rw [hWl]; exact impl_wordsOf.calls s W hs⟩
  have HWL := Aside0.mk (show Wl.length = 64 by rw [hWl]; exact wl_len s 64)
  have HWE := Aside0.mk hWl
  clear hs hv hk hWl
  go_enter Try.func74, Try.ntmps74
  go_wp2_with (first
    | ((with_reducible refine gate_dst (N := 3) rfl ?_); refine ar_box rfl rfl (L := V0) rfl ?_; rintro g3 hg3 w1 H1 B1 S1; replace hg3 := Aside0.mk hg3; replace S1 := Aside0.mk S1)
    | ((with_reducible refine gate_dst (N := 4) rfl ?_); refine ar_box rfl rfl (L := K) rfl ?_; rintro g4 hg4 w2 H2 B2 S2; replace hg4 := Aside0.mk hg4; replace S2 := Aside0.mk S2)
    | ((with_reducible refine gate_dst (N := 6) rfl ?_); refine ar_alloc rfl rfl (L := List.replicate 8 0) (by kernel_rfl) ?_; rintro g6 hg6 w3 H3 B3 S3; replace hg6 := Aside0.mk hg6; replace S3 := Aside0.mk S3))
  have B12 := below_step B1 B2
  have HB := Aside0.mk (below_step B12 B3)
  have HG3 := Aside0.mk ((H1.below B2 H1.lt).below B3 (H1.below B2 H1.lt).lt)
  have HG4 := Aside0.mk (H2.below B3 H2.lt)
  have HG6 := Aside0.mk H3
  have LG := Aside0.mk (show w.heap.size ≤ g3 ∧ g3 < g4 ∧ g4 < g6 ∧ g6 < w3.heap.size by have := hg3.out; have := hg4.out; have := hg6.out; have := S1.out; have := S2.out; have := S3.out; omega)
  clear hg3 hg4 hg6 S1 S2 S3 H1 H2 H3 B1 B2 B3 B12
  replace HB := Aside0.mk HB.out.drew
  replace HG3 := Aside0.mk HG3.out.drew
  replace HG4 := Aside0.mk HG4.out.drew
  replace HG6 := Aside0.mk HG6.out.drew
  replace LG := Aside0.mk (show w.heap.size ≤ g3 ∧ g3 < g4 ∧ g4 < g6 ∧ g6 < w3.drew.heap.size from LG.out)
  refine blockHash_r1 _ _ _ _ _ _ _ _ _ _ _ _ _ _ _ _ _ _ _ _ _ _ _ _ _ _ _ _ _ _ _ _ _ _ _ _ _ _ _ _ _ _ _ _ _ _ _ _ _ _ _ _ _ _ _ _ _ _ _ _ _ _ _ _ _ _ _ _ _ _ _ _ _ _ _ _ _ _ _ _ _ _ _ _ _ _ _ _ _ _ _ _ _ _ _ _ _ _ _ _ _ _ _ _ _ _ _ _ _ _ _ s g3 V0 Wl _ HG3 HV0 HWL HWO _ ⟨rfl⟩ (fun _ _ _ _ _ h => h) ⟨?_⟩
  intro v19 v20 v21
  intro w6 g7 g8 ne78 le7 le8 H75 H86' bf
  generalize w3.drew = wq at *
  have HD := Aside0.mk (show g3 ≠ g4 ∧ g3 ≠ g6 ∧ g3 ≠ g7 ∧ g3 ≠ g8 ∧ g4 ≠ g6 ∧ g4 ≠ g7 ∧ g4 ≠ g8 ∧ g6 ≠ g7 ∧ g6 ≠ g8 ∧ g7 ≠ g8 ∧ w.heap.size ≤ g3 ∧ w.heap.size ≤ g6 ∧ w.heap.size ≤ g7 by have := LG.out; omega)
  have G3 := Aside0.mk (show Has w6 g3 96 V0 from HG3.out.below bf HG3.out.lt)
  have G4 := Aside0.mk (show Has w6 g4 98 K from HG4.out.below bf HG4.out.lt)
  have G6 := Aside0.mk (show Has w6 g6 96 (List.replicate 8 0) from HG6.out.below bf HG6.out.lt)
  have G7 := Aside0.mk (show Has w6 g7 96 V0 from H75)
  have G8 := Aside0.mk H86'
  have GB := Aside0.mk (show Below w.heap.size w w6 from HB.out.trans (bf.mono HB.out.size))
  clear HB HG3 HG4 HG6 LG ne78 le7 le8 H75 H86' bf
  go_wp2
  go_loopg [22] 64 (fun gg s22 wr => ∃ (x : Int), s22 = .int .i64 x ∧ Aside0 (0 ≤ x ∧ x ≤ 64 ∧ 64 - x ≤ gg) ∧ Aside0 (Has wr g7 96 (vl K Wl V0 x.toNat)) ∧ Aside0 (Has wr g3 96 V0) ∧ Aside0 (Has wr g4 98 K) ∧ Aside0 (Has wr g6 96 (List.replicate 8 0)) ∧ Aside0 (Has wr g8 98 Wl) ∧ Aside0 (Below w.heap.size w wr))
  case atStart => exact ⟨0, rfl, ⟨by omega⟩, G7, G3, G4, G6, G8, GB⟩
  case round =>
    clear G7 G3 G4 G6 G8 GB
    obtain ⟨x, rfl, HX, G7, G3, G4, G6, G8, GB⟩ := hrel
    by_cases hlt : x < 64
    · have hlt1 : decide (x < 64) = true := decide_eq_true hlt
      have px := eq_true (show 0 ≤ x by have := HX.out; omega)
      have qx := eq_true (show x < 64 by omega)
      have VL := Aside0.mk (vl_len K Wl V0 HV0.out x.toNat)
      have VU := Aside0.mk (vl_up K Wl V0 (x := x) (by have := HX.out; omega))
      generalize vl K Wl V0 x.toNat = V at *
      have ck := G4.out.celli x (by have := HX.out; omega) (by rw [HKL.out]; exact hlt)
      have cw := G8.out.celli x (by have := HX.out; omega) (by rw [HWL.out]; exact hlt)
      have c0 := G7.out.cell 0 (by rw [VL.out]; decide)
      have c1 := G7.out.cell 1 (by rw [VL.out]; decide)
      have c2 := G7.out.cell 2 (by rw [VL.out]; decide)
      have c4 := G7.out.cell 4 (by rw [VL.out]; decide)
      have c5 := G7.out.cell 5 (by rw [VL.out]; decide)
      have c6 := G7.out.cell 6 (by rw [VL.out]; decide)
      have c7 := G7.out.cell 7 (by rw [VL.out]; decide)
      obtain ⟨a, ha⟩ : ∃ y, y = rd V 0 := ⟨_, rfl⟩
      obtain ⟨b, hb⟩ : ∃ y, y = rd V 1 := ⟨_, rfl⟩
      obtain ⟨c, hc⟩ : ∃ y, y = rd V 2 := ⟨_, rfl⟩
      obtain ⟨e, he⟩ : ∃ y, y = rd V 4 := ⟨_, rfl⟩
      obtain ⟨f, hf⟩ : ∃ y, y = rd V 5 := ⟨_, rfl⟩
      obtain ⟨g, hg⟩ : ∃ y, y = rd V 6 := ⟨_, rfl⟩
      obtain ⟨y7, hh⟩ : ∃ y, y = rd V 7 := ⟨_, rfl⟩
      obtain ⟨kx, hkx⟩ : ∃ y, y = rd K x := ⟨_, rfl⟩
      obtain ⟨wx_, hwx⟩ : ∃ y, y = rd Wl x := ⟨_, rfl⟩
      have HR := Aside0.mk (show rnd K Wl V x = [(pp e f g y7 kx wx_ + qq a b c) % 4294967296, a, b, c, (rd V 3 + pp e f g y7 kx wx_) % 4294967296, e, f, g] by rw [ha, hb, hc, he, hf, hg, hh, hkx, hwx]; rfl)
      replace c0 : wr.cell? ⟨g7, 0, none⟩ = some (.int .u32 a) := by rw [ha]; exact c0
      replace c1 : wr.cell? ⟨g7, 1, none⟩ = some (.int .u32 b) := by rw [hb]; exact c1
      replace c2 : wr.cell? ⟨g7, 2, none⟩ = some (.int .u32 c) := by rw [hc]; exact c2
      replace c4 : wr.cell? ⟨g7, 4, none⟩ = some (.int .u32 e) := by rw [he]; exact c4
      replace c5 : wr.cell? ⟨g7, 5, none⟩ = some (.int .u32 f) := by rw [hf]; exact c5
      replace c6 : wr.cell? ⟨g7, 6, none⟩ = some (.int .u32 g) := by rw [hg]; exact c6
      replace c7 : wr.cell? ⟨g7, 7, none⟩ = some (.int .u32 y7) := by rw [hh]; exact c7
      rw [← hkx] at ck
      rw [← hwx] at cw
      clear ha hb hc he hf hg hh hkx hwx
      go_wp2
      refine blockHash_r5 _ _ _ _ _ _ _ _ _ _ _ _ _ _ _ _ _ _ _ _ _ _ _ _ _ _ _ _ _ _ _ _ _ _ _ _ _ _ _ _ _ _ _ _ _ _ _ _ _ _ _ _ _ _ _ _ _ _ _ _ _ _ _ _ _ _ _ _ _ _ _ _ _ _ _ _ _ _ _ _ _ _ _ _ _ _ _ _ _ _ _ _ _ _ _ _ _ _ _ _ _ _ _ _ _ _ _ _ _ _ _ _ g7 a b c e f g _ c0 c1 c2 c4 c5 c6 (fun _ _ _ _ _ h => h) ⟨?_⟩
      intro v25 v26 v27 v28 v29 v30 v31 v32 v33 v34 v35 v36
      intro w1 hd1
      obtain ⟨⟨m1, rfl⟩⟩ := hd1
      go_wp2
      refine blockHash_r6 _ _ _ _ _ _ _ _ _ _ _ _ _ _ _ _ _ _ _ _ _ _ _ _ _ _ _ _ _ _ _ _ _ _ _ _ _ _ _ _ _ _ _ _ _ _ _ _ _ _ _ _ _ _ _ _ _ _ _ _ _ _ _ _ _ _ _ _ _ _ _ _ _ _ _ _ _ _ _ _ _ _ _ _ _ _ _ _ _ _ _ _ _ _ _ _ _ _ _ _ _ _ _ _ _ _ g4 g7 g8 x e f g y7 kx wx_ _ px qx c7 ck cw (fun _ _ _ _ _ h => h) ⟨?_⟩
      intro v37 v38 v39 v40 v41 v42 v43 v44 v45 v46 v47 v48 v49 v50 v51 v52 v53 v54 v55 v56 v57 v58 v59 v60 v61 v62 v63 v64
      intro w2 hd2
      obtain ⟨⟨m2, rfl⟩⟩ := hd2
      obtain ⟨p, hp⟩ : ∃ p, p = pp e f g y7 kx wx_ := ⟨_, rfl⟩
      obtain ⟨q, hq⟩ : ∃ q, q = qq a b c := ⟨_, rfl⟩
      rw [← hp, ← hq] at HR
      rw [← hp]
      clear hp
      go_upto_region 7 with (fail)
      refine blockHash_r7 _ _ _ _ _ _ _ _ _ _ _ _ _ _ _ _ _ _ _ _ _ _ _ _ _ _ _ _ _ _ _ _ _ _ _ _ _ _ _ _ _ _ _ _ _ _ _ _ _ _ _ _ _ _ _ _ _ _ _ _ _ _ _ _ _ _ _ _ _ _ _ _ _ _ _ _ _ _ _ _ _ _ _ _ _ _ _ _ _ _ _ _ _ _ _ _ _ _ _ _ _ _ _ _ _ _ _ _ _ _ a b c _ ⟨?_⟩
      intro v65 v66 v67 v68 v69 v70 v71 v72 v73 v74 v75 v76 v77 v78 v79 v80 v81 v82 v83 v84
      intro w3_ hd3
      obtain ⟨⟨m3, rfl⟩⟩ := hd3
      rw [← hq]
      clear hq
      go_upto_region 8 with (fail)
      refine blockHash_r8 _ _ _ _ _ _ _ _ _ _ _ _ _ _ _ _ _ _ _ _ _ _ _ _ _ _ _ _ _ _ _ _ _ _ _ _ _ _ _ _ _ _ _ _ _ _ _ _ _ _ _ _ _ _ _ _ _ _ _ _ _ _ _ _ _ _ _ _ _ _ _ _ _ _ _ _ _ _ _ _ _ _ _ _ _ _ _ _ _ _ _ _ _ _ _ _ _ _ _ _ _ _ _ _ g7 V a b c e f g p q _ ⟨((G7.out.drewN m1).drewN m2).drewN m3⟩ VL ⟨?_⟩
      intro v85 v86 v87 v88 v89 v90 v91 v92 v93 v94 v95 v96 v97 v98
      intro w7 H7 b7 f7
      go_wp2
      go_roundg ((64 - (x + 1)).toNat)
      case measure => have := HX.out; omega
      case rel =>
        have h0 : 0 ≤ x := HX.out.1
        have D := HD.out
        refine ⟨x + 1, ?_, ⟨by have := HX.out; omega⟩, ⟨?_⟩, ⟨?_⟩, ⟨?_⟩, ⟨?_⟩, ⟨?_⟩, ⟨?_⟩⟩
        · (first | rfl | (rw [up_w x h0 (by omega)]))
        · rw [VU.out, HR.out]
          exact H7
        · exact (f7 g3 D.2.2.1).trans (((G3.out.drewN m1).drewN m2).drewN m3)
        · exact (f7 g4 D.2.2.2.2.2.1).trans (((G4.out.drewN m1).drewN m2).drewN m3)
        · exact (f7 g6 D.2.2.2.2.2.2.2.1).trans (((G6.out.drewN m1).drewN m2).drewN m3)
        · exact (f7 g8 D.2.2.2.2.2.2.2.2.2.1.symm).trans (((G8.out.drewN m1).drewN m2).drewN m3)
        · exact (pw_below_drewN (pw_below_drewN (pw_below_drewN GB.out m1) m2) m3).trans (b7 _ D.2.2.2.2.2.2.2.2.2.2.2.2)
    · have hx64 : x = 64 := by have := HX.out; omega
      have hlt1 : decide (x < 64) = false := decide_eq_false hlt
      have HV := Aside0.mk (show vl K Wl V0 x.toNat = vl K Wl V0 64 by rw [hx64]; rfl)
      have VL := Aside0.mk (vl_len K Wl V0 HV0.out x.toNat)
      generalize vl K Wl V0 x.toNat = V at *
      clear hx64 hlt HX
      go_wp2
      go_loopg [100] 8 (fun gg s100 wr2 => ∃ (y : Int), s100 = .int .i64 y ∧ Aside0 (0 ≤ y ∧ y ≤ 8 ∧ 8 - y ≤ gg) ∧ Aside0 (Has wr2 g7 96 (al V0 V y.toNat)) ∧ Aside0 (Has wr2 g3 96 V0) ∧ Aside0 (Has wr2 g6 96 (List.replicate 8 0)) ∧ Aside0 (Below w.heap.size w wr2))
      case atStart => exact ⟨0, rfl, ⟨by omega⟩, G7, G3, G6, GB⟩
      case round =>
        clear G7 G3 G4 G6 G8 GB
        obtain ⟨y, rfl, HX, G7, G3, G6, GB⟩ := hrel
        by_cases hlt : y < 8
        · have hlt1 : decide (y < 8) = true := decide_eq_true hlt
          have px := eq_true (show 0 ≤ y by have := HX.out; omega)
          have qx := eq_true (show y < 8 by omega)
          have AL := Aside0.mk (al_len V0 V VL.out y.toNat)
          have AU := Aside0.mk (al_up V0 V (x := y) (by have := HX.out; omega))
          generalize al V0 V y.toNat = U at *
          have cu := G7.out.celli y (by have := HX.out; omega) (by rw [AL.out]; exact hlt)
          have c0 := G3.out.celli y (by have := HX.out; omega) (by rw [HV0.out]; exact hlt)
          have hf := blk_frozen G7.out y.toNat
          go_wp2
          refine blockHash_r13 _ _ _ _ _ _ _ _ _ _ _ _ _ _ _ _ _ _ _ _ _ _ _ _ _ _ _ _ _ _ _ _ _ _ _ _ _ _ _ _ _ _ _ _ _ _ _ _ _ _ _ _ _ _ _ _ _ _ _ _ _ _ _ _ _ _ _ _ _ _ _ _ _ _ _ _ _ _ _ _ _ _ _ _ _ _ _ _ _ _ _ _ _ _ _ _ _ _ _ _ _ _ _ _ _ _ _ _ _ _ g3 g7 y _ _ _ px qx cu c0 hf (fun _ _ _ _ _ h => h) ⟨?_⟩
          intro v103 v104 v105 v106 v107 v108 v109 v110
          intro w5 hw5
          subst hw5
          go_wp2
          go_roundg ((8 - (y + 1)).toNat)
          case measure => have := HX.out; omega
          case rel =>
            have h0 : 0 ≤ y := HX.out.1
            have D := HD.out
            refine ⟨y + 1, ?_, ⟨by have := HX.out; omega⟩, ⟨?_⟩, ⟨?_⟩, ⟨?_⟩, ⟨?_⟩⟩
            · (first | rfl | (rw [up_w y h0 (by omega)]))
            · rw [AU.out]
              exact (G7.out.set y.toNat _).drew
            · exact (G3.out.far (by exact D.2.2.1) _).drew
            · exact (G6.out.far (by exact D.2.2.2.2.2.2.2.1) _).drew
            · exact (GB.out.setCell D.2.2.2.2.2.2.2.2.2.2.2.2 _).drew
        · have hx8 : y = 8 := by have := HX.out; omega
          have hlt1 : decide (y < 8) = false := decide_eq_false hlt
          have AL := Aside0.mk (al_len V0 V VL.out y.toNat)
          have HA := Aside0.mk (show al V0 V y.toNat = al V0 V 8 by rw [hx8]; rfl)
          generalize al V0 V y.toNat = U at *
          clear hx8 hlt HX
          have HI := Aside0.mk (show (Try.prog.info? 96).map (·.size) = some U.length by rw [AL.out]; kernel_rfl)
          go_wp2_with (first
            | ((with_reducible refine gate_dst (N := 112) rfl ?_); refine ar_load rfl rfl rfl G7.out Try.underlying96 HI.out ?_)
            | ((with_reducible refine gate_store rfl ?_); refine ar_store rfl rfl rfl rfl rfl G6.out HI.out (by rw [AL.out]; rfl) ?_; rintro w9 H9 B9 S9 F9; replace S9 := Aside0.mk S9))
          (try simp only [Exit.inBlock, Exit.then])
          refine bodyPost_ret (v := .agg (cl U)) ?_ rfl ?_
          · exact results_cell_row (P := Try.prog) rfl _ w9 g6 96 (cl U) (0, 0) _ rfl H9 Try.underlying96 rfl (by rw [cl_size]; exact HI.out)
          · refine ⟨?_, GB.out.trans (B9 _ HD.out.2.2.2.2.2.2.2.2.2.2.2.1)⟩
            rw [HA.out, HV.out, HWE.out]
            rfl
end Go.Proofs.Ytjmfkhjhhohnkaa.T
