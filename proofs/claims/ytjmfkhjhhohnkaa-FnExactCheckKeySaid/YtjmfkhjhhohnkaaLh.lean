/- spec.l01Hash: the padding, the blocks, the bytes of the eight words. (Its drawing region was printed by wip/gen/gen_lh.py over the kit's regions.py.) -/
import Derived.Test.YtjmfkhjhhohnkaaT1
import Derived.Test.YtjmfkhjhhohnkaaLk
import Derived.Test.YtjmfkhjhhohnkaaHa
namespace Go.Proofs.Ytjmfkhjhhohnkaa.T
open Go.RowKit Go.Proofs.YtjmfkhjhhohnkaaW.PrintWords Go.Proofs.YtjmfkhjhhohnkaaW.PrintLast Go.Proofs.YtjmfkhjhhohnkaaW.PrintMore Go.Proofs.Ytjmfkhjhhohnkaa.Ar
set_option linter.unusedVariables false
set_option linter.unusedSimpArgs false
def zn (b : List Int) : Nat := (119 - b.length % 64) % 64
/-- The last bytes: of eight times the length, the highest first: so many of them. -/
def eb (n : Int) : Nat → List Int
  | 0 => []
  | i + 1 => eb n i ++ [(8 * n / 2 ^ (8 * (7 - i))) % 256]
def pd (b : List Int) : List Int := b ++ [128] ++ List.replicate (zn b) 0 ++ eb b.length 8
theorem eb_len (n : Int) : ∀ i, (eb n i).length = i
  | 0 => rfl
  | i + 1 => by rw [eb, List.length_append, eb_len n i]; rfl
/-- These bytes lie at the head of block g. -/
def Row8 (w : World) (g : Nat) (T : List Int) : Prop := ∀ i : Int, 0 ≤ i → i < (T.length : Int) → w.cell? ⟨g, i.toNat, none⟩ = some (.int .u8 (rd T i))
theorem Row8.same {w w' : World} {g : Nat} {T : List Int} (h : Row8 w g T) (hb : w'.heap[g]? = w.heap[g]?) : Row8 w' g T := fun i h0 h1 => (World.cell?_of_block (w := w) hb).trans (h i h0 h1)
/-- The words behind so many blocks. -/
def sh (T : List Int) : Nat → List Int
  | 0 => H0
  | j + 1 => sblk (sh T j) K0 ((T.drop (64 * j)).take 64)
theorem sh_len (T : List Int) : ∀ j, (sh T j).length = 8
  | 0 => H0_len
  | j + 1 => sal_len _ _ (sh_len T j) 8
theorem sh_up (T : List Int) {x : Int} (h0 : 0 ≤ x) (hm : x % 64 = 0) : sh T ((x + 64) / 64).toNat = sblk (sh T (x / 64).toNat) K0 ((T.drop x.toNat).take 64) := by
  rw [show ((x + 64) / 64).toNat = (x / 64).toNat + 1 by omega, sh, show 64 * (x / 64).toNat = x.toNat by omega]
theorem Row.toC {w : World} {g : Nat} {L : List Int} (h : Row w g L) (hl : L.length = 8) : Kd.C (Kd.int .u32) w (some ⟨g, 0, none⟩) 8 L := by
  refine ⟨hl, by decide, fun _ => ⟨⟨g, 0, none⟩, rfl, fun j p hj => ⟨[.int .u32 p], rfl, rfl, fun i u hi => ?_⟩⟩⟩
  obtain ⟨hjl, hjp⟩ := List.getElem?_eq_some_iff.1 hj
  have hi0 : i = 0 := by
    have := (List.getElem?_eq_some_iff.1 hi).1
    simpa using this
  subst hi0
  have hu : u = .int .u32 p := by simpa using hi.symm
  subst hu
  have := (h j hjl).1
  rw [add_plain]
  show w.cell? ⟨g, j * 1 + 0, none⟩ = _
  rw [Nat.mul_one, Nat.add_zero, this]
  simp [rd, List.getD, hj]
theorem rd_cut (T : List Int) (x j : Nat) (hj : j < 64) : rd ((T.drop x).take 64) (j : Int) = rd T ((x + j : Nat) : Int) := by
  have h1 : ((x : Int) + (j : Int)).toNat = x + j := by omega
  simp [rd, List.getD, List.getElem?_take, List.getElem?_drop, hj, h1]
theorem add_at (g o j : Nat) : (⟨g, o, none⟩ : Addr).add j = ⟨g, o + j, none⟩ := by unfold Addr.add; split <;> simp_all
def so (V : List Int) : Nat → List Int
  | 0 => []
  | i + 1 => so V i ++ [rd V i / 16777216 % 256, rd V i / 65536 % 256, rd V i / 256 % 256, rd V i % 256]
theorem so_len (V : List Int) : ∀ i, (so V i).length = 4 * i
  | 0 => rfl
  | i + 1 => by rw [so, List.length_append, so_len V i]; rfl
theorem so_up (V : List Int) {x : Int} (h0 : 0 ≤ x) : so V (x + 1).toNat = so V x.toNat ++ [rd V x / 16777216 % 256, rd V x / 65536 % 256, rd V x / 256 % 256, rd V x % 256] := by
  rw [show (x + 1).toNat = x.toNat + 1 by omega, so, show ((x.toNat : Nat) : Int) = x by omega]
def ssha (b : List Int) : ByteArray := strOfNums (so (sh (pd b) ((pd b).length / 64)) 8)
theorem lit4 {ops : Array Oper} {o : Oper} {a : Act} {Q : Exit → Act → World → Prop} {w : World} {N : Option Tmp} {K : Act → World → Prop} (hw : Region.wanted o (yielded ops a.tmps) = true) (hN : o.dst = N) {parts : Array (Nat × Operand)} (ho : o.op = .buildSlice 22 4 parts) {y0 y1 y2 y3 : Int}
    (hp : (parts.map fun (i, x) => (i, a.eval x)) = #[(0, .int .u8 y0), (1, .int .u8 y1), (2, .int .u8 y2), (3, .int .u8 y3)])
    (h : ∀ g, g = w.heap.size → ∀ w1, Kd.C (Kd.int .u8) w1 (some ⟨g, 0, none⟩) 4 [y0, y1, y2, y3] → Below w.heap.size w w1 → K (a.put N (.slice (some ⟨g, 0, none⟩) 4 4)) w1) : if Region.wanted o (yielded ops a.tmps) = true then Oper.wp Try.prog o a w K Q else K (a.put N undef) w := by
  have hR : Kd.R (Kd.int .u8) 5 (w.alloc (.cells #[.int .u8 y0, .int .u8 y1, .int .u8 y2, .int .u8 y3] 5)) w.heap.size (fun _ => True) (.slice (some ⟨w.heap.size, 0, none⟩) 4 4) [y0, y1, y2, y3] :=
    Kd.R_of_own (World.ownsRow_lit (base := w.heap.size) (e := 5) (size := 1) w #[.int .u8 y0, .int .u8 y1, .int .u8 y2, .int .u8 y3] 4 (Nat.le_refl _) (by decide) rfl) (fun _ _ => trivial)
  refine value_ (w1 := w.alloc (.cells #[.int .u8 y0, .int .u8 y1, .int .u8 y2, .int .u8 y3] 5)) (v := .slice (some ⟨w.heap.size, 0, none⟩) 4 4) hw hN ?_ (h _ rfl _ (Kd.R_reads' hR).2.2 (below_alloc (Below.refl _ _) _))
  simp only [execOp, ho, hp]
  go_simp
def l01Hash.T18 : Bool × List (List Nat × List Nat) := (true, [([], []), ([], []), ([], []), ([1, 2], [1, 2]), ([3], [3]), ([4], [4]), ([5], [5]), ([], []), ([], []), ([7, 8], [7, 8]), ([9], [9]), ([10], [10]), ([11], [11]), ([], []), ([], []), ([13, 14], [13, 14]), ([15], [15]), ([16], [16]), ([17], [17]), ([], []), ([], []), ([19, 20], [19, 20]), ([21], [21]), ([22], [22]), ([6, 12, 18, 23], [6, 12, 18, 23]), ([0, 24], [0, 24]), ([25, 25, 0, 1, 2, 3, 4, 5, 6, 7, 8, 9, 10, 11, 12, 13, 14, 15, 16, 17, 18, 19, 20, 21, 22, 23, 24, 25], [0, 25])])
def l01Hash.B18 : List Nat := [0, 0, 0, 6, 14, 30, 62, 0, 0, 384, 896, 1920, 3968, 0, 0, 24576, 57344, 122880, 253952, 0, 0, 1572864, 3670016, 7864320, 16777214, 33554431, 67108863]
theorem l01Hash.tab18 : rtab .any (opsOf Try.f37 18) = l01Hash.T18 := by kernel_rfl
theorem l01Hash.bits18 : waitsOk l01Hash.T18.2 l01Hash.B18 = true := by kernel_rfl
set_option maxHeartbeats 16000000 in
set_option maxRecDepth 100000 in
theorem l01Hash_r18 {Q : Exit → Act → World → Prop} (u0 u1 u2 u4 u5 u6 u7 u10 u11 u12 u13 u14 u15 u16 u17 u18 u19 u20 u21 u22 u23 u24 u25 u26 u27 u28 u29 u30 u31 u32 u33 u34 u35 u36 u37 u38 u39 u40 u41 u42 u43 u44 u45 u46 u47 u48 u49 u50 u51 u52 u53 u54 u55 u56 u57 u58 u59 u60 u61 u62 u63 u64 u65 u66 u67 u68 u69 u70 u71 u72 u73 u74 u75 u76 u77 u78 u79 u80 u81 u82 u83 u84 u85 : Value) (vo : Value) (gh hh bb : Nat) (x hx : Int) (xs : List Int) (w0 : World) (wr : World) (px : (0 ≤ x) = True) (qx : (x < 8) = True) (ch : wr.cell? ⟨gh, x.toNat, none⟩ = some (.int .u32 hx)) (HO : Aside0 (Kd.R (Kd.int .u8) 5 wr bb (fun _ => True) vo xs)) (HBB : Aside0 (Below bb w0 wr)) (HBS : Aside0 (bb ≤ wr.heap.size)) (HXL : Aside0 (xs.length ≤ 100))
    (hpan : ∀ c a t v w, Q (.panic c) (Act.put a (some t) v) w → Q (.panic c) a w) (hQ : Aside0 (∀ (v58 v59 v60 v61 v62 v63 v64 v65 v66 v67 v68 v69 v70 v71 v72 v73 v74 v75 v76 v77 v78 v79 v80 v81 v82 v83 : Value) (w' : World) (vn : Value), Kd.R (Kd.int .u8) 5 w' bb (fun _ => True) vn (xs ++ [hx / 16777216 % 256, hx / 65536 % 256, hx / 256 % 256, hx % 256]) → Below bb w0 w' → Q .normal ⟨List.toArray (u0 :: u1 :: u2 :: .slice (some ⟨gh, 0, none⟩) 8 hh :: u4 :: u5 :: u6 :: u7 :: vn :: .int .i64 x :: u10 :: u11 :: u12 :: u13 :: u14 :: u15 :: u16 :: u17 :: u18 :: u19 :: u20 :: u21 :: u22 :: u23 :: u24 :: u25 :: u26 :: u27 :: u28 :: u29 :: u30 :: u31 :: u32 :: u33 :: u34 :: u35 :: u36 :: u37 :: u38 :: u39 :: u40 :: u41 :: u42 :: u43 :: u44 :: u45 :: u46 :: u47 :: u48 :: u49 :: u50 :: u51 :: u52 :: u53 :: u54 :: u55 :: u56 :: u57 :: v58 :: v59 :: v60 :: v61 :: v62 :: v63 :: v64 :: v65 :: v66 :: v67 :: v68 :: v69 :: v70 :: v71 :: v72 :: v73 :: v74 :: v75 :: v76 :: v77 :: v78 :: v79 :: v80 :: v81 :: v82 :: v83 :: u84 :: u85 :: []), []⟩ w')) :
    Code.wp Try.prog (Code.region 18 (opsOf Try.f37 18) true) Q ⟨List.toArray (u0 :: u1 :: u2 :: .slice (some ⟨gh, 0, none⟩) 8 hh :: u4 :: u5 :: u6 :: u7 :: vo :: .int .i64 x :: u10 :: u11 :: u12 :: u13 :: u14 :: u15 :: u16 :: u17 :: u18 :: u19 :: u20 :: u21 :: u22 :: u23 :: u24 :: u25 :: u26 :: u27 :: u28 :: u29 :: u30 :: u31 :: u32 :: u33 :: u34 :: u35 :: u36 :: u37 :: u38 :: u39 :: u40 :: u41 :: u42 :: u43 :: u44 :: u45 :: u46 :: u47 :: u48 :: u49 :: u50 :: u51 :: u52 :: u53 :: u54 :: u55 :: u56 :: u57 :: u58 :: u59 :: u60 :: u61 :: u62 :: u63 :: u64 :: u65 :: u66 :: u67 :: u68 :: u69 :: u70 :: u71 :: u72 :: u73 :: u74 :: u75 :: u76 :: u77 :: u78 :: u79 :: u80 :: u81 :: u82 :: u83 :: u84 :: u85 :: []), []⟩ wr := by
  conv => arg 2; arg 2; whnf
  refine start_ (n := 27) (S := fun w' => w'.cell? ⟨gh, x.toNat, none⟩ = some (.int .u32 hx)) (ds := [25]) #[false, false, false, false, false, false, false, false, false, false, false, false, false, false, false, false, false, false, false, false, false, false, false, false, false, false, false] (by kernel_rfl) rfl rfl (ch) (fun hHeld => ?_)
  refine with_tabW l01Hash.tab18 l01Hash.bits18 (fun HT_ HW_ => ?_)
  refine pure_ (i := 0) (N := some 58) (v := ?_) (a' := ?_) #[true, false, false, false, false, false, false, false, false, false, false, false, false, false, false, false, false, false, false, false, false, false, false, false, false, false, false] rfl rfl (any_of HT_.out (by kernel_rfl)) (fun _ _ _ h => hpan _ _ _ _ _ h) (Or.inl ⟨by rfl, ?_⟩) ?_ ?_
  rotate_left
  · intro w'
    go_simp
    with_reducible rfl
  rotate_left
  · simp only [Act.put, List.setIfInBounds_toArray, List.set_cons_zero, List.set_cons_succ, i64_w, i32_w]
    rfl
  refine pure_ (i := 1) (N := some 59) (v := ?_) (a' := ?_) #[true, true, false, false, false, false, false, false, false, false, false, false, false, false, false, false, false, false, false, false, false, false, false, false, false, false, false] rfl rfl (any_of HT_.out (by kernel_rfl)) (fun _ _ _ h => hpan _ _ _ _ _ h) (Or.inl ⟨by rfl, ?_⟩) ?_ ?_
  rotate_left
  · intro w'
    go_simp
    with_reducible rfl
  rotate_left
  · simp only [Act.put, List.setIfInBounds_toArray, List.set_cons_zero, List.set_cons_succ, i64_w, i32_w]
    rfl
  refine pure_ (i := 2) (N := some 60) (v := ?_) (a' := ?_) #[true, true, true, false, false, false, false, false, false, false, false, false, false, false, false, false, false, false, false, false, false, false, false, false, false, false, false] rfl rfl (any_of HT_.out (by kernel_rfl)) (fun _ _ _ h => hpan _ _ _ _ _ h) (Or.inl ⟨by rfl, ?_⟩) ?_ ?_
  rotate_left
  · intro w'
    go_simp
    with_reducible rfl
  rotate_left
  · simp only [Act.put, List.setIfInBounds_toArray, List.set_cons_zero, List.set_cons_succ, i64_w, i32_w]
    rfl
  refine pure_ (i := 3) (N := some 61) (v := ?_) (a' := ?_) #[true, true, true, true, false, false, false, false, false, false, false, false, false, false, false, false, false, false, false, false, false, false, false, false, false, false, false] rfl rfl (any_of HT_.out (by kernel_rfl)) (fun _ _ _ h => hpan _ _ _ _ _ h) (Or.inl ⟨by rfl, ?_⟩) ?_ ?_
  rotate_left
  · intro w'
    go_simp
    with_reducible rfl
  rotate_left
  · simp only [Act.put, List.setIfInBounds_toArray, List.set_cons_zero, List.set_cons_succ, i64_w, i32_w]
    rfl
  refine pure_ (i := 7) (N := some 65) (v := ?_) (a' := ?_) #[true, true, true, true, false, false, false, true, false, false, false, false, false, false, false, false, false, false, false, false, false, false, false, false, false, false, false] rfl rfl (any_of HT_.out (by kernel_rfl)) (fun _ _ _ h => hpan _ _ _ _ _ h) (Or.inl ⟨by rfl, ?_⟩) ?_ ?_
  rotate_left
  · intro w'
    go_simp
    with_reducible rfl
  rotate_left
  · simp only [Act.put, List.setIfInBounds_toArray, List.set_cons_zero, List.set_cons_succ, i64_w, i32_w]
    rfl
  refine pure_ (i := 8) (N := some 66) (v := ?_) (a' := ?_) #[true, true, true, true, false, false, false, true, true, false, false, false, false, false, false, false, false, false, false, false, false, false, false, false, false, false, false] rfl rfl (any_of HT_.out (by kernel_rfl)) (fun _ _ _ h => hpan _ _ _ _ _ h) (Or.inl ⟨by rfl, ?_⟩) ?_ ?_
  rotate_left
  · intro w'
    go_simp
    with_reducible rfl
  rotate_left
  · simp only [Act.put, List.setIfInBounds_toArray, List.set_cons_zero, List.set_cons_succ, i64_w, i32_w]
    rfl
  refine pure_ (i := 9) (N := some 67) (v := ?_) (a' := ?_) #[true, true, true, true, false, false, false, true, true, true, false, false, false, false, false, false, false, false, false, false, false, false, false, false, false, false, false] rfl rfl (any_of HT_.out (by kernel_rfl)) (fun _ _ _ h => hpan _ _ _ _ _ h) (Or.inl ⟨by rfl, ?_⟩) ?_ ?_
  rotate_left
  · intro w'
    go_simp
    with_reducible rfl
  rotate_left
  · simp only [Act.put, List.setIfInBounds_toArray, List.set_cons_zero, List.set_cons_succ, i64_w, i32_w]
    rfl
  refine pure_ (i := 13) (N := some 71) (v := ?_) (a' := ?_) #[true, true, true, true, false, false, false, true, true, true, false, false, false, true, false, false, false, false, false, false, false, false, false, false, false, false, false] rfl rfl (any_of HT_.out (by kernel_rfl)) (fun _ _ _ h => hpan _ _ _ _ _ h) (Or.inl ⟨by rfl, ?_⟩) ?_ ?_
  rotate_left
  · intro w'
    go_simp
    with_reducible rfl
  rotate_left
  · simp only [Act.put, List.setIfInBounds_toArray, List.set_cons_zero, List.set_cons_succ, i64_w, i32_w]
    rfl
  refine pure_ (i := 14) (N := some 72) (v := ?_) (a' := ?_) #[true, true, true, true, false, false, false, true, true, true, false, false, false, true, true, false, false, false, false, false, false, false, false, false, false, false, false] rfl rfl (any_of HT_.out (by kernel_rfl)) (fun _ _ _ h => hpan _ _ _ _ _ h) (Or.inl ⟨by rfl, ?_⟩) ?_ ?_
  rotate_left
  · intro w'
    go_simp
    with_reducible rfl
  rotate_left
  · simp only [Act.put, List.setIfInBounds_toArray, List.set_cons_zero, List.set_cons_succ, i64_w, i32_w]
    rfl
  refine pure_ (i := 15) (N := some 73) (v := ?_) (a' := ?_) #[true, true, true, true, false, false, false, true, true, true, false, false, false, true, true, true, false, false, false, false, false, false, false, false, false, false, false] rfl rfl (any_of HT_.out (by kernel_rfl)) (fun _ _ _ h => hpan _ _ _ _ _ h) (Or.inl ⟨by rfl, ?_⟩) ?_ ?_
  rotate_left
  · intro w'
    go_simp
    with_reducible rfl
  rotate_left
  · simp only [Act.put, List.setIfInBounds_toArray, List.set_cons_zero, List.set_cons_succ, i64_w, i32_w]
    rfl
  refine pure_ (i := 19) (N := some 77) (v := ?_) (a' := ?_) #[true, true, true, true, false, false, false, true, true, true, false, false, false, true, true, true, false, false, false, true, false, false, false, false, false, false, false] rfl rfl (any_of HT_.out (by kernel_rfl)) (fun _ _ _ h => hpan _ _ _ _ _ h) (Or.inl ⟨by rfl, ?_⟩) ?_ ?_
  rotate_left
  · intro w'
    go_simp
    with_reducible rfl
  rotate_left
  · simp only [Act.put, List.setIfInBounds_toArray, List.set_cons_zero, List.set_cons_succ, i64_w, i32_w]
    rfl
  refine pure_ (i := 20) (N := some 78) (v := ?_) (a' := ?_) #[true, true, true, true, false, false, false, true, true, true, false, false, false, true, true, true, false, false, false, true, true, false, false, false, false, false, false] rfl rfl (any_of HT_.out (by kernel_rfl)) (fun _ _ _ h => hpan _ _ _ _ _ h) (Or.inl ⟨by rfl, ?_⟩) ?_ ?_
  rotate_left
  · intro w'
    go_simp
    with_reducible rfl
  rotate_left
  · simp only [Act.put, List.setIfInBounds_toArray, List.set_cons_zero, List.set_cons_succ, i64_w, i32_w]
    rfl
  refine pure_ (i := 21) (N := some 79) (v := ?_) (a' := ?_) #[true, true, true, true, false, false, false, true, true, true, false, false, false, true, true, true, false, false, false, true, true, true, false, false, false, false, false] rfl rfl (any_of HT_.out (by kernel_rfl)) (fun _ _ _ h => hpan _ _ _ _ _ h) (Or.inl ⟨by rfl, ?_⟩) ?_ ?_
  rotate_left
  · intro w'
    go_simp
    with_reducible rfl
  rotate_left
  · simp only [Act.put, List.setIfInBounds_toArray, List.set_cons_zero, List.set_cons_succ, i64_w, i32_w]
    rfl
  refine take_ (i := 4) (N := some 62) (v := ?_) (a' := ?_) #[true, true, true, true, true, false, false, true, true, true, false, false, false, true, true, true, false, false, false, true, true, true, false, false, false, false, false] rfl rfl (take_ofW HT_.out HW_.out (by kernel_rfl)) (fun _ _ _ h => hpan _ _ _ _ _ h) (Or.inl ⟨by rfl, ?_⟩) hHeld ?_ ?_
  rotate_left
  · intro w' s0
    go_simp
    with_reducible rfl
  rotate_left
  · simp only [Act.put, List.setIfInBounds_toArray, List.set_cons_zero, List.set_cons_succ, i64_w, i32_w]
    rfl
  refine pure_ (i := 5) (N := some 63) (v := ?_) (a' := ?_) #[true, true, true, true, true, true, false, true, true, true, false, false, false, true, true, true, false, false, false, true, true, true, false, false, false, false, false] rfl rfl (any_of HT_.out (by kernel_rfl)) (fun _ _ _ h => hpan _ _ _ _ _ h) (Or.inl ⟨by rfl, ?_⟩) ?_ ?_
  rotate_left
  · intro w'
    go_simp
    with_reducible rfl
  rotate_left
  · simp only [Act.put, List.setIfInBounds_toArray, List.set_cons_zero, List.set_cons_succ, i64_w, i32_w]
    rfl
  refine pure_ (i := 6) (N := some 64) (v := ?_) (a' := ?_) #[true, true, true, true, true, true, true, true, true, true, false, false, false, true, true, true, false, false, false, true, true, true, false, false, false, false, false] rfl rfl (any_of HT_.out (by kernel_rfl)) (fun _ _ _ h => hpan _ _ _ _ _ h) (Or.inl ⟨by rfl, ?_⟩) ?_ ?_
  rotate_left
  · intro w'
    go_simp
    with_reducible rfl
  rotate_left
  · simp only [Act.put, List.setIfInBounds_toArray, List.set_cons_zero, List.set_cons_succ, i64_w, i32_w]
    rfl
  refine take_ (i := 10) (N := some 68) (v := ?_) (a' := ?_) #[true, true, true, true, true, true, true, true, true, true, true, false, false, true, true, true, false, false, false, true, true, true, false, false, false, false, false] rfl rfl (take_ofW HT_.out HW_.out (by kernel_rfl)) (fun _ _ _ h => hpan _ _ _ _ _ h) (Or.inl ⟨by rfl, ?_⟩) hHeld ?_ ?_
  rotate_left
  · intro w' s0
    go_simp
    with_reducible rfl
  rotate_left
  · simp only [Act.put, List.setIfInBounds_toArray, List.set_cons_zero, List.set_cons_succ, i64_w, i32_w]
    rfl
  refine pure_ (i := 11) (N := some 69) (v := ?_) (a' := ?_) #[true, true, true, true, true, true, true, true, true, true, true, true, false, true, true, true, false, false, false, true, true, true, false, false, false, false, false] rfl rfl (any_of HT_.out (by kernel_rfl)) (fun _ _ _ h => hpan _ _ _ _ _ h) (Or.inl ⟨by rfl, ?_⟩) ?_ ?_
  rotate_left
  · intro w'
    go_simp
    with_reducible rfl
  rotate_left
  · simp only [Act.put, List.setIfInBounds_toArray, List.set_cons_zero, List.set_cons_succ, i64_w, i32_w]
    rfl
  refine pure_ (i := 12) (N := some 70) (v := ?_) (a' := ?_) #[true, true, true, true, true, true, true, true, true, true, true, true, true, true, true, true, false, false, false, true, true, true, false, false, false, false, false] rfl rfl (any_of HT_.out (by kernel_rfl)) (fun _ _ _ h => hpan _ _ _ _ _ h) (Or.inl ⟨by rfl, ?_⟩) ?_ ?_
  rotate_left
  · intro w'
    go_simp
    with_reducible rfl
  rotate_left
  · simp only [Act.put, List.setIfInBounds_toArray, List.set_cons_zero, List.set_cons_succ, i64_w, i32_w]
    rfl
  refine take_ (i := 16) (N := some 74) (v := ?_) (a' := ?_) #[true, true, true, true, true, true, true, true, true, true, true, true, true, true, true, true, true, false, false, true, true, true, false, false, false, false, false] rfl rfl (take_ofW HT_.out HW_.out (by kernel_rfl)) (fun _ _ _ h => hpan _ _ _ _ _ h) (Or.inl ⟨by rfl, ?_⟩) hHeld ?_ ?_
  rotate_left
  · intro w' s0
    go_simp
    with_reducible rfl
  rotate_left
  · simp only [Act.put, List.setIfInBounds_toArray, List.set_cons_zero, List.set_cons_succ, i64_w, i32_w]
    rfl
  refine pure_ (i := 17) (N := some 75) (v := ?_) (a' := ?_) #[true, true, true, true, true, true, true, true, true, true, true, true, true, true, true, true, true, true, false, true, true, true, false, false, false, false, false] rfl rfl (any_of HT_.out (by kernel_rfl)) (fun _ _ _ h => hpan _ _ _ _ _ h) (Or.inl ⟨by rfl, ?_⟩) ?_ ?_
  rotate_left
  · intro w'
    go_simp
    with_reducible rfl
  rotate_left
  · simp only [Act.put, List.setIfInBounds_toArray, List.set_cons_zero, List.set_cons_succ, i64_w, i32_w]
    rfl
  refine pure_ (i := 18) (N := some 76) (v := ?_) (a' := ?_) #[true, true, true, true, true, true, true, true, true, true, true, true, true, true, true, true, true, true, true, true, true, true, false, false, false, false, false] rfl rfl (any_of HT_.out (by kernel_rfl)) (fun _ _ _ h => hpan _ _ _ _ _ h) (Or.inl ⟨by rfl, ?_⟩) ?_ ?_
  rotate_left
  · intro w'
    go_simp
    with_reducible rfl
  rotate_left
  · simp only [Act.put, List.setIfInBounds_toArray, List.set_cons_zero, List.set_cons_succ, i64_w, i32_w]
    rfl
  refine take_ (i := 22) (N := some 80) (v := ?_) (a' := ?_) #[true, true, true, true, true, true, true, true, true, true, true, true, true, true, true, true, true, true, true, true, true, true, true, false, false, false, false] rfl rfl (take_ofW HT_.out HW_.out (by kernel_rfl)) (fun _ _ _ h => hpan _ _ _ _ _ h) (Or.inl ⟨by rfl, ?_⟩) hHeld ?_ ?_
  rotate_left
  · intro w' s0
    go_simp
    with_reducible rfl
  rotate_left
  · simp only [Act.put, List.setIfInBounds_toArray, List.set_cons_zero, List.set_cons_succ, i64_w, i32_w]
    rfl
  refine pure_ (i := 23) (N := some 81) (v := ?_) (a' := ?_) #[true, true, true, true, true, true, true, true, true, true, true, true, true, true, true, true, true, true, true, true, true, true, true, true, false, false, false] rfl rfl (any_of HT_.out (by kernel_rfl)) (fun _ _ _ h => hpan _ _ _ _ _ h) (Or.inl ⟨by rfl, ?_⟩) ?_ ?_
  rotate_left
  · intro w'
    go_simp
    with_reducible rfl
  rotate_left
  · simp only [Act.put, List.setIfInBounds_toArray, List.set_cons_zero, List.set_cons_succ, i64_w, i32_w]
    rfl
  refine one_ (i := 24) (N := some 82) #[true, true, true, true, true, true, true, true, true, true, true, true, true, true, true, true, true, true, true, true, true, true, true, true, true, false, false] rfl rfl (one_of HT_.out (by kernel_rfl)) (by decide) (fun K hK => ?_)
  refine lit4 (by rfl) rfl rfl (y0 := hx / 16777216 % 256) (y1 := hx / 65536 % 256) (y2 := hx / 256 % 256) (y3 := hx % 256) (by simp only [List.map_toArray, List.map_cons, List.map_nil]; rfl) ?_
  rintro gn en wn Hn bn
  replace en := Aside0.mk en
  refine hK.out _ _ ((bn.cell (World.block_lt_of_cell? _ _ hHeld)).trans hHeld) (fun hHeld => ?_)
  clear hK K
  refine norm_ (a' := ?_) ?_ ?_
  rotate_left
  · show Act.put _ (some 82) _ = _
    simp only [Act.put, List.setIfInBounds_toArray, List.set_cons_zero, List.set_cons_succ, i64_w, i32_w]
    rfl
  refine last_ (i := 25) (N := some 83) #[true, true, true, true, true, true, true, true, true, true, true, true, true, true, true, true, true, true, true, true, true, true, true, true, true, true, false] rfl rfl (one_of HT_.out (by kernel_rfl)) (by decide) (fun K hK => ?_)
  refine Kd.R_append_rows_step (Kd.int .u8) (w0 := w0) bb (by rfl) (.tmp 58) (.tmp 82) 22 5 (.int .u8 0) 1 rfl Try.underlying22 (by kernel_rfl) rfl (by decide) (by omega) vo xs [hx / 16777216 % 256, hx / 65536 % 256, hx / 256 % 256, hx % 256] _ _ _ (fun _ => True) (fun _ => False) rfl rfl (Kd.R_below (Kd.R_drew HO.out) bn) Hn (fun _ _ h => h) (fun _ h => h.elim) (fun _ _ => trivial) (HBB.out.drew.trans (bn.mono HBS.out)) (Nat.le_trans HBS.out bn.size) (by have := HXL.out; omega) ?_
  intro vn wn2 hRn hbn hgn horn
  refine hK.out _ _ ?_
  clear hK K
  refine norm_ (a' := ?_) ?_ ?_
  rotate_left
  · show Act.put _ (some 83) _ = _
    simp only [Act.put, List.setIfInBounds_toArray, List.set_cons_zero, List.set_cons_succ, i64_w, i32_w]
    rfl
  refine pure_ (i := 26) (N := some 8) (v := ?_) (a' := ?_) #[true, true, true, true, true, true, true, true, true, true, true, true, true, true, true, true, true, true, true, true, true, true, true, true, true, true, true] rfl rfl (any_of HT_.out (by kernel_rfl)) (fun _ _ _ h => hpan _ _ _ _ _ h) (Or.inl ⟨by rfl, ?_⟩) ?_ ?_
  rotate_left
  · intro w'
    go_simp
    with_reducible rfl
  rotate_left
  · simp only [Act.put, List.setIfInBounds_toArray, List.set_cons_zero, List.set_cons_succ, i64_w, i32_w]
    rfl
  refine done_ (done_of HT_.out (by kernel_rfl)) ?_
  refine hQ.out _ _ _ _ _ _ _ _ _ _ _ _ _ _ _ _ _ _ _ _ _ _ _ _ _ _ _ _ hRn hbn
set_option maxHeartbeats 16000000 in
set_option maxRecDepth 100000 in
theorem spec_l01Hash.walk (A : Option Addr) (c : Nat) (b : List Int) (w : World) (hr : Kd.C (Kd.int .u8) w A b.length b) (hc : b.length ≤ c) (hl : b.length ≤ 1099511627776) :
    Calls Try.prog 37 #[.slice A b.length c] w fun e w' => e = .returned (.string (ssha b)) ∧ Below w.heap.size w w' := by
  have HC := Aside0.mk hr
  have HN := Aside0.mk hl
  have hbase : w.heap.size ≤ w.heap.size := Nat.le_refl _
  clear hr hc hl
  generalize hz : b.length = n at *
  have HZ := Aside0.mk hz
  clear hz
  go_enter Try.func37, Try.ntmps37
  go_wp2_with (first
    | ((with_reducible refine gate_dst (N := 10) rfl ?_); refine Kd.R_lit (Kd.int .u32) _ 89 ?hg (N := 10) ?hd (xs := ([1779033703, 3144134277, 1013904242, 2773480762, 1359893119, 2600822924, 528734635, 1541459225] : List Int)) (inner := [.int .u32 1779033703, .int .u32 3144134277, .int .u32 1013904242, .int .u32 2773480762, .int .u32 1359893119, .int .u32 2600822924, .int .u32 528734635, .int .u32 1541459225]) (ok := fun _ => True) (okp := fun _ => True) ?hr ?hp (fun _ hk => hk) trivial (Below.refl _ _) (Nat.le_refl _) (by decide) ?_; (case hd => rfl); (case hg => rfl); (case hr => first | (go_simp; done) | (go_simp; rfl)); (case hp => exact (Kd.reps_scalar (enc := Value.int .u32) [1779033703, 3144134277, 1013904242, 2773480762, 1359893119, 2600822924, 528734635, 1541459225])); intro v10 w1 ho10 hb10 hg_ hnew_; clear hg_ hnew_; replace ho10 : Kd.R (Kd.int .u32) 89 w1 w.heap.size (fun _ => True) v10 H0 := ho10; obtain ⟨gh, hh, hv10, hgh, hlh⟩ : ∃ g cap, v10 = .slice (some ⟨g, 0, none⟩) 8 cap ∧ g < w1.heap.size ∧ Row w1 g H0 ∧ Kd.C (Kd.int .u32) w1 (some ⟨g, 0, none⟩) 8 H0 ∧ w.heap.size ≤ g := (by obtain ⟨g, cc, h1, h2, h3, _⟩ := Kd.R_form ho10 (by rw [H0_len]; decide); rw [H0_len] at h1; subst h1; exact ⟨g, cc, rfl, h3, Row.of_R ho10, (Kd.R_reads' ho10).2.2, h2⟩); subst hv10; clear ho10; replace hb10 := Aside0.mk hb10; replace hlh := Aside0.mk hlh; replace hgh := Aside0.mk hgh)
    | ((with_reducible refine gate_dst (N := 11) rfl ?_); refine Kd.R_lit (Kd.int .u8) _ 5 ?hg (N := 11) ?hd (xs := ([] : List Int)) (inner := []) (ok := fun _ => True) (okp := fun _ => True) ?hr ?hp (fun _ hk => hk) trivial (Below.refl _ _) (Nat.le_refl _) (by simp) ?_; (case hd => rfl); (case hg => rfl); (case hr => first | (go_simp; done) | (go_simp; rfl)); (case hp => exact (Reps.none _ _)); intro v11 w2 ho11 hb11 hg_ hnew_; clear hg_ hnew_; replace hb11 := Aside0.mk hb11; replace ho11 := Aside0.mk ho11)
    | ((with_reducible refine gate_dst (N := 13) rfl ?_); refine Kd.R_append_rows (Kd.int .u8) (w0 := w1) w1.heap.size rfl (.tmp 11) (.tmp 12) 22 5 (.int .u8 0) 1 rfl Try.underlying22 (by kernel_rfl) rfl (by decide) (by omega) v11 [] b _ _ _ (fun _ => True) (fun _ => False) rfl rfl ho11.out (Kd.C_below HC.out (below_step hb10.out hb11.out)) (fun _ _ h => h) (fun _ h => h.elim) (fun _ _ => trivial) hb11.out hb11.out.size (by have := HN.out; simp; omega) ?_; intro v13 w3 hR13 hb13 hg_ hor_; clear hg_ hor_; replace hb13 := Aside0.mk hb13; replace hR13 := Aside0.mk hR13)
    | ((with_reducible refine gate_dst (N := 15) rfl ?_); refine Kd.R_append (Kd.int .u8) (w0 := w1) w1.heap.size rfl (.tmp 13) (.tmp 14) 22 5 (.int .u8 0) 1 rfl Try.underlying22 (by kernel_rfl) rfl (by decide) (by omega) v13 ([] ++ b) 128 [.int .u8 128] (fun _ => True) (fun _ => False) rfl rfl rfl (fun _ h => h.elim) (fun _ _ => trivial) hR13.out hb13.out hb13.out.size (by have := HN.out; have := HZ.out; simp; omega) ?_; intro v15 w4 hR15 hb15 hg_ hor_; clear hg_ hor_; replace hb15 := Aside0.mk hb15; replace hR15 := Aside0.mk hR15))
  have HR0 : Aside0 (Kd.R (Kd.int .u8) 5 w4 w1.heap.size (fun _ => True) v15 (b ++ [128] ++ List.replicate 0 0)) := ⟨by have := hR15.out; simpa using this⟩
  have HB0 := Aside0.mk hb15.out
  have HLH := Aside0.mk hlh.out
  clear hR15 hb15 hR13 hb13 ho11 hb11 hlh
  go_loopg [4] (zn b) (fun gg s4 wr => ∃ (i : Nat), Aside0 (i ≤ zn b ∧ zn b - i ≤ gg) ∧ Aside0 (Kd.R (Kd.int .u8) 5 wr w1.heap.size (fun _ => True) s4 (b ++ [128] ++ List.replicate i 0)) ∧ Aside0 (Below w1.heap.size w1 wr))
  case atStart => exact ⟨0, ⟨by omega⟩, HR0, HB0⟩
  case round =>
    clear HR0 HB0
    obtain ⟨i, HX, HR, HB⟩ := hrel
    obtain ⟨A4, c4, hs4, hlc, hC4⟩ := Kd.R_reads HR.out
    subst hs4
    have hlen : (b ++ [128] ++ List.replicate i (0 : Int)).length = n + 1 + i := by simp [HZ.out]; omega
    generalize (b ++ [128] ++ List.replicate i (0 : Int)).length = m at *
    have HM := Aside0.mk hlen
    clear hlc hC4 hlen
    by_cases hlt : i < zn b
    · have hm1 : ¬ (m % 64 = 56) := by have := HM.out; have := HZ.out; unfold zn at hlt; omega
      have hm2 : ¬ ((m : Int) % 64 = 56) := by omega
      have hm3 : ((m : Int) % 64 != 56) = true := by simpa using hm2
      go_wp2_with ((with_reducible refine gate_dst (N := 22) rfl ?_); refine Kd.R_append (Kd.int .u8) (w0 := w1) w1.heap.size rfl (.tmp 20) (.tmp 21) 22 5 (.int .u8 0) 1 rfl Try.underlying22 (by kernel_rfl) rfl (by decide) (by omega) (.slice A4 m c4) (b ++ [128] ++ List.replicate i 0) 0 [.int .u8 0] (fun _ => True) (fun _ => False) rfl rfl rfl (fun _ h => h.elim) (fun _ _ => trivial) HR.out HB.out HB.out.size (by have h1 := HN.out; have h2 := HX.out; have h3 := HZ.out; have h4 : zn b < 64 := (by unfold zn; omega); simp only [List.length_append, List.length_replicate, List.length_cons, List.length_nil, h3]; omega) ?_; intro v15 w4 hR15 hb15 hg_ hor_; clear hg_ hor_; replace hb15 := Aside0.mk hb15; replace hR15 := Aside0.mk hR15)
      go_roundg (zn b - (i + 1))
      case measure => have := HX.out; omega
      case rel =>
        refine ⟨i + 1, ⟨by have := HX.out; omega⟩, ⟨?_⟩, hb15⟩
        have := hR15.out
        rw [List.replicate_succ', ← List.append_assoc]
        exact this
    · have hiz : i = zn b := by have := HX.out; omega
      subst hiz
      have hm1 : m % 64 = 56 := by have := HM.out; have := HZ.out; unfold zn at this; rw [HM.out]; unfold zn; rw [HZ.out]; omega
      have hm2 : (m : Int) % 64 = 56 := by omega
      have hm3 : ((m : Int) % 64 != 56) = false := by simp [hm2]
      have hw8 : IntKind.i64.wrap (8 * (n : Int)) = 8 * (n : Int) := by rw [i64_w]; have := HN.out; unfold wrap64; omega
      have hw8' : wrap64 (8 * (n : Int)) = 8 * (n : Int) := by have := HN.out; unfold wrap64; omega
      have HR0 : Aside0 (Kd.R (Kd.int .u8) 5 wr w1.heap.size (fun _ => True) (.slice A4 m c4) (b ++ [128] ++ List.replicate (zn b) 0 ++ eb n 0)) := ⟨by have := HR.out; simpa [eb] using this⟩
      clear HR HX hlt
      go_wp2
      clear hm1 hm2 hm3
      go_loopg [4, 5] 8 (fun gg s4 s5 wr2 => ∃ (j : Nat), s5 = .int .i64 (7 - (j : Int)) ∧ Aside0 (j ≤ 8 ∧ 8 - j ≤ gg) ∧ Aside0 (Kd.R (Kd.int .u8) 5 wr2 w1.heap.size (fun _ => True) s4 (b ++ [128] ++ List.replicate (zn b) 0 ++ eb n j)) ∧ Aside0 (Below w1.heap.size w1 wr2))
      case atStart => exact ⟨0, rfl, ⟨by omega⟩, HR0, HB⟩
      case round =>
        clear HR0 HB
        obtain ⟨j, rfl, HX, HR, HB⟩ := hrel
        obtain ⟨A5, c5, hs5, hlc, hC5⟩ := Kd.R_reads HR.out
        subst hs5
        have hlen : (b ++ [128] ++ List.replicate (zn b) (0 : Int) ++ eb n j).length = n + 1 + zn b + j := by simp [HZ.out, eb_len]; omega
        by_cases hlt : j < 8
        · obtain ⟨x, hx⟩ : ∃ x : Int, x = 7 - (j : Int) := ⟨_, rfl⟩
          rw [← hx]
          have hx0 : 0 ≤ x := by omega
          have hx7 : x ≤ 7 := by omega
          have HXJ := Aside0.mk hx
          clear hx
          obtain ⟨q, hq⟩ : ∃ q, IntKind.i64.wrap (8 * x) = q := ⟨_, rfl⟩
          have hq2 : q = 8 * x := by rw [i64_w] at hq; unfold wrap64 at hq; omega
          have hq0 : 0 ≤ q := by omega
          have hq1 : q ≤ 56 := by omega
          have HQ := Aside0.mk hq2
          clear hq2
          generalize (b ++ [128] ++ List.replicate (zn b) (0 : Int) ++ eb n j).length = m2 at *
          clear hlc hC5
          go_wp2_with ((with_reducible refine gate_dst (N := 37) rfl ?_); refine Kd.R_append (Kd.int .u8) (w0 := w1) w1.heap.size rfl (.tmp 27) (.tmp 36) 22 5 (.int .u8 0) 1 rfl Try.underlying22 (by kernel_rfl) rfl (by decide) (by omega) (.slice A5 m2 c5) (b ++ [128] ++ List.replicate (zn b) 0 ++ eb n j) ((8 * (n : Int) / 2 ^ q.toNat) % 256) [.int .u8 ((8 * (n : Int) / 2 ^ q.toNat) % 256)] (fun _ => True) (fun _ => False) rfl rfl rfl (fun _ h => h.elim) (fun _ _ => trivial) HR.out HB.out HB.out.size (by have h1 := HN.out; have h2 := HX.out; have h3 := HZ.out; have h4 : zn b < 64 := (by unfold zn; omega); simp only [List.length_append, List.length_replicate, List.length_cons, List.length_nil, h3, eb_len]; omega) ?_; intro v15 w4 hR15 hb15 hg_ hor_; clear hg_ hor_; replace hb15 := Aside0.mk hb15; replace hR15 := Aside0.mk hR15)
          go_roundg (8 - (j + 1))
          case measure => have := HX.out; omega
          case rel =>
            refine ⟨j + 1, ?_, ⟨by have := HX.out; omega⟩, ⟨?_⟩, hb15⟩
            · have h1 := HXJ.out
              first | (congr 1; unfold wrap64; omega) | (congr 1; omega)
            · have := hR15.out
              rw [eb, ← List.append_assoc, show 8 * (7 - j) = q.toNat by have := HQ.out; have := HXJ.out; omega]
              exact this
        · have hj8 : j = 8 := by have := HX.out; omega
          subst hj8
          obtain ⟨ga, cc, h1, h2, h3, _⟩ := Kd.R_form HR.out (by rw [hlen]; omega)
          rw [hlen] at h1
          injection h1 with h1a h1b h1c
          subst h1a
          have HT := Aside0.mk (show b ++ [128] ++ List.replicate (zn b) 0 ++ eb n 8 = pd b by unfold pd; rw [HZ.out])
          have hlen2 : (pd b).length = n + 1 + zn b + 8 := by rw [← HT.out, hlen]
          have HTM := Aside0.mk (show (pd b).length % 64 = 0 by rw [hlen2]; have := HZ.out; unfold zn; rw [HZ.out]; omega)
          have HTB := Aside0.mk (show (pd b).length ≤ 1099511627776 + 200 by rw [hlen2]; have := HN.out; have h4 : zn b < 64 := (by unfold zn; omega); omega)
          have hl0 : (b ++ [128] ++ List.replicate (zn b) 0 ++ eb n 8).length = (pd b).length := by rw [HT.out]
          have hR8 := HR.out
          rw [HT.out] at hR8
          have HT8 : Aside0 (Row8 wr ga (pd b)) := ⟨fun i h0 h1 => (Kd.R_celln 0 hR8 i h0 h1).1⟩
          have hcc : n + 1 + zn b + 8 ≤ cc := by rw [← hlen2]; first | exact (Kd.R_reads' hR8).2.1 | (have := (Kd.R_reads' hR8).2.1; omega)
          have HAL := Aside0.mk (show ga < wr.heap.size ∧ w1.heap.size ≤ ga from ⟨h3, h2⟩)
          have HLEN := Aside0.mk hlen2
          have HBW := Aside0.mk (below_step hb10.out HB.out)
          have HRH := Aside0.mk (HLH.out.1.same (HB.out.block gh hgh.out))
          rw [hlen]
          generalize hm9 : n + 1 + zn b + 8 = m9 at *
          have HCC := Aside0.mk hcc
          clear hcc
          clear hlc hC5 hlen h2 h3 hR8 hlen2 hl0 hlt HR HX hm9
          go_wp2_with fail
          refine (spec_l01Consts.calls K0 _ rfl).mono ?_
          rintro e wk ⟨vk, rfl, hRk, hbk⟩
          obtain ⟨gk0, ck, hvk, hgk, hlk⟩ : ∃ g cap, vk = .slice (some ⟨g, 0, none⟩) 64 cap ∧ g < wk.heap.size ∧ Row wk g K0 ∧ wr.heap.size ≤ g := by
            obtain ⟨g, cc2, h1, h2, h3, _⟩ := Kd.R_form hRk (by rw [K0_len]; decide)
            rw [K0_len] at h1
            subst h1
            exact ⟨g, cc2, rfl, h3, Row.of_R hRk, h2⟩
          subst hvk
          have HK0 := Aside0.mk hlk.1
          have HKN := Aside0.mk (show gh ≠ gk0 ∧ gh ≠ ga ∧ gk0 ≠ ga by have := HAL.out; have := hgh.out; have := hlk.2; have := HB.out.size; omega)
          have HKB := Aside0.mk (below_step HBW.out hbk)
          have HK8 := Aside0.mk (HT8.out.same (hbk.block ga HAL.out.1))
          have HKH := Aside0.mk (HRH.out.below hbk (HRH.out.lt (by rw [H0_len]; decide)))
          have HSZ := Aside0.mk (show ga < wk.heap.size ∧ gk0 < wk.heap.size from ⟨Nat.lt_of_lt_of_le HAL.out.1 hbk.size, hgk⟩)
          have HGE := Aside0.mk (show w.heap.size ≤ gh from HLH.out.2.2)
          clear hRk hbk hgk hlk HT8 HRH HBW HB HAL
          go_wp2
          go_loopg [7] m9 (fun gg s7 wr3 => ∃ (x : Int), s7 = .int .i64 x ∧ Aside0 (0 ≤ x ∧ x ≤ (m9 : Int) ∧ x % 64 = 0 ∧ (m9 : Int) - x ≤ gg) ∧ Aside0 (Row wr3 gh (sh (pd b) (x / 64).toNat)) ∧ Aside0 (Row8 wr3 ga (pd b)) ∧ Aside0 (Row wr3 gk0 K0) ∧ Aside0 (Below w.heap.size w wr3) ∧ Aside0 (ga < wr3.heap.size ∧ gk0 < wr3.heap.size))
          case atStart => exact ⟨0, rfl, ⟨by omega⟩, HKH, HK8, HK0, HKB, HSZ⟩
          case round =>
            clear HKH HK8 HK0 HKB
            obtain ⟨x, rfl, HX, HH3, HA3, HK3, HB3, HS3⟩ := hrel
            have HVL := Aside0.mk (sh_len (pd b) (x / 64).toNat)
            by_cases hlt : x < (m9 : Int)
            · have hlt1 : decide (x < (m9 : Int)) = true := decide_eq_true hlt
              have HVU := Aside0.mk (sh_up (pd b) HX.out.1 HX.out.2.2.1)
              generalize sh (pd b) (x / 64).toNat = V at *
              have hle : x + 64 ≤ (m9 : Int) := by have h1 := HX.out; have h2 := HTM.out; rw [HLEN.out] at h2; omega
              have hbig : (m9 : Int) ≤ 1099511627976 := by have h1 := HTB.out; rw [HLEN.out] at h1; omega
              obtain ⟨y, hy⟩ : ∃ y, IntKind.i64.wrap (x + 64) = y := ⟨_, rfl⟩
              have HY := Aside0.mk (show y = x + 64 by rw [i64_w] at hy; unfold wrap64 at hy; have := HX.out; omega)
              have p0 := eq_true (show 0 ≤ x from HX.out.1)
              have p1 := eq_true (show x ≤ y by rw [HY.out]; omega)
              have p2 := eq_true (show y ≤ (m9 : Int) by rw [HY.out]; exact hle)
              have p3 := eq_true (show 0 ≤ y by rw [HY.out]; have := HX.out; omega)
              have p4 := eq_true (show y ≤ (cc : Int) by rw [HY.out]; have := HCC.out; omega)
              have p5 := eq_false (show ¬ ((cc : Int) = x) by have := HCC.out; omega)
              have p6 := eq_false (show ¬ (x = (cc : Int)) by have := HCC.out; omega)
              have p7 := eq_false (show ¬ (cc = x.toNat) by have := HCC.out; have := HX.out; omega)
              have HY64 := Aside0.mk (show y.toNat - x.toNat = 64 by rw [HY.out]; have := HX.out; omega)
              go_wp2_with fail
              rw [HY64.out]
              refine (spec_l01Block.calls gh gk0 hh ck (cc - x.toNat) ⟨ga, x.toNat, none⟩ V K0 ((pd b).drop x.toNat |>.take 64) wr HH3.out HVL.out HK3.out K0_len (fun j hj => by
                rw [rd_cut _ _ _ hj]
                have h1 := HA3.out ((x.toNat + j : Nat) : Int) (by omega) (by rw [HLEN.out]; have := HX.out; omega)
                rw [Int.toNat_natCast] at h1
                rw [add_at]
                exact h1) HS3.out.2 HKN.out.1 (Row.toC HH3.out HVL.out)).mono ?_
              rintro e w5 ⟨rfl, H5, B5⟩
              go_wp2
              go_roundg ((m9 : Int) - y).toNat
              case measure => have := HX.out; have := HY.out; omega
              case rel =>
                refine ⟨y, ?_, ⟨by have := HX.out; have := HY.out; omega⟩, ⟨?_⟩, ⟨HA3.out.same (B5.block ga HS3.out.1 (fun h => HKN.out.2.1 h.symm))⟩, ⟨HK3.out.same (B5.block gk0 HS3.out.2 (fun h => HKN.out.1 h.symm))⟩, ⟨?_⟩, ⟨⟨Nat.lt_of_lt_of_le HS3.out.1 B5.size, Nat.lt_of_lt_of_le HS3.out.2 B5.size⟩⟩⟩
                · first | rfl | (rw [← hy, i64_w])
                · rw [HY.out, HVU.out]
                  exact H5
                · have hB := HB3.out
                  exact ⟨B5.os.trans hB.os, B5.tape.trans hB.tape, B5.output.trans hB.output, Nat.le_trans hB.size B5.size, fun k hk => (B5.block k (Nat.lt_of_lt_of_le hk hB.size) (by have := HGE.out; omega)).trans (hB.block k hk)⟩
            · have hlt1 : decide (x < (m9 : Int)) = false := decide_eq_false hlt
              have HE := Aside0.mk (show sh (pd b) (x / 64).toNat = sh (pd b) ((pd b).length / 64) by have := HX.out; rw [HLEN.out, show (x / 64).toNat = m9 / 64 by omega])
              generalize sh (pd b) (x / 64).toNat = V at *
              clear hlt HX HA3 HK3
              go_wp2_with ((with_reducible refine gate_dst (N := 53) rfl ?_); refine Kd.R_lit (Kd.int .u8) _ 5 ?hg (N := 53) ?hd (xs := ([] : List Int)) (inner := []) (ok := fun _ => True) (okp := fun _ => True) ?hr ?hp (fun _ hk => hk) trivial (Below.refl _ _) (Nat.le_refl _) (by simp) ?_; (case hd => rfl); (case hg => rfl); (case hr => first | (go_simp; done) | (go_simp; rfl)); (case hp => exact (Reps.none _ _)); intro vo w6 ho6 hb6 hg_ hnew_; clear hg_ hnew_; replace hb6 := Aside0.mk hb6; replace ho6 := Aside0.mk ho6)
              have HH6 := Aside0.mk (HH3.out.below hb6.out (HH3.out.lt (by rw [HVL.out]; decide)))
              have HB6 := Aside0.mk (below_step HB3.out hb6.out)
              have HB66 := Aside0.mk hb6.out
              have HLT := Aside0.mk (show gh < wr.heap.size from HH3.out.lt (by rw [HVL.out]; decide))
              have HHR := Aside0.mk HH3.out
              have HBR := Aside0.mk HB3.out
              clear HH3 HB3 hb6
              go_wp2
              go_loopg [8, 9] 8 (fun gg s8 s9 wr4 => ∃ (y : Int), s9 = .int .i64 y ∧ Aside0 (0 ≤ y ∧ y ≤ 8 ∧ 8 - y ≤ gg) ∧ Aside0 (Kd.R (Kd.int .u8) 5 wr4 wr.heap.size (fun _ => True) s8 (so V y.toNat)) ∧ Aside0 (Row wr4 gh V) ∧ Aside0 (Below wr.heap.size wr wr4) ∧ Aside0 (Below w.heap.size w wr4))
              case atStart => exact ⟨0, rfl, ⟨by omega⟩, ho6, HH6, HB66, HB6⟩
              case round =>
                clear HH6 HB6 HB66 ho6
                obtain ⟨y, rfl, HX, HO, HH6, HB66, HB6⟩ := hrel
                by_cases hlt : y < 8
                · have hlt1 : decide (y < 8) = true := decide_eq_true hlt
                  have px := eq_true (show 0 ≤ y by have := HX.out; omega)
                  have qx := eq_true (show y < 8 by omega)
                  have ch := (HH6.out.celli y (by have := HX.out; omega) (by rw [HVL.out]; exact hlt)).1
                  have HSU := Aside0.mk (so_up V HX.out.1)
                  have HSL := Aside0.mk (show (so V y.toNat).length ≤ 100 by rw [so_len]; omega)
                  generalize so V y.toNat = xs at *
                  go_wp2
                  refine l01Hash_r18 _ _ _ _ _ _ _ _ _ _ _ _ _ _ _ _ _ _ _ _ _ _ _ _ _ _ _ _ _ _ _ _ _ _ _ _ _ _ _ _ _ _ _ _ _ _ _ _ _ _ _ _ _ _ _ _ _ _ _ _ _ _ _ _ _ _ _ _ _ _ _ _ _ _ _ _ _ _ _ _ _ _ _ _ gh hh _ y _ xs _ _ px qx ch HO HB66 ⟨HB66.out.size⟩ HSL (fun _ _ _ _ _ h => h) ⟨?_⟩
                  intro v58 v59 v60 v61 v62 v63 v64 v65 v66 v67 v68 v69 v70 v71 v72 v73 v74 v75 v76 v77 v78 v79 v80 v81 v82 v83
                  intro w7 vn hRn hbn
                  go_wp2
                  go_roundg (8 - (y + 1)).toNat
                  case measure => have := HX.out; omega
                  case rel =>
                    have h0 : 0 ≤ y := HX.out.1
                    refine ⟨y + 1, ?_, ⟨by have := HX.out; omega⟩, ⟨?_⟩, ⟨?_⟩, ⟨hbn⟩, ⟨?_⟩⟩
                    · first | rfl | (rw [up16 y h0 (by omega)])
                    · rw [HSU.out]
                      exact hRn
                    · exact HHR.out.same (hbn.block gh HLT.out)
                    · exact HBR.out.trans (hbn.mono HBR.out.size)
                · have hy8 : y = 8 := by have := HX.out; omega
                  subst hy8
                  have HF := Aside0.mk (show strOfNums (so V 8) = ssha b by unfold ssha; rw [← HE.out])
                  obtain ⟨Ao, co, hs8, hlo, hCo⟩ := Kd.R_reads HO.out
                  subst hs8
                  have hcv := Kd.C_string (P := Try.prog) (src := 22) (dst := 9) (e := 5) (c := co) Try.underlying22 Try.underlying5 Try.underlying9 hCo
                  clear hCo hlo
                  generalize (so V (8 : Int).toNat).length = ln at *
                  go_wp2
                  go_ret
                  exact ⟨by rw [← HF.out]; rfl, HB6.out⟩
end Go.Proofs.Ytjmfkhjhhohnkaa.T
