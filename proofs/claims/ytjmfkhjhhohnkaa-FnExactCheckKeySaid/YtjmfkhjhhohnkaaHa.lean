/- impl.hash: the padding, the blocks, the text of the eight words. (Its drawing region was printed by wip/gen/gen_ha.py over the kit's regions.py.) -/
import Derived.Test.YtjmfkhjhhohnkaaT1
import Derived.Test.YtjmfkhjhhohnkaaBh
import Derived.Test.YtjmfkhjhhohnkaaShelf
namespace Go.Proofs.Ytjmfkhjhhohnkaa.T
open Go.RowKit Go.Proofs.YtjmfkhjhhohnkaaW.PrintWords Go.Proofs.YtjmfkhjhhohnkaaW.PrintLast Go.Proofs.YtjmfkhjhhohnkaaW.PrintMore Go.Proofs.Ytjmfkhjhhohnkaa.Ar
set_option linter.unusedVariables false
set_option linter.unusedSimpArgs false
def H0 : List Int := [1779033703, 3144134277, 1013904242, 2773480762, 1359893119, 2600822924, 528734635, 1541459225]
def K0 : List Int := [1116352408, 1899447441, 3049323471, 3921009573, 961987163, 1508970993, 2453635748, 2870763221, 3624381080, 310598401, 607225278, 1426881987, 1925078388, 2162078206, 2614888103, 3248222580, 3835390401, 4022224774, 264347078, 604807628, 770255983, 1249150122, 1555081692, 1996064986, 2554220882, 2821834349, 2952996808, 3210313671, 3336571891, 3584528711, 113926993, 338241895, 666307205, 773529912, 1294757372, 1396182291, 1695183700, 1986661051, 2177026350, 2456956037, 2730485921, 2820302411, 3259730800, 3345764771, 3516065817, 3600352804, 4094571909, 275423344, 430227734, 506948616, 659060556, 883997877, 958139571, 1322822218, 1537002063, 1747873779, 1955562222, 2024104815, 2227730452, 2361852424, 2428436474, 2756734187, 3204031479, 3329325298]
theorem H0_len : H0.length = 8 := by kernel_rfl
theorem K0_len : K0.length = 64 := by kernel_rfl
set_option maxHeartbeats 8000000 in
set_option maxRecDepth 100000 in
theorem impl_hashWords.calls (w : World) :
    Calls Try.prog 72 #[] w fun e w' => e = .returned (.agg (cl H0)) ∧ Below w.heap.size w w' := by
  go_enter Try.func72, Try.ntmps72
  go_wp2_with (first
    | ((with_reducible refine gate_dst (N := 0) rfl ?_); refine ar_alloc rfl rfl (L := List.replicate 8 0) (by kernel_rfl) ?_; rintro g0 hg0 w1 H1 B1 S1; replace hg0 := Aside0.mk hg0; replace S1 := Aside0.mk S1)
    | ((with_reducible refine gate_dst (N := 1) rfl ?_); refine ar_build rfl rfl (L := H0) (by kernel_rfl) ?_)
    | ((with_reducible refine gate_store rfl ?_); refine ar_store rfl rfl rfl rfl rfl H1 (by kernel_rfl) (by kernel_rfl) ?_; rintro w2 H2 B2 S2 F2; replace S2 := Aside0.mk S2))
  (try simp only [Exit.inBlock, Exit.then])
  refine bodyPost_ret (v := .agg (cl H0)) ?_ rfl ?_
  · exact results_cell_row (P := Try.prog) rfl _ w2 g0 96 (cl H0) (0, 0) _ rfl H2 Try.underlying96 rfl (by kernel_rfl)
  · exact ⟨rfl, B1.trans (B2 _ (by have := hg0.out; omega))⟩
set_option maxHeartbeats 8000000 in
set_option maxRecDepth 100000 in
theorem impl_roundWords.calls (w : World) :
    Calls Try.prog 73 #[] w fun e w' => e = .returned (.agg (cl K0)) ∧ Below w.heap.size w w' := by
  go_enter Try.func73, Try.ntmps73
  go_wp2_with (first
    | ((with_reducible refine gate_dst (N := 0) rfl ?_); refine ar_alloc rfl rfl (L := List.replicate 64 0) (by kernel_rfl) ?_; rintro g0 hg0 w1 H1 B1 S1; replace hg0 := Aside0.mk hg0; replace S1 := Aside0.mk S1)
    | ((with_reducible refine gate_dst (N := 1) rfl ?_); refine ar_build rfl rfl (L := K0) (by kernel_rfl) ?_)
    | ((with_reducible refine gate_store rfl ?_); refine ar_store rfl rfl rfl rfl rfl H1 (by kernel_rfl) (by kernel_rfl) ?_; rintro w2 H2 B2 S2 F2; replace S2 := Aside0.mk S2))
  (try simp only [Exit.inBlock, Exit.then])
  refine bodyPost_ret (v := .agg (cl K0)) ?_ rfl ?_
  · exact results_cell_row (P := Try.prog) rfl _ w2 g0 98 (cl K0) (0, 0) _ rfl H2 Try.underlying98 rfl (by kernel_rfl)
  · exact ⟨rfl, B1.trans (B2 _ (by have := hg0.out; omega))⟩
theorem blk_len (V K : List Int) (s : ByteArray) (h : V.length = 8) : (blk V K s).length = 8 := al_len V _ (vl_len K _ V h 64) 8
/-- The texts of a number's eight and four bytes. -/
def n8 (n : Int) : ByteArray := strOfNums [n / 256 / 256 / 256 / 256 / 256 / 256 / 256 % 256, n / 256 / 256 / 256 / 256 / 256 / 256 % 256, n / 256 / 256 / 256 / 256 / 256 % 256, n / 256 / 256 / 256 / 256 % 256, n / 256 / 256 / 256 % 256, n / 256 / 256 % 256, n / 256 % 256, n % 256]
def n4 (n : Int) : ByteArray := strOfNums [n / 256 / 256 / 256 % 256, n / 256 / 256 % 256, n / 256 % 256, n % 256]
theorem number_8 (n : Int) : impl_number.f 20 n 8 = some (n8 n) := by
  unfold impl_number.f n8
  simp [impl_number.l0, wrap64]
theorem number_4 (n : Int) : impl_number.f 20 n 4 = some (n4 n) := by
  unfold impl_number.f n4
  simp [impl_number.l0, wrap64]
theorem n8_size (n : Int) : (n8 n).size = 8 := by unfold n8 strOfNums; rfl
theorem n4_size (n : Int) : (n4 n).size = 4 := by unfold n4 strOfNums; rfl
def zs (s : ByteArray) : Nat := (119 - s.size % 64) % 64
/-- The text with its padding. -/
def pad (s : ByteArray) : ByteArray := s ++ ⟨#[128]⟩ ++ ⟨(Lib.repeatL [0] (zs s)).toArray⟩ ++ n8 (8 * (s.size : Int))
/-- The words behind so many blocks. -/
def hv (T : ByteArray) : Nat → List Int
  | 0 => H0
  | j + 1 => blk (hv T j) K0 (T.extract (64 * j) (64 * j + 64))
theorem hv_len (T : ByteArray) : ∀ j, (hv T j).length = 8
  | 0 => H0_len
  | j + 1 => blk_len _ _ _ (hv_len T j)
/-- The text of the first words. -/
def tw (V : List Int) : Nat → ByteArray
  | 0 => ⟨#[]⟩
  | i + 1 => tw V i ++ n4 (wrap64 (rd V i))
theorem tw_size (V : List Int) : ∀ i, (tw V i).size = 4 * i
  | 0 => rfl
  | i + 1 => by rw [tw, ByteArray.size_append, n4_size, tw_size V i]; omega
theorem hv_up (T : ByteArray) {x : Int} (h0 : 0 ≤ x) (hm : x % 64 = 0) : hv T ((x + 64) / 64).toNat = blk (hv T (x / 64).toNat) K0 (T.extract x.toNat (x + 64).toNat) := by
  rw [show ((x + 64) / 64).toNat = (x / 64).toNat + 1 by omega, hv, show 64 * (x / 64).toNat = x.toNat by omega, show (x + 64).toNat = x.toNat + 64 by omega]
theorem tw_up (V : List Int) {i : Int} (h0 : 0 ≤ i) : tw V (i + 1).toNat = tw V i.toNat ++ n4 (wrap64 (rd V i)) := by
  rw [show (i + 1).toNat = i.toNat + 1 by omega, tw, show ((i.toNat : Nat) : Int) = i by omega]
def sha (s : ByteArray) : ByteArray := tw (hv (pad s) ((pad s).size / 64)) 8
set_option maxHeartbeats 16000000 in
set_option maxRecDepth 100000 in
theorem hash_r6 {Q : Exit → Act → World → Prop} (u0 u1 u2 u7 u8 u9 u10 u11 u12 u13 u14 u15 u16 u17 u18 u19 u20 u21 u22 u23 u24 u25 u26 u27 u28 u29 u30 u31 u32 u33 u34 u35 u36 u37 u38 u39 u40 u41 u42 u43 u44 u45 u46 u47 u48 u49 u50 : Value) (g4 g5 : Nat) (x y : Int) (V : List Int) (T : ByteArray) (wr wz : World) (HG4 : Aside0 (Has wr.drew g4 96 V)) (HG5 : Aside0 (Has wr.drew g5 98 K0)) (HQW : Aside0 (wz = wr.drew)) (HV : Aside0 (V.length = 8))
    (hy : IntKind.i64.wrap (x + 64) = y) (p0 : (0 ≤ x) = True) (p1 : (x ≤ y) = True) (p2 : (y ≤ (T.size : Int)) = True) (p3 : (0 ≤ y) = True)
    (HBK : Aside0 (∀ W, Calls Try.prog 74 #[.agg (cl V), .agg (cl K0), .string (T.extract x.toNat y.toNat)] W fun e w' => e = .returned (.agg (cl (blk V K0 (T.extract x.toNat y.toNat)))) ∧ Below W.heap.size W w')) (HBL : Aside0 ((blk V K0 (T.extract x.toNat y.toNat)).length = 8))
    (hpan : ∀ c a t v w, Q (.panic c) (Act.put a (some t) v) w → Q (.panic c) a w) (hQ : Aside0 (∀ (v32 v33 v34 v35 v36 v37 v38 v39 : Value) (w' : World), Has w' g4 96 (blk V K0 (T.extract x.toNat y.toNat)) → (∀ b, b ≤ g4 → b ≤ wz.heap.size → Below b wz w') → (∀ k, k ≠ g4 → k < wz.heap.size → w'.heap[k]? = wz.heap[k]?) → Q .normal ⟨List.toArray (u0 :: u1 :: u2 :: .string T :: .pointer (some ⟨g4, 0, none⟩) :: .pointer (some ⟨g5, 0, none⟩) :: .int .i64 x :: u7 :: u8 :: u9 :: u10 :: u11 :: u12 :: u13 :: u14 :: u15 :: u16 :: u17 :: u18 :: u19 :: u20 :: u21 :: u22 :: u23 :: u24 :: u25 :: u26 :: u27 :: u28 :: u29 :: u30 :: u31 :: v32 :: v33 :: v34 :: v35 :: v36 :: v37 :: v38 :: v39 :: u40 :: u41 :: u42 :: u43 :: u44 :: u45 :: u46 :: u47 :: u48 :: u49 :: u50 :: []), []⟩ w')) :
    Code.wp Try.prog (Code.region 6 (opsOf Try.f38 6) true) Q ⟨List.toArray (u0 :: u1 :: u2 :: .string T :: .pointer (some ⟨g4, 0, none⟩) :: .pointer (some ⟨g5, 0, none⟩) :: .int .i64 x :: u7 :: u8 :: u9 :: u10 :: u11 :: u12 :: u13 :: u14 :: u15 :: u16 :: u17 :: u18 :: u19 :: u20 :: u21 :: u22 :: u23 :: u24 :: u25 :: u26 :: u27 :: u28 :: u29 :: u30 :: u31 :: u32 :: u33 :: u34 :: u35 :: u36 :: u37 :: u38 :: u39 :: u40 :: u41 :: u42 :: u43 :: u44 :: u45 :: u46 :: u47 :: u48 :: u49 :: u50 :: []), []⟩ wr := by
  conv => arg 2; arg 2; whnf
  refine start_ (n := 9) (S := fun w' => Has w' g4 96 V ∧ Has w' g5 98 K0) (ds := [8]) #[false, false, false, false, false, false, false, false, false] (by kernel_rfl) rfl rfl ⟨HG4.out, HG5.out⟩ (fun hHeld => ?_)
  generalize wr.drew = wq at HG4 HG5 HQW hHeld ⊢
  refine pure_ (i := 2) (N := some 34) (v := ?_) (a' := ?_) #[false, false, true, false, false, false, false, false, false] rfl rfl (by kernel_rfl) (fun _ _ _ h => hpan _ _ _ _ _ h) (Or.inl ⟨by rfl, ?_⟩) ?_ ?_
  rotate_left
  · intro w'
    go_simp
    with_reducible rfl
  rotate_left
  · simp only [Act.put, List.setIfInBounds_toArray, List.set_cons_zero, List.set_cons_succ, i64_w, i32_w]
    rfl
  refine pure_ (i := 3) (N := some 35) (v := ?_) (a' := ?_) #[false, false, true, true, false, false, false, false, false] rfl rfl (by kernel_rfl) (fun _ _ _ h => hpan _ _ _ _ _ h) (Or.inl ⟨by rfl, ?_⟩) ?_ ?_
  rotate_left
  · intro w'
    go_simp
    with_reducible rfl
  rotate_left
  · simp only [Act.put, List.setIfInBounds_toArray, List.set_cons_zero, List.set_cons_succ, i64_w, i32_w]
    rfl
  refine pure_ (i := 4) (N := some 36) (v := ?_) (a' := ?_) #[false, false, true, true, true, false, false, false, false] rfl rfl (by kernel_rfl) (fun _ _ _ h => hpan _ _ _ _ _ h) (Or.inl ⟨by rfl, ?_⟩) ?_ ?_
  rotate_left
  · intro w'
    go_simp
    with_reducible rfl
  rotate_left
  · simp only [Act.put, List.setIfInBounds_toArray, List.set_cons_zero, List.set_cons_succ, i64_w, i32_w]
    rfl
  refine pure_ (i := 5) (N := some 37) (v := ?_) (a' := ?_) #[false, false, true, true, true, true, false, false, false] rfl rfl (by kernel_rfl) (fun _ _ _ h => hpan _ _ _ _ _ h) (Or.inl ⟨by rfl, ?_⟩) ?_ ?_
  rotate_left
  · intro w'
    go_simp
    with_reducible rfl
  rotate_left
  · simp only [Act.put, List.setIfInBounds_toArray, List.set_cons_zero, List.set_cons_succ, i64_w, i32_w]
    rfl
  refine pure_ (i := 6) (N := some 38) (v := ?_) (a' := ?_) #[false, false, true, true, true, true, true, false, false] rfl rfl (by kernel_rfl) (fun _ _ _ h => hpan _ _ _ _ _ h) (Or.inl ⟨by rfl, ?_⟩) ?_ ?_
  rotate_left
  · intro w'
    go_simp
    with_reducible rfl
  rotate_left
  · simp only [Act.put, List.setIfInBounds_toArray, List.set_cons_zero, List.set_cons_succ, i64_w, i32_w]
    rfl
  refine take_ (i := 0) (N := some 32) (v := .agg (cl V)) (a' := ?_) #[true, false, true, true, true, true, true, false, false] rfl rfl (by kernel_rfl) (fun _ _ _ h => hpan _ _ _ _ _ h) (Or.inl ⟨by rfl, ?_⟩) hHeld ?_ ?_
  · rintro w' ⟨s0, s1⟩
    exact load_run rfl rfl s0 Try.underlying96 (by rw [HV.out]; kernel_rfl)
  rotate_left
  · simp only [Act.put, List.setIfInBounds_toArray, List.set_cons_zero, List.set_cons_succ, i64_w, i32_w]
    rfl
  refine take_ (i := 1) (N := some 33) (v := .agg (cl K0)) (a' := ?_) #[true, true, true, true, true, true, true, false, false] rfl rfl (by kernel_rfl) (fun _ _ _ h => hpan _ _ _ _ _ h) (Or.inl ⟨by rfl, ?_⟩) hHeld ?_ ?_
  · rintro w' ⟨s0, s1⟩
    exact load_run rfl rfl s1 Try.underlying98 (by rw [K0_len]; kernel_rfl)
  rotate_left
  · simp only [Act.put, List.setIfInBounds_toArray, List.set_cons_zero, List.set_cons_succ, i64_w, i32_w]
    rfl
  refine one_ (i := 7) (N := some 39) #[true, true, true, true, true, true, true, true, false] rfl rfl (by kernel_rfl) (by decide) (fun K hK => ?_)
  refine goes_ Try.func74 (by kernel_rfl) rfl #[.agg (cl V), .agg (cl K0), .string (T.extract x.toNat y.toNat)] (by rfl) rfl rfl (by simp only [List.map_toArray, List.map_cons, List.map_nil]; rfl) ?_
  refine (HBK.out _).mono ?_
  rintro e_ wc ⟨rfl, bc⟩
  refine ⟨_, rfl, ?_⟩
  refine hK.out _ _ ⟨(hHeld.1.below bc hHeld.1.lt), (hHeld.2.below bc hHeld.2.lt)⟩ (fun hHeld => ?_)
  clear hK K
  refine norm_ (a' := ?_) ?_ ?_
  rotate_left
  · show Act.put _ (some 39) _ = _
    simp only [Act.put, List.setIfInBounds_toArray, List.set_cons_zero, List.set_cons_succ, i64_w, i32_w]
    rfl
  refine last_ (i := 8) (N := none) #[true, true, true, true, true, true, true, true, true] rfl rfl (by kernel_rfl) (by decide) (fun K hK => ?_)
  refine store_step (by rfl) rfl rfl (L := V) (L' := blk V K0 (T.extract x.toNat y.toNat)) rfl rfl hHeld.1 (by rw [HBL.out]; kernel_rfl) (by rw [HBL.out, HV.out]) ?_
  rintro w6 H6 b6 z6 f6
  refine hK.out _ _ ?_
  clear hK K
  refine done_ (by kernel_rfl) ?_
  have hz := HQW.out
  subst hz
  exact hQ.out _ _ _ _ _ _ _ _ _ H6 (fun b h1 h2 => (bc.mono h2).trans (b6 b h1)) (fun k h1 h2 => (f6 k h1).trans (bc.block k h2))
set_option maxHeartbeats 16000000 in
set_option maxRecDepth 100000 in
theorem impl_hash.walk (s : ByteArray) (w : World) (hs : s.size ≤ 1099511627776) :
    Calls Try.prog 38 #[.string s] w fun e w' => e = .returned (.string (sha s)) ∧ Below w.heap.size w w' := by
  have HS := Aside0.mk hs
  have hz : ((zs s : Nat) : Int) = (119 - (s.size : Int)) % 64 := by unfold zs; omega
  have HREP : Aside0 (∀ W, Calls Try.prog 70 #[.string ⟨#[0]⟩, .int .i64 ((119 - (s.size : Int)) % 64)] W fun e w' => e = .returned (.string ⟨(Lib.repeatL [0] (zs s)).toArray⟩) ∧ Below W.heap.size W w') := by
    refine ⟨fun W => ?_⟩
    rw [← hz]
    exact Try.strings_Repeat ⟨#[0]⟩ (zs s) W (by unfold zs; omega) (by show 1 * zs s ≤ _; unfold zs; omega)
  have HZS := Aside0.mk (show (Lib.repeatL [(0 : UInt8)] (zs s)).toArray.size = zs s ∧ zs s < 64 by
    refine ⟨?_, by unfold zs; omega⟩
    generalize zs s = k
    induction k with
    | zero => rfl
    | succ k ih => simpa [Lib.repeatL] using ih)
  have hm : IntKind.i64.wrap (8 * (s.size : Int)) = 8 * (s.size : Int) := by rw [i64_w]; unfold wrap64; omega
  have hm2 : wrap64 (8 * (s.size : Int)) = 8 * (s.size : Int) := by unfold wrap64; omega
  have hs1 : s.size + 1 ≤ 9223372036854775807 := by omega
  have hs2 : s.size + 1 + zs s ≤ 9223372036854775807 := by have := HZS.out; omega
  have hs3 : s.size + 1 + zs s + 8 ≤ 9223372036854775807 := by have := HZS.out; omega
  have HPAD := Aside0.mk (show s ++ ⟨#[128]⟩ ++ ⟨(Lib.repeatL [0] (zs s)).toArray⟩ ++ n8 (8 * (s.size : Int)) = pad s from rfl)
  have HN8 := Aside0.mk (fun W => impl_number.calls 20 (8 * (s.size : Int)) 8 (n8 (8 * (s.size : Int))) W (number_8 _))
  have HN8S := Aside0.mk (n8_size (8 * (s.size : Int)))
  have HPS := Aside0.mk (show (pad s).size = s.size + 1 + zs s + 8 by
    unfold pad
    simp only [ByteArray.size_append]
    rw [n8_size]
    have h1 : (ByteArray.mk (Lib.repeatL [(0 : UInt8)] (zs s)).toArray).size = zs s := HZS.out.1
    rw [h1]
    rfl)
  have HPM := Aside0.mk (show (pad s).size % 64 = 0 by rw [HPS.out]; unfold zs; omega)
  clear hs hz
  generalize hRZ : (ByteArray.mk (Lib.repeatL [(0 : UInt8)] (zs s)).toArray) = RZ at *
  have hrz : RZ.size = zs s := by rw [← hRZ]; exact HZS.out.1
  clear hRZ
  go_enter Try.func38, Try.ntmps38
  go_wp2_with fail
  refine (HREP.out _).mono ?_
  rintro e w1 ⟨rfl, hb1⟩
  have B1 := Aside0.mk hb1
  clear hb1
  go_wp2_with fail
  refine (HN8.out _).mono ?_
  rintro e w2 ⟨rfl, hb2⟩
  have B2 := Aside0.mk (below_step B1.out hb2)
  have hn8 := HN8S.out
  clear hb2 HN8 HN8S
  generalize n8 (8 * (s.size : Int)) = N8 at *
  go_wp2_with fail
  rw [HPAD.out]
  generalize hT : pad s = T at *
  have HTT := Aside0.mk hT
  clear hT
  refine (impl_hashWords.calls _).mono ?_
  rintro e w3 ⟨rfl, hb3⟩
  have B3 := Aside0.mk (below_step B2.out hb3)
  clear hb3
  go_wp2_with fail
  refine (impl_roundWords.calls _).mono ?_
  rintro e w4 ⟨rfl, hb4⟩
  have B4 := Aside0.mk (below_step B3.out hb4)
  clear hb4
  go_wp2_with (first
    | ((with_reducible refine gate_dst (N := 4) rfl ?_); refine ar_alloc rfl rfl (L := List.replicate 8 0) (by kernel_rfl) ?_; rintro g4 hg4 w5 H5 B5 S5; replace hg4 := Aside0.mk hg4; replace S5 := Aside0.mk S5)
    | ((with_reducible refine gate_dst (N := 5) rfl ?_); refine ar_alloc rfl rfl (L := List.replicate 64 0) (by kernel_rfl) ?_; rintro g5 hg5 w6 H6 B6 S6; replace hg5 := Aside0.mk hg5; replace S6 := Aside0.mk S6; replace H5 := H5.below B6 H5.lt)
    | ((with_reducible refine gate_store rfl ?_); refine ar_store rfl rfl rfl rfl rfl H5 (by kernel_rfl) (by kernel_rfl) ?_; rintro w7 H7 B7 S7 F7; replace S7 := Aside0.mk S7; clear H5)
    | ((with_reducible refine gate_store rfl ?_); refine ar_store rfl rfl rfl rfl rfl ((F7 g5 (by have := hg5.out; have := hg4.out; have := S5.out; omega)).trans H6) (by kernel_rfl) (by kernel_rfl) ?_; rintro w8 H8 B8 S8 F8; replace S8 := Aside0.mk S8))
  have LG := Aside0.mk (show w.heap.size ≤ g4 ∧ g4 < g5 by have := hg4.out; have := hg5.out; have := S5.out; have := B4.out.size; omega)
  have HG4 := Aside0.mk (show Has w8 g4 96 H0 from (F8 g4 (by have := LG.out; omega)).trans H7)
  have HG5 := Aside0.mk H8
  have HB := Aside0.mk (((below_step (below_step B4.out B5) B6).trans (B7 _ LG.out.1)).trans (B8 _ (by have := LG.out; omega)))
  clear B1 B2 B3 B4 B5 B6 B7 B8 S5 S6 S7 S8 H6 H7 H8 F7 F8 hg4 hg5
  go_wp2
  go_loopg [6] (T.size) (fun gg s6 wr => ∃ (x : Int), s6 = .int .i64 x ∧ Aside0 (0 ≤ x ∧ x ≤ (T.size : Int) ∧ x % 64 = 0 ∧ (T.size : Int) - x ≤ gg) ∧ Aside0 (Has wr g4 96 (hv T (x / 64).toNat)) ∧ Aside0 (Has wr g5 98 K0) ∧ Aside0 (Below w.heap.size w wr))
  case atStart => exact ⟨0, rfl, ⟨by omega⟩, HG4, HG5, HB⟩
  case round =>
    clear HG4 HG5 HB
    obtain ⟨x, rfl, HX, HG4, HG5, HB⟩ := hrel
    have HV := Aside0.mk (hv_len T (x / 64).toNat)
    by_cases hlt : x < (T.size : Int)
    · have hlt1 : decide (x < (T.size : Int)) = true := decide_eq_true hlt
      have HU := Aside0.mk (hv_up T HX.out.1 HX.out.2.2.1)
      generalize hv T (x / 64).toNat = V at *
      have hle : x + 64 ≤ (T.size : Int) := by have := HX.out; have := HPM.out; omega
      have hbig : (T.size : Int) ≤ 9223372036854775807 := by rw [HPS.out]; have := HS.out; have := HZS.out; omega
      obtain ⟨y, hy⟩ : ∃ y, IntKind.i64.wrap (x + 64) = y := ⟨_, rfl⟩
      have HY := Aside0.mk (show y = x + 64 by rw [i64_w] at hy; unfold wrap64 at hy; have := HX.out; omega)
      have p0 := eq_true (show 0 ≤ x from HX.out.1)
      have p1 := eq_true (show x ≤ y by rw [HY.out]; omega)
      have p2 := eq_true (show y ≤ (T.size : Int) by rw [HY.out]; exact hle)
      have p3 := eq_true (show 0 ≤ y by rw [HY.out]; have := HX.out; omega)
      have HBK : Aside0 (∀ W, Calls Try.prog 74 #[.agg (cl V), .agg (cl K0), .string (T.extract x.toNat y.toNat)] W fun e w' => e = .returned (.agg (cl (blk V K0 (T.extract x.toNat y.toNat)))) ∧ Below W.heap.size W w') :=
        ⟨fun W => impl_blockHash.calls V K0 (T.extract x.toNat y.toNat) W (by rw [ByteArray.size_extract, HY.out]; have := HX.out; omega) HV.out K0_len⟩
      have HBL := Aside0.mk (blk_len V K0 (T.extract x.toNat y.toNat) HV.out)
      have HG4d := Aside0.mk HG4.out.drew
      have HG5d := Aside0.mk HG5.out.drew
      clear hle hbig
      go_wp2
      refine hash_r6 _ _ _ _ _ _ _ _ _ _ _ _ _ _ _ _ _ _ _ _ _ _ _ _ _ _ _ _ _ _ _ _ _ _ _ _ _ _ _ _ _ _ _ _ _ _ _ g4 g5 x y V T _ _ HG4d HG5d ⟨rfl⟩ HV hy p0 p1 p2 p3 HBK HBL (fun _ _ _ _ _ h => h) ⟨?_⟩
      intro v32 v33 v34 v35 v36 v37 v38 v39
      intro w7 H7 b7 f7
      go_wp2
      go_roundg ((T.size : Int) - y).toNat
      case measure => have := HX.out; have := HY.out; omega
      case rel =>
        have hw5 := HG5d.out.lt
        have hw4 := HG4d.out.lt
        refine ⟨y, ?_, ⟨by have := HX.out; have := HY.out; have := of_eq_true p2; omega⟩, ⟨?_⟩, ⟨?_⟩, ⟨?_⟩⟩
        · first | rfl | (rw [← hy, i64_w])
        · rw [HY.out, HU.out, ← HY.out]
          exact H7
        · exact (f7 g5 (by have := LG.out; omega) hw5).trans HG5d.out
        · exact HB.out.drew.trans (b7 _ LG.out.1 (by have := HB.out.drew.size; omega))
    · have hlt1 : decide (x < (T.size : Int)) = false := decide_eq_false hlt
      have HE := Aside0.mk (show hv T (x / 64).toNat = hv T (T.size / 64) by have := HX.out; rw [show (x / 64).toNat = T.size / 64 by omega])
      generalize hv T (x / 64).toNat = V at *
      have HI := Aside0.mk (show (Try.prog.info? 96).map (·.size) = some V.length by rw [HV.out]; kernel_rfl)
      clear hlt
      go_wp2_with ((with_reducible refine gate_dst (N := 40) rfl ?_); refine ar_load rfl rfl rfl HG4.out Try.underlying96 HI.out ?_)
      go_loopg [7, 41] 8 (fun gg s7 s41 wr2 => ∃ (i : Int), s7 = .string (tw V i.toNat) ∧ s41 = .int .i64 i ∧ Aside0 (0 ≤ i ∧ i ≤ 8 ∧ 8 - i ≤ gg) ∧ Aside0 (Below w.heap.size w wr2))
      case atStart => exact ⟨0, rfl, rfl, ⟨by omega⟩, HB⟩
      case round =>
        clear HB HG4 HG5
        obtain ⟨i, rfl, rfl, HX2, HB⟩ := hrel
        have hts := tw_size V i.toNat
        by_cases hlt2 : i < 8
        · have hlt3 : decide (i < 8) = true := decide_eq_true hlt2
          have HTU := Aside0.mk (tw_up V HX2.out.1)
          have h0 : 0 ≤ i := HX2.out.1
          have hn4 := n4_size (wrap64 (rd V i))
          have hsz : (tw V i.toNat).size + 4 ≤ 9223372036854775807 := by rw [hts]; omega
          have HN4 := Aside0.mk (fun W => impl_number.calls 20 (wrap64 (rd V i)) 4 (n4 (wrap64 (rd V i))) W (number_4 _))
          generalize n4 (wrap64 (rd V i)) = N4 at *
          generalize tw V i.toNat = TT at *
          have HTS := Aside0.mk hts
          clear hts
          go_wp2_with (first
            | ((with_reducible refine gate_dst (N := 43) rfl ?_); refine ar_index rfl rfl rfl rfl h0 (by rw [HV.out]; exact hlt2) HV.out.symm Try.underlying96 (by kernel_rfl) Try.underlying89 ?_)
            | (go_at_call 71; refine (HN4.out _).mono ?_; rintro e w9 ⟨rfl, hb9⟩; replace hb9 := Aside0.mk hb9))
          go_roundg (8 - (i + 1)).toNat
          case measure => have := HX2.out; omega
          case rel =>
            refine ⟨i + 1, ?_, ?_, ⟨by have := HX2.out; omega⟩, ⟨below_step HB.out hb9.out⟩⟩
            · rw [HTU.out]
            · first | rfl | (rw [up_w i h0 (by omega)])
        · have hlt3 : decide (i < 8) = false := decide_eq_false hlt2
          have hi8 : i = 8 := by have := HX2.out; omega
          have HT8 := Aside0.mk (show tw V 8 = sha s by unfold sha; rw [HTT.out, ← HE.out])
          subst hi8
          go_wp2
          go_ret
          exact ⟨by rw [← HT8.out]; rfl, HB.out⟩
end Go.Proofs.Ytjmfkhjhhohnkaa.T
