/- impl.wordsOf: the 64 words of a block of 64 bytes. -/
import Derived.Test.YtjmfkhjhhohnkaaT1
import Derived.Test.YtjmfkhjhhohnkaaAr
namespace Go.Proofs.Ytjmfkhjhhohnkaa.T
open Go.RowKit Go.Proofs.YtjmfkhjhhohnkaaW.PrintWords Go.Proofs.YtjmfkhjhhohnkaaW.PrintLast Go.Proofs.YtjmfkhjhhohnkaaW.PrintMore Go.Proofs.Ytjmfkhjhhohnkaa.Ar
set_option linter.unusedVariables false
set_option linter.unusedSimpArgs false
def w16 (s : ByteArray) (x : Int) : Int := Go.bits .or .u32 (Go.bits .or .u32 (Go.bits .or .u32 (((bt s (4 * x) % 4294967296) * 16777216) % 4294967296) (((bt s (4 * x + 1) % 4294967296) * 65536) % 4294967296)) (((bt s (4 * x + 2) % 4294967296) * 256) % 4294967296)) (bt s (4 * x + 3) % 4294967296)
def sig0 (x : Int) : Int := Go.bits .xor .u32 (Go.bits .xor .u32 ((impl_turned.f x 7).getD 0) ((impl_turned.f x 18).getD 0)) (x / 8)
def sig1 (x : Int) : Int := Go.bits .xor .u32 (Go.bits .xor .u32 ((impl_turned.f x 17).getD 0) ((impl_turned.f x 19).getD 0)) (x / 1024)
def wx (L : List Int) (x : Int) : Int := (rd L (x - 16) + sig0 (rd L (x - 15)) + rd L (x - 7) + sig1 (rd L (x - 2))) % 4294967296
def wl (s : ByteArray) : Nat → List Int
  | 0 => List.replicate 64 0
  | i + 1 => (wl s i).set i (if i < 16 then w16 s i else wx (wl s i) i)
theorem turned_7 (x : Int) : impl_turned.f x 7 = some ((impl_turned.f x 7).getD 0) := by
  unfold impl_turned.f bits_RotateLeft32.f
  rw [if_pos (by decide +kernel), if_pos (by decide +kernel)]
  rfl
theorem turned_18 (x : Int) : impl_turned.f x 18 = some ((impl_turned.f x 18).getD 0) := by
  unfold impl_turned.f bits_RotateLeft32.f
  rw [if_pos (by decide +kernel), if_pos (by decide +kernel)]
  rfl
theorem turned_17 (x : Int) : impl_turned.f x 17 = some ((impl_turned.f x 17).getD 0) := by
  unfold impl_turned.f bits_RotateLeft32.f
  rw [if_pos (by decide +kernel), if_pos (by decide +kernel)]
  rfl
theorem turned_19 (x : Int) : impl_turned.f x 19 = some ((impl_turned.f x 19).getD 0) := by
  unfold impl_turned.f bits_RotateLeft32.f
  rw [if_pos (by decide +kernel), if_pos (by decide +kernel)]
  rfl
theorem wl_len (s : ByteArray) : ∀ i, (wl s i).length = 64
  | 0 => rfl
  | i + 1 => by rw [wl, List.length_set]; exact wl_len s i
theorem wl_lo (s : ByteArray) {x : Int} (h0 : 0 ≤ x) (h1 : x < 16) : wl s (x + 1).toNat = (wl s x.toNat).set x.toNat (w16 s x) := by
  rw [show (x + 1).toNat = x.toNat + 1 by omega, wl, if_pos (by omega), show ((x.toNat : Nat) : Int) = x by omega]
theorem wl_hi (s : ByteArray) {x : Int} (h1 : 16 ≤ x) : wl s (x + 1).toNat = (wl s x.toNat).set x.toNat (wx (wl s x.toNat) x) := by
  rw [show (x + 1).toNat = x.toNat + 1 by omega, wl, if_neg (by omega), show ((x.toNat : Nat) : Int) = x by omega]
theorem up_w (x : Int) (h0 : 0 ≤ x) (h1 : x < 1000000000) : wrap64 (x + 1) = x + 1 := by
  unfold wrap64
  omega
set_option maxHeartbeats 16000000 in
set_option maxRecDepth 100000 in
theorem impl_wordsOf.calls (s : ByteArray) (w : World) (hs : s.size = 64) :
    Calls Try.prog 100 #[.string s] w fun e w' => e = .returned (.agg (cl (wl s 64))) ∧ Below w.heap.size w w' := by
  go_enter Try.func100, Try.ntmps100
  go_wp2_with (first
    | ((with_reducible refine gate_dst (N := 2) rfl ?_); refine ar_alloc rfl rfl (L := List.replicate 64 0) (by kernel_rfl) ?_; rintro g2 hg2 w1 H1 B1 S1; replace hg2 := Aside0.mk hg2; replace S1 := Aside0.mk S1)
    | ((with_reducible refine gate_dst (N := 9) rfl ?_); refine ar_build rfl rfl (L := List.replicate 64 0) (by kernel_rfl) ?_)
    | ((with_reducible refine gate_dst (N := 3) rfl ?_); refine ar_alloc rfl rfl (L := List.replicate 64 0) (by kernel_rfl) ?_; rintro g3 hg3 w2 H2 B2 S2; replace hg3 := Aside0.mk hg3; replace S2 := Aside0.mk S2)
    | ((with_reducible refine gate_store rfl ?_); refine ar_store rfl rfl rfl rfl rfl H2 (by kernel_rfl) rfl ?_; rintro w3 H3 B3 S3 F3; replace S3 := Aside0.mk S3))
  have hsz1 : w.heap.size < w1.heap.size := by have := S1.out; omega
  have hg2' := hg2.out
  have hg3' := hg3.out
  have HB := Aside0.mk (show Below w.heap.size w w3 from B1.trans ((B2.mono (by omega)).trans (B3 _ (by omega))))
  have HG2 := Aside0.mk (show Has w3 g2 98 (List.replicate 64 0) from (F3 g2 (by omega)).trans (H1.below B2 H1.lt))
  have HG3 := Aside0.mk H3
  have E2 := Aside0.mk (show w.heap.size ≤ g2 by omega)
  have E3 := Aside0.mk (show w.heap.size ≤ g3 by omega)
  have E23 := Aside0.mk (show g2 ≠ g3 by omega)
  have HS := Aside0.mk hs
  clear hg2 H1 B1 S1 hg3 H2 B2 S2 H3 B3 S3 F3 hsz1 hs hg2' hg3'
  generalize w3 = wz at *
  go_loopg [10] 64 (fun gg s10 wr => ∃ (x : Int), s10 = .int .i64 x ∧ Aside0 (0 ≤ x ∧ x ≤ 64 ∧ 64 - x ≤ gg) ∧ Aside0 (Has wr g3 98 (wl s x.toNat)) ∧ Aside0 (Has wr g2 98 (List.replicate 64 0)) ∧ Aside0 (Below w.heap.size w wr))
  case atStart => exact ⟨0, rfl, ⟨by omega⟩, HG3, HG2, HB⟩
  case round =>
    clear HG2 HG3 HB
    obtain ⟨x, rfl, HX, HG3, HG2, HB⟩ := hrel
    by_cases hlt : x < 64
    · have hlt1 : decide (x < 64) = true := decide_eq_true hlt
      by_cases h16 : x < 16
      · have h161 : decide (x < 16) = true := decide_eq_true h16
        obtain ⟨j0, hj0⟩ : ∃ j, IntKind.i64.wrap (4 * x) = j := ⟨_, rfl⟩
        obtain ⟨j1, hj1⟩ : ∃ j, IntKind.i64.wrap (j0 + 1) = j := ⟨_, rfl⟩
        obtain ⟨j2, hj2⟩ : ∃ j, IntKind.i64.wrap (j0 + 2) = j := ⟨_, rfl⟩
        obtain ⟨j3, hj3⟩ : ∃ j, IntKind.i64.wrap (j0 + 3) = j := ⟨_, rfl⟩
        have hj : Aside0 (j0 = 4 * x ∧ j1 = 4 * x + 1 ∧ j2 = 4 * x + 2 ∧ j3 = 4 * x + 3) := by
          have := HX.out
          rw [i64_w] at hj0 hj1 hj2 hj3
          unfold wrap64 at hj0 hj1 hj2 hj3
          exact ⟨by omega⟩
        have p0 := eq_true (show 0 ≤ j0 by have := HX.out; have := hj.out; omega)
        have q0 := eq_true (show j0 < (s.size : Int) by have := HX.out; have := hj.out; have := HS.out; omega)
        have p1 := eq_true (show 0 ≤ j1 by have := HX.out; have := hj.out; omega)
        have q1 := eq_true (show j1 < (s.size : Int) by have := HX.out; have := hj.out; have := HS.out; omega)
        have p2 := eq_true (show 0 ≤ j2 by have := HX.out; have := hj.out; omega)
        have q2 := eq_true (show j2 < (s.size : Int) by have := HX.out; have := hj.out; have := HS.out; omega)
        have p3 := eq_true (show 0 ≤ j3 by have := HX.out; have := hj.out; omega)
        have q3 := eq_true (show j3 < (s.size : Int) by have := HX.out; have := hj.out; have := HS.out; omega)
        have b0 := bt_at s j0
        have b1 := bt_at s j1
        have b2 := bt_at s j2
        have b3 := bt_at s j3
        have px := eq_true (show 0 ≤ x by have := HX.out; omega)
        have qx := eq_true (show x < 64 by omega)
        have hc := HG3.out.celli x (by have := HX.out; omega) (by rw [wl_len]; have := HX.out; omega)
        have hf := blk_frozen HG3.out x.toNat
        go_wp2
        go_region
        go_wp2
        go_roundg ((64 - (x + 1)).toNat)
        case measure => have := HX.out; omega
        case rel =>
          have h0 : 0 ≤ x := HX.out.1
          obtain ⟨e0, e1, e2, e3⟩ := hj.out
          refine ⟨x + 1, ?_, ⟨by have := HX.out; omega⟩, ⟨?_⟩, ⟨?_⟩, ⟨?_⟩⟩
          · (first | rfl | (rw [up_w x h0 (by omega)]))
          · rw [wl_lo s h0 h16]
            have := HG3.out.set x.toNat (w16 s x)
            rw [e0, e1, e2, e3]
            exact this.drew
          · exact (HG2.out.far (by exact E23.out) _).drew
          · exact (HB.out.setCell E3.out _).drew
      · have h161 : decide (x < 16) = false := decide_eq_false h16
        obtain ⟨j0, hj0⟩ : ∃ j, IntKind.i64.wrap (x - 15) = j := ⟨_, rfl⟩
        obtain ⟨j1, hj1⟩ : ∃ j, IntKind.i64.wrap (x - 2) = j := ⟨_, rfl⟩
        obtain ⟨j2, hj2⟩ : ∃ j, IntKind.i64.wrap (x - 16) = j := ⟨_, rfl⟩
        obtain ⟨j3, hj3⟩ : ∃ j, IntKind.i64.wrap (x - 7) = j := ⟨_, rfl⟩
        have hj : Aside0 (j0 = x - 15 ∧ j1 = x - 2 ∧ j2 = x - 16 ∧ j3 = x - 7) := by
          have := HX.out
          rw [i64_w] at hj0 hj1 hj2 hj3
          unfold wrap64 at hj0 hj1 hj2 hj3
          exact ⟨by omega⟩
        have p0 := eq_true (show 0 ≤ j0 by have := HX.out; have := hj.out; omega)
        have q0 := eq_true (show j0 < 64 by have := HX.out; have := hj.out; omega)
        have p1 := eq_true (show 0 ≤ j1 by have := HX.out; have := hj.out; omega)
        have q1 := eq_true (show j1 < 64 by have := HX.out; have := hj.out; omega)
        have p2 := eq_true (show 0 ≤ j2 by have := HX.out; have := hj.out; omega)
        have q2 := eq_true (show j2 < 64 by have := HX.out; have := hj.out; omega)
        have p3 := eq_true (show 0 ≤ j3 by have := HX.out; have := hj.out; omega)
        have q3 := eq_true (show j3 < 64 by have := HX.out; have := hj.out; omega)
        have px := eq_true (show 0 ≤ x by have := HX.out; omega)
        have qx := eq_true (show x < 64 by omega)
        have hf := blk_frozen HG3.out x.toNat
        have hc := HG3.out.celli x (by have := HX.out; omega) (by rw [wl_len]; have := HX.out; omega)
        have c0 := HG3.out.celli j0 (by have := HX.out; have := hj.out; omega) (by rw [wl_len]; have := HX.out; have := hj.out; omega)
        have c1 := HG3.out.celli j1 (by have := HX.out; have := hj.out; omega) (by rw [wl_len]; have := HX.out; have := hj.out; omega)
        have c2 := HG3.out.celli j2 (by have := HX.out; have := hj.out; omega) (by rw [wl_len]; have := HX.out; have := hj.out; omega)
        have c3 := HG3.out.celli j3 (by have := HX.out; have := hj.out; omega) (by rw [wl_len]; have := HX.out; have := hj.out; omega)
        have T7 := Aside0.mk (fun W => impl_turned.calls _ _ _ W (turned_7 (rd (wl s x.toNat) j0)))
        have T18 := Aside0.mk (fun W => impl_turned.calls _ _ _ W (turned_18 (rd (wl s x.toNat) j0)))
        have T17 := Aside0.mk (fun W => impl_turned.calls _ _ _ W (turned_17 (rd (wl s x.toNat) j1)))
        have T19 := Aside0.mk (fun W => impl_turned.calls _ _ _ W (turned_19 (rd (wl s x.toNat) j1)))
        go_wp2
        go_region
        go_wp2_with fail
        refine (T7.out _).mono ?_
        rintro e w' ⟨rfl, ⟨n1, rfl⟩⟩
        go_wp2_with fail
        refine (T18.out _).mono ?_
        rintro e w' ⟨rfl, ⟨n2, rfl⟩⟩
        go_wp2_with fail
        refine (T17.out _).mono ?_
        rintro e w' ⟨rfl, ⟨n3, rfl⟩⟩
        go_wp2_with fail
        refine (T19.out _).mono ?_
        rintro e w' ⟨rfl, ⟨n4, rfl⟩⟩
        go_wp2
        go_region
        go_wp2
        go_roundg ((64 - (x + 1)).toNat)
        case measure => have := HX.out; omega
        case rel =>
          have h0 : 0 ≤ x := HX.out.1
          obtain ⟨e0, e1, e2, e3⟩ := hj.out
          refine ⟨x + 1, ?_, ⟨by have := HX.out; omega⟩, ⟨?_⟩, ⟨?_⟩, ⟨?_⟩⟩
          · (first | rfl | (rw [up_w x h0 (by omega)]))
          · rw [wl_hi s (by omega)]
            have := (HG3.out.drewN (1 + n1 + n2 + n3 + n4 + 1)).set x.toNat (wx (wl s x.toNat) x)
            rw [e0, e1, e2, e3]
            exact this
          · exact (HG2.out.drewN _).far (by exact E23.out) _
          · exact (pw_below_drewN HB.out _).setCell E3.out _
    · have hx64 : x = 64 := by have := HX.out; omega
      have hlt1 : decide (x < 64) = false := decide_eq_false hlt
      have HL := Aside0.mk (wl_len s x.toNat)
      have HW := Aside0.mk (show wl s x.toNat = wl s 64 by rw [hx64]; rfl)
      generalize wl s x.toNat = L at *
      have HI := Aside0.mk (show (Try.prog.info? 98).map (·.size) = some L.length by rw [HL.out]; kernel_rfl)
      have HI2 := Aside0.mk (show (List.replicate 64 (0 : Int)).length = L.length by rw [HL.out]; rfl)
      clear hx64 hlt
      go_wp2_with (first
        | ((with_reducible refine gate_dst (N := 86) rfl ?_); refine ar_load rfl rfl rfl HG3.out Try.underlying98 HI.out ?_)
        | ((with_reducible refine gate_store rfl ?_); refine ar_store rfl rfl rfl rfl rfl HG2.out HI.out HI2.out ?_; rintro w4 H4 B4 S4 F4; replace S4 := Aside0.mk S4))
      (try simp only [Exit.inBlock, Exit.then])
      refine bodyPost_ret (v := .agg (cl L)) ?_ rfl ?_
      · exact results_cell_row (P := Try.prog) rfl _ w4 g2 98 (cl L) (0, 0) _ rfl H4 Try.underlying98 rfl (by rw [cl_size]; exact HI.out)
      · rw [HW.out]
        exact ⟨rfl, HB.out.trans (B4 _ E2.out)⟩
end Go.Proofs.Ytjmfkhjhhohnkaa.T
