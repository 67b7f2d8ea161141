/- The reference's hash of a packet. -/
import Derived.Test.YtjmfkhjhhohnkaaQ5
import Derived.Test.YtjmfkhjhhohnkaaEh
import Derived.Test.YtjmfkhjhhohnkaaMbs
import Derived.Lib.SlBytesConst
import Derived.ArgAppend
namespace Go.Proofs.Ytjmfkhjhhohnkaa.Q
open Go.RowKit Go.Proofs.YtjmfkhjhhohnkaaW.PrintWords Go.Proofs.YtjmfkhjhhohnkaaW.PrintLast Go.Proofs.YtjmfkhjhhohnkaaW.PrintMore
open Go.Proofs.Ytjmfkhjhhohnkaa.T (ssha sha)
set_option linter.unusedVariables false
set_option linter.unusedSimpArgs false
theorem hash_l (w : World) (l : List Int) (n : Nat) (hn : l.length = n) (hs : n ≤ 1099511627776) (A : Option Addr) (c : Nat) (hc : n ≤ c) (hC : Kd.C (Kd.int .u8) w A n l) :
    Calls Try.prog 37 #[.slice A n c] w fun e w' => e = .returned (.string (ssha l)) ∧ Below w.heap.size w w' := by
  subst hn
  exact T.spec_l01Hash.walk A c l w hC hc hs
-- EXT loop.example/g00298/spec.l07Hash spec_l07Hash 1 0
def spec_l07Hash.f (a0_0 : Int) (a0_1 : Int) (a0_2 : ByteArray) : Option ByteArray := if a0_2.size ≤ 1000000 then some (ssha ([112, 97, 99, 107, 101, 116] ++ ([a0_0 % 256, a0_1 % 256] ++ bytesOf a0_2))) else none
set_option maxHeartbeats 8000000 in
set_option maxRecDepth 100000 in
theorem spec_l07Hash.calls (a0_0 : Int) (a0_1 : Int) (a0_2 : ByteArray) (r : ByteArray) (w : World) (h : spec_l07Hash.f a0_0 a0_1 a0_2 = some r) :
    Calls Try.prog 42 #[.agg #[.int .i64 a0_0, .int .i64 a0_1, .string a0_2]] w fun e w' => e = .returned (.string r) ∧ Below w.heap.size w w' := by
  unfold spec_l07Hash.f at h
  split at h
  case isFalse => cases h
  case isTrue hs =>
    injection h with h
    subst h
    have hl : (bytesOf a0_2).length = a0_2.size := bytesOf_length a0_2
    obtain ⟨L, hL⟩ : ∃ L, L = [a0_0 % 256, a0_1 % 256] ++ bytesOf a0_2 := ⟨_, rfl⟩
    have HF := Aside0.mk (show spec_l07Bytes.f a0_0 a0_1 a0_2 = some L by
      unfold spec_l07Bytes.f
      rw [Option.bind_some, if_pos (by simp; omega), hL])
    have HLL := Aside0.mk (show L.length ≤ 1000002 by rw [hL]; simp [hl]; omega)
    rw [← hL]
    have HBY := Aside0.mk (fun W => spec_l07Bytes.calls a0_0 a0_1 a0_2 L W HF.out)
    have hu := Try.underlying34
    obtain ⟨n6, hn6⟩ : ∃ n, L.length = n := ⟨_, rfl⟩
    obtain ⟨n7, hn7⟩ : ∃ n, (([112, 97, 99, 107, 101, 116] : List Int) ++ L).length = n := ⟨_, rfl⟩
    have HN6 := Aside0.mk hn6
    have HN7 := Aside0.mk hn7
    have HB7 := Aside0.mk (show n7 ≤ 1000010 by rw [← hn7]; simp; have := HLL.out; omega)
    have HN76 := Aside0.mk (show n7 = 6 + n6 by rw [← hn7, ← hn6]; simp; omega)
    have HLP := Aside0.mk (show 0 < L.length by rw [hL]; simp)
    clear hl hL hs hn6 hn7
    go_enter Try.func42, Try.ntmps42
    have hcv : (convert 22 22 (.slice (some ⟨w.heap.size + 1, 0, none⟩) 6 6)).run Try.prog ((w.alloc (.cells #[.int .i64 a0_0, .int .i64 a0_1, .string a0_2] 34)).alloc (.cells #[.int .u8 112, .int .u8 97, .int .u8 99, .int .u8 107, .int .u8 101, .int .u8 116] 5)) = .ok (.slice (some ⟨w.heap.size + 1, 0, none⟩) 6 6) ((w.alloc (.cells #[.int .i64 a0_0, .int .i64 a0_1, .string a0_2] 34)).alloc (.cells #[.int .u8 112, .int .u8 97, .int .u8 99, .int .u8 107, .int .u8 101, .int .u8 116] 5 (6, 7))) := by
      have := Lib.run_convert_bytes_const (P := Try.prog) (w.alloc (.cells #[.int .i64 a0_0, .int .i64 a0_1, .string a0_2] 34)) 22 5 #[.int .u8 112, .int .u8 97, .int .u8 99, .int .u8 107, .int .u8 101, .int .u8 116] 6 6 Try.underlying22 Try.underlying5
      rw [show (w.alloc (.cells #[.int .i64 a0_0, .int .i64 a0_1, .string a0_2] 34)).heap.size = w.heap.size + 1 by show (w.heap.push _).size = _; simp] at this
      exact this
    go_wp2_with fail
    refine (HBY.out _).mono ?_
    rintro e w6 ⟨v6, rfl, hR6, hb6⟩
    clear hcv
    obtain ⟨g6, c6, hv6, _, _, _⟩ := Kd.R_form hR6 HLP.out
    subst hv6
    have HNEW : Aside0 (∀ j u, (encs (Value.int .u8) L)[j]? = some u → w6.cell? ((⟨g6, 0, none⟩ : Addr).add j) = some u) := by
      refine ⟨fun j u hj => ?_⟩
      have hjl : j < L.length := by
        have := (List.getElem?_eq_some_iff.1 hj).1
        simpa [encs] using this
      have h1 := (Kd.R_celln 0 hR6 (j : Int) (by omega) (by omega)).1
      have h2 : u = .int .u8 L[j] := by
        simp only [encs, List.getElem?_map, List.getElem?_eq_getElem hjl, Option.map_some] at hj
        exact (Option.some.inj hj).symm
      rw [add_plain, h2]
      rw [Int.toNat_natCast] at h1
      rw [h1]
      simp [rdOf, List.getD, hjl]
    have HOLD : Aside0 (∀ b, (some ⟨w.heap.size + 1, 0, none⟩ : Option Addr) = some b → ∀ j u, ([.int .u8 112, .int .u8 97, .int .u8 99, .int .u8 107, .int .u8 101, .int .u8 116] : List Value)[j]? = some u → w6.cell? (b.add j) = some u) := by
      refine ⟨fun b hb j u hj => ?_⟩
      injection hb with hb
      subst hb
      rw [add_plain]
      have hsz : (w.alloc (.cells #[.int .i64 a0_0, .int .i64 a0_1, .string a0_2] 34)).heap.size = w.heap.size + 1 := by show (w.heap.push _).size = _; simp
      have h1 := heap_alloc_last (w.alloc (.cells #[.int .i64 a0_0, .int .i64 a0_1, .string a0_2] 34)) (.cells #[.int .u8 112, .int .u8 97, .int .u8 99, .int .u8 107, .int .u8 101, .int .u8 116] 5 (6, 7))
      rw [hsz] at h1
      have h2 := (hb6.block (w.heap.size + 1) (blk_lt h1)).trans h1
      rw [mb_cell h2]
      simpa using hj
    have HB6 := Aside0.mk (show Below w.heap.size w w6 from ((below_alloc (below_alloc (Below.refl _ _) _) _).trans (hb6.mono (by simp; omega))))
    clear hR6 hb6
    rw [HN6.out]
    obtain ⟨i0, hi0, hz0⟩ := Option.map_eq_some_iff.1 (show (Try.prog.info? 5).map (fun i => (i.zero, i.size, i.bytes)) = some (some (.int .u8 0), 1, 1) by kernel_rfl)
    simp only [Prod.mk.injEq] at hz0
    have HI := Aside0.mk hi0
    have HZ0 := Aside0.mk hz0
    clear hi0 hz0
    go_wp2_with (first
      | ((with_reducible refine gate_dst (N := 7) rfl ?_); refine wpList_append_grows _ rfl (.tmp 4) (.tmp 6) 22 rfl 5 i0 (.int .u8 0) 1 1 Try.underlying22 HI.out HZ0.out.1 HZ0.out.2.1 HZ0.out.2.2 rfl (by decide) (some ⟨w.heap.size + 1, 0, none⟩) 6 6 [.int .u8 112, .int .u8 97, .int .u8 99, .int .u8 107, .int .u8 101, .int .u8 116] rfl (by simp) rfl HOLD.out ⟨g6, 0, none⟩ n6 c6 (encs (Value.int .u8) L) rfl (by rw [encs_length, HN6.out, Nat.mul_one]) HNEW.out (by intro u hu; simp only [encs, List.mem_map] at hu; obtain ⟨y, _, rfl⟩ := hu; rfl) (by have := HLP.out; have := HN6.out; omega) (by have := HLL.out; have := HN6.out; unfold maxLen; omega) (by have := HLL.out; have := HN6.out; omega) ?_; intro v7 w7 hown hgr; replace hown := Aside0.mk hown; replace hgr := Aside0.mk hgr; obtain ⟨A7, c7, hv7, hc7, hC7⟩ := Kd.R_reads (Kd.R_of_own (h1 := fun _ => rfl) (enc := Value.int .u8) (xs := ([112, 97, 99, 107, 101, 116] : List Int) ++ L) (ok := fun _ => True) (by rw [HN7.out, HN76.out]; have := hown.out; simpa [encs] using this) (fun _ _ => trivial)); subst hv7; rw [HN7.out] at hC7 hc7 ⊢; have HC7 := Aside0.mk hC7; have HCC7 := Aside0.mk hc7; clear hC7 hc7)
      | (go_at_call 37; refine (hash_l _ _ n7 HN7.out (by have := HB7.out; omega) A7 c7 HCC7.out HC7.out).mono ?_; rintro e w8 ⟨rfl, hb8⟩; have HB8 := Aside0.mk hb8; clear hb8))
    go_ret
    exact ⟨rfl, below_step (HB6.out.grown hgr.out HB6.out.size (by simp)) HB8.out⟩
end Go.Proofs.Ytjmfkhjhhohnkaa.Q
