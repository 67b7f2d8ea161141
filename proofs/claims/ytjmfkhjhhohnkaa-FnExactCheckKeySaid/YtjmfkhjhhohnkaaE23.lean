/- Hashes of constants in the reference: of nothing, and the first one of a chain. -/
import Derived.Test.YtjmfkhjhhohnkaaE20
import Derived.Lib.SlBytesConst
namespace Go.Proofs.Ytjmfkhjhhohnkaa.Q
open Go.RowKit Go.Proofs.YtjmfkhjhhohnkaaW.PrintWords Go.Proofs.YtjmfkhjhhohnkaaW.PrintLast Go.Proofs.YtjmfkhjhhohnkaaW.PrintMore
open Go.Proofs.Ytjmfkhjhhohnkaa.T (ssha sha)
set_option linter.unusedVariables false
set_option linter.unusedSimpArgs false
theorem C_marked {w : World} {g t : Nat} {fr : Nat × Nat} {l : List Int} (h : w.heap[g]? = some (.cells (l.map (Value.int .u8)).toArray t fr)) (hn : l.length ≤ 9223372036854775807) : Kd.C (Kd.int .u8) w (some ⟨g, 0, none⟩) l.length l := by
  refine ⟨rfl, hn, fun _ => ⟨⟨g, 0, none⟩, rfl, fun j p hj => ⟨[.int .u8 p], rfl, rfl, fun i u hi => ?_⟩⟩⟩
  have hi0 : i = 0 := by
    have := (List.getElem?_eq_some_iff.1 hi).1
    simpa using this
  subst hi0
  have hu : u = .int .u8 p := by simpa using hi.symm
  subst hu
  rw [add_plain]
  show w.cell? ⟨g, j * 1 + 0, none⟩ = _
  rw [Nat.mul_one, Nat.add_zero, mb_cell h]
  simp [hj]
-- EXT loop.example/g00298/spec.l04Empty spec_l04Empty 1 0
def spec_l04Empty.f : Option ByteArray := some (ssha [101, 109, 112, 116, 121])
set_option maxHeartbeats 8000000 in
set_option maxRecDepth 100000 in
theorem spec_l04Empty.calls (r : ByteArray) (w : World) (h : spec_l04Empty.f = some r) :
    Calls Try.prog 83 #[] w fun e w' => e = .returned (.string r) ∧ Below w.heap.size w w' := by
  injection h with h
  subst h
  have hcv := Lib.run_convert_bytes_const (P := Try.prog) w 22 5 #[.int .u8 101, .int .u8 109, .int .u8 112, .int .u8 116, .int .u8 121] 5 5 Try.underlying22 Try.underlying5
  have hcv2 : (convert 22 22 (.slice (some ⟨w.heap.size, 0, none⟩) 5 5)).run Try.prog (w.alloc (.cells #[.int .u8 101, .int .u8 109, .int .u8 112, .int .u8 116, .int .u8 121] 5)) = .ok (.slice (some ⟨w.heap.size, 0, none⟩) 5 5) (w.alloc (.cells #[.int .u8 101, .int .u8 109, .int .u8 112, .int .u8 116, .int .u8 121] 5 (5, 6))) := hcv
  clear hcv
  have HH := Aside0.mk (T.spec_l01Hash.walk (some ⟨w.heap.size, 0, none⟩) 5 [101, 109, 112, 116, 121] (w.alloc (.cells #[.int .u8 101, .int .u8 109, .int .u8 112, .int .u8 116, .int .u8 121] 5 (5, 6))) (C_marked (heap_alloc_last w _) (by decide)) (by decide) (by decide))
  go_enter Try.func83, Try.ntmps83
  go_wp2_with fail
  refine HH.out.mono ?_
  rintro e w2 ⟨rfl, hb2⟩
  have HB2 := Aside0.mk hb2
  clear hb2 hcv2
  go_wp2
  go_ret
  exact ⟨rfl, below_step (below_alloc (Below.refl _ _) _) HB2.out⟩
-- EXT loop.example/g00298/spec.l06First spec_l06First 1 0
def spec_l06First.f : Option ByteArray := some (ssha [102, 105, 114, 115, 116])
set_option maxHeartbeats 8000000 in
set_option maxRecDepth 100000 in
theorem spec_l06First.calls (r : ByteArray) (w : World) (h : spec_l06First.f = some r) :
    Calls Try.prog 50 #[] w fun e w' => e = .returned (.string r) ∧ Below w.heap.size w w' := by
  injection h with h
  subst h
  have hcv := Lib.run_convert_bytes_const (P := Try.prog) w 22 5 #[.int .u8 102, .int .u8 105, .int .u8 114, .int .u8 115, .int .u8 116] 5 5 Try.underlying22 Try.underlying5
  have hcv2 : (convert 22 22 (.slice (some ⟨w.heap.size, 0, none⟩) 5 5)).run Try.prog (w.alloc (.cells #[.int .u8 102, .int .u8 105, .int .u8 114, .int .u8 115, .int .u8 116] 5)) = .ok (.slice (some ⟨w.heap.size, 0, none⟩) 5 5) (w.alloc (.cells #[.int .u8 102, .int .u8 105, .int .u8 114, .int .u8 115, .int .u8 116] 5 (5, 6))) := hcv
  clear hcv
  have HH := Aside0.mk (T.spec_l01Hash.walk (some ⟨w.heap.size, 0, none⟩) 5 [102, 105, 114, 115, 116] (w.alloc (.cells #[.int .u8 102, .int .u8 105, .int .u8 114, .int .u8 115, .int .u8 116] 5 (5, 6))) (C_marked (heap_alloc_last w _) (by decide)) (by decide) (by decide))
  go_enter Try.func50, Try.ntmps50
  go_wp2_with fail
  refine HH.out.mono ?_
  rintro e w2 ⟨rfl, hb2⟩
  have HB2 := Aside0.mk hb2
  clear hb2 hcv2
  go_wp2
  go_ret
  exact ⟨rfl, below_step (below_alloc (Below.refl _ _) _) HB2.out⟩
end Go.Proofs.Ytjmfkhjhhohnkaa.Q
