/- The contracts of impl.PacketBytes and of the law FnExactPacketBytes. -/
import Derived.Test.YtifkdlcalkccaaaP1
import Derived.Test.YtifkdlcalkccaaaPMb
namespace Go.Proofs.Ytifkdlcalkccaaa.P
open Go.RowKit Go.Proofs.YtifkdlcalkccaaaW.PrintWords Go.Proofs.YtifkdlcalkccaaaW.PrintLast Go.Proofs.YtifkdlcalkccaaaW.PrintMore
set_option linter.unusedVariables false
set_option linter.unusedSimpArgs false
def impl_PacketBytes.f (k : Nat) (a b : Int) (s : ByteArray) : Option (List Int × Int) :=
  (impl_PacketOK.f a b s).bind fun t => if t = true then (impl_Packet_bytes.f k a b s).bind fun r => (if r.size ≤ 9223372036854775807 then some (bytesOf r, 0) else none) else some ([], 1)
set_option maxHeartbeats 4000000 in
set_option maxRecDepth 100000 in
theorem impl_PacketBytes.calls (k : Nat) (a b : Int) (s : ByteArray) (r1 : List Int) (r2 : Int) (w : World) (h : impl_PacketBytes.f k a b s = some (r1, r2)) :
    Calls Try.prog 38 #[.agg #[.int .i64 a, .int .i64 b, .string s]] w fun e w' => ∃ v, e = .returned (.tuple #[v, .int .i64 r2]) ∧ MB w' w.heap.size v r1 ∧ Below w.heap.size w w' := by
  unfold impl_PacketBytes.f at h
  obtain ⟨t, ht, h⟩ := Option.bind_eq_some_iff.1 h
  have hu := Try.underlying57
  have hub := Try.underlying46
  have huu := Try.underlying5
  have hus := Try.underlying9
  have HOK := Aside0.mk (fun W => impl_PacketOK.calls a b s t W ht)
  clear ht
  cases t with
  | true =>
    rw [if_pos rfl] at h
    obtain ⟨r, hr, h⟩ := Option.bind_eq_some_iff.1 h
    have HBY := Aside0.mk (fun W => impl_Packet_bytes.calls k a b s r W hr)
    by_cases hsz : r.size ≤ 9223372036854775807
    · rw [if_pos hsz] at h
      injection h with h
      injection h with e1 e2
      subst e1
      subst e2
      clear hr
      have hcv : ∀ W : World, (convert 9 46 (.string r)).run Try.prog W = .ok (.slice (some ⟨W.heap.size, 0, none⟩) r.size (grownCap W r.size 0 5)) (Lib.bytesWorld W 5 r) := fun W => Lib.run_convert_string_bytes W 9 46 5 r hus hub huu
      go_enter Try.func38, Try.ntmps38
      go_wp2_with (first
        | (go_at_call 72; refine (HOK.out _).mono ?_; rintro e w1 ⟨rfl, hb1⟩; have hx0 : w1.cell? ⟨w.heap.size, 0, none⟩ = some (.int .i64 a) := (hb1.cell (by simp)).trans ((mb_cell (heap_alloc_new w _) 0).trans rfl); have hx1 : w1.cell? ⟨w.heap.size, 1, none⟩ = some (.int .i64 b) := (hb1.cell (by simp)).trans ((mb_cell (heap_alloc_new w _) 1).trans rfl); have hx2 : w1.cell? ⟨w.heap.size, 2, none⟩ = some (.string s) := (hb1.cell (by simp)).trans ((mb_cell (heap_alloc_new w _) 2).trans rfl); have HB1 := Aside0.mk hb1; clear hb1)
        | (go_at_call 73; refine (HBY.out _).mono ?_; rintro e w2 ⟨rfl, hb2⟩; have HB2 := Aside0.mk hb2; clear hb2))
      go_ret2
      have hs1 : w.heap.size ≤ w1.heap.size := Nat.le_trans (by simp) HB1.out.size
      have hs2 : w.heap.size ≤ w2.heap.size := Nat.le_trans hs1 HB2.out.size
      have hb : Below w.heap.size w w2 := (((Below.refl _ w).alloc (Nat.le_refl _) _).trans (HB1.out.mono (by simp))).trans (HB2.out.mono hs1)
      exact ⟨_, rfl, MB_lower (MB_made w2 r hsz) hs2, hb.trans ((bytes_below w2 _ r).mono hs2)⟩
    · rw [if_neg hsz] at h
      cases h
  | false =>
    rw [if_neg (by simp)] at h
    injection h with h
    injection h with e1 e2
    subst e1
    subst e2
    go_enter Try.func38, Try.ntmps38
    go_wp2_with (go_at_call 72; refine (HOK.out _).mono ?_; rintro e w1 ⟨rfl, hb1⟩; have HB1 := Aside0.mk hb1; clear hb1)
    go_ret2
    exact ⟨_, rfl, .inl ⟨rfl, rfl⟩, ((Below.refl _ w).alloc (Nat.le_refl _) _).trans (HB1.out.mono (by simp))⟩
end Go.Proofs.Ytifkdlcalkccaaa.P
