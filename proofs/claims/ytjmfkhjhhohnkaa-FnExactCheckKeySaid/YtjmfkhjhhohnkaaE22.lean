/- Hashes of texts in the reference: a leaf, a node. -/
import Derived.Test.YtjmfkhjhhohnkaaE20
namespace Go.Proofs.Ytjmfkhjhhohnkaa.Q
open Go.RowKit Go.Proofs.YtjmfkhjhhohnkaaW.PrintWords Go.Proofs.YtjmfkhjhhohnkaaW.PrintLast Go.Proofs.YtjmfkhjhhohnkaaW.PrintMore
open Go.Proofs.Ytjmfkhjhhohnkaa.T (ssha sha)
set_option linter.unusedVariables false
set_option linter.unusedSimpArgs false
-- EXT loop.example/g00298/spec.l04Node spec_l04Node 1 0
def spec_l04Node.f (a0 a1 : ByteArray) : Option ByteArray := if a0.size ≤ 1000000000 ∧ a1.size ≤ 1000000000 then some (sha (⟨#[110, 111, 100, 101]⟩ ++ a0 ++ a1)) else none
set_option maxHeartbeats 8000000 in
set_option maxRecDepth 100000 in
theorem spec_l04Node.calls (a0 a1 : ByteArray) (r : ByteArray) (w : World) (h : spec_l04Node.f a0 a1 = some r) :
    Calls Try.prog 86 #[.string a0, .string a1] w fun e w' => e = .returned (.string r) ∧ Below w.heap.size w w' := by
  unfold spec_l04Node.f at h
  split at h
  case isFalse => cases h
  case isTrue hs =>
    injection h with h
    subst h
    have hz : (⟨#[110, 111, 100, 101]⟩ ++ a0 ++ a1 : ByteArray).size = 4 + a0.size + a1.size := by rw [ByteArray.size_append, ByteArray.size_append]; rfl
    have HZ := Aside0.mk (show 4 + a0.size + a1.size ≤ 1099511627776 by omega)
    have HZZ := Aside0.mk hz
    have h4 : 4 + a0.size ≤ 9223372036854775807 := by omega
    have h5 : 4 + a0.size + a1.size ≤ 9223372036854775807 := by omega
    clear hz hs
    go_enter Try.func86, Try.ntmps86
    go_wp2_with (first
      | ((with_reducible refine gate_dst (N := 9) rfl ?_); refine conv_event rfl rfl (s := ⟨#[110, 111, 100, 101]⟩ ++ a0 ++ a1) (n := 4 + a0.size + a1.size) HZZ.out rfl HZ.out ?_; intro A5 c5 w1 hc5 hC5 hb5; have HC5 := Aside0.mk hC5; have HL5 := Aside0.mk hc5; have HB5 := Aside0.mk hb5; clear hC5 hc5 hb5)
      | (go_at_call 37; refine (hash_at _ (⟨#[110, 111, 100, 101]⟩ ++ a0 ++ a1) (4 + a0.size + a1.size) HZZ.out HZ.out A5 c5 HL5.out HC5.out).mono ?_; rintro e w2 ⟨rfl, hb2⟩; have HB2 := Aside0.mk hb2; clear hb2))
    go_ret
    exact ⟨rfl, below_step HB5.out HB2.out⟩
-- EXT loop.example/g00298/spec.l04Leaf spec_l04Leaf 1 0
def spec_l04Leaf.f (a0 a1 : ByteArray) : Option ByteArray := if a0.size ≤ 1000000000 ∧ a1.size ≤ 1000000000 then some (sha (⟨#[108, 101, 97, 102]⟩ ++ a0 ++ sha (⟨#[118, 97, 108, 117, 101]⟩ ++ a1))) else none
theorem sha_size (s : ByteArray) : (sha s).size = 32 := by
  unfold T.sha
  rw [T.tw_size]
set_option maxHeartbeats 8000000 in
set_option maxRecDepth 100000 in
theorem spec_l04Leaf.calls (a0 a1 : ByteArray) (r : ByteArray) (w : World) (h : spec_l04Leaf.f a0 a1 = some r) :
    Calls Try.prog 84 #[.string a0, .string a1] w fun e w' => e = .returned (.string r) ∧ Below w.heap.size w w' := by
  unfold spec_l04Leaf.f at h
  split at h
  case isFalse => cases h
  case isTrue hs =>
    injection h with h
    subst h
    have hy : (⟨#[118, 97, 108, 117, 101]⟩ ++ a1 : ByteArray).size = 5 + a1.size := by rw [ByteArray.size_append]; rfl
    have hsz := sha_size (⟨#[118, 97, 108, 117, 101]⟩ ++ a1)
    have HH := Aside0.mk (fun W => hash_at W (⟨#[118, 97, 108, 117, 101]⟩ ++ a1) (5 + a1.size) hy (by omega))
    have HY := Aside0.mk (show 5 + a1.size ≤ 1099511627776 by omega)
    have HYY := Aside0.mk hy
    generalize sha (⟨#[118, 97, 108, 117, 101]⟩ ++ a1) = t at *
    have hz : (⟨#[108, 101, 97, 102]⟩ ++ a0 ++ t : ByteArray).size = 4 + a0.size + t.size := by rw [ByteArray.size_append, ByteArray.size_append]; rfl
    have HZ := Aside0.mk (show 4 + a0.size + t.size ≤ 1099511627776 by omega)
    have HZZ := Aside0.mk hz
    have h4 : 4 + a0.size ≤ 9223372036854775807 := by omega
    have h5 : 4 + a0.size + t.size ≤ 9223372036854775807 := by omega
    have h6 : 5 + a1.size ≤ 9223372036854775807 := by omega
    clear hz hs hsz hy
    go_enter Try.func84, Try.ntmps84
    go_wp2_with ((with_reducible refine gate_dst (N := 9) rfl ?_); refine conv_event rfl rfl (s := ⟨#[118, 97, 108, 117, 101]⟩ ++ a1) (n := 5 + a1.size) HYY.out rfl HY.out ?_; intro A9 c9 w9 hc9 hC9 hb9; have HC9 := Aside0.mk hC9; have HL9 := Aside0.mk hc9; have HB9 := Aside0.mk hb9; clear hC9 hc9 hb9)
    refine (HH.out _ A9 c9 HL9.out HC9.out).mono ?_
    rintro e w2 ⟨rfl, hb2⟩
    have HB2 := Aside0.mk hb2
    clear hb2
    go_wp2_with ((with_reducible refine gate_dst (N := 12) rfl ?_); refine conv_event rfl rfl (s := ⟨#[108, 101, 97, 102]⟩ ++ a0 ++ t) (n := 4 + a0.size + t.size) HZZ.out rfl HZ.out ?_; intro A5 c5 w1 hc5 hC5 hb5; have HC5 := Aside0.mk hC5; have HL5 := Aside0.mk hc5; have HB5 := Aside0.mk hb5; clear hC5 hc5 hb5)
    refine (hash_at _ (⟨#[108, 101, 97, 102]⟩ ++ a0 ++ t) (4 + a0.size + t.size) HZZ.out HZ.out A5 c5 HL5.out HC5.out).mono ?_
    rintro e w4 ⟨rfl, hb4⟩
    have HB4 := Aside0.mk hb4
    clear hb4
    go_wp2
    go_ret
    exact ⟨rfl, below_step (below_step (below_step HB9.out HB2.out) HB5.out) HB4.out⟩
end Go.Proofs.Ytjmfkhjhhohnkaa.Q
