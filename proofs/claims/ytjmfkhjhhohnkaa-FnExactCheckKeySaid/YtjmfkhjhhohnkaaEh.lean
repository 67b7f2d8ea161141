/- The two hashes' contracts, as the print takes them. -/
import Derived.Test.YtjmfkhjhhohnkaaHa
import Derived.Test.YtjmfkhjhhohnkaaLh
namespace Go.Proofs.Ytjmfkhjhhohnkaa.Q
open Go.RowKit Go.Proofs.YtjmfkhjhhohnkaaW.PrintWords Go.Proofs.YtjmfkhjhhohnkaaW.PrintLast Go.Proofs.YtjmfkhjhhohnkaaW.PrintMore Go.Proofs.Ytjmfkhjhhohnkaa.T
-- EXT loop.example/g00298/spec.l01Hash spec_l01Hash 1 0
def spec_l01Hash.f (l : List Int) : Option ByteArray := if l.length ≤ 1099511627776 then some (ssha l) else none
theorem spec_l01Hash.calls (A0 : Option Addr) (c0 : Nat) (l0 : List Int) (r : ByteArray) (w : World) (hr0 : Kd.C (Kd.int .u8) w A0 l0.length l0) (hc0 : l0.length ≤ c0) (h : spec_l01Hash.f l0 = some r) :
    Calls Try.prog 37 #[.slice A0 l0.length c0] w fun e w' => e = .returned (.string r) ∧ Below w.heap.size w w' := by
  unfold spec_l01Hash.f at h
  split at h
  · rename_i hl
    injection h with h
    subst h
    exact spec_l01Hash.walk A0 c0 l0 w hr0 hc0 hl
  · cases h
-- EXT loop.example/g00298/impl.hash impl_hash 1 0
def impl_hash.f (s : ByteArray) : Option ByteArray := if s.size ≤ 1099511627776 then some (sha s) else none
theorem impl_hash.calls (a0 : ByteArray) (r : ByteArray) (w : World) (h : impl_hash.f a0 = some r) :
    Calls Try.prog 38 #[.string a0] w fun e w' => e = .returned (.string r) ∧ Below w.heap.size w w' := by
  unfold impl_hash.f at h
  split at h
  · rename_i hl
    injection h with h
    subst h
    exact impl_hash.walk a0 w hl
  · cases h
end Go.Proofs.Ytjmfkhjhhohnkaa.Q
