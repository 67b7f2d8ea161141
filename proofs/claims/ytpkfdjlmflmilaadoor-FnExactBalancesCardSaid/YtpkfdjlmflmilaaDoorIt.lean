/- strconv.Itoa's contract, as the print takes it. -/
import Derived.Test.YtpkfdjlmflmilaaDoorTb
import Derived.Test.YtpkfdjlmflmilaaDoorShelf
import Derived.Test.YtpkfdjlmflmilaaDoorWMore
namespace Go.Proofs.YtpkfdjlmflmilaaDoor.Q
open Go.RowKit Go.Proofs.YtpkfdjlmflmilaaDoorW.PrintWords Go.Proofs.YtpkfdjlmflmilaaDoorW.PrintLast Go.Proofs.YtpkfdjlmflmilaaDoorW.PrintMore
theorem below_grow (w : World) (k : Nat) (os : Array Obj) : Below w.heap.size w (Go.Sort.grow (w.drewN k) os) := by
  refine (pw_below_drewN (Below.refl w.heap.size w) k).trans ⟨rfl, rfl, rfl, ?_, fun j hj => ?_⟩
  · show (w.drewN k).heap.size ≤ ((w.drewN k).heap ++ os).size
    rw [Array.size_append]
    omega
  · have h := (pw_below_drewN (Below.refl w.heap.size w) k).size
    show ((w.drewN k).heap ++ os)[j]? = (w.drewN k).heap[j]?
    exact Array.getElem?_append_left (by omega)
-- EXT strconv.Itoa strconv_Itoa 1 0
def strconv_Itoa.f (n : Int) : Option ByteArray := if -9223372036854775808 ≤ n ∧ n ≤ 9223372036854775807 then some ⟨(Lib.itoa n).toArray⟩ else none
theorem strconv_Itoa.calls (a0 : Int) (r : ByteArray) (w : World) (htab : Tb.TB w) (h : strconv_Itoa.f a0 = some r) :
    Calls Tryd.prog 72 #[.int .i64 a0] w fun e w' => e = .returned (.string r) ∧ Below w.heap.size w w' := by
  unfold strconv_Itoa.f at h
  split at h
  · rename_i hn
    injection h with h
    subst h
    refine (Tryd.strconv_Itoa a0 hn.1 hn.2 w htab.1).mono ?_
    rintro e w' ⟨rfl, k, os, rfl⟩
    exact ⟨rfl, below_grow w k os⟩
  · cases h
end Go.Proofs.YtpkfdjlmflmilaaDoor.Q
