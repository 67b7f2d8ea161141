/- The pure statement of the law FnExactKeyPath: what its functions compute answers as the law says. -/
import Derived.Test.YtjmfkhjhhohnkaaQ5
import Derived.Test.YtjmfkhjhhohnkaaE20
namespace Go.Proofs.Ytjmfkhjhhohnkaa.Pure
open Go.RowKit Go.Proofs.Ytjmfkhjhhohnkaa.Q Go.Proofs.YtjmfkhjhhohnkaaW.PrintWords Go.Proofs.YtjmfkhjhhohnkaaW.PrintLast
theorem FnExactKeyPath : laws_FnExactKeyPath.Pure := by
  intro a ha
  unfold laws_FnExactKeyPath.f
  by_cases h0 : (a.size : Int) > 1048576
  · rw [if_pos h0]
  · rw [if_neg h0]
    unfold spec_KeyPath.f impl_KeyPath.f
    by_cases h1 : (a.size : Int) > 65532
    · rw [if_pos h1, if_pos h1, Option.bind_some, Option.bind_some, if_pos rfl, if_pos rfl]
    · have hz : ((⟨#[112, 97, 116, 104]⟩ : ByteArray) ++ a).size = 4 + a.size := by rw [ByteArray.size_append]; rfl
      rw [if_neg h1, if_neg h1]
      unfold spec_l04Path.f impl_keyPath.f impl_hash.f
      rw [hz, if_pos (by omega), if_pos (by omega), if_pos (by omega)]
      simp
end Go.Proofs.Ytjmfkhjhhohnkaa.Pure
