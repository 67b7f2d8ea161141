/- Small facts of indices, for namespace G. -/
import Derived.Test.YtfgnhghadghdkaaG1
import Derived.Test.YtfgnhghadghdkaaG2
import Derived.Test.YtfgnhghadghdkaaG4
import Derived.Lib.Strings
import Derived.WideShapes
namespace Go.Proofs.Ytfgnhghadghdkaa.Pure
open Go.RowKit Go.Proofs.Ytfgnhghadghdkaa.G Go.Proofs.YtfgnhghadghdkaaW.PrintWords Go.Proofs.YtfgnhghadghdkaaW.PrintLast
set_option linter.unusedVariables false
theorem by_up {i n : Nat} (h : i < n) (hn : n ≤ 9223372036854775807) : wrap64 ((i : Int) + 1) = ((i + 1 : Nat) : Int) := by unfold wrap64; omega
theorem by_suc (n : Nat) (h : n < 9223372036854775807) : wrap64 ((n : Int) + 1) = ((n + 1 : Nat) : Int) := by unfold wrap64; omega
theorem rd_i (l : List Int) (i : Nat) (h : i < l.length) : rd l (i : Int) = l[i] := by simp [rd, List.getD, List.getElem?_eq_getElem h]
theorem rs_i (l : List ByteArray) (i : Nat) (h : i < l.length) : rdOf ByteArray.empty l (i : Int) = l[i] := by simp [rdOf, List.getD, List.getElem?_eq_getElem h]
theorem bySize (l : List Int) : (strOfNums l).size = l.length := by unfold strOfNums; simp [ByteArray.size]
theorem sameTexts_l0 (x : List ByteArray) (hl : x.length ≤ 9223372036854775807) (d : Nat) : ∀ (k i : Nat), x.length - i = d → d < k → laws_sameTexts.l0 k x x (i : Int) = some true := by
  induction d with
  | zero =>
    intro k i hd hk
    obtain ⟨k, rfl⟩ : ∃ m, k = m + 1 := ⟨k - 1, by omega⟩
    simp only [laws_sameTexts.l0]
    rw [if_neg (by omega)]
  | succ d ih =>
    intro k i hd hk
    obtain ⟨k, rfl⟩ : ∃ m, k = m + 1 := ⟨k - 1, by omega⟩
    have hlt : i < x.length := by omega
    simp only [laws_sameTexts.l0, if_true]
    rw [if_pos (by omega), if_pos (by omega), if_pos (by omega), by_up hlt hl]
    exact ih k (i + 1) (by omega) (by omega)
theorem sameTexts_self (x : List ByteArray) (hl : x.length ≤ 9223372036854775807) (k : Nat) (hk : x.length < k) : laws_sameTexts.f k x x = some true := by
  unfold laws_sameTexts.f
  rw [if_pos rfl]
  exact sameTexts_l0 x hl x.length k 0 (by omega) hk
end Go.Proofs.Ytfgnhghadghdkaa.Pure
