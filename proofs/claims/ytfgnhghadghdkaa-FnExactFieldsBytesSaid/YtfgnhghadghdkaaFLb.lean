/- What the laws' own functions over bytes answer at equal bytes, and at marked ones. -/
import Derived.Test.YtfgnhghadghdkaaF1
import Derived.Test.YtfgnhghadghdkaaF2
import Derived.Test.YtfgnhghadghdkaaFMb
namespace Go.Proofs.Ytfgnhghadghdkaa.F
open Go.RowKit Go.Proofs.YtfgnhghadghdkaaW.PrintWords Go.Proofs.YtfgnhghadghdkaaW.PrintLast Go.Proofs.YtfgnhghadghdkaaW.PrintMore
set_option linter.unusedVariables false
theorem lb_up (i : Nat) (h : i < 9223372036854775807) : wrap64 ((i : Int) + 1) = ((i + 1 : Nat) : Int) := by unfold wrap64; omega
theorem eqB_l0 (x : List Int) (hl : x.length ≤ 1073741824) (d : Nat) : ∀ (k i : Nat), x.length - i = d → d < k → laws_eqByteS.l0 k x x (i : Int) = some true := by
  induction d with
  | zero =>
    intro k i hd hk
    obtain ⟨k, rfl⟩ : ∃ m, k = m + 1 := ⟨k - 1, by omega⟩
    simp only [laws_eqByteS.l0]
    rw [if_neg (by omega)]
  | succ d ih =>
    intro k i hd hk
    obtain ⟨k, rfl⟩ : ∃ m, k = m + 1 := ⟨k - 1, by omega⟩
    simp only [laws_eqByteS.l0, if_true]
    rw [if_pos (by omega), if_pos (by omega), if_pos (by omega), lb_up i (by omega)]
    exact ih k (i + 1) (by omega) (by omega)
theorem eqB_refl (x : List Int) (hl : x.length ≤ 1073741824) : laws_eqByteS.f (x.length + 1) x x = some true := by
  unfold laws_eqByteS.f
  rw [if_pos rfl]
  exact eqB_l0 x hl x.length _ 0 (by omega) (by omega)
theorem heldB_l0 (n : Nat) (hl : n ≤ 1073741824) (d : Nat) : ∀ (k i : Nat), n - i = d → i ≤ n → d < k → laws_heldByteS.l0 k (marked n) ((1 + i : Nat) : Int) (i : Int) = some ((1 + n : Nat) : Int) := by
  induction d with
  | zero =>
    intro k i hd hi hk
    obtain ⟨k, rfl⟩ : ∃ m, k = m + 1 := ⟨k - 1, by omega⟩
    have : i = n := by omega
    subst this
    simp only [laws_heldByteS.l0]
    rw [if_neg (by rw [marked_len]; omega)]
  | succ d ih =>
    intro k i hd hi hk
    obtain ⟨k, rfl⟩ : ∃ m, k = m + 1 := ⟨k - 1, by omega⟩
    have hr : rd (marked n) (i : Int) = ((1 + i : Nat) : Int) % 256 := by
      unfold rd marked
      rw [List.getD_eq_getElem?_getD, Int.toNat_natCast, List.getElem?_map, List.getElem?_range (by omega)]
      rfl
    simp only [laws_heldByteS.l0]
    rw [if_pos (by rw [marked_len]; omega), if_pos (by omega), hr, if_pos rfl, lb_up (1 + i) (by omega), lb_up i (by omega), show 1 + i + 1 = 1 + (i + 1) by omega]
    exact ih k (i + 1) (by omega) (by omega) (by omega)
theorem heldB (n : Nat) (hl : n ≤ 1073741824) : laws_heldByteS.f (n + 1) (marked n) 1 = some ((1 + n : Nat) : Int) := by
  unfold laws_heldByteS.f
  exact heldB_l0 n hl n _ 0 (by omega) (by omega) (by omega)
/-- Another block has been written. -/
theorem R_apart {W W1 : World} {b B : Nat} {v u : Value} {l : List Int} (h : Kd.R (Kd.int .u8) 5 W b (fun k => k < B) v l) (hu : ∀ k, u.ownBlock = some k → B ≤ k) (hk : ∀ k, k < W.heap.size → u.ownBlock ≠ some k → W1.heap[k]? = W.heap[k]?) : Kd.R (Kd.int .u8) 5 W1 b (fun k => k < B) v l :=
  Kd.R_step h (fun k hlt hw => hk k hw (fun e => by have := hu k e; omega))
theorem R_told {W : World} {b : Nat} {v : Value} {l : List Int} (h : Kd.R (Kd.int .u8) 5 W b (fun _ => True) v l) : Kd.R (Kd.int .u8) 5 W b (fun k => k < W.heap.size) v l :=
  Kd.R_mono (Kd.R_bound h) (fun k hk => hk.2.2.1)
end Go.Proofs.Ytfgnhghadghdkaa.F
