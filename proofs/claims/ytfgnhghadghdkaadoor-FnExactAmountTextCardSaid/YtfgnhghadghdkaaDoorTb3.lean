/- What the row's listed variables give: the table of the powers of ten. -/
import Derived.Test.YtfgnhghadghdkaaDoorRows
import Derived.Lib.LaidTab
import Derived.Lib.ItoaNum
import Derived.LaidMore
import Derived.LaidHandle
import Derived.WalkSmall
import Derived.Stop.LaidErr
namespace Go.Proofs.YtfgnhghadghdkaaDoor.Tb3
open Go.RowKit
theorem gPow : Tryd.prog.globalNamed "internal/strconv.uint64pow10" = some 2 := by kernel_rfl
theorem gPowType : (Tryd.prog.globals[2]?).map (·.type) = some 74 := by kernel_rfl
theorem cellsPow : Tryd.prog.cellsOf 74 = 20 := by kernel_rfl
theorem cellsU : Tryd.prog.cellsOf 61 = 1 := by kernel_rfl
/-- What a call asks of the world: the table. -/
def TB (W : World) : Prop := Lib.TabIs Tryd.prog W "internal/strconv.uint64pow10" .u64 Lib.pow10Tab
theorem TB.lt {W : World} (h : TB W) : 2 < W.heap.size := by
  have key : ∀ {n : String} {g : Nat} {cs : Array Value}, Tryd.prog.globalNamed n = some g → W.var? Tryd.prog n = some cs → 0 < cs.size → g < W.heap.size := by
    intro n g cs hg hv hc
    have h0 := World.var?_cell hg hv 0
    rw [Array.getElem?_eq_getElem hc] at h0
    unfold World.cell? at h0
    rcases Nat.lt_or_ge g W.heap.size with h1 | h1
    · exact h1
    · rw [Array.getElem?_eq_none h1] at h0
      cases h0
  exact key gPow h (by simp [Lib.pow10Tab])
theorem TB.below {W W' : World} {b : Nat} (h : TB W) (hb : Below b W W') (hle : W.heap.size ≤ b) : TB W' := by
  have l1 := h.lt
  exact var?_below hb gPow (by omega) h
abbrev L3 : List (String × DataW Unit) := [("math/bits.deBruijn32tab", Rows.laid_math_bits_deBruijn32tab), ("math/bits.deBruijn64tab", Rows.laid_math_bits_deBruijn64tab), ("internal/strconv.uint64pow10", Rows.laid_internal_strconv_uint64pow10)]
theorem tb_of_laid {W : World} (hL : laidMetH Tryd.prog L3 W) : TB W := by
  have h0 : laidMet Tryd.prog L3 W := hL
  have h1 := h0.tail
  have h2 := h1.tail
  exact Lib.tabIs_of_head gPow gPowType Tryd.underlying74 Tryd.underlying61 cellsU cellsPow h2
noncomputable abbrev laidWorld (os : Os) : World := World.doorLaid Tryd.prog 400 os
theorem laidWorld_met (os : Os) (args : Array Value) : laidMetH Tryd.prog L3 ((laidWorld os).forCall (fun _ _ => 0) ⟨#[], args, []⟩).memory :=
  laidMetH_of_parts3 (fuel := 8) (laidMet_of_run' 8 (by kernel_rfl) (by kernel_rfl)) (by kernel_rfl) (by kernel_rfl)
end Go.Proofs.YtfgnhghadghdkaaDoor.Tb3
