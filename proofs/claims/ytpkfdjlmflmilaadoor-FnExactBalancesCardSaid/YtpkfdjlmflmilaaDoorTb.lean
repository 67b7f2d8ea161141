/- What the rows' listed variables give: the table of the powers of ten, and the two sentinels of strconv. -/
import Derived.Test.YtpkfdjlmflmilaaDoorRows
import Derived.Lib.LaidTab
import Derived.Lib.ItoaNum
import Derived.Stop.LaidErr
import Derived.LaidMore
import Derived.LaidHandle
import Derived.WalkSmall
namespace Go.Proofs.YtpkfdjlmflmilaaDoor.Tb
open Go.RowKit
theorem gPow : Tryd.prog.globalNamed "internal/strconv.uint64pow10" = some 3 := by kernel_rfl
theorem gPowType : (Tryd.prog.globals[3]?).map (·.type) = some 107 := by kernel_rfl
theorem cellsPow : Tryd.prog.cellsOf 107 = 20 := by kernel_rfl
theorem cellsU : Tryd.prog.cellsOf 88 = 1 := by kernel_rfl
theorem gER : Tryd.prog.globalNamed "strconv.ErrRange" = some 2 := by kernel_rfl
theorem gERType : (Tryd.prog.globals[2]?).map (·.type) = some 70 := by kernel_rfl
theorem gES : Tryd.prog.globalNamed "strconv.ErrSyntax" = some 1 := by kernel_rfl
theorem gESType : (Tryd.prog.globals[1]?).map (·.type) = some 70 := by kernel_rfl
theorem cellsE : Tryd.prog.cellsOf 99 = 1 := by kernel_rfl
theorem cellsS : Tryd.prog.cellsOf 9 = 1 := by kernel_rfl
theorem star : "*" ++ "errors.errorString" = "*errors.errorString" := by decide
theorem rowE (u : TypeId) (h : Tryd.prog.typeName? 3 u = some "*errors.errorString") : u = 97 :=
  typeName_ptr_named (nm := "errors.errorString") (by rw [star]; kernel_rfl) (by kernel_rfl) (by decide) u (by rw [star]; exact h)
/-- What a call asks of the world: the table, and a value in each sentinel. -/
def TB (W : World) : Prop := Lib.TabIs Tryd.prog W "internal/strconv.uint64pow10" .u64 Lib.pow10Tab ∧ (∃ tp p, W.var? Tryd.prog "strconv.ErrRange" = some #[.iface tp p]) ∧ ∃ tp p, W.var? Tryd.prog "strconv.ErrSyntax" = some #[.iface tp p]
theorem TB.lt {W : World} (h : TB W) : 3 < W.heap.size ∧ 2 < W.heap.size ∧ 1 < W.heap.size := by
  have key : ∀ {n : String} {g : Nat} {cs : Array Value}, Tryd.prog.globalNamed n = some g → W.var? Tryd.prog n = some cs → 0 < cs.size → g < W.heap.size := by
    intro n g cs hg hv hc
    have h0 := World.var?_cell hg hv 0
    rw [Array.getElem?_eq_getElem hc] at h0
    unfold World.cell? at h0
    rcases Nat.lt_or_ge g W.heap.size with h1 | h1
    · exact h1
    · rw [Array.getElem?_eq_none h1] at h0
      cases h0
  obtain ⟨h1, ⟨_, _, h2⟩, _, _, h3⟩ := h
  exact ⟨key gPow h1 (by simp [Lib.pow10Tab]), key gER h2 (by simp), key gES h3 (by simp)⟩
theorem TB.below {W W' : World} {b : Nat} (h : TB W) (hb : Below b W W') (hle : W.heap.size ≤ b) : TB W' := by
  obtain ⟨l1, l2, l3⟩ := h.lt
  obtain ⟨h1, ⟨a2, b2, h2⟩, a3, b3, h3⟩ := h
  exact ⟨var?_below hb gPow (by omega) h1, ⟨a2, b2, var?_below hb gER (by omega) h2⟩, a3, b3, var?_below hb gES (by omega) h3⟩
abbrev L5 : List (String × DataW Unit) := [("math/bits.deBruijn32tab", Rows.laid_math_bits_deBruijn32tab), ("math/bits.deBruijn64tab", Rows.laid_math_bits_deBruijn64tab), ("internal/strconv.uint64pow10", Rows.laid_internal_strconv_uint64pow10), ("strconv.ErrRange", Rows.laid_strconv_ErrRange), ("strconv.ErrSyntax", Rows.laid_strconv_ErrSyntax)]
theorem tb_of_laid {W : World} (hL : laidMetH Tryd.prog L5 W) : TB W := by
  have h0 : laidMet Tryd.prog L5 W := hL
  have h1 := h0.tail
  have h2 := h1.tail
  have h3 := h2.tail
  have h4 := h3.tail
  obtain ⟨a0, s0, hv0, -, -, -⟩ := laid_sentinel h3 gER gERType Tryd.underlying70 rowE Tryd.underlying97 Tryd.underlying99 rfl rfl Tryd.underlying9 cellsE cellsS
  obtain ⟨a1, s1, hv1, -, -, -⟩ := laid_sentinel h4 gES gESType Tryd.underlying70 rowE Tryd.underlying97 Tryd.underlying99 rfl rfl Tryd.underlying9 cellsE cellsS
  exact ⟨Lib.tabIs_of_head gPow gPowType Tryd.underlying107 Tryd.underlying88 cellsU cellsPow h2, ⟨_, _, hv0⟩, _, _, hv1⟩
noncomputable abbrev laidWorld (os : Os) : World := World.doorLaid Tryd.prog 400 os
theorem laidWorld_met (os : Os) (args : Array Value) : laidMetH Tryd.prog L5 ((laidWorld os).forCall (fun _ _ => 0) ⟨#[], args, []⟩).memory :=
  laidMetH_of_parts3 (fuel := 8) (laidMet_of_run' 8 (by kernel_rfl) (by kernel_rfl)) (by kernel_rfl) (by kernel_rfl)
end Go.Proofs.YtpkfdjlmflmilaaDoor.Tb
