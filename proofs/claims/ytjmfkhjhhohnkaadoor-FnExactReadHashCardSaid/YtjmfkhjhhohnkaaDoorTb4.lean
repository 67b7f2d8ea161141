/- What the row's listed variables ask of a witness: two tables that the walk does not read. -/
import Derived.Test.YtjmfkhjhhohnkaaDoorRows
import Derived.Lay
import Derived.MakeChecks
import Derived.LaidHandle
import Derived.WalkSmall
namespace Go.Proofs.YtjmfkhjhhohnkaaDoor.Tb4
open Go.RowKit
set_option maxRecDepth 100000
/-- Nothing is asked. -/
def TB (_ : World) : Prop := True
abbrev L2 : List (String × DataW Unit) := [("unicode/utf8.acceptRanges", Rows.laid_unicode_utf8_acceptRanges), ("unicode/utf8.first", Rows.laid_unicode_utf8_first)]
theorem tb_of_laid {W : World} (_ : laidMetH Tryd.prog L2 W) : TB W := trivial
noncomputable abbrev laidWorld (os : Os) : World := World.laidAll Tryd.prog os L2
theorem laidWorld_met (os : Os) (args : Array Value) : laidMetH Tryd.prog L2 ((laidWorld os).forCall (fun _ _ => 0) ⟨#[], args, []⟩).memory := by
  rw [MakeChecks.laidMetH_plain _ _ _ (by kernel_rfl)]
  exact laidMet_laidAll _ (by kernel_rfl) (by kernel_rfl)
end Go.Proofs.YtjmfkhjhhohnkaaDoor.Tb4
