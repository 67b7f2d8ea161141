-- The words of this seat's print, cut down to those that its texts use (by prune.py).
import Derived.Test.YtjmfkhjhhohnkaaWTab
/-! ### 56. Four, five, six operations that may come up next, in any order -/
namespace Go.Proofs.YtjmfkhjhhohnkaaW.PrintLast
section
variable {P : Program} {ops : Array Oper} {Q : Exit → Act → World → Prop} {md : Region.Mode} {S : World → Prop} {ds : List Nat} {T : Bool × List (List Nat × List Nat)}
end
end Go.Proofs.YtjmfkhjhhohnkaaW.PrintLast
