-- The words of this seat's print, cut down to those that its texts use (by prune.py).
import Derived.Test.YtjmfkhjhhohnkaaWWords
import Derived.Laws.StructEq
/-! ### 53. '==' of structs as_ one Bool -/
namespace Go.Proofs.YtjmfkhjhhohnkaaW.PrintWords
open Go.RowKit
section
variable {P : Program} {d : Nat} {xs ys : Array Value} {f : Field} {fs : List Field} {a b : Value} {r s : Bool} {w : World}
end
end Go.Proofs.YtjmfkhjhhohnkaaW.PrintWords
