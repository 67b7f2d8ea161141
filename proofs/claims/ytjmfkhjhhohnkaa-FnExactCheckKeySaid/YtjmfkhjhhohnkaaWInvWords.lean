-- The words of this seat's print, cut down to those that its texts use (by prune.py).
import Derived.Test.YtjmfkhjhhohnkaaWInv
import Derived.Test.YtjmfkhjhhohnkaaWFootNe
namespace Go.Proofs.YtjmfkhjhhohnkaaW.PrintWords
open Go.RowKit
end Go.Proofs.YtjmfkhjhhohnkaaW.PrintWords
namespace Go.Proofs.YtjmfkhjhhohnkaaW.PrintLast
section
variable {ops : Array Oper} {a : Act} {o og : Oper} {g : Nat} {t : Tmp} {u : Bool}
end
end Go.Proofs.YtjmfkhjhhohnkaaW.PrintLast
