-- The words of this seat's print, cut down to those that its texts use (by prune.py).
import Derived.Test.YtpkfdjlmflmilaaDoorWInv
import Derived.Test.YtpkfdjlmflmilaaDoorWFootNe
namespace Go.Proofs.YtpkfdjlmflmilaaDoorW.PrintWords
open Go.RowKit
end Go.Proofs.YtpkfdjlmflmilaaDoorW.PrintWords
namespace Go.Proofs.YtpkfdjlmflmilaaDoorW.PrintLast
section
variable {ops : Array Oper} {a : Act} {o og : Oper} {g : Nat} {t : Tmp} {u : Bool}
end
end Go.Proofs.YtpkfdjlmflmilaaDoorW.PrintLast
