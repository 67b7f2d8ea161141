-- Written by xprint (this session's program over the kit's print).
import Derived.Test.YtpkfdjlmflmilaaDoorQ12
namespace Go.Proofs.YtpkfdjlmflmilaaDoor.Q
open Go.RowKit Go.Proofs.YtpkfdjlmflmilaaDoorW.PrintWords Go.Proofs.YtpkfdjlmflmilaaDoorW.PrintLast
/-- The one pure statement of laws_FnExactBalances. -/
def laws_FnExactBalances.PureF : Prop := ∀ (l0 : List (S40)) (a1 : ByteArray), ((∀ x ∈ l0, (x.f0.size ≤ 9223372036854775807) ∧ (x.f1.size ≤ 9223372036854775807)) ∧ l0.length ≤ 9223372036854775807) → (a1.size ≤ 140737488351232) → ∃ k, laws_FnExactBalances.f k l0 a1 = some true
end Go.Proofs.YtpkfdjlmflmilaaDoor.Q
