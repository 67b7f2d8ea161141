/-
  DERIVED. GIVEN WITH THE SEED: THE CARDS: each row of YtpkfdjlmflmilaaDoorRows.lean that lists a variable, with what it lists TIED to the program's text (the seventh form; the later family's looks); each row that meets fmt, with fmt's text TOLD by the authors' own Lean function (tested against real Go, not proved from fmt's source: count such statements apart). THE CARD IS WHAT COUNTS. Prove the row's statement (the work); the ties are given (YtpkfdjlmflmilaaDoorTie.lean); close each card by the builder's one call (the guide's Derived/Test/ToyasCard.lean, 'card_holds'). Laid BY PROGRAM, IN A SANDBOX (cutbox-door.mjs). By AI agents, Wed Nov 11 2026. No macro, syntax, notation, axiom, sorry.
-/
import Derived.Test.YtpkfdjlmflmilaaDoorRows
import GoSem.ClaimSeven
namespace Go.Proofs.YtpkfdjlmflmilaaDoor
namespace Rows

/-- THE TIED CARD OF 'laws.FnExactSupplyOf'. -/
def fnExactSupplyOfCard : Claim7 := { stood := { row := fnExactSupplyOfRow, standIns := [], harness := (true, "1c67cd0d80bb8179682215d2805fad182756caaf489b3f36b9e616c35b48f964"), looks := true }, kinds := [], alts := [], laidByText := true, laidKinds := [.data, .data, .data, .sentinel, .sentinel], laidTests := true, laidLooks := .later }
def FnExactSupplyOfCardSaid : Prop := Claim7.holds Tryd.pinned (.plain (OpenSpec.ofChange fnExactSupplyOfSpec)) fnExactSupplyOfCard

/-- THE TIED CARD OF 'laws.FnExactBalanceOf'. -/
def fnExactBalanceOfCard : Claim7 := { stood := { row := fnExactBalanceOfRow, standIns := [], harness := (true, "1c67cd0d80bb8179682215d2805fad182756caaf489b3f36b9e616c35b48f964"), looks := true }, kinds := [], alts := [], laidByText := true, laidKinds := [.data, .data, .data, .sentinel, .sentinel], laidTests := true, laidLooks := .later }
def FnExactBalanceOfCardSaid : Prop := Claim7.holds Tryd.pinned (.plain (OpenSpec.ofChange fnExactBalanceOfSpec)) fnExactBalanceOfCard

/-- THE TIED CARD OF 'laws.FnExactBalances'. -/
def fnExactBalancesCard : Claim7 := { stood := { row := fnExactBalancesRow, standIns := [], harness := (true, "1c67cd0d80bb8179682215d2805fad182756caaf489b3f36b9e616c35b48f964"), looks := true }, kinds := [], alts := [], laidByText := true, laidKinds := [.data, .data, .data, .sentinel, .sentinel], laidTests := true, laidLooks := .later }
def FnExactBalancesCardSaid : Prop := Claim7.holds Tryd.pinned (.plain (OpenSpec.ofChange fnExactBalancesSpec)) fnExactBalancesCard

/-- THE SECOND FORM's CARD OF 'laws.FnExactSupplyOf'. -/
def fnExactSupplyOfUptoCard : Claim7 := { stood := { row := fnExactSupplyOfUptoRow, standIns := [], harness := (true, "1c67cd0d80bb8179682215d2805fad182756caaf489b3f36b9e616c35b48f964"), looks := true }, kinds := [], alts := [], laidByText := true, laidKinds := [.data, .data, .data, .sentinel, .sentinel], laidTests := true, laidLooks := .later }
def FnExactSupplyOfUptoCardSaid : Prop := Claim7.holds Tryd.pinned (.plain (OpenSpec.upto fnExactSupplyOfSpec)) fnExactSupplyOfUptoCard

/-- THE SECOND FORM's CARD OF 'laws.FnExactBalanceOf'. -/
def fnExactBalanceOfUptoCard : Claim7 := { stood := { row := fnExactBalanceOfUptoRow, standIns := [], harness := (true, "1c67cd0d80bb8179682215d2805fad182756caaf489b3f36b9e616c35b48f964"), looks := true }, kinds := [], alts := [], laidByText := true, laidKinds := [.data, .data, .data, .sentinel, .sentinel], laidTests := true, laidLooks := .later }
def FnExactBalanceOfUptoCardSaid : Prop := Claim7.holds Tryd.pinned (.plain (OpenSpec.upto fnExactBalanceOfSpec)) fnExactBalanceOfUptoCard

/-- THE SECOND FORM's CARD OF 'laws.FnExactBalances'. -/
def fnExactBalancesUptoCard : Claim7 := { stood := { row := fnExactBalancesUptoRow, standIns := [], harness := (true, "1c67cd0d80bb8179682215d2805fad182756caaf489b3f36b9e616c35b48f964"), looks := true }, kinds := [], alts := [], laidByText := true, laidKinds := [.data, .data, .data, .sentinel, .sentinel], laidTests := true, laidLooks := .later }
def FnExactBalancesUptoCardSaid : Prop := Claim7.holds Tryd.pinned (.plain (OpenSpec.upto fnExactBalancesSpec)) fnExactBalancesUptoCard
end Rows
end Go.Proofs.YtpkfdjlmflmilaaDoor
