/-
  DERIVED. GIVEN WITH THE SEED: THE CARDS: each row of YtfgnhghadghdkaaDoorRows.lean that lists a variable, with what it lists TIED to the program's text (the seventh form; the later family's looks); each row that meets fmt, with fmt's text TOLD by the authors' own Lean function (tested against real Go, not proved from fmt's source: count such statements apart). THE CARD IS WHAT COUNTS. Prove the row's statement (the work); the ties are given (YtfgnhghadghdkaaDoorTie.lean); close each card by the builder's one call (the guide's Derived/Test/ToyasCard.lean, 'card_holds'). Laid BY PROGRAM, IN A SANDBOX (cutbox-door.mjs). By AI agents, Wed Nov 11 2026. No macro, syntax, notation, axiom, sorry.
-/
import Derived.Test.YtfgnhghadghdkaaDoorRows
import GoSem.ClaimSeven
namespace Go.Proofs.YtfgnhghadghdkaaDoor
namespace Rows

/-- THE TIED CARD OF 'laws.FnExactAmountText'. -/
def fnExactAmountTextCard : Claim7 := { stood := { row := fnExactAmountTextRow, standIns := [], harness := (true, "be86d07c7cd1dad87fb684f47028ebd103ca7ebe81f811693152a1bfa677fa88"), looks := true }, kinds := [], alts := [], laidByText := true, laidKinds := [.data, .data, .data], laidTests := true, laidLooks := .later }
def FnExactAmountTextCardSaid : Prop := Claim7.holds Tryd.pinned (.plain (OpenSpec.ofChange fnExactAmountTextSpec)) fnExactAmountTextCard

/-- THE TIED CARD OF 'laws.FnExactReadAmount'. -/
def fnExactReadAmountCard : Claim7 := { stood := { row := fnExactReadAmountRow, standIns := [], harness := (true, "be86d07c7cd1dad87fb684f47028ebd103ca7ebe81f811693152a1bfa677fa88"), looks := true }, kinds := [], alts := [], laidByText := true, laidKinds := [.data, .data, .data, .sentinel, .sentinel], laidTests := true, laidLooks := .later }
def FnExactReadAmountCardSaid : Prop := Claim7.holds Tryd.pinned (.plain (OpenSpec.ofChange fnExactReadAmountSpec)) fnExactReadAmountCard

/-- THE TIED CARD OF 'laws.FnAmounts'. -/
def fnAmountsCard : Claim7 := { stood := { row := fnAmountsRow, standIns := [], harness := (true, "be86d07c7cd1dad87fb684f47028ebd103ca7ebe81f811693152a1bfa677fa88"), looks := true }, kinds := [], alts := [], laidByText := true, laidKinds := [.data, .data, .data, .sentinel, .sentinel], laidTests := true, laidLooks := .later }
def FnAmountsCardSaid : Prop := Claim7.holds Tryd.pinned (.plain (OpenSpec.ofChange fnAmountsSpec)) fnAmountsCard

/-- THE SECOND FORM's CARD OF 'laws.FnExactAmountText'. -/
def fnExactAmountTextUptoCard : Claim7 := { stood := { row := fnExactAmountTextUptoRow, standIns := [], harness := (true, "be86d07c7cd1dad87fb684f47028ebd103ca7ebe81f811693152a1bfa677fa88"), looks := true }, kinds := [], alts := [], laidByText := true, laidKinds := [.data, .data, .data], laidTests := true, laidLooks := .later }
def FnExactAmountTextUptoCardSaid : Prop := Claim7.holds Tryd.pinned (.plain (OpenSpec.upto fnExactAmountTextSpec)) fnExactAmountTextUptoCard

/-- THE SECOND FORM's CARD OF 'laws.FnExactReadAmount'. -/
def fnExactReadAmountUptoCard : Claim7 := { stood := { row := fnExactReadAmountUptoRow, standIns := [], harness := (true, "be86d07c7cd1dad87fb684f47028ebd103ca7ebe81f811693152a1bfa677fa88"), looks := true }, kinds := [], alts := [], laidByText := true, laidKinds := [.data, .data, .data, .sentinel, .sentinel], laidTests := true, laidLooks := .later }
def FnExactReadAmountUptoCardSaid : Prop := Claim7.holds Tryd.pinned (.plain (OpenSpec.upto fnExactReadAmountSpec)) fnExactReadAmountUptoCard

/-- THE SECOND FORM's CARD OF 'laws.FnAmounts'. -/
def fnAmountsUptoCard : Claim7 := { stood := { row := fnAmountsUptoRow, standIns := [], harness := (true, "be86d07c7cd1dad87fb684f47028ebd103ca7ebe81f811693152a1bfa677fa88"), looks := true }, kinds := [], alts := [], laidByText := true, laidKinds := [.data, .data, .data, .sentinel, .sentinel], laidTests := true, laidLooks := .later }
def FnAmountsUptoCardSaid : Prop := Claim7.holds Tryd.pinned (.plain (OpenSpec.upto fnAmountsSpec)) fnAmountsUptoCard
end Rows
end Go.Proofs.YtfgnhghadghdkaaDoor
