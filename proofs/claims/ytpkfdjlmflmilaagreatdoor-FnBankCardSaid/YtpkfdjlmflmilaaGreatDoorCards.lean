/-
  DERIVED. GIVEN WITH THE SEED: THE CARDS: each row of YtpkfdjlmflmilaaGreatDoorRows.lean that lists a variable, with what it lists TIED to the program's text (the seventh form; the later family's looks); each row that meets fmt, with fmt's text TOLD by the authors' own Lean function (tested against real Go, not proved from fmt's source: count such statements apart). THE CARD IS WHAT COUNTS. Prove the row's statement (the work); the ties are given (YtpkfdjlmflmilaaGreatDoorTie.lean); close each card by the builder's one call (the guide's Derived/Test/ToyasCard.lean, 'card_holds'). Laid BY PROGRAM, IN A SANDBOX (cutbox-door.mjs). By AI agents, Wed Nov 11 2026. No macro, syntax, notation, axiom, sorry.
-/
import Derived.Test.YtpkfdjlmflmilaaGreatDoorRows
import GoSem.ClaimSeven
namespace Go.Proofs.YtpkfdjlmflmilaaGreatDoor
namespace Rows

/-- THE TIED CARD OF 'laws.FnExactBurn'. -/
def fnExactBurnCard : Claim7 := { stood := { row := fnExactBurnRow, standIns := [], harness := (true, "85688a0e9dc5430a63b5fc0d9a4fb3299bfce02bda2ebee1de57fb291442d4c1"), looks := true }, kinds := [], alts := [], laidByText := true, laidKinds := [.data, .data, .data, .sentinel, .sentinel], laidTests := true, laidLooks := .later }
def FnExactBurnCardSaid : Prop := Claim7.holds Tryz.pinned (.plain (OpenSpec.ofChange fnExactBurnSpec)) fnExactBurnCard

/-- THE TIED CARD OF 'laws.FnExactMint'. -/
def fnExactMintCard : Claim7 := { stood := { row := fnExactMintRow, standIns := [], harness := (true, "85688a0e9dc5430a63b5fc0d9a4fb3299bfce02bda2ebee1de57fb291442d4c1"), looks := true }, kinds := [], alts := [], laidByText := true, laidKinds := [.data, .data, .data, .sentinel, .sentinel], laidTests := true, laidLooks := .later }
def FnExactMintCardSaid : Prop := Claim7.holds Tryz.pinned (.plain (OpenSpec.ofChange fnExactMintSpec)) fnExactMintCard

/-- THE TIED CARD OF 'laws.FnExactMoveCoins'. -/
def fnExactMoveCoinsCard : Claim7 := { stood := { row := fnExactMoveCoinsRow, standIns := [], harness := (true, "85688a0e9dc5430a63b5fc0d9a4fb3299bfce02bda2ebee1de57fb291442d4c1"), looks := true }, kinds := [], alts := [], laidByText := true, laidKinds := [.data, .data, .data, .sentinel, .sentinel], laidTests := true, laidLooks := .later }
def FnExactMoveCoinsCardSaid : Prop := Claim7.holds Tryz.pinned (.plain (OpenSpec.ofChange fnExactMoveCoinsSpec)) fnExactMoveCoinsCard

/-- THE TIED CARD OF 'laws.FnBank'. -/
def fnBankCard : Claim7 := { stood := { row := fnBankRow, standIns := [], harness := (true, "85688a0e9dc5430a63b5fc0d9a4fb3299bfce02bda2ebee1de57fb291442d4c1"), looks := true }, kinds := [], alts := [], laidByText := true, laidKinds := [.data, .data, .data, .sentinel, .sentinel], laidTests := true, laidLooks := .later }
def FnBankCardSaid : Prop := Claim7.holds Tryz.pinned (.plain (OpenSpec.ofChange fnBankSpec)) fnBankCard

/-- THE SECOND FORM's CARD OF 'laws.FnExactBurn'. -/
def fnExactBurnUptoCard : Claim7 := { stood := { row := fnExactBurnUptoRow, standIns := [], harness := (true, "85688a0e9dc5430a63b5fc0d9a4fb3299bfce02bda2ebee1de57fb291442d4c1"), looks := true }, kinds := [], alts := [], laidByText := true, laidKinds := [.data, .data, .data, .sentinel, .sentinel], laidTests := true, laidLooks := .later }
def FnExactBurnUptoCardSaid : Prop := Claim7.holds Tryz.pinned (.plain (OpenSpec.upto fnExactBurnSpec)) fnExactBurnUptoCard

/-- THE SECOND FORM's CARD OF 'laws.FnExactMint'. -/
def fnExactMintUptoCard : Claim7 := { stood := { row := fnExactMintUptoRow, standIns := [], harness := (true, "85688a0e9dc5430a63b5fc0d9a4fb3299bfce02bda2ebee1de57fb291442d4c1"), looks := true }, kinds := [], alts := [], laidByText := true, laidKinds := [.data, .data, .data, .sentinel, .sentinel], laidTests := true, laidLooks := .later }
def FnExactMintUptoCardSaid : Prop := Claim7.holds Tryz.pinned (.plain (OpenSpec.upto fnExactMintSpec)) fnExactMintUptoCard

/-- THE SECOND FORM's CARD OF 'laws.FnExactMoveCoins'. -/
def fnExactMoveCoinsUptoCard : Claim7 := { stood := { row := fnExactMoveCoinsUptoRow, standIns := [], harness := (true, "85688a0e9dc5430a63b5fc0d9a4fb3299bfce02bda2ebee1de57fb291442d4c1"), looks := true }, kinds := [], alts := [], laidByText := true, laidKinds := [.data, .data, .data, .sentinel, .sentinel], laidTests := true, laidLooks := .later }
def FnExactMoveCoinsUptoCardSaid : Prop := Claim7.holds Tryz.pinned (.plain (OpenSpec.upto fnExactMoveCoinsSpec)) fnExactMoveCoinsUptoCard

/-- THE SECOND FORM's CARD OF 'laws.FnBank'. -/
def fnBankUptoCard : Claim7 := { stood := { row := fnBankUptoRow, standIns := [], harness := (true, "85688a0e9dc5430a63b5fc0d9a4fb3299bfce02bda2ebee1de57fb291442d4c1"), looks := true }, kinds := [], alts := [], laidByText := true, laidKinds := [.data, .data, .data, .sentinel, .sentinel], laidTests := true, laidLooks := .later }
def FnBankUptoCardSaid : Prop := Claim7.holds Tryz.pinned (.plain (OpenSpec.upto fnBankSpec)) fnBankUptoCard
end Rows
end Go.Proofs.YtpkfdjlmflmilaaGreatDoor
