/-
  DERIVED. GIVEN WITH THE SEED: THE CARDS: each row of YtjmfkhjhhohnkaaDoorRows.lean that lists a variable, with what it lists TIED to the program's text (the seventh form; the later family's looks); each row that meets fmt, with fmt's text TOLD by the authors' own Lean function (tested against real Go, not proved from fmt's source: count such statements apart). THE CARD IS WHAT COUNTS. Prove the row's statement (the work); the ties are given (YtjmfkhjhhohnkaaDoorTie.lean); close each card by the builder's one call (the guide's Derived/Test/ToyasCard.lean, 'card_holds'). Laid BY PROGRAM, IN A SANDBOX (cutbox-door.mjs). By AI agents, Wed Nov 11 2026. No macro, syntax, notation, axiom, sorry.
-/
import Derived.Test.YtjmfkhjhhohnkaaDoorRows
import GoSem.ClaimSeven
namespace Go.Proofs.YtjmfkhjhhohnkaaDoor
namespace Rows

/-- THE TIED CARD OF 'laws.FnExactReadHash'. -/
def fnExactReadHashCard : Claim7 := { stood := { row := fnExactReadHashRow, standIns := [], harness := (true, "4e40d9d8902e8c529bea045d8f9a5f2df1ea16f37ba5a004b29b78ea8af7e1c9"), looks := false }, kinds := [], alts := [], laidByText := true, laidKinds := [.data, .pinned], laidTests := true, laidLooks := .later }
def FnExactReadHashCardSaid : Prop := Claim7.holds Tryd.pinned (.plain (OpenSpec.ofChange fnExactReadHashSpec)) fnExactReadHashCard

/-- THE SECOND FORM's CARD OF 'laws.FnExactReadHash'. -/
def fnExactReadHashUptoCard : Claim7 := { stood := { row := fnExactReadHashUptoRow, standIns := [], harness := (true, "4e40d9d8902e8c529bea045d8f9a5f2df1ea16f37ba5a004b29b78ea8af7e1c9"), looks := false }, kinds := [], alts := [], laidByText := true, laidKinds := [.data, .pinned], laidTests := true, laidLooks := .later }
def FnExactReadHashUptoCardSaid : Prop := Claim7.holds Tryd.pinned (.plain (OpenSpec.upto fnExactReadHashSpec)) fnExactReadHashUptoCard
end Rows
end Go.Proofs.YtjmfkhjhhohnkaaDoor
