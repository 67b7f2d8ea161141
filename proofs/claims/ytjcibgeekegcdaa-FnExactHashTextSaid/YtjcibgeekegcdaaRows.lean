/-
  No cell of these rows narrows 'for every input' (looked for: loops, veiled, ifaces, maps, wideKeys, modest, calm, conditions, laid).
  DERIVED. THE GIVEN ROWS OF THIS SEAT. 12 by the template 'for every input the law returns true; each argument reads behind the call as it read before'; 0 by the template 'total and deterministic' (their statements: YtjcibgeekegcdaaTotals.lean).
  GIVEN WITH THE SEED: the statements are not yours to turn. If you find one false, say at which input.
  Laid BY PROGRAM, IN A SANDBOX (cutbox-rows.mjs): the forced cells as the released guide's own fill.sh prints them over the translation 02c6132b6ee7a161… (all of the seat's roots in one cut). By AI agents, Wed Nov 11 2026. No macro, syntax, notation, axiom, sorry.
-/
import Derived.Test.YtjcibgeekegcdaaChecked
import GoSem.Claim
import GoSem.ClaimJoined
import GoSem.ClaimMapViews
import Derived.JoinedTies
import Derived.KernelRfl
namespace Go.Proofs.Ytjcibgeekegcdaa
/- THE CELL 'sum', in the pinned program and in every row, IS THE sha256 OF THE DUMP (.gsa) THAT YtjcibgeekegcdaaProg.lean LOADS. Nothing in Lean hashes anything: it is a label: what it is worth is what the hold of that sum in a sandbox is worth. -/
noncomputable def Try.pinned : Pinned := { name := "ytjcibgeekegcdaa", sum := "02c6132b6ee7a161fba2449107d7e1a7deb88d296755a74ac251f3cfa6bdeeae", checked := Try.checked }
namespace Rows
def none {H : Type} : Left H := { results := [], args := [] }

/-- 'laws.FnExactConstants': WHATEVER THE INPUT: true; the input reads as it did. -/
def fnExactConstantsSpec : ChangeSpec := { name := "fnExactConstants", fn := fun _ => fun
  | [] => { results := [.lit (.bool true)], args := [] }
  | _ => none }
def fnExactConstantsRow : OpenClaim := { program := "ytjcibgeekegcdaa", sum := "02c6132b6ee7a161fba2449107d7e1a7deb88d296755a74ac251f3cfa6bdeeae", func := "loop.example/g00298/laws.FnExactConstants", spec := "fnExactConstants", apart := false }
def FnExactConstantsSaid : Prop := fnExactConstantsRow.holds Try.pinned (OpenSpec.ofChange fnExactConstantsSpec)

/-- ITS FALSE NEIGHBOUR: 'it returns false'. Refute it at one input. -/
def fnExactConstantsWrong : ChangeSpec := { name := "fnExactConstants", fn := fun _ => fun
  | [] => { results := [.lit (.bool false)], args := [] }
  | _ => none }
def FnExactConstantsWrongFalsely : Prop := fnExactConstantsRow.holds Try.pinned (OpenSpec.ofChange fnExactConstantsWrong)

/-- 'laws.FnExactCodeWord': WHATEVER THE INPUT: true; the input reads as it did. -/
def fnExactCodeWordSpec : ChangeSpec := { name := "fnExactCodeWord", fn := fun _ => fun
  | [d] => { results := [.lit (.bool true)], args := [d] }
  | _ => none }
def fnExactCodeWordRow : OpenClaim := { program := "ytjcibgeekegcdaa", sum := "02c6132b6ee7a161fba2449107d7e1a7deb88d296755a74ac251f3cfa6bdeeae", func := "loop.example/g00298/laws.FnExactCodeWord", spec := "fnExactCodeWord", apart := false }
def FnExactCodeWordSaid : Prop := fnExactCodeWordRow.holds Try.pinned (OpenSpec.ofChange fnExactCodeWordSpec)

/-- ITS FALSE NEIGHBOUR: 'it returns false'. Refute it at one input. -/
def fnExactCodeWordWrong : ChangeSpec := { name := "fnExactCodeWord", fn := fun _ => fun
  | [d] => { results := [.lit (.bool false)], args := [d] }
  | _ => none }
def FnExactCodeWordWrongFalsely : Prop := fnExactCodeWordRow.holds Try.pinned (OpenSpec.ofChange fnExactCodeWordWrong)

/-- 'laws.FnExactAddAmount': WHATEVER THE INPUT: true; the input reads as it did. -/
def fnExactAddAmountSpec : ChangeSpec := { name := "fnExactAddAmount", fn := fun _ => fun
  | [d1, d2] => { results := [.lit (.bool true)], args := [d1, d2] }
  | _ => none }
def fnExactAddAmountRow : OpenClaim := { program := "ytjcibgeekegcdaa", sum := "02c6132b6ee7a161fba2449107d7e1a7deb88d296755a74ac251f3cfa6bdeeae", func := "loop.example/g00298/laws.FnExactAddAmount", spec := "fnExactAddAmount", apart := false }
def FnExactAddAmountSaid : Prop := fnExactAddAmountRow.holds Try.pinned (OpenSpec.ofChange fnExactAddAmountSpec)

/-- ITS FALSE NEIGHBOUR: 'it returns false'. Refute it at one input. -/
def fnExactAddAmountWrong : ChangeSpec := { name := "fnExactAddAmount", fn := fun _ => fun
  | [d1, d2] => { results := [.lit (.bool false)], args := [d1, d2] }
  | _ => none }
def FnExactAddAmountWrongFalsely : Prop := fnExactAddAmountRow.holds Try.pinned (OpenSpec.ofChange fnExactAddAmountWrong)

/-- 'laws.FnExactPacketOK': WHATEVER THE INPUT: true; the input reads as it did. -/
def fnExactPacketOKSpec : ChangeSpec := { name := "fnExactPacketOK", fn := fun _ => fun
  | [d] => { results := [.lit (.bool true)], args := [d] }
  | _ => none }
def fnExactPacketOKRow : OpenClaim := { program := "ytjcibgeekegcdaa", sum := "02c6132b6ee7a161fba2449107d7e1a7deb88d296755a74ac251f3cfa6bdeeae", func := "loop.example/g00298/laws.FnExactPacketOK", spec := "fnExactPacketOK", apart := false }
def FnExactPacketOKSaid : Prop := fnExactPacketOKRow.holds Try.pinned (OpenSpec.ofChange fnExactPacketOKSpec)

/-- ITS FALSE NEIGHBOUR: 'it returns false'. Refute it at one input. -/
def fnExactPacketOKWrong : ChangeSpec := { name := "fnExactPacketOK", fn := fun _ => fun
  | [d] => { results := [.lit (.bool false)], args := [d] }
  | _ => none }
def FnExactPacketOKWrongFalsely : Prop := fnExactPacketOKRow.holds Try.pinned (OpenSpec.ofChange fnExactPacketOKWrong)

/-- 'laws.FnExactSubAmount': WHATEVER THE INPUT: true; the input reads as it did. -/
def fnExactSubAmountSpec : ChangeSpec := { name := "fnExactSubAmount", fn := fun _ => fun
  | [d1, d2] => { results := [.lit (.bool true)], args := [d1, d2] }
  | _ => none }
def fnExactSubAmountRow : OpenClaim := { program := "ytjcibgeekegcdaa", sum := "02c6132b6ee7a161fba2449107d7e1a7deb88d296755a74ac251f3cfa6bdeeae", func := "loop.example/g00298/laws.FnExactSubAmount", spec := "fnExactSubAmount", apart := false }
def FnExactSubAmountSaid : Prop := fnExactSubAmountRow.holds Try.pinned (OpenSpec.ofChange fnExactSubAmountSpec)

/-- ITS FALSE NEIGHBOUR: 'it returns false'. Refute it at one input. -/
def fnExactSubAmountWrong : ChangeSpec := { name := "fnExactSubAmount", fn := fun _ => fun
  | [d1, d2] => { results := [.lit (.bool false)], args := [d1, d2] }
  | _ => none }
def FnExactSubAmountWrongFalsely : Prop := fnExactSubAmountRow.holds Try.pinned (OpenSpec.ofChange fnExactSubAmountWrong)

/-- 'laws.FnExactCodeOf': WHATEVER THE INPUT: true; the input reads as it did. -/
def fnExactCodeOfSpec : ChangeSpec := { name := "fnExactCodeOf", fn := fun _ => fun
  | [d] => { results := [.lit (.bool true)], args := [d] }
  | _ => none }
def fnExactCodeOfRow : OpenClaim := { program := "ytjcibgeekegcdaa", sum := "02c6132b6ee7a161fba2449107d7e1a7deb88d296755a74ac251f3cfa6bdeeae", func := "loop.example/g00298/laws.FnExactCodeOf", spec := "fnExactCodeOf", apart := false }
def FnExactCodeOfSaid : Prop := fnExactCodeOfRow.holds Try.pinned (OpenSpec.ofChange fnExactCodeOfSpec)

/-- ITS FALSE NEIGHBOUR: 'it returns false'. Refute it at one input. -/
def fnExactCodeOfWrong : ChangeSpec := { name := "fnExactCodeOf", fn := fun _ => fun
  | [d] => { results := [.lit (.bool false)], args := [d] }
  | _ => none }
def FnExactCodeOfWrongFalsely : Prop := fnExactCodeOfRow.holds Try.pinned (OpenSpec.ofChange fnExactCodeOfWrong)

/-- 'laws.FnExactNameOK': WHATEVER THE INPUT: true; the input reads as it did. -/
def fnExactNameOKSpec : ChangeSpec := { name := "fnExactNameOK", fn := fun _ => fun
  | [d] => { results := [.lit (.bool true)], args := [d] }
  | _ => none }
def fnExactNameOKRow : OpenClaim := { program := "ytjcibgeekegcdaa", sum := "02c6132b6ee7a161fba2449107d7e1a7deb88d296755a74ac251f3cfa6bdeeae", func := "loop.example/g00298/laws.FnExactNameOK", spec := "fnExactNameOK", apart := false }
def FnExactNameOKSaid : Prop := fnExactNameOKRow.holds Try.pinned (OpenSpec.ofChange fnExactNameOKSpec)

/-- ITS FALSE NEIGHBOUR: 'it returns false'. Refute it at one input. -/
def fnExactNameOKWrong : ChangeSpec := { name := "fnExactNameOK", fn := fun _ => fun
  | [d] => { results := [.lit (.bool false)], args := [d] }
  | _ => none }
def FnExactNameOKWrongFalsely : Prop := fnExactNameOKRow.holds Try.pinned (OpenSpec.ofChange fnExactNameOKWrong)

/-- 'laws.FnExactDenomOK': WHATEVER THE INPUT: true; the input reads as it did. -/
def fnExactDenomOKSpec : ChangeSpec := { name := "fnExactDenomOK", fn := fun _ => fun
  | [d] => { results := [.lit (.bool true)], args := [d] }
  | _ => none }
def fnExactDenomOKRow : OpenClaim := { program := "ytjcibgeekegcdaa", sum := "02c6132b6ee7a161fba2449107d7e1a7deb88d296755a74ac251f3cfa6bdeeae", func := "loop.example/g00298/laws.FnExactDenomOK", spec := "fnExactDenomOK", apart := false }
def FnExactDenomOKSaid : Prop := fnExactDenomOKRow.holds Try.pinned (OpenSpec.ofChange fnExactDenomOKSpec)

/-- ITS FALSE NEIGHBOUR: 'it returns false'. Refute it at one input. -/
def fnExactDenomOKWrong : ChangeSpec := { name := "fnExactDenomOK", fn := fun _ => fun
  | [d] => { results := [.lit (.bool false)], args := [d] }
  | _ => none }
def FnExactDenomOKWrongFalsely : Prop := fnExactDenomOKRow.holds Try.pinned (OpenSpec.ofChange fnExactDenomOKWrong)

/-- 'laws.FnExactHeaderOK': WHATEVER THE INPUT: true; the input reads as it did. -/
def fnExactHeaderOKSpec : ChangeSpec := { name := "fnExactHeaderOK", fn := fun _ => fun
  | [d] => { results := [.lit (.bool true)], args := [d] }
  | _ => none }
def fnExactHeaderOKRow : OpenClaim := { program := "ytjcibgeekegcdaa", sum := "02c6132b6ee7a161fba2449107d7e1a7deb88d296755a74ac251f3cfa6bdeeae", func := "loop.example/g00298/laws.FnExactHeaderOK", spec := "fnExactHeaderOK", unfollowed := true, recurses := true, apart := false }
def FnExactHeaderOKSaid : Prop := fnExactHeaderOKRow.holds Try.pinned (OpenSpec.ofChange fnExactHeaderOKSpec)

/-- ITS FALSE NEIGHBOUR: 'it returns false'. Refute it at one input. -/
def fnExactHeaderOKWrong : ChangeSpec := { name := "fnExactHeaderOK", fn := fun _ => fun
  | [d] => { results := [.lit (.bool false)], args := [d] }
  | _ => none }
def FnExactHeaderOKWrongFalsely : Prop := fnExactHeaderOKRow.holds Try.pinned (OpenSpec.ofChange fnExactHeaderOKWrong)

/-- 'laws.FnExactOtherName': WHATEVER THE INPUT: true; the input reads as it did. -/
def fnExactOtherNameSpec : ChangeSpec := { name := "fnExactOtherName", fn := fun _ => fun
  | [d] => { results := [.lit (.bool true)], args := [d] }
  | _ => none }
def fnExactOtherNameRow : OpenClaim := { program := "ytjcibgeekegcdaa", sum := "02c6132b6ee7a161fba2449107d7e1a7deb88d296755a74ac251f3cfa6bdeeae", func := "loop.example/g00298/laws.FnExactOtherName", spec := "fnExactOtherName", unfollowed := true, recurses := true, apart := false }
def FnExactOtherNameSaid : Prop := fnExactOtherNameRow.holds Try.pinned (OpenSpec.ofChange fnExactOtherNameSpec)

/-- ITS FALSE NEIGHBOUR: 'it returns false'. Refute it at one input. -/
def fnExactOtherNameWrong : ChangeSpec := { name := "fnExactOtherName", fn := fun _ => fun
  | [d] => { results := [.lit (.bool false)], args := [d] }
  | _ => none }
def FnExactOtherNameWrongFalsely : Prop := fnExactOtherNameRow.holds Try.pinned (OpenSpec.ofChange fnExactOtherNameWrong)

/-- 'laws.FnExactHashBits': WHATEVER THE INPUT: true; the input reads as it did. -/
def fnExactHashBitsSpec : ChangeSpec := { name := "fnExactHashBits", fn := fun _ => fun
  | [d] => { results := [.lit (.bool true)], args := [d] }
  | _ => none }
def fnExactHashBitsRow : OpenClaim := { program := "ytjcibgeekegcdaa", sum := "02c6132b6ee7a161fba2449107d7e1a7deb88d296755a74ac251f3cfa6bdeeae", func := "loop.example/g00298/laws.FnExactHashBits", spec := "fnExactHashBits", unfollowed := true, recurses := true, apart := false }
def FnExactHashBitsSaid : Prop := fnExactHashBitsRow.holds Try.pinned (OpenSpec.ofChange fnExactHashBitsSpec)

/-- ITS FALSE NEIGHBOUR: 'it returns false'. Refute it at one input. -/
def fnExactHashBitsWrong : ChangeSpec := { name := "fnExactHashBits", fn := fun _ => fun
  | [d] => { results := [.lit (.bool false)], args := [d] }
  | _ => none }
def FnExactHashBitsWrongFalsely : Prop := fnExactHashBitsRow.holds Try.pinned (OpenSpec.ofChange fnExactHashBitsWrong)

/-- 'laws.FnExactHashText': WHATEVER THE INPUT: true; the input reads as it did. -/
def fnExactHashTextSpec : ChangeSpec := { name := "fnExactHashText", fn := fun _ => fun
  | [d] => { results := [.lit (.bool true)], args := [d] }
  | _ => none }
def fnExactHashTextRow : OpenClaim := { program := "ytjcibgeekegcdaa", sum := "02c6132b6ee7a161fba2449107d7e1a7deb88d296755a74ac251f3cfa6bdeeae", func := "loop.example/g00298/laws.FnExactHashText", spec := "fnExactHashText", unfollowed := true, recurses := true, apart := false }
def FnExactHashTextSaid : Prop := fnExactHashTextRow.holds Try.pinned (OpenSpec.ofChange fnExactHashTextSpec)

/-- ITS FALSE NEIGHBOUR: 'it returns false'. Refute it at one input. -/
def fnExactHashTextWrong : ChangeSpec := { name := "fnExactHashText", fn := fun _ => fun
  | [d] => { results := [.lit (.bool false)], args := [d] }
  | _ => none }
def FnExactHashTextWrongFalsely : Prop := fnExactHashTextRow.holds Try.pinned (OpenSpec.ofChange fnExactHashTextWrong)

/- THE SECOND FORM. 'bulk': how many values and letters a reading holds, each counted each time it is reached (what is shared counts as often as it is met; a slice's spare places count too). A statement '..UptoSaid' is the law's where the arguments, and the package variables that the reading takes, are together of bulk at most 1048576: NARROWER than '..Said'. Prove '..Said' where nothing that the law and all that it calls make is longer than what came in: it says more and counts as full. Else prove '..UptoSaid'. A law counts once. -/
mutual
def uptoBulk {H : Type} : DataW H → Nat
  | .lit (.string bytes) => bytes.length + 1
  | .lit _ => 1
  | .nil => 1
  | .ptr d => uptoBulk d + 1
  | .slice elems spare => uptoBulkAll elems + uptoBulkAll spare + 1
  | .agg parts => uptoBulkAll parts + 1
  | .iface _ d => uptoBulk d + 1
  | .map entries => uptoBulkEntries entries + 1
  | .held _ => 1
def uptoBulkAll {H : Type} : List (DataW H) → Nat
  | [] => 0
  | d :: r => uptoBulk d + uptoBulkAll r
def uptoBulkEntries {H : Type} : List (Lit × DataW H) → Nat
  | [] => 0
  | x :: r => uptoBulkEntry x + uptoBulkEntries r
def uptoBulkEntry {H : Type} : Lit × DataW H → Nat
  | (.string bytes, d) => bytes.length + uptoBulk d + 1
  | (_, d) => uptoBulk d + 1
 end
def uptoSmall : (H : Type) → List (DataW H) → Bool := fun _ ds => decide (uptoBulkAll ds ≤ 1048576)
def OpenSpec.upto (s : _root_.Go.ChangeSpec) : _root_.Go.OpenSpec := { _root_.Go.OpenSpec.ofChange s with cond := some uptoSmall }

/-- 'laws.FnExactConstants', WHERE WHAT IT READS IS OF BULK AT MOST 1048576: true; the input reads as it did. -/
def fnExactConstantsUptoRow : OpenClaim := { program := "ytjcibgeekegcdaa", sum := "02c6132b6ee7a161fba2449107d7e1a7deb88d296755a74ac251f3cfa6bdeeae", func := "loop.example/g00298/laws.FnExactConstants", spec := "fnExactConstants", apart := false, narrowed := true }
def FnExactConstantsUptoSaid : Prop := fnExactConstantsUptoRow.holds Try.pinned (OpenSpec.upto fnExactConstantsSpec)

/-- 'laws.FnExactCodeWord', WHERE WHAT IT READS IS OF BULK AT MOST 1048576: true; the input reads as it did. -/
def fnExactCodeWordUptoRow : OpenClaim := { program := "ytjcibgeekegcdaa", sum := "02c6132b6ee7a161fba2449107d7e1a7deb88d296755a74ac251f3cfa6bdeeae", func := "loop.example/g00298/laws.FnExactCodeWord", spec := "fnExactCodeWord", apart := false, narrowed := true }
def FnExactCodeWordUptoSaid : Prop := fnExactCodeWordUptoRow.holds Try.pinned (OpenSpec.upto fnExactCodeWordSpec)

/-- 'laws.FnExactAddAmount', WHERE WHAT IT READS IS OF BULK AT MOST 1048576: true; the input reads as it did. -/
def fnExactAddAmountUptoRow : OpenClaim := { program := "ytjcibgeekegcdaa", sum := "02c6132b6ee7a161fba2449107d7e1a7deb88d296755a74ac251f3cfa6bdeeae", func := "loop.example/g00298/laws.FnExactAddAmount", spec := "fnExactAddAmount", apart := false, narrowed := true }
def FnExactAddAmountUptoSaid : Prop := fnExactAddAmountUptoRow.holds Try.pinned (OpenSpec.upto fnExactAddAmountSpec)

/-- 'laws.FnExactPacketOK', WHERE WHAT IT READS IS OF BULK AT MOST 1048576: true; the input reads as it did. -/
def fnExactPacketOKUptoRow : OpenClaim := { program := "ytjcibgeekegcdaa", sum := "02c6132b6ee7a161fba2449107d7e1a7deb88d296755a74ac251f3cfa6bdeeae", func := "loop.example/g00298/laws.FnExactPacketOK", spec := "fnExactPacketOK", apart := false, narrowed := true }
def FnExactPacketOKUptoSaid : Prop := fnExactPacketOKUptoRow.holds Try.pinned (OpenSpec.upto fnExactPacketOKSpec)

/-- 'laws.FnExactSubAmount', WHERE WHAT IT READS IS OF BULK AT MOST 1048576: true; the input reads as it did. -/
def fnExactSubAmountUptoRow : OpenClaim := { program := "ytjcibgeekegcdaa", sum := "02c6132b6ee7a161fba2449107d7e1a7deb88d296755a74ac251f3cfa6bdeeae", func := "loop.example/g00298/laws.FnExactSubAmount", spec := "fnExactSubAmount", apart := false, narrowed := true }
def FnExactSubAmountUptoSaid : Prop := fnExactSubAmountUptoRow.holds Try.pinned (OpenSpec.upto fnExactSubAmountSpec)

/-- 'laws.FnExactCodeOf', WHERE WHAT IT READS IS OF BULK AT MOST 1048576: true; the input reads as it did. -/
def fnExactCodeOfUptoRow : OpenClaim := { program := "ytjcibgeekegcdaa", sum := "02c6132b6ee7a161fba2449107d7e1a7deb88d296755a74ac251f3cfa6bdeeae", func := "loop.example/g00298/laws.FnExactCodeOf", spec := "fnExactCodeOf", apart := false, narrowed := true }
def FnExactCodeOfUptoSaid : Prop := fnExactCodeOfUptoRow.holds Try.pinned (OpenSpec.upto fnExactCodeOfSpec)

/-- 'laws.FnExactNameOK', WHERE WHAT IT READS IS OF BULK AT MOST 1048576: true; the input reads as it did. -/
def fnExactNameOKUptoRow : OpenClaim := { program := "ytjcibgeekegcdaa", sum := "02c6132b6ee7a161fba2449107d7e1a7deb88d296755a74ac251f3cfa6bdeeae", func := "loop.example/g00298/laws.FnExactNameOK", spec := "fnExactNameOK", apart := false, narrowed := true }
def FnExactNameOKUptoSaid : Prop := fnExactNameOKUptoRow.holds Try.pinned (OpenSpec.upto fnExactNameOKSpec)

/-- 'laws.FnExactDenomOK', WHERE WHAT IT READS IS OF BULK AT MOST 1048576: true; the input reads as it did. -/
def fnExactDenomOKUptoRow : OpenClaim := { program := "ytjcibgeekegcdaa", sum := "02c6132b6ee7a161fba2449107d7e1a7deb88d296755a74ac251f3cfa6bdeeae", func := "loop.example/g00298/laws.FnExactDenomOK", spec := "fnExactDenomOK", apart := false, narrowed := true }
def FnExactDenomOKUptoSaid : Prop := fnExactDenomOKUptoRow.holds Try.pinned (OpenSpec.upto fnExactDenomOKSpec)

/-- 'laws.FnExactHeaderOK', WHERE WHAT IT READS IS OF BULK AT MOST 1048576: true; the input reads as it did. -/
def fnExactHeaderOKUptoRow : OpenClaim := { program := "ytjcibgeekegcdaa", sum := "02c6132b6ee7a161fba2449107d7e1a7deb88d296755a74ac251f3cfa6bdeeae", func := "loop.example/g00298/laws.FnExactHeaderOK", spec := "fnExactHeaderOK", unfollowed := true, recurses := true, apart := false, narrowed := true }
def FnExactHeaderOKUptoSaid : Prop := fnExactHeaderOKUptoRow.holds Try.pinned (OpenSpec.upto fnExactHeaderOKSpec)

/-- 'laws.FnExactOtherName', WHERE WHAT IT READS IS OF BULK AT MOST 1048576: true; the input reads as it did. -/
def fnExactOtherNameUptoRow : OpenClaim := { program := "ytjcibgeekegcdaa", sum := "02c6132b6ee7a161fba2449107d7e1a7deb88d296755a74ac251f3cfa6bdeeae", func := "loop.example/g00298/laws.FnExactOtherName", spec := "fnExactOtherName", unfollowed := true, recurses := true, apart := false, narrowed := true }
def FnExactOtherNameUptoSaid : Prop := fnExactOtherNameUptoRow.holds Try.pinned (OpenSpec.upto fnExactOtherNameSpec)

/-- 'laws.FnExactHashBits', WHERE WHAT IT READS IS OF BULK AT MOST 1048576: true; the input reads as it did. -/
def fnExactHashBitsUptoRow : OpenClaim := { program := "ytjcibgeekegcdaa", sum := "02c6132b6ee7a161fba2449107d7e1a7deb88d296755a74ac251f3cfa6bdeeae", func := "loop.example/g00298/laws.FnExactHashBits", spec := "fnExactHashBits", unfollowed := true, recurses := true, apart := false, narrowed := true }
def FnExactHashBitsUptoSaid : Prop := fnExactHashBitsUptoRow.holds Try.pinned (OpenSpec.upto fnExactHashBitsSpec)

/-- 'laws.FnExactHashText', WHERE WHAT IT READS IS OF BULK AT MOST 1048576: true; the input reads as it did. -/
def fnExactHashTextUptoRow : OpenClaim := { program := "ytjcibgeekegcdaa", sum := "02c6132b6ee7a161fba2449107d7e1a7deb88d296755a74ac251f3cfa6bdeeae", func := "loop.example/g00298/laws.FnExactHashText", spec := "fnExactHashText", unfollowed := true, recurses := true, apart := false, narrowed := true }
def FnExactHashTextUptoSaid : Prop := fnExactHashTextUptoRow.holds Try.pinned (OpenSpec.upto fnExactHashTextSpec)

end Rows
end Go.Proofs.Ytjcibgeekegcdaa
