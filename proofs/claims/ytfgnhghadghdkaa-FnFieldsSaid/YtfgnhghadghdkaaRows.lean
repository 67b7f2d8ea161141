/-
  No cell of these rows narrows 'for every input' (looked for: loops, veiled, ifaces, maps, wideKeys, modest, calm, conditions, laid).
  DERIVED. THE GIVEN ROWS OF THIS SEAT. 8 by the template 'for every input the law returns true; each argument reads behind the call as it read before'; 0 by the template 'total and deterministic' (their statements: YtfgnhghadghdkaaTotals.lean).
  GIVEN WITH THE SEED: the statements are not yours to turn. If you find one false, say at which input.
  Laid BY PROGRAM, IN A SANDBOX (cutbox-rows.mjs): the forced cells as the released guide's own fill.sh prints them over the translation c3886ae3693fbece… (all of the seat's roots in one cut). By AI agents, Wed Nov 11 2026. No macro, syntax, notation, axiom, sorry.
-/
import Derived.Test.YtfgnhghadghdkaaChecked
import GoSem.Claim
import GoSem.ClaimJoined
import GoSem.ClaimMapViews
import Derived.JoinedTies
import Derived.KernelRfl
namespace Go.Proofs.Ytfgnhghadghdkaa
/- THE CELL 'sum', in the pinned program and in every row, IS THE sha256 OF THE DUMP (.gsa) THAT YtfgnhghadghdkaaProg.lean LOADS. Nothing in Lean hashes anything: it is a label: what it is worth is what the hold of that sum in a sandbox is worth. -/
noncomputable def Try.pinned : Pinned := { name := "ytfgnhghadghdkaa", sum := "c3886ae3693fbece60cef73e3960b94374606a2d0730349581b5ee6db2fe60b2", checked := Try.checked }
namespace Rows
def none {H : Type} : Left H := { results := [], args := [] }

/-- 'laws.FnExactRootOf': WHATEVER THE INPUT: true; the input reads as it did. -/
def fnExactRootOfSpec : ChangeSpec := { name := "fnExactRootOf", fn := fun _ => fun
  | [d1, d2] => { results := [.lit (.bool true)], args := [d1, d2] }
  | _ => none }
def fnExactRootOfRow : OpenClaim := { program := "ytfgnhghadghdkaa", sum := "c3886ae3693fbece60cef73e3960b94374606a2d0730349581b5ee6db2fe60b2", func := "loop.example/g00298/laws.FnExactRootOf", spec := "fnExactRootOf", apart := false }
def FnExactRootOfSaid : Prop := fnExactRootOfRow.holds Try.pinned (OpenSpec.ofChange fnExactRootOfSpec)

/-- ITS FALSE NEIGHBOUR: 'it returns false'. Refute it at one input. -/
def fnExactRootOfWrong : ChangeSpec := { name := "fnExactRootOf", fn := fun _ => fun
  | [d1, d2] => { results := [.lit (.bool false)], args := [d1, d2] }
  | _ => none }
def FnExactRootOfWrongFalsely : Prop := fnExactRootOfRow.holds Try.pinned (OpenSpec.ofChange fnExactRootOfWrong)

/-- 'laws.FnExactMulDiv': WHATEVER THE INPUT: true; the input reads as it did. -/
def fnExactMulDivSpec : ChangeSpec := { name := "fnExactMulDiv", fn := fun _ => fun
  | [d1, d2, d3] => { results := [.lit (.bool true)], args := [d1, d2, d3] }
  | _ => none }
def fnExactMulDivRow : OpenClaim := { program := "ytfgnhghadghdkaa", sum := "c3886ae3693fbece60cef73e3960b94374606a2d0730349581b5ee6db2fe60b2", func := "loop.example/g00298/laws.FnExactMulDiv", spec := "fnExactMulDiv", named := ["math/bits.divideError", "math/bits.overflowError"], apart := false }
def FnExactMulDivSaid : Prop := fnExactMulDivRow.holds Try.pinned (OpenSpec.ofChange fnExactMulDivSpec)

/-- ITS FALSE NEIGHBOUR: 'it returns false'. Refute it at one input. -/
def fnExactMulDivWrong : ChangeSpec := { name := "fnExactMulDiv", fn := fun _ => fun
  | [d1, d2, d3] => { results := [.lit (.bool false)], args := [d1, d2, d3] }
  | _ => none }
def FnExactMulDivWrongFalsely : Prop := fnExactMulDivRow.holds Try.pinned (OpenSpec.ofChange fnExactMulDivWrong)

/-- 'laws.FnRoot': WHATEVER THE INPUT: true; the input reads as it did. -/
def fnRootSpec : ChangeSpec := { name := "fnRoot", fn := fun _ => fun
  | [d1, d2] => { results := [.lit (.bool true)], args := [d1, d2] }
  | _ => none }
def fnRootRow : OpenClaim := { program := "ytfgnhghadghdkaa", sum := "c3886ae3693fbece60cef73e3960b94374606a2d0730349581b5ee6db2fe60b2", func := "loop.example/g00298/laws.FnRoot", spec := "fnRoot", apart := false }
def FnRootSaid : Prop := fnRootRow.holds Try.pinned (OpenSpec.ofChange fnRootSpec)

/-- ITS FALSE NEIGHBOUR: 'it returns false'. Refute it at one input. -/
def fnRootWrong : ChangeSpec := { name := "fnRoot", fn := fun _ => fun
  | [d1, d2] => { results := [.lit (.bool false)], args := [d1, d2] }
  | _ => none }
def FnRootWrongFalsely : Prop := fnRootRow.holds Try.pinned (OpenSpec.ofChange fnRootWrong)

/-- 'laws.FnMulDiv': WHATEVER THE INPUT: true; the input reads as it did. -/
def fnMulDivSpec : ChangeSpec := { name := "fnMulDiv", fn := fun _ => fun
  | [d1, d2] => { results := [.lit (.bool true)], args := [d1, d2] }
  | _ => none }
def fnMulDivRow : OpenClaim := { program := "ytfgnhghadghdkaa", sum := "c3886ae3693fbece60cef73e3960b94374606a2d0730349581b5ee6db2fe60b2", func := "loop.example/g00298/laws.FnMulDiv", spec := "fnMulDiv", named := ["math/bits.divideError", "math/bits.overflowError"], apart := false }
def FnMulDivSaid : Prop := fnMulDivRow.holds Try.pinned (OpenSpec.ofChange fnMulDivSpec)

/-- ITS FALSE NEIGHBOUR: 'it returns false'. Refute it at one input. -/
def fnMulDivWrong : ChangeSpec := { name := "fnMulDiv", fn := fun _ => fun
  | [d1, d2] => { results := [.lit (.bool false)], args := [d1, d2] }
  | _ => none }
def FnMulDivWrongFalsely : Prop := fnMulDivRow.holds Try.pinned (OpenSpec.ofChange fnMulDivWrong)

/-- 'laws.FnExactReadFields': WHATEVER THE INPUT: true; the input reads as it did. -/
def fnExactReadFieldsSpec : ChangeSpec := { name := "fnExactReadFields", fn := fun _ => fun
  | [d] => { results := [.lit (.bool true)], args := [d] }
  | _ => none }
def fnExactReadFieldsRow : OpenClaim := { program := "ytfgnhghadghdkaa", sum := "c3886ae3693fbece60cef73e3960b94374606a2d0730349581b5ee6db2fe60b2", func := "loop.example/g00298/laws.FnExactReadFields", spec := "fnExactReadFields", apart := false }
def FnExactReadFieldsSaid : Prop := fnExactReadFieldsRow.holds Try.pinned (OpenSpec.ofChange fnExactReadFieldsSpec)

/-- ITS FALSE NEIGHBOUR: 'it returns false'. Refute it at one input. -/
def fnExactReadFieldsWrong : ChangeSpec := { name := "fnExactReadFields", fn := fun _ => fun
  | [d] => { results := [.lit (.bool false)], args := [d] }
  | _ => none }
def FnExactReadFieldsWrongFalsely : Prop := fnExactReadFieldsRow.holds Try.pinned (OpenSpec.ofChange fnExactReadFieldsWrong)

/-- 'laws.FnExactFieldsBytes': WHATEVER THE INPUT: true; the input reads as it did. -/
def fnExactFieldsBytesSpec : ChangeSpec := { name := "fnExactFieldsBytes", fn := fun _ => fun
  | [d] => { results := [.lit (.bool true)], args := [d] }
  | _ => none }
def fnExactFieldsBytesRow : OpenClaim := { program := "ytfgnhghadghdkaa", sum := "c3886ae3693fbece60cef73e3960b94374606a2d0730349581b5ee6db2fe60b2", func := "loop.example/g00298/laws.FnExactFieldsBytes", spec := "fnExactFieldsBytes", unfollowed := true, recurses := true, apart := false }
def FnExactFieldsBytesSaid : Prop := fnExactFieldsBytesRow.holds Try.pinned (OpenSpec.ofChange fnExactFieldsBytesSpec)

/-- ITS FALSE NEIGHBOUR: 'it returns false'. Refute it at one input. -/
def fnExactFieldsBytesWrong : ChangeSpec := { name := "fnExactFieldsBytes", fn := fun _ => fun
  | [d] => { results := [.lit (.bool false)], args := [d] }
  | _ => none }
def FnExactFieldsBytesWrongFalsely : Prop := fnExactFieldsBytesRow.holds Try.pinned (OpenSpec.ofChange fnExactFieldsBytesWrong)

/-- 'laws.FnFields': WHATEVER THE INPUT: true; the input reads as it did. -/
def fnFieldsSpec : ChangeSpec := { name := "fnFields", fn := fun _ => fun
  | [d1, d2] => { results := [.lit (.bool true)], args := [d1, d2] }
  | _ => none }
def fnFieldsRow : OpenClaim := { program := "ytfgnhghadghdkaa", sum := "c3886ae3693fbece60cef73e3960b94374606a2d0730349581b5ee6db2fe60b2", func := "loop.example/g00298/laws.FnFields", spec := "fnFields", unfollowed := true, recurses := true, apart := false }
def FnFieldsSaid : Prop := fnFieldsRow.holds Try.pinned (OpenSpec.ofChange fnFieldsSpec)

/-- ITS FALSE NEIGHBOUR: 'it returns false'. Refute it at one input. -/
def fnFieldsWrong : ChangeSpec := { name := "fnFields", fn := fun _ => fun
  | [d1, d2] => { results := [.lit (.bool false)], args := [d1, d2] }
  | _ => none }
def FnFieldsWrongFalsely : Prop := fnFieldsRow.holds Try.pinned (OpenSpec.ofChange fnFieldsWrong)

/-- 'laws.FnExactCheck32': WHATEVER THE INPUT: true; the input reads as it did. -/
def fnExactCheck32Spec : ChangeSpec := { name := "fnExactCheck32", fn := fun _ => fun
  | [d] => { results := [.lit (.bool true)], args := [d] }
  | _ => none }
def fnExactCheck32Row : OpenClaim := { program := "ytfgnhghadghdkaa", sum := "c3886ae3693fbece60cef73e3960b94374606a2d0730349581b5ee6db2fe60b2", func := "loop.example/g00298/laws.FnExactCheck32", spec := "fnExactCheck32", apart := false }
def FnExactCheck32Said : Prop := fnExactCheck32Row.holds Try.pinned (OpenSpec.ofChange fnExactCheck32Spec)

/-- ITS FALSE NEIGHBOUR: 'it returns false'. Refute it at one input. -/
def fnExactCheck32Wrong : ChangeSpec := { name := "fnExactCheck32", fn := fun _ => fun
  | [d] => { results := [.lit (.bool false)], args := [d] }
  | _ => none }
def FnExactCheck32WrongFalsely : Prop := fnExactCheck32Row.holds Try.pinned (OpenSpec.ofChange fnExactCheck32Wrong)

/- THE SECOND FORM. 'bulk': how many values and letters a reading holds, each counted each time it is reached (what is shared counts as often as it is met; a slice's spare places count too). A statement '..UptoSaid' is the law's where the arguments, and the package variables that the reading takes, are together of bulk at most 1048576: NARROWER than '..Said'. Prove '..Said' where nothing that the law and all that it calls make is longer than what came in: it says more and counts as full. Else prove '..UptoSaid'. A law counts once. -/
mutual
def uptoBulk {H : Type} : DataW H → Nat
  | .lit (.string bytes) => bytes.length + 1
  | .lit _ => 1
  | .nil => 1
  | .ptr d => uptoBulk d + 1
  | .slice elems spare => uptoBulkAll elems + uptoBulkAll spare + 1
  | .agg parts => uptoBulkAll parts + 1
  | .iface _ d => uptoBulk d + 1
  | .map entries => uptoBulkEntries entries + 1
  | .held _ => 1
def uptoBulkAll {H : Type} : List (DataW H) → Nat
  | [] => 0
  | d :: r => uptoBulk d + uptoBulkAll r
def uptoBulkEntries {H : Type} : List (Lit × DataW H) → Nat
  | [] => 0
  | x :: r => uptoBulkEntry x + uptoBulkEntries r
def uptoBulkEntry {H : Type} : Lit × DataW H → Nat
  | (.string bytes, d) => bytes.length + uptoBulk d + 1
  | (_, d) => uptoBulk d + 1
 end
def uptoSmall : (H : Type) → List (DataW H) → Bool := fun _ ds => decide (uptoBulkAll ds ≤ 1048576)
def OpenSpec.upto (s : _root_.Go.ChangeSpec) : _root_.Go.OpenSpec := { _root_.Go.OpenSpec.ofChange s with cond := some uptoSmall }

/-- 'laws.FnExactRootOf', WHERE WHAT IT READS IS OF BULK AT MOST 1048576: true; the input reads as it did. -/
def fnExactRootOfUptoRow : OpenClaim := { program := "ytfgnhghadghdkaa", sum := "c3886ae3693fbece60cef73e3960b94374606a2d0730349581b5ee6db2fe60b2", func := "loop.example/g00298/laws.FnExactRootOf", spec := "fnExactRootOf", apart := false, narrowed := true }
def FnExactRootOfUptoSaid : Prop := fnExactRootOfUptoRow.holds Try.pinned (OpenSpec.upto fnExactRootOfSpec)

/-- 'laws.FnExactMulDiv', WHERE WHAT IT READS IS OF BULK AT MOST 1048576: true; the input reads as it did. -/
def fnExactMulDivUptoRow : OpenClaim := { program := "ytfgnhghadghdkaa", sum := "c3886ae3693fbece60cef73e3960b94374606a2d0730349581b5ee6db2fe60b2", func := "loop.example/g00298/laws.FnExactMulDiv", spec := "fnExactMulDiv", named := ["math/bits.divideError", "math/bits.overflowError"], apart := false, narrowed := true }
def FnExactMulDivUptoSaid : Prop := fnExactMulDivUptoRow.holds Try.pinned (OpenSpec.upto fnExactMulDivSpec)

/-- 'laws.FnRoot', WHERE WHAT IT READS IS OF BULK AT MOST 1048576: true; the input reads as it did. -/
def fnRootUptoRow : OpenClaim := { program := "ytfgnhghadghdkaa", sum := "c3886ae3693fbece60cef73e3960b94374606a2d0730349581b5ee6db2fe60b2", func := "loop.example/g00298/laws.FnRoot", spec := "fnRoot", apart := false, narrowed := true }
def FnRootUptoSaid : Prop := fnRootUptoRow.holds Try.pinned (OpenSpec.upto fnRootSpec)

/-- 'laws.FnMulDiv', WHERE WHAT IT READS IS OF BULK AT MOST 1048576: true; the input reads as it did. -/
def fnMulDivUptoRow : OpenClaim := { program := "ytfgnhghadghdkaa", sum := "c3886ae3693fbece60cef73e3960b94374606a2d0730349581b5ee6db2fe60b2", func := "loop.example/g00298/laws.FnMulDiv", spec := "fnMulDiv", named := ["math/bits.divideError", "math/bits.overflowError"], apart := false, narrowed := true }
def FnMulDivUptoSaid : Prop := fnMulDivUptoRow.holds Try.pinned (OpenSpec.upto fnMulDivSpec)

/-- 'laws.FnExactReadFields', WHERE WHAT IT READS IS OF BULK AT MOST 1048576: true; the input reads as it did. -/
def fnExactReadFieldsUptoRow : OpenClaim := { program := "ytfgnhghadghdkaa", sum := "c3886ae3693fbece60cef73e3960b94374606a2d0730349581b5ee6db2fe60b2", func := "loop.example/g00298/laws.FnExactReadFields", spec := "fnExactReadFields", apart := false, narrowed := true }
def FnExactReadFieldsUptoSaid : Prop := fnExactReadFieldsUptoRow.holds Try.pinned (OpenSpec.upto fnExactReadFieldsSpec)

/-- 'laws.FnExactFieldsBytes', WHERE WHAT IT READS IS OF BULK AT MOST 1048576: true; the input reads as it did. -/
def fnExactFieldsBytesUptoRow : OpenClaim := { program := "ytfgnhghadghdkaa", sum := "c3886ae3693fbece60cef73e3960b94374606a2d0730349581b5ee6db2fe60b2", func := "loop.example/g00298/laws.FnExactFieldsBytes", spec := "fnExactFieldsBytes", unfollowed := true, recurses := true, apart := false, narrowed := true }
def FnExactFieldsBytesUptoSaid : Prop := fnExactFieldsBytesUptoRow.holds Try.pinned (OpenSpec.upto fnExactFieldsBytesSpec)

/-- 'laws.FnFields', WHERE WHAT IT READS IS OF BULK AT MOST 1048576: true; the input reads as it did. -/
def fnFieldsUptoRow : OpenClaim := { program := "ytfgnhghadghdkaa", sum := "c3886ae3693fbece60cef73e3960b94374606a2d0730349581b5ee6db2fe60b2", func := "loop.example/g00298/laws.FnFields", spec := "fnFields", unfollowed := true, recurses := true, apart := false, narrowed := true }
def FnFieldsUptoSaid : Prop := fnFieldsUptoRow.holds Try.pinned (OpenSpec.upto fnFieldsSpec)

/-- 'laws.FnExactCheck32', WHERE WHAT IT READS IS OF BULK AT MOST 1048576: true; the input reads as it did. -/
def fnExactCheck32UptoRow : OpenClaim := { program := "ytfgnhghadghdkaa", sum := "c3886ae3693fbece60cef73e3960b94374606a2d0730349581b5ee6db2fe60b2", func := "loop.example/g00298/laws.FnExactCheck32", spec := "fnExactCheck32", apart := false, narrowed := true }
def FnExactCheck32UptoSaid : Prop := fnExactCheck32UptoRow.holds Try.pinned (OpenSpec.upto fnExactCheck32Spec)

end Rows
end Go.Proofs.Ytfgnhghadghdkaa
