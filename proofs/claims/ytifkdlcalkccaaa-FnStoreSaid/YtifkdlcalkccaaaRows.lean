/-
  No cell of these rows narrows 'for every input' (looked for: loops, veiled, ifaces, maps, wideKeys, modest, calm, conditions, laid).
  DERIVED. THE GIVEN ROWS OF THIS SEAT. 9 by the template 'for every input the law returns true; each argument reads behind the call as it read before'; 0 by the template 'total and deterministic' (their statements: YtifkdlcalkccaaaTotals.lean).
  GIVEN WITH THE SEED: the statements are not yours to turn. If you find one false, say at which input.
  Laid BY PROGRAM, IN A SANDBOX (cutbox-rows.mjs): the forced cells as the released guide's own fill.sh prints them over the translation 6edcddc1e3a4e5db… (all of the seat's roots in one cut). By AI agents, Wed Nov 11 2026. No macro, syntax, notation, axiom, sorry.
-/
import Derived.Test.YtifkdlcalkccaaaChecked
import GoSem.Claim
import GoSem.ClaimJoined
import GoSem.ClaimMapViews
import Derived.JoinedTies
import Derived.KernelRfl
namespace Go.Proofs.Ytifkdlcalkccaaa
/- THE CELL 'sum', in the pinned program and in every row, IS THE sha256 OF THE DUMP (.gsa) THAT YtifkdlcalkccaaaProg.lean LOADS. Nothing in Lean hashes anything: it is a label: what it is worth is what the hold of that sum in a sandbox is worth. -/
noncomputable def Try.pinned : Pinned := { name := "ytifkdlcalkccaaa", sum := "6edcddc1e3a4e5dbe589ec09c87f6786d3d2012b23a49a9ab0ad06d08882d025", checked := Try.checked }
namespace Rows
def none {H : Type} : Left H := { results := [], args := [] }

/-- 'laws.FnExactStoreOK': WHATEVER THE INPUT: true; the input reads as it did. -/
def fnExactStoreOKSpec : ChangeSpec := { name := "fnExactStoreOK", fn := fun _ => fun
  | [d] => { results := [.lit (.bool true)], args := [d] }
  | _ => none }
def fnExactStoreOKRow : OpenClaim := { program := "ytifkdlcalkccaaa", sum := "6edcddc1e3a4e5dbe589ec09c87f6786d3d2012b23a49a9ab0ad06d08882d025", func := "loop.example/g00298/laws.FnExactStoreOK", spec := "fnExactStoreOK", apart := false }
def FnExactStoreOKSaid : Prop := fnExactStoreOKRow.holds Try.pinned (OpenSpec.ofChange fnExactStoreOKSpec)

/-- ITS FALSE NEIGHBOUR: 'it returns false'. Refute it at one input. -/
def fnExactStoreOKWrong : ChangeSpec := { name := "fnExactStoreOK", fn := fun _ => fun
  | [d] => { results := [.lit (.bool false)], args := [d] }
  | _ => none }
def FnExactStoreOKWrongFalsely : Prop := fnExactStoreOKRow.holds Try.pinned (OpenSpec.ofChange fnExactStoreOKWrong)

/-- 'laws.FnExactProofOK': WHATEVER THE INPUT: true; the input reads as it did. -/
def fnExactProofOKSpec : ChangeSpec := { name := "fnExactProofOK", fn := fun _ => fun
  | [d] => { results := [.lit (.bool true)], args := [d] }
  | _ => none }
def fnExactProofOKRow : OpenClaim := { program := "ytifkdlcalkccaaa", sum := "6edcddc1e3a4e5dbe589ec09c87f6786d3d2012b23a49a9ab0ad06d08882d025", func := "loop.example/g00298/laws.FnExactProofOK", spec := "fnExactProofOK", unfollowed := true, recurses := true, apart := false }
def FnExactProofOKSaid : Prop := fnExactProofOKRow.holds Try.pinned (OpenSpec.ofChange fnExactProofOKSpec)

/-- ITS FALSE NEIGHBOUR: 'it returns false'. Refute it at one input. -/
def fnExactProofOKWrong : ChangeSpec := { name := "fnExactProofOK", fn := fun _ => fun
  | [d] => { results := [.lit (.bool false)], args := [d] }
  | _ => none }
def FnExactProofOKWrongFalsely : Prop := fnExactProofOKRow.holds Try.pinned (OpenSpec.ofChange fnExactProofOKWrong)

/-- 'laws.FnExactStoreScan': WHATEVER THE INPUT: true; the input reads as it did. -/
def fnExactStoreScanSpec : ChangeSpec := { name := "fnExactStoreScan", fn := fun _ => fun
  | [d1, d2] => { results := [.lit (.bool true)], args := [d1, d2] }
  | _ => none }
def fnExactStoreScanRow : OpenClaim := { program := "ytifkdlcalkccaaa", sum := "6edcddc1e3a4e5dbe589ec09c87f6786d3d2012b23a49a9ab0ad06d08882d025", func := "loop.example/g00298/laws.FnExactStoreScan", spec := "fnExactStoreScan", unfollowed := true, recurses := true, apart := false }
def FnExactStoreScanSaid : Prop := fnExactStoreScanRow.holds Try.pinned (OpenSpec.ofChange fnExactStoreScanSpec)

/-- ITS FALSE NEIGHBOUR: 'it returns false'. Refute it at one input. -/
def fnExactStoreScanWrong : ChangeSpec := { name := "fnExactStoreScan", fn := fun _ => fun
  | [d1, d2] => { results := [.lit (.bool false)], args := [d1, d2] }
  | _ => none }
def FnExactStoreScanWrongFalsely : Prop := fnExactStoreScanRow.holds Try.pinned (OpenSpec.ofChange fnExactStoreScanWrong)

/-- 'laws.FnExactStoreGet': WHATEVER THE INPUT: true; the input reads as it did. -/
def fnExactStoreGetSpec : ChangeSpec := { name := "fnExactStoreGet", fn := fun _ => fun
  | [d1, d2] => { results := [.lit (.bool true)], args := [d1, d2] }
  | _ => none }
def fnExactStoreGetRow : OpenClaim := { program := "ytifkdlcalkccaaa", sum := "6edcddc1e3a4e5dbe589ec09c87f6786d3d2012b23a49a9ab0ad06d08882d025", func := "loop.example/g00298/laws.FnExactStoreGet", spec := "fnExactStoreGet", inPlace := ["internal/bytealg.abigen_runtime_cmpstring"], unfollowed := true, recurses := true, apart := false }
def FnExactStoreGetSaid : Prop := fnExactStoreGetRow.holds Try.pinned (OpenSpec.ofChange fnExactStoreGetSpec)

/-- ITS FALSE NEIGHBOUR: 'it returns false'. Refute it at one input. -/
def fnExactStoreGetWrong : ChangeSpec := { name := "fnExactStoreGet", fn := fun _ => fun
  | [d1, d2] => { results := [.lit (.bool false)], args := [d1, d2] }
  | _ => none }
def FnExactStoreGetWrongFalsely : Prop := fnExactStoreGetRow.holds Try.pinned (OpenSpec.ofChange fnExactStoreGetWrong)

/-- 'laws.FnExactStoreDrop': WHATEVER THE INPUT: true; the input reads as it did. -/
def fnExactStoreDropSpec : ChangeSpec := { name := "fnExactStoreDrop", fn := fun _ => fun
  | [d1, d2] => { results := [.lit (.bool true)], args := [d1, d2] }
  | _ => none }
def fnExactStoreDropRow : OpenClaim := { program := "ytifkdlcalkccaaa", sum := "6edcddc1e3a4e5dbe589ec09c87f6786d3d2012b23a49a9ab0ad06d08882d025", func := "loop.example/g00298/laws.FnExactStoreDrop", spec := "fnExactStoreDrop", inPlace := ["internal/bytealg.abigen_runtime_cmpstring"], unfollowed := true, recurses := true, apart := false }
def FnExactStoreDropSaid : Prop := fnExactStoreDropRow.holds Try.pinned (OpenSpec.ofChange fnExactStoreDropSpec)

/-- ITS FALSE NEIGHBOUR: 'it returns false'. Refute it at one input. -/
def fnExactStoreDropWrong : ChangeSpec := { name := "fnExactStoreDrop", fn := fun _ => fun
  | [d1, d2] => { results := [.lit (.bool false)], args := [d1, d2] }
  | _ => none }
def FnExactStoreDropWrongFalsely : Prop := fnExactStoreDropRow.holds Try.pinned (OpenSpec.ofChange fnExactStoreDropWrong)

/-- 'laws.FnExactStorePut': WHATEVER THE INPUT: true; the input reads as it did. -/
def fnExactStorePutSpec : ChangeSpec := { name := "fnExactStorePut", fn := fun _ => fun
  | [d1, d2, d3] => { results := [.lit (.bool true)], args := [d1, d2, d3] }
  | _ => none }
def fnExactStorePutRow : OpenClaim := { program := "ytifkdlcalkccaaa", sum := "6edcddc1e3a4e5dbe589ec09c87f6786d3d2012b23a49a9ab0ad06d08882d025", func := "loop.example/g00298/laws.FnExactStorePut", spec := "fnExactStorePut", inPlace := ["internal/bytealg.abigen_runtime_cmpstring", "slices.overlaps[loop.example/g00298/impl.Pair]"], unfollowed := true, recurses := true, apart := false }
def FnExactStorePutSaid : Prop := fnExactStorePutRow.holds Try.pinned (OpenSpec.ofChange fnExactStorePutSpec)

/-- ITS FALSE NEIGHBOUR: 'it returns false'. Refute it at one input. -/
def fnExactStorePutWrong : ChangeSpec := { name := "fnExactStorePut", fn := fun _ => fun
  | [d1, d2, d3] => { results := [.lit (.bool false)], args := [d1, d2, d3] }
  | _ => none }
def FnExactStorePutWrongFalsely : Prop := fnExactStorePutRow.holds Try.pinned (OpenSpec.ofChange fnExactStorePutWrong)

/-- 'laws.FnStore': WHATEVER THE INPUT: true; the input reads as it did. -/
def fnStoreSpec : ChangeSpec := { name := "fnStore", fn := fun _ => fun
  | [d1, d2] => { results := [.lit (.bool true)], args := [d1, d2] }
  | _ => none }
def fnStoreRow : OpenClaim := { program := "ytifkdlcalkccaaa", sum := "6edcddc1e3a4e5dbe589ec09c87f6786d3d2012b23a49a9ab0ad06d08882d025", func := "loop.example/g00298/laws.FnStore", spec := "fnStore", inPlace := ["internal/bytealg.abigen_runtime_cmpstring", "slices.overlaps[loop.example/g00298/impl.Pair]"], unfollowed := true, recurses := true, apart := false }
def FnStoreSaid : Prop := fnStoreRow.holds Try.pinned (OpenSpec.ofChange fnStoreSpec)

/-- ITS FALSE NEIGHBOUR: 'it returns false'. Refute it at one input. -/
def fnStoreWrong : ChangeSpec := { name := "fnStore", fn := fun _ => fun
  | [d1, d2] => { results := [.lit (.bool false)], args := [d1, d2] }
  | _ => none }
def FnStoreWrongFalsely : Prop := fnStoreRow.holds Try.pinned (OpenSpec.ofChange fnStoreWrong)

/-- 'laws.FnExactPacketBytes': WHATEVER THE INPUT: true; the input reads as it did. -/
def fnExactPacketBytesSpec : ChangeSpec := { name := "fnExactPacketBytes", fn := fun _ => fun
  | [d] => { results := [.lit (.bool true)], args := [d] }
  | _ => none }
def fnExactPacketBytesRow : OpenClaim := { program := "ytifkdlcalkccaaa", sum := "6edcddc1e3a4e5dbe589ec09c87f6786d3d2012b23a49a9ab0ad06d08882d025", func := "loop.example/g00298/laws.FnExactPacketBytes", spec := "fnExactPacketBytes", apart := false }
def FnExactPacketBytesSaid : Prop := fnExactPacketBytesRow.holds Try.pinned (OpenSpec.ofChange fnExactPacketBytesSpec)

/-- ITS FALSE NEIGHBOUR: 'it returns false'. Refute it at one input. -/
def fnExactPacketBytesWrong : ChangeSpec := { name := "fnExactPacketBytes", fn := fun _ => fun
  | [d] => { results := [.lit (.bool false)], args := [d] }
  | _ => none }
def FnExactPacketBytesWrongFalsely : Prop := fnExactPacketBytesRow.holds Try.pinned (OpenSpec.ofChange fnExactPacketBytesWrong)

/-- 'laws.FnExactHeaderBytes': WHATEVER THE INPUT: true; the input reads as it did. -/
def fnExactHeaderBytesSpec : ChangeSpec := { name := "fnExactHeaderBytes", fn := fun _ => fun
  | [d] => { results := [.lit (.bool true)], args := [d] }
  | _ => none }
def fnExactHeaderBytesRow : OpenClaim := { program := "ytifkdlcalkccaaa", sum := "6edcddc1e3a4e5dbe589ec09c87f6786d3d2012b23a49a9ab0ad06d08882d025", func := "loop.example/g00298/laws.FnExactHeaderBytes", spec := "fnExactHeaderBytes", unfollowed := true, recurses := true, apart := false }
def FnExactHeaderBytesSaid : Prop := fnExactHeaderBytesRow.holds Try.pinned (OpenSpec.ofChange fnExactHeaderBytesSpec)

/-- ITS FALSE NEIGHBOUR: 'it returns false'. Refute it at one input. -/
def fnExactHeaderBytesWrong : ChangeSpec := { name := "fnExactHeaderBytes", fn := fun _ => fun
  | [d] => { results := [.lit (.bool false)], args := [d] }
  | _ => none }
def FnExactHeaderBytesWrongFalsely : Prop := fnExactHeaderBytesRow.holds Try.pinned (OpenSpec.ofChange fnExactHeaderBytesWrong)

/- THE SECOND FORM. 'bulk': how many values and letters a reading holds, each counted each time it is reached (what is shared counts as often as it is met; a slice's spare places count too). A statement '..UptoSaid' is the law's where the arguments, and the package variables that the reading takes, are together of bulk at most 1048576: NARROWER than '..Said'. Prove '..Said' where nothing that the law and all that it calls make is longer than what came in: it says more and counts as full. Else prove '..UptoSaid'. A law counts once. -/
mutual
def uptoBulk {H : Type} : DataW H → Nat
  | .lit (.string bytes) => bytes.length + 1
  | .lit _ => 1
  | .nil => 1
  | .ptr d => uptoBulk d + 1
  | .slice elems spare => uptoBulkAll elems + uptoBulkAll spare + 1
  | .agg parts => uptoBulkAll parts + 1
  | .iface _ d => uptoBulk d + 1
  | .map entries => uptoBulkEntries entries + 1
  | .held _ => 1
def uptoBulkAll {H : Type} : List (DataW H) → Nat
  | [] => 0
  | d :: r => uptoBulk d + uptoBulkAll r
def uptoBulkEntries {H : Type} : List (Lit × DataW H) → Nat
  | [] => 0
  | x :: r => uptoBulkEntry x + uptoBulkEntries r
def uptoBulkEntry {H : Type} : Lit × DataW H → Nat
  | (.string bytes, d) => bytes.length + uptoBulk d + 1
  | (_, d) => uptoBulk d + 1
 end
def uptoSmall : (H : Type) → List (DataW H) → Bool := fun _ ds => decide (uptoBulkAll ds ≤ 1048576)
def OpenSpec.upto (s : _root_.Go.ChangeSpec) : _root_.Go.OpenSpec := { _root_.Go.OpenSpec.ofChange s with cond := some uptoSmall }

/-- 'laws.FnExactStoreOK', WHERE WHAT IT READS IS OF BULK AT MOST 1048576: true; the input reads as it did. -/
def fnExactStoreOKUptoRow : OpenClaim := { program := "ytifkdlcalkccaaa", sum := "6edcddc1e3a4e5dbe589ec09c87f6786d3d2012b23a49a9ab0ad06d08882d025", func := "loop.example/g00298/laws.FnExactStoreOK", spec := "fnExactStoreOK", apart := false, narrowed := true }
def FnExactStoreOKUptoSaid : Prop := fnExactStoreOKUptoRow.holds Try.pinned (OpenSpec.upto fnExactStoreOKSpec)

/-- 'laws.FnExactProofOK', WHERE WHAT IT READS IS OF BULK AT MOST 1048576: true; the input reads as it did. -/
def fnExactProofOKUptoRow : OpenClaim := { program := "ytifkdlcalkccaaa", sum := "6edcddc1e3a4e5dbe589ec09c87f6786d3d2012b23a49a9ab0ad06d08882d025", func := "loop.example/g00298/laws.FnExactProofOK", spec := "fnExactProofOK", unfollowed := true, recurses := true, apart := false, narrowed := true }
def FnExactProofOKUptoSaid : Prop := fnExactProofOKUptoRow.holds Try.pinned (OpenSpec.upto fnExactProofOKSpec)

/-- 'laws.FnExactStoreScan', WHERE WHAT IT READS IS OF BULK AT MOST 1048576: true; the input reads as it did. -/
def fnExactStoreScanUptoRow : OpenClaim := { program := "ytifkdlcalkccaaa", sum := "6edcddc1e3a4e5dbe589ec09c87f6786d3d2012b23a49a9ab0ad06d08882d025", func := "loop.example/g00298/laws.FnExactStoreScan", spec := "fnExactStoreScan", unfollowed := true, recurses := true, apart := false, narrowed := true }
def FnExactStoreScanUptoSaid : Prop := fnExactStoreScanUptoRow.holds Try.pinned (OpenSpec.upto fnExactStoreScanSpec)

/-- 'laws.FnExactStoreGet', WHERE WHAT IT READS IS OF BULK AT MOST 1048576: true; the input reads as it did. -/
def fnExactStoreGetUptoRow : OpenClaim := { program := "ytifkdlcalkccaaa", sum := "6edcddc1e3a4e5dbe589ec09c87f6786d3d2012b23a49a9ab0ad06d08882d025", func := "loop.example/g00298/laws.FnExactStoreGet", spec := "fnExactStoreGet", inPlace := ["internal/bytealg.abigen_runtime_cmpstring"], unfollowed := true, recurses := true, apart := false, narrowed := true }
def FnExactStoreGetUptoSaid : Prop := fnExactStoreGetUptoRow.holds Try.pinned (OpenSpec.upto fnExactStoreGetSpec)

/-- 'laws.FnExactStoreDrop', WHERE WHAT IT READS IS OF BULK AT MOST 1048576: true; the input reads as it did. -/
def fnExactStoreDropUptoRow : OpenClaim := { program := "ytifkdlcalkccaaa", sum := "6edcddc1e3a4e5dbe589ec09c87f6786d3d2012b23a49a9ab0ad06d08882d025", func := "loop.example/g00298/laws.FnExactStoreDrop", spec := "fnExactStoreDrop", inPlace := ["internal/bytealg.abigen_runtime_cmpstring"], unfollowed := true, recurses := true, apart := false, narrowed := true }
def FnExactStoreDropUptoSaid : Prop := fnExactStoreDropUptoRow.holds Try.pinned (OpenSpec.upto fnExactStoreDropSpec)

/-- 'laws.FnExactStorePut', WHERE WHAT IT READS IS OF BULK AT MOST 1048576: true; the input reads as it did. -/
def fnExactStorePutUptoRow : OpenClaim := { program := "ytifkdlcalkccaaa", sum := "6edcddc1e3a4e5dbe589ec09c87f6786d3d2012b23a49a9ab0ad06d08882d025", func := "loop.example/g00298/laws.FnExactStorePut", spec := "fnExactStorePut", inPlace := ["internal/bytealg.abigen_runtime_cmpstring", "slices.overlaps[loop.example/g00298/impl.Pair]"], unfollowed := true, recurses := true, apart := false, narrowed := true }
def FnExactStorePutUptoSaid : Prop := fnExactStorePutUptoRow.holds Try.pinned (OpenSpec.upto fnExactStorePutSpec)

/-- 'laws.FnStore', WHERE WHAT IT READS IS OF BULK AT MOST 1048576: true; the input reads as it did. -/
def fnStoreUptoRow : OpenClaim := { program := "ytifkdlcalkccaaa", sum := "6edcddc1e3a4e5dbe589ec09c87f6786d3d2012b23a49a9ab0ad06d08882d025", func := "loop.example/g00298/laws.FnStore", spec := "fnStore", inPlace := ["internal/bytealg.abigen_runtime_cmpstring", "slices.overlaps[loop.example/g00298/impl.Pair]"], unfollowed := true, recurses := true, apart := false, narrowed := true }
def FnStoreUptoSaid : Prop := fnStoreUptoRow.holds Try.pinned (OpenSpec.upto fnStoreSpec)

/-- 'laws.FnExactPacketBytes', WHERE WHAT IT READS IS OF BULK AT MOST 1048576: true; the input reads as it did. -/
def fnExactPacketBytesUptoRow : OpenClaim := { program := "ytifkdlcalkccaaa", sum := "6edcddc1e3a4e5dbe589ec09c87f6786d3d2012b23a49a9ab0ad06d08882d025", func := "loop.example/g00298/laws.FnExactPacketBytes", spec := "fnExactPacketBytes", apart := false, narrowed := true }
def FnExactPacketBytesUptoSaid : Prop := fnExactPacketBytesUptoRow.holds Try.pinned (OpenSpec.upto fnExactPacketBytesSpec)

/-- 'laws.FnExactHeaderBytes', WHERE WHAT IT READS IS OF BULK AT MOST 1048576: true; the input reads as it did. -/
def fnExactHeaderBytesUptoRow : OpenClaim := { program := "ytifkdlcalkccaaa", sum := "6edcddc1e3a4e5dbe589ec09c87f6786d3d2012b23a49a9ab0ad06d08882d025", func := "loop.example/g00298/laws.FnExactHeaderBytes", spec := "fnExactHeaderBytes", unfollowed := true, recurses := true, apart := false, narrowed := true }
def FnExactHeaderBytesUptoSaid : Prop := fnExactHeaderBytesUptoRow.holds Try.pinned (OpenSpec.upto fnExactHeaderBytesSpec)

end Rows
end Go.Proofs.Ytifkdlcalkccaaa
