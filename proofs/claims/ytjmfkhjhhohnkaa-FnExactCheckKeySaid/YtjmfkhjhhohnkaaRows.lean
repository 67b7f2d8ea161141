/-
  No cell of these rows narrows 'for every input' (looked for: loops, veiled, ifaces, maps, wideKeys, modest, calm, conditions, laid).
  DERIVED. THE GIVEN ROWS OF THIS SEAT. 7 by the template 'for every input the law returns true; each argument reads behind the call as it read before'; 0 by the template 'total and deterministic' (their statements: YtjmfkhjhhohnkaaTotals.lean).
  GIVEN WITH THE SEED: the statements are not yours to turn. If you find one false, say at which input.
  Laid BY PROGRAM, IN A SANDBOX (cutbox-rows.mjs): the forced cells as the released guide's own fill.sh prints them over the translation 58793a685e28ccc5… (all of the seat's roots in one cut). By AI agents, Wed Nov 11 2026. No macro, syntax, notation, axiom, sorry.
-/
import Derived.Test.YtjmfkhjhhohnkaaChecked
import GoSem.Claim
import GoSem.ClaimJoined
import GoSem.ClaimMapViews
import Derived.JoinedTies
import Derived.KernelRfl
namespace Go.Proofs.Ytjmfkhjhhohnkaa
/- THE CELL 'sum', in the pinned program and in every row, IS THE sha256 OF THE DUMP (.gsa) THAT YtjmfkhjhhohnkaaProg.lean LOADS. Nothing in Lean hashes anything: it is a label: what it is worth is what the hold of that sum in a sandbox is worth. -/
noncomputable def Try.pinned : Pinned := { name := "ytjmfkhjhhohnkaa", sum := "58793a685e28ccc56db4afec29216bcac9be1349286a8153c7cb47178f893022", checked := Try.checked }
namespace Rows
def none {H : Type} : Left H := { results := [], args := [] }

/-- 'laws.FnExactHash': WHATEVER THE INPUT: true; the input reads as it did. -/
def fnExactHashSpec : ChangeSpec := { name := "fnExactHash", fn := fun _ => fun
  | [d] => { results := [.lit (.bool true)], args := [d] }
  | _ => none }
def fnExactHashRow : OpenClaim := { program := "ytjmfkhjhhohnkaa", sum := "58793a685e28ccc56db4afec29216bcac9be1349286a8153c7cb47178f893022", func := "loop.example/g00298/laws.FnExactHash", spec := "fnExactHash", inPlace := ["internal/abi.NoEscape", "internal/bytealg.MakeNoZero"], apart := false }
def FnExactHashSaid : Prop := fnExactHashRow.holds Try.pinned (OpenSpec.ofChange fnExactHashSpec)

/-- ITS FALSE NEIGHBOUR: 'it returns false'. Refute it at one input. -/
def fnExactHashWrong : ChangeSpec := { name := "fnExactHash", fn := fun _ => fun
  | [d] => { results := [.lit (.bool false)], args := [d] }
  | _ => none }
def FnExactHashWrongFalsely : Prop := fnExactHashRow.holds Try.pinned (OpenSpec.ofChange fnExactHashWrong)

/-- 'laws.FnExactKeyPath': WHATEVER THE INPUT: true; the input reads as it did. -/
def fnExactKeyPathSpec : ChangeSpec := { name := "fnExactKeyPath", fn := fun _ => fun
  | [d] => { results := [.lit (.bool true)], args := [d] }
  | _ => none }
def fnExactKeyPathRow : OpenClaim := { program := "ytjmfkhjhhohnkaa", sum := "58793a685e28ccc56db4afec29216bcac9be1349286a8153c7cb47178f893022", func := "loop.example/g00298/laws.FnExactKeyPath", spec := "fnExactKeyPath", inPlace := ["internal/abi.NoEscape", "internal/bytealg.MakeNoZero"], apart := false }
def FnExactKeyPathSaid : Prop := fnExactKeyPathRow.holds Try.pinned (OpenSpec.ofChange fnExactKeyPathSpec)

/-- ITS FALSE NEIGHBOUR: 'it returns false'. Refute it at one input. -/
def fnExactKeyPathWrong : ChangeSpec := { name := "fnExactKeyPath", fn := fun _ => fun
  | [d] => { results := [.lit (.bool false)], args := [d] }
  | _ => none }
def FnExactKeyPathWrongFalsely : Prop := fnExactKeyPathRow.holds Try.pinned (OpenSpec.ofChange fnExactKeyPathWrong)

/-- 'laws.FnExactPacketHash': WHATEVER THE INPUT: true; the input reads as it did. -/
def fnExactPacketHashSpec : ChangeSpec := { name := "fnExactPacketHash", fn := fun _ => fun
  | [d] => { results := [.lit (.bool true)], args := [d] }
  | _ => none }
def fnExactPacketHashRow : OpenClaim := { program := "ytjmfkhjhhohnkaa", sum := "58793a685e28ccc56db4afec29216bcac9be1349286a8153c7cb47178f893022", func := "loop.example/g00298/laws.FnExactPacketHash", spec := "fnExactPacketHash", inPlace := ["internal/abi.NoEscape", "internal/bytealg.MakeNoZero"], apart := false }
def FnExactPacketHashSaid : Prop := fnExactPacketHashRow.holds Try.pinned (OpenSpec.ofChange fnExactPacketHashSpec)

/-- ITS FALSE NEIGHBOUR: 'it returns false'. Refute it at one input. -/
def fnExactPacketHashWrong : ChangeSpec := { name := "fnExactPacketHash", fn := fun _ => fun
  | [d] => { results := [.lit (.bool false)], args := [d] }
  | _ => none }
def FnExactPacketHashWrongFalsely : Prop := fnExactPacketHashRow.holds Try.pinned (OpenSpec.ofChange fnExactPacketHashWrong)

/-- 'laws.FnExactHeaderHash': WHATEVER THE INPUT: true; the input reads as it did. -/
def fnExactHeaderHashSpec : ChangeSpec := { name := "fnExactHeaderHash", fn := fun _ => fun
  | [d] => { results := [.lit (.bool true)], args := [d] }
  | _ => none }
def fnExactHeaderHashRow : OpenClaim := { program := "ytjmfkhjhhohnkaa", sum := "58793a685e28ccc56db4afec29216bcac9be1349286a8153c7cb47178f893022", func := "loop.example/g00298/laws.FnExactHeaderHash", spec := "fnExactHeaderHash", inPlace := ["internal/abi.NoEscape", "internal/bytealg.MakeNoZero"], unfollowed := true, recurses := true, apart := false }
def FnExactHeaderHashSaid : Prop := fnExactHeaderHashRow.holds Try.pinned (OpenSpec.ofChange fnExactHeaderHashSpec)

/-- ITS FALSE NEIGHBOUR: 'it returns false'. Refute it at one input. -/
def fnExactHeaderHashWrong : ChangeSpec := { name := "fnExactHeaderHash", fn := fun _ => fun
  | [d] => { results := [.lit (.bool false)], args := [d] }
  | _ => none }
def FnExactHeaderHashWrongFalsely : Prop := fnExactHeaderHashRow.holds Try.pinned (OpenSpec.ofChange fnExactHeaderHashWrong)

/-- 'laws.FnExactClientOK': WHATEVER THE INPUT: true; the input reads as it did. -/
def fnExactClientOKSpec : ChangeSpec := { name := "fnExactClientOK", fn := fun _ => fun
  | [d] => { results := [.lit (.bool true)], args := [d] }
  | _ => none }
def fnExactClientOKRow : OpenClaim := { program := "ytjmfkhjhhohnkaa", sum := "58793a685e28ccc56db4afec29216bcac9be1349286a8153c7cb47178f893022", func := "loop.example/g00298/laws.FnExactClientOK", spec := "fnExactClientOK", inPlace := ["internal/abi.NoEscape", "internal/bytealg.MakeNoZero"], unfollowed := true, recurses := true, apart := false }
def FnExactClientOKSaid : Prop := fnExactClientOKRow.holds Try.pinned (OpenSpec.ofChange fnExactClientOKSpec)

/-- ITS FALSE NEIGHBOUR: 'it returns false'. Refute it at one input. -/
def fnExactClientOKWrong : ChangeSpec := { name := "fnExactClientOK", fn := fun _ => fun
  | [d] => { results := [.lit (.bool false)], args := [d] }
  | _ => none }
def FnExactClientOKWrongFalsely : Prop := fnExactClientOKRow.holds Try.pinned (OpenSpec.ofChange fnExactClientOKWrong)

/-- 'laws.FnExactStateAt': WHATEVER THE INPUT: true; the input reads as it did. -/
def fnExactStateAtSpec : ChangeSpec := { name := "fnExactStateAt", fn := fun _ => fun
  | [d1, d2] => { results := [.lit (.bool true)], args := [d1, d2] }
  | _ => none }
def fnExactStateAtRow : OpenClaim := { program := "ytjmfkhjhhohnkaa", sum := "58793a685e28ccc56db4afec29216bcac9be1349286a8153c7cb47178f893022", func := "loop.example/g00298/laws.FnExactStateAt", spec := "fnExactStateAt", inPlace := ["internal/abi.NoEscape", "internal/bytealg.MakeNoZero"], unfollowed := true, recurses := true, apart := false }
def FnExactStateAtSaid : Prop := fnExactStateAtRow.holds Try.pinned (OpenSpec.ofChange fnExactStateAtSpec)

/-- ITS FALSE NEIGHBOUR: 'it returns false'. Refute it at one input. -/
def fnExactStateAtWrong : ChangeSpec := { name := "fnExactStateAt", fn := fun _ => fun
  | [d1, d2] => { results := [.lit (.bool false)], args := [d1, d2] }
  | _ => none }
def FnExactStateAtWrongFalsely : Prop := fnExactStateAtRow.holds Try.pinned (OpenSpec.ofChange fnExactStateAtWrong)

/-- 'laws.FnExactCheckKey': WHATEVER THE INPUT: true; the input reads as it did. -/
def fnExactCheckKeySpec : ChangeSpec := { name := "fnExactCheckKey", fn := fun _ => fun
  | [d1, d2, d3] => { results := [.lit (.bool true)], args := [d1, d2, d3] }
  | _ => none }
def fnExactCheckKeyRow : OpenClaim := { program := "ytjmfkhjhhohnkaa", sum := "58793a685e28ccc56db4afec29216bcac9be1349286a8153c7cb47178f893022", func := "loop.example/g00298/laws.FnExactCheckKey", spec := "fnExactCheckKey", inPlace := ["internal/abi.NoEscape", "internal/bytealg.MakeNoZero"], unfollowed := true, recurses := true, apart := false }
def FnExactCheckKeySaid : Prop := fnExactCheckKeyRow.holds Try.pinned (OpenSpec.ofChange fnExactCheckKeySpec)

/-- ITS FALSE NEIGHBOUR: 'it returns false'. Refute it at one input. -/
def fnExactCheckKeyWrong : ChangeSpec := { name := "fnExactCheckKey", fn := fun _ => fun
  | [d1, d2, d3] => { results := [.lit (.bool false)], args := [d1, d2, d3] }
  | _ => none }
def FnExactCheckKeyWrongFalsely : Prop := fnExactCheckKeyRow.holds Try.pinned (OpenSpec.ofChange fnExactCheckKeyWrong)

/- THE SECOND FORM. 'bulk': how many values and letters a reading holds, each counted each time it is reached (what is shared counts as often as it is met; a slice's spare places count too). A statement '..UptoSaid' is the law's where the arguments, and the package variables that the reading takes, are together of bulk at most 1048576: NARROWER than '..Said'. Prove '..Said' where nothing that the law and all that it calls make is longer than what came in: it says more and counts as full. Else prove '..UptoSaid'. A law counts once. -/
mutual
def uptoBulk {H : Type} : DataW H → Nat
  | .lit (.string bytes) => bytes.length + 1
  | .lit _ => 1
  | .nil => 1
  | .ptr d => uptoBulk d + 1
  | .slice elems spare => uptoBulkAll elems + uptoBulkAll spare + 1
  | .agg parts => uptoBulkAll parts + 1
  | .iface _ d => uptoBulk d + 1
  | .map entries => uptoBulkEntries entries + 1
  | .held _ => 1
def uptoBulkAll {H : Type} : List (DataW H) → Nat
  | [] => 0
  | d :: r => uptoBulk d + uptoBulkAll r
def uptoBulkEntries {H : Type} : List (Lit × DataW H) → Nat
  | [] => 0
  | x :: r => uptoBulkEntry x + uptoBulkEntries r
def uptoBulkEntry {H : Type} : Lit × DataW H → Nat
  | (.string bytes, d) => bytes.length + uptoBulk d + 1
  | (_, d) => uptoBulk d + 1
 end
def uptoSmall : (H : Type) → List (DataW H) → Bool := fun _ ds => decide (uptoBulkAll ds ≤ 1048576)
def OpenSpec.upto (s : _root_.Go.ChangeSpec) : _root_.Go.OpenSpec := { _root_.Go.OpenSpec.ofChange s with cond := some uptoSmall }

/-- 'laws.FnExactHash', WHERE WHAT IT READS IS OF BULK AT MOST 1048576: true; the input reads as it did. -/
def fnExactHashUptoRow : OpenClaim := { program := "ytjmfkhjhhohnkaa", sum := "58793a685e28ccc56db4afec29216bcac9be1349286a8153c7cb47178f893022", func := "loop.example/g00298/laws.FnExactHash", spec := "fnExactHash", inPlace := ["internal/abi.NoEscape", "internal/bytealg.MakeNoZero"], apart := false, narrowed := true }
def FnExactHashUptoSaid : Prop := fnExactHashUptoRow.holds Try.pinned (OpenSpec.upto fnExactHashSpec)

/-- 'laws.FnExactKeyPath', WHERE WHAT IT READS IS OF BULK AT MOST 1048576: true; the input reads as it did. -/
def fnExactKeyPathUptoRow : OpenClaim := { program := "ytjmfkhjhhohnkaa", sum := "58793a685e28ccc56db4afec29216bcac9be1349286a8153c7cb47178f893022", func := "loop.example/g00298/laws.FnExactKeyPath", spec := "fnExactKeyPath", inPlace := ["internal/abi.NoEscape", "internal/bytealg.MakeNoZero"], apart := false, narrowed := true }
def FnExactKeyPathUptoSaid : Prop := fnExactKeyPathUptoRow.holds Try.pinned (OpenSpec.upto fnExactKeyPathSpec)

/-- 'laws.FnExactPacketHash', WHERE WHAT IT READS IS OF BULK AT MOST 1048576: true; the input reads as it did. -/
def fnExactPacketHashUptoRow : OpenClaim := { program := "ytjmfkhjhhohnkaa", sum := "58793a685e28ccc56db4afec29216bcac9be1349286a8153c7cb47178f893022", func := "loop.example/g00298/laws.FnExactPacketHash", spec := "fnExactPacketHash", inPlace := ["internal/abi.NoEscape", "internal/bytealg.MakeNoZero"], apart := false, narrowed := true }
def FnExactPacketHashUptoSaid : Prop := fnExactPacketHashUptoRow.holds Try.pinned (OpenSpec.upto fnExactPacketHashSpec)

/-- 'laws.FnExactHeaderHash', WHERE WHAT IT READS IS OF BULK AT MOST 1048576: true; the input reads as it did. -/
def fnExactHeaderHashUptoRow : OpenClaim := { program := "ytjmfkhjhhohnkaa", sum := "58793a685e28ccc56db4afec29216bcac9be1349286a8153c7cb47178f893022", func := "loop.example/g00298/laws.FnExactHeaderHash", spec := "fnExactHeaderHash", inPlace := ["internal/abi.NoEscape", "internal/bytealg.MakeNoZero"], unfollowed := true, recurses := true, apart := false, narrowed := true }
def FnExactHeaderHashUptoSaid : Prop := fnExactHeaderHashUptoRow.holds Try.pinned (OpenSpec.upto fnExactHeaderHashSpec)

/-- 'laws.FnExactClientOK', WHERE WHAT IT READS IS OF BULK AT MOST 1048576: true; the input reads as it did. -/
def fnExactClientOKUptoRow : OpenClaim := { program := "ytjmfkhjhhohnkaa", sum := "58793a685e28ccc56db4afec29216bcac9be1349286a8153c7cb47178f893022", func := "loop.example/g00298/laws.FnExactClientOK", spec := "fnExactClientOK", inPlace := ["internal/abi.NoEscape", "internal/bytealg.MakeNoZero"], unfollowed := true, recurses := true, apart := false, narrowed := true }
def FnExactClientOKUptoSaid : Prop := fnExactClientOKUptoRow.holds Try.pinned (OpenSpec.upto fnExactClientOKSpec)

/-- 'laws.FnExactStateAt', WHERE WHAT IT READS IS OF BULK AT MOST 1048576: true; the input reads as it did. -/
def fnExactStateAtUptoRow : OpenClaim := { program := "ytjmfkhjhhohnkaa", sum := "58793a685e28ccc56db4afec29216bcac9be1349286a8153c7cb47178f893022", func := "loop.example/g00298/laws.FnExactStateAt", spec := "fnExactStateAt", inPlace := ["internal/abi.NoEscape", "internal/bytealg.MakeNoZero"], unfollowed := true, recurses := true, apart := false, narrowed := true }
def FnExactStateAtUptoSaid : Prop := fnExactStateAtUptoRow.holds Try.pinned (OpenSpec.upto fnExactStateAtSpec)

/-- 'laws.FnExactCheckKey', WHERE WHAT IT READS IS OF BULK AT MOST 1048576: true; the input reads as it did. -/
def fnExactCheckKeyUptoRow : OpenClaim := { program := "ytjmfkhjhhohnkaa", sum := "58793a685e28ccc56db4afec29216bcac9be1349286a8153c7cb47178f893022", func := "loop.example/g00298/laws.FnExactCheckKey", spec := "fnExactCheckKey", inPlace := ["internal/abi.NoEscape", "internal/bytealg.MakeNoZero"], unfollowed := true, recurses := true, apart := false, narrowed := true }
def FnExactCheckKeyUptoSaid : Prop := fnExactCheckKeyUptoRow.holds Try.pinned (OpenSpec.upto fnExactCheckKeySpec)

end Rows
end Go.Proofs.Ytjmfkhjhhohnkaa
