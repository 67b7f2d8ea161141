-- Texts of this seat, cut down to what the claim's theorem reaches and joined (by shake.py).
import Derived.Shelf.Small.Strs
import Derived.Shelf.Strconv.Atoi
import Derived.Shelf.Strconv.Itoa0
import Derived.Shelf.Strconv.Itoa1
import Derived.Shelf.LaysM
import Derived.Shelf.Strconv.Itoa2
import Derived.Shelf.Strconv.Itoa3
import Derived.Shelf.Strconv.AtoiErrFast
import Derived.Shelf.Strconv.ParseIntEmpty
import Derived.Shelf.Strconv.AtoiFail
import Derived.Shelf.Strconv.Clone
import Derived.Shelf.Strconv.SyntaxError
import Derived.Shelf.LaysC
import Derived.Shelf.Strconv.ToError
import Derived.Shelf.Strconv.Lower
import Derived.Shelf.Strconv.ParseUint10
import Derived.Shelf.Strconv.ParseUint10Empty
import Derived.Shelf.Strconv.ParseUint10Any
import Derived.Shelf.Strconv.ParseInt10
import Derived.Shelf.Strconv.AtoiLong
import Derived.Shelf.Strconv.AtoiInnerAll
import Derived.Shelf.Strconv.RangeError
import Derived.Shelf.Strconv.ToErrorRange
import Derived.Shelf.Strconv.AtoiAll
import Derived.Shelf.Strconv.ErrVarAll
import Derived.Shelf.Strings.Prefix
import Derived.Test.YtpkfdjlmflmilaaGreatDoorProg
import Derived.WalkKit
import Derived.Lib.Walk
import Derived.Shelf.Abstract
import Derived.Deep.LoopGhost
import Derived.Deep.Draws
import Derived.Lib.AtoiAllCases
import Derived.Lib.Strings
import Derived.WideShapes
import Derived.Lib.SliceRun
import Derived.Lib.JoinLaws
import Derived.Lib.AppendZeros
import Derived.Lib.AppendZerosOnto
import Derived.Lib.Overlaps
import Derived.Laws.Externs
import Derived.Laws.CopyRow
import Derived.Laws.NewBlocks
import Derived.Deep.RegionLaw
import Derived.Outline
import Derived.Lib.ItoaNum
import Derived.Lib.AtoiAll
import Derived.Test.YtpkfdjlmflmilaaGreatDoorMoveCoins1
import Derived.Test.YtpkfdjlmflmilaaGreatDoorMoveCoins2
import Derived.Test.YtpkfdjlmflmilaaGreatDoorMoveCoins3
section
/-
  DERIVED: THE SHELF's CONTRACTS AT THIS DUMP, IN PLAIN WORDS (tools/lay-plain.mjs out of 'TryzShelf.lean', which tools/lay-shelf.mjs wrote): THE SAME DECLARATIONS UNDER THE SAME NAMES: 'import', 'namespace', 'open', 'def', 'theorem' AND NOTHING ELSE: no command of the shelf's: FOR A HAND-IN. Each laying: the table of numbers ('.._ren') and one theorem, a field a fact of the dump's own or the kernel's comparison; each contract: ONE APPLICATION.
-/
namespace Go.Proofs
open Go.Shelf
def Tryz.lays106_ren : Go.Shelf.Ren := ⟨fun | 106 => 115 | 213 => 123 | 265 => 132 | n => n, fun | 9 => 9 | 3 => 3 | n => n, fun | n => n⟩
theorem Tryz.lays106 : Go.Proofs.Lays.n106 Tryz.prog Tryz.lays106_ren := {
  mixed := by kernel_rfl
  f106 := Tryz.func115.trans (congrArg some (by kernel_rfl))
  f213 := Tryz.func123.trans (congrArg some (by kernel_rfl))
  f265 := Tryz.func132.trans (congrArg some (by kernel_rfl))
  t3 := Tryz.underlying3
  a3 := Tryz.isAgg3
  z3 := Tryz.sizeOf3
  v3 := Tryz.zeroValue3
  t9 := Tryz.underlying9
  a9 := Tryz.isAgg9
  z9 := Tryz.sizeOf9
  v9 := Tryz.zeroValue9 }
open Go.RowKit in
/-- strings.Compare: "Compare returns an integer comparing two strings lexicographically. The result will be 0 if a == b, -1 if a < b, and +1 if a > b.": IT RETURNS 'Lib.compareBytes a b'; the world is as it was. (LAID: no walk: one application.) -/
theorem Tryz.strings_Compare (a b : ByteArray) (w : World) :
    Calls Tryz.prog 115 #[.string a, .string b] w fun e w' => e = .returned (.int .i64 (Lib.compareBytes a.data.toList b.data.toList)) ∧ w' = w := Any.strings_Compare Tryz.lays106 a b w
def Tryz.laysM171_ren : Go.Shelf.Ren := ⟨fun | 171 => 118 | 243 => 129 | 246 => 136 | 283 => 140 | 284 => 141 | 285 => 142 | 286 => 143 | 129 => 146 | 317 => 145 | 318 => 147 | 319 => 148 | 320 => 149 | 337 => 150 | 338 => 151 | n => n, fun | 3 => 3 | 9 => 9 | 2 => 2 | 4 => 4 | 171 => 131 | 0 => 0 | 53 => 119 | 37 => 33 | 5 => 5 | 173 => 134 | 212 => 138 | 51 => 139 | 20 => 20 | 213 => 140 | 46 => 111 | 232 => 143 | 233 => 144 | n => n, fun | 17 => 3 | 18 => 4 | 19 => 5 | n => n⟩
theorem Tryz.laysM171 : Go.Proofs.LaysM.n171 Tryz.prog Tryz.laysM171_ren := {
  mixed := by kernel_rfl
  f129 := Tryz.func146.trans (congrArg some (by kernel_rfl))
  f171 := Tryz.func118.trans (congrArg some (by kernel_rfl))
  f243 := Tryz.func129.trans (congrArg some (by kernel_rfl))
  f246 := Tryz.func136.trans (congrArg some (by kernel_rfl))
  f283 := Tryz.func140.trans (congrArg some (by kernel_rfl))
  f284 := Tryz.func141.trans (congrArg some (by kernel_rfl))
  f285 := Tryz.func142.trans (congrArg some (by kernel_rfl))
  f286 := Tryz.func143.trans (congrArg some (by kernel_rfl))
  f317 := Tryz.func145.trans (congrArg some (by kernel_rfl))
  f318 := Tryz.func147.trans (congrArg some (by kernel_rfl))
  f319 := Tryz.func148.trans (congrArg some (by kernel_rfl))
  f320 := Tryz.func149.trans (congrArg some (by kernel_rfl))
  f337 := Tryz.func150.trans (congrArg some (by kernel_rfl))
  f338 := Tryz.func151.trans (congrArg some (by kernel_rfl))
  t0 := Tryz.underlying0
  a0 := Tryz.isAgg0
  z0 := Tryz.sizeOf0
  v0 := Tryz.zeroValue0
  t2 := Tryz.underlying2
  a2 := Tryz.isAgg2
  z2 := Tryz.sizeOf2
  v2 := Tryz.zeroValue2
  t3 := Tryz.underlying3
  a3 := Tryz.isAgg3
  z3 := Tryz.sizeOf3
  v3 := Tryz.zeroValue3
  t4 := Tryz.underlying4
  a4 := Tryz.isAgg4
  z4 := Tryz.sizeOf4
  v4 := Tryz.zeroValue4
  t5 := Tryz.underlying5
  a5 := Tryz.isAgg5
  z5 := Tryz.sizeOf5
  v5 := Tryz.zeroValue5
  t9 := Tryz.underlying9
  a9 := Tryz.isAgg9
  z9 := Tryz.sizeOf9
  v9 := Tryz.zeroValue9
  t20 := Tryz.underlying20
  a20 := Tryz.isAgg20
  z20 := Tryz.sizeOf20
  v20 := Tryz.zeroValue20
  t37 := Tryz.underlying33
  a37 := Tryz.isAgg33
  z37 := Tryz.sizeOf33
  v37 := Tryz.zeroValue33
  t46 := Tryz.underlying111
  a46 := Tryz.isAgg111
  z46 := Tryz.sizeOf111
  v46 := Tryz.zeroValue111
  t51 := Tryz.underlying139
  a51 := Tryz.isAgg139
  z51 := Tryz.sizeOf139
  v51 := Tryz.zeroValue139
  t53 := Tryz.underlying119
  a53 := Tryz.isAgg119
  z53 := Tryz.sizeOf119
  v53 := Tryz.zeroValue119
  t171 := Tryz.underlying131
  a171 := Tryz.isAgg131
  z171 := Tryz.sizeOf131
  v171 := Tryz.zeroValue131
  t173 := Tryz.underlying134
  a173 := Tryz.isAgg134
  z173 := Tryz.sizeOf134
  v173 := Tryz.zeroValue134
  t212 := Tryz.underlying138
  a212 := Tryz.isAgg138
  z212 := Tryz.sizeOf138
  v212 := Tryz.zeroValue138
  t213 := Tryz.underlying140
  a213 := Tryz.isAgg140
  z213 := Tryz.sizeOf140
  t232 := Tryz.underlying143
  a232 := Tryz.isAgg143
  z232 := Tryz.sizeOf143
  v232 := Tryz.zeroValue143
  t233 := Tryz.underlying144
  a233 := Tryz.isAgg144
  z233 := Tryz.sizeOf144
  v233 := Tryz.zeroValue144
  g17 := by kernel_rfl
  g18 := by kernel_rfl
  g19 := by kernel_rfl
  i0 := by kernel_rfl
  i2 := by kernel_rfl
  i3 := by kernel_rfl
  i4 := by kernel_rfl
  i5 := by kernel_rfl
  i9 := by kernel_rfl
  i20 := by kernel_rfl
  i37 := by kernel_rfl
  i46 := by kernel_rfl
  i51 := by kernel_rfl
  i53 := by kernel_rfl
  i171 := by kernel_rfl
  i173 := by kernel_rfl
  i212 := by kernel_rfl
  i232 := by kernel_rfl
  i233 := by kernel_rfl
  m17 := by kernel_rfl
  m18 := by kernel_rfl
  m19 := by kernel_rfl }
open Go.RowKit Go.Sort Go.Lib in
/-- strconv.Itoa: "Itoa is equivalent to FormatInt(int64(i), 10).": i's DECIMAL NUMERAL ('Lib.itoa': a '-' where i is negative, then the digits), FOR EVERY int. The world behind the call: the world before it, new blocks behind the heap (the library's 'var a [24]byte'), draws. (LAID: no walk: one application.) -/
theorem Tryz.strconv_Itoa (n : Int) (h0 : -9223372036854775808 ≤ n) (h1 : n ≤ 9223372036854775807) (w : World) (htab : Lib.TabIs Tryz.prog w "internal/strconv.uint64pow10" .u64 Lib.pow10Tab) :
    Calls Tryz.prog 118 #[.int .i64 n] w fun e w' => e = .returned (.string ⟨(Lib.itoa n).toArray⟩) ∧ ∃ k os, w' = grow (w.drewN k) os := Any.strconv_Itoa Tryz.laysM171 n h0 h1 w htab
def Tryz.laysC172_ren : Go.Shelf.Ren := ⟨fun | 172 => 99 | 244 => 116 | 245 => 117 | 247 => 124 | 279 => 125 | 280 => 126 | 281 => 127 | 282 => 128 | 287 => 133 | 316 => 134 | 171 => 118 | 205 => 135 | 321 => 138 | 322 => 139 | 243 => 129 | 246 => 136 | 283 => 140 | 284 => 141 | 285 => 142 | 286 => 143 | 129 => 146 | 317 => 145 | 318 => 147 | 319 => 148 | 320 => 149 | 337 => 150 | 338 => 151 | n => n, fun | 9 => 9 | 3 => 3 | 75 => 97 | 76 => 98 | 4 => 4 | 5 => 5 | 167 => 112 | 37 => 33 | 0 => 0 | 85 => 113 | 2 => 2 | 168 => 115 | 53 => 119 | 175 => 120 | 46 => 111 | 210 => 123 | 127 => 127 | 145 => 130 | 143 => 128 | 21 => 21 | 171 => 131 | 173 => 134 | 212 => 138 | 51 => 139 | 20 => 20 | 213 => 140 | 232 => 143 | 233 => 144 | 80 => 68 | n => n, fun | 15 => 1 | 16 => 2 | 17 => 3 | 18 => 4 | 19 => 5 | n => n⟩
theorem Tryz.laysC172 : Go.Proofs.LaysC.n172 Tryz.prog Tryz.laysC172_ren := {
  mixed := by kernel_rfl
  f129 := Tryz.func146.trans (congrArg some (by kernel_rfl))
  f171 := Tryz.func118.trans (congrArg some (by kernel_rfl))
  f172 := Tryz.func99.trans (congrArg some (by kernel_rfl))
  f205 := Tryz.func135.trans (congrArg some (by kernel_rfl))
  f243 := Tryz.func129.trans (congrArg some (by kernel_rfl))
  f244 := Tryz.func116.trans (congrArg some (by kernel_rfl))
  f245 := Tryz.func117.trans (congrArg some (by kernel_rfl))
  f246 := Tryz.func136.trans (congrArg some (by kernel_rfl))
  f247 := Tryz.func124.trans (congrArg some (by kernel_rfl))
  f279 := Tryz.func125.trans (congrArg some (by kernel_rfl))
  f280 := Tryz.func126.trans (congrArg some (by kernel_rfl))
  f281 := Tryz.func127.trans (congrArg some (by kernel_rfl))
  f282 := Tryz.func128.trans (congrArg some (by kernel_rfl))
  f283 := Tryz.func140.trans (congrArg some (by kernel_rfl))
  f284 := Tryz.func141.trans (congrArg some (by kernel_rfl))
  f285 := Tryz.func142.trans (congrArg some (by kernel_rfl))
  f286 := Tryz.func143.trans (congrArg some (by kernel_rfl))
  f287 := Tryz.func133.trans (congrArg some (by kernel_rfl))
  f316 := Tryz.func134.trans (congrArg some (by kernel_rfl))
  f317 := Tryz.func145.trans (congrArg some (by kernel_rfl))
  f318 := Tryz.func147.trans (congrArg some (by kernel_rfl))
  f319 := Tryz.func148.trans (congrArg some (by kernel_rfl))
  f320 := Tryz.func149.trans (congrArg some (by kernel_rfl))
  f321 := Tryz.func138.trans (congrArg some (by kernel_rfl))
  f322 := Tryz.func139.trans (congrArg some (by kernel_rfl))
  f337 := Tryz.func150.trans (congrArg some (by kernel_rfl))
  f338 := Tryz.func151.trans (congrArg some (by kernel_rfl))
  t0 := Tryz.underlying0
  a0 := Tryz.isAgg0
  z0 := Tryz.sizeOf0
  v0 := Tryz.zeroValue0
  t2 := Tryz.underlying2
  a2 := Tryz.isAgg2
  z2 := Tryz.sizeOf2
  v2 := Tryz.zeroValue2
  t3 := Tryz.underlying3
  a3 := Tryz.isAgg3
  z3 := Tryz.sizeOf3
  v3 := Tryz.zeroValue3
  t4 := Tryz.underlying4
  a4 := Tryz.isAgg4
  z4 := Tryz.sizeOf4
  v4 := Tryz.zeroValue4
  t5 := Tryz.underlying5
  a5 := Tryz.isAgg5
  z5 := Tryz.sizeOf5
  v5 := Tryz.zeroValue5
  t9 := Tryz.underlying9
  a9 := Tryz.isAgg9
  z9 := Tryz.sizeOf9
  v9 := Tryz.zeroValue9
  t20 := Tryz.underlying20
  a20 := Tryz.isAgg20
  z20 := Tryz.sizeOf20
  v20 := Tryz.zeroValue20
  t21 := Tryz.underlying21
  a21 := Tryz.isAgg21
  z21 := Tryz.sizeOf21
  v21 := Tryz.zeroValue21
  t37 := Tryz.underlying33
  a37 := Tryz.isAgg33
  z37 := Tryz.sizeOf33
  v37 := Tryz.zeroValue33
  t46 := Tryz.underlying111
  a46 := Tryz.isAgg111
  z46 := Tryz.sizeOf111
  v46 := Tryz.zeroValue111
  t51 := Tryz.underlying139
  a51 := Tryz.isAgg139
  z51 := Tryz.sizeOf139
  v51 := Tryz.zeroValue139
  t53 := Tryz.underlying119
  a53 := Tryz.isAgg119
  z53 := Tryz.sizeOf119
  v53 := Tryz.zeroValue119
  t75 := Tryz.underlying97
  a75 := Tryz.isAgg97
  z75 := Tryz.sizeOf97
  v75 := Tryz.zeroValue97
  t76 := Tryz.underlying98
  a76 := Tryz.isAgg98
  z76 := Tryz.sizeOf98
  v76 := Tryz.zeroValue98
  t85 := Tryz.underlying113
  a85 := Tryz.isAgg113
  z85 := Tryz.sizeOf113
  v85 := Tryz.zeroValue113
  t127 := Tryz.underlying127
  a127 := Tryz.isAgg127
  z127 := Tryz.sizeOf127
  v127 := Tryz.zeroValue127
  t143 := Tryz.underlying128
  a143 := Tryz.isAgg128
  z143 := Tryz.sizeOf128
  v143 := Tryz.zeroValue128
  t145 := Tryz.underlying130
  a145 := Tryz.isAgg130
  z145 := Tryz.sizeOf130
  v145 := Tryz.zeroValue130
  t167 := Tryz.underlying112
  a167 := Tryz.isAgg112
  z167 := Tryz.sizeOf112
  v167 := Tryz.zeroValue112
  t168 := Tryz.underlying115
  a168 := Tryz.isAgg115
  z168 := Tryz.sizeOf115
  v168 := Tryz.zeroValue115
  t171 := Tryz.underlying131
  a171 := Tryz.isAgg131
  z171 := Tryz.sizeOf131
  v171 := Tryz.zeroValue131
  t173 := Tryz.underlying134
  a173 := Tryz.isAgg134
  z173 := Tryz.sizeOf134
  v173 := Tryz.zeroValue134
  t175 := Tryz.underlying120
  a175 := Tryz.isAgg120
  z175 := Tryz.sizeOf120
  v175 := Tryz.zeroValue120
  t210 := Tryz.underlying123
  a210 := Tryz.isAgg123
  z210 := Tryz.sizeOf123
  v210 := Tryz.zeroValue123
  t212 := Tryz.underlying138
  a212 := Tryz.isAgg138
  z212 := Tryz.sizeOf138
  v212 := Tryz.zeroValue138
  t213 := Tryz.underlying140
  a213 := Tryz.isAgg140
  z213 := Tryz.sizeOf140
  t232 := Tryz.underlying143
  a232 := Tryz.isAgg143
  z232 := Tryz.sizeOf143
  v232 := Tryz.zeroValue143
  t233 := Tryz.underlying144
  a233 := Tryz.isAgg144
  z233 := Tryz.sizeOf144
  v233 := Tryz.zeroValue144
  g15 := by kernel_rfl
  g16 := by kernel_rfl
  g17 := by kernel_rfl
  g18 := by kernel_rfl
  g19 := by kernel_rfl
  t80 := Tryz.underlying68
  a80 := Tryz.isAgg68
  z80 := Tryz.sizeOf68
  v80 := Tryz.zeroValue68
  i0 := by kernel_rfl
  i2 := by kernel_rfl
  i3 := by kernel_rfl
  i4 := by kernel_rfl
  i5 := by kernel_rfl
  i9 := by kernel_rfl
  i20 := by kernel_rfl
  i21 := by kernel_rfl
  i37 := by kernel_rfl
  i46 := by kernel_rfl
  i51 := by kernel_rfl
  i53 := by kernel_rfl
  i75 := by kernel_rfl
  i76 := by kernel_rfl
  i80 := by kernel_rfl
  i85 := by kernel_rfl
  i127 := by kernel_rfl
  i143 := by kernel_rfl
  i145 := by kernel_rfl
  i167 := by kernel_rfl
  i168 := by kernel_rfl
  i171 := by kernel_rfl
  i173 := by kernel_rfl
  i175 := by kernel_rfl
  i210 := by kernel_rfl
  i212 := by kernel_rfl
  i232 := by kernel_rfl
  i233 := by kernel_rfl
  m15 := by kernel_rfl
  m16 := by kernel_rfl
  m17 := by kernel_rfl
  m18 := by kernel_rfl
  m19 := by kernel_rfl
  c0 := by kernel_rfl
  c2 := by kernel_rfl
  c3 := by kernel_rfl
  c4 := by kernel_rfl
  c5 := by kernel_rfl
  c9 := by kernel_rfl
  c20 := by kernel_rfl
  c21 := by kernel_rfl
  c37 := by kernel_rfl
  c46 := by kernel_rfl
  c51 := by kernel_rfl
  c53 := by kernel_rfl
  c75 := by kernel_rfl
  c76 := by kernel_rfl
  c80 := by kernel_rfl
  c85 := by kernel_rfl
  c127 := by kernel_rfl
  c143 := by kernel_rfl
  c145 := by kernel_rfl
  c167 := by kernel_rfl
  c168 := by kernel_rfl
  c171 := by kernel_rfl
  c173 := by kernel_rfl
  c175 := by kernel_rfl
  c210 := by kernel_rfl
  c212 := by kernel_rfl
  c213 := by kernel_rfl
  c232 := by kernel_rfl
  c233 := by kernel_rfl }
end Go.Proofs
end
section
namespace Go.Proofs.YtpkfdjlmflmilaaGreatDoor.Q
open Go.RowKit Go.Proofs.YtpkfdjlmflmilaaGreatDoorW.PrintWords Go.Proofs.YtpkfdjlmflmilaaGreatDoorW.PrintLast Go.Proofs.YtpkfdjlmflmilaaGreatDoorW.PrintMore
set_option linter.unusedVariables false
set_option linter.unusedSimpArgs false

theorem cmp_lt : ∀ a b : List UInt8, decide (Lib.compareBytes a b < 0) = Op.bytesLess a b
  | [], [] => rfl
  | [], _ :: _ => rfl
  | _ :: _, [] => rfl
  | a :: x, b :: y => by
    unfold Lib.compareBytes Op.bytesLess
    by_cases h : a < b
    · simp [h]
    · by_cases h' : b < a
      · have hne : ¬ a = b := fun e => by subst e; exact h h'
        rw [if_neg h, if_pos h']
        simp [h, hne]
      · have e : a = b := by
          have h1 := UInt8.not_lt.1 h
          have h2 := UInt8.not_lt.1 h'
          exact UInt8.le_antisymm h2 h1
        subst e
        rw [if_neg h, if_neg h', cmp_lt x y]
        simp [h]
theorem cmp_eq0 : ∀ a b : List UInt8, (Lib.compareBytes a b == 0) = (a == b)
  | [], [] => rfl
  | [], _ :: _ => rfl
  | _ :: _, [] => rfl
  | a :: x, b :: y => by
    unfold Lib.compareBytes
    by_cases h : a < b
    · have hne : ¬ a = b := fun e => by subst e; exact UInt8.lt_irrefl a h
      rw [if_pos h]
      simp [hne]
    · by_cases h' : b < a
      · have hne : ¬ a = b := fun e => by subst e; exact h h'
        rw [if_neg h, if_pos h']
        simp [hne]
      · have e : a = b := by
          have h1 := UInt8.not_lt.1 h
          have h2 := UInt8.not_lt.1 h'
          exact UInt8.le_antisymm h2 h1
        subst e
        rw [if_neg h, if_neg h', cmp_eq0 x y]
        simp

/-- The search, as the text goes. -/
def lbF (l : List S56) (key : ByteArray) : Nat → Nat → Nat → Nat
  | 0, i, _ => i
  | k + 1, i, j => if i < j then (if Op.bytesLess (l.getD ((i + j) / 2) z56).f0.data.toList key.data.toList = true then lbF l key k ((i + j) / 2 + 1) j else lbF l key k i ((i + j) / 2)) else i
def lbN (l : List S56) (key : ByteArray) : Nat := lbF l key l.length 0 l.length
def fdB (l : List S56) (key : ByteArray) : Bool := decide (lbN l key < l.length) && ((l.getD (lbN l key) z56).f0.data.toList == key.data.toList)
theorem lbF_stop (l : List S56) (key : ByteArray) (k i j : Nat) (h : ¬ i < j) : lbF l key k i j = i := by
  cases k with
  | zero => rfl
  | succ k => simp [lbF, h]
theorem lbF_le (l : List S56) (key : ByteArray) : ∀ k i j, i ≤ j → lbF l key k i j ≤ j
  | 0, i, j, h => h
  | k + 1, i, j, h => by
    unfold lbF
    by_cases hlt : i < j
    · rw [if_pos hlt]
      split
      · exact lbF_le l key k _ _ (by omega)
      · exact Nat.le_trans (lbF_le l key k _ _ (by omega)) (by omega)
    · rw [if_neg hlt]; exact h

theorem half_wrap (i j h : Nat) (hi : i ≤ 9223372036854775807) (hj : j ≤ 9223372036854775807) (hh : (i + j) / 2 = h) : wrap64 (IntKind.u64.wrap (wrap64 ((i : Int) + (j : Int))) / 2) = (h : Int) := by
  rw [IntKind.wrap_u64]
  unfold wrap64
  omega

set_option maxHeartbeats 1000000 in
theorem pairAt1 (x : S56) (key : ByteArray) (W : World) : Calls Tryz.prog 114 #[.agg #[.string x.f0, .string x.f1], .string key] W fun e w' =>
    e = .returned (.int .i64 (Lib.compareBytes x.f0.data.toList key.data.toList)) ∧ Below W.heap.size W w' := by
  generalize x.f0 = s0
  generalize x.f1 = s1
  go_enter Tryz.func114, Tryz.ntmps114
  go_wp2_with (go_at_call 115; refine (Tryz.strings_Compare _ _ _).mono ?_; rintro e w' ⟨rfl, rfl⟩)
  go_ret
  exact ⟨rfl, (Below.refl _ _).alloc (Nat.le_refl _) _⟩

set_option maxHeartbeats 4000000 in
set_option maxRecDepth 100000 in
theorem search_calls (A0 : Option Addr) (c0 : Nat) (l0 : List S56) (a1 : ByteArray) (w : World) (hr0 : Kd.C k56 w A0 l0.length l0) :
    Calls Tryz.prog 113 #[.slice A0 l0.length c0, .string a1, .func (.func 114) #[] #[]] w fun e w' =>
      e = .returned (.tuple #[.int .i64 (lbN l0 a1 : Nat), .bool (fdB l0 a1)]) ∧ Below w.heap.size w w' := by
  have eg := enters_of Tryz.func114 (by kernel_rfl) rfl
  have hbig := hr0.2.1
  have HR := Aside0.mk hr0
  clear hr0
  have HB0 := Aside0.mk (Below.refl w.heap.size w)
  have hu := Tryz.underlying56
  have HF := Aside0.mk (show lbF l0 a1 l0.length 0 l0.length = lbN l0 a1 from rfl)
  have HLE := Aside0.mk (lbF_le l0 a1 l0.length 0 l0.length (Nat.zero_le _))
  have HFD := Aside0.mk (show fdB l0 a1 = (decide (lbN l0 a1 < l0.length) && ((l0.getD (lbN l0 a1) z56).f0.data.toList == a1.data.toList)) from rfl)
  generalize fdB l0 a1 = fd at HFD ⊢
  generalize lbN l0 a1 = res at HF HFD ⊢
  generalize hn : l0.length = n at hbig HR HF HLE HFD ⊢
  have HN := Aside0.mk hn
  clear hn
  go_enter Tryz.func113, Tryz.ntmps113
  go_wp2
  go_loopg [9, 10] n (fun gg s9 s10 wr => ∃ i j : Nat, i ≤ j ∧ j ≤ n ∧ j - i ≤ gg ∧ s9 = .int .i64 i ∧ s10 = .int .i64 j ∧ Aside0 (Below w.heap.size w wr) ∧ Aside0 (∃ f, j - i ≤ f ∧ lbF l0 a1 f i j = res))
  case atStart => exact ⟨0, n, Nat.zero_le _, Nat.le_refl _, by omega, rfl, rfl, HB0, ⟨n, by omega, HF.out⟩⟩
  case round =>
    obtain ⟨i, j, hij, hjn, hg, rfl, rfl, HB, HI⟩ := hrel
    by_cases hlt : i < j
    · have hltz : (i : Int) < (j : Int) := by omega
      obtain ⟨h, hh⟩ : ∃ h : Nat, (i + j) / 2 = h := ⟨_, rfl⟩
      have hih : i ≤ h := by omega
      have hhj : h < j := by omega
      obtain ⟨ad, hA, hx0, hx1⟩ := at_T56 HR.out (h : Int) (by omega) (by omega)
      subst hA
      simp only [Int.toNat_natCast, rd_T56] at hx0 hx1
      replace hx0 := (HB.out.cell (World.block_lt_of_cell? w _ hx0)).trans hx0
      replace hx1 := (HB.out.cell (World.block_lt_of_cell? w _ hx1)).trans hx1
      have hcall := pairAt1 (l0.getD h z56) a1
      have hc := cmp_lt (l0.getD h z56).f0.data.toList a1.data.toList
      have hstep : ∀ f, lbF l0 a1 (f + 1) i j = if Op.bytesLess (l0.getD h z56).f0.data.toList a1.data.toList = true then lbF l0 a1 f (h + 1) j else lbF l0 a1 f i h := fun f => by
        rw [lbF, if_pos hlt, hh]
      have HS := Aside0.mk hstep
      clear hstep
      generalize Op.bytesLess (l0.getD h z56).f0.data.toList a1.data.toList = b at hc HS
      generalize Lib.compareBytes (l0.getD h z56).f0.data.toList a1.data.toList = cmp at hc hcall
      generalize (l0.getD h z56).f0 = s0 at hx0 hcall
      generalize (l0.getD h z56).f1 = s1 at hx1 hcall
      have e1 : wrap64 (IntKind.u64.wrap (wrap64 ((i : Int) + (j : Int))) / 2) = (h : Int) := half_wrap i j h (by omega) (by omega) hh
      cases b with
      | true =>
        have hcm : decide (cmp < 0) = true := hc
        clear hc hh
        go_wp2_with (go_at_call 114; refine (hcall _).mono ?_; rintro e w' ⟨rfl, hb⟩)
        go_roundg (j - (h + 1))
        case measure => omega
        case rel =>
          refine ⟨h + 1, j, by omega, by omega, by omega, by go_num, by go_num, ⟨HB.out.trans (hb.mono HB.out.size)⟩, ?_⟩
          obtain ⟨f, hf, e⟩ := HI.out
          obtain ⟨f, rfl⟩ : ∃ m, f = m + 1 := ⟨f - 1, by omega⟩
          refine ⟨f, by omega, ?_⟩
          rw [HS.out f] at e
          simpa using e
      | false =>
        have hcm : decide (cmp < 0) = false := hc
        clear hc hh
        go_wp2_with (go_at_call 114; refine (hcall _).mono ?_; rintro e w' ⟨rfl, hb⟩)
        go_roundg (h - i)
        case measure => omega
        case rel =>
          refine ⟨i, h, by omega, by omega, by omega, by go_num, by go_num, ⟨HB.out.trans (hb.mono HB.out.size)⟩, ?_⟩
          obtain ⟨f, hf, e⟩ := HI.out
          obtain ⟨f, rfl⟩ : ∃ m, f = m + 1 := ⟨f - 1, by omega⟩
          refine ⟨f, by omega, ?_⟩
          rw [HS.out f] at e
          simpa using e
    · have : i = j := by omega
      subst this
      have hres : res = i := by
        obtain ⟨f, _, e⟩ := HI.out
        rw [lbF_stop l0 a1 f i i hlt] at e
        exact e.symm
      clear HI HF HLE
      subst hres
      by_cases hin : res < n
      · have hinz : (res : Int) < (n : Int) := by omega
        obtain ⟨ad, hA, hx0, hx1⟩ := at_T56 HR.out (res : Int) (by omega) (by omega)
        subst hA
        simp only [Int.toNat_natCast, rd_T56] at hx0 hx1
        replace hx0 := (HB.out.cell (World.block_lt_of_cell? w _ hx0)).trans hx0
        replace hx1 := (HB.out.cell (World.block_lt_of_cell? w _ hx1)).trans hx1
        have hcall := pairAt1 (l0.getD res z56) a1
        have hc := cmp_eq0 (l0.getD res z56).f0.data.toList a1.data.toList
        have hfd : fd = ((l0.getD res z56).f0.data.toList == a1.data.toList) := by rw [HFD.out, decide_eq_true hin, Bool.true_and]
        rw [← hc] at hfd
        clear hc HFD
        generalize Lib.compareBytes (l0.getD res z56).f0.data.toList a1.data.toList = cmp at hfd hcall
        generalize (l0.getD res z56).f0 = s0 at hx0 hcall
        generalize (l0.getD res z56).f1 = s1 at hx1 hcall
        have HFD := Aside0.mk hfd
        clear hfd
        go_wp2_with (go_at_call 114; refine (hcall _).mono ?_; rintro e w' ⟨rfl, hb⟩)
        go_ret2
        exact ⟨by rw [HFD.out]; rfl, HB.out.trans (hb.mono HB.out.size)⟩
      · have hinz : ¬ (res : Int) < (n : Int) := by omega
        have hfd : fd = false := by rw [HFD.out, decide_eq_false hin]; rfl
        clear HFD
        subst hfd
        go_wp2
        go_ret2
        exact ⟨rfl, HB.out⟩

def impl_pairAt.f (l0 : List S56) (a1 : ByteArray) : Option (Int × Bool) := some ((lbN l0 a1 : Nat), fdB l0 a1)
set_option maxHeartbeats 1000000 in
theorem impl_pairAt.calls (A0 : Option Addr) (c0 : Nat) (l0 : List S56) (a1 : ByteArray) (r1 : Int) (r2 : Bool) (w : World) (hr0 : Kd.C k56 w A0 l0.length l0) (hc0 : l0.length ≤ c0) (h : impl_pairAt.f l0 a1 = some (r1, r2)) :
    Calls Tryz.prog 98 #[.slice A0 l0.length c0, .string a1] w fun e w' => e = .returned (.tuple #[.int .i64 r1, .bool r2]) ∧ Below w.heap.size w w' := by
  have HC := search_calls A0 c0 l0 a1 w hr0
  injection h with h
  injection h with h1 h2
  rw [h1, h2] at HC
  clear h1 h2 hr0 hc0
  go_enter Tryz.func98, Tryz.ntmps98
  go_wp2_with (go_at_call 113; refine HC.mono ?_; rintro e w' ⟨rfl, hb⟩)
  go_ret2
  exact ⟨rfl, hb⟩
end Go.Proofs.YtpkfdjlmflmilaaGreatDoor.Q
end
section
namespace Go.Proofs.YtpkfdjlmflmilaaGreatDoor.Q
open Go.RowKit Go.Proofs.YtpkfdjlmflmilaaGreatDoorW.PrintWords Go.Proofs.YtpkfdjlmflmilaaGreatDoorW.PrintLast Go.Proofs.YtpkfdjlmflmilaaGreatDoorW.PrintMore
attribute [local go_sem] max2_int min2_int max_two min_two max_three min_three max_four min_four   -- for this text's walks alone
set_option linter.unusedVariables false
set_option linter.unusedSimpArgs false

/-! ### impl_get: function 80 -/
def impl_get.f (l0 : List (S56)) (a1 : ByteArray) : Option (ByteArray × Bool) := (impl_pairAt.f l0 a1).bind fun bt283 => (if bt283.2 = true then (if 0 ≤ bt283.1 then (if bt283.1 < (l0.length : Int) then (some ((rd_T56 l0 bt283.1).f1, true)) else (none)) else (none)) else (some ((⟨#[]⟩ : ByteArray), false)))
set_option maxHeartbeats 8000000 in
set_option maxRecDepth 100000 in
theorem impl_get.calls (A0 : Option Addr) (c0 : Nat) (l0 : List (S56)) (a1 : ByteArray) (r1 : ByteArray) (r2 : Bool) (w : World) (hr0 : Kd.C k56 w A0 l0.length l0) (hc0 : l0.length ≤ c0) (h : impl_get.f l0 a1 = some (r1, r2)) :
    Calls Tryz.prog 80 #[.slice A0 l0.length c0, .string a1] w fun e w' => e = .returned (.tuple #[.string r1, .bool r2]) ∧ Below w.heap.size w w' := by
  have HR0 := Aside0.mk hr0
  have HC0 := Aside0.mk hc0
  clear hr0 hc0
  have HB := Aside0.mk (Below.refl w.heap.size w)
  have H : ((impl_pairAt.f l0 a1).bind fun bt283 => (if bt283.2 = true then (if 0 ≤ bt283.1 then (if bt283.1 < (l0.length : Int) then (some ((rd_T56 l0 bt283.1).f1, true)) else (none)) else (none)) else (some ((⟨#[]⟩ : ByteArray), false)))) = some (r1, r2) := h
  clear h
  replace H := Option.bind_eq_some_iff.mp H
  obtain ⟨⟨t283, t284⟩, A30, H⟩ := H
  replace H : (if t284 = true then (if 0 ≤ t283 then (if t283 < (l0.length : Int) then (some ((rd_T56 l0 t283).f1, true)) else (none)) else (none)) else (some ((⟨#[]⟩ : ByteArray), false))) = some (r1, r2) := H
  have A3 := Aside0.mk A30
  clear A30
  by_cases c4 : t284 = true
  · subst c4
    have H1 : (if 0 ≤ t283 then (if t283 < (l0.length : Int) then (some ((rd_T56 l0 t283).f1, true)) else (none)) else (none)) = some (r1, r2) := by rw [if_pos rfl] at H; exact H
    clear H
    have H := H1
    clear H1
    by_cases c5 : 0 ≤ t283
    · rw [if_pos c5] at H
      have c5b0 : decide (0 ≤ t283) = true := decide_eq_true c5
      clear c5
      by_cases c6 : t283 < (l0.length : Int)
      · rw [if_pos c6] at H
        have c6b0 : decide (t283 < (l0.length : Int)) = true := decide_eq_true c6
        clear c6
        simp only [Option.some.injEq, Prod.mk.injEq] at H
        obtain ⟨rfl, rfl⟩ := H
        go_enter Tryz.func80, Tryz.ntmps80
        go_wp2_with (first | ((with_reducible refine gate_callee (f := 98) rfl ?_); refine goesL_ (some 11) rfl rfl Tryz.func98 (by kernel_rfl) rfl #[.slice A0 l0.length c0, .string a1] rfl (by (try simp only [List.map_toArray, List.map_cons, List.map_nil]); first | done | rfl | (simp only [List.length_drop, List.length_take]; rfl)) ?_; (with_reducible refine (impl_pairAt.calls _ _ l0 a1 t283 true _ ?side1 ?side2 A3.out).mono ?_); (case side1 => repeat (first | exact HR0.out | (with_reducible refine Kd.C_alloc ?_ _) | (with_reducible refine Kd.C_drewN ?_ _) | (with_reducible refine Kd.C_drew ?_))); (case side2 => exact HC0.out); rintro e w7 ⟨rfl, hb⟩; refine ⟨_, rfl, ?_⟩; have n0_ := Aside0.mk (below_step (by repeat (first | (with_reducible first | exact HB.out | apply below_alloc | apply pw_below_drewN | apply below_drew1) | exact HB.out)) hb); clear HB; have HB := n0_; clear n0_; (try clear hb); (try clear hb2); (try clear hk); (try clear hi); have p285 : 0 ≤ (t283 : Int) := of_decide_eq_true (by first | (with_reducible assumption) | assumption); have q285 : t283 < (l0.length : Int) := of_decide_eq_true (by first | (with_reducible assumption) | assumption); obtain ⟨ad285, e285, hx285_0, hx285_1⟩ := at_T56 HR0.out t283 p285 q285; cases e285; replace hx285_0 := (HB.out.cell (World.block_lt_of_cell? w _ hx285_0)).trans hx285_0; replace hx285_1 := (HB.out.cell (World.block_lt_of_cell? w _ hx285_1)).trans hx285_1; replace p285 := eq_true p285; replace q285 := eq_true q285))
        go_ret2
        exact ⟨by first | rfl | (simp [errW_none, errW_some] <;> rfl) | (simp [*, errW_none, errW_some] <;> rfl), by repeat (first | (with_reducible first | exact HB.out | apply below_alloc | apply pw_below_drewN | apply below_drew1) | exact HB.out)⟩
      · rw [if_neg c6] at H
        exact absurd H (by simp)
    · rw [if_neg c5] at H
      exact absurd H (by simp)
  · replace c4 := Bool.eq_false_iff.mpr c4
    subst c4
    have H1 : (some ((⟨#[]⟩ : ByteArray), false)) = some (r1, r2) := by rw [if_neg (show ¬ (false = true) by decide)] at H; exact H
    clear H
    have H := H1
    clear H1
    simp only [Option.some.injEq, Prod.mk.injEq] at H
    obtain ⟨rfl, rfl⟩ := H
    go_enter Tryz.func80, Tryz.ntmps80
    go_wp2_with (first | ((with_reducible refine gate_callee (f := 98) rfl ?_); refine goesL_ (some 11) rfl rfl Tryz.func98 (by kernel_rfl) rfl #[.slice A0 l0.length c0, .string a1] rfl (by (try simp only [List.map_toArray, List.map_cons, List.map_nil]); first | done | rfl | (simp only [List.length_drop, List.length_take]; rfl)) ?_; (with_reducible refine (impl_pairAt.calls _ _ l0 a1 t283 false _ ?side1 ?side2 A3.out).mono ?_); (case side1 => repeat (first | exact HR0.out | (with_reducible refine Kd.C_alloc ?_ _) | (with_reducible refine Kd.C_drewN ?_ _) | (with_reducible refine Kd.C_drew ?_))); (case side2 => exact HC0.out); rintro e w8 ⟨rfl, hb⟩; refine ⟨_, rfl, ?_⟩; have n0_ := Aside0.mk (below_step (by repeat (first | (with_reducible first | exact HB.out | apply below_alloc | apply pw_below_drewN | apply below_drew1) | exact HB.out)) hb); clear HB; have HB := n0_; clear n0_; (try clear hb); (try clear hb2); (try clear hk); (try clear hi)))
    go_ret2
    exact ⟨by first | rfl | (simp [errW_none, errW_some] <;> rfl) | (simp [*, errW_none, errW_some] <;> rfl), by repeat (first | (with_reducible first | exact HB.out | apply below_alloc | apply pw_below_drewN | apply below_drew1) | exact HB.out)⟩




























/-! ### impl_isAmount: function 100 -/
def impl_isAmount.f (a0 : Int) : Option (Bool) := (impl_within.f a0 0 1000000000000000000).bind fun t286 => (some t286)
set_option maxHeartbeats 8000000 in
set_option maxRecDepth 100000 in
theorem impl_isAmount.calls (a0 : Int) (r : Bool) (w : World) (h : impl_isAmount.f a0 = some r) :
    Calls Tryz.prog 100 #[.int .i64 a0] w fun e w' => e = .returned (.bool r) ∧ Drawn0 w w' := by
  have H : ((impl_within.f a0 0 1000000000000000000).bind fun t286 => (some t286)) = some r := h
  clear h
  replace H := Option.bind_eq_some_iff.mp H
  obtain ⟨t286, A20, H⟩ := H
  replace H : (some t286) = some r := H
  have A2 := Aside0.mk A20
  clear A20
  obtain rfl := Option.some.inj H
  go_enter Tryz.func100, Tryz.ntmps100
  go_wp2_with (first | ((with_reducible refine gate_callee (f := 84) rfl ?_); refine goesL_ (some 4) rfl rfl Tryz.func84 (by kernel_rfl) rfl #[.int .i64 a0, .int .i64 0, .int .i64 1000000000000000000] rfl (by (try simp only [List.map_toArray, List.map_cons, List.map_nil]); first | done | rfl | (simp only [List.length_drop, List.length_take]; rfl)) ?_; (with_reducible refine (impl_within.calls a0 0 1000000000000000000 t286 _ A2.out).mono ?_); rintro e w' ⟨rfl, ⟨nd, rfl⟩⟩; refine ⟨_, rfl, ?_⟩))
  go_ret
  exact ⟨by first | rfl | (simp; done) | (simp [*]; done), by repeat (first | exact Drawn0.refl _ | apply Drawn0.step)⟩

end Go.Proofs.YtpkfdjlmflmilaaGreatDoor.Q
end
section
namespace Go.Proofs.YtpkfdjlmflmilaaGreatDoor.Q
open Go.RowKit Go.Proofs.YtpkfdjlmflmilaaGreatDoorW.PrintWords Go.Proofs.YtpkfdjlmflmilaaGreatDoorW.PrintLast Go.Proofs.YtpkfdjlmflmilaaGreatDoorW.PrintMore
theorem below_grow (w : World) (k : Nat) (os : Array Obj) : Below w.heap.size w (Go.Sort.grow (w.drewN k) os) := by
  refine (pw_below_drewN (Below.refl w.heap.size w) k).trans ⟨rfl, rfl, rfl, ?_, fun j hj => ?_⟩
  · show (w.drewN k).heap.size ≤ ((w.drewN k).heap ++ os).size
    rw [Array.size_append]
    omega
  · have h := (pw_below_drewN (Below.refl w.heap.size w) k).size
    show ((w.drewN k).heap ++ os)[j]? = (w.drewN k).heap[j]?
    exact Array.getElem?_append_left (by omega)
def strconv_Itoa.f (n : Int) : Option ByteArray := if -9223372036854775808 ≤ n ∧ n ≤ 9223372036854775807 then some ⟨(Lib.itoa n).toArray⟩ else none
theorem strconv_Itoa.calls (a0 : Int) (r : ByteArray) (w : World) (htab : Tb.TB w) (h : strconv_Itoa.f a0 = some r) :
    Calls Tryz.prog 118 #[.int .i64 a0] w fun e w' => e = .returned (.string r) ∧ Below w.heap.size w w' := by
  unfold strconv_Itoa.f at h
  split at h
  · rename_i hn
    injection h with h
    subst h
    refine (Tryz.strconv_Itoa a0 hn.1 hn.2 w htab.1).mono ?_
    rintro e w' ⟨rfl, k, os, rfl⟩
    exact ⟨rfl, below_grow w k os⟩
  · cases h
end Go.Proofs.YtpkfdjlmflmilaaGreatDoor.Q
end
section
namespace Go.Proofs.YtpkfdjlmflmilaaGreatDoor.Q
open Go.RowKit Go.Proofs.YtpkfdjlmflmilaaGreatDoorW.PrintWords Go.Proofs.YtpkfdjlmflmilaaGreatDoorW.PrintLast Go.Proofs.YtpkfdjlmflmilaaGreatDoorW.PrintMore
attribute [local go_sem] max2_int min2_int max_two min_two max_three min_three max_four min_four   -- for this text's walks alone
set_option linter.unusedVariables false
set_option linter.unusedSimpArgs false

/-! ### impl_amountText: function 101 -/
def impl_amountText.f (a0 : Int) : Option (ByteArray) := (strconv_Itoa.f a0).bind fun t287 => (some t287)
set_option maxHeartbeats 8000000 in
set_option maxRecDepth 100000 in
theorem impl_amountText.calls (a0 : Int) (r : ByteArray) (w : World) (htab : Tb.TB w) (h : impl_amountText.f a0 = some r) :
    Calls Tryz.prog 101 #[.int .i64 a0] w fun e w' => e = .returned (.string r) ∧ Below w.heap.size w w' := by
  have HT := Aside0.mk htab
  clear htab
  have HB := Aside0.mk (Below.refl w.heap.size w)
  have H : ((strconv_Itoa.f a0).bind fun t287 => (some t287)) = some r := h
  clear h
  replace H := Option.bind_eq_some_iff.mp H
  obtain ⟨t287, A20, H⟩ := H
  replace H : (some t287) = some r := H
  have A2 := Aside0.mk A20
  clear A20
  obtain rfl := Option.some.inj H
  go_enter Tryz.func101, Tryz.ntmps101
  go_wp2_with (first | ((with_reducible refine gate_callee (f := 118) rfl ?_); refine goesL_ (some 4) rfl rfl Tryz.func118 (by kernel_rfl) rfl #[.int .i64 a0] rfl (by (try simp only [List.map_toArray, List.map_cons, List.map_nil]); first | done | rfl | (simp only [List.length_drop, List.length_take]; rfl)) ?_; (with_reducible refine (strconv_Itoa.calls a0 t287 _ ?tb1 A2.out).mono ?_); (case tb1 => exact Tb.TB.below HT.out (by repeat (first | (with_reducible first | exact HB.out | apply below_alloc | apply pw_below_drewN | apply below_drew1) | exact HB.out)) (Nat.le_refl _)); rintro e w3 ⟨rfl, hb⟩; refine ⟨_, rfl, ?_⟩; have n0_ := Aside0.mk (below_step (by repeat (first | (with_reducible first | exact HB.out | apply below_alloc | apply pw_below_drewN | apply below_drew1) | exact HB.out)) hb); clear HB; have HB := n0_; clear n0_; (try clear hb); (try clear hb2); (try clear hk); (try clear hi)))
  go_ret
  exact ⟨by first | rfl | (simp [errW_none, errW_some] <;> rfl) | (simp [*, errW_none, errW_some] <;> rfl), by repeat (first | (with_reducible first | exact HB.out | apply below_alloc | apply pw_below_drewN | apply below_drew1) | exact HB.out)⟩


end Go.Proofs.YtpkfdjlmflmilaaGreatDoor.Q
end
section
namespace Go.Proofs.YtpkfdjlmflmilaaGreatDoor.Q
open Go.RowKit Go.Proofs.YtpkfdjlmflmilaaGreatDoorW.PrintWords Go.Proofs.YtpkfdjlmflmilaaGreatDoorW.PrintLast Go.Proofs.YtpkfdjlmflmilaaGreatDoorW.PrintMore
set_option linter.unusedVariables false
set_option linter.unusedSimpArgs false
def itoaT (v : Int) : ByteArray := ⟨(Lib.itoa v).toArray⟩
/-- What is read: a number and whether it is one. -/
def raT (t : ByteArray) : Int × Bool :=
  match Lib.atoiAll t.data.toList with
  | .ok v => if (0 ≤ v ∧ v ≤ 1000000000000000000) ∧ itoaT v = t then (v, true) else (0, false)
  | _ => (0, false)
def impl_readAmount.f (t : ByteArray) : Option (Int × Bool) := if t.size ≤ 140737488355328 then some (raT t) else none
theorem ra_inj {a b : ByteArray} (h : a.toList = b.toList) : a = b := Go.WideShapes.bytes_inj (by rw [← Lib.toList_data, ← Lib.toList_data]; exact h)
theorem ra_ne (a b : ByteArray) : (a.toList != b.toList) = !decide (a = b) := by
  rw [Bool.eq_iff_iff]
  simp only [bne_iff_ne, ne_eq, Bool.not_eq_true', decide_eq_false_iff_not]
  exact ⟨fun h e => h (by rw [e]), fun h e => h (ra_inj e)⟩
set_option maxHeartbeats 4000000 in
set_option maxRecDepth 100000 in
theorem impl_readAmount.calls (a0 : ByteArray) (r1 : Int) (r2 : Bool) (w : World) (htab : Tb.TB w) (h : impl_readAmount.f a0 = some (r1, r2)) :
    Calls Tryz.prog 81 #[.string a0] w fun e w' => e = .returned (.tuple #[.int .i64 r1, .bool r2]) ∧ Below w.heap.size w w' := by
  unfold impl_readAmount.f at h
  split at h
  case isFalse => cases h
  case isTrue hs =>
  injection h with h
  obtain ⟨hpow, ⟨tr, pr, hER⟩, ts, ps, hES⟩ := id htab
  unfold raT at h
  rcases hx : Lib.atoiAll a0.data.toList with v | _ | _
  · have hat : Calls Tryz.prog 99 #[.string a0] w fun e w' => e = .returned (.tuple #[.int .i64 v, .nilIface]) ∧ Below w.heap.size w w' := by
      have h0 : Calls Tryz.prog 99 #[.string a0] w fun e w' => e = .returned (.tuple #[.int .i64 v, .nilIface]) ∧ (w' = w ∨ ∃ t, w' = Lib.bytesWorld w 5 t) := Any.strconv_Atoi_ok Tryz.laysC172 a0 (by omega) v hx w
      refine h0.mono ?_
      rintro e w' ⟨rfl, rfl | ⟨t, rfl⟩⟩
      · exact ⟨rfl, Below.refl _ _⟩
      · refine ⟨rfl, ?_⟩
        exact ⟨by simp [Lib.bytesWorld, World.freeze, World.alloc, World.drew, -World.alloc_eq, -World.drew_eq], by simp [Lib.bytesWorld, World.freeze, World.alloc, World.drew, -World.alloc_eq, -World.drew_eq], by simp [Lib.bytesWorld, World.freeze, World.alloc, World.drew, -World.alloc_eq, -World.drew_eq], by rw [Lib.bytesWorld_size]; omega, fun k hk => Lib.bytesWorld_at_old w 5 t k hk⟩
    obtain ⟨vb0, vb1⟩ := Lib.atoiAll_bounds hx
    rw [hx] at h
    replace h : (if (0 ≤ v ∧ v ≤ 1000000000000000000) ∧ itoaT v = a0 then (v, true) else (0, false)) = (r1, r2) := h
    have HA := Aside0.mk hat
    have HTB := Aside0.mk htab
    clear hat hx hpow hER hES htab hs
    by_cases hb : 0 ≤ v ∧ v ≤ 1000000000000000000
    · have HI := Aside0.mk (fun W => impl_isAmount.calls v true W (by unfold impl_isAmount.f impl_within.f; rw [if_pos (show v ≥ 0 from hb.1), decide_eq_true hb.2]; rfl))
      have HT := Aside0.mk (fun W ht => impl_amountText.calls v (itoaT v) W ht (by unfold impl_amountText.f strconv_Itoa.f; rw [if_pos (by omega)]; rfl))
      replace h : (if itoaT v = a0 then (v, true) else (0, false)) = (r1, r2) := by
        by_cases he : itoaT v = a0
        · rw [if_pos ⟨hb, he⟩] at h
          rw [if_pos he]
          exact h
        · rw [if_neg (fun h1 => he h1.2)] at h
          rw [if_neg he]
          exact h
      clear vb0 vb1 hb
      generalize itoaT v = u at h HT
      have hc := ra_ne u a0
      by_cases he : u = a0
      · rw [if_pos he] at h
        injection h with e1 e2
        subst e1
        subst e2
        rw [decide_eq_true he] at hc
        replace hc : (u.toList != a0.toList) = false := hc
        have hc0 : (u.toList == a0.toList) = true := by rw [he]; exact beq_self_eq_true _
        clear he
        go_enter Tryz.func81, Tryz.ntmps81
        go_wp2_with (first
          | (go_at_call 99; refine HA.out.mono ?_; rintro e w1 ⟨rfl, hb1⟩; have HB1 := Aside0.mk hb1; clear hb1)
          | (go_at_call 100; refine (HI.out _).mono ?_; rintro e w2 ⟨rfl, hd2⟩; have HD2 := Aside0.mk hd2; clear hd2)
          | (go_at_call 101; refine (HT.out _ (Tb.TB.below (Tb.TB.below HTB.out HB1.out (Nat.le_refl _)) HD2.out.below (Nat.le_refl _))).mono ?_; rintro e w3 ⟨rfl, hb3⟩; have HB3 := Aside0.mk hb3; clear hb3))
        go_ret2
        exact ⟨rfl, below_step (below_step HB1.out HD2.out.below) HB3.out⟩
      · rw [if_neg he] at h
        injection h with e1 e2
        subst e1
        subst e2
        rw [decide_eq_false he] at hc
        replace hc : (u.toList != a0.toList) = true := hc
        have hc0 : (u.toList == a0.toList) = false := by rw [beq_eq_false_iff_ne]; exact fun e => he (ra_inj e)
        clear he
        go_enter Tryz.func81, Tryz.ntmps81
        go_wp2_with (first
          | (go_at_call 99; refine HA.out.mono ?_; rintro e w1 ⟨rfl, hb1⟩; have HB1 := Aside0.mk hb1; clear hb1)
          | (go_at_call 100; refine (HI.out _).mono ?_; rintro e w2 ⟨rfl, hd2⟩; have HD2 := Aside0.mk hd2; clear hd2)
          | (go_at_call 101; refine (HT.out _ (Tb.TB.below (Tb.TB.below HTB.out HB1.out (Nat.le_refl _)) HD2.out.below (Nat.le_refl _))).mono ?_; rintro e w3 ⟨rfl, hb3⟩; have HB3 := Aside0.mk hb3; clear hb3))
        go_ret2
        exact ⟨rfl, below_step (below_step HB1.out HD2.out.below) HB3.out⟩
    · have HI := Aside0.mk (fun W => impl_isAmount.calls v false W (by
        unfold impl_isAmount.f impl_within.f
        by_cases h0 : v ≥ 0
        · rw [if_pos h0, decide_eq_false (fun h1 => hb ⟨h0, h1⟩)]; rfl
        · rw [if_neg h0]; rfl))
      rw [if_neg (fun h1 => hb h1.1)] at h
      injection h with e1 e2
      subst e1
      subst e2
      clear vb0 vb1 hb
      go_enter Tryz.func81, Tryz.ntmps81
      go_wp2_with (first
        | (go_at_call 99; refine HA.out.mono ?_; rintro e w1 ⟨rfl, hb1⟩; have HB1 := Aside0.mk hb1; clear hb1)
        | (go_at_call 100; refine (HI.out _).mono ?_; rintro e w2 ⟨rfl, hd2⟩; have HD2 := Aside0.mk hd2; clear hd2))
      go_ret2
      exact ⟨rfl, below_step HB1.out HD2.out.below⟩
  · have HA := Aside0.mk (show Calls Tryz.prog 99 #[.string a0] w fun e w' => ∃ N, e = .returned (.tuple #[.int .i64 0, .iface 115 (.pointer (some ⟨N, 0, none⟩))]) ∧ Below w.heap.size w w' from
      (Any.strconv_Atoi_syntax_var Tryz.laysC172 a0 (by omega) hx ts ps w hES).mono fun e w' ⟨N, he, _, _, hb⟩ => ⟨N, he, hb⟩)
    rw [hx] at h
    injection h with e1 e2
    subst e1
    subst e2
    clear hx hpow hER hES htab hs
    go_enter Tryz.func81, Tryz.ntmps81
    go_wp2_with (go_at_call 99; refine HA.out.mono ?_; rintro e w1 ⟨N1, rfl, hb1⟩; have HB1 := Aside0.mk hb1; clear hb1)
    go_ret2
    exact ⟨rfl, HB1.out⟩
  · have HA := Aside0.mk (show Calls Tryz.prog 99 #[.string a0] w fun e w' => ∃ N, e = .returned (.tuple #[.int .i64 (Lib.atoiSat a0.data.toList), .iface 115 (.pointer (some ⟨N, 0, none⟩))]) ∧ Below w.heap.size w w' from
      (Any.strconv_Atoi_range_var Tryz.laysC172 a0 (by omega) hx tr pr w hER).mono fun e w' ⟨N, he, _, _, hb⟩ => ⟨N, he, hb⟩)
    rw [hx] at h
    injection h with e1 e2
    subst e1
    subst e2
    generalize Lib.atoiSat a0.data.toList = sat at HA
    clear hx hpow hER hES htab hs
    go_enter Tryz.func81, Tryz.ntmps81
    go_wp2_with (go_at_call 99; refine HA.out.mono ?_; rintro e w1 ⟨N1, rfl, hb1⟩; have HB1 := Aside0.mk hb1; clear hb1)
    go_ret2
    exact ⟨rfl, HB1.out⟩
end Go.Proofs.YtpkfdjlmflmilaaGreatDoor.Q
end
section
namespace Go.Proofs.YtpkfdjlmflmilaaGreatDoor.Q
open Go.RowKit Go.Proofs.YtpkfdjlmflmilaaGreatDoorW.PrintWords Go.Proofs.YtpkfdjlmflmilaaGreatDoorW.PrintLast Go.Proofs.YtpkfdjlmflmilaaGreatDoorW.PrintMore
attribute [local go_sem] max2_int min2_int max_two min_two max_three min_three max_four min_four   -- for this text's walks alone
set_option linter.unusedVariables false
set_option linter.unusedSimpArgs false

/-! ### impl_amountAt: function 49 -/
def impl_amountAt.f (l0 : List (S56)) (a1 : ByteArray) : Option (Int) := (impl_get.f l0 a1).bind fun bt288 => ((impl_readAmount.f bt288.1).bind fun bt290 => (some bt290.1))
set_option maxHeartbeats 8000000 in
set_option maxRecDepth 100000 in
theorem impl_amountAt.calls (A0 : Option Addr) (c0 : Nat) (l0 : List (S56)) (a1 : ByteArray) (r : Int) (w : World) (hr0 : Kd.C k56 w A0 l0.length l0) (hc0 : l0.length ≤ c0) (htab : Tb.TB w) (h : impl_amountAt.f l0 a1 = some r) :
    Calls Tryz.prog 49 #[.slice A0 l0.length c0, .string a1] w fun e w' => e = .returned (.int .i64 r) ∧ Below w.heap.size w w' := by
  have HT := Aside0.mk htab
  clear htab
  have HR0 := Aside0.mk hr0
  have HC0 := Aside0.mk hc0
  clear hr0 hc0
  have HB := Aside0.mk (Below.refl w.heap.size w)
  have H : ((impl_get.f l0 a1).bind fun bt288 => ((impl_readAmount.f bt288.1).bind fun bt290 => (some bt290.1))) = some r := h
  clear h
  replace H := Option.bind_eq_some_iff.mp H
  obtain ⟨⟨t288, t289⟩, A30, H⟩ := H
  replace H : ((impl_readAmount.f t288).bind fun bt290 => (some bt290.1)) = some r := H
  have A3 := Aside0.mk A30
  clear A30
  replace H := Option.bind_eq_some_iff.mp H
  obtain ⟨⟨t290, t291⟩, A40, H⟩ := H
  replace H : (some t290) = some r := H
  have A4 := Aside0.mk A40
  clear A40
  obtain rfl := Option.some.inj H
  go_enter Tryz.func49, Tryz.ntmps49
  go_wp2_with (first | ((with_reducible refine gate_callee (f := 80) rfl ?_); refine goesL_ (some 12) rfl rfl Tryz.func80 (by kernel_rfl) rfl #[.slice A0 l0.length c0, .string a1] rfl (by (try simp only [List.map_toArray, List.map_cons, List.map_nil]); first | done | rfl | (simp only [List.length_drop, List.length_take]; rfl)) ?_; (with_reducible refine (impl_get.calls _ _ l0 a1 t288 t289 _ ?side1 ?side2 A3.out).mono ?_); (case side1 => repeat (first | exact HR0.out | (with_reducible refine Kd.C_alloc ?_ _) | (with_reducible refine Kd.C_drewN ?_ _) | (with_reducible refine Kd.C_drew ?_))); (case side2 => exact HC0.out); rintro e w5 ⟨rfl, hb⟩; refine ⟨_, rfl, ?_⟩; have n0_ := Aside0.mk (below_step (by repeat (first | (with_reducible first | exact HB.out | apply below_alloc | apply pw_below_drewN | apply below_drew1) | exact HB.out)) hb); clear HB; have HB := n0_; clear n0_; (try clear hb); (try clear hb2); (try clear hk); (try clear hi)) | ((with_reducible refine gate_callee (f := 81) rfl ?_); refine goesL_ (some 17) rfl rfl Tryz.func81 (by kernel_rfl) rfl #[.string t288] rfl (by (try simp only [List.map_toArray, List.map_cons, List.map_nil]); first | done | rfl | (simp only [List.length_drop, List.length_take]; rfl)) ?_; (with_reducible refine (impl_readAmount.calls t288 t290 t291 _ ?tb1 A4.out).mono ?_); (case tb1 => exact Tb.TB.below HT.out (by repeat (first | (with_reducible first | exact HB.out | apply below_alloc | apply pw_below_drewN | apply below_drew1) | exact HB.out)) (Nat.le_refl _)); rintro e w6 ⟨rfl, hb⟩; refine ⟨_, rfl, ?_⟩; have n0_ := Aside0.mk (below_step (by repeat (first | (with_reducible first | exact HB.out | apply below_alloc | apply pw_below_drewN | apply below_drew1) | exact HB.out)) hb); clear HB; have HB := n0_; clear n0_; (try clear hb); (try clear hb2); (try clear hk); (try clear hi)))
  go_ret
  exact ⟨by first | rfl | (simp [errW_none, errW_some] <;> rfl) | (simp [*, errW_none, errW_some] <;> rfl), by repeat (first | (with_reducible first | exact HB.out | apply below_alloc | apply pw_below_drewN | apply below_drew1) | exact HB.out)⟩

/-! ### impl_SubAmount: function 89 -/
def impl_SubAmount.j0 : Nat → Int → Int → Bool → Option (Int × Int)
  | 0, _, _, _ => none
  | k + 1, x0, x1, x6 => if x6 = true then (some (0, 4)) else (if x0 < x1 then (some (0, 12)) else (some (wrap64 (x0 - x1), 0)))
def impl_SubAmount.f (k : Nat) (a0 : Int) (a1 : Int) : Option (Int × Int) := (impl_isAmount.f a0).bind fun t292 => (if t292 = true then ((impl_isAmount.f a1).bind fun t293 => (impl_SubAmount.j0 k a0 a1 (!t293))) else (impl_SubAmount.j0 k a0 a1 true))
set_option maxHeartbeats 8000000 in
set_option maxRecDepth 100000 in
theorem impl_SubAmount.calls (k : Nat) (a0 : Int) (a1 : Int) (r1 : Int) (r2 : Int) (w : World) (h : impl_SubAmount.f k a0 a1 = some (r1, r2)) :
    Calls Tryz.prog 89 #[.int .i64 a0, .int .i64 a1] w fun e w' => e = .returned (.tuple #[.int .i64 r1, .int .i64 r2]) ∧ Drawn0 w w' := by
  have H : ((impl_isAmount.f a0).bind fun t292 => (if t292 = true then ((impl_isAmount.f a1).bind fun t293 => (impl_SubAmount.j0 k a0 a1 (!t293))) else (impl_SubAmount.j0 k a0 a1 true))) = some (r1, r2) := h
  clear h
  have HC3 := Aside0.mk H
  clear H
  go_enter Tryz.func89, Tryz.ntmps89
  go_upto_region 1 with (fail)
  go_cut [6] (fun v6 wc => ∃ (kq : Nat) (x6_2 : Bool), v6 = .bool x6_2 ∧ Aside0 (impl_SubAmount.j0 kq a0 a1 x6_2 = some (r1, r2)) ∧ Aside0 (kq ≤ k) ∧ Drawn0 w wc)
  case first =>
    have H := HC3.out
    clear HC3
    replace H := Option.bind_eq_some_iff.mp H
    obtain ⟨t292, A40, H⟩ := H
    replace H : (if t292 = true then ((impl_isAmount.f a1).bind fun t293 => (impl_SubAmount.j0 k a0 a1 (!t293))) else (impl_SubAmount.j0 k a0 a1 true)) = some (r1, r2) := H
    have A4 := Aside0.mk A40
    clear A40
    by_cases c5 : t292 = true
    · subst c5
      have H1 : ((impl_isAmount.f a1).bind fun t293 => (impl_SubAmount.j0 k a0 a1 (!t293))) = some (r1, r2) := by rw [if_pos rfl] at H; exact H
      clear H
      have H := H1
      clear H1
      replace H := Option.bind_eq_some_iff.mp H
      obtain ⟨t293, A60, H⟩ := H
      replace H : (impl_SubAmount.j0 k a0 a1 (!t293)) = some (r1, r2) := H
      have A6 := Aside0.mk A60
      clear A60
      have H' := Aside0.mk H
      clear H
      go_wp2_with (first | ((with_reducible refine gate_callee (f := 100) rfl ?_); refine goesL_ (some 8) rfl rfl Tryz.func100 (by kernel_rfl) rfl #[.int .i64 a0] rfl (by (try simp only [List.map_toArray, List.map_cons, List.map_nil]); first | done | rfl | (simp only [List.length_drop, List.length_take]; rfl)) ?_; (with_reducible refine (impl_isAmount.calls a0 true _ A4.out).mono ?_); rintro e w' ⟨rfl, ⟨nd, rfl⟩⟩; refine ⟨_, rfl, ?_⟩) | (go_at_call 100; (with_reducible refine (impl_isAmount.calls a1 t293 _ A6.out).mono ?_); rintro e w' ⟨rfl, ⟨nd, rfl⟩⟩))
      go_meet
      case rel => exact ⟨_, (!t293), (by first | rfl | (simp; done) | (simp [*]; done)), H', ⟨by first | omega | exact Nat.le_refl _⟩, by repeat (first | exact Drawn0.refl _ | apply Drawn0.step)⟩
    · replace c5 := Bool.eq_false_iff.mpr c5
      subst c5
      have H1 : (impl_SubAmount.j0 k a0 a1 true) = some (r1, r2) := by rw [if_neg (show ¬ (false = true) by decide)] at H; exact H
      clear H
      have H := H1
      clear H1
      have H' := Aside0.mk H
      clear H
      go_wp2_with (first | ((with_reducible refine gate_callee (f := 100) rfl ?_); refine goesL_ (some 8) rfl rfl Tryz.func100 (by kernel_rfl) rfl #[.int .i64 a0] rfl (by (try simp only [List.map_toArray, List.map_cons, List.map_nil]); first | done | rfl | (simp only [List.length_drop, List.length_take]; rfl)) ?_; (with_reducible refine (impl_isAmount.calls a0 false _ A4.out).mono ?_); rintro e w' ⟨rfl, ⟨nd, rfl⟩⟩; refine ⟨_, rfl, ?_⟩))
      go_meet
      case rel => exact ⟨_, (true), (by first | rfl | (simp; done) | (simp [*]; done)), H', ⟨by first | omega | exact Nat.le_refl _⟩, by repeat (first | exact Drawn0.refl _ | apply Drawn0.step)⟩
  case rest =>
    clear HC3
    try clear c1
    try clear p2
    try clear c5
    obtain ⟨kq, x6_2, rfl, HA, HJ2, ⟨mc2, rfl⟩⟩ := hcut
    cases kq with
    | zero => exact absurd HA.out (by simp [impl_SubAmount.j0])
    | succ kj2 =>
      have H := HA.out
      clear HA
      simp only [impl_SubAmount.j0] at H
      by_cases c7 : x6_2 = true
      · subst c7
        have H1 : (some (0, 4)) = some (r1, r2) := by rw [if_pos rfl] at H; exact H
        clear H
        have H := H1
        clear H1
        simp only [Option.some.injEq, Prod.mk.injEq] at H
        obtain ⟨rfl, rfl⟩ := H
        go_wp2
        go_ret2
        exact ⟨by first | rfl | (simp; done) | (simp [*]; done), by repeat (first | exact Drawn0.refl _ | apply Drawn0.step)⟩
      · replace c7 := Bool.eq_false_iff.mpr c7
        subst c7
        have H1 : (if a0 < a1 then (some (0, 12)) else (some (wrap64 (a0 - a1), 0))) = some (r1, r2) := by rw [if_neg (show ¬ (false = true) by decide)] at H; exact H
        clear H
        have H := H1
        clear H1
        by_cases c8 : a0 < a1
        · rw [if_pos c8] at H
          have c8b0 : decide (a0 < a1) = true := decide_eq_true c8
          clear c8
          simp only [Option.some.injEq, Prod.mk.injEq] at H
          obtain ⟨rfl, rfl⟩ := H
          go_wp2
          go_ret2
          exact ⟨by first | rfl | (simp; done) | (simp [*]; done), by repeat (first | exact Drawn0.refl _ | apply Drawn0.step)⟩
        · rw [if_neg c8] at H
          have c8b0 : decide (a0 < a1) = false := decide_eq_false c8
          clear c8
          simp only [Option.some.injEq, Prod.mk.injEq] at H
          obtain ⟨rfl, rfl⟩ := H
          go_wp2
          go_ret2
          exact ⟨by first | rfl | (simp; done) | (simp [*]; done), by repeat (first | exact Drawn0.refl _ | apply Drawn0.step)⟩










end Go.Proofs.YtpkfdjlmflmilaaGreatDoor.Q
end
section
namespace Go.Proofs.YtpkfdjlmflmilaaGreatDoor.Q
open Go.RowKit Go.Proofs.YtpkfdjlmflmilaaGreatDoorW.PrintWords Go.Proofs.YtpkfdjlmflmilaaGreatDoorW.PrintLast Go.Proofs.YtpkfdjlmflmilaaGreatDoorW.PrintMore
set_option linter.unusedVariables false
set_option linter.unusedSimpArgs false
section
variable {P : Program}
/-- copy, the elements of sz cells each. -/
theorem run_copy_sz (w : World) (dT sT ty elem : TypeId) (sz g o dLen dCap : Nat) (a : Addr) (sLen sCap m : Nat) (cur : Array Value) (t : TypeId) (cs : List Value)
    (hu : P.underlying dT = some (.slice elem)) (hs : (P.info? elem).map (·.size) = some sz)
    (hg : w.heap[g]? = some (.cells cur t (0, 0))) (hm : Nat.min sLen dLen = m) (hn : cs.length = m * sz)
    (hsrc : ∀ j v, cs[j]? = some v → w.cell? (a.add j) = some v) (hfit : o + cs.length ≤ cur.size) (h1 : ∀ v ∈ cs, v.oneCell' = true) :
    (Builtin.copy_ #[dT, sT] ty #[.slice (some ⟨g, o, none⟩) dLen dCap, .slice (some a) sLen sCap]).run P w =
      .ok (goInt m) (w.setRow g (cur.toList.take o ++ cs ++ cur.toList.drop (o + cs.length)).toArray) := by
  subst hm
  have hl := run_loadCells_list (P := P) w a cs hsrc
  have hst := run_storeCells_at P g o t cs 0 cur w hg (by simpa using hfit) h1
  cases hq : P.info? elem with
  | none => simp [hq] at hs
  | some i =>
    have hi : i.size = sz := by simpa [hq] using hs
    rw [hn] at hl
    simp [Builtin.copy_, run_underlying hu, Builtin.lenOf, Builtin.firstCells, sizeOf, typeInfo, hq, hi, hl, hst]
/-- clear of one element. -/
theorem run_clear_one (w : World) (t e ty : TypeId) (z : Value) (ht : P.underlying t = some (.slice e)) (hv : ∀ w, (zeroValue e).run P w = .ok z w) (zs : List Value) (hz : (Builtin.zeroCells z.cells 1).toList = zs) (h1 : ∀ v ∈ zs, v.oneCell' = true)
    (g o c : Nat) (cur : Array Value) (q : TypeId) (hg : w.heap[g]? = some (.cells cur q (0, 0))) (hfit : o + zs.length ≤ cur.size) :
    (Builtin.clear_ #[t] ty #[.slice (some ⟨g, o, none⟩) 1 c]).run P w = .ok (.tuple #[]) (w.setRow g (cur.toList.take o ++ zs ++ cur.toList.drop (o + zs.length)).toArray) := by
  have hst := run_storeCells_at P g o q zs 0 cur w hg (by simpa using hfit) h1
  simp [Builtin.clear_, run_underlying ht, hv, hz, hst]
variable {ops : Array Oper} {rest : List Oper} {o : Oper} {a : Act} {Q : Exit → Act → World → Prop}
theorem step_builtin_run {w : World} {K : Act → World → Prop} {E : Prop} (b : Builtin) (args : Array Operand) (tys : Array TypeId) (hgd : o.guard = none) (ho : o.op = .call { callee := .builtin b, args := args, argTypes := tys }) (vs : Array Value) (hvs : args.map a.eval = vs)
    {v' : Value} {w' : World} (hr : ∀ q : Array Bool, (builtin b tys o.type q vs).run P w = .ok (.value v') w') (hK : K (a.put o.dst v') w') :
    if Region.wanted o (yielded ops a.tmps) = true then Oper.wp P o a w K Q else E := by
  have hw : Region.wanted o (yielded ops a.tmps) = true := by simp [Region.wanted, hgd]
  rw [if_pos hw]
  unfold Oper.wp execOp
  simp only [ho, resolve, invoke, Sem.run_bind, Sem.run_pure, Result.andThen_ok, hvs, hr]
  exact hK
end
theorem heap_setRow_ne (w : World) (g k : Nat) (cs : Array Value) (h : k ≠ g) : (w.setRow g cs).heap[k]? = w.heap[k]? := by
  unfold World.setRow
  simp only [Array.getElem?_modify]
  rw [if_neg (fun e => h e.symm)]
theorem below_setRow {B : Nat} {w W : World} (h : Below B w W) (g : Nat) (cs : Array Value) (hg : B ≤ g) : Below B w (W.setRow g cs) :=
  h.trans ⟨rfl, rfl, rfl, by simp [World.setRow], fun k hk => heap_setRow_ne W g k cs (by omega)⟩
/-! Rows of elements, cut and joined. -/
theorem reps_take {α : Type} {R : α → List Value → Prop} {s : Nat} {ps : List α} {cs : List Value} (h : Reps R s ps cs) (k : Nat) (hk : k ≤ ps.length) : Reps R s (ps.take k) (cs.take (k * s)) := by
  have hks : k * s ≤ ps.length * s := Nat.mul_le_mul_right _ hk
  refine ⟨by rw [List.length_take, List.length_take, h.1, Nat.min_eq_left hk, Nat.min_eq_left hks], fun j p hj => ?_⟩
  rw [List.getElem?_take] at hj
  split at hj
  · rename_i hlt
    have := h.2 j p hj
    have hj2 : j * s + s ≤ k * s := by rw [← Nat.succ_mul]; exact Nat.mul_le_mul_right _ hlt
    rw [List.drop_take, List.take_take, Nat.min_eq_left (by omega)]
    exact this
  · cases hj
theorem reps_drop {α : Type} {R : α → List Value → Prop} {s : Nat} {ps : List α} {cs : List Value} (h : Reps R s ps cs) (k : Nat) : Reps R s (ps.drop k) (cs.drop (k * s)) := by
  refine ⟨by rw [List.length_drop, List.length_drop, h.1, Nat.sub_mul], fun j p hj => ?_⟩
  rw [List.getElem?_drop] at hj
  have := h.2 _ p hj
  rw [List.drop_drop, ← Nat.add_mul]
  exact this
theorem reps_append {α : Type} {R : α → List Value → Prop} {s : Nat} {ps qs : List α} {cs ds : List Value} (h : Reps R s ps cs) (h' : Reps R s qs ds) : Reps R s (ps ++ qs) (cs ++ ds) := by
  refine ⟨by rw [List.length_append, List.length_append, h.1, h'.1, Nat.add_mul], fun j p hj => ?_⟩
  rcases Nat.lt_or_ge j ps.length with hlt | hge
  · rw [List.getElem?_append_left hlt] at hj
    have := h.2 j p hj
    have h1 : j * s + s ≤ cs.length := by rw [h.1, ← Nat.succ_mul]; exact Nat.mul_le_mul_right _ hlt
    rw [List.drop_append_of_le_length (by omega), List.take_append_of_le_length (by rw [List.length_drop]; omega)]
    exact this
  · rw [List.getElem?_append_right hge] at hj
    have := h'.2 _ p hj
    have hs : ps.length * s ≤ j * s := Nat.mul_le_mul_right _ hge
    rw [List.drop_append, List.drop_eq_nil_of_le (by rw [h.1]; exact hs), List.nil_append, h.1, ← Nat.sub_mul]
    exact this
theorem reps_one {α : Type} {R : α → List Value → Prop} {s : Nat} {p : α} {cs : List Value} (h : R p cs) (hl : cs.length = s) : Reps R s [p] cs := by
  refine ⟨by simp [hl], fun j q hj => ?_⟩
  cases j with
  | zero => simp at hj; subst hj; rw [Nat.zero_mul, List.drop_zero, ← hl, List.take_length]; exact h
  | succ j => simp at hj
end Go.Proofs.YtpkfdjlmflmilaaGreatDoor.Q
end
section
namespace Go.Proofs.YtpkfdjlmflmilaaGreatDoor.Q
open Go.RowKit Go.Proofs.YtpkfdjlmflmilaaGreatDoorW.PrintWords Go.Proofs.YtpkfdjlmflmilaaGreatDoorW.PrintLast Go.Proofs.YtpkfdjlmflmilaaGreatDoorW.PrintMore
set_option linter.unusedVariables false
set_option linter.unusedSimpArgs false

theorem copy_next {P : Program} {tys : Array TypeId} {ty : TypeId} {vs : Array Value} {w w' : World} {v' : Value} (hr : (Builtin.copy_ tys ty vs).run P w = .ok v' w') (q : Array Bool) : (builtin .copy tys ty q vs).run P w = .ok (.value v') w' := by simp [builtin, hr]
theorem append_next {P : Program} {tys : Array TypeId} {ty : TypeId} {vs : Array Value} {w w' : World} {v' : Value} (hr : (Builtin.append_ tys ty vs).run P w = .ok v' w') (q : Array Bool) : (builtin .append tys ty q vs).run P w = .ok (.value v') w' := by simp [builtin, hr]
theorem reps_one' {w : World} {ps : List S56} {cs : List Value} (h : Reps (k56.K w) 2 ps cs) : ∀ u ∈ cs, u.oneCell' = true := by
  intro u hu
  obtain ⟨j, hj, rfl⟩ := List.getElem_of_mem hu
  have hp : j / 2 < ps.length := by have := h.1; omega
  have h1 := h.2 (j / 2) _ (List.getElem?_eq_getElem hp)
  refine k56.K_one h1 _ ?_
  refine List.mem_iff_getElem?.2 ⟨j % 2, ?_⟩
  rw [List.getElem?_take, if_pos (by omega), List.getElem?_drop, show j / 2 * 2 + j % 2 = j by omega]
  exact List.getElem?_eq_getElem hj
theorem own_R {w : World} {b : Nat} {v : Value} {ps : List S56} {cs : List Value} (ho : w.ownsRow b 56 2 v ps.length cs) {w' : World} (h : Reps (k56.K w') 2 ps cs) : Kd.R k56 56 w b (fun _ => True) v ps := by
  refine ⟨fun _ _ => trivial, cs, ho, h.imp_ (fun p c hp => ?_)⟩
  obtain rfl := k56_open hp
  exact k56_mkM _ _ _ _
set_option maxHeartbeats 1000000 in
theorem clone_calls (A0 : Option Addr) (c0 : Nat) (l0 : List S56) (w : World) (hr0 : Kd.C k56 w A0 l0.length l0) (hb : l0.length * 32 ≤ 140737488355328) :
    Calls Tryz.prog 109 #[.slice A0 l0.length c0] w fun e w' => ∃ v, e = .returned v ∧ Kd.R k56 56 w' w.heap.size (fun _ => True) v l0 ∧ Below w.heap.size w w' := by
  have hu := Tryz.underlying24
  have hu2 := Tryz.underlying56
  have q25 : ∀ (w : World) (a : Option Addr) (n c n' c' : Nat), (binOp .eql 24 (.slice a n c) (.slice none n' c')).run Tryz.prog w = .ok (.bool a.isNone) w := fun w a n c n' c' => Lib.run_eql_slice_nil w _ _ a n c n' c' hu
  cases A0 with
  | none =>
    obtain rfl : l0 = [] := by
      rcases Nat.eq_zero_or_pos l0.length with h | h
      · exact List.eq_nil_of_length_eq_zero h
      · obtain ⟨ad, e, _⟩ := hr0.2.2 h
        cases e
    clear hr0
    go_enter Tryz.func109, Tryz.ntmps109
    go_wp2
    go_ret
    exact ⟨_, rfl, Kd.R_nil _ _ _ _ _, Below.refl _ _⟩
  | some ad =>
    obtain ⟨inner, hrep, hcell⟩ := ReadsRow.inner_ hr0
    have hbig := hr0.2.1
    obtain ⟨i0, hi, hzz⟩ := Option.map_eq_some_iff.1 info56
    simp only [Prod.mk.injEq] at hzz
    obtain ⟨hz0, hz1, hz2⟩ := hzz
    have HL := Aside0.mk hrep.1
    have HO := Aside0.mk (reps_one' hrep)
    have HC := Aside0.mk hcell
    have HR := Aside0.mk hrep
    clear hrep hcell hr0
    generalize hn : l0.length = n at *
    go_enter Tryz.func109, Tryz.ntmps109
    go_wp2_with (at_builtin; refine wpList_append_own _ rfl _ _ 24 rfl w.heap.size 56 i0 _ 2 32 hu hi hz0 hz1 hz2 rfl (by decide) _ _ _ rfl (World.ownsRow_made w #[] 0 (Nat.le_refl _) (Nat.zero_le _) (by simp)) ad n c0 inner rfl HL.out ?qc2 HO.out ?qc4 ?qc5 ?qc6 ?_)
    case qc2 => exact fun j u hj => Lib.cell?_alloc_some _ (HC.out j u hj)
    case qc4 => rw [Nat.zero_add]; unfold maxLen; omega
    case qc5 => rw [Nat.zero_add]; exact hb
    case qc6 => simp
    intro v' w1 hown hgrow hnil
    go_wp2
    go_ret
    refine ⟨v', rfl, ?_, ?_⟩
    · subst hn
      exact own_R (by simpa using hown) HR.out
    · exact ((Below.refl _ w).alloc (Nat.le_refl _) _).grown hgrow (by simp) (by intro k hk; simp [Value.ownBlock] at hk; omega)
end Go.Proofs.YtpkfdjlmflmilaaGreatDoor.Q
end
section
namespace Go.Proofs.YtpkfdjlmflmilaaGreatDoor.Q
open Go.RowKit Go.Proofs.YtpkfdjlmflmilaaGreatDoorW.PrintWords Go.Proofs.YtpkfdjlmflmilaaGreatDoorW.PrintLast Go.Proofs.YtpkfdjlmflmilaaGreatDoorW.PrintMore
set_option linter.unusedVariables false
set_option linter.unusedSimpArgs false
theorem zeroPair : ∀ w, (zeroValue 56).run Tryz.prog w = .ok (.agg #[.string ⟨#[]⟩, .string ⟨#[]⟩]) w := by intro w; kernel_rfl
/-- A row of which one element is taken out. -/
theorem cut_row (cur : Array Value) (xs zs : List Value) (n i cap : Nat) (hs : cur.size = cap * 2) (ht : cur.toList.take (n * 2) = xs) (hl : xs.length = n * 2) (hi : i < n) (hz : zs.length = 2)
    (c1 c2 : Array Value) (h1 : c1 = (cur.toList.take (i * 2) ++ xs.drop ((i + 1) * 2) ++ cur.toList.drop (i * 2 + (xs.drop ((i + 1) * 2)).length)).toArray)
    (h2 : c2 = (c1.toList.take ((n - 1) * 2) ++ zs ++ c1.toList.drop ((n - 1) * 2 + zs.length)).toArray) : c2.size = cap * 2 ∧ c1.size = cap * 2 ∧ c2.toList.take ((n - 1) * 2) = xs.take (i * 2) ++ xs.drop ((i + 1) * 2) := by
  have hd : (xs.drop ((i + 1) * 2)).length = (n - 1 - i) * 2 := by rw [List.length_drop, hl]; omega
  have hc : cur.toList.length = cap * 2 := by rw [Array.length_toList, hs]
  have hnc : n * 2 ≤ cap * 2 := by
    have : (cur.toList.take (n * 2)).length = n * 2 := by rw [ht, hl]
    rw [List.length_take, hc] at this
    omega
  have l1 : c1.size = cap * 2 := by
    rw [h1]
    simp only [List.size_toArray, List.length_append, List.length_take, List.length_drop, hc, hl]
    omega
  have hx : xs.take (i * 2) = cur.toList.take (i * 2) := by rw [← ht, List.take_take, Nat.min_eq_left (by omega)]
  refine ⟨?_, l1, ?_⟩
  · rw [h2]
    simp only [List.size_toArray, List.length_append, List.length_take, List.length_drop, Array.length_toList, l1, hz]
    omega
  · rw [h2]
    simp only [List.append_assoc]
    rw [List.take_append_of_le_length (by rw [List.length_take, Array.length_toList, l1]; omega), List.take_take, Nat.min_self, h1, hx]
    simp only [List.append_assoc]
    rw [← List.append_assoc, List.take_append_of_le_length (by rw [List.length_append, List.length_take, hc, hd]; omega), List.take_of_length_le (by rw [List.length_append, List.length_take, hc, hd]; omega)]
set_option maxHeartbeats 4000000 in
set_option maxRecDepth 1000000 in
theorem delete_calls (g n cap i B : Nat) (xs : List Value) (cur : Array Value) (w : World) (hg : w.heap[g]? = some (.cells cur 56 (0, 0))) (hnc : n ≤ cap) (hcm : cap ≤ 9223372036854775807) (hs : cur.size = cap * 2) (ht : cur.toList.take (n * 2) = xs) (hl : xs.length = n * 2) (hi : i < n)
    (h1 : ∀ u ∈ xs, u.oneCell' = true) (hB : B ≤ g) :
    Calls Tryz.prog 110 #[.slice (some ⟨g, 0, none⟩) n cap, .int .i64 (i : Int), .int .i64 ((i : Int) + 1)] w fun e w' =>
      e = .returned (.slice (some ⟨g, 0, none⟩) (n - 1) cap) ∧ w'.ownsRow B 56 2 (.slice (some ⟨g, 0, none⟩) (n - 1) cap) (n - 1) (xs.take (i * 2) ++ xs.drop ((i + 1) * 2)) ∧ Below B w w' := by
  have hu := Tryz.underlying24
  obtain ⟨i0, hi0, hzz⟩ := Option.map_eq_some_iff.1 info56
  simp only [Prod.mk.injEq] at hzz
  obtain ⟨hz0, hz1, hz2⟩ := hzz
  have HU := Aside0.mk hu
  obtain ⟨c1, hc1⟩ : ∃ c1, c1 = (cur.toList.take (i * 2) ++ xs.drop ((i + 1) * 2) ++ cur.toList.drop (i * 2 + (xs.drop ((i + 1) * 2)).length)).toArray := ⟨_, rfl⟩
  obtain ⟨zs, hzs⟩ : ∃ zs : List Value, zs = [.string ⟨#[]⟩, .string ⟨#[]⟩] := ⟨_, rfl⟩
  have hzl : zs.length = 2 := by rw [hzs]; rfl
  obtain ⟨c2, hc2⟩ : ∃ c2, c2 = (c1.toList.take ((n - 1) * 2) ++ zs ++ c1.toList.drop ((n - 1) * 2 + zs.length)).toArray := ⟨_, rfl⟩
  obtain ⟨r1, r2, r3⟩ := cut_row cur xs zs n i cap hs ht hl hi hzl c1 c2 hc1 hc2
  have hd : (xs.drop ((i + 1) * 2)).length = (n - 1 - i) * 2 := by rw [List.length_drop, hl]; omega
  -- the world behind the append
  obtain ⟨W1, hW1⟩ : ∃ W1, W1 = w.drew.setRow g c1 := ⟨_, rfl⟩
  have hg0 : w.drew.heap[g]? = some (.cells cur 56 (0, 0)) := hg
  have hg1 : W1.heap[g]? = some (.cells c1 56 (0, 0)) := by rw [hW1]; exact setRow_heap w.drew g cur c1 _ _ hg0
  have hcell : ∀ j u, xs[j]? = some u → w.drew.cell? ⟨g, j, none⟩ = some u := fun j u hj => by
    rw [cell_of_row w.drew g j cur _ (0, 0) hg0]
    rw [← ht, List.getElem?_take] at hj
    split at hj
    · simpa using hj
    · cases hj
  obtain ⟨A, hA, hsrc⟩ : ∃ A : Addr, (if cap = i + 1 then (some ⟨g, 0, none⟩ : Option Addr) else some ⟨g, (i + 1) * 2, none⟩) = some A ∧ Aside0 (∀ j u, (xs.drop ((i + 1) * 2))[j]? = some u → w.drew.cell? (A.add j) = some u) := by
    by_cases h : cap = i + 1
    · refine ⟨⟨g, 0, none⟩, by rw [if_pos h], ⟨fun j u hj => ?_⟩⟩
      have : xs.drop ((i + 1) * 2) = [] := List.eq_nil_of_length_eq_zero (by omega)
      rw [this] at hj
      cases hj
    · refine ⟨⟨g, (i + 1) * 2, none⟩, by rw [if_neg h], ⟨fun j u hj => ?_⟩⟩
      rw [List.getElem?_drop] at hj
      rw [Addr.add_lit]
      exact hcell _ u hj
  have hap := fun ty => append_next (run_append_room w.drew 24 ty 56 i0 hu hi0 g i cap cur hg0 A (n - (i + 1)) (cap - (i + 1)) (xs.drop ((i + 1) * 2)) (by rw [hz1, hd]; omega) hsrc.out (fun u hj => h1 u (List.mem_of_mem_drop hj)) (by omega) (by rw [hz1, hd, hs]; omega))
  have hcl := fun ty => (run_clear_one W1 24 56 ty (.agg #[.string ⟨#[]⟩, .string ⟨#[]⟩]) hu zeroPair zs (by rw [hzs]; kernel_rfl) (by rw [hzs]; intro v hv; simp at hv; subst hv; rfl) g ((n - 1) * 2) (cap - (n - 1)) c1 56 hg1 (by rw [hzl, r2]; omega))
  rw [hz1, ← hc1, ← hW1] at hap
  rw [← hc2] at hcl
  have ein : i + (n - (i + 1)) = n - 1 := by omega
  have hcl' : ∀ ty, (Builtin.clear_ #[24] ty #[.slice (some ⟨g, (i + (n - (i + 1))) * 2, none⟩) (n - (i + (n - (i + 1)))) (cap - (i + (n - (i + 1))))]).run Tryz.prog W1 = .ok (.tuple #[]) (W1.setRow g c2) := fun ty => by
    rw [ein, show n - (n - 1) = 1 by omega]
    exact hcl ty
  have HW := Aside0.mk hW1
  have HAP := Aside0.mk hap
  have HCL := Aside0.mk hcl'
  have EIN := Aside0.mk ein
  have HL := Aside0.mk hl
  have R1 := Aside0.mk r1
  have R3 := Aside0.mk r3
  clear r1 r2 r3 hc1 hc2 hcell hg0 hd hs ht hl hap hcl hcl' hW1 ein hzs hzl
  have hw1 : IntKind.i64.wrap ((i : Int) + 1) = (i : Int) + 1 := by rw [IntKind.wrap_i64]; omega
  have hb1 : (0 : Int) ≤ (i : Int) + 1 := by omega
  have htn : ((i : Int) + 1).toNat = i + 1 := by omega
  have hb2 : (i : Int) + 1 ≤ (n : Int) := by omega
  have hb3 : (i : Int) ≤ (i : Int) + 1 := by omega
  have hb4 : (n : Int) ≤ (cap : Int) := by omega
  have hne : ¬ ((i : Int) = (i : Int) + 1) := by omega
  have hic : i ≤ cap := by omega
  go_enter Tryz.func110, Tryz.ntmps110
  go_wp2_with fail
  go_region_law (refine step_builtin_run .append _ _ rfl rfl #[.slice (some ⟨g, 0, none⟩) i cap, .slice (some A) (n - (i + 1)) (cap - (i + 1))] (by simp [Act.eval, Act.put]) (HAP.out _) ?_)
  have hcl2 := HCL.out
  go_wp2
  go_ret
  refine ⟨by show Ending.returned (.slice (some ⟨g, 0, none⟩) (i + (n - (i + 1))) cap) = _; rw [EIN.out], ⟨by rw [List.length_append, List.length_take, List.length_drop, HL.out]; omega, .inr ⟨g, cap, c2, rfl, hB, setRow_heap W1 g c1 c2 _ _ hg1, by omega, by unfold maxLen; omega, R1.out, R3.out⟩⟩, ?_⟩
  refine below_setRow ?_ g c2 hB
  rw [HW.out]
  exact below_setRow (Below.drew (Below.refl _ _)) g c1 hB
end Go.Proofs.YtpkfdjlmflmilaaGreatDoor.Q
end
section
namespace Go.Proofs.YtpkfdjlmflmilaaGreatDoor.Q
open Go.RowKit Go.Proofs.YtpkfdjlmflmilaaGreatDoorW.PrintWords Go.Proofs.YtpkfdjlmflmilaaGreatDoorW.PrintLast Go.Proofs.YtpkfdjlmflmilaaGreatDoorW.PrintMore
set_option linter.unusedVariables false
set_option linter.unusedSimpArgs false
def seg (l : List Value) (o : Nat) (cs : List Value) : List Value := l.take o ++ cs ++ l.drop (o + cs.length)
theorem seg_len (l : List Value) (o : Nat) (cs : List Value) (h : o + cs.length ≤ l.length) : (seg l o cs).length = l.length := by
  unfold seg
  simp only [List.length_append, List.length_take, List.length_drop]
  omega
theorem seg_take (l : List Value) (o k : Nat) (cs : List Value) (hk : k ≤ o) (h : o ≤ l.length) : (seg l o cs).take k = l.take k := by
  unfold seg
  rw [List.append_assoc, List.take_append_of_le_length (by rw [List.length_take]; omega), List.take_take, Nat.min_eq_left hk]
theorem seg_upto (l : List Value) (o : Nat) (cs : List Value) (h : o ≤ l.length) : (seg l o cs).take (o + cs.length) = l.take o ++ cs := by
  unfold seg
  rw [List.take_append_of_le_length (by rw [List.length_append, List.length_take]; omega), List.take_of_length_le (by rw [List.length_append, List.length_take]; omega)]
theorem seg_drop (l : List Value) (o : Nat) (cs : List Value) (h : o ≤ l.length) : (seg l o cs).drop o = cs ++ l.drop (o + cs.length) := by
  unfold seg
  rw [List.append_assoc, List.drop_append_of_le_length (by rw [List.length_take]; omega), List.drop_eq_nil_of_le (by rw [List.length_take]; omega), List.nil_append]
/-- What the two copies leave, in place. -/
theorem shift_row (cur xs vs : List Value) (n i : Nat) (hx : cur.take (n * 2) = xs) (hl : xs.length = n * 2) (hi : i < n) (hv : vs.length = 2) (hc : (n + 1) * 2 ≤ cur.length) :
    (seg (seg cur ((i + 1) * 2) (xs.drop (i * 2))) (i * 2) vs).take ((n + 1) * 2) = xs.take (i * 2) ++ vs ++ xs.drop (i * 2) := by
  have hd : (xs.drop (i * 2)).length = (n - i) * 2 := by rw [List.length_drop, hl]; omega
  have e1 : (seg cur ((i + 1) * 2) (xs.drop (i * 2))).take (i * 2) = xs.take (i * 2) := by
    rw [seg_take _ _ _ _ (by omega) (by omega), ← hx, List.take_take, Nat.min_eq_left (by omega)]
  have e2 : (seg cur ((i + 1) * 2) (xs.drop (i * 2))).drop (i * 2 + vs.length) = xs.drop (i * 2) ++ cur.drop ((i + 1) * 2 + (xs.drop (i * 2)).length) := by
    rw [hv, show i * 2 + 2 = (i + 1) * 2 by omega, seg_drop _ _ _ (by omega)]
  rw [show seg (seg cur ((i + 1) * 2) (xs.drop (i * 2))) (i * 2) vs = (seg cur ((i + 1) * 2) (xs.drop (i * 2))).take (i * 2) ++ vs ++ (seg cur ((i + 1) * 2) (xs.drop (i * 2))).drop (i * 2 + vs.length) from rfl, e1, e2, ← List.append_assoc, List.take_append_of_le_length (by simp only [List.length_append, List.length_take, hd, hv, hl]; omega), List.take_of_length_le (by simp only [List.length_append, List.length_take, hd, hv, hl]; omega)]
/-- .. and in a new row. -/
theorem grow_row (zs xs vs : List Value) (n i : Nat) (hl : xs.length = n * 2) (hi : i < n) (hv : vs.length = 2) (hz : (n + 1 - i) * 2 ≤ zs.length) :
    (seg (seg (xs.take (i * 2) ++ zs) (i * 2) vs) ((i + 1) * 2) (xs.drop (i * 2))).take ((n + 1) * 2) = xs.take (i * 2) ++ vs ++ xs.drop (i * 2) := by
  have hd : (xs.drop (i * 2)).length = (n - i) * 2 := by rw [List.length_drop, hl]; omega
  have ht : (xs.take (i * 2)).length = i * 2 := by rw [List.length_take, hl]; omega
  have hr : (xs.take (i * 2) ++ zs).length = i * 2 + zs.length := by rw [List.length_append, ht]
  have e0 : (xs.take (i * 2) ++ zs).take (i * 2) = xs.take (i * 2) := List.take_left' ht
  have e1 : (seg (xs.take (i * 2) ++ zs) (i * 2) vs).take ((i + 1) * 2) = xs.take (i * 2) ++ vs := by
    rw [show (i + 1) * 2 = i * 2 + vs.length by omega, seg_upto _ _ _ (by omega), e0]
  have hs := seg_len (xs.take (i * 2) ++ zs) (i * 2) vs (by omega)
  have := seg_upto (seg (xs.take (i * 2) ++ zs) (i * 2) vs) ((i + 1) * 2) (xs.drop (i * 2)) (by omega)
  rw [show (n + 1) * 2 = (i + 1) * 2 + (xs.drop (i * 2)).length by omega, this, e1]
theorem cells_of {w : World} {g : Nat} {cur : Array Value} {t : TypeId} {xs : List Value} {k : Nat} (hg : w.heap[g]? = some (.cells cur t (0, 0))) (ht : cur.toList.take k = xs) : ∀ j u, xs[j]? = some u → w.cell? ⟨g, j, none⟩ = some u := fun j u hj => by
  rw [cell_of_row w g j cur _ (0, 0) hg]
  rw [← ht, List.getElem?_take] at hj
  split at hj
  · simpa using hj
  · cases hj
theorem pair_cells {w : World} {vb : Nat} {t : TypeId} {s0 s1 : ByteArray} (h : w.heap[vb]? = some (.cells #[.string s0, .string s1] t (0, 0))) : ∀ j u, ([.string s0, .string s1] : List Value)[j]? = some u → w.cell? ⟨vb, j, none⟩ = some u := fun j u hj => by
  rw [cell_of_row w vb j _ _ (0, 0) h]
  simpa using hj
theorem pair_one (s0 s1 : ByteArray) : ∀ u ∈ ([.string s0, .string s1] : List Value), u.oneCell' = true := by
  intro v hv; simp at hv; rcases hv with rfl | rfl <;> rfl

set_option maxHeartbeats 4000000 in
set_option maxRecDepth 1000000 in
theorem insert_end (v : Value) (n vb B : Nat) (xs : List Value) (s0 s1 : ByteArray) (w : World) (hown : w.ownsRow B 56 2 v n xs) (hb : (n + 1) * 32 ≤ 140737488355328)
    (hvb : w.heap[vb]? = some (.cells #[.string s0, .string s1] 56 (0, 0))) (hB : B ≤ w.heap.size) :
    Calls Tryz.prog 122 #[v, .int .i64 (n : Int), .slice (some ⟨vb, 0, none⟩) 1 1] w fun e w' =>
      ∃ v', e = .returned v' ∧ w'.ownsRow B 56 2 v' (n + 1) (xs ++ [.string s0, .string s1]) ∧ Below B w w' := by
  have hu := Tryz.underlying24
  obtain ⟨i0, hi0, hzz⟩ := Option.map_eq_some_iff.1 info56
  simp only [Prod.mk.injEq] at hzz
  obtain ⟨hz0, hz1, hz2⟩ := hzz
  have HO := Aside0.mk hown
  have HV := Aside0.mk (pair_cells hvb)
  have hbase := own_base hown
  have hsl : ∃ A c, v = .slice A n c ∧ n ≤ c ∧ (A = none → n = 0) ∧ c ≤ 9223372036854775807 ∧ ∀ a, A = some a → ∃ g, a = ⟨g, 0, none⟩ := by
    rcases hown.2 with ⟨rfl, rfl⟩ | ⟨g, cap, cur, rfl, _, _, h1, h2, _⟩
    · exact ⟨none, 0, rfl, Nat.le_refl _, fun _ => rfl, by omega, fun a h => by cases h⟩
    · exact ⟨_, cap, rfl, h1, fun h => (by cases h), by simpa [maxLen] using h2, fun a h => ⟨g, by injection h with h; exact h.symm⟩⟩
  obtain ⟨A, c, rfl, hnc, hA, hcm, hAg⟩ := hsl
  have HBS := Aside0.mk hbase
  clear hown hvb hbase
  cases A with
  | none =>
    obtain rfl := hA rfl
    clear hA hAg
    go_enter Tryz.func122, Tryz.ntmps122
    go_wp2_with (at_builtin; refine wpList_append_own _ rfl _ _ 24 rfl B 56 i0 _ 2 32 hu hi0 hz0 hz1 hz2 rfl (by decide) _ 0 xs rfl HO.out ⟨vb, 0, none⟩ 1 1 [.string s0, .string s1] rfl rfl ?c1 (pair_one s0 s1) ?c3 ?c4 hB ?_)
    case c1 => exact fun j u hj => by first | exact HV.out j u hj | (rw [Addr.add_lit, Nat.zero_add]; exact HV.out j u hj)
    try (case c3 => unfold maxLen; omega)
    try (case c4 => exact hb)
    intro v' w1 hown1 hgrow _
    go_wp2
    go_ret
    exact ⟨v', rfl, hown1, (Below.refl _ w).grown hgrow hB HBS.out⟩
  | some a =>
    obtain ⟨g, rfl⟩ := hAg a rfl
    clear hA hAg
    by_cases hcn : c = n
    · obtain rfl : n = c := hcn.symm
      go_enter Tryz.func122, Tryz.ntmps122
      go_wp2_with (at_builtin; refine wpList_append_own _ rfl _ _ 24 rfl B 56 i0 _ 2 32 hu hi0 hz0 hz1 hz2 rfl (by decide) _ n xs rfl HO.out ⟨vb, 0, none⟩ 1 1 [.string s0, .string s1] rfl rfl ?c1 (pair_one s0 s1) ?c3 ?c4 hB ?_)
      case c1 => exact fun j u hj => by first | exact HV.out j u hj | (rw [Addr.add_lit, Nat.zero_add]; exact HV.out j u hj)
      try (case c3 => unfold maxLen; omega)
      try (case c4 => exact hb)
      intro v' w1 hown1 hgrow _
      go_wp2
      go_ret
      exact ⟨v', rfl, hown1, (Below.refl _ w).grown hgrow hB HBS.out⟩
    · have hcn' : ¬ n = c := fun h => hcn h.symm
      go_enter Tryz.func122, Tryz.ntmps122
      go_wp2_with (at_builtin; refine wpList_append_own _ rfl _ _ 24 rfl B 56 i0 _ 2 32 hu hi0 hz0 hz1 hz2 rfl (by decide) _ n xs rfl HO.out ⟨vb, 0, none⟩ 1 1 [.string s0, .string s1] rfl rfl ?d1 (pair_one s0 s1) ?d3 ?d4 hB ?_)
      case d1 => exact fun j u hj => by first | exact HV.out j u hj | (rw [Addr.add_lit, Nat.zero_add]; exact HV.out j u hj)
      try (case d3 => unfold maxLen; omega)
      try (case d4 => exact hb)
      intro v' w1 hown1 hgrow _
      go_wp2
      go_ret
      exact ⟨v', rfl, hown1, (Below.refl _ w).grown hgrow hB HBS.out⟩
end Go.Proofs.YtpkfdjlmflmilaaGreatDoor.Q
end
section
namespace Go.Proofs.YtpkfdjlmflmilaaGreatDoor.Q
open Go.RowKit Go.Proofs.YtpkfdjlmflmilaaGreatDoorW.PrintWords Go.Proofs.YtpkfdjlmflmilaaGreatDoorW.PrintLast Go.Proofs.YtpkfdjlmflmilaaGreatDoorW.PrintMore
set_option linter.unusedVariables false
set_option linter.unusedSimpArgs false
theorem copy_pairs {w : World} {g o dLen dCap vb sOff sLen sCap m : Nat} {cur : Array Value} {t : TypeId} {cs : List Value} (ty : TypeId)
    (hg : w.heap[g]? = some (.cells cur t (0, 0))) (hm : Nat.min sLen dLen = m) (hn : cs.length = m * 2) (hsrc : ∀ j u, cs[j]? = some u → w.cell? ⟨vb, sOff + j, none⟩ = some u) (hfit : o + cs.length ≤ cur.size) (h1 : ∀ v ∈ cs, v.oneCell' = true) :
    (Builtin.copy_ #[24, 24] ty #[.slice (some ⟨g, o, none⟩) dLen dCap, .slice (some ⟨vb, sOff, none⟩) sLen sCap]).run Tryz.prog w = .ok (goInt m) (w.setRow g (seg cur.toList o cs).toArray) := by
  refine run_copy_sz w _ _ ty 56 2 g o dLen dCap ⟨vb, sOff, none⟩ sLen sCap m cur t cs Tryz.underlying24 ?_ hg hm hn (fun j u hj => by rw [Addr.add_lit]; exact hsrc j u hj) hfit h1
  kernel_rfl
set_option maxHeartbeats 4000000 in
set_option maxRecDepth 1000000 in
theorem insert_shift (g n cap i vb B : Nat) (xs : List Value) (cur : Array Value) (s0 s1 : ByteArray) (w : World) (hg : w.heap[g]? = some (.cells cur 56 (0, 0))) (hnc : n + 1 ≤ cap) (hcm : cap ≤ 9223372036854775807) (hs : cur.size = cap * 2) (ht : cur.toList.take (n * 2) = xs) (hl : xs.length = n * 2) (hi : i < n)
    (h1 : ∀ u ∈ xs, u.oneCell' = true) (hB : B ≤ g) (hvb : w.heap[vb]? = some (.cells #[.string s0, .string s1] 56 (0, 0))) (hne : vb ≠ g) :
    Calls Tryz.prog 122 #[.slice (some ⟨g, 0, none⟩) n cap, .int .i64 (i : Int), .slice (some ⟨vb, 0, none⟩) 1 1] w fun e w' =>
      ∃ v', e = .returned v' ∧ w'.ownsRow B 56 2 v' (n + 1) (xs.take (i * 2) ++ [.string s0, .string s1] ++ xs.drop (i * 2)) ∧ Below B w w' := by
  have hu := Tryz.underlying24
  have hd : (xs.drop (i * 2)).length = (n - i) * 2 := by rw [List.length_drop, hl]; omega
  have hcl : cur.toList.length = cap * 2 := by rw [Array.length_toList, hs]
  obtain ⟨c1, hc1⟩ : ∃ c1, c1 = (seg cur.toList ((i + 1) * 2) (xs.drop (i * 2))).toArray := ⟨_, rfl⟩
  obtain ⟨c2, hc2⟩ : ∃ c2, c2 = (seg c1.toList (i * 2) [.string s0, .string s1]).toArray := ⟨_, rfl⟩
  have s1' : c1.size = cap * 2 := by rw [hc1, List.size_toArray, seg_len _ _ _ (by omega), hcl]
  have hq2 : i * 2 + ([.string s0, .string s1] : List Value).length ≤ c1.toList.length := by have e := Array.length_toList (xs := c1); rw [s1'] at e; simp only [List.length_cons, List.length_nil]; omega
  have s2' : c2.size = cap * 2 := by rw [hc2, List.size_toArray, seg_len _ _ _ hq2, Array.length_toList, s1']
  have hres : c2.toList.take ((n + 1) * 2) = xs.take (i * 2) ++ [.string s0, .string s1] ++ xs.drop (i * 2) := by
    rw [hc2, hc1]
    exact shift_row cur.toList xs [.string s0, .string s1] n i ht hl hi rfl (by omega)
  obtain ⟨W1, hW1⟩ : ∃ W1, W1 = w.drew.setRow g c1 := ⟨_, rfl⟩
  have hg0 : w.drew.heap[g]? = some (.cells cur 56 (0, 0)) := hg
  have hg1 : W1.heap[g]? = some (.cells c1 56 (0, 0)) := by rw [hW1]; exact setRow_heap w.drew g cur c1 _ _ hg0
  have hv1 : W1.heap[vb]? = some (.cells #[.string s0, .string s1] 56 (0, 0)) := by rw [hW1, heap_setRow_ne _ _ _ _ hne]; exact hvb
  have hcpA : ∀ ty, (Builtin.copy_ #[24, 24] ty #[.slice (some ⟨g, (i + 1) * 2, none⟩) (n + 1 - (i + 1)) (cap - (i + 1)), .slice (some ⟨g, i * 2, none⟩) (n + 1 - i) (cap - i)]).run Tryz.prog w.drew = .ok (goInt (n - i : Nat)) W1 := fun ty => by
    rw [hW1, hc1]
    refine copy_pairs ty hg0 ?_ hd ?_ (by omega) (fun u hu => h1 u (List.mem_of_mem_drop hu))
    · simp only [Nat.min_def]; split <;> omega
    · intro j u hj
      rw [List.getElem?_drop] at hj
      exact cells_of hg0 ht _ u hj
  have hcpB : ∀ ty, (Builtin.copy_ #[24, 24] ty #[.slice (some ⟨g, i * 2, none⟩) (n + 1 - i) (cap - i), .slice (some ⟨vb, 0, none⟩) 1 1]).run Tryz.prog W1 = .ok (goInt (1 : Nat)) (W1.setRow g c2) := fun ty => by
    rw [hc2]
    refine copy_pairs ty hg1 ?_ rfl ?_ (by have e := Array.length_toList (xs := c1); omega) (pair_one s0 s1)
    · simp only [Nat.min_def]; split <;> omega
    · intro j u hj
      rw [Nat.zero_add]
      exact pair_cells hv1 j u hj
  have hov : ∀ lb cb, (callFunc 130 #[.slice (some ⟨vb, 0, none⟩) 1 1, .slice (some ⟨g, (i + 1) * 2, none⟩) lb cb]).run Tryz.prog w = .ok (.value (.bool false)) w := fun lb cb => by
    have hc0 : cur.size ≠ 0 := by omega
    rw [run_callFunc_extern Tryz.func130 (by kernel_rfl) (by kernel_rfl) (by kernel_rfl) (e := Extern.SlicesOverlaps.overlaps #[24, 24] #[4]) (by kernel_rfl),
      Lib.run_overlaps_apart w 24 4 56 hu 2 (fun w => by kernel_rfl) ⟨vb, 0, none⟩ ⟨g, (i + 1) * 2, none⟩ 1 1 lb cb hne 56 56 2 cur.size (by simp [World.shape?, hvb]) (by simp [World.shape?, hg]) hc0 (by simp [World.frozen?, hvb]) (by simp [World.frozen?, hvb])]
    rfl
  have HW := Aside0.mk hW1
  have HA := Aside0.mk (fun ty => copy_next (hcpA ty))
  have HBB := Aside0.mk hcpB
  have HS := Aside0.mk s2'
  have HR := Aside0.mk hres
  have HL := Aside0.mk hl
  have HG := Aside0.mk hg1
  clear hq2 hcl hd hc1 hc2 s1' s2' hres hW1 hg0 hg1 hv1 hcpA hcpB hl ht hs h1 hvb hg
  have hw1 : IntKind.i64.wrap ((i : Int) + 1) = (i : Int) + 1 := by rw [IntKind.wrap_i64]; omega
  have hb1 : (0 : Int) ≤ (i : Int) + 1 := by omega
  have htn : ((i : Int) + 1).toNat = i + 1 := by omega
  have hz2 : ¬ ((i : Int) = (n : Int)) := by omega
  have hz3 : ¬ ((cap : Int) < (n : Int) + 1) := by omega
  have hin : i ≤ n := by omega
  have hb2 : ¬ (cap = i + 1) := by omega
  have hb3 : (i : Int) ≤ (n : Int) := by omega
  have hb4 : ¬ (cap = i) := by omega
  have hb5 : ¬ (n = i) := by omega
  have hb6 : (i : Int) ≤ (n : Int) + 1 := by omega
  have hb7 : (n : Int) + 1 ≤ (cap : Int) := by omega
  have hb8 : (i : Int) + 1 ≤ (n : Int) + 1 := by omega
  go_enter Tryz.func122, Tryz.ntmps122
  go_wp2_with (simp only [hov])
  go_region_law (refine step_builtin_run .copy _ _ rfl rfl #[.slice (some ⟨g, (i + 1) * 2, none⟩) (n + 1 - (i + 1)) (cap - (i + 1)), .slice (some ⟨g, i * 2, none⟩) (n + 1 - i) (cap - i)] (by simp [Act.eval, Act.put]) (HA.out _) ?_)
  have hcp := HBB.out
  go_wp2
  go_ret
  refine ⟨_, rfl, ⟨?_, .inr ⟨g, cap, c2, rfl, hB, setRow_heap W1 g _ c2 _ _ HG.out, hnc, by unfold maxLen; omega, HS.out, HR.out⟩⟩, ?_⟩
  · have := HL.out
    simp only [List.length_append, List.length_take, List.length_drop, List.length_cons, List.length_nil, this]
    omega
  · refine below_setRow ?_ g c2 hB
    rw [HW.out]
    exact below_setRow (Below.drew (Below.refl _ _)) g c1 hB
set_option maxHeartbeats 4000000 in
set_option maxRecDepth 1000000 in
theorem insert_grow (g n cap i vb B : Nat) (xs : List Value) (cur : Array Value) (s0 s1 : ByteArray) (w : World) (hg : w.heap[g]? = some (.cells cur 56 (0, 0))) (hnc : n ≤ cap) (hroom : cap < n + 1) (hb : (n + 1) * 32 ≤ 140737488355328) (ht : cur.toList.take (n * 2) = xs) (hl : xs.length = n * 2) (hi : i < n)
    (h1 : ∀ u ∈ xs, u.oneCell' = true) (hB : B ≤ w.heap.size) (hvb : w.heap[vb]? = some (.cells #[.string s0, .string s1] 56 (0, 0))) :
    Calls Tryz.prog 122 #[.slice (some ⟨g, 0, none⟩) n cap, .int .i64 (i : Int), .slice (some ⟨vb, 0, none⟩) 1 1] w fun e w' =>
      ∃ v', e = .returned v' ∧ w'.ownsRow B 56 2 v' (n + 1) (xs.take (i * 2) ++ [.string s0, .string s1] ++ xs.drop (i * 2)) ∧ Below B w w' := by
  have hu := Tryz.underlying24
  have hui := Tryz.underlying3
  obtain ⟨i0, hi0, hzz⟩ := Option.map_eq_some_iff.1 info56
  simp only [Prod.mk.injEq] at hzz
  obtain ⟨hz0, hz1, hz2⟩ := hzz
  have hd : (xs.drop (i * 2)).length = (n - i) * 2 := by rw [List.length_drop, hl]; omega
  have htl : (xs.take (i * 2)).length = i * 2 := by rw [List.length_take, hl]; omega
  have hgw : g < w.heap.size := (Array.getElem?_eq_some_iff.1 hg).1
  have hvw : vb < w.heap.size := (Array.getElem?_eq_some_iff.1 hvb).1
  have hik : i + (n + 1 - i) = n + 1 := by omega
  have hcells := cells_of hg ht
  have hold : (Builtin.firstCells i0.size i (.slice (some ⟨g, 0, none⟩) i cap)).run Tryz.prog w.drew = .ok (xs.take (i * 2)).toArray w.drew := by
    rw [hz1]
    exact run_firstCells_some w.drew 2 i ⟨g, 0, none⟩ i cap (xs.take (i * 2)) htl (fun j v hj => by
      rw [Addr.add_lit, Nat.zero_add]
      rw [List.getElem?_take] at hj
      split at hj
      · exact hcells j v hj
      · cases hj)
  have hz := fun ty => Lib.run_append_grow_zeros w 24 3 ty 56 i0 _ .i64 .i64 hu hui hi0 hz0 (some ⟨g, 0, none⟩) i cap (xs.take (i * 2)) hold (n + 1 - i) (by omega) (by omega) (by omega) (by omega) (by rw [hz2]; omega) (by rw [hz2, hik]; exact growslice_fits hroom hb)
  rw [hik] at hz
  obtain ⟨G, hG⟩ : ∃ G, G = grownCap w (n + 1) cap 56 := ⟨_, rfl⟩
  have hGn : n + 1 ≤ G := by rw [hG]; exact grownCap_ge w _ _ _
  have hG63 : G ≤ 9223372036854775807 := by
    have := grownCap_le_maxLen w (n + 1) cap 56 (by unfold maxLen; omega)
    rw [← hG] at this
    unfold maxLen at this
    omega
  rw [← hG] at hz
  obtain ⟨Z, hZ⟩ : ∃ Z : List Value, Z = (Builtin.zeroCells (Value.agg #[.string ⟨#[]⟩, .string ⟨#[]⟩]).cells (n + 1 - i)).toList ++ (Builtin.zeroCells (Value.agg #[.string ⟨#[]⟩, .string ⟨#[]⟩]).cells (G - (n + 1))).toList := ⟨_, rfl⟩
  have hzc : (Value.agg #[.string (⟨#[]⟩ : ByteArray), .string (⟨#[]⟩ : ByteArray)]).cells.size = 2 := by kernel_rfl
  have hZl : Z.length = (n + 1 - i) * 2 + (G - (n + 1)) * 2 := by
    rw [hZ, List.length_append, Array.length_toList, Array.length_toList]
    simp only [Builtin.zeroCells, Array.size_map, Array.size_range, hzc]
  obtain ⟨ROW, hROW⟩ : ∃ ROW : Array Value, ROW = (xs.take (i * 2) ++ Z).toArray := ⟨_, rfl⟩
  have hRe : (xs.take (i * 2)).toArray ++ Builtin.zeroCells (Value.agg #[.string ⟨#[]⟩, .string ⟨#[]⟩]).cells (n + 1 - i) ++ Builtin.zeroCells (Value.agg #[.string ⟨#[]⟩, .string ⟨#[]⟩]).cells (G - (n + 1)) = ROW := by
    rw [hROW, hZ]
    apply Array.ext'
    simp
  rw [hRe] at hz
  have hRl : ROW.size = G * 2 := by rw [hROW, List.size_toArray, List.length_append, htl, hZl]; omega
  have hRt : ROW.toList = xs.take (i * 2) ++ Z := by rw [hROW]
  obtain ⟨W1, hW1⟩ : ∃ W1, W1 = w.drew.alloc (.cells ROW 56) := ⟨_, rfl⟩
  rw [← hW1] at hz
  obtain ⟨N, hN⟩ : ∃ N, N = w.heap.size := ⟨_, rfl⟩
  rw [← hN] at hz
  have hh1 : W1.heap[N]? = some (.cells ROW 56 (0, 0)) := by rw [hW1, hN]; exact heap_alloc_new w.drew _
  have hv1 : W1.heap[vb]? = some (.cells #[.string s0, .string s1] 56 (0, 0)) := by rw [hW1]; exact (heap_alloc_old w.drew _ hvw).trans hvb
  have hg1 : W1.heap[g]? = some (.cells cur 56 (0, 0)) := by rw [hW1]; exact (heap_alloc_old w.drew _ hgw).trans hg
  obtain ⟨c2, hc2⟩ : ∃ c2, c2 = (seg ROW.toList (i * 2) [.string s0, .string s1]).toArray := ⟨_, rfl⟩
  have hq2 : i * 2 + ([.string s0, .string s1] : List Value).length ≤ ROW.toList.length := by have e := Array.length_toList (xs := ROW); rw [hRl] at e; simp only [List.length_cons, List.length_nil]; omega
  have s2' : c2.size = G * 2 := by rw [hc2, List.size_toArray, seg_len _ _ _ hq2, Array.length_toList, hRl]
  obtain ⟨c3, hc3⟩ : ∃ c3, c3 = (seg c2.toList ((i + 1) * 2) (xs.drop (i * 2))).toArray := ⟨_, rfl⟩
  have hq3 : (i + 1) * 2 + (xs.drop (i * 2)).length ≤ c2.toList.length := by have e := Array.length_toList (xs := c2); rw [s2'] at e; omega
  have s3' : c3.size = G * 2 := by rw [hc3, List.size_toArray, seg_len _ _ _ hq3, Array.length_toList, s2']
  have hres : c3.toList.take ((n + 1) * 2) = xs.take (i * 2) ++ [.string s0, .string s1] ++ xs.drop (i * 2) := by
    rw [hc3, hc2, hRt]
    exact grow_row Z xs [.string s0, .string s1] n i hl hi rfl (by omega)
  obtain ⟨W2, hW2⟩ : ∃ W2, W2 = W1.setRow N c2 := ⟨_, rfl⟩
  obtain ⟨W3, hW3⟩ : ∃ W3, W3 = W2.drew.setRow N c3 := ⟨_, rfl⟩
  have hh2 : W2.heap[N]? = some (.cells c2 56 (0, 0)) := by rw [hW2]; exact setRow_heap W1 N ROW c2 _ _ hh1
  have hh3 : W3.heap[N]? = some (.cells c3 56 (0, 0)) := by rw [hW3]; exact setRow_heap W2.drew N c2 c3 _ _ hh2
  have hg2 : W2.heap[g]? = some (.cells cur 56 (0, 0)) := by rw [hW2, heap_setRow_ne _ _ _ _ (by omega)]; exact hg1
  have hcpA : ∀ ty, (Builtin.copy_ #[24, 24] ty #[.slice (some ⟨N, i * 2, none⟩) (n + 1 - i) (G - i), .slice (some ⟨vb, 0, none⟩) 1 1]).run Tryz.prog W1 = .ok (goInt (1 : Nat)) W2 := fun ty => by
    rw [hW2, hc2]
    refine copy_pairs ty hh1 ?_ rfl ?_ (by have e := Array.length_toList (xs := ROW); omega) (pair_one s0 s1)
    · simp only [Nat.min_def]; split <;> omega
    · intro j u hj
      rw [Nat.zero_add]
      exact pair_cells hv1 j u hj
  have hcpB : ∀ ty, (Builtin.copy_ #[24, 24] ty #[.slice (some ⟨N, (i + 1) * 2, none⟩) (n + 1 - (i + 1)) (G - (i + 1)), .slice (some ⟨g, i * 2, none⟩) (n - i) (cap - i)]).run Tryz.prog W2.drew = .ok (goInt (n - i : Nat)) W3 := fun ty => by
    rw [hW3, hc3]
    refine copy_pairs ty hh2 ?_ hd ?_ (by have e := Array.length_toList (xs := c2); omega) (fun u hu => h1 u (List.mem_of_mem_drop hu))
    · simp only [Nat.min_def]; split <;> omega
    · intro j u hj
      rw [List.getElem?_drop] at hj
      exact cells_of (w := W2.drew) hg2 ht _ u hj
  have hkk : (n : Int) + 1 - (i : Int) = ((n + 1 - i : Nat) : Int) := by omega
  have hBW : Below B w W3 := by
    rw [hW3]
    refine below_setRow (Below.drew ?_) N c3 (by omega)
    rw [hW2]
    refine below_setRow ?_ N c2 (by omega)
    rw [hW1]
    exact Below.alloc (Below.drew (Below.refl _ _)) hB _
  have hrz : ∀ ty, (Builtin.append_ #[24, 3] ty #[.slice (some ⟨g, 0, none⟩) i cap, .int .i64 ((n : Int) + 1 - (i : Int))]).run Tryz.prog w = .ok (.slice (some ⟨N, 0, none⟩) (n + 1) G) W1 := fun ty => by
    rw [hkk]; exact hz ty
  have HZ := Aside0.mk hrz
  have HA := Aside0.mk hcpA
  have HBB := Aside0.mk (fun ty => copy_next (hcpB ty))
  have HBW := Aside0.mk hBW
  have HS := Aside0.mk s3'
  have HR := Aside0.mk hres
  have HL := Aside0.mk hl
  have HH := Aside0.mk hh3
  have hBN : B ≤ N := by omega
  clear hkk hrz hcpA hcpB hBW s3' hres hl hh3 hh2 hg2 hg1 hv1 hh1 hW1 hW2 hW3 hc2 hc3 hq2 hq3 s2' hRt hRl hRe hROW hZl hzc hZ hz hold hcells hG hik hd htl ht h1 hvb hg hN
  have hw1 : IntKind.i64.wrap ((i : Int) + 1) = (i : Int) + 1 := by rw [IntKind.wrap_i64]; omega
  have hb1 : (0 : Int) ≤ (i : Int) + 1 := by omega
  have htn : ((i : Int) + 1).toNat = i + 1 := by omega
  have hz2' : ¬ ((i : Int) = (n : Int)) := by omega
  have hz3 : (cap : Int) < (n : Int) + 1 := by omega
  have hin : i ≤ n := by omega
  have hGi : ¬ (G = i) := by omega
  have hGim : ¬ (G = i + 1) := by omega
  have hci : ¬ (cap = i) := by omega
  have hb3 : (i : Int) ≤ (n : Int) := by omega
  have hb6 : (i : Int) ≤ (n : Int) + 1 := by omega
  have hb8 : (i : Int) + 1 ≤ (n : Int) + 1 := by omega
  have hcp := HA.out
  go_enter Tryz.func122, Tryz.ntmps122
  go_wp2_with (at_builtin; refine Lib.wpList_append_run _ rfl _ _ _ _ rfl _ _ rfl rfl _ _ (HZ.out _) ?_)
  go_region_law (refine step_builtin_run .copy _ _ rfl rfl #[.slice (some ⟨N, (i + 1) * 2, none⟩) (n + 1 - (i + 1)) (G - (i + 1)), .slice (some ⟨g, i * 2, none⟩) (n - i) (cap - i)] (by simp [Act.eval, Act.put]) (HBB.out _) ?_)
  go_wp2
  go_ret
  refine ⟨_, rfl, ⟨?_, .inr ⟨N, G, c3, rfl, hBN, HH.out, hGn, by unfold maxLen; omega, HS.out, HR.out⟩⟩, HBW.out⟩
  have := HL.out
  simp only [List.length_append, List.length_take, List.length_drop, List.length_cons, List.length_nil, this]
  omega
end Go.Proofs.YtpkfdjlmflmilaaGreatDoor.Q
end
section
namespace Go.Proofs.YtpkfdjlmflmilaaGreatDoor.Q
open Go.RowKit Go.Proofs.YtpkfdjlmflmilaaGreatDoorW.PrintWords Go.Proofs.YtpkfdjlmflmilaaGreatDoorW.PrintLast Go.Proofs.YtpkfdjlmflmilaaGreatDoorW.PrintMore
set_option linter.unusedVariables false
set_option linter.unusedSimpArgs false
theorem own_of_R {w : World} {b : Nat} {ok : Nat → Prop} {v : Value} {l : List S56} (h : Kd.R k56 56 w b ok v l) : ∃ inner, w.ownsRow b 56 2 v l.length inner ∧ Reps (k56.K w) 2 l inner := by
  obtain ⟨_, inner, ho, hr⟩ := h
  exact ⟨inner, ho, hr.imp_ (fun _ _ hp => k56.K_of_M hp)⟩
theorem own_at {w : World} {b : Nat} {v : Value} {n : Nat} {xs : List Value} (h : w.ownsRow b 56 2 v n xs) (hn : 0 < n) :
    ∃ g cap cur, v = .slice (some ⟨g, 0, none⟩) n cap ∧ b ≤ g ∧ w.heap[g]? = some (.cells cur 56 (0, 0)) ∧ n ≤ cap ∧ cap ≤ 9223372036854775807 ∧ cur.size = cap * 2 ∧ cur.toList.take (n * 2) = xs := by
  rcases h.2 with ⟨_, h0⟩ | ⟨g, cap, cur, e, hb, hg, hc, hm, hs, ht⟩
  · omega
  · exact ⟨g, cap, cur, e, hb, hg, hc, by simpa [maxLen] using hm, hs, ht⟩
/-- slices.Insert of one pair. -/
theorem insert_calls (v : Value) (n i vb B : Nat) (xs : List Value) (s0 s1 : ByteArray) (w : World) (hown : w.ownsRow B 56 2 v n xs) (hi : i ≤ n) (hb : (n + 1) * 32 ≤ 140737488355328) (h1 : ∀ u ∈ xs, u.oneCell' = true)
    (hvb : w.heap[vb]? = some (.cells #[.string s0, .string s1] 56 (0, 0))) (hne : v.ownBlock ≠ some vb) (hB : B ≤ w.heap.size) :
    Calls Tryz.prog 122 #[v, .int .i64 (i : Int), .slice (some ⟨vb, 0, none⟩) 1 1] w fun e w' =>
      ∃ v', e = .returned v' ∧ w'.ownsRow B 56 2 v' (n + 1) (xs.take (i * 2) ++ [.string s0, .string s1] ++ xs.drop (i * 2)) ∧ Below B w w' := by
  by_cases hin : i = n
  · subst hin
    have := insert_end v i vb B xs s0 s1 w hown hb hvb hB
    have hl := hown.1
    rwa [List.take_of_length_le (by omega), List.drop_eq_nil_of_le (by omega), List.append_nil]
  · obtain ⟨g, cap, cur, rfl, hg, hh, hc, hm, hs, ht⟩ := own_at hown (by omega)
    by_cases hr : n + 1 ≤ cap
    · exact insert_shift g n cap i vb B xs cur s0 s1 w hh hr hm hs ht hown.1 (by omega) h1 hg hvb (by intro e; apply hne; rw [e]; rfl)
    · exact insert_grow g n cap i vb B xs cur s0 s1 w hh hc (by omega) hb ht hown.1 (by omega) h1 hB hvb

theorem delete_R {W : World} {base : Nat} {ok : Nat → Prop} {A : Option Addr} {c k : Nat} {l : List S56} (hR : Kd.R k56 56 W base ok (.slice A l.length c) l) (hk : k < l.length) :
    Calls Tryz.prog 110 #[.slice A l.length c, .int .i64 (k : Int), .int .i64 ((k : Int) + 1)] W fun e w' => ∃ v', e = .returned v' ∧ Kd.R k56 56 w' base (fun _ => True) v' (l.take k ++ l.drop (k + 1)) ∧ Below base W w' := by
  obtain ⟨inner, ho, hr⟩ := own_of_R hR
  obtain ⟨g, cap, cur, e, hb, hh, hc, hm, hs, ht⟩ := own_at ho (by omega)
  injection e with e1 _ e3
  subst e1
  subst e3
  refine (delete_calls g l.length c k base inner cur W hh hc hm hs ht ho.1 hk (reps_one' hr) hb).mono ?_
  rintro e w' ⟨rfl, hown, hbl⟩
  refine ⟨_, rfl, ?_, hbl⟩
  have hlen : (l.take k ++ l.drop (k + 1)).length = l.length - 1 := by rw [List.length_append, List.length_take, List.length_drop]; omega
  exact own_R (by rw [hlen]; exact hown) (reps_append (reps_take hr k (by omega)) (reps_drop hr (k + 1)))
theorem insert_R {W : World} {base : Nat} {ok : Nat → Prop} {v : Value} {k vb : Nat} {s0 s1 : ByteArray} {l : List S56} (hR : Kd.R k56 56 W base ok v l) (hk : k ≤ l.length) (hl : (l.length + 1) * 32 ≤ 140737488355328)
    (hvb : W.heap[vb]? = some (.cells #[.string s0, .string s1] 56 (0, 0))) (hne : v.ownBlock ≠ some vb) (hB : base ≤ W.heap.size) :
    Calls Tryz.prog 122 #[v, .int .i64 (k : Int), .slice (some ⟨vb, 0, none⟩) 1 1] W fun e w' => ∃ v', e = .returned v' ∧ Kd.R k56 56 w' base (fun _ => True) v' (l.take k ++ ⟨s0, s1⟩ :: l.drop k) ∧ Below base W w' := by
  obtain ⟨inner, ho, hr⟩ := own_of_R hR
  refine (insert_calls v l.length k vb base inner s0 s1 W ho hk hl (reps_one' hr) hvb hne hB).mono ?_
  rintro e w' ⟨v', rfl, hown, hbl⟩
  refine ⟨_, rfl, ?_, hbl⟩
  have hlen : (l.take k ++ ⟨s0, s1⟩ :: l.drop k).length = l.length + 1 := by rw [List.length_append, List.length_cons, List.length_take, List.length_drop]; omega
  have h1 : Reps (k56.K W) 2 [(⟨s0, s1⟩ : S56)] [.string s0, .string s1] := reps_one (k56_mk W ⟨s0, s1⟩) rfl
  have h2 := reps_append (reps_append (reps_take hr k hk) h1) (reps_drop hr k)
  rw [List.append_assoc, List.singleton_append] at h2
  exact own_R (by rw [hlen]; exact hown) h2
/-- The second half of an element is written. -/
theorem set_R {W : World} {base g off c k : Nat} {ok : Nat → Prop} {u : ByteArray} {l : List S56} (hR : Kd.R k56 56 W base ok (.slice (some ⟨g, off, none⟩) l.length c) l) (hk : k < l.length) :
    Kd.R k56 56 (W.setCell ⟨g, off + k * 2 + 1, none⟩ (.string u)) base (fun _ => True) (.slice (some ⟨g, off, none⟩) l.length c) (l.set k ⟨(l.getD k z56).f0, u⟩) ∧ base ≤ g ∧ W.frozen? ⟨g, off + k * 2 + 1, none⟩ = false ∧ ∃ x, W.cell? ⟨g, off + k * 2 + 1, none⟩ = some x := by
  obtain ⟨inner, ho, hr⟩ := own_of_R hR
  obtain ⟨g', cap, cur, e, hb, hh, hc, hm, hs, ht⟩ := own_at ho (by omega)
  injection e with e1 _ e3
  injection e1 with e1
  injection e1 with e1 e2 _
  subst e1
  subst e2
  subst e3
  have hkc : k * 2 + 1 < cur.size := by omega
  refine ⟨?_, hb, by simp [World.frozen?, hh], ⟨_, by simp only [Nat.zero_add]; rw [cell_of_row W g _ cur _ (0, 0) hh]; exact Array.getElem?_eq_getElem hkc⟩⟩
  rw [Nat.zero_add, setCell_eq_setRow W g (k * 2 + 1) cur _ (0, 0) _ hh]
  have hil := ho.1
  have e0 : l.getD k z56 = l[k] := by simp [List.getD, List.getElem?_eq_getElem hk]
  have hk1 := k56_open (hr.2 k _ (List.getElem?_eq_getElem hk))
  have hset : inner.set (k * 2 + 1) (.string u) = inner.take (k * 2) ++ [.string l[k].f0, .string u] ++ inner.drop ((k + 1) * 2) := by
    apply List.ext_getElem?
    intro j
    have hin : ∀ i, i < 2 → inner[k * 2 + i]? = ([.string l[k].f0, .string l[k].f1] : List Value)[i]? := fun i hi => by
      rw [← hk1, List.getElem?_take, if_pos hi, List.getElem?_drop]
    rw [List.getElem?_set, List.append_assoc]
    rcases Nat.lt_or_ge j (k * 2) with h | h
    · rw [if_neg (by omega), List.getElem?_append_left (by rw [List.length_take]; omega), List.getElem?_take, if_pos h]
    · rw [List.getElem?_append_right (by rw [List.length_take]; omega), List.length_take, Nat.min_eq_left (by omega)]
      rcases Nat.lt_or_ge j ((k + 1) * 2) with h' | h'
      · obtain rfl | rfl : j = k * 2 ∨ j = k * 2 + 1 := by omega
        · have := hin 0 (by omega)
          rw [if_neg (by omega), Nat.sub_self]
          simpa using this
        · rw [if_pos rfl, if_pos (by omega)]
          simp
      · rw [if_neg (by omega), List.getElem?_append_right (by simp; omega), List.getElem?_drop]
        congr 1
        simp
        omega
  refine own_R (cs := inner.set (k * 2 + 1) (.string u)) (w' := W) ⟨by rw [List.length_set, List.length_set]; exact ho.1, .inr ⟨g, c, _, by rw [List.length_set], hb, setRow_heap W g cur _ _ _ hh, by rw [List.length_set]; exact hc, by simpa [maxLen] using hm, by simp [hs], ?_⟩⟩ ?_
  · rw [List.length_set, Array.toList_setIfInBounds, List.take_set, ht]
  · have h1 : Reps (k56.K W) 2 [(⟨l[k].f0, u⟩ : S56)] [.string l[k].f0, .string u] := reps_one (k56_mk W ⟨l[k].f0, u⟩) rfl
    have h2 := reps_append (reps_append (reps_take hr k (by omega)) h1) (reps_drop hr (k + 1))
    rw [hset, e0, List.set_eq_take_append_cons_drop, if_pos hk]
    rw [List.append_assoc, List.singleton_append] at h2
    exact h2

def dropN (l : List S56) (a : ByteArray) : List S56 × Int := if fdB l a = true then (l.take (lbN l a) ++ l.drop (lbN l a + 1), 0) else (l, 5)
def impl_drop.f (l0 : List S56) (a1 : ByteArray) : Option (List S56 × Int) := if l0.length < 4398046511104 then some (dropN l0 a1) else none
set_option maxHeartbeats 4000000 in
set_option maxRecDepth 100000 in
theorem impl_drop.calls (A0 : Option Addr) (c0 : Nat) (l0 : List S56) (a1 : ByteArray) (r1 : List S56) (r2 : Int) (w : World) (hr0 : Kd.C k56 w A0 l0.length l0) (hc0 : l0.length ≤ c0) (h : impl_drop.f l0 a1 = some (r1, r2)) :
    Calls Tryz.prog 88 #[.slice A0 l0.length c0, .string a1] w fun e w' => ∃ v0_ : Value, e = .returned (.tuple #[v0_, .int .i64 r2]) ∧ Kd.R k56 56 w' w.heap.size (fun _ => True) v0_ r1 ∧ Below w.heap.size w w' := by
  unfold impl_drop.f at h
  by_cases hlt : l0.length < 4398046511104
  · rw [if_pos hlt] at h
    injection h with h
    have HCL := clone_calls A0 c0 l0 w hr0 (by omega)
    have hle := lbF_le l0 a1 l0.length 0 l0.length (Nat.zero_le _)
    have hfd : fdB l0 a1 = true → lbN l0 a1 < l0.length := fun hh => by
      unfold fdB at hh
      rw [Bool.and_eq_true] at hh
      exact of_decide_eq_true hh.1
    have HPA : ∀ A c W, Kd.C k56 W A l0.length l0 → l0.length ≤ c → Calls Tryz.prog 98 #[.slice A l0.length c, .string a1] W fun e w' => e = .returned (.tuple #[.int .i64 ((lbN l0 a1 : Nat) : Int), .bool (fdB l0 a1)]) ∧ Below W.heap.size W w' := fun A c W hC hc => impl_pairAt.calls A c l0 a1 _ _ W hC hc rfl
    unfold dropN at h
    clear hr0 hc0
    cases hq : fdB l0 a1 with
    | true =>
      rw [hq, if_pos rfl] at h
      rw [hq] at HPA
      have hk := hfd hq
      clear hfd hq hle
      generalize lbN l0 a1 = k at hk h HPA
      have hr1 : l0.take k ++ l0.drop (k + 1) = r1 := congrArg Prod.fst h
      have hr2 : (0 : Int) = r2 := congrArg Prod.snd h
      clear h
      have H1 := Aside0.mk hr1
      clear hr1
      subst hr2
      have HP := Aside0.mk HPA
      clear HPA
      generalize hn : l0.length = n at hlt hk HCL HP
      have HN := Aside0.mk hn
      clear hn
      have hk0 : (0 : Int) ≤ (k : Int) := by omega
      have hkn : (k : Int) + 1 ≤ 9223372036854775807 := by omega
      go_enter Tryz.func88, Tryz.ntmps88
      go_wp2_with (first
        | (go_at_call 109; refine HCL.mono ?_; rintro e w1 ⟨v, rfl, hR, hb1⟩; have HR := Aside0.mk hR; have HB1 := Aside0.mk hb1; obtain ⟨A1, c1, rfl, hl1, hC1⟩ := Kd.R_reads hR; rw [HN.out] at hl1 hC1 ⊢; have HC1 := Aside0.mk hC1; clear hR hb1 hC1)
        | (go_at_call 98; refine (HP.out _ _ _ HC1.out hl1).mono ?_; rintro e w2 ⟨rfl, hb2⟩; have HB2 := Aside0.mk hb2; clear hb2)
        | (go_at_call 110; have DL := delete_R (Kd.R_below HR.out HB2.out) (k := k) (by rw [HN.out]; exact hk); rw [HN.out] at DL; refine DL.mono ?_; rintro e w3 ⟨v3, rfl, hR3, hb3⟩; have HR3 := Aside0.mk hR3; have HB3 := Aside0.mk hb3; clear DL hR3 hb3))
      go_ret2
      exact ⟨_, rfl, by rw [← H1.out]; exact HR3.out, (HB1.out.trans (HB2.out.mono HB1.out.size)).trans HB3.out⟩
    | false =>
      rw [hq, if_neg (by simp)] at h
      rw [hq] at HPA
      clear hfd hq hle
      generalize lbN l0 a1 = k at HPA
      have hr1 : l0 = r1 := congrArg Prod.fst h
      have hr2 : (5 : Int) = r2 := congrArg Prod.snd h
      clear h
      subst hr1
      subst hr2
      have HP := Aside0.mk HPA
      clear HPA
      generalize hn : l0.length = n at hlt HCL HP
      have HN := Aside0.mk hn
      clear hn
      go_enter Tryz.func88, Tryz.ntmps88
      go_wp2_with (first
        | (go_at_call 109; refine HCL.mono ?_; rintro e w1 ⟨v, rfl, hR, hb1⟩; have HR := Aside0.mk hR; have HB1 := Aside0.mk hb1; obtain ⟨A1, c1, rfl, hl1, hC1⟩ := Kd.R_reads hR; rw [HN.out] at hl1 hC1 ⊢; have HC1 := Aside0.mk hC1; clear hR hb1 hC1)
        | (go_at_call 98; refine (HP.out _ _ _ HC1.out hl1).mono ?_; rintro e w2 ⟨rfl, hb2⟩; have HB2 := Aside0.mk hb2; clear hb2))
      go_ret2
      exact ⟨_, rfl, by rw [← HN.out]; exact Kd.R_below HR.out HB2.out, HB1.out.trans (HB2.out.mono HB1.out.size)⟩
  · rw [if_neg hlt] at h
    cases h
theorem first_R {W : World} {base c : Nat} {ok : Nat → Prop} {A : Option Addr} {l : List S56} (hR : Kd.R k56 56 W base ok (.slice A l.length c) l) (hk : 0 < l.length) : ∃ g, A = some ⟨g, 0, none⟩ := by
  obtain ⟨inner, ho, hr⟩ := own_of_R hR
  obtain ⟨g, cap, cur, e, _⟩ := own_at ho hk
  injection e with e1
  exact ⟨g, e1⟩
def putN (l : List S56) (a v : ByteArray) : List S56 × Int := if fdB l a = true then (l.set (lbN l a) ⟨(l.getD (lbN l a) z56).f0, v⟩, 0) else if l.length = 400 then (l, 7) else (l.take (lbN l a) ++ ⟨a, v⟩ :: l.drop (lbN l a), 0)
def impl_put.f (l0 : List S56) (a1 a2 : ByteArray) : Option (List S56 × Int) := if l0.length < 4398046511104 then some (putN l0 a1 a2) else none
set_option maxHeartbeats 8000000 in
set_option maxRecDepth 100000 in
theorem impl_put.calls (A0 : Option Addr) (c0 : Nat) (l0 : List S56) (a1 a2 : ByteArray) (r1 : List S56) (r2 : Int) (w : World) (hr0 : Kd.C k56 w A0 l0.length l0) (hc0 : l0.length ≤ c0) (h : impl_put.f l0 a1 a2 = some (r1, r2)) :
    Calls Tryz.prog 111 #[.slice A0 l0.length c0, .string a1, .string a2] w fun e w' => ∃ v0_ : Value, e = .returned (.tuple #[v0_, .int .i64 r2]) ∧ Kd.R k56 56 w' w.heap.size (fun _ => True) v0_ r1 ∧ Below w.heap.size w w' := by
  unfold impl_put.f at h
  by_cases hlt : l0.length < 4398046511104
  · rw [if_pos hlt] at h
    injection h with h
    have HCL := clone_calls A0 c0 l0 w hr0 (by omega)
    have hle : lbN l0 a1 ≤ l0.length := lbF_le l0 a1 l0.length 0 l0.length (Nat.zero_le _)
    have hfd : fdB l0 a1 = true → lbN l0 a1 < l0.length := fun hh => by
      unfold fdB at hh
      rw [Bool.and_eq_true] at hh
      exact of_decide_eq_true hh.1
    have HPA : ∀ A c W, Kd.C k56 W A l0.length l0 → l0.length ≤ c → Calls Tryz.prog 98 #[.slice A l0.length c, .string a1] W fun e w' => e = .returned (.tuple #[.int .i64 ((lbN l0 a1 : Nat) : Int), .bool (fdB l0 a1)]) ∧ Below W.heap.size W w' := fun A c W hC hc => impl_pairAt.calls A c l0 a1 _ _ W hC hc rfl
    have hu := Tryz.underlying24
    have hu2 := Tryz.underlying56
    unfold putN at h
    clear hr0 hc0
    cases hq : fdB l0 a1 with
    | true =>
      rw [hq, if_pos rfl] at h
      rw [hq] at HPA
      have hk := hfd hq
      clear hfd hq hle
      generalize lbN l0 a1 = k at hk h HPA
      have hr1 : l0.set k ⟨(l0.getD k z56).f0, a2⟩ = r1 := congrArg Prod.fst h
      have hr2 : (0 : Int) = r2 := congrArg Prod.snd h
      clear h
      have H1 := Aside0.mk hr1
      clear hr1
      subst hr2
      have HP := Aside0.mk HPA
      clear HPA
      have HSR := Aside0.mk (fun (W : World) (base g c : Nat) (ok : Nat → Prop) (hR : Kd.R k56 56 W base ok (.slice (some ⟨g, 0, none⟩) l0.length c) l0) => set_R (u := a2) hR hk)
      have HFR := Aside0.mk (fun (W : World) (base c : Nat) (ok : Nat → Prop) (A : Option Addr) (hR : Kd.R k56 56 W base ok (.slice A l0.length c) l0) => first_R hR (by omega))
      generalize hn : l0.length = n at hlt hk HCL HP
      have HN := Aside0.mk hn
      clear hn
      have hk0 : (0 : Int) ≤ (k : Int) := by omega
      have hkn : (k : Int) < (n : Int) := by omega
      go_enter Tryz.func111, Tryz.ntmps111
      go_wp2_with (first
        | (go_at_call 109; refine HCL.mono ?_; rintro e w1 ⟨v, rfl, hR, hb1⟩; have HB1 := Aside0.mk hb1; obtain ⟨A1, c1, rfl, hl1, hC1⟩ := Kd.R_reads hR; obtain ⟨g, rfl⟩ := HFR.out _ _ _ _ _ hR; have HR := Aside0.mk hR; rw [HN.out] at hl1 hC1 ⊢; have HC1 := Aside0.mk hC1; clear hR hb1 hC1)
        | (go_at_call 98; refine (HP.out _ _ _ HC1.out hl1).mono ?_; rintro e w2 ⟨rfl, hb2⟩; have HB2 := Aside0.mk hb2; clear hb2; obtain ⟨hS, hbg, hfz, x, hx⟩ := HSR.out _ _ _ _ _ (Kd.R_below HR.out HB2.out); simp only [Nat.zero_add] at hS hfz hx; have HS := Aside0.mk hS; have HBG := Aside0.mk hbg; clear hS hbg))
      go_ret2
      exact ⟨_, rfl, by rw [← H1.out, ← HN.out]; exact HS.out, Below.setCell (HB1.out.trans (HB2.out.mono HB1.out.size)) HBG.out _⟩
    | false =>
      rw [hq, if_neg (by simp)] at h
      rw [hq] at HPA
      clear hfd hq
      generalize lbN l0 a1 = k at hle h HPA
      by_cases hfull : l0.length = 400
      · rw [if_pos hfull] at h
        have hr1 : l0 = r1 := congrArg Prod.fst h
        have hr2 : (7 : Int) = r2 := congrArg Prod.snd h
        clear h hle
        subst hr1
        subst hr2
        have HP := Aside0.mk HPA
        clear HPA
        generalize hn : l0.length = n at hlt HCL HP hfull
        have HN := Aside0.mk hn
        clear hn
        subst hfull
        go_enter Tryz.func111, Tryz.ntmps111
        go_wp2_with (first
          | (go_at_call 109; refine HCL.mono ?_; rintro e w1 ⟨v, rfl, hR, hb1⟩; have HR := Aside0.mk hR; have HB1 := Aside0.mk hb1; obtain ⟨A1, c1, rfl, hl1, hC1⟩ := Kd.R_reads hR; rw [HN.out] at hl1 hC1 ⊢; have HC1 := Aside0.mk hC1; clear hR hb1 hC1)
          | (go_at_call 98; refine (HP.out _ _ _ HC1.out hl1).mono ?_; rintro e w2 ⟨rfl, hb2⟩; have HB2 := Aside0.mk hb2; clear hb2))
        go_ret2
        exact ⟨_, rfl, by rw [← HN.out]; exact Kd.R_below HR.out HB2.out, HB1.out.trans (HB2.out.mono HB1.out.size)⟩
      · rw [if_neg hfull] at h
        have hr1 : l0.take k ++ ⟨a1, a2⟩ :: l0.drop k = r1 := congrArg Prod.fst h
        have hr2 : (0 : Int) = r2 := congrArg Prod.snd h
        clear h
        have H1 := Aside0.mk hr1
        clear hr1
        subst hr2
        have HP := Aside0.mk HPA
        clear HPA
        have HIR := Aside0.mk (fun (W : World) (base vb : Nat) (ok : Nat → Prop) (v : Value) (hR : Kd.R k56 56 W base ok v l0) => insert_R (s0 := a1) (s1 := a2) (vb := vb) hR hle (by omega))
        generalize hn : l0.length = n at hlt hle HCL HP hfull
        have HN := Aside0.mk hn
        clear hn
        have hk0 : (0 : Int) ≤ (k : Int) := by omega
        have hkn : (k : Int) ≤ (n : Int) := by omega
        have hf2 : ((n : Int) == 400) = false := by simp; omega
        clear hfull
        go_enter Tryz.func111, Tryz.ntmps111
        go_wp2_with (first
          | (go_at_call 109; refine HCL.mono ?_; rintro e w1 ⟨v, rfl, hR, hb1⟩; have HR := Aside0.mk hR; have HB1 := Aside0.mk hb1; obtain ⟨A1, c1, rfl, hl1, hC1⟩ := Kd.R_reads hR; rw [HN.out] at hl1 hC1 ⊢; have HC1 := Aside0.mk hC1; clear hR hb1 hC1)
          | (go_at_call 98; refine (HP.out _ _ _ HC1.out hl1).mono ?_; rintro e w2 ⟨rfl, hb2⟩; have HB2 := Aside0.mk hb2; clear hb2)
          | (go_at_call 122; have hRa := Kd.R_alloc (Kd.R_below HR.out HB2.out) (.cells #[.string a1, .string a2] 56); have HIN := HIR.out _ _ w2.heap.size _ _ hRa (heap_alloc_new w2 _) (by intro e; have := own_lt (own_of_R (Kd.R_below HR.out HB2.out)).choose_spec.1 _ e; omega) (by have := HB1.out.size; have := HB2.out.size; simp; omega); rw [HN.out] at HIN; refine HIN.mono ?_; rintro e w3 ⟨v3, rfl, hR3, hb3⟩; have HR3 := Aside0.mk hR3; have HB3 := Aside0.mk hb3; clear HIN hRa hR3 hb3))
        go_ret2
        exact ⟨_, rfl, by rw [← H1.out]; exact HR3.out, (Below.alloc (HB1.out.trans (HB2.out.mono HB1.out.size)) (by have := HB1.out.size; have := HB2.out.size; omega) _).trans HB3.out⟩
  · rw [if_neg hlt] at h
    cases h
end Go.Proofs.YtpkfdjlmflmilaaGreatDoor.Q
end
section
namespace Go.Proofs.YtpkfdjlmflmilaaGreatDoor.Q
open Go.RowKit Go.Proofs.YtpkfdjlmflmilaaGreatDoorW.PrintWords Go.Proofs.YtpkfdjlmflmilaaGreatDoorW.PrintLast Go.Proofs.YtpkfdjlmflmilaaGreatDoorW.PrintMore
attribute [local go_sem] max2_int min2_int max_two min_two max_three min_three max_four min_four   -- for this text's walks alone
set_option linter.unusedVariables false
set_option linter.unusedSimpArgs false

/-! ### impl_putAmount: function 90 -/
def impl_putAmount.f (l0 : List (S56)) (a1 : ByteArray) (a2 : Int) : Option ((List (S56)) × Int) := if a2 > 0 then ((impl_amountText.f a2).bind fun t294 => ((impl_put.f l0 a1 t294).bind fun bt295 => (some (bt295.1, bt295.2)))) else ((impl_drop.f l0 a1).bind fun bt299 => (some (bt299.1, 0)))
set_option maxHeartbeats 8000000 in
set_option maxRecDepth 100000 in
theorem impl_putAmount.calls (A0 : Option Addr) (c0 : Nat) (l0 : List (S56)) (a1 : ByteArray) (a2 : Int) (r1 : List (S56)) (r2 : Int) (w : World) (hr0 : Kd.C k56 w A0 l0.length l0) (hc0 : l0.length ≤ c0) (htab : Tb.TB w) (h : impl_putAmount.f l0 a1 a2 = some (r1, r2)) :
    Calls Tryz.prog 90 #[.slice A0 l0.length c0, .string a1, .int .i64 a2] w fun e w' => ∃ v0_ : Value, e = .returned (.tuple #[v0_, .int .i64 r2]) ∧ Kd.R k56 56 w' w.heap.size (fun _ => True) v0_ r1 ∧ Below w.heap.size w w' := by
  have HT := Aside0.mk htab
  clear htab
  have HR0 := Aside0.mk hr0
  have HC0 := Aside0.mk hc0
  clear hr0 hc0
  have HB := Aside0.mk (Below.refl w.heap.size w)
  have H : (if a2 > 0 then ((impl_amountText.f a2).bind fun t294 => ((impl_put.f l0 a1 t294).bind fun bt295 => (some (bt295.1, bt295.2)))) else ((impl_drop.f l0 a1).bind fun bt299 => (some (bt299.1, 0)))) = some (r1, r2) := h
  clear h
  by_cases c4 : a2 > 0
  · rw [if_pos c4] at H
    have c4b0 : decide (0 < a2) = true := decide_eq_true c4
    clear c4
    replace H := Option.bind_eq_some_iff.mp H
    obtain ⟨t294, A50, H⟩ := H
    replace H : ((impl_put.f l0 a1 t294).bind fun bt295 => (some (bt295.1, bt295.2))) = some (r1, r2) := H
    have A5 := Aside0.mk A50
    clear A50
    replace H := Option.bind_eq_some_iff.mp H
    obtain ⟨⟨t295, t296⟩, A60, H⟩ := H
    replace H : (some (t295, t296)) = some (r1, r2) := H
    have A6 := Aside0.mk A60
    clear A60
    simp only [Option.some.injEq, Prod.mk.injEq] at H
    obtain ⟨rfl, rfl⟩ := H
    go_enter Tryz.func90, Tryz.ntmps90
    go_wp2_with (first | ((with_reducible refine gate_callee (f := 101) rfl ?_); refine goesL_ (some 15) rfl rfl Tryz.func101 (by kernel_rfl) rfl #[.int .i64 a2] rfl (by (try simp only [List.map_toArray, List.map_cons, List.map_nil]); first | done | rfl | (simp only [List.length_drop, List.length_take]; rfl)) ?_; (with_reducible refine (impl_amountText.calls a2 t294 _ ?tb1 A5.out).mono ?_); (case tb1 => exact Tb.TB.below HT.out (by repeat (first | (with_reducible first | exact HB.out | apply below_alloc | apply pw_below_drewN | apply below_drew1) | exact HB.out)) (Nat.le_refl _)); rintro e w7 ⟨rfl, hb⟩; refine ⟨_, rfl, ?_⟩; have n0_ := Aside0.mk (below_step (by repeat (first | (with_reducible first | exact HB.out | apply below_alloc | apply pw_below_drewN | apply below_drew1) | exact HB.out)) hb); clear HB; have HB := n0_; clear n0_; (try clear hb); (try clear hb2); (try clear hk); (try clear hi)) | ((with_reducible refine gate_callee (f := 111) rfl ?_); refine goesL_ (some 16) rfl rfl Tryz.func111 (by kernel_rfl) rfl #[.slice A0 l0.length c0, .string a1, .string t294] rfl (by (try simp only [List.map_toArray, List.map_cons, List.map_nil]); first | done | rfl | (simp only [List.length_drop, List.length_take]; rfl)) ?_; (with_reducible refine (impl_put.calls _ _ l0 a1 t294 t295 t296 _ ?side1 ?side2 A6.out).mono ?_); (case side1 => repeat (first | exact (Kd.C_below HR0.out HB.out) | (with_reducible refine Kd.C_alloc ?_ _) | (with_reducible refine Kd.C_drewN ?_ _) | (with_reducible refine Kd.C_drew ?_))); (case side2 => exact HC0.out); rintro e w8 ⟨v297, rfl, ho0, hb⟩; refine ⟨_, rfl, ?_⟩; have n0_ := Aside0.mk (Kd.R_lower ho0 (below_size (by repeat (first | (with_reducible first | exact HB.out | apply below_alloc | apply pw_below_drewN | apply below_drew1) | exact HB.out)))); have n1_ := Aside0.mk (below_step (by repeat (first | (with_reducible first | exact HB.out | apply below_alloc | apply pw_below_drewN | apply below_drew1) | exact HB.out)) hb); clear HB; have HO298 := n0_; have HB := n1_; clear n0_ n1_; (try clear hb); (try clear hb2); (try clear hk); (try clear hi); (try clear ho0)))
    go_ret2
    exact ⟨_, by first | rfl | (simp [errW_none, errW_some] <;> rfl) | (simp [*, errW_none, errW_some] <;> rfl), by (with_reducible repeat (first | apply Kd.R_alloc | apply Kd.R_drewN | apply Kd.R_drew)); exact HO298.out, by repeat (first | (with_reducible first | exact HB.out | apply below_alloc | apply pw_below_drewN | apply below_drew1) | exact HB.out)⟩
  · rw [if_neg c4] at H
    have c4b0 : decide (0 < a2) = false := decide_eq_false c4
    clear c4
    replace H := Option.bind_eq_some_iff.mp H
    obtain ⟨⟨t299, t300⟩, A90, H⟩ := H
    replace H : (some (t299, 0)) = some (r1, r2) := H
    have A9 := Aside0.mk A90
    clear A90
    simp only [Option.some.injEq, Prod.mk.injEq] at H
    obtain ⟨rfl, rfl⟩ := H
    go_enter Tryz.func90, Tryz.ntmps90
    go_wp2_with (first | ((with_reducible refine gate_callee (f := 88) rfl ?_); refine goesL_ (some 22) rfl rfl Tryz.func88 (by kernel_rfl) rfl #[.slice A0 l0.length c0, .string a1] rfl (by (try simp only [List.map_toArray, List.map_cons, List.map_nil]); first | done | rfl | (simp only [List.length_drop, List.length_take]; rfl)) ?_; (with_reducible refine (impl_drop.calls _ _ l0 a1 t299 t300 _ ?side1 ?side2 A9.out).mono ?_); (case side1 => repeat (first | exact HR0.out | (with_reducible refine Kd.C_alloc ?_ _) | (with_reducible refine Kd.C_drewN ?_ _) | (with_reducible refine Kd.C_drew ?_))); (case side2 => exact HC0.out); rintro e w10 ⟨v301, rfl, ho0, hb⟩; refine ⟨_, rfl, ?_⟩; have n0_ := Aside0.mk (Kd.R_lower ho0 (below_size (by repeat (first | (with_reducible first | exact HB.out | apply below_alloc | apply pw_below_drewN | apply below_drew1) | exact HB.out)))); have n1_ := Aside0.mk (below_step (by repeat (first | (with_reducible first | exact HB.out | apply below_alloc | apply pw_below_drewN | apply below_drew1) | exact HB.out)) hb); clear HB; have HO302 := n0_; have HB := n1_; clear n0_ n1_; (try clear hb); (try clear hb2); (try clear hk); (try clear hi); (try clear ho0)))
    go_ret2
    exact ⟨_, by first | rfl | (simp [errW_none, errW_some] <;> rfl) | (simp [*, errW_none, errW_some] <;> rfl), by (with_reducible repeat (first | apply Kd.R_alloc | apply Kd.R_drewN | apply Kd.R_drew)); exact HO302.out, by repeat (first | (with_reducible first | exact HB.out | apply below_alloc | apply pw_below_drewN | apply below_drew1) | exact HB.out)⟩


/-! ### impl_AddAmount: function 91 -/
def impl_AddAmount.j0 : Nat → Int → Int → Bool → Option (Int × Int)
  | 0, _, _, _ => none
  | k + 1, x0, x1, x6 => if x6 = true then (some (0, 4)) else (if (wrap64 (x0 + x1)) > 1000000000000000000 then (some (0, 13)) else (some (wrap64 (x0 + x1), 0)))
def impl_AddAmount.f (k : Nat) (a0 : Int) (a1 : Int) : Option (Int × Int) := (impl_isAmount.f a0).bind fun t310 => (if t310 = true then ((impl_isAmount.f a1).bind fun t311 => (impl_AddAmount.j0 k a0 a1 (!t311))) else (impl_AddAmount.j0 k a0 a1 true))
set_option maxHeartbeats 8000000 in
set_option maxRecDepth 100000 in
theorem impl_AddAmount.calls (k : Nat) (a0 : Int) (a1 : Int) (r1 : Int) (r2 : Int) (w : World) (h : impl_AddAmount.f k a0 a1 = some (r1, r2)) :
    Calls Tryz.prog 91 #[.int .i64 a0, .int .i64 a1] w fun e w' => e = .returned (.tuple #[.int .i64 r1, .int .i64 r2]) ∧ Drawn0 w w' := by
  have H : ((impl_isAmount.f a0).bind fun t310 => (if t310 = true then ((impl_isAmount.f a1).bind fun t311 => (impl_AddAmount.j0 k a0 a1 (!t311))) else (impl_AddAmount.j0 k a0 a1 true))) = some (r1, r2) := h
  clear h
  have HC3 := Aside0.mk H
  clear H
  go_enter Tryz.func91, Tryz.ntmps91
  go_upto_region 1 with (fail)
  go_cut [6] (fun v6 wc => ∃ (kq : Nat) (x6_2 : Bool), v6 = .bool x6_2 ∧ Aside0 (impl_AddAmount.j0 kq a0 a1 x6_2 = some (r1, r2)) ∧ Aside0 (kq ≤ k) ∧ Drawn0 w wc)
  case first =>
    have H := HC3.out
    clear HC3
    replace H := Option.bind_eq_some_iff.mp H
    obtain ⟨t310, A40, H⟩ := H
    replace H : (if t310 = true then ((impl_isAmount.f a1).bind fun t311 => (impl_AddAmount.j0 k a0 a1 (!t311))) else (impl_AddAmount.j0 k a0 a1 true)) = some (r1, r2) := H
    have A4 := Aside0.mk A40
    clear A40
    by_cases c5 : t310 = true
    · subst c5
      have H1 : ((impl_isAmount.f a1).bind fun t311 => (impl_AddAmount.j0 k a0 a1 (!t311))) = some (r1, r2) := by rw [if_pos rfl] at H; exact H
      clear H
      have H := H1
      clear H1
      replace H := Option.bind_eq_some_iff.mp H
      obtain ⟨t311, A60, H⟩ := H
      replace H : (impl_AddAmount.j0 k a0 a1 (!t311)) = some (r1, r2) := H
      have A6 := Aside0.mk A60
      clear A60
      have H' := Aside0.mk H
      clear H
      go_wp2_with (first | ((with_reducible refine gate_callee (f := 100) rfl ?_); refine goesL_ (some 8) rfl rfl Tryz.func100 (by kernel_rfl) rfl #[.int .i64 a0] rfl (by (try simp only [List.map_toArray, List.map_cons, List.map_nil]); first | done | rfl | (simp only [List.length_drop, List.length_take]; rfl)) ?_; (with_reducible refine (impl_isAmount.calls a0 true _ A4.out).mono ?_); rintro e w' ⟨rfl, ⟨nd, rfl⟩⟩; refine ⟨_, rfl, ?_⟩) | (go_at_call 100; (with_reducible refine (impl_isAmount.calls a1 t311 _ A6.out).mono ?_); rintro e w' ⟨rfl, ⟨nd, rfl⟩⟩))
      go_meet
      case rel => exact ⟨_, (!t311), (by first | rfl | (simp; done) | (simp [*]; done)), H', ⟨by first | omega | exact Nat.le_refl _⟩, by repeat (first | exact Drawn0.refl _ | apply Drawn0.step)⟩
    · replace c5 := Bool.eq_false_iff.mpr c5
      subst c5
      have H1 : (impl_AddAmount.j0 k a0 a1 true) = some (r1, r2) := by rw [if_neg (show ¬ (false = true) by decide)] at H; exact H
      clear H
      have H := H1
      clear H1
      have H' := Aside0.mk H
      clear H
      go_wp2_with (first | ((with_reducible refine gate_callee (f := 100) rfl ?_); refine goesL_ (some 8) rfl rfl Tryz.func100 (by kernel_rfl) rfl #[.int .i64 a0] rfl (by (try simp only [List.map_toArray, List.map_cons, List.map_nil]); first | done | rfl | (simp only [List.length_drop, List.length_take]; rfl)) ?_; (with_reducible refine (impl_isAmount.calls a0 false _ A4.out).mono ?_); rintro e w' ⟨rfl, ⟨nd, rfl⟩⟩; refine ⟨_, rfl, ?_⟩))
      go_meet
      case rel => exact ⟨_, (true), (by first | rfl | (simp; done) | (simp [*]; done)), H', ⟨by first | omega | exact Nat.le_refl _⟩, by repeat (first | exact Drawn0.refl _ | apply Drawn0.step)⟩
  case rest =>
    clear HC3
    try clear c1
    try clear p2
    try clear c5
    obtain ⟨kq, x6_2, rfl, HA, HJ2, ⟨mc2, rfl⟩⟩ := hcut
    cases kq with
    | zero => exact absurd HA.out (by simp [impl_AddAmount.j0])
    | succ kj2 =>
      have H := HA.out
      clear HA
      simp only [impl_AddAmount.j0] at H
      by_cases c7 : x6_2 = true
      · subst c7
        have H1 : (some (0, 4)) = some (r1, r2) := by rw [if_pos rfl] at H; exact H
        clear H
        have H := H1
        clear H1
        simp only [Option.some.injEq, Prod.mk.injEq] at H
        obtain ⟨rfl, rfl⟩ := H
        go_wp2
        go_ret2
        exact ⟨by first | rfl | (simp; done) | (simp [*]; done), by repeat (first | exact Drawn0.refl _ | apply Drawn0.step)⟩
      · replace c7 := Bool.eq_false_iff.mpr c7
        subst c7
        have H1 : (if (wrap64 (a0 + a1)) > 1000000000000000000 then (some (0, 13)) else (some (wrap64 (a0 + a1), 0))) = some (r1, r2) := by rw [if_neg (show ¬ (false = true) by decide)] at H; exact H
        clear H
        have H := H1
        clear H1
        by_cases c8 : (wrap64 (a0 + a1)) > 1000000000000000000
        · rw [if_pos c8] at H
          have c8b0 : decide (1000000000000000000 < (wrap64 (a0 + a1))) = true := decide_eq_true c8
          clear c8
          simp only [Option.some.injEq, Prod.mk.injEq] at H
          obtain ⟨rfl, rfl⟩ := H
          go_wp2
          go_ret2
          exact ⟨by first | rfl | (simp; done) | (simp [*]; done), by repeat (first | exact Drawn0.refl _ | apply Drawn0.step)⟩
        · rw [if_neg c8] at H
          have c8b0 : decide (1000000000000000000 < (wrap64 (a0 + a1))) = false := decide_eq_false c8
          clear c8
          simp only [Option.some.injEq, Prod.mk.injEq] at H
          obtain ⟨rfl, rfl⟩ := H
          go_wp2
          go_ret2
          exact ⟨by first | rfl | (simp; done) | (simp [*]; done), by repeat (first | exact Drawn0.refl _ | apply Drawn0.step)⟩


/-! ### impl_balanceKey: function 53 -/
def impl_balanceKey.f (a0 : ByteArray) (a1 : ByteArray) : Option (ByteArray) := if 2 + a0.size ≤ 9223372036854775807 then (if ((⟨#[98, 47]⟩ : ByteArray) ++ a0).size + 1 ≤ 9223372036854775807 then (if (((⟨#[98, 47]⟩ : ByteArray) ++ a0) ++ (⟨#[47]⟩ : ByteArray)).size + a1.size ≤ 9223372036854775807 then (some ((((⟨#[98, 47]⟩ : ByteArray) ++ a0) ++ (⟨#[47]⟩ : ByteArray)) ++ a1)) else (none)) else (none)) else (none)
set_option maxHeartbeats 8000000 in
set_option maxRecDepth 100000 in
theorem impl_balanceKey.calls (a0 : ByteArray) (a1 : ByteArray) (r : ByteArray) (w : World) (h : impl_balanceKey.f a0 a1 = some r) :
    Calls Tryz.prog 53 #[.string a0, .string a1] w fun e w' => e = .returned (.string r) ∧ Drawn0 w w' := by
  have H : (if 2 + a0.size ≤ 9223372036854775807 then (if ((⟨#[98, 47]⟩ : ByteArray) ++ a0).size + 1 ≤ 9223372036854775807 then (if (((⟨#[98, 47]⟩ : ByteArray) ++ a0) ++ (⟨#[47]⟩ : ByteArray)).size + a1.size ≤ 9223372036854775807 then (some ((((⟨#[98, 47]⟩ : ByteArray) ++ a0) ++ (⟨#[47]⟩ : ByteArray)) ++ a1)) else (none)) else (none)) else (none)) = some r := h
  clear h
  by_cases c3 : 2 + a0.size ≤ 9223372036854775807
  · rw [if_pos c3] at H
    have c3b0 := eq_true c3
    have c3b1 : decide (2 + a0.size ≤ 9223372036854775807) = true := decide_eq_true c3
    try have c3b2 : (9223372036854775807 < 2 + a0.size) = False := eq_false (Nat.not_lt.2 c3)
    by_cases c4 : ((⟨#[98, 47]⟩ : ByteArray) ++ a0).size + 1 ≤ 9223372036854775807
    · rw [if_pos c4] at H
      have c4b0 := eq_true c4
      have c4b1 : decide (((⟨#[98, 47]⟩ : ByteArray) ++ a0).size + 1 ≤ 9223372036854775807) = true := decide_eq_true c4
      try have c4b2 : (9223372036854775807 < ((⟨#[98, 47]⟩ : ByteArray) ++ a0).size + 1) = False := eq_false (Nat.not_lt.2 c4)
      try simp only [ByteArray.size_append, show (⟨#[98, 47]⟩ : ByteArray).size = 2 from rfl] at c4b2
      by_cases c5 : (((⟨#[98, 47]⟩ : ByteArray) ++ a0) ++ (⟨#[47]⟩ : ByteArray)).size + a1.size ≤ 9223372036854775807
      · rw [if_pos c5] at H
        have c5b0 := eq_true c5
        have c5b1 : decide ((((⟨#[98, 47]⟩ : ByteArray) ++ a0) ++ (⟨#[47]⟩ : ByteArray)).size + a1.size ≤ 9223372036854775807) = true := decide_eq_true c5
        try have c5b2 : (9223372036854775807 < (((⟨#[98, 47]⟩ : ByteArray) ++ a0) ++ (⟨#[47]⟩ : ByteArray)).size + a1.size) = False := eq_false (Nat.not_lt.2 c5)
        try simp only [ByteArray.size_append, show (⟨#[98, 47]⟩ : ByteArray).size = 2 from rfl, show (⟨#[47]⟩ : ByteArray).size = 1 from rfl] at c5b2
        obtain rfl := Option.some.inj H
        go_enter Tryz.func53, Tryz.ntmps53
        go_wp2
        go_ret
        exact ⟨by first | rfl | (simp; done) | (simp [*]; done), by repeat (first | exact Drawn0.refl _ | apply Drawn0.step)⟩
      · rw [if_neg c5] at H
        exact absurd H (by simp)
    · rw [if_neg c4] at H
      exact absurd H (by simp)
  · rw [if_neg c3] at H
    exact absurd H (by simp)

/-! ### impl_supplyKey: function 50 -/
/-! ### spec_SupplyOf: function 23 -/
/-! ### impl_SupplyOf: function 24 -/
/-! ### impl_BalanceOf: function 26 -/


end Go.Proofs.YtpkfdjlmflmilaaGreatDoor.Q
end
section
namespace Go.Proofs.YtpkfdjlmflmilaaGreatDoor.Pure
open Go.RowKit Go.Proofs.YtpkfdjlmflmilaaGreatDoor.Q Go.Proofs.YtpkfdjlmflmilaaGreatDoorW.PrintWords Go.Proofs.YtpkfdjlmflmilaaGreatDoorW.PrintLast
set_option linter.unusedVariables false

theorem list_inj {a b : ByteArray} (h : a.toList = b.toList) : a = b := Go.WideShapes.bytes_inj (by rw [← Lib.toList_data, ← Lib.toList_data]; exact h)
theorem list_iff {a b : ByteArray} : a.toList = b.toList ↔ a = b := ⟨list_inj, fun h => by rw [h]⟩
theorem up64 {i n : Nat} (h : i < n) (hn : n ≤ 9223372036854775807) : wrap64 ((i : Int) + 1) = ((i + 1 : Nat) : Int) := by unfold wrap64; omega
noncomputable instance decP : DecidableEq S56 := fun a b => Classical.propDecidable (a = b)
def cv (x : S52) : S56 := ⟨x.f0, x.f1⟩
def wfP (x : S52) : Prop := x.f0.size ≤ 9223372036854775807 ∧ x.f1.size ≤ 9223372036854775807

/-! ### sizes: an answer, and where it is not negative the list is short -/
theorem szPair_some (a b : ByteArray) (n : Int) (ha : a.size ≤ 9223372036854775807) (hb : b.size ≤ 9223372036854775807) (h0 : 0 ≤ n) (h1 : n ≤ 1048576) :
    ∃ r, laws_szPair.f a b n = some r ∧ (0 ≤ r → r ≤ n ∧ (a.size : Int) + b.size ≤ n - r) := by
  unfold laws_szPair.f
  have e1 : wrap64 (n - (a.size : Int)) = n - a.size := by unfold wrap64; omega
  rw [e1]
  by_cases h : n - (a.size : Int) < 0
  · rw [if_pos h]; exact ⟨-1, rfl, fun h => by omega⟩
  · have e2 : wrap64 (n - (a.size : Int) - (b.size : Int)) = n - a.size - b.size := by unfold wrap64; omega
    rw [if_neg h, e2]
    by_cases h' : n - (a.size : Int) - (b.size : Int) < 0
    · rw [if_pos h']; exact ⟨-1, rfl, fun h => by omega⟩
    · rw [if_neg h']; exact ⟨_, rfl, fun _ => by omega⟩
theorem szPairS_l0 (l : List S52) (hw : ∀ x ∈ l, wfP x) (hl : l.length ≤ 9223372036854775807) (d : Nat) : ∀ (i : Nat) (n : Int), l.length - i = d → 0 ≤ n → n ≤ 1048576 →
    ∃ r, ∀ k, d < k → laws_szPairS.l0 k l n (i : Int) = some r := by
  induction d with
  | zero =>
    intro i n hd h0 h1
    refine ⟨n, fun k hk => ?_⟩
    obtain ⟨k, rfl⟩ : ∃ m, k = m + 1 := ⟨k - 1, by omega⟩
    simp only [laws_szPairS.l0]
    rw [if_neg (by omega)]
  | succ d ih =>
    intro i n hd h0 h1
    have hlt : i < l.length := by omega
    have hx : wfP (rd_T52 l (i : Int)) := by
      have : rd_T52 l (i : Int) = l[i] := by simp [rd_T52, List.getD, List.getElem?_eq_getElem hlt]
      rw [this]; exact hw _ (List.getElem_mem hlt)
    obtain ⟨r, hr, hr'⟩ := szPair_some _ _ n hx.1 hx.2 h0 h1
    by_cases h : r < 0
    · refine ⟨-1, fun k hk => ?_⟩
      obtain ⟨k, rfl⟩ : ∃ m, k = m + 1 := ⟨k - 1, by omega⟩
      simp only [laws_szPairS.l0]
      rw [if_pos (by omega), if_pos (by omega), hr]
      simp only [Option.bind_some]
      rw [if_pos h]
    · obtain ⟨r', h'⟩ := ih (i + 1) r (by omega) (by omega) (by have := hr' (by omega); omega)
      refine ⟨r', fun k hk => ?_⟩
      obtain ⟨k, rfl⟩ : ∃ m, k = m + 1 := ⟨k - 1, by omega⟩
      simp only [laws_szPairS.l0]
      rw [if_pos (by omega), if_pos (by omega), hr]
      simp only [Option.bind_some]
      rw [if_neg h, up64 hlt hl]
      exact h' k (by omega)
theorem szPairS_eq (l : List S52) (hw : ∀ x ∈ l, wfP x) (hl : l.length ≤ 9223372036854775807) : ∃ r, (∀ k, l.length < k → laws_szPairS.f k l 1048576 = some r) ∧ (0 ≤ r → l.length ≤ 1048576) := by
  have e1 : wrap64 (1048576 - (l.length : Int)) = 1048576 - l.length := by unfold wrap64; omega
  unfold laws_szPairS.f
  rw [e1]
  by_cases h : 1048576 - (l.length : Int) < 0
  · exact ⟨-1, fun k _ => by rw [if_pos h], fun h => by omega⟩
  · obtain ⟨r, hr⟩ := szPairS_l0 l hw hl l.length 0 (1048576 - l.length) (by omega) (by omega) (by omega)
    exact ⟨r, fun k hk => by rw [if_neg h]; exact hr k hk, fun _ => by omega⟩

/-! ### copies -/
theorem toPairS_l0 (l : List S52) (hl : l.length ≤ 9223372036854775807) (d : Nat) : ∀ (k i : Nat) (acc : List S56), l.length - i = d → acc.length = l.length → acc.take i = (l.take i).map cv → i ≤ l.length → d < k →
    laws_toPairS.l0 k l acc (i : Int) = some (l.map cv) := by
  induction d with
  | zero =>
    intro k i acc hd hal ht hi hk
    obtain ⟨k, rfl⟩ : ∃ m, k = m + 1 := ⟨k - 1, by omega⟩
    have : i = l.length := by omega
    subst this
    simp only [laws_toPairS.l0]
    rw [if_neg (by omega)]
    rw [List.take_of_length_le (by omega), List.take_of_length_le (by omega)] at ht
    rw [ht]
  | succ d ih =>
    intro k i acc hd hal ht hi hk
    obtain ⟨k, rfl⟩ : ∃ m, k = m + 1 := ⟨k - 1, by omega⟩
    have hlt : i < l.length := by omega
    simp only [laws_toPairS.l0, laws_toPair.f, Option.bind_some]
    rw [if_pos (by omega), if_pos (by omega), if_pos (by omega), up64 hlt hl, Int.toNat_natCast]
    refine ih k (i + 1) _ (by omega) (by rw [List.length_set]; exact hal) ?_ (by omega) (by omega)
    have hr : rd_T52 l (i : Int) = l[i] := by simp [rd_T52, List.getD, List.getElem?_eq_getElem hlt]
    rw [hr, List.take_succ_eq_append_getElem (by rw [List.length_set]; omega), List.take_succ_eq_append_getElem hlt, List.map_append, List.getElem_set_self, List.take_set_of_le (Nat.le_refl i), ht]
    rfl
theorem toPairS_eq (l : List S52) (hl : l.length ≤ 1048576) (k : Nat) (hk : l.length < k) : laws_toPairS.f k l = some (l.map cv) := by
  unfold laws_toPairS.f
  rw [if_pos (by omega), Int.toNat_natCast, if_pos (by omega)]
  exact toPairS_l0 l (by omega) l.length k 0 _ (by omega) (by simp) (by simp) (by omega) hk

/-! ### comparison -/
theorem eqPair_eq (a b c d : ByteArray) : laws_eqPair.f a b c d = some (decide (a = c ∧ b = d)) := by
  unfold laws_eqPair.f
  simp only [list_iff]
  by_cases h : a = c <;> by_cases h' : b = d <;> simp [h, h']
theorem eqPairS_l0 (x y : List S56) (hxy : x.length = y.length) (hl : x.length ≤ 9223372036854775807) (d : Nat) : ∀ (k i : Nat), x.length - i = d → d < k → laws_eqPairS.l0 k x y (i : Int) = some (decide (x.drop i = y.drop i)) := by
  induction d with
  | zero =>
    intro k i hd hk
    obtain ⟨k, rfl⟩ : ∃ m, k = m + 1 := ⟨k - 1, by omega⟩
    simp only [laws_eqPairS.l0]
    rw [if_neg (by omega), List.drop_of_length_le (by omega), List.drop_of_length_le (by omega)]
    simp
  | succ d ih =>
    intro k i hd hk
    obtain ⟨k, rfl⟩ : ∃ m, k = m + 1 := ⟨k - 1, by omega⟩
    have hlt : i < x.length := by omega
    have hlt' : i < y.length := by omega
    have hx : rd_T56 x (i : Int) = x[i] := by simp [rd_T56, List.getD, List.getElem?_eq_getElem hlt]
    have hy : rd_T56 y (i : Int) = y[i] := by simp [rd_T56, List.getD, List.getElem?_eq_getElem hlt']
    simp only [laws_eqPairS.l0, eqPair_eq, Option.bind_some]
    rw [if_pos (by omega), if_pos (by omega), if_pos (by omega), up64 hlt hl, hx, hy, ih k (i + 1) (by omega) (by omega), List.drop_eq_getElem_cons hlt, List.drop_eq_getElem_cons hlt']
    have he : (x[i].f0 = y[i].f0 ∧ x[i].f1 = y[i].f1) ↔ x[i] = y[i] := by
      constructor
      · intro ⟨h0, h1⟩
        generalize x[i] = u at h0 h1
        generalize y[i] = v at h0 h1
        obtain ⟨u0, u1⟩ := u
        obtain ⟨v0, v1⟩ := v
        simp only at h0 h1
        rw [h0, h1]
      · intro h; rw [h]; exact ⟨rfl, rfl⟩
    by_cases h : x[i] = y[i]
    · rw [if_pos (by rw [decide_eq_true (he.2 h)])]
      congr 1
      rw [decide_eq_decide, h]
      exact ⟨fun e => by rw [e], fun e => (List.cons.inj e).2⟩
    · rw [if_neg (by rw [decide_eq_false (fun hh => h (he.1 hh))]; simp), decide_eq_false (fun e => h (List.cons.inj e).1)]
theorem eqPairS_eq (x y : List S56) (hl : x.length ≤ 9223372036854775807) (k : Nat) (hk : x.length < k) : laws_eqPairS.f k x y = some (decide (x = y)) := by
  unfold laws_eqPairS.f
  by_cases h : x.length = y.length
  · rw [if_pos (by rw [h])]
    have := eqPairS_l0 x y h hl x.length k 0 (by omega) hk
    simpa using this
  · rw [if_neg (by omega), decide_eq_false (fun e => h (by rw [e]))]
end Go.Proofs.YtpkfdjlmflmilaaGreatDoor.Pure
end
section
namespace Go.Proofs.YtpkfdjlmflmilaaGreatDoor.Pure
open Go.RowKit Go.Proofs.YtpkfdjlmflmilaaGreatDoor.Q Go.Proofs.YtpkfdjlmflmilaaGreatDoorW.PrintWords Go.Proofs.YtpkfdjlmflmilaaGreatDoorW.PrintLast
set_option linter.unusedVariables false

/-! ### the order of texts -/
/-! ### a right store -/
abbrev key (l : List S56) (i : Nat) : ByteArray := (l.getD i z56).f0
def fromB (l : List S56) (i : Nat) : Bool := (List.range (l.length - i)).all fun j => pairB l (i + j)
theorem fromB_end (l : List S56) (i : Nat) (h : l.length ≤ i) : fromB l i = true := by
  unfold fromB
  rw [show l.length - i = 0 by omega]
  rfl
theorem fromB_step (l : List S56) (i : Nat) (h : i < l.length) : fromB l i = (pairB l i && fromB l (i + 1)) := by
  unfold fromB
  rw [show l.length - i = (l.length - (i + 1)) + 1 by omega, List.range_succ_eq_map, List.all_cons, List.all_map]
  congr 1
  apply List.all_congr rfl
  intro x
  simp only [Function.comp]
  congr 1
  omega
theorem rightB_from (l : List S56) : rightB l = (fromB l 0 && decide (l.length ≤ 400)) := by
  unfold rightB fromB
  congr 1
  rw [Nat.sub_zero]
  apply List.all_congr rfl
  intro x
  rw [Nat.zero_add]
theorem right_pair {l : List S56} (h : rightB l = true) (i : Nat) (hi : i < l.length) : pairB l i = true := by
  unfold rightB at h
  rw [Bool.and_eq_true] at h
  exact List.all_eq_true.1 h.1 i (List.mem_range.2 hi)
theorem right_len {l : List S56} (h : rightB l = true) : l.length ≤ 400 := by
  unfold rightB at h
  rw [Bool.and_eq_true] at h
  exact of_decide_eq_true h.2
theorem right_key {l : List S56} (h : rightB l = true) (i : Nat) (hi : i < l.length) : keyB (key l i) = true ∧ valB (l.getD i z56).f1 = true := by
  have := right_pair h i hi
  unfold pairB at this
  simp only [Bool.and_eq_true] at this
  exact ⟨this.1, this.2.1⟩
theorem spec_in (n a b : Int) : spec_l01In.f n a b = some (decide (a ≤ n) && decide (n ≤ b)) := by
  unfold spec_l01In.f
  by_cases h : n ≥ a
  · rw [if_pos h, decide_eq_true (show a ≤ n from h), Bool.true_and]
  · rw [if_neg h, decide_eq_false (show ¬ a ≤ n from h), Bool.false_and]
theorem spec_key (s : ByteArray) : spec_l03Key.f s = some (keyB s) := by
  unfold spec_l03Key.f keyB
  rw [spec_in]
  simp only [Option.bind_some, Option.some.injEq]
  congr 1 <;> (rw [decide_eq_decide]; omega)
theorem spec_pair (s t : ByteArray) : spec_l03Pair.f s t = some (keyB s && valB t) := by
  unfold spec_l03Pair.f valB
  rw [spec_key]
  have : decide ((t.size : Int) ≤ 1000) = decide (t.size ≤ 1000) := by rw [decide_eq_decide]; omega
  simp only [Option.bind_some, this]
  cases keyB s <;> simp
theorem down64 {i : Nat} (h : 0 < i) (hi : i ≤ 9223372036854775807) : wrap64 ((i : Int) - 1) = ((i - 1 : Nat) : Int) := by unfold wrap64; omega
theorem spec_ok_l0 (l : List S56) (hl : l.length ≤ 9223372036854775807) (d : Nat) : ∀ (k i : Nat), l.length - i = d → d < k → spec_StoreOK.l0 k l (i : Int) = some (fromB l i) := by
  induction d with
  | zero =>
    intro k i hd hk
    obtain ⟨k, rfl⟩ : ∃ m, k = m + 1 := ⟨k - 1, by omega⟩
    simp only [spec_StoreOK.l0]
    rw [if_neg (by omega), fromB_end l i (by omega)]
  | succ d ih =>
    intro k i hd hk
    obtain ⟨k, rfl⟩ : ∃ m, k = m + 1 := ⟨k - 1, by omega⟩
    have hlt : i < l.length := by omega
    have h := ih k (i + 1) (by omega) (by omega)
    simp only [spec_StoreOK.l0, spec_pair, Option.bind_some]
    rw [if_pos (by omega), if_pos (by omega), up64 hlt hl, h, fromB_step l i hlt]
    unfold pairB riseB
    have hr : rd_T56 l (i : Int) = l.getD i z56 := by simp [rd_T56]
    rw [hr]
    cases hk' : (keyB (l.getD i z56).f0 && valB (l.getD i z56).f1) with
    | false => rw [← Bool.and_assoc, hk']; simp
    | true =>
      rw [← Bool.and_assoc, hk', if_pos rfl, Bool.true_and]
      by_cases h0 : i = 0
      · subst h0; simp
      · rw [if_pos (by omega), down64 (by omega) (by omega), if_pos (by omega), if_pos (by omega), show rd_T56 l ((i - 1 : Nat) : Int) = l.getD (i - 1) z56 by simp [rd_T56], decide_eq_false h0, Bool.false_or]
        cases Op.bytesLess (l.getD (i - 1) z56).f0.toList (l.getD i z56).f0.toList <;> simp
theorem spec_ok (l : List S56) (hl : l.length ≤ 9223372036854775807) (k : Nat) (hk : l.length < k) : spec_StoreOK.f k l = some (rightB l) := by
  unfold spec_StoreOK.f
  rw [rightB_from]
  by_cases h1 : (l.length : Int) > 4096
  · rw [if_pos h1, decide_eq_false (show ¬ l.length ≤ 400 by omega), Bool.and_false]
  · rw [if_neg h1]
    by_cases h2 : (l.length : Int) > 400
    · rw [if_pos h2, decide_eq_false (show ¬ l.length ≤ 400 by omega), Bool.and_false]
    · have := spec_ok_l0 l hl l.length k 0 (by omega) hk
      rw [if_neg h2, decide_eq_true (show l.length ≤ 400 by omega), Bool.and_true]
      exact this

/-! ### the place of a key -/
theorem w_sum (i j : Nat) (h : i + j ≤ 9223372036854775807) : wrap64 ((i : Int) + (j : Int)) = ((i + j : Nat) : Int) := by unfold wrap64; omega
theorem w_nat (n : Nat) (h : n ≤ 9223372036854775807) : wrap64 (n : Int) = (n : Int) := by unfold wrap64; omega
theorem w_succ (n : Nat) (h : n < 9223372036854775807) : wrap64 ((n : Int) + 1) = ((n + 1 : Nat) : Int) := by unfold wrap64; omega
theorem t_half (n : Nat) : Int.tdiv ((n : Nat) : Int) 2 = ((n / 2 : Nat) : Int) := by rw [Int.tdiv_eq_ediv_of_nonneg (by omega)]; omega
theorem spec_at_l0 (l : List S56) (a : ByteArray) (hl : l.length ≤ 4611686018427387904) (f : Nat) : ∀ (k i j : Nat), i ≤ j → j ≤ l.length → j - i ≤ f → f < k → spec_l03At.l0 k l a (i : Int) (j : Int) = some ((lbF l a f i j : Nat) : Int) := by
  induction f with
  | zero =>
    intro k i j hij hj hf hk
    obtain ⟨k, rfl⟩ : ∃ m, k = m + 1 := ⟨k - 1, by omega⟩
    simp only [spec_l03At.l0]
    rw [if_neg (by omega)]
    rfl
  | succ f ih =>
    intro k i j hij hj hf hk
    obtain ⟨k, rfl⟩ : ∃ m, k = m + 1 := ⟨k - 1, by omega⟩
    simp only [spec_l03At.l0, lbF]
    by_cases hlt : i < j
    · have hs : i + j ≤ 9223372036854775807 := by omega
      have h3 : (i + j) / 2 < 9223372036854775807 := by omega
      have p1 : (i : Int) < (j : Int) := by omega
      have p2 : (0 : Int) ≤ (((i + j) / 2 : Nat) : Int) := by omega
      have p3 : (((i + j) / 2 : Nat) : Int) < (l.length : Int) := by omega
      rw [w_sum i j hs, t_half (i + j), w_nat ((i + j) / 2) (Nat.le_of_lt h3), w_succ ((i + j) / 2) h3, if_pos p1, if_pos p2, if_pos p3, if_pos hlt]
      have hr : rd_T56 l (((i + j) / 2 : Nat) : Int) = l.getD ((i + j) / 2) z56 := by simp only [rd_T56, Int.toNat_natCast]
      rw [hr, Lib.toList_data, Lib.toList_data]
      by_cases hc : Op.bytesLess (l.getD ((i + j) / 2) z56).f0.data.toList a.data.toList = true
      · rw [if_pos hc, if_pos hc]; exact ih k _ _ (by omega) (by omega) (by omega) (by omega)
      · rw [if_neg hc, if_neg hc]; exact ih k _ _ (by omega) (by omega) (by omega) (by omega)
    · rw [if_neg (by omega), if_neg hlt]
theorem spec_at (l : List S56) (a : ByteArray) (hl : l.length ≤ 4611686018427387904) (k : Nat) (hk : l.length < k) : spec_l03At.f k l a = some ((lbN l a : Nat) : Int) := by
  unfold spec_l03At.f lbN
  exact spec_at_l0 l a hl l.length k 0 l.length (by omega) (by omega) (by omega) hk
theorem lbN_le (l : List S56) (a : ByteArray) : lbN l a ≤ l.length := lbF_le l a l.length 0 l.length (Nat.zero_le _)
/-! ### the codes -/
def codeN (l : List S56) (long : Bool) : Int := if l.length > 4096 ∨ long = true then 2 else if rightB l = true then 0 else 1
theorem impl_code (l : List S56) (ts : List ByteArray) (k : Nat) (hk : 1 < k) : impl_storeCode.f k l ts = some (codeN l (ts.any fun x => decide (65536 < (x.size : Int)))) := by
  obtain ⟨k, rfl⟩ : ∃ m, k = m + 1 := ⟨k - 1, by omega⟩
  unfold impl_storeCode.f codeN impl_isText.f
  generalize ts.any (fun x => decide (65536 < (x.size : Int))) = b
  simp only [Option.bind_some]
  unfold impl_Pair_77.f
  by_cases h : l.length > 4096
  · rw [decide_eq_false (show ¬ (l.length : Int) ≤ 4096 by omega)]
    simp [impl_storeCode.j0, h]
  · rw [decide_eq_true (show (l.length : Int) ≤ 4096 by omega)]
    cases b with
    | true => simp [impl_storeCode.j0]
    | false =>
      simp only [Option.bind_some, if_true, Bool.not_false, Bool.not_true, impl_storeCode.j0, impl_StoreOK.f]
      have hn : ¬ (l.length > 4096 ∨ false = true) := by simp; omega
      rw [if_neg hn]
      cases rightB l <;> simp
end Go.Proofs.YtpkfdjlmflmilaaGreatDoor.Pure
end
section
namespace Go.Proofs.YtpkfdjlmflmilaaGreatDoor.Pure
open Go.RowKit Go.Proofs.YtpkfdjlmflmilaaGreatDoor.Q Go.Proofs.YtpkfdjlmflmilaaGreatDoorW.PrintWords Go.Proofs.YtpkfdjlmflmilaaGreatDoorW.PrintLast
set_option linter.unusedVariables false
def getN (l : List S56) (a : ByteArray) : ByteArray × Bool := if fdB l a = true then ((l.getD (lbN l a) z56).f1, true) else (⟨#[]⟩, false)
theorem fdB_lt {l : List S56} {a : ByteArray} (h : fdB l a = true) : lbN l a < l.length := by
  unfold fdB at h
  rw [Bool.and_eq_true] at h
  exact of_decide_eq_true h.1
theorem fdB_key {l : List S56} {a : ByteArray} (h : fdB l a = true) : (l.getD (lbN l a) z56).f0 = a := by
  unfold fdB at h
  rw [Bool.and_eq_true] at h
  have := eq_of_beq h.2
  exact Go.WideShapes.bytes_inj this
theorem fdB_eq (l : List S56) (a : ByteArray) (h : lbN l a < l.length) : fdB l a = decide ((l.getD (lbN l a) z56).f0.toList = a.toList) := by
  unfold fdB
  rw [decide_eq_true h, Bool.true_and, Lib.toList_data, Lib.toList_data, Bool.eq_iff_iff]
  simp
theorem impl_get_eq (l : List S56) (a : ByteArray) : impl_get.f l a = some (getN l a) := by
  unfold impl_get.f impl_pairAt.f getN
  rw [Option.bind_some]
  cases h : fdB l a with
  | true =>
    have := fdB_lt h
    have hr : rd_T56 l ((lbN l a : Nat) : Int) = l.getD (lbN l a) z56 := by simp only [rd_T56, Int.toNat_natCast]
    rw [if_pos rfl, if_pos (by omega), if_pos (by omega), if_pos rfl, hr]
  | false => rfl
theorem spec_get_eq (l : List S56) (a : ByteArray) (hl : l.length ≤ 4611686018427387904) (k : Nat) (hk : l.length < k) : spec_l03Get.f k l a = some (getN l a) := by
  unfold spec_l03Get.f getN
  rw [spec_at l a hl k hk, Option.bind_some]
  have hle := lbN_le l a
  by_cases hlt : lbN l a < l.length
  · have hr : rd_T56 l ((lbN l a : Nat) : Int) = l.getD (lbN l a) z56 := by simp only [rd_T56, Int.toNat_natCast]
    rw [if_pos (by omega), if_pos (by omega), hr, fdB_eq l a hlt]
    by_cases h : (l.getD (lbN l a) z56).f0.toList = a.toList
    · rw [if_pos h, if_pos (decide_eq_true h)]
    · rw [if_neg h, if_neg (by rw [decide_eq_false h]; simp)]
  · have hf : fdB l a = false := by unfold fdB; rw [decide_eq_false hlt, Bool.false_and]
    rw [if_neg (by omega), hf]
    rfl
end Go.Proofs.YtpkfdjlmflmilaaGreatDoor.Pure
end
section
namespace Go.Proofs.YtpkfdjlmflmilaaGreatDoor.Dd
set_option linter.unusedVariables false
theorem small {n : Nat} (h : n < 10) : Lib.decDigits n = [UInt8.ofNat (48 + n)] := by rw [Lib.decDigits, dif_pos h]
theorem big {n : Nat} (h : ¬ n < 10) : Lib.decDigits n = Lib.decDigits (n / 10) ++ [UInt8.ofNat (48 + n % 10)] := by rw [Lib.decDigits, dif_neg h]
theorem len : ∀ (k n : Nat), 1 ≤ k → n < 10 ^ k → (Lib.decDigits n).length ≤ k := by
  intro k
  induction k with
  | zero => intro n h; omega
  | succ k ih =>
    intro n _ hn
    by_cases h : n < 10
    · rw [small h]
      simp
    · rw [big h, List.length_append]
      have hk : 1 ≤ k := by
        rcases Nat.eq_zero_or_pos k with rfl | h1
        · simp at hn
          omega
        · exact h1
      have := ih (n / 10) hk (by rw [Nat.pow_succ] at hn; omega)
      simp
      omega
def isD (c : UInt8) : Prop := 48 ≤ c.toNat ∧ c.toNat ≤ 57
instance (c : UInt8) : Decidable (isD c) := by unfold isD; infer_instance
/-- The number that digits tell, some having gone before. -/
def val (acc : Nat) : List UInt8 → Nat
  | [] => acc
  | c :: r => val (acc * 10 + (c.toNat - 48)) r
theorem val_snoc (l : List UInt8) : ∀ (acc : Nat) (c : UInt8), val acc (l ++ [c]) = val acc l * 10 + (c.toNat - 48) := by
  induction l with
  | nil => intro acc c; rfl
  | cons x r ih => intro acc c; exact ih _ c
theorem val_le (l : List UInt8) : ∀ (acc : Nat), acc ≤ val acc l := by
  induction l with
  | nil => intro acc; exact Nat.le_refl _
  | cons x r ih =>
    intro acc
    have := ih (acc * 10 + (x.toNat - 48))
    show acc ≤ val (acc * 10 + (x.toNat - 48)) r
    omega
theorem dig_toNat {d : Nat} (h : d < 10) : (UInt8.ofNat (48 + d)).toNat = 48 + d := by
  rw [UInt8.toNat_ofNat']
  omega
theorem dig_isD {d : Nat} (h : d < 10) : isD (UInt8.ofNat (48 + d)) := by
  unfold isD
  rw [dig_toNat h]
  omega
theorem isD_dig {c : UInt8} (h : isD c) : UInt8.ofNat (48 + (c.toNat - 48)) = c := by
  unfold isD at h
  rw [show 48 + (c.toNat - 48) = c.toNat by omega]
  simp
/-- Of a number's digits: all are, they tell it, there is one, and none needless ahead. -/
theorem of_num : ∀ (n : Nat), (∀ c ∈ Lib.decDigits n, isD c) ∧ val 0 (Lib.decDigits n) = n ∧ (∃ c r, Lib.decDigits n = c :: r ∧ (c.toNat = 48 → n = 0)) := by
  intro n
  induction n using Nat.strongRecOn with
  | _ n ih =>
    by_cases h : n < 10
    · rw [small h]
      refine ⟨?_, ?_, _, [], rfl, ?_⟩
      · intro c hc
        simp only [List.mem_singleton] at hc
        subst hc
        exact dig_isD h
      · show 0 * 10 + ((UInt8.ofNat (48 + n)).toNat - 48) = n
        rw [dig_toNat h]
        omega
      · rw [dig_toNat h]
        omega
    · obtain ⟨h1, h2, c, r, h3, h4⟩ := ih (n / 10) (by omega)
      have hm : n % 10 < 10 := Nat.mod_lt _ (by decide)
      rw [big h]
      refine ⟨?_, ?_, c, r ++ [UInt8.ofNat (48 + n % 10)], by rw [h3]; rfl, fun hc => ?_⟩
      · intro x hx
        rcases List.mem_append.1 hx with hx | hx
        · exact h1 x hx
        · simp only [List.mem_singleton] at hx
          subst hx
          exact dig_isD hm
      · rw [val_snoc, h2, dig_toNat hm]
        omega
      · have := h4 hc
        omega
theorem zero_len (n : Nat) (h : n = 0) : (Lib.decDigits n).length = 1 := by
  subst h
  rw [small (by decide)]
  rfl
/-- Digits with none needless ahead are those of what they tell. -/
theorem to_num : ∀ (m : Nat) (l : List UInt8), l.length = m → l ≠ [] → (∀ c ∈ l, isD c) → (∀ c r, l = c :: r → c.toNat = 48 → r = []) → Lib.decDigits (val 0 l) = l := by
  intro m
  induction m with
  | zero => intro l hl h; exact absurd (List.eq_nil_of_length_eq_zero hl) h
  | succ m ih =>
    intro l hl hne hd hz
    obtain ⟨l', c, rfl⟩ : ∃ l' c, l = l' ++ [c] := ⟨l.dropLast, l.getLast hne, (List.dropLast_concat_getLast hne).symm⟩
    have hc : isD c := hd c (by simp)
    have hc' := hc
    unfold isD at hc'
    rw [val_snoc]
    cases l' with
    | nil =>
      have e : val 0 ([] : List UInt8) * 10 + (c.toNat - 48) = c.toNat - 48 := by show 0 * 10 + (c.toNat - 48) = _; omega
      rw [e, small (by omega), isD_dig hc]
      rfl
    | cons x r =>
      have hx : isD x := hd x (by simp)
      have hx0 : x.toNat ≠ 48 := fun h0 => by
        have := hz x (r ++ [c]) rfl h0
        simp at this
      have hx' := hx
      unfold isD at hx'
      have hv : 1 ≤ val 0 (x :: r) := by
        have := val_le r (0 * 10 + (x.toNat - 48))
        show 1 ≤ val (0 * 10 + (x.toNat - 48)) r
        omega
      rw [big (by omega), show (val 0 (x :: r) * 10 + (c.toNat - 48)) / 10 = val 0 (x :: r) by omega, show (val 0 (x :: r) * 10 + (c.toNat - 48)) % 10 = c.toNat - 48 by omega, isD_dig hc,
        ih (x :: r) (by simp at hl ⊢; omega) (by simp) (fun y hy => hd y (List.mem_append_left _ hy)) (fun y r' e h0 => by injection e with e1 e2; subst e1; exact absurd h0 hx0)]
theorem parse (l : List UInt8) : ∀ (acc : Nat), (∀ c ∈ l, isD c) → val acc l < 18446744073709551616 → Lib.parseUint10 acc l = .ok (val acc l) := by
  induction l with
  | nil => intro acc _ _; rfl
  | cons c r ih =>
    intro acc hd hv
    have hc := hd c (by simp)
    unfold isD at hc
    have h1 := val_le r (acc * 10 + (c.toNat - 48))
    have hv' : val (acc * 10 + (c.toNat - 48)) r < 18446744073709551616 := hv
    simp only [Lib.parseUint10]
    rw [if_pos hc, if_neg (by omega), if_neg (by omega)]
    exact ih _ (fun x hx => hd x (List.mem_cons_of_mem _ hx)) hv'
theorem atoi_num (n : Nat) (hn : n < 9223372036854775808) : Lib.atoiAll (Lib.decDigits n) = .ok (n : Int) := by
  obtain ⟨h1, h2, c, r, h3, _⟩ := of_num n
  have hc := h1 c (by rw [h3]; simp)
  unfold isD at hc
  have hp := parse (Lib.decDigits n) 0 h1 (by rw [h2]; omega)
  rw [h2] at hp
  rw [h3] at hp ⊢
  unfold Lib.atoiAll
  have e1 : ¬ (c.toNat = 43 ∨ c.toNat = 45) := by omega
  have e2 : ¬ c.toNat = 45 := by omega
  simp only [if_neg e1]
  have hm : Lib.parseMag (c :: r) = .ok n := by
    unfold Lib.parseMag
    rw [if_neg (by simp), hp]
  rw [hm]
  simp only [if_neg e2]
  rw [if_neg (by omega), if_neg (by omega)]
end Go.Proofs.YtpkfdjlmflmilaaGreatDoor.Dd
end
section
namespace Go.Proofs.YtpkfdjlmflmilaaGreatDoor.Pure
open Go.RowKit Go.Proofs.YtpkfdjlmflmilaaGreatDoor.Q Go.Proofs.YtpkfdjlmflmilaaGreatDoorW.PrintWords Go.Proofs.YtpkfdjlmflmilaaGreatDoorW.PrintLast
set_option linter.unusedVariables false
open Dd (isD val)
theorem itoaT_num (n : Nat) : itoaT (n : Int) = ⟨(Lib.decDigits n).toArray⟩ := by
  unfold itoaT Lib.itoa
  rw [if_neg (by omega), Int.toNat_natCast]
/-- A text is an amount's digits. -/
def amT (t : ByteArray) : Prop := (1 ≤ t.size ∧ t.size ≤ 19) ∧ (∀ c r, t.data.toList = c :: r → c.toNat = 48 → r = []) ∧ (∀ c ∈ t.data.toList, isD c) ∧ val 0 t.data.toList ≤ 1000000000000000000
theorem tl_len (t : ByteArray) : t.data.toList.length = t.size := by rw [Array.length_toList]; rfl
theorem amT_num (n : Nat) (hn : n ≤ 1000000000000000000) : amT (itoaT (n : Int)) ∧ val 0 (itoaT (n : Int)).data.toList = n := by
  obtain ⟨h1, h2, c, r, h3, h4⟩ := Dd.of_num n
  have hl := Dd.len 19 n (by omega) (Nat.lt_of_le_of_lt hn (by decide))
  have e : (itoaT (n : Int)).data.toList = Lib.decDigits n := by rw [itoaT_num]
  have hs : (itoaT (n : Int)).size = (Lib.decDigits n).length := by rw [← tl_len, e]
  refine ⟨⟨⟨?_, by omega⟩, ?_, ?_, ?_⟩, by rw [e, h2]⟩
  · rw [hs, h3]
    simp
  · intro c' r' hc h0
    rw [e] at hc
    have hcc := hc
    rw [h3] at hc
    injection hc with e1 e2
    subst e1
    have hz := Dd.zero_len n (h4 h0)
    rw [hcc] at hz
    simp at hz
    exact hz
  · rw [e]; exact h1
  · rw [e, h2]; exact hn
theorem amT_is (t : ByteArray) (h : amT t) : itoaT (val 0 t.data.toList : Nat) = t := by
  obtain ⟨⟨h1, h2⟩, h3, h4, h5⟩ := h
  have hl := tl_len t
  rw [itoaT_num, Dd.to_num t.data.toList.length t.data.toList rfl (by intro e; rw [e] at hl; simp at hl; omega) h4 h3]
theorem raT_yes (t : ByteArray) (h : amT t) : raT t = (((val 0 t.data.toList : Nat) : Int), true) := by
  have he := amT_is t h
  have hv := h.2.2.2
  have e : t.data.toList = Lib.decDigits (val 0 t.data.toList) := by
    conv => lhs; rw [← he, itoaT_num]
  unfold raT
  have ha : Lib.atoiAll t.data.toList = .ok ((val 0 t.data.toList : Nat) : Int) := by
    conv => lhs; rw [e]
    exact Dd.atoi_num _ (by omega)
  rw [ha]
  show (if (0 ≤ ((val 0 t.data.toList : Nat) : Int) ∧ ((val 0 t.data.toList : Nat) : Int) ≤ 1000000000000000000) ∧ itoaT ((val 0 t.data.toList : Nat) : Int) = t then _ else _) = _
  rw [if_pos ⟨⟨by omega, by omega⟩, he⟩]
theorem raT_no (t : ByteArray) (h : ¬ amT t) : raT t = (0, false) := by
  unfold raT
  rcases Lib.atoiAll t.data.toList with v | _ | _
  · show (if (0 ≤ v ∧ v ≤ 1000000000000000000) ∧ itoaT v = t then (v, true) else (0, false)) = (0, false)
    rw [if_neg]
    rintro ⟨⟨h0, h1⟩, he⟩
    obtain ⟨n, rfl⟩ : ∃ n : Nat, v = (n : Int) := ⟨v.toNat, by omega⟩
    exact h (he ▸ (amT_num n (by omega)).1)
  · rfl
  · rfl
/-- From so many bytes on. -/
def ofB (acc : Nat) (l : List UInt8) : Int := if (∀ c ∈ l, isD c) ∧ val acc l ≤ 1000000000000000000 then ((val acc l : Nat) : Int) else -1
theorem btl (t : ByteArray) (i : Nat) (hi : i < t.size) : bt t (i : Int) = ((t.data.toList[i]'(by rw [tl_len]; exact hi)).toNat : Int) := by
  have h : ((i : Int)).toNat < t.size := by rw [Int.toNat_natCast]; exact hi
  rw [← Go.Proofs.YtpkfdjlmflmilaaGreatDoorW.PrintWords.bt_at t (i : Int) h]
  simp only [Int.toNat_natCast]
  rfl
theorem of_l0 (t : ByteArray) (ht : t.size ≤ 65536) (d : Nat) : ∀ (k i acc : Nat), t.size - i = d → i ≤ t.size → 2 * d < k → acc ≤ 1000000000000000000 → spec_l02Of.l0 k t (acc : Int) (i : Int) = some (ofB acc (t.data.toList.drop i)) := by
  induction d with
  | zero =>
    intro k i acc hd hi hk ha
    obtain ⟨k, rfl⟩ : ∃ m, k = m + 1 := ⟨k - 1, by omega⟩
    simp only [spec_l02Of.l0]
    rw [if_neg (by omega), List.drop_of_length_le (by rw [tl_len]; omega)]
    unfold ofB
    rw [if_pos ⟨fun c hc => absurd hc List.not_mem_nil, ha⟩]
    rfl
  | succ d ih =>
    intro k i acc hd hi hk ha
    obtain ⟨k, rfl⟩ : ∃ m, k = m + 2 := ⟨k - 2, by omega⟩
    have hlt : i < t.size := by omega
    have hltl : i < t.data.toList.length := by rw [tl_len]; exact hlt
    have hdr : t.data.toList.drop i = t.data.toList[i] :: t.data.toList.drop (i + 1) := List.drop_eq_getElem_cons hltl
    have hb := btl t i hlt
    rw [hdr]
    generalize t.data.toList[i] = c at hb
    have hc := c.toNat_lt
    simp only [spec_l02Of.l0]
    rw [if_pos (by omega), if_pos (by omega), hb]
    by_cases h1 : (c.toNat : Int) < 48
    · rw [if_pos h1]
      simp only [spec_l02Of.j2]
      rw [if_pos trivial]
      unfold ofB
      rw [if_neg]
      rintro ⟨h, _⟩
      have := h c (by simp)
      unfold isD at this
      omega
    · rw [if_neg h1]
      simp only [spec_l02Of.j2]
      by_cases h2 : (c.toNat : Int) > 57
      · rw [if_pos (decide_eq_true h2)]
        unfold ofB
        rw [if_neg]
        rintro ⟨h, _⟩
        have := h c (by simp)
        unfold isD at this
        omega
      · have h2' : decide ((c.toNat : Int) > 57) = false := decide_eq_false h2
        have e0 : ((c.toNat : Int) - 48) % 256 = ((c.toNat - 48 : Nat) : Int) := by omega
        rw [h2', if_neg (by decide), if_pos (by omega), if_pos (by omega), hb, e0]
        have hisd : isD c := by unfold isD; omega
        by_cases h3 : (acc : Int) > (1000000000000000000 - ((c.toNat - 48 : Nat) : Int)) / 10
        · rw [if_pos h3]
          unfold ofB
          rw [if_neg]
          rintro ⟨_, h⟩
          have h4 := Dd.val_le (t.data.toList.drop (i + 1)) (acc * 10 + (c.toNat - 48))
          have h5 : val (acc * 10 + (c.toNat - 48)) (t.data.toList.drop (i + 1)) ≤ 1000000000000000000 := h
          omega
        · have g1 : t.size - (i + 1) = d := by omega
          have g2 : i + 1 ≤ t.size := by omega
          have g3 : 2 * d < k := by omega
          have g4 : acc * 10 + (c.toNat - 48) ≤ 1000000000000000000 := by omega
          have e1 : wrap64 ((acc : Int) * 10) = ((acc * 10 : Nat) : Int) := by unfold wrap64; omega
          have e2 : wrap64 (((acc * 10 : Nat) : Int) + ((c.toNat - 48 : Nat) : Int)) = ((acc * 10 + (c.toNat - 48) : Nat) : Int) := by unfold wrap64; omega
          have e3 : wrap64 ((i : Int) + 1) = ((i + 1 : Nat) : Int) := by unfold wrap64; omega
          rw [if_neg h3, e1, e2, e3, ih k (i + 1) (acc * 10 + (c.toNat - 48)) g1 g2 g3 g4]
          unfold ofB
          have hv : val acc (c :: t.data.toList.drop (i + 1)) = val (acc * 10 + (c.toNat - 48)) (t.data.toList.drop (i + 1)) := rfl
          rw [hv]
          by_cases h6 : (∀ x ∈ t.data.toList.drop (i + 1), isD x) ∧ val (acc * 10 + (c.toNat - 48)) (t.data.toList.drop (i + 1)) ≤ 1000000000000000000
          · rw [if_pos h6, if_pos ⟨fun x hx => by rcases List.mem_cons.1 hx with rfl | hx; exact hisd; exact h6.1 x hx, h6.2⟩]
          · rw [if_neg h6, if_neg fun h => h6 ⟨fun x hx => h.1 x (List.mem_cons_of_mem _ hx), h.2⟩]
open Classical in
theorem of_eq (t : ByteArray) (ht : t.size ≤ 65536) (k : Nat) (hk : 140000 ≤ k) : spec_l02Of.f k t = some (if amT t then ((val 0 t.data.toList : Nat) : Int) else -1) := by
  obtain ⟨k, rfl⟩ : ∃ m, k = m + 1 := ⟨k - 1, by omega⟩
  have hj : ∀ b : Bool, spec_l02Of.j0 (k + 1) t b = some (if b = true then -1 else ofB 0 t.data.toList) := by
    intro b
    simp only [spec_l02Of.j0]
    cases b with
    | true => rw [if_pos rfl, if_pos rfl]
    | false =>
      have h := of_l0 t ht t.size k 0 0 (by omega) (by omega) (by omega) (by omega)
      rw [show ((0 : Nat) : Int) = 0 from rfl, List.drop_zero] at h
      rw [if_neg (by decide), if_neg (by decide), h]
  unfold spec_l02Of.f spec_l01In.f
  have hl := tl_len t
  by_cases h1 : 1 ≤ t.size
  · rw [if_pos (by omega), Option.bind_some]
    by_cases h2 : t.size ≤ 19
    · rw [if_pos (decide_eq_true (by omega))]
      obtain ⟨c, r, hcr⟩ : ∃ c r, t.data.toList = c :: r := by
        cases h : t.data.toList with
        | nil => rw [h] at hl; simp at hl; omega
        | cons c r => exact ⟨c, r, rfl⟩
      have hof : ofB 0 t.data.toList = if (∀ c ∈ t.data.toList, isD c) ∧ val 0 t.data.toList ≤ 1000000000000000000 then ((val 0 t.data.toList : Nat) : Int) else -1 := rfl
      by_cases h3 : t.size > 1
      · have hb := btl t 0 (by omega)
        rw [show ((0 : Nat) : Int) = 0 from rfl] at hb
        have hb' : bt t 0 = (c.toNat : Int) := by
          rw [hb]
          simp [hcr]
        rw [if_pos (by omega), if_pos (by omega), hj, hb']
        by_cases h4 : c.toNat = 48
        · rw [if_pos (by simp; omega), if_neg]
          rintro ⟨_, hz, _⟩
          have := hz c r hcr h4
          rw [hcr, this] at hl
          simp at hl
          omega
        · rw [if_neg (by simp; omega), hof]
          by_cases h5 : (∀ c ∈ t.data.toList, isD c) ∧ val 0 t.data.toList ≤ 1000000000000000000
          · rw [if_pos h5, if_pos ⟨⟨h1, h2⟩, fun c' r' e h0 => by rw [hcr] at e; injection e with e1 e2; subst e1; exact absurd h0 h4, h5.1, h5.2⟩]
          · rw [if_neg h5, if_neg fun h => h5 ⟨h.2.2.1, h.2.2.2⟩]
      · rw [if_neg (by omega), hj, if_neg (by decide), hof]
        by_cases h5 : (∀ c ∈ t.data.toList, isD c) ∧ val 0 t.data.toList ≤ 1000000000000000000
        · rw [if_pos h5, if_pos ⟨⟨h1, h2⟩, fun c' r' e h0 => by rw [e] at hl; simp at hl; exact List.eq_nil_of_length_eq_zero (by omega), h5.1, h5.2⟩]
        · rw [if_neg h5, if_neg fun h => h5 ⟨h.2.2.1, h.2.2.2⟩]
    · rw [if_neg (by rw [decide_eq_false (by omega)]; decide), hj, if_pos rfl, if_neg fun h => h2 h.1.2]
  · rw [if_neg (by omega), Option.bind_some, if_neg (by decide), hj, if_pos rfl, if_neg fun h => h1 h.1.1]
end Go.Proofs.YtpkfdjlmflmilaaGreatDoor.Pure
end
section
namespace Go.Proofs.YtpkfdjlmflmilaaGreatDoor.Pure
open Go.RowKit Go.Proofs.YtpkfdjlmflmilaaGreatDoor.Q Go.Proofs.YtpkfdjlmflmilaaGreatDoorW.PrintWords Go.Proofs.YtpkfdjlmflmilaaGreatDoorW.PrintLast

def letterB (c : Int) : Bool := decide ((97 ≤ c ∧ c ≤ 122) ∨ (65 ≤ c ∧ c ≤ 90) ∨ c = 95)
def digitB (c : Int) : Bool := decide (48 ≤ c ∧ c ≤ 57)
def okB (s : ByteArray) (i : Nat) : Bool := letterB (bt s i) || (decide (i ≠ 0) && digitB (bt s i))
/-- From place i on, all signs are right. -/
def restB (s : ByteArray) (i : Nat) : Bool := (List.range (s.size - i)).all fun j => okB s (i + j)
def nameB (s : ByteArray) : Bool := decide (1 ≤ s.size ∧ s.size ≤ 40) && restB s 0
theorem restB_end (s : ByteArray) (i : Nat) (h : s.size ≤ i) : restB s i = true := by
  unfold restB
  rw [show s.size - i = 0 by omega]
  rfl
theorem restB_step (s : ByteArray) (i : Nat) (h : i < s.size) : restB s i = (okB s i && restB s (i + 1)) := by
  unfold restB
  rw [show s.size - i = (s.size - (i + 1)) + 1 by omega, List.range_succ_eq_map, List.all_cons, List.all_map]
  congr 1
  apply List.all_congr rfl
  intro x
  simp only [Function.comp]
  congr 1
  omega
theorem letter_eq (c : Int) : spec_l00Letter.f c = some (letterB c) := by
  unfold spec_l00Letter.f letterB
  repeat' split
  all_goals (simp only [Option.some.injEq])
  all_goals (first | (symm; apply decide_eq_true; omega) | (rw [Bool.eq_iff_iff]; simp; omega))
theorem digit_eq (c : Int) : spec_l00Digit.f c = some (digitB c) := by
  unfold spec_l00Digit.f digitB
  repeat' split
  all_goals (simp only [Option.some.injEq])
  all_goals (rw [Bool.eq_iff_iff]; simp; omega)
theorem wrap_up {i n : Nat} (h : i < n) (hn : n ≤ 9223372036854775807) : wrap64 ((i : Int) + 1) = ((i + 1 : Nat) : Int) := by unfold wrap64; omega
theorem spec_rest (s : ByteArray) (hs : s.size ≤ 9223372036854775807) (d : Nat) : ∀ (k i : Nat), 1 ≤ i → s.size - i = d → d < k → spec_l00Word.l0 k s (i : Int) = some (restB s i) := by
  induction d with
  | zero =>
    intro k i h1 hd hk
    obtain ⟨k, rfl⟩ : ∃ m, k = m + 1 := ⟨k - 1, by omega⟩
    simp only [spec_l00Word.l0]
    rw [if_neg (by omega), restB_end s i (by omega)]
  | succ d ih =>
    intro k i h1 hd hk
    obtain ⟨k, rfl⟩ : ∃ m, k = m + 1 := ⟨k - 1, by omega⟩
    have hlt : i < s.size := by omega
    simp only [spec_l00Word.l0]
    rw [if_pos (by omega), if_pos (by omega), letter_eq, restB_step s i hlt, wrap_up hlt hs, ih k (i + 1) (by omega) (by omega) (by omega)]
    simp only [Option.bind_some, digit_eq]
    unfold okB
    have hne : decide (i ≠ 0) = true := decide_eq_true (by omega)
    cases letterB (bt s (i : Int)) <;> cases digitB (bt s (i : Int)) <;> simp [hne]
theorem spec_name (s : ByteArray) (hs : s.size ≤ 9223372036854775807) (k : Nat) (hk : s.size + 1 < k) : spec_NameOK.f k s = some (nameB s) := by
  obtain ⟨k, rfl⟩ : ∃ m, k = m + 1 := ⟨k - 1, by omega⟩
  unfold spec_NameOK.f spec_l00Word.f nameB
  by_cases h1 : (s.size : Int) < 1
  · rw [if_pos h1]
    simp only [spec_l00Word.j0, if_true, Option.bind_some]
    rw [decide_eq_false (by omega)]
    rfl
  · rw [if_neg h1]
    by_cases h2 : (s.size : Int) > 40
    · rw [if_pos h2]
      simp only [spec_l00Word.j0, if_true, Option.bind_some]
      rw [decide_eq_false (by omega)]
      rfl
    · rw [if_neg h2, if_pos (by omega), letter_eq]
      have hr := spec_rest s hs (s.size - 1) k 1 (by omega) rfl (by omega)
      have hr' : spec_l00Word.l0 k s 1 = some (restB s 1) := hr
      simp only [Option.bind_some, spec_l00Word.j0, hr']
      rw [decide_eq_true (by omega : 1 ≤ s.size ∧ s.size ≤ 40), restB_step s 0 (by omega)]
      unfold okB
      show _ = some (true && ((letterB (bt s 0) || (decide ((0 : Nat) ≠ 0) && digitB (bt s 0))) && restB s (0 + 1)))
      cases letterB (bt s 0) <;> simp
theorem impl_rest (s : ByteArray) (hs : s.size ≤ 9223372036854775807) (d : Nat) : ∀ (k i : Nat), s.size - i = d → i ≤ s.size → d < k → impl_NameOK.l0 k s (s.size : Int) (i : Int) = some (restB s i && decide (1 ≤ s.size ∧ s.size ≤ 40)) := by
  induction d with
  | zero =>
    intro k i hd hi hk
    obtain ⟨k, rfl⟩ : ∃ m, k = m + 1 := ⟨k - 1, by omega⟩
    simp only [impl_NameOK.l0]
    rw [if_neg (by omega), restB_end s i (by omega)]
    unfold impl_within.f
    by_cases h : (s.size : Int) ≥ 1
    · rw [if_pos h]; simp; rw [Bool.eq_iff_iff]; simp; omega
    · rw [if_neg h]; simp; omega
  | succ d ih =>
    intro k i hd hi hk
    obtain ⟨k, rfl⟩ : ∃ m, k = m + 1 := ⟨k - 1, by omega⟩
    have hlt : i < s.size := by omega
    have e := ih k (i + 1) (by omega) (by omega) (by omega)
    rw [restB_step s i hlt]
    simp only [impl_NameOK.l0]
    rw [if_pos (by omega), if_pos (by omega), if_pos (by omega), wrap_up hlt hs, e]
    by_cases hL : letterB (bt s (i : Int)) = true
    · have hL' := of_decide_eq_true hL
      have : okB s i = true := by unfold okB; rw [hL]; rfl
      rw [this, Bool.true_and]
      generalize bt s (i : Int) = c at *
      repeat' split
      all_goals (first | rfl | (exfalso; omega))
    · have hL' : ¬ ((97 ≤ bt s (i : Int) ∧ bt s (i : Int) ≤ 122) ∨ (65 ≤ bt s (i : Int) ∧ bt s (i : Int) ≤ 90) ∨ bt s (i : Int) = 95) := fun h => hL (decide_eq_true h)
      by_cases hD : i ≠ 0 ∧ digitB (bt s (i : Int)) = true
      · have hD' := of_decide_eq_true hD.2
        have : okB s i = true := by unfold okB; rw [decide_eq_true hD.1, hD.2]; simp
        rw [this, Bool.true_and]
        have h0 := hD.1
        generalize bt s (i : Int) = c at *
        repeat' split
        all_goals (first | rfl | (exfalso; omega))
      · have hok : okB s i = false := by
          unfold okB
          rw [Bool.eq_false_iff.2 hL]
          by_cases h0 : i = 0
          · simp [h0]
          · have : digitB (bt s (i : Int)) = false := Bool.eq_false_iff.2 fun h => hD ⟨h0, h⟩
            rw [this]; simp
        rw [hok, Bool.false_and, Bool.false_and]
        have hD' : i = 0 ∨ ¬ (48 ≤ bt s (i : Int) ∧ bt s (i : Int) ≤ 57) := by
          by_cases h0 : i = 0
          · exact .inl h0
          · exact .inr fun h => hD ⟨h0, decide_eq_true h⟩
        generalize bt s (i : Int) = c at *
        repeat' split
        all_goals (first | rfl | (exfalso; omega))
theorem impl_name (s : ByteArray) (hs : s.size ≤ 9223372036854775807) (k : Nat) (hk : s.size < k) : impl_NameOK.f k s = some (nameB s) := by
  unfold impl_NameOK.f nameB
  have h := impl_rest s hs s.size k 0 (by omega) (by omega) hk
  have h' : impl_NameOK.l0 k s (s.size : Int) 0 = some (restB s 0 && decide (1 ≤ s.size ∧ s.size ≤ 40)) := h
  rw [h', Bool.and_comm]
end Go.Proofs.YtpkfdjlmflmilaaGreatDoor.Pure
end
section
namespace Go.Proofs.YtpkfdjlmflmilaaGreatDoor.Pure
open Go.RowKit Go.Proofs.YtpkfdjlmflmilaaGreatDoor.Q Go.Proofs.YtpkfdjlmflmilaaGreatDoorW.PrintWords Go.Proofs.YtpkfdjlmflmilaaGreatDoorW.PrintLast
set_option linter.unusedVariables false
open Dd (val isD)
/-- An account's or a denomination's name. -/
def nmB (a : ByteArray) : Bool := decide (a.size ≤ 12) && nameB a
theorem spec_nm (a : ByteArray) (k : Nat) (hk : 20 ≤ k) : spec_l05Name.f k a = some (nmB a) := by
  unfold spec_l05Name.f nmB
  by_cases h : a.size ≤ 12
  · rw [if_pos (by omega), spec_name a (by omega) k (by omega), decide_eq_true h, Bool.true_and]
    rfl
  · rw [if_neg (by omega), decide_eq_false h, Bool.false_and]
theorem impl_nm (a : ByteArray) (ha : a.size ≤ 65536) (k : Nat) (hk : 70000 ≤ k) : impl_DenomOK.f k a = some (nmB a) := by
  unfold impl_DenomOK.f nmB
  rw [impl_name a (by omega) k (by omega), Option.bind_some]
  have e : decide ((a.size : Int) ≤ 12) = decide (a.size ≤ 12) := by
    rw [Bool.eq_iff_iff]
    simp
    omega
  rw [e]
  cases nameB a
  · rw [if_neg (by decide), Bool.and_false]
  · rw [if_pos rfl, Bool.and_true]
theorem bk_rd (l : List ByteArray) (i : Nat) (h : i < l.length) : rdOf ByteArray.empty l (i : Int) = l[i] := by simp [rdOf, List.getD, List.getElem?_eq_getElem h]
theorem bk_l1 (ns : List ByteArray) (hl : ns.length ≤ 1000) (d : Nat) : ∀ (k i : Nat), ns.length - i = d → i ≤ ns.length → d + 30 < k → spec_l05Code.l1 k ns (i : Int) = some (if (ns.drop i).all nmB = true then 0 else 4) := by
  induction d with
  | zero =>
    intro k i hd hi hk
    obtain ⟨k, rfl⟩ : ∃ m, k = m + 1 := ⟨k - 1, by omega⟩
    simp only [spec_l05Code.l1]
    rw [if_neg (by omega), List.drop_of_length_le (by omega)]
    rfl
  | succ d ih =>
    intro k i hd hi hk
    obtain ⟨k, rfl⟩ : ∃ m, k = m + 1 := ⟨k - 1, by omega⟩
    have hlt : i < ns.length := by omega
    simp only [spec_l05Code.l1]
    rw [if_pos (by omega), if_pos (by omega), bk_rd ns i hlt, spec_nm _ k (by omega), Option.bind_some, w_succ i (by omega), ih k (i + 1) (by omega) (by omega) (by omega), List.drop_eq_getElem_cons hlt, List.all_cons]
    cases nmB ns[i]
    · rw [if_neg (by decide), Bool.false_and, if_neg (by decide)]
    · rw [if_pos rfl, Bool.true_and]
theorem bk_l0 (l : List S56) (hl : l.length ≤ 4096) (ns : List ByteArray) (hn : ns.length ≤ 1000) (hs : ∀ x ∈ ns, x.size ≤ 65536) (d : Nat) : ∀ (k i : Nat), ns.length - i = d → i ≤ ns.length → d + ns.length + 5000 < k →
    spec_l05Code.l0 k l ns (i : Int) = some (if rightB l = true then (if ns.all nmB = true then 0 else 4) else 1) := by
  induction d with
  | zero =>
    intro k i hd hi hk
    obtain ⟨k, rfl⟩ : ∃ m, k = m + 1 := ⟨k - 1, by omega⟩
    simp only [spec_l05Code.l0]
    have h1 := bk_l1 ns hn ns.length k 0 (by omega) (by omega) (by omega)
    rw [List.drop_zero, show ((0 : Nat) : Int) = 0 from rfl] at h1
    rw [if_neg (by omega), spec_ok l (by omega) k (by omega), Option.bind_some, h1]
    cases rightB l
    · rw [if_neg (by decide), if_neg (by decide)]
    · rw [if_pos rfl, if_pos rfl]
  | succ d ih =>
    intro k i hd hi hk
    obtain ⟨k, rfl⟩ : ∃ m, k = m + 1 := ⟨k - 1, by omega⟩
    have hlt : i < ns.length := by omega
    simp only [spec_l05Code.l0]
    have hx := hs _ (List.getElem_mem hlt)
    rw [if_pos (by omega), if_pos (by omega), bk_rd ns i hlt, if_neg (by omega), w_succ i (by omega), ih k (i + 1) (by omega) (by omega) (by omega)]
/-- The code of a store and of names that are no longer than texts. -/
def bkCode (l : List S56) (ns : List ByteArray) : Int := if l.length > 4096 then 2 else if rightB l = true then (if ns.all nmB = true then 0 else 4) else 1
theorem spec_bk (l : List S56) (ns : List ByteArray) (hn : ns.length ≤ 1000) (hs : ∀ x ∈ ns, x.size ≤ 65536) (k : Nat) (hk : 10000 < k) : spec_l05Code.f k l ns = some (bkCode l ns) := by
  unfold spec_l05Code.f bkCode
  by_cases h : l.length > 4096
  · rw [if_pos (by omega), if_pos h]
  · have h1 := bk_l0 l (by omega) ns hn hs ns.length k 0 (by omega) (by omega) (by omega)
    rw [show ((0 : Nat) : Int) = 0 from rfl] at h1
    rw [if_neg (by omega), if_neg h, h1]
/-- The amount at a key. -/
def amN (l : List S56) (a : ByteArray) : Int := (raT (getN l a).1).1
/-- No value is longer than a value. -/
def okV (l : List S56) : Prop := ∀ x ∈ l, x.f1.size ≤ 1000
theorem okV_right {l : List S56} (hr : rightB l = true) : okV l := by
  intro x hx
  obtain ⟨i, hi, rfl⟩ := List.getElem_of_mem hx
  have h3 := (right_key hr i hi).2
  unfold valB at h3
  rw [show l.getD i z56 = l[i] by simp [List.getD, List.getElem?_eq_getElem hi]] at h3
  exact of_decide_eq_true h3
theorem getN_size {l : List S56} (hv : okV l) (a : ByteArray) : (getN l a).1.size ≤ 1000 := by
  unfold getN
  by_cases h : fdB l a = true
  · rw [if_pos h]
    have hi := fdB_lt h
    rw [show l.getD (lbN l a) z56 = l[lbN l a] by simp [List.getD, List.getElem?_eq_getElem hi]]
    exact hv _ (List.getElem_mem hi)
  · rw [if_neg h]
    decide
theorem raT_range (t : ByteArray) : 0 ≤ (raT t).1 ∧ (raT t).1 ≤ 1000000000000000000 := by
  classical
  by_cases h : amT t
  · rw [raT_yes t h]
    have := h.2.2.2
    exact ⟨by show (0 : Int) ≤ ((val 0 t.data.toList : Nat) : Int); omega, by show ((val 0 t.data.toList : Nat) : Int) ≤ _; omega⟩
  · rw [raT_no t h]
    decide
theorem amN_range (l : List S56) (a : ByteArray) : 0 ≤ amN l a ∧ amN l a ≤ 1000000000000000000 := raT_range _
theorem impl_am {l : List S56} (hv : okV l) (a : ByteArray) : impl_amountAt.f l a = some (amN l a) := by
  unfold impl_amountAt.f impl_readAmount.f
  have h := getN_size hv a
  rw [impl_get_eq, Option.bind_some, if_pos (by omega), Option.bind_some]
  rfl
theorem spec_am {l : List S56} (hv : okV l) (hl : l.length ≤ 100000) (a : ByteArray) (k : Nat) (hk : 140000 ≤ k) : spec_l05Read.f k l a = some (amN l a) := by
  classical
  have h := getN_size hv a
  unfold spec_l05Read.f
  rw [spec_get_eq l a (by omega) k (by omega), Option.bind_some]
  unfold amN
  by_cases hf : fdB l a = true
  · have hg : (getN l a).2 = true := by unfold getN; rw [if_pos hf]
    rw [if_pos hg, of_eq _ (by omega) k hk, Option.bind_some]
    by_cases h2 : amT (getN l a).1
    · rw [if_pos h2, raT_yes _ h2]
      unfold mx
      rw [show (val 0 (getN l a).1.data.toList : Nat) = (val 0 (getN l a).1.data.toList : Nat) from rfl]
      congr 1
      show _ = ((val 0 (getN l a).1.data.toList : Nat) : Int)
      split <;> omega
    · rw [if_neg h2, raT_no _ h2]
      rfl
  · have hg : (getN l a) = (⟨#[]⟩, false) := by unfold getN; rw [if_neg hf]
    rw [hg, if_neg (by decide), raT_no]
    rintro ⟨⟨h1, _⟩, _⟩
    exact absurd h1 (by decide)
theorem bk_an (ns : List ByteArray) (hn : ns.length ≤ 1000) (hs : ∀ x ∈ ns, x.size ≤ 65536) (d : Nat) : ∀ (k i : Nat), ns.length - i = d → i ≤ ns.length → d + 70001 < k →
    impl_areNames.l0 k ns (ns.length : Int) (i : Int) = some ((ns.drop i).all nmB) := by
  induction d with
  | zero =>
    intro k i hd hi hk
    obtain ⟨k, rfl⟩ : ∃ m, k = m + 1 := ⟨k - 1, by omega⟩
    simp only [impl_areNames.l0]
    rw [if_neg (by omega), List.drop_of_length_le (by omega)]
    rfl
  | succ d ih =>
    intro k i hd hi hk
    obtain ⟨k, rfl⟩ : ∃ m, k = m + 1 := ⟨k - 1, by omega⟩
    have hlt : i < ns.length := by omega
    simp only [impl_areNames.l0]
    rw [if_pos (by omega), if_pos (by omega), if_pos (by omega), bk_rd ns i hlt, impl_nm _ (hs _ (List.getElem_mem hlt)) k (by omega), Option.bind_some, w_succ i (by omega), ih k (i + 1) (by omega) (by omega) (by omega), List.drop_eq_getElem_cons hlt, List.all_cons]
    cases nmB ns[i]
    · rw [if_neg (by decide), Bool.false_and]
    · rw [if_pos rfl, Bool.true_and]
theorem impl_an (ns : List ByteArray) (hn : ns.length ≤ 1000) (hs : ∀ x ∈ ns, x.size ≤ 65536) (k : Nat) (hk : 80000 ≤ k) : impl_areNames.f k ns = some (ns.all nmB) := by
  unfold impl_areNames.f
  have h := bk_an ns hn hs ns.length k 0 (by omega) (by omega) (by omega)
  rw [List.drop_zero, show ((0 : Nat) : Int) = 0 from rfl] at h
  exact h
theorem bk_zero {l : List S56} {ns : List ByteArray} (h : bkCode l ns = 0) : rightB l = true ∧ ns.all nmB = true := by
  unfold bkCode at h
  split at h
  · exact absurd h (by decide)
  · split at h
    · rename_i h1
      split at h
      · rename_i h2
        exact ⟨h1, h2⟩
      · exact absurd h (by decide)
    · exact absurd h (by decide)
/-- The code of a store, names and an amount. -/
def bcN (l : List S56) (n : Int) (ns : List ByteArray) : Int :=
  if l.length > 4096 ∨ (ns.any fun x => decide (65536 < (x.size : Int))) = true then 2 else if bkCode l ns = 0 then (if 1 ≤ n ∧ n ≤ 1000000000000000000 then 0 else 4) else bkCode l ns
theorem impl_bc (l : List S56) (n : Int) (ns : List ByteArray) (hn : ns.length ≤ 1000) (k : Nat) (hk : 140000 ≤ k) : impl_bankCode.f k l n ns = some (bcN l n ns) := by
  unfold impl_bankCode.f bcN
  rw [impl_code l ns k (by omega), Option.bind_some]
  by_cases h1 : l.length > 4096 ∨ (ns.any fun x => decide (65536 < (x.size : Int))) = true
  · have hc : codeN l (ns.any fun x => decide (65536 < (x.size : Int))) = 2 := by
      unfold codeN
      rw [if_pos h1]
    rw [hc, if_neg (by decide), if_pos h1]
  · have hc : codeN l (ns.any fun x => decide (65536 < (x.size : Int))) = if rightB l = true then 0 else 1 := by
      unfold codeN
      rw [if_neg h1]
    have hb2 : bkCode l ns = if rightB l = true then (if ns.all nmB = true then 0 else 4) else 1 := by
      unfold bkCode
      rw [if_neg (fun h => h1 (.inl h))]
    have hs : ∀ x ∈ ns, x.size ≤ 65536 := by
      intro x hx
      have h2 : ¬ (ns.any fun x => decide (65536 < (x.size : Int))) = true := fun h => h1 (.inr h)
      rw [Bool.not_eq_true, List.any_eq_false] at h2
      have := h2 x hx
      rw [decide_eq_true_eq] at this
      omega
    rw [hc, hb2, if_neg h1]
    cases hr : rightB l with
    | false => simp
    | true =>
      simp only [if_true]
      rw [impl_an ns hn hs k (by omega), Option.bind_some]
      cases hall : ns.all nmB with
      | false => simp
      | true =>
        simp only [if_true]
        unfold impl_isSome.f impl_within.f
        by_cases h3 : 1 ≤ n
        · rw [if_pos h3, Option.bind_some, Option.bind_some]
          by_cases h4 : n ≤ 1000000000000000000
          · rw [decide_eq_true h4, if_pos rfl, if_pos ⟨h3, h4⟩]
          · rw [decide_eq_false h4, if_neg (by decide), if_neg (fun h => h4 h.2)]
        · rw [if_neg h3, Option.bind_some, Option.bind_some, if_neg (by decide), if_neg (fun h => h3 h.1)]
/-- An amount is written at a key; nothing for 0. -/
def wrN (l : List S56) (a : ByteArray) (n : Int) : List S56 × Int := if n = 0 then ((dropN l a).1, 0) else putN l a (itoaT n)
/-- A number is added at a key. -/
def addN (l : List S56) (a : ByteArray) (n : Int) : List S56 × Int :=
  if amN l a + n < 0 then (l, 12) else if amN l a + n > 1000000000000000000 then (l, 13) else wrN l a (amN l a + n)
theorem itoa_small (n : Nat) (hn : n ≤ 1000000000000000000) : (itoaT (n : Int)).size ≤ 19 := by
  rw [itoaT_num]
  show (Lib.decDigits n).length ≤ 19
  refine Dd.len 19 n (by omega) ?_
  have : (10 : Nat) ^ 19 = 10000000000000000000 := by decide
  omega
theorem mem_set' {α : Type} : ∀ (l : List α) (i : Nat) (a x : α), x ∈ l.set i a → x ∈ l ∨ x = a
  | [], _, _, _, h => by cases h
  | b :: l, 0, a, x, h => by
    rcases List.mem_cons.1 h with h | h
    · exact .inr h
    · exact .inl (List.mem_cons_of_mem _ h)
  | b :: l, i + 1, a, x, h => by
    rcases List.mem_cons.1 h with h | h
    · exact .inl (h ▸ List.mem_cons_self)
    · rcases mem_set' l i a x h with h | h
      · exact .inl (List.mem_cons_of_mem _ h)
      · exact .inr h
theorem wr_ok {l : List S56} (hv : okV l) (a : ByteArray) (n : Int) (h0 : 0 ≤ n) (h1 : n ≤ 1000000000000000000) : okV (wrN l a n).1 := by
  obtain ⟨m, rfl⟩ := Int.eq_ofNat_of_zero_le h0
  have hs : (itoaT ((m : Nat) : Int)).size ≤ 1000 := by have := itoa_small m (by omega); omega
  unfold wrN dropN putN
  intro x hx
  split at hx
  · split at hx
    · rcases List.mem_append.1 hx with h | h
      · exact hv x (List.mem_of_mem_take h)
      · exact hv x (List.mem_of_mem_drop h)
    · exact hv x hx
  · split at hx
    · rcases mem_set' _ _ _ _ hx with h | rfl
      · exact hv x h
      · exact hs
    · split at hx
      · exact hv x hx
      · rcases List.mem_append.1 hx with h | h
        · exact hv x (List.mem_of_mem_take h)
        · rcases List.mem_cons.1 h with rfl | h
          · exact hs
          · exact hv x (List.mem_of_mem_drop h)
theorem add_ok {l : List S56} (hv : okV l) (a : ByteArray) (n : Int) : okV (addN l a n).1 := by
  unfold addN
  split
  · exact hv
  · split
    · exact hv
    · exact wr_ok hv a _ (by omega) (by omega)
theorem wr_len (l : List S56) (a : ByteArray) (n : Int) : (wrN l a n).1.length ≤ l.length + 1 := by
  unfold wrN dropN putN
  split
  · split
    · simp only [List.length_append, List.length_take, List.length_drop]; omega
    · simp
  · split
    · simp
    · split
      · simp
      · simp only [List.length_append, List.length_take, List.length_cons, List.length_drop]; omega
theorem add_len (l : List S56) (a : ByteArray) (n : Int) : (addN l a n).1.length ≤ l.length + 1 := by
  unfold addN
  split
  · simp
  · split
    · simp
    · exact wr_len _ _ _
/-- Two changes, whole or not at all. -/
def twoN (l : List S56) (a : ByteArray) (n : Int) (b : ByteArray) (m : Int) : List S56 × Int :=
  if (addN l a n).2 = 0 then (if (addN (addN l a n).1 b m).2 = 0 then ((addN (addN l a n).1 b m).1, 0) else (l, (addN (addN l a n).1 b m).2)) else (l, (addN l a n).2)
def bKey (a d : ByteArray) : ByteArray := (((⟨#[98, 47]⟩ : ByteArray) ++ d) ++ (⟨#[47]⟩ : ByteArray)) ++ a
end Go.Proofs.YtpkfdjlmflmilaaGreatDoor.Pure
end
section
namespace Go.Proofs.YtpkfdjlmflmilaaGreatDoor.Q
open Go.RowKit Go.Proofs.YtpkfdjlmflmilaaGreatDoorW.PrintWords Go.Proofs.YtpkfdjlmflmilaaGreatDoorW.PrintLast Go.Proofs.YtpkfdjlmflmilaaGreatDoorW.PrintMore Go.Proofs.YtpkfdjlmflmilaaGreatDoor.Pure
set_option linter.unusedVariables false
set_option linter.unusedSimpArgs false
theorem is_am (x : Int) (h0 : 0 ≤ x) (h1 : x ≤ 1000000000000000000) : impl_isAmount.f x = some true := by
  unfold impl_isAmount.f impl_within.f
  rw [if_pos h0, decide_eq_true h1]
  rfl
theorem sub_eq (x n : Int) (h0 : 0 ≤ x) (h1 : x ≤ 1000000000000000000) (g0 : 1 ≤ n) (g1 : n ≤ 1000000000000000000) : impl_SubAmount.f 2 x n = some (if x + -n < 0 then (0, 12) else (x + -n, 0)) := by
  unfold impl_SubAmount.f
  rw [is_am x h0 h1, is_am n (by omega) g1, Option.bind_some, Option.bind_some, if_pos rfl]
  simp only [impl_SubAmount.j0]
  rw [if_neg (by decide)]
  by_cases h : x < n
  · rw [if_pos h, if_pos (by omega)]
  · rw [if_neg h, if_neg (by omega), show wrap64 (x - n) = x + -n by unfold wrap64; omega]
theorem sum_eq (x n : Int) (h0 : 0 ≤ x) (h1 : x ≤ 1000000000000000000) (g0 : 1 ≤ n) (g1 : n ≤ 1000000000000000000) : impl_AddAmount.f 2 x n = some (if x + n > 1000000000000000000 then (0, 13) else (x + n, 0)) := by
  unfold impl_AddAmount.f
  rw [is_am x h0 h1, is_am n (by omega) g1, Option.bind_some, Option.bind_some, if_pos rfl]
  simp only [impl_AddAmount.j0]
  rw [if_neg (by decide), show wrap64 (x + n) = x + n by unfold wrap64; omega]
  by_cases h : x + n > 1000000000000000000
  · rw [if_pos h, if_pos h]
  · rw [if_neg h, if_neg h]
theorem put_eq (l : List S56) (a : ByteArray) (y : Int) (hl : l.length ≤ 5000) (h0 : 0 ≤ y) (h1 : y ≤ 1000000000000000000) : impl_putAmount.f l a y = some (wrN l a y) := by
  unfold impl_putAmount.f wrN impl_put.f impl_drop.f
  by_cases h : y = 0
  · subst h
    rw [if_neg (by decide), if_pos (by omega), if_pos rfl, Option.bind_some]
  · have ht : impl_amountText.f y = some (itoaT y) := by
      unfold impl_amountText.f strconv_Itoa.f
      rw [if_pos (by omega)]
      rfl
    rw [if_pos (show y > 0 by omega), if_neg h, ht, Option.bind_some, if_pos (by omega)]
    rfl

set_option maxHeartbeats 8000000 in
set_option maxRecDepth 100000 in
theorem impl_fewer_calls (A0 : Option Addr) (c0 : Nat) (l0 : List S56) (a1 : ByteArray) (n : Int) (w : World) (hr0 : Kd.C k56 w A0 l0.length l0) (hc0 : l0.length ≤ c0) (htab : Tb.TB w) (hl : l0.length ≤ 5000) (hv : okV l0) (g0 : 1 ≤ n) (g1 : n ≤ 1000000000000000000) :
    Calls Tryz.prog 64 #[.slice A0 l0.length c0, .string a1, .int .i64 n] w fun e w' => ∃ v, e = .returned (.tuple #[v, .int .i64 (addN l0 a1 (-n)).2]) ∧ ((addN l0 a1 (-n)).2 = 0 → Kd.R k56 56 w' w.heap.size (fun _ => True) v (addN l0 a1 (-n)).1) ∧ Below w.heap.size w w' := by
  have HAM := Aside0.mk (impl_amountAt.calls A0 c0 l0 a1 _ w hr0 hc0 htab (impl_am hv a1))
  have hrg := amN_range l0 a1
  have HC := Aside0.mk hr0
  have HK := Aside0.mk hc0
  have HT := Aside0.mk htab
  unfold addN
  generalize amN l0 a1 = x at *
  have hs := sub_eq x n hrg.1 hrg.2 g0 g1
  by_cases c1 : x + -n < 0
  · rw [if_pos c1] at hs
    have HSU := Aside0.mk (fun W => impl_SubAmount.calls 2 x n _ _ W hs)
    have e1 : (if x + -n < 0 then (l0, (12 : Int)) else if x + -n > 1000000000000000000 then (l0, 13) else wrN l0 a1 (x + -n)) = (l0, 12) := by rw [if_pos c1]
    rw [e1]
    clear e1 hs c1 hrg hr0 hc0 htab hl hv g0 g1
    go_enter Tryz.func64, Tryz.ntmps64
    go_wp2_with (first | (go_at_call 49; refine HAM.out.mono ?_; rintro e w1 ⟨rfl, hb1⟩; have HB1 := Aside0.mk hb1; clear hb1) | (go_at_call 89; refine (HSU.out _).mono ?_; rintro e w2 ⟨rfl, hd2⟩; have HB2 := Aside0.mk (HB1.out.trans (hd2.below.mono HB1.out.size)); clear hd2))
    go_ret2
    exact ⟨_, rfl, fun h => absurd h (by decide), HB2.out⟩
  · rw [if_neg c1] at hs
    have HSU := Aside0.mk (fun W => impl_SubAmount.calls 2 x n _ _ W hs)
    have e1 : (if x + -n < 0 then (l0, (12 : Int)) else if x + -n > 1000000000000000000 then (l0, 13) else wrN l0 a1 (x + -n)) = wrN l0 a1 (x + -n) := by rw [if_neg (by omega), if_neg (by omega)]
    rw [e1]
    have HPE := Aside0.mk (put_eq l0 a1 (x + -n) hl (by omega) (by omega))
    generalize x + -n = y at *
    clear e1 hs c1 hrg hr0 hc0 htab hl hv g0 g1
    go_enter Tryz.func64, Tryz.ntmps64
    go_wp2_with (first | (go_at_call 49; refine HAM.out.mono ?_; rintro e w1 ⟨rfl, hb1⟩; have HB1 := Aside0.mk hb1; clear hb1) | (go_at_call 89; refine (HSU.out _).mono ?_; rintro e w2 ⟨rfl, hd2⟩; have HB2 := Aside0.mk (HB1.out.trans (hd2.below.mono HB1.out.size)); clear hd2) | (go_at_call 90; refine (impl_putAmount.calls A0 c0 l0 a1 y _ _ _ (Kd.C_below HC.out HB2.out) HK.out (Tb.TB.below HT.out HB2.out (Nat.le_refl _)) HPE.out).mono ?_; rintro e w3 ⟨v3, rfl, hR3, hb3⟩; have HR3 := Aside0.mk (Kd.R_lower hR3 HB2.out.size); have HB3 := Aside0.mk (HB2.out.trans (hb3.mono HB2.out.size)); clear hR3 hb3))
    go_ret2
    exact ⟨_, rfl, fun _ => HR3.out, HB3.out⟩
set_option maxHeartbeats 8000000 in
set_option maxRecDepth 100000 in
theorem impl_more_calls (A0 : Option Addr) (c0 : Nat) (l0 : List S56) (a1 : ByteArray) (n : Int) (w : World) (hr0 : Kd.C k56 w A0 l0.length l0) (hc0 : l0.length ≤ c0) (htab : Tb.TB w) (hl : l0.length ≤ 5000) (hv : okV l0) (g0 : 1 ≤ n) (g1 : n ≤ 1000000000000000000) :
    Calls Tryz.prog 68 #[.slice A0 l0.length c0, .string a1, .int .i64 n] w fun e w' => ∃ v, e = .returned (.tuple #[v, .int .i64 (addN l0 a1 n).2]) ∧ ((addN l0 a1 n).2 = 0 → Kd.R k56 56 w' w.heap.size (fun _ => True) v (addN l0 a1 n).1) ∧ Below w.heap.size w w' := by
  have HAM := Aside0.mk (impl_amountAt.calls A0 c0 l0 a1 _ w hr0 hc0 htab (impl_am hv a1))
  have hrg := amN_range l0 a1
  have HC := Aside0.mk hr0
  have HK := Aside0.mk hc0
  have HT := Aside0.mk htab
  unfold addN
  generalize amN l0 a1 = x at *
  have hs := sum_eq x n hrg.1 hrg.2 g0 g1
  by_cases c1 : x + n > 1000000000000000000
  · rw [if_pos c1] at hs
    have HSU := Aside0.mk (fun W => impl_AddAmount.calls 2 x n _ _ W hs)
    have e1 : (if x + n < 0 then (l0, (12 : Int)) else if x + n > 1000000000000000000 then (l0, 13) else wrN l0 a1 (x + n)) = (l0, 13) := by rw [if_neg (by omega), if_pos c1]
    rw [e1]
    clear e1 hs c1 hrg hr0 hc0 htab hl hv g0 g1
    go_enter Tryz.func68, Tryz.ntmps68
    go_wp2_with (first | (go_at_call 49; refine HAM.out.mono ?_; rintro e w1 ⟨rfl, hb1⟩; have HB1 := Aside0.mk hb1; clear hb1) | (go_at_call 91; refine (HSU.out _).mono ?_; rintro e w2 ⟨rfl, hd2⟩; have HB2 := Aside0.mk (HB1.out.trans (hd2.below.mono HB1.out.size)); clear hd2))
    go_ret2
    exact ⟨_, rfl, fun h => absurd h (by decide), HB2.out⟩
  · rw [if_neg c1] at hs
    have HSU := Aside0.mk (fun W => impl_AddAmount.calls 2 x n _ _ W hs)
    have e1 : (if x + n < 0 then (l0, (12 : Int)) else if x + n > 1000000000000000000 then (l0, 13) else wrN l0 a1 (x + n)) = wrN l0 a1 (x + n) := by rw [if_neg (by omega), if_neg (by omega)]
    rw [e1]
    have HPE := Aside0.mk (put_eq l0 a1 (x + n) hl (by omega) (by omega))
    generalize x + n = y at *
    clear e1 hs c1 hrg hr0 hc0 htab hl hv g0 g1
    go_enter Tryz.func68, Tryz.ntmps68
    go_wp2_with (first | (go_at_call 49; refine HAM.out.mono ?_; rintro e w1 ⟨rfl, hb1⟩; have HB1 := Aside0.mk hb1; clear hb1) | (go_at_call 91; refine (HSU.out _).mono ?_; rintro e w2 ⟨rfl, hd2⟩; have HB2 := Aside0.mk (HB1.out.trans (hd2.below.mono HB1.out.size)); clear hd2) | (go_at_call 90; refine (impl_putAmount.calls A0 c0 l0 a1 y _ _ _ (Kd.C_below HC.out HB2.out) HK.out (Tb.TB.below HT.out HB2.out (Nat.le_refl _)) HPE.out).mono ?_; rintro e w3 ⟨v3, rfl, hR3, hb3⟩; have HR3 := Aside0.mk (Kd.R_lower hR3 HB2.out.size); have HB3 := Aside0.mk (HB2.out.trans (hb3.mono HB2.out.size)); clear hR3 hb3))
    go_ret2
    exact ⟨_, rfl, fun _ => HR3.out, HB3.out⟩
end Go.Proofs.YtpkfdjlmflmilaaGreatDoor.Q
end
section
namespace Go.Proofs.YtpkfdjlmflmilaaGreatDoor.Q
open Go.RowKit Go.Proofs.YtpkfdjlmflmilaaGreatDoorW.PrintWords Go.Proofs.YtpkfdjlmflmilaaGreatDoorW.PrintLast Go.Proofs.YtpkfdjlmflmilaaGreatDoorW.PrintMore Go.Proofs.YtpkfdjlmflmilaaGreatDoor.Pure
set_option linter.unusedVariables false
set_option linter.unusedSimpArgs false
def zmove_1_1.T1 : Bool × List (List Nat × List Nat) := (true, [([], []), ([], []), ([], []), ([1, 2], [1, 2]), ([], []), ([0, 3, 4, 3], [0, 3, 4]), ([5], [5]), ([5], [5]), ([6, 5, 0, 1, 2, 3, 4, 5, 6, 7], [6]), ([7, 8, 0, 1, 2, 3, 4, 5, 6, 7, 8], [7])])
def zmove_1_1.B1 : List Nat := [0, 0, 0, 6, 0, 31, 63, 63, 255, 511]
theorem zmove_1_1.tab1 : rtab .any (opsOf Tryz.f71 1) = zmove_1_1.T1 := by kernel_rfl
theorem zmove_1_1.bits1 : waitsOk zmove_1_1.T1.2 zmove_1_1.B1 = true := by kernel_rfl
set_option maxHeartbeats 16000000 in
set_option maxRecDepth 100000 in
theorem zmove_1_1_r1 {Q : Exit → Act → World → Prop} (u0 u4 u5 u6 u7 u8 u9 u10 u11 u12 u13 u14 : Value) (g1 g2 g3 : Nat) (d a key : ByteArray) (n c : Int) (G : Value → World → Prop) (wr : World) (c0 : wr.cell? ⟨g1, 0, none⟩ = some (.string d)) (c1 : wr.cell? ⟨g2, 0, none⟩ = some (.string a)) (c2 : wr.cell? ⟨g3, 0, none⟩ = some (.int .i64 n)) (HKY : Aside0 (∀ W, Calls Tryz.prog 53 #[.string d, .string a] W fun e w' => e = .returned (.string key) ∧ Drawn0 W w')) (HFW : Aside0 (∀ W, Below wr.heap.size wr W → Calls Tryz.prog 64 #[u0, .string key, .int .i64 n] W fun e w' => ∃ v, e = .returned (.tuple #[v, .int .i64 c]) ∧ G v w' ∧ Below W.heap.size W w'))
    (hpan : ∀ c a t v w, Q (.panic c) (Act.put a (some t) v) w → Q (.panic c) a w) (hQ : Aside0 (∀ (v7 v8 v9 v10 v11 v12 v13 v14 v5 : Value) (w' : World), (G v5 w' ∧ Below wr.heap.size wr w') → Q .normal ⟨List.toArray (u0 :: .pointer (some ⟨g1, 0, none⟩) :: .pointer (some ⟨g2, 0, none⟩) :: .pointer (some ⟨g3, 0, none⟩) :: u4 :: v5 :: .int .i64 c :: v7 :: v8 :: v9 :: v10 :: v11 :: v12 :: v13 :: v14 :: []), []⟩ w')) :
    Code.wp Tryz.prog (Code.region 1 (opsOf Tryz.f71 1) true) Q ⟨List.toArray (u0 :: .pointer (some ⟨g1, 0, none⟩) :: .pointer (some ⟨g2, 0, none⟩) :: .pointer (some ⟨g3, 0, none⟩) :: u4 :: u5 :: u6 :: u7 :: u8 :: u9 :: u10 :: u11 :: u12 :: u13 :: u14 :: []), []⟩ wr := by
  conv => arg 2; arg 2; whnf
  refine start_ (n := 10) (S := fun w' => w'.cell? ⟨g1, 0, none⟩ = some (.string d) ∧ w'.cell? ⟨g2, 0, none⟩ = some (.string a) ∧ w'.cell? ⟨g3, 0, none⟩ = some (.int .i64 n)) (ds := []) #[false, false, false, false, false, false, false, false, false, false] (by kernel_rfl) rfl rfl ⟨c0, c1, c2⟩ (fun hHeld => ?_)
  refine with_tabW zmove_1_1.tab1 zmove_1_1.bits1 (fun HT_ HW_ => ?_)
  refine pure_ (i := 0) (N := some 7) (v := ?_) (a' := ?_) #[true, false, false, false, false, false, false, false, false, false] rfl rfl (any_of HT_.out (by kernel_rfl)) (fun _ _ _ h => hpan _ _ _ _ _ h) (Or.inl ⟨by rfl, ?_⟩) ?_ ?_
  rotate_left
  · intro w'
    go_simp
    with_reducible rfl
  rotate_left
  · simp only [Act.put, List.setIfInBounds_toArray, List.set_cons_zero, List.set_cons_succ, i64_w, i32_w]
    rfl
  refine take_ (i := 1) (N := some 8) (v := ?_) (a' := ?_) #[true, true, false, false, false, false, false, false, false, false] rfl rfl (take_ofW HT_.out HW_.out (by kernel_rfl)) (fun _ _ _ h => hpan _ _ _ _ _ h) (Or.inl ⟨by rfl, ?_⟩) hHeld ?_ ?_
  rotate_left
  · rintro w' ⟨s0, s1, s2⟩
    go_simp
    with_reducible rfl
  rotate_left
  · simp only [Act.put, List.setIfInBounds_toArray, List.set_cons_zero, List.set_cons_succ, i64_w, i32_w]
    rfl
  refine take_ (i := 2) (N := some 9) (v := ?_) (a' := ?_) #[true, true, true, false, false, false, false, false, false, false] rfl rfl (take_ofW HT_.out HW_.out (by kernel_rfl)) (fun _ _ _ h => hpan _ _ _ _ _ h) (Or.inl ⟨by rfl, ?_⟩) hHeld ?_ ?_
  rotate_left
  · rintro w' ⟨s0, s1, s2⟩
    go_simp
    with_reducible rfl
  rotate_left
  · simp only [Act.put, List.setIfInBounds_toArray, List.set_cons_zero, List.set_cons_succ, i64_w, i32_w]
    rfl
  refine take_ (i := 4) (N := some 11) (v := ?_) (a' := ?_) #[true, true, true, false, true, false, false, false, false, false] rfl rfl (take_ofW HT_.out HW_.out (by kernel_rfl)) (fun _ _ _ h => hpan _ _ _ _ _ h) (Or.inl ⟨by rfl, ?_⟩) hHeld ?_ ?_
  rotate_left
  · rintro w' ⟨s0, s1, s2⟩
    go_simp
    with_reducible rfl
  rotate_left
  · simp only [Act.put, List.setIfInBounds_toArray, List.set_cons_zero, List.set_cons_succ, i64_w, i32_w]
    rfl
  refine one_ (i := 3) (N := some 10) #[true, true, true, true, true, false, false, false, false, false] rfl rfl (one_of HT_.out (by kernel_rfl)) (by decide) (fun K hK => ?_)
  refine goes_ Tryz.func53 (by kernel_rfl) rfl #[.string d, .string a] (by rfl) rfl rfl (by simp only [List.map_toArray, List.map_cons, List.map_nil]; rfl) ?_
  refine (HKY.out _).mono ?_
  rintro e_ w3 ⟨rfl, d3⟩
  have b3 := d3.below
  refine ⟨_, rfl, ?_⟩
  refine hK.out _ _ ⟨(b3.cell (World.block_lt_of_cell? _ _ hHeld.1)).trans hHeld.1, (b3.cell (World.block_lt_of_cell? _ _ hHeld.2.1)).trans hHeld.2.1, (b3.cell (World.block_lt_of_cell? _ _ hHeld.2.2)).trans hHeld.2.2⟩ (fun hHeld => ?_)
  clear hK K
  refine norm_ (a' := ?_) ?_ ?_
  rotate_left
  · show Act.put _ (some 10) _ = _
    simp only [Act.put, List.setIfInBounds_toArray, List.set_cons_zero, List.set_cons_succ, i64_w, i32_w]
    rfl
  refine one_ (i := 5) (N := some 12) #[true, true, true, true, true, true, false, false, false, false] rfl rfl (one_of HT_.out (by kernel_rfl)) (by decide) (fun K hK => ?_)
  refine goes_ Tryz.func64 (by kernel_rfl) rfl #[u0, .string key, .int .i64 n] (by rfl) rfl rfl (by simp only [List.map_toArray, List.map_cons, List.map_nil]; rfl) ?_
  refine (HFW.out _ (below_step (below_drew1 (Below.refl wr.heap.size wr)) b3)).mono ?_
  rintro e_ w6 ⟨v6, rfl, g6, b6⟩
  refine ⟨_, rfl, ?_⟩
  refine hK.out _ _ ⟨(b6.cell (World.block_lt_of_cell? _ _ hHeld.1)).trans hHeld.1, (b6.cell (World.block_lt_of_cell? _ _ hHeld.2.1)).trans hHeld.2.1, (b6.cell (World.block_lt_of_cell? _ _ hHeld.2.2)).trans hHeld.2.2⟩ (fun hHeld => ?_)
  clear hK K
  refine norm_ (a' := ?_) ?_ ?_
  rotate_left
  · show Act.put _ (some 12) _ = _
    simp only [Act.put, List.setIfInBounds_toArray, List.set_cons_zero, List.set_cons_succ, i64_w, i32_w]
    rfl
  refine pure_ (i := 6) (N := some 13) (v := ?_) (a' := ?_) #[true, true, true, true, true, true, true, false, false, false] rfl rfl (any_of HT_.out (by kernel_rfl)) (fun _ _ _ h => hpan _ _ _ _ _ h) (Or.inl ⟨by rfl, ?_⟩) ?_ ?_
  rotate_left
  · intro w'
    go_simp
    with_reducible rfl
  rotate_left
  · simp only [Act.put, List.setIfInBounds_toArray, List.set_cons_zero, List.set_cons_succ, i64_w, i32_w]
    rfl
  refine pure_ (i := 7) (N := some 14) (v := ?_) (a' := ?_) #[true, true, true, true, true, true, true, true, false, false] rfl rfl (any_of HT_.out (by kernel_rfl)) (fun _ _ _ h => hpan _ _ _ _ _ h) (Or.inl ⟨by rfl, ?_⟩) ?_ ?_
  rotate_left
  · intro w'
    go_simp
    with_reducible rfl
  rotate_left
  · simp only [Act.put, List.setIfInBounds_toArray, List.set_cons_zero, List.set_cons_succ, i64_w, i32_w]
    rfl
  refine pure_ (i := 8) (N := some 5) (v := ?_) (a' := ?_) #[true, true, true, true, true, true, true, true, true, false] rfl rfl (any_of HT_.out (by kernel_rfl)) (fun _ _ _ h => hpan _ _ _ _ _ h) (Or.inl ⟨by rfl, ?_⟩) ?_ ?_
  rotate_left
  · intro w'
    go_simp
    with_reducible rfl
  rotate_left
  · simp only [Act.put, List.setIfInBounds_toArray, List.set_cons_zero, List.set_cons_succ, i64_w, i32_w]
    rfl
  refine pure_ (i := 9) (N := some 6) (v := ?_) (a' := ?_) #[true, true, true, true, true, true, true, true, true, true] rfl rfl (any_of HT_.out (by kernel_rfl)) (fun _ _ _ h => hpan _ _ _ _ _ h) (Or.inl ⟨by rfl, ?_⟩) ?_ ?_
  rotate_left
  · intro w'
    go_simp
    with_reducible rfl
  rotate_left
  · simp only [Act.put, List.setIfInBounds_toArray, List.set_cons_zero, List.set_cons_succ, i64_w, i32_w]
    rfl
  refine done_ (done_of HT_.out (by kernel_rfl)) ?_

  refine hQ.out _ _ _ _ _ _ _ _ _ _ ?_
  exact ⟨g6, below_step (below_step (below_drew1 (Below.refl wr.heap.size wr)) b3) b6⟩

set_option maxHeartbeats 8000000 in
set_option maxRecDepth 100000 in
theorem zmove_1_1_calls (u0 : Value) (g1 g2 g3 : Nat) (d a key : ByteArray) (n c : Int) (G : Value → World → Prop) (wr : World) (c0 : wr.cell? ⟨g1, 0, none⟩ = some (.string d)) (c1 : wr.cell? ⟨g2, 0, none⟩ = some (.string a)) (c2 : wr.cell? ⟨g3, 0, none⟩ = some (.int .i64 n)) (HKY : Aside0 (∀ W, Calls Tryz.prog 53 #[.string d, .string a] W fun e w' => e = .returned (.string key) ∧ Drawn0 W w')) (HFW : Aside0 (∀ W, Below wr.heap.size wr W → Calls Tryz.prog 64 #[u0, .string key, .int .i64 n] W fun e w' => ∃ v, e = .returned (.tuple #[v, .int .i64 c]) ∧ G v w' ∧ Below W.heap.size W w')) :
    Calls Tryz.prog 71 #[u0, .pointer (some ⟨g1, 0, none⟩), .pointer (some ⟨g2, 0, none⟩), .pointer (some ⟨g3, 0, none⟩)] wr fun e w' => ∃ v, e = .returned (.tuple #[v, .int .i64 c]) ∧ G v w' ∧ Below wr.heap.size wr w' := by
  go_enter Tryz.func71, Tryz.ntmps71
  go_upto_region 1 with (fail)
  refine zmove_1_1_r1 _ _ _ _ _ _ _ _ _ _ _ _ g1 g2 g3 d a key n c G _ c0 c1 c2 HKY HFW (fun _ _ _ _ _ h => h) ⟨?_⟩
  intro v7 v8 v9 v10 v11 v12 v13 v14 v5
  rintro w' ⟨hG, hB⟩
  go_wp2
  go_ret2
  exact ⟨_, rfl, hG, hB⟩
def zmove_1_2.T1 : Bool × List (List Nat × List Nat) := (true, [([], []), ([], []), ([], []), ([1, 2], [1, 2]), ([], []), ([0, 3, 4, 3], [0, 3, 4]), ([5], [5]), ([5], [5]), ([6, 5, 0, 1, 2, 3, 4, 5, 6, 7], [6]), ([7, 8, 0, 1, 2, 3, 4, 5, 6, 7, 8], [7])])
def zmove_1_2.B1 : List Nat := [0, 0, 0, 6, 0, 31, 63, 63, 255, 511]
theorem zmove_1_2.tab1 : rtab .any (opsOf Tryz.f72 1) = zmove_1_2.T1 := by kernel_rfl
theorem zmove_1_2.bits1 : waitsOk zmove_1_2.T1.2 zmove_1_2.B1 = true := by kernel_rfl
set_option maxHeartbeats 16000000 in
set_option maxRecDepth 100000 in
theorem zmove_1_2_r1 {Q : Exit → Act → World → Prop} (u0 u4 u5 u6 u7 u8 u9 u10 u11 u12 u13 u14 : Value) (g1 g2 g3 : Nat) (d a key : ByteArray) (n c : Int) (G : Value → World → Prop) (wr : World) (c0 : wr.cell? ⟨g1, 0, none⟩ = some (.string d)) (c1 : wr.cell? ⟨g2, 0, none⟩ = some (.string a)) (c2 : wr.cell? ⟨g3, 0, none⟩ = some (.int .i64 n)) (HKY : Aside0 (∀ W, Calls Tryz.prog 53 #[.string d, .string a] W fun e w' => e = .returned (.string key) ∧ Drawn0 W w')) (HFW : Aside0 (∀ W, Below wr.heap.size wr W → Calls Tryz.prog 68 #[u0, .string key, .int .i64 n] W fun e w' => ∃ v, e = .returned (.tuple #[v, .int .i64 c]) ∧ G v w' ∧ Below W.heap.size W w'))
    (hpan : ∀ c a t v w, Q (.panic c) (Act.put a (some t) v) w → Q (.panic c) a w) (hQ : Aside0 (∀ (v7 v8 v9 v10 v11 v12 v13 v14 v5 : Value) (w' : World), (G v5 w' ∧ Below wr.heap.size wr w') → Q .normal ⟨List.toArray (u0 :: .pointer (some ⟨g1, 0, none⟩) :: .pointer (some ⟨g2, 0, none⟩) :: .pointer (some ⟨g3, 0, none⟩) :: u4 :: v5 :: .int .i64 c :: v7 :: v8 :: v9 :: v10 :: v11 :: v12 :: v13 :: v14 :: []), []⟩ w')) :
    Code.wp Tryz.prog (Code.region 1 (opsOf Tryz.f72 1) true) Q ⟨List.toArray (u0 :: .pointer (some ⟨g1, 0, none⟩) :: .pointer (some ⟨g2, 0, none⟩) :: .pointer (some ⟨g3, 0, none⟩) :: u4 :: u5 :: u6 :: u7 :: u8 :: u9 :: u10 :: u11 :: u12 :: u13 :: u14 :: []), []⟩ wr := by
  conv => arg 2; arg 2; whnf
  refine start_ (n := 10) (S := fun w' => w'.cell? ⟨g1, 0, none⟩ = some (.string d) ∧ w'.cell? ⟨g2, 0, none⟩ = some (.string a) ∧ w'.cell? ⟨g3, 0, none⟩ = some (.int .i64 n)) (ds := []) #[false, false, false, false, false, false, false, false, false, false] (by kernel_rfl) rfl rfl ⟨c0, c1, c2⟩ (fun hHeld => ?_)
  refine with_tabW zmove_1_2.tab1 zmove_1_2.bits1 (fun HT_ HW_ => ?_)
  refine pure_ (i := 0) (N := some 7) (v := ?_) (a' := ?_) #[true, false, false, false, false, false, false, false, false, false] rfl rfl (any_of HT_.out (by kernel_rfl)) (fun _ _ _ h => hpan _ _ _ _ _ h) (Or.inl ⟨by rfl, ?_⟩) ?_ ?_
  rotate_left
  · intro w'
    go_simp
    with_reducible rfl
  rotate_left
  · simp only [Act.put, List.setIfInBounds_toArray, List.set_cons_zero, List.set_cons_succ, i64_w, i32_w]
    rfl
  refine take_ (i := 1) (N := some 8) (v := ?_) (a' := ?_) #[true, true, false, false, false, false, false, false, false, false] rfl rfl (take_ofW HT_.out HW_.out (by kernel_rfl)) (fun _ _ _ h => hpan _ _ _ _ _ h) (Or.inl ⟨by rfl, ?_⟩) hHeld ?_ ?_
  rotate_left
  · rintro w' ⟨s0, s1, s2⟩
    go_simp
    with_reducible rfl
  rotate_left
  · simp only [Act.put, List.setIfInBounds_toArray, List.set_cons_zero, List.set_cons_succ, i64_w, i32_w]
    rfl
  refine take_ (i := 2) (N := some 9) (v := ?_) (a' := ?_) #[true, true, true, false, false, false, false, false, false, false] rfl rfl (take_ofW HT_.out HW_.out (by kernel_rfl)) (fun _ _ _ h => hpan _ _ _ _ _ h) (Or.inl ⟨by rfl, ?_⟩) hHeld ?_ ?_
  rotate_left
  · rintro w' ⟨s0, s1, s2⟩
    go_simp
    with_reducible rfl
  rotate_left
  · simp only [Act.put, List.setIfInBounds_toArray, List.set_cons_zero, List.set_cons_succ, i64_w, i32_w]
    rfl
  refine take_ (i := 4) (N := some 11) (v := ?_) (a' := ?_) #[true, true, true, false, true, false, false, false, false, false] rfl rfl (take_ofW HT_.out HW_.out (by kernel_rfl)) (fun _ _ _ h => hpan _ _ _ _ _ h) (Or.inl ⟨by rfl, ?_⟩) hHeld ?_ ?_
  rotate_left
  · rintro w' ⟨s0, s1, s2⟩
    go_simp
    with_reducible rfl
  rotate_left
  · simp only [Act.put, List.setIfInBounds_toArray, List.set_cons_zero, List.set_cons_succ, i64_w, i32_w]
    rfl
  refine one_ (i := 3) (N := some 10) #[true, true, true, true, true, false, false, false, false, false] rfl rfl (one_of HT_.out (by kernel_rfl)) (by decide) (fun K hK => ?_)
  refine goes_ Tryz.func53 (by kernel_rfl) rfl #[.string d, .string a] (by rfl) rfl rfl (by simp only [List.map_toArray, List.map_cons, List.map_nil]; rfl) ?_
  refine (HKY.out _).mono ?_
  rintro e_ w3 ⟨rfl, d3⟩
  have b3 := d3.below
  refine ⟨_, rfl, ?_⟩
  refine hK.out _ _ ⟨(b3.cell (World.block_lt_of_cell? _ _ hHeld.1)).trans hHeld.1, (b3.cell (World.block_lt_of_cell? _ _ hHeld.2.1)).trans hHeld.2.1, (b3.cell (World.block_lt_of_cell? _ _ hHeld.2.2)).trans hHeld.2.2⟩ (fun hHeld => ?_)
  clear hK K
  refine norm_ (a' := ?_) ?_ ?_
  rotate_left
  · show Act.put _ (some 10) _ = _
    simp only [Act.put, List.setIfInBounds_toArray, List.set_cons_zero, List.set_cons_succ, i64_w, i32_w]
    rfl
  refine one_ (i := 5) (N := some 12) #[true, true, true, true, true, true, false, false, false, false] rfl rfl (one_of HT_.out (by kernel_rfl)) (by decide) (fun K hK => ?_)
  refine goes_ Tryz.func68 (by kernel_rfl) rfl #[u0, .string key, .int .i64 n] (by rfl) rfl rfl (by simp only [List.map_toArray, List.map_cons, List.map_nil]; rfl) ?_
  refine (HFW.out _ (below_step (below_drew1 (Below.refl wr.heap.size wr)) b3)).mono ?_
  rintro e_ w6 ⟨v6, rfl, g6, b6⟩
  refine ⟨_, rfl, ?_⟩
  refine hK.out _ _ ⟨(b6.cell (World.block_lt_of_cell? _ _ hHeld.1)).trans hHeld.1, (b6.cell (World.block_lt_of_cell? _ _ hHeld.2.1)).trans hHeld.2.1, (b6.cell (World.block_lt_of_cell? _ _ hHeld.2.2)).trans hHeld.2.2⟩ (fun hHeld => ?_)
  clear hK K
  refine norm_ (a' := ?_) ?_ ?_
  rotate_left
  · show Act.put _ (some 12) _ = _
    simp only [Act.put, List.setIfInBounds_toArray, List.set_cons_zero, List.set_cons_succ, i64_w, i32_w]
    rfl
  refine pure_ (i := 6) (N := some 13) (v := ?_) (a' := ?_) #[true, true, true, true, true, true, true, false, false, false] rfl rfl (any_of HT_.out (by kernel_rfl)) (fun _ _ _ h => hpan _ _ _ _ _ h) (Or.inl ⟨by rfl, ?_⟩) ?_ ?_
  rotate_left
  · intro w'
    go_simp
    with_reducible rfl
  rotate_left
  · simp only [Act.put, List.setIfInBounds_toArray, List.set_cons_zero, List.set_cons_succ, i64_w, i32_w]
    rfl
  refine pure_ (i := 7) (N := some 14) (v := ?_) (a' := ?_) #[true, true, true, true, true, true, true, true, false, false] rfl rfl (any_of HT_.out (by kernel_rfl)) (fun _ _ _ h => hpan _ _ _ _ _ h) (Or.inl ⟨by rfl, ?_⟩) ?_ ?_
  rotate_left
  · intro w'
    go_simp
    with_reducible rfl
  rotate_left
  · simp only [Act.put, List.setIfInBounds_toArray, List.set_cons_zero, List.set_cons_succ, i64_w, i32_w]
    rfl
  refine pure_ (i := 8) (N := some 5) (v := ?_) (a' := ?_) #[true, true, true, true, true, true, true, true, true, false] rfl rfl (any_of HT_.out (by kernel_rfl)) (fun _ _ _ h => hpan _ _ _ _ _ h) (Or.inl ⟨by rfl, ?_⟩) ?_ ?_
  rotate_left
  · intro w'
    go_simp
    with_reducible rfl
  rotate_left
  · simp only [Act.put, List.setIfInBounds_toArray, List.set_cons_zero, List.set_cons_succ, i64_w, i32_w]
    rfl
  refine pure_ (i := 9) (N := some 6) (v := ?_) (a' := ?_) #[true, true, true, true, true, true, true, true, true, true] rfl rfl (any_of HT_.out (by kernel_rfl)) (fun _ _ _ h => hpan _ _ _ _ _ h) (Or.inl ⟨by rfl, ?_⟩) ?_ ?_
  rotate_left
  · intro w'
    go_simp
    with_reducible rfl
  rotate_left
  · simp only [Act.put, List.setIfInBounds_toArray, List.set_cons_zero, List.set_cons_succ, i64_w, i32_w]
    rfl
  refine done_ (done_of HT_.out (by kernel_rfl)) ?_

  refine hQ.out _ _ _ _ _ _ _ _ _ _ ?_
  exact ⟨g6, below_step (below_step (below_drew1 (Below.refl wr.heap.size wr)) b3) b6⟩

set_option maxHeartbeats 8000000 in
set_option maxRecDepth 100000 in
theorem zmove_1_2_calls (u0 : Value) (g1 g2 g3 : Nat) (d a key : ByteArray) (n c : Int) (G : Value → World → Prop) (wr : World) (c0 : wr.cell? ⟨g1, 0, none⟩ = some (.string d)) (c1 : wr.cell? ⟨g2, 0, none⟩ = some (.string a)) (c2 : wr.cell? ⟨g3, 0, none⟩ = some (.int .i64 n)) (HKY : Aside0 (∀ W, Calls Tryz.prog 53 #[.string d, .string a] W fun e w' => e = .returned (.string key) ∧ Drawn0 W w')) (HFW : Aside0 (∀ W, Below wr.heap.size wr W → Calls Tryz.prog 68 #[u0, .string key, .int .i64 n] W fun e w' => ∃ v, e = .returned (.tuple #[v, .int .i64 c]) ∧ G v w' ∧ Below W.heap.size W w')) :
    Calls Tryz.prog 72 #[u0, .pointer (some ⟨g1, 0, none⟩), .pointer (some ⟨g2, 0, none⟩), .pointer (some ⟨g3, 0, none⟩)] wr fun e w' => ∃ v, e = .returned (.tuple #[v, .int .i64 c]) ∧ G v w' ∧ Below wr.heap.size wr w' := by
  go_enter Tryz.func72, Tryz.ntmps72
  go_upto_region 1 with (fail)
  refine zmove_1_2_r1 _ _ _ _ _ _ _ _ _ _ _ _ g1 g2 g3 d a key n c G _ c0 c1 c2 HKY HFW (fun _ _ _ _ _ h => h) ⟨?_⟩
  intro v7 v8 v9 v10 v11 v12 v13 v14 v5
  rintro w' ⟨hG, hB⟩
  go_wp2
  go_ret2
  exact ⟨_, rfl, hG, hB⟩
end Go.Proofs.YtpkfdjlmflmilaaGreatDoor.Q
end
section
namespace Go.Proofs.YtpkfdjlmflmilaaGreatDoor.Q
open Go.RowKit Go.Proofs.YtpkfdjlmflmilaaGreatDoorW.PrintWords Go.Proofs.YtpkfdjlmflmilaaGreatDoorW.PrintLast Go.Proofs.YtpkfdjlmflmilaaGreatDoorW.PrintMore Go.Proofs.YtpkfdjlmflmilaaGreatDoor.Pure
set_option linter.unusedVariables false
set_option linter.unusedSimpArgs false
theorem drop_empty {l : List S56} (hr : rightB l = true) : dropN l ⟨#[]⟩ = (l, 5) := by
  have h : fdB l ⟨#[]⟩ = false := by
    rw [Bool.eq_false_iff]
    intro h
    have hi := fdB_lt h
    have hk := fdB_key h
    have h2 := (right_key hr (lbN l ⟨#[]⟩) hi).1
    have e : key l (lbN l ⟨#[]⟩) = (⟨#[]⟩ : ByteArray) := hk
    rw [e] at h2
    revert h2
    decide
  unfold dropN
  rw [h, if_neg (by decide)]
set_option maxHeartbeats 8000000 in
set_option maxRecDepth 100000 in
theorem all_move_calls (A0 : Option Addr) (c0 gr g1 g2 g3 g4 : Nat) (l0 r1 r2 : List S56) (e1 e2 : Int) (w : World) (hgr : gr < w.heap.size) (hc0 : w.cell? ⟨gr, 0, none⟩ = some (.func (.func 71) #[] #[.pointer (some ⟨g1, 0, none⟩), .pointer (some ⟨g2, 0, none⟩), .pointer (some ⟨g3, 0, none⟩)])) (hc1 : w.cell? ⟨gr, 1, none⟩ = some (.func (.func 72) #[] #[.pointer (some ⟨g1, 0, none⟩), .pointer (some ⟨g4, 0, none⟩), .pointer (some ⟨g3, 0, none⟩)]))
    (XD : Aside0 (∀ W, Below w.heap.size w W → Calls Tryz.prog 88 #[.slice A0 l0.length c0, .string ⟨#[]⟩] W fun e w' => ∃ v, e = .returned (.tuple #[v, .int .i64 5]) ∧ Kd.R k56 56 w' W.heap.size (fun _ => True) v l0 ∧ Below W.heap.size W w'))
    (X1 : Aside0 (∀ (W : World) (A : Option Addr) (c : Nat), Below w.heap.size w W → Kd.C k56 W A l0.length l0 → l0.length ≤ c → Calls Tryz.prog 71 #[.slice A l0.length c, .pointer (some ⟨g1, 0, none⟩), .pointer (some ⟨g2, 0, none⟩), .pointer (some ⟨g3, 0, none⟩)] W fun e w' => ∃ v, e = .returned (.tuple #[v, .int .i64 e1]) ∧ (e1 = 0 → Kd.R k56 56 w' w.heap.size (fun _ => True) v r1) ∧ Below w.heap.size W w'))
    (X2 : Aside0 (∀ (W : World) (A : Option Addr) (c : Nat), Below w.heap.size w W → Kd.C k56 W A r1.length r1 → r1.length ≤ c → Calls Tryz.prog 72 #[.slice A r1.length c, .pointer (some ⟨g1, 0, none⟩), .pointer (some ⟨g4, 0, none⟩), .pointer (some ⟨g3, 0, none⟩)] W fun e w' => ∃ v, e = .returned (.tuple #[v, .int .i64 e2]) ∧ (e2 = 0 → Kd.R k56 56 w' w.heap.size (fun _ => True) v r2) ∧ Below w.heap.size W w')) :
    Calls Tryz.prog 62 #[.slice A0 l0.length c0, .slice (some ⟨gr, 0, none⟩) 2 2] w fun e w' => ∃ v, e = .returned (.tuple #[v, .int .i64 (if e1 = 0 then (if e2 = 0 then 0 else e2) else e1)]) ∧ Kd.R k56 56 w' w.heap.size (fun _ => True) v (if e1 = 0 then (if e2 = 0 then r2 else l0) else l0) ∧ Below w.heap.size w w' := by
  have HBr := Aside0.mk (Below.refl w.heap.size w)
  go_enter Tryz.func62, Tryz.ntmps62
  go_wp2_with (first | (go_at_call 88; refine (XD.out _ HBr.out).mono ?_; rintro e wd ⟨vd, rfl, hRd, hbd⟩; have HRd := Aside0.mk (Kd.R_lower hRd (HBr.out).size); have HBd := Aside0.mk ((HBr.out).trans (hbd.mono (HBr.out).size)); clear hRd hbd))
  go_loopg [6, 21] 3 (fun gk v6 v21 w' => (gk = 3 ∧ v21 = .int .i64 0 ∧ Aside0 (Kd.R k56 56 w' w.heap.size (fun _ => True) v6 l0) ∧ Aside0 (Below w.heap.size w w')) ∨ (gk = 2 ∧ v21 = .int .i64 1 ∧ e1 = 0 ∧ Aside0 (Kd.R k56 56 w' w.heap.size (fun _ => True) v6 r1) ∧ Aside0 (Below w.heap.size w w')) ∨ (gk = 1 ∧ v21 = .int .i64 2 ∧ e1 = 0 ∧ e2 = 0 ∧ Aside0 (Kd.R k56 56 w' w.heap.size (fun _ => True) v6 r2) ∧ Aside0 (Below w.heap.size w w')))
  case atStart => exact .inl ⟨rfl, rfl, ⟨HRd.out⟩, ⟨HBd.out⟩⟩
  case round =>
    rcases hrel with hrel | hrel | hrel
    · obtain ⟨hk, hv, HR, HB⟩ := hrel
      subst hk
      subst hv
      obtain ⟨Ao, co, eo⟩ := Kd.R_slice HR.out
      subst eo
      have HCC := Aside0.mk (Kd.R_reads' HR.out).2.2
      have HCL := Aside0.mk (Kd.R_reads' HR.out).2.1
      have hcell : wr.cell? ⟨gr, 0, none⟩ = some (.func (.func 71) #[] #[.pointer (some ⟨g1, 0, none⟩), .pointer (some ⟨g2, 0, none⟩), .pointer (some ⟨g3, 0, none⟩)]) := (HB.out.cell hgr).trans hc0
      by_cases c_ : e1 = 0
      · subst c_
        go_wp2_with (first | (go_at_call 71; refine (X1.out _ _ _ HB.out HCC.out HCL.out).mono ?_; rintro e w2 ⟨v2, rfl, hR2, hb2⟩; have HR2 := Aside0.mk hR2; have HB2 := Aside0.mk (HB.out.trans hb2); clear hR2 hb2))
        go_roundg 2
        case measure => omega
        case rel => exact .inr (.inl ⟨rfl, rfl, (by first | trivial | rfl), ⟨HR2.out (by first | trivial | rfl)⟩, ⟨HB2.out⟩⟩)
      · have z1 : (e1 == 0) = false := by simpa using c_
        have z2 : (e1 != 0) = true := by simpa using c_
        go_wp2_with (first | (go_at_call 71; refine (X1.out _ _ _ HB.out HCC.out HCL.out).mono ?_; rintro e w2 ⟨v2, rfl, hR2, hb2⟩; have HR2 := Aside0.mk hR2; have HB2 := Aside0.mk (HB.out.trans hb2); clear hR2 hb2) | (go_at_call 88; refine (XD.out _ HB2.out).mono ?_; rintro e wd ⟨vd, rfl, hRd, hbd⟩; have HRd := Aside0.mk (Kd.R_lower hRd (HB2.out).size); have HBd := Aside0.mk ((HB2.out).trans (hbd.mono (HB2.out).size)); clear hRd hbd))
        go_ret2
        exact ⟨_, rfl, by skip; exact HRd.out, HBd.out⟩
    · obtain ⟨hk, hv, he1, HR, HB⟩ := hrel
      subst hk
      subst hv
      obtain ⟨Ao, co, eo⟩ := Kd.R_slice HR.out
      subst eo
      have HCC := Aside0.mk (Kd.R_reads' HR.out).2.2
      have HCL := Aside0.mk (Kd.R_reads' HR.out).2.1
      have hcell : wr.cell? ⟨gr, 1, none⟩ = some (.func (.func 72) #[] #[.pointer (some ⟨g1, 0, none⟩), .pointer (some ⟨g4, 0, none⟩), .pointer (some ⟨g3, 0, none⟩)]) := (HB.out.cell hgr).trans hc1
      by_cases c_ : e2 = 0
      · subst c_
        go_wp2_with (first | (go_at_call 72; refine (X2.out _ _ _ HB.out HCC.out HCL.out).mono ?_; rintro e w2 ⟨v2, rfl, hR2, hb2⟩; have HR2 := Aside0.mk hR2; have HB2 := Aside0.mk (HB.out.trans hb2); clear hR2 hb2))
        go_roundg 1
        case measure => omega
        case rel => exact .inr (.inr ⟨rfl, rfl, (by first | exact he1 | trivial | rfl), (by first | trivial | rfl), ⟨HR2.out (by first | trivial | rfl)⟩, ⟨HB2.out⟩⟩)
      · have z1 : (e2 == 0) = false := by simpa using c_
        have z2 : (e2 != 0) = true := by simpa using c_
        go_wp2_with (first | (go_at_call 72; refine (X2.out _ _ _ HB.out HCC.out HCL.out).mono ?_; rintro e w2 ⟨v2, rfl, hR2, hb2⟩; have HR2 := Aside0.mk hR2; have HB2 := Aside0.mk (HB.out.trans hb2); clear hR2 hb2) | (go_at_call 88; refine (XD.out _ HB2.out).mono ?_; rintro e wd ⟨vd, rfl, hRd, hbd⟩; have HRd := Aside0.mk (Kd.R_lower hRd (HB2.out).size); have HBd := Aside0.mk ((HB2.out).trans (hbd.mono (HB2.out).size)); clear hRd hbd))
        go_ret2
        exact ⟨_, rfl, by skip; exact HRd.out, HBd.out⟩
    · obtain ⟨hk, hv, he1, he2, HR, HB⟩ := hrel
      subst hk
      subst hv
      subst he1
      subst he2
      go_wp2
      go_ret2
      exact ⟨_, rfl, HR.out, HB.out⟩
end Go.Proofs.YtpkfdjlmflmilaaGreatDoor.Q
end
section
namespace Go.Proofs.YtpkfdjlmflmilaaGreatDoor.Q
open Go.RowKit Go.Proofs.YtpkfdjlmflmilaaGreatDoorW.PrintWords Go.Proofs.YtpkfdjlmflmilaaGreatDoorW.PrintLast Go.Proofs.YtpkfdjlmflmilaaGreatDoorW.PrintMore Go.Proofs.YtpkfdjlmflmilaaGreatDoor.Pure
set_option linter.unusedVariables false
set_option linter.unusedSimpArgs false
theorem ys2 (d : ByteArray) : ((⟨#[98, 47]⟩ : ByteArray) ++ d).size = 2 + d.size := by rw [ByteArray.size_append]; rfl
theorem ys3 (d : ByteArray) : (((⟨#[98, 47]⟩ : ByteArray) ++ d) ++ (⟨#[47]⟩ : ByteArray)).size = 3 + d.size := by rw [ByteArray.size_append, ys2, show (⟨#[47]⟩ : ByteArray).size = 1 from rfl]; omega
theorem impl_bkeyY (a d : ByteArray) (ha : a.size ≤ 65536) (hd : d.size ≤ 65536) : impl_balanceKey.f d a = some (bKey a d) := by
  unfold impl_balanceKey.f bKey
  rw [ys2, ys3, if_pos (by omega), if_pos (by omega), if_pos (by omega)]
/-- A change by fewer, at any row that reads so, in any world behind. -/
theorem fewer_at {w W W' : World} {A : Option Addr} {c : Nat} {l : List S56} (key : ByteArray) (n : Int) (hb : Below w.heap.size w W) (hC : Kd.C k56 W A l.length l) (hc : l.length ≤ c) (htab : Tb.TB w) (hl : l.length ≤ 5000) (hv : okV l) (g0 : 1 ≤ n) (g1 : n ≤ 1000000000000000000) (hb2 : Below W.heap.size W W') :
    Calls Tryz.prog 64 #[.slice A l.length c, .string key, .int .i64 n] W' fun e w' => ∃ v, e = .returned (.tuple #[v, .int .i64 (addN l key (-n)).2]) ∧ ((addN l key (-n)).2 = 0 → Kd.R k56 56 w' w.heap.size (fun _ => True) v (addN l key (-n)).1) ∧ Below W'.heap.size W' w' := by
  have hbb : Below w.heap.size w W' := hb.trans (hb2.mono hb.size)
  refine (impl_fewer_calls A c l key n W' (Kd.C_below hC hb2) hc (Tb.TB.below htab hbb (Nat.le_refl _)) hl hv g0 g1).mono ?_
  rintro e w' ⟨v, rfl, hR, hB⟩
  exact ⟨v, rfl, fun h => Kd.R_lower (hR h) hbb.size, hB⟩
theorem more_at {w W W' : World} {A : Option Addr} {c : Nat} {l : List S56} (key : ByteArray) (n : Int) (hb : Below w.heap.size w W) (hC : Kd.C k56 W A l.length l) (hc : l.length ≤ c) (htab : Tb.TB w) (hl : l.length ≤ 5000) (hv : okV l) (g0 : 1 ≤ n) (g1 : n ≤ 1000000000000000000) (hb2 : Below W.heap.size W W') :
    Calls Tryz.prog 68 #[.slice A l.length c, .string key, .int .i64 n] W' fun e w' => ∃ v, e = .returned (.tuple #[v, .int .i64 (addN l key n).2]) ∧ ((addN l key n).2 = 0 → Kd.R k56 56 w' w.heap.size (fun _ => True) v (addN l key n).1) ∧ Below W'.heap.size W' w' := by
  have hbb : Below w.heap.size w W' := hb.trans (hb2.mono hb.size)
  refine (impl_more_calls A c l key n W' (Kd.C_below hC hb2) hc (Tb.TB.below htab hbb (Nat.le_refl _)) hl hv g0 g1).mono ?_
  rintro e w' ⟨v, rfl, hR, hB⟩
  exact ⟨v, rfl, fun h => Kd.R_lower (hR h) hbb.size, hB⟩
theorem alloc_lt (w : World) (o : Obj) : w.heap.size < (w.alloc o).heap.size := by simp
theorem cell_keep {w W : World} {g : Nat} {v : Value} (h : w.cell? ⟨g, 0, none⟩ = some v) (hb : Below w.heap.size w W) : W.cell? ⟨g, 0, none⟩ = some v := (hb.cell (World.block_lt_of_cell? _ _ h)).trans h
end Go.Proofs.YtpkfdjlmflmilaaGreatDoor.Q
end
