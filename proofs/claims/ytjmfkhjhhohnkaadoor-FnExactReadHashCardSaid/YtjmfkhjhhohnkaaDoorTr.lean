/- The contracts of strings.Trim (of an ASCII set) and strings.IndexByte. -/
import Derived.Test.YtjmfkhjhhohnkaaDoorProg
import Derived.Test.YtjmfkhjhhohnkaaDoorWMore
import Derived.Test.YtjmfkhjhhohnkaaDoorQ0
import Derived.Test.YtjmfkhjhhohnkaaDoorShelf
import Derived.Test.YtjmfkhjhhohnkaaDoorTb4
import Derived.Lib.Strings
import Derived.Shelf.Strings.SlTrimAscii
namespace Go.Proofs.YtjmfkhjhhohnkaaDoor.Q
open Go.RowKit Go.Proofs.YtjmfkhjhhohnkaaDoorW.PrintWords Go.Proofs.YtjmfkhjhhohnkaaDoorW.PrintLast Go.Proofs.YtjmfkhjhhohnkaaDoorW.PrintMore
set_option linter.unusedVariables false
def trimT (s c : ByteArray) : ByteArray := ⟨(Lib.trimS s.data.toList c.data.toList).toArray⟩
def asciiB (c : ByteArray) : Bool := c.data.toList.all fun b => decide (b.toNat < 128)
-- EXT strings.Trim strings_Trim 1 0
def strings_Trim.f (s c : ByteArray) : Option ByteArray := if s.size ≤ 9223372036854775807 ∧ c.size < 4294967281 ∧ asciiB c = true then some (trimT s c) else none
theorem strings_Trim.calls (a0 : ByteArray) (a1 : ByteArray) (r : ByteArray) (w : World) (h : strings_Trim.f a0 a1 = some r) :
    Calls Tryd.prog 11 #[.string a0, .string a1] w fun e w' => e = .returned (.string r) ∧ Below w.heap.size w w' := by
  unfold strings_Trim.f at h
  split at h
  case isFalse => cases h
  case isTrue hs =>
  injection h with h
  subst h
  exact Any.strings_Trim_laid Tryd.lays160 (by kernel_rfl) a0 a1 w hs.1 hs.2.1 (ascii_of_all hs.2.2)
def idxT (s : ByteArray) (c : Int) : Int := Lib.indexByte s.data.toList c.toNat.toUInt8
-- EXT strings.IndexByte strings_IndexByte 0 0
def strings_IndexByte.f (s : ByteArray) (c : Int) : Option Int := some (idxT s c)
theorem strings_IndexByte.calls (a0 : ByteArray) (a1 : Int) (r : Int) (w : World) (h : strings_IndexByte.f a0 a1 = some r) :
    Calls Tryd.prog 12 #[.string a0, .int .u8 a1] w fun e w' => e = .returned (.int .i64 r) ∧ w' = w := by
  unfold strings_IndexByte.f at h
  injection h with h
  subst h
  exact Tryd.strings_IndexByte a0 a1 w
end Go.Proofs.YtjmfkhjhhohnkaaDoor.Q
