/- The contracts of strings.TrimPrefix and strings.HasPrefix. -/
import Derived.Test.YtpkfdjlmflmilaaDoorProg
import Derived.Test.YtpkfdjlmflmilaaDoorWMore
import Derived.Test.YtpkfdjlmflmilaaDoorQ0
import Derived.Test.YtpkfdjlmflmilaaDoorShelf
import Derived.Lib.Strings
namespace Go.Proofs.YtpkfdjlmflmilaaDoor.Q
open Go.RowKit Go.Proofs.YtpkfdjlmflmilaaDoorW.PrintWords Go.Proofs.YtpkfdjlmflmilaaDoorW.PrintLast Go.Proofs.YtpkfdjlmflmilaaDoorW.PrintMore
set_option linter.unusedVariables false
/-- A text without a head of its own. -/
def trimP (s p : ByteArray) : ByteArray := ⟨(Lib.trimPrefix s.data.toList p.data.toList).toArray⟩
-- EXT strings.TrimPrefix strings_TrimPrefix 0 0
def strings_TrimPrefix.f (s p : ByteArray) : Option ByteArray := some (trimP s p)
theorem strings_TrimPrefix.calls (a0 : ByteArray) (a1 : ByteArray) (r : ByteArray) (w : World) (h : strings_TrimPrefix.f a0 a1 = some r) :
    Calls Tryd.prog 48 #[.string a0, .string a1] w fun e w' => e = .returned (.string r) ∧ w' = w := by
  unfold strings_TrimPrefix.f at h
  injection h with h
  subst h
  exact Tryd.strings_TrimPrefix a0 a1 w
-- EXT strings.HasPrefix strings_HasPrefix 0 0
def strings_HasPrefix.f (s p : ByteArray) : Option Bool := some (decide (p.toList <+: s.toList))
theorem tp_has (s p : ByteArray) : Lib.hasPrefix s.data.toList p.data.toList = decide (p.toList <+: s.toList) := by
  rw [Lib.toList_data, Lib.toList_data]
  unfold Lib.hasPrefix
  rw [Bool.eq_iff_iff, List.isPrefixOf_iff_prefix, decide_eq_true_eq]
theorem strings_HasPrefix.calls (a0 : ByteArray) (a1 : ByteArray) (r : Bool) (w : World) (h : strings_HasPrefix.f a0 a1 = some r) :
    Calls Tryd.prog 62 #[.string a0, .string a1] w fun e w' => e = .returned (.bool r) ∧ w' = w := by
  unfold strings_HasPrefix.f at h
  injection h with h
  subst h
  rw [← tp_has]
  exact Tryd.strings_HasPrefix a0 a1 w
end Go.Proofs.YtpkfdjlmflmilaaDoor.Q
