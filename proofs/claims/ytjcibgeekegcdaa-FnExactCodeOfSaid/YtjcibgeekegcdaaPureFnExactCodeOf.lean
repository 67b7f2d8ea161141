/- The pure statement of the law FnExactCodeOf: what its functions compute answers as the law says. -/
import Derived.Test.YtjcibgeekegcdaaQ2
namespace Go.Proofs.Ytjcibgeekegcdaa.Pure
open Go.RowKit Go.Proofs.Ytjcibgeekegcdaa.Q Go.Proofs.YtjcibgeekegcdaaW.PrintWords Go.Proofs.YtjcibgeekegcdaaW.PrintLast

def W20 : List ByteArray := [(⟨#[111, 107]⟩ : ByteArray), (⟨#[98, 97, 100]⟩ : ByteArray), (⟨#[108, 111, 110, 103]⟩ : ByteArray), (⟨#[102, 111, 114, 109]⟩ : ByteArray), (⟨#[114, 97, 110, 103, 101]⟩ : ByteArray), (⟨#[110, 111, 110, 101]⟩ : ByteArray), (⟨#[109, 97, 110, 121]⟩ : ByteArray), (⟨#[102, 117, 108, 108]⟩ : ByteArray), (⟨#[115, 117, 109]⟩ : ByteArray), (⟨#[116, 119, 105, 99, 101]⟩ : ByteArray), (⟨#[112, 114, 111, 111, 102]⟩ : ByteArray), (⟨#[114, 111, 111, 116]⟩ : ByteArray), (⟨#[102, 117, 110, 100, 115]⟩ : ByteArray), (⟨#[111, 118, 101, 114]⟩ : ByteArray), (⟨#[104, 101, 105, 103, 104, 116]⟩ : ByteArray), (⟨#[108, 97, 116, 101]⟩ : ByteArray), (⟨#[111, 112, 101, 110]⟩ : ByteArray), (⟨#[112, 114, 105, 99, 101]⟩ : ByteArray), (⟨#[111, 119, 110, 101, 114]⟩ : ByteArray), (⟨#[115, 108, 105, 112]⟩ : ByteArray)]
theorem codeWords_eq : impl_codeWords.f = some W20 := rfl
theorem codeWord_at (i : Int) (h0 : 0 ≤ i) (h1 : i < 20) : spec_CodeWord.f i = some (rdOf ByteArray.empty W20 i) := by
  unfold spec_CodeWord.f
  simp only [Option.bind_some, List.length_cons, List.length_nil]
  rw [if_neg (by omega), if_neg (by simp; omega), if_pos h0, if_pos (by simp; omega)]
  rfl
theorem both (x : ByteArray) (d : Nat) : ∀ (k : Nat) (i : Int), 0 ≤ i → 20 - i = d → d < k →
    ∃ r, spec_CodeOf.l0 k x i = some r ∧ slices_Index_string_string.l0 k W20 x 20 i = some r := by
  induction d with
  | zero =>
    intro k i h0 hd hk
    obtain ⟨k, rfl⟩ : ∃ m, k = m + 1 := ⟨k - 1, by omega⟩
    refine ⟨-1, ?_, ?_⟩
    · simp only [spec_CodeOf.l0]; rw [if_neg (by omega)]
    · simp only [slices_Index_string_string.l0]; rw [if_neg (by omega)]
  | succ d ih =>
    intro k i h0 hd hk
    obtain ⟨k, rfl⟩ : ∃ m, k = m + 1 := ⟨k - 1, by omega⟩
    have hw : wrap64 (i + 1) = i + 1 := by unfold wrap64; omega
    obtain ⟨r, h1, h2⟩ := ih k (i + 1) (by omega) (by omega) (by omega)
    simp only [spec_CodeOf.l0, slices_Index_string_string.l0]
    rw [if_pos (by omega), if_pos (by omega), if_pos h0, if_pos (by simp [W20]; omega), codeWord_at i h0 (by omega), hw]
    simp only [Option.bind_some]
    by_cases e : (rdOf ByteArray.empty W20 i).toList = x.toList
    · rw [if_pos e, if_pos e.symm]; exact ⟨i, rfl, rfl⟩
    · rw [if_neg e, if_neg (fun h => e h.symm)]; exact ⟨r, h1, h2⟩
theorem FnExactCodeOf : laws_FnExactCodeOf.Pure := by
  intro a ha
  obtain ⟨r, h1, h2⟩ := both a 20 21 0 (by omega) (by omega) (by omega)
  refine ⟨21, ?_⟩
  unfold laws_FnExactCodeOf.f spec_CodeOf.f impl_CodeOf.f slices_Index_string_string.f
  rw [h1, codeWords_eq]
  simp only [Option.bind_some]
  rw [show (W20.length : Int) = 20 from rfl, h2]
  simp

end Go.Proofs.Ytjcibgeekegcdaa.Pure
