/- The pure statement of the law FnExactCodeWord: what its functions compute answers as the law says. -/
import Derived.Test.YtjcibgeekegcdaaQ1
namespace Go.Proofs.Ytjcibgeekegcdaa.Pure
open Go.RowKit Go.Proofs.Ytjcibgeekegcdaa.Q Go.Proofs.YtjcibgeekegcdaaW.PrintWords Go.Proofs.YtjcibgeekegcdaaW.PrintLast
def V20 : List ByteArray := [(⟨#[111, 107]⟩ : ByteArray), (⟨#[98, 97, 100]⟩ : ByteArray), (⟨#[108, 111, 110, 103]⟩ : ByteArray), (⟨#[102, 111, 114, 109]⟩ : ByteArray), (⟨#[114, 97, 110, 103, 101]⟩ : ByteArray), (⟨#[110, 111, 110, 101]⟩ : ByteArray), (⟨#[109, 97, 110, 121]⟩ : ByteArray), (⟨#[102, 117, 108, 108]⟩ : ByteArray), (⟨#[115, 117, 109]⟩ : ByteArray), (⟨#[116, 119, 105, 99, 101]⟩ : ByteArray), (⟨#[112, 114, 111, 111, 102]⟩ : ByteArray), (⟨#[114, 111, 111, 116]⟩ : ByteArray), (⟨#[102, 117, 110, 100, 115]⟩ : ByteArray), (⟨#[111, 118, 101, 114]⟩ : ByteArray), (⟨#[104, 101, 105, 103, 104, 116]⟩ : ByteArray), (⟨#[108, 97, 116, 101]⟩ : ByteArray), (⟨#[111, 112, 101, 110]⟩ : ByteArray), (⟨#[112, 114, 105, 99, 101]⟩ : ByteArray), (⟨#[111, 119, 110, 101, 114]⟩ : ByteArray), (⟨#[115, 108, 105, 112]⟩ : ByteArray)]
theorem FnExactCodeWord : laws_FnExactCodeWord.Pure := by
  intro a h
  by_cases hr : 0 ≤ a ∧ a < 20
  · have hs : spec_CodeWord.f a = some (rdOf ByteArray.empty V20 a) := by
      unfold spec_CodeWord.f
      simp only [Option.bind_some, List.length_cons, List.length_nil]
      rw [if_neg (by omega), if_neg (by simp; omega), if_pos hr.1, if_pos (by simp; omega)]
      rfl
    have hi : impl_CodeWord.f a = some (rdOf ByteArray.empty V20 a) := by
      unfold impl_CodeWord.f impl_within.f impl_codeWords.f
      rw [if_pos (by omega)]
      simp only [Option.bind_some, List.length_cons, List.length_nil]
      rw [if_pos (by simp; omega), if_pos hr.1, if_pos (by simp; omega)]
      rfl
    unfold laws_FnExactCodeWord.f
    rw [hs, hi]
    simp
  · have hs : spec_CodeWord.f a = some ⟨#[]⟩ := by
      unfold spec_CodeWord.f
      simp only [Option.bind_some, List.length_cons, List.length_nil]
      by_cases h0 : a < 0
      · rw [if_pos h0]
      · rw [if_neg h0, if_pos (by simp; omega)]
    have hi : impl_CodeWord.f a = some ⟨#[]⟩ := by
      unfold impl_CodeWord.f impl_within.f
      by_cases h0 : a ≥ 0
      · rw [if_pos h0]
        simp only [Option.bind_some]
        rw [if_neg (by simp; omega)]
      · rw [if_neg h0]
        simp
    unfold laws_FnExactCodeWord.f
    rw [hs, hi]
    simp
end Go.Proofs.Ytjcibgeekegcdaa.Pure
