/- What the two scans of a right store compute: one and the same. -/
import Derived.Test.YtifkdlcalkccaaaS3
import Derived.Test.YtifkdlcalkccaaaSSt
namespace Go.Proofs.Ytifkdlcalkccaaa.Pure
open Go.RowKit Go.Proofs.Ytifkdlcalkccaaa.S Go.Proofs.YtifkdlcalkccaaaW.PrintWords Go.Proofs.YtifkdlcalkccaaaW.PrintLast
set_option linter.unusedVariables false
def begB (p : ByteArray) (x : S50) : Bool := decide (p.toList <+: x.f0.toList)
def scanN (l : List S50) (p : ByteArray) : List S50 := l.filter (begB p)
theorem size_toList (s : ByteArray) : s.toList.length = s.size := by rw [Lib.toList_data, data_length]
theorem extract_take (s : ByteArray) (n : Nat) : (s.extract 0 n).toList = s.toList.take n := by rw [Lib.toList_data, Lib.toList_data, Lib.extract_data]; simp
theorem prefix_iff (s p : ByteArray) : (p.size ≤ s.size ∧ (s.extract 0 p.size).toList = p.toList) ↔ p.toList <+: s.toList := by
  rw [extract_take]
  constructor
  · intro ⟨h, e⟩
    rw [← e]
    exact List.take_prefix _ _
  · intro h
    have hl := h.length_le
    rw [size_toList, size_toList] at hl
    refine ⟨hl, ?_⟩
    have := List.prefix_iff_eq_take.1 h
    rw [size_toList] at this
    exact this.symm
theorem hasPrefix_eq (s p : ByteArray) : strings_HasPrefix.f s p = some (decide (p.toList <+: s.toList)) := by
  have hi := prefix_iff s p
  unfold strings_HasPrefix.f stringslite_HasPrefix.f
  by_cases h : p.size ≤ s.size
  · by_cases h' : (s.extract 0 p.size).toList = p.toList
    · have : p.toList <+: s.toList := hi.1 ⟨h, h'⟩
      simp [this, h, h']
    · have : ¬ p.toList <+: s.toList := fun hh => h' (hi.2 hh).2
      simp [this, h, h']
  · have : ¬ p.toList <+: s.toList := fun hh => h (hi.2 hh).1
    simp [this]
    omega
theorem impl_scan_l0 (l : List S50) (p : ByteArray) (hl : l.length ≤ 1048576) (d : Nat) : ∀ (k i : Nat) (acc : List S50), l.length - i = d → acc.length ≤ i → i ≤ l.length → d < k →
    impl_scan.l0 k p acc l (l.length : Int) (i : Int) = some (acc ++ (l.drop i).filter (begB p)) := by
  induction d with
  | zero =>
    intro k i acc hd ha hi hk
    obtain ⟨k, rfl⟩ : ∃ m, k = m + 1 := ⟨k - 1, by omega⟩
    simp only [impl_scan.l0]
    rw [if_neg (by omega), List.drop_of_length_le (by omega)]
    simp
  | succ d ih =>
    intro k i acc hd ha hi hk
    obtain ⟨k, rfl⟩ : ∃ m, k = m + 1 := ⟨k - 1, by omega⟩
    have hlt : i < l.length := by omega
    have hr : rd_T50 l (i : Int) = l[i] := by simp [rd_T50, List.getD, List.getElem?_eq_getElem hlt]
    have h1 := ih k (i + 1) acc (by omega) (by omega) (by omega) (by omega)
    have h2 := ih k (i + 1) (acc ++ [l[i]]) (by omega) (by simp; omega) (by omega) (by omega)
    simp only [impl_scan.l0]
    rw [if_pos (by omega), if_pos (by omega), if_pos (by omega), hr, hasPrefix_eq, Option.bind_some, up64 hlt (by omega), List.drop_eq_getElem_cons hlt, List.filter_cons]
    have hb : begB p l[i] = decide (p.toList <+: l[i].f0.toList) := rfl
    by_cases h : p.toList <+: l[i].f0.toList
    · rw [if_pos (decide_eq_true h), if_pos (by omega), if_pos (by rw [hb]; exact decide_eq_true h)]
      rw [List.append_assoc, List.singleton_append] at h2
      exact h2
    · rw [if_neg (by rw [decide_eq_false h]; simp), if_neg (by rw [hb, decide_eq_false h]; simp)]
      exact h1
theorem impl_scan_eq (l : List S50) (p : ByteArray) (hl : l.length ≤ 1048576) (k : Nat) (hk : l.length < k) : impl_scan.f k l p = some (scanN l p) := by
  unfold impl_scan.f scanN
  have := impl_scan_l0 l p hl l.length k 0 [] (by omega) (by simp) (by omega) hk
  simpa using this
/-- Behind a pair at or above p that does not begin with p none does. -/
theorem scanN_len (l : List S50) (p : ByteArray) : (scanN l p).length ≤ l.length := List.length_filter_le _ _
def storeScanN (l : List S50) (p : ByteArray) : List S50 × Int := if codeN l (decide ((p.size : Int) > 65536)) = 0 then (scanN l p, 0) else ([], codeN l (decide ((p.size : Int) > 65536)))
theorem impl_storeScan (l : List S50) (p : ByteArray) (hl : l.length ≤ 1048576) (k : Nat) (hk : l.length + 1 < k) : impl_StoreScan.f k l p = some (storeScanN l p) := by
  unfold impl_StoreScan.f storeScanN
  rw [impl_code l [p] k (by omega), impl_scan_eq l p hl k (by omega)]
  simp only [List.any_cons, List.any_nil, Bool.or_false, Option.bind_some, gt_iff_lt]
  by_cases h : codeN l (decide (65536 < (p.size : Int))) = 0
  · rw [if_pos h, if_pos h]
  · rw [if_neg h, if_neg h]
theorem code_zero {l : List S50} {b : Bool} : codeN l b = if l.length > 4096 ∨ b = true then 2 else if rightB l = true then 0 else 1 := rfl
end Go.Proofs.Ytifkdlcalkccaaa.Pure
