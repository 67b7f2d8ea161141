/- What the two scans of a right store compute: one and the same. -/
import Derived.Test.YtpkfdjlmflmilaaDoorQ4
import Derived.Test.YtpkfdjlmflmilaaDoorQ8
import Derived.Test.YtpkfdjlmflmilaaDoorStb
import Derived.Test.YtpkfdjlmflmilaaDoorTp
namespace Go.Proofs.YtpkfdjlmflmilaaDoor.Pure
open Go.RowKit Go.Proofs.YtpkfdjlmflmilaaDoor.Q Go.Proofs.YtpkfdjlmflmilaaDoorW.PrintWords Go.Proofs.YtpkfdjlmflmilaaDoorW.PrintLast
set_option linter.unusedVariables false
def begB (p : ByteArray) (x : S45) : Bool := decide (p.toList <+: x.f0.toList)
def scanN (l : List S45) (p : ByteArray) : List S45 := l.filter (begB p)
theorem size_toList (s : ByteArray) : s.toList.length = s.size := by rw [Lib.toList_data, data_length]
theorem extract_take (s : ByteArray) (n : Nat) : (s.extract 0 n).toList = s.toList.take n := by rw [Lib.toList_data, Lib.toList_data, Lib.extract_data]; simp
theorem prefix_iff (s p : ByteArray) : (p.size ≤ s.size ∧ (s.extract 0 p.size).toList = p.toList) ↔ p.toList <+: s.toList := by
  rw [extract_take]
  constructor
  · intro ⟨h, e⟩
    rw [← e]
    exact List.take_prefix _ _
  · intro h
    have hl := h.length_le
    rw [size_toList, size_toList] at hl
    refine ⟨hl, ?_⟩
    have := List.prefix_iff_eq_take.1 h
    rw [size_toList] at this
    exact this.symm
theorem hasPrefix_eq (s p : ByteArray) : strings_HasPrefix.f s p = some (decide (p.toList <+: s.toList)) := rfl
theorem impl_scan_l0 (l : List S45) (p : ByteArray) (hl : l.length ≤ 1048576) (d : Nat) : ∀ (k i : Nat) (acc : List S45), l.length - i = d → acc.length ≤ i → i ≤ l.length → d < k →
    impl_scan.l0 k p acc l (l.length : Int) (i : Int) = some (acc ++ (l.drop i).filter (begB p)) := by
  induction d with
  | zero =>
    intro k i acc hd ha hi hk
    obtain ⟨k, rfl⟩ : ∃ m, k = m + 1 := ⟨k - 1, by omega⟩
    simp only [impl_scan.l0]
    rw [if_neg (by omega), List.drop_of_length_le (by omega)]
    simp
  | succ d ih =>
    intro k i acc hd ha hi hk
    obtain ⟨k, rfl⟩ : ∃ m, k = m + 1 := ⟨k - 1, by omega⟩
    have hlt : i < l.length := by omega
    have hr : rd_T45 l (i : Int) = l[i] := by simp [rd_T45, List.getD, List.getElem?_eq_getElem hlt]
    have h1 := ih k (i + 1) acc (by omega) (by omega) (by omega) (by omega)
    have h2 := ih k (i + 1) (acc ++ [l[i]]) (by omega) (by simp; omega) (by omega) (by omega)
    simp only [impl_scan.l0]
    rw [if_pos (by omega), if_pos (by omega), if_pos (by omega), hr, hasPrefix_eq, Option.bind_some, up64 hlt (by omega), List.drop_eq_getElem_cons hlt, List.filter_cons]
    have hb : begB p l[i] = decide (p.toList <+: l[i].f0.toList) := rfl
    by_cases h : p.toList <+: l[i].f0.toList
    · rw [if_pos (decide_eq_true h), if_pos (by omega), if_pos (by rw [hb]; exact decide_eq_true h)]
      rw [List.append_assoc, List.singleton_append] at h2
      exact h2
    · rw [if_neg (by rw [decide_eq_false h]; simp), if_neg (by rw [hb, decide_eq_false h]; simp)]
      exact h1
theorem impl_scan_eq (l : List S45) (p : ByteArray) (hl : l.length ≤ 1048576) (k : Nat) (hk : l.length < k) : impl_scan.f k l p = some (scanN l p) := by
  unfold impl_scan.f scanN
  have := impl_scan_l0 l p hl l.length k 0 [] (by omega) (by simp) (by omega) hk
  simpa using this
/-- Behind a pair at or above p that does not begin with p none does. -/
theorem none_from {l : List S45} (hr : rightB l = true) (p : ByteArray) (i : Nat) (hi : i < l.length) (hge : Op.bytesLess (key l i).toList p.toList = false) (hn : ¬ p.toList <+: (key l i).toList) : (l.drop i).filter (begB p) = [] := by
  rw [List.filter_eq_nil_iff]
  intro x hx
  obtain ⟨j, hj, rfl⟩ := List.getElem_of_mem hx
  rw [List.getElem_drop]
  have hij : i + j < l.length := by rw [List.length_drop] at hj; omega
  have hk : key l (i + j) = l[i + j].f0 := by simp [key, List.getD, List.getElem?_eq_getElem hij]
  intro hb
  have hb' : p.toList <+: l[i + j].f0.toList := of_decide_eq_true hb
  rw [← hk] at hb'
  by_cases h0 : j = 0
  · subst h0; exact hn hb'
  · exact hn (prefix_between hge (right_lt hr (show i < i + j by omega) hij) hb')
theorem none_before {l : List S45} (hr : rightB l = true) (p : ByteArray) : (l.take (lbN l p)).filter (begB p) = [] := by
  rw [List.filter_eq_nil_iff]
  intro x hx
  obtain ⟨j, hj, rfl⟩ := List.getElem_of_mem hx
  rw [List.getElem_take]
  have hjl : j < l.length := by rw [List.length_take] at hj; omega
  have hjb : j < lbN l p := by rw [List.length_take] at hj; omega
  have hk : key l j = l[j].f0 := by simp [key, List.getD, List.getElem?_eq_getElem hjl]
  intro hb
  have hb' : p.toList <+: l[j].f0.toList := of_decide_eq_true hb
  rw [← hk] at hb'
  have h1 := prefix_not_less hb'
  rw [lbN_below hr p j hjb] at h1
  cases h1
theorem spec_scan_l0 (l : List S45) (hr : rightB l = true) (p : ByteArray) (hl : l.length ≤ 1048576) (d : Nat) : ∀ (k i : Nat) (acc : List S45), l.length - i = d → acc.length ≤ i → lbN l p ≤ i → i ≤ l.length → d < k →
    spec_l03Scan.l0 k l p acc (i : Int) = some (acc ++ (l.drop i).filter (begB p)) := by
  induction d with
  | zero =>
    intro k i acc hd ha hb hi hk
    obtain ⟨k, rfl⟩ : ∃ m, k = m + 1 := ⟨k - 1, by omega⟩
    simp only [spec_l03Scan.l0]
    rw [if_neg (by omega), List.drop_of_length_le (by omega)]
    simp
  | succ d ih =>
    intro k i acc hd ha hb hi hk
    obtain ⟨k, rfl⟩ : ∃ m, k = m + 1 := ⟨k - 1, by omega⟩
    have hlt : i < l.length := by omega
    have hrd : rd_T45 l (i : Int) = l[i] := by simp [rd_T45, List.getD, List.getElem?_eq_getElem hlt]
    have hkey : key l i = l[i].f0 := by simp [key, List.getD, List.getElem?_eq_getElem hlt]
    have h2 := ih k (i + 1) (acc ++ [l[i]]) (by omega) (by simp; omega) (by omega) (by omega) (by omega)
    have hpi := prefix_iff l[i].f0 p
    simp only [spec_l03Scan.l0]
    rw [if_pos (by omega), if_pos (by omega), hrd, up64 hlt (by omega)]
    by_cases h : p.toList <+: l[i].f0.toList
    · have hh := hpi.2 h
      rw [if_pos (by omega), if_pos (by omega), if_pos (by omega), if_pos hh.2, if_pos (by omega), List.drop_eq_getElem_cons hlt, List.filter_cons, if_pos (show begB p l[i] = true from decide_eq_true h)]
      rw [List.append_assoc, List.singleton_append] at h2
      exact h2
    · have hnone := none_from hr p i hlt (lbN_from hr p i hb hlt) (by rw [hkey]; exact h)
      rw [hnone, List.append_nil]
      by_cases hs : ((l[i].f0.size : Int) ≥ (p.size : Int))
      · have hne : ¬ (l[i].f0.extract 0 p.size).toList = p.toList := fun e => h (hpi.1 ⟨by omega, e⟩)
        rw [if_pos hs, if_pos (by omega), if_pos (by omega), if_neg hne]
      · rw [if_neg hs]
theorem spec_scan_eq (l : List S45) (hr : rightB l = true) (p : ByteArray) (hl : l.length ≤ 1048576) (k : Nat) (hk : l.length < k) : spec_l03Scan.f k l p = some (scanN l p) := by
  unfold spec_l03Scan.f scanN
  have hle := lbN_le l p
  rw [spec_at l p (by omega) k hk, Option.bind_some]
  have h1 : (([] : List S45)).length ≤ lbN l p := by simp
  rw [spec_scan_l0 l hr p hl (l.length - lbN l p) k (lbN l p) [] rfl h1 (Nat.le_refl _) hle (by omega), List.nil_append]
  have : l.filter (begB p) = (l.take (lbN l p)).filter (begB p) ++ (l.drop (lbN l p)).filter (begB p) := by rw [← List.filter_append, List.take_append_drop]
  rw [this, none_before hr p, List.nil_append]
theorem scanN_len (l : List S45) (p : ByteArray) : (scanN l p).length ≤ l.length := List.length_filter_le _ _
end Go.Proofs.YtpkfdjlmflmilaaDoor.Pure
