/- The pure statement of the law FnExactReadHash: what its functions compute answers as the law says. -/
import Derived.Test.YtjmfkhjhhohnkaaDoorDefFnExactReadHash
import Derived.Test.YtjmfkhjhhohnkaaDoorE1
import Derived.Test.YtjmfkhjhhohnkaaDoorTr
import Derived.Lib.IndexAny
import Derived.Lib.SlTrimSet
namespace Go.Proofs.YtjmfkhjhhohnkaaDoor.Pure
open Go.RowKit Go.Proofs.YtjmfkhjhhohnkaaDoor.Q Go.Proofs.YtjmfkhjhhohnkaaDoorW.PrintWords Go.Proofs.YtjmfkhjhhohnkaaDoorW.PrintLast
set_option linter.unusedVariables false
/-- The digits. -/
def dg : ByteArray := ⟨#[48, 49, 50, 51, 52, 53, 54, 55, 56, 57, 97, 98, 99, 100, 101, 102]⟩
/-- A digit's number, or -1. -/
def nb (c : Int) : Int := if 48 ≤ c ∧ c ≤ 57 then c - 48 else if 97 ≤ c ∧ c ≤ 102 then c - 87 else -1
theorem spec_nb (c : Int) (h0 : 0 ≤ c) (h1 : c ≤ 255) (k : Nat) (hk : 0 < k) : spec_l01Nibble.f k c = some (nb c) := by
  obtain ⟨k, rfl⟩ : ∃ m, k = m + 1 := ⟨k - 1, by omega⟩
  have e0 : wrap64 c = c := by unfold wrap64; omega
  have e1 : wrap64 (c - 48) = c - 48 := by unfold wrap64; omega
  have e2 : wrap64 (c - 97) = c - 97 := by unfold wrap64; omega
  have e3 : wrap64 (c - 97 + 10) = c - 87 := by unfold wrap64; omega
  unfold spec_l01Nibble.f nb
  simp only [spec_l01Nibble.j0, e0, e1, e2, e3]
  by_cases h2 : 48 ≤ c
  · rw [if_pos h2]
    by_cases h3 : c ≤ 57
    · rw [decide_eq_true h3, if_pos rfl, if_pos ⟨h2, h3⟩]
    · rw [decide_eq_false h3, if_neg (by decide), if_neg (show ¬ (48 ≤ c ∧ c ≤ 57) from fun h => h3 h.2)]
      by_cases h4 : 97 ≤ c
      · rw [if_pos h4]
        by_cases h5 : c ≤ 102
        · rw [if_pos h5, if_pos ⟨h4, h5⟩]
        · rw [if_neg h5, if_neg (show ¬ (97 ≤ c ∧ c ≤ 102) from fun h => h5 h.2)]
      · rw [if_neg h4, if_neg (show ¬ (97 ≤ c ∧ c ≤ 102) from fun h => h4 h.1)]
  · rw [if_neg h2, if_neg (by decide), if_neg (by omega), if_neg (show ¬ (48 ≤ c ∧ c ≤ 57) from fun h => h2 h.1), if_neg (by omega)]
theorem idx_fin : ∀ n : Fin 256, Lib.indexByte dg.data.toList ((n.val : Int)).toNat.toUInt8 = nb (n.val : Int) := by decide +kernel
theorem impl_nb (c : Int) (h0 : 0 ≤ c) (h1 : c ≤ 255) : strings_IndexByte.f dg c = some (nb c) := by
  have h := idx_fin ⟨c.toNat, by omega⟩
  unfold strings_IndexByte.f idxT
  have e : ((c.toNat : Nat) : Int) = c := by omega
  simp only [e] at h
  rw [h]
theorem tl_len (t : ByteArray) : t.data.toList.length = t.size := by rw [Array.length_toList]; rfl
theorem btl (t : ByteArray) (i : Nat) (hi : i < t.size) : bt t (i : Int) = ((t.data.toList[i]'(by rw [tl_len]; exact hi)).toNat : Int) := by
  have h : ((i : Int)).toNat < t.size := by rw [Int.toNat_natCast]; exact hi
  rw [← Go.Proofs.YtjmfkhjhhohnkaaDoorW.PrintWords.bt_at t (i : Int) h]
  simp only [Int.toNat_natCast]
  rfl
def okN (b : UInt8) : Bool := decide (0 ≤ nb (b.toNat : Int))
def allB (t : ByteArray) : Nat → Nat → Bool
  | 0, _ => true
  | d + 1, i => decide (0 ≤ nb (bt t (i : Int))) && (decide (0 ≤ nb (bt t ((i + 1 : Nat) : Int))) && allB t d (i + 2))
def outN (t : ByteArray) : Nat → Nat → List Int
  | 0, _ => []
  | d + 1, i => ((wrap64 ((wrap64 (16 * nb (bt t (i : Int)))) + nb (bt t ((i + 1 : Nat) : Int)))) % 256) :: outN t d (i + 2)
theorem allB_eq (t : ByteArray) (ht : t.size = 64) : ∀ (d i : Nat), i + 2 * d = 64 → allB t d i = (t.data.toList.drop i).all okN := by
  intro d
  induction d with
  | zero =>
    intro i hi
    rw [List.drop_of_length_le (by rw [tl_len]; omega)]
    rfl
  | succ d ih =>
    intro i hi
    have h1 : i < t.data.toList.length := by rw [tl_len]; omega
    have h2 : i + 1 < t.data.toList.length := by rw [tl_len]; omega
    rw [List.drop_eq_getElem_cons h1, List.drop_eq_getElem_cons h2, List.all_cons, List.all_cons, ← ih (i + 2) (by omega)]
    show (decide _ && (decide _ && _)) = _
    rw [btl t i (by omega), btl t (i + 1) (by omega)]
    rfl
theorem s2 (i : Nat) (h : i < 64) : wrap64 ((i : Int) + 2) = ((i + 2 : Nat) : Int) := by unfold wrap64; omega
theorem s1 (i : Nat) (h : i < 64) : wrap64 ((i : Int) + 1) = ((i + 1 : Nat) : Int) := by unfold wrap64; omega
theorem spec_l0 (t : ByteArray) (ht : t.size = 64) (d : Nat) : ∀ (k i : Nat) (acc : List Int), i + 2 * d = 64 → acc.length ≤ i → d + 1 < k →
    spec_ReadHash.l0 k t acc (i : Int) = some (if allB t d i = true then (strOfNums (acc ++ outN t d i), 0) else ((⟨#[]⟩ : ByteArray), 3)) := by
  induction d with
  | zero =>
    intro k i acc hi ha hk
    obtain ⟨k, rfl⟩ : ∃ m, k = m + 1 := ⟨k - 1, by omega⟩
    simp only [spec_ReadHash.l0, allB, outN]
    rw [if_neg (by omega), if_pos trivial, List.append_nil]
  | succ d ih =>
    intro k i acc hi ha hk
    obtain ⟨k, rfl⟩ : ∃ m, k = m + 1 := ⟨k - 1, by omega⟩
    have r1 := bt_range t (i : Int)
    have r2 := bt_range t ((i + 1 : Nat) : Int)
    have h2 := ih k (i + 2) (acc ++ [(wrap64 ((wrap64 (16 * nb (bt t (i : Int)))) + nb (bt t ((i + 1 : Nat) : Int)))) % 256]) (by omega) (by simp; omega) (by omega)
    simp only [spec_ReadHash.l0]
    rw [s1 i (by omega), s2 i (by omega), if_pos (by omega), if_pos (by omega), spec_nb _ r1.1 r1.2 k (by omega), Option.bind_some, if_pos (by omega), if_pos (by omega), spec_nb _ r2.1 r2.2 k (by omega), Option.bind_some]
    show _ = some (if (decide (0 ≤ nb (bt t (i : Int))) && (decide (0 ≤ nb (bt t ((i + 1 : Nat) : Int))) && allB t d (i + 2))) = true then _ else _)
    by_cases c1 : 0 ≤ nb (bt t (i : Int))
    · rw [if_neg (by omega), decide_eq_true c1, Bool.true_and]
      by_cases c2 : 0 ≤ nb (bt t ((i + 1 : Nat) : Int))
      · rw [if_neg (by omega), decide_eq_true c2, Bool.true_and, if_pos (by omega), h2, List.append_assoc, List.singleton_append]
        rfl
      · rw [if_pos (by omega), decide_eq_false c2, Bool.false_and, if_neg (by decide)]
    · rw [if_pos (by omega), decide_eq_false c1, Bool.false_and, if_neg (by decide)]
theorem impl_l0 (t : ByteArray) (ht : t.size = 64) (d : Nat) : ∀ (k i : Nat) (acc : List Int), i + 2 * d = 64 → acc.length ≤ i → d < k →
    impl_readHash.l0 k t acc (i : Int) = some (strOfNums (acc ++ outN t d i), true) := by
  induction d with
  | zero =>
    intro k i acc hi ha hk
    obtain ⟨k, rfl⟩ : ∃ m, k = m + 1 := ⟨k - 1, by omega⟩
    simp only [impl_readHash.l0, outN]
    rw [if_neg (by omega), List.append_nil]
  | succ d ih =>
    intro k i acc hi ha hk
    obtain ⟨k, rfl⟩ : ∃ m, k = m + 1 := ⟨k - 1, by omega⟩
    have r1 := bt_range t (i : Int)
    have r2 := bt_range t ((i + 1 : Nat) : Int)
    have h2 := ih k (i + 2) (acc ++ [(wrap64 ((wrap64 (16 * nb (bt t (i : Int)))) + nb (bt t ((i + 1 : Nat) : Int)))) % 256]) (by omega) (by simp; omega) (by omega)
    have e1 := impl_nb _ r1.1 r1.2
    have e2 := impl_nb _ r2.1 r2.2
    unfold dg at e1 e2
    simp only [impl_readHash.l0]
    rw [s1 i (by omega), s2 i (by omega), if_pos (by omega), if_pos (by omega), e1, Option.bind_some, if_pos (by omega), if_pos (by omega), e2, Option.bind_some, if_pos (by omega), Int.mul_comm (nb (bt t (i : Int))) 16, h2, List.append_assoc, List.singleton_append]
    rfl
theorem dw_nil {α : Type} (p : α → Bool) : ∀ l : List α, l.dropWhile p = [] ↔ ∀ x ∈ l, p x = true
  | [] => by simp
  | a :: l => by
    rw [List.dropWhile_cons]
    cases h : p a with
    | true => rw [if_pos rfl, dw_nil p l]; simp [h]
    | false => simp [h]
theorem tw_mem {α : Type} (p : α → Bool) : ∀ (l : List α) (x : α), x ∈ l.takeWhile p → p x = true
  | [], x, h => by cases h
  | a :: l, x, h => by
    rw [List.takeWhile_cons] at h
    cases ha : p a with
    | true =>
      rw [ha, if_pos rfl] at h
      rcases List.mem_cons.1 h with rfl | h
      · exact ha
      · exact tw_mem p l x h
    | false => rw [ha, if_neg (by decide)] at h; cases h
theorem trim_nil (l cs : List UInt8) : Lib.trimS l cs = [] ↔ l.all (cs.contains ·) = true := by
  unfold Lib.trimS Lib.trimLeftS Lib.trimRightS
  rw [dw_nil, List.all_eq_true]
  constructor
  · intro h x hx
    have hx' : x ∈ l.reverse := List.mem_reverse.2 hx
    rw [← List.takeWhile_append_dropWhile (p := (cs.contains ·)) (l := l.reverse)] at hx'
    rcases List.mem_append.1 hx' with h1 | h1
    · exact tw_mem _ _ _ h1
    · exact h x (List.mem_reverse.2 h1)
  · intro h x hx
    have h1 := List.mem_reverse.1 hx
    have h2 := (List.dropWhile_sublist (cs.contains ·)).mem h1
    exact h x (List.mem_reverse.1 h2)
theorem okN_eq (b : UInt8) : dg.data.toList.contains b = okN b := by
  have h := idx_fin ⟨b.toNat, b.toNat_lt⟩
  simp only [Int.toNat_natCast] at h
  rw [Lib.contains_iff_indexByte]
  unfold okN
  rw [← h]
  congr 3
  exact (UInt8.ofNat_toNat (x := b)).symm
theorem impl_trim (t : ByteArray) (ht : t.size = 64) : ∃ r, strings_Trim.f t dg = some r ∧ (r.toList != ([] : List UInt8)) = !allB t 32 0 := by
  refine ⟨trimT t dg, ?_, ?_⟩
  · unfold strings_Trim.f
    rw [if_pos ⟨by omega, by decide, by decide⟩]
  · rw [allB_eq t ht 32 0 (by omega), List.drop_zero, Lib.toList_data]
    have h := trim_nil t.data.toList dg.data.toList
    have e : (fun x => dg.data.toList.contains x) = okN := funext okN_eq
    rw [e] at h
    unfold trimT
    cases hb : t.data.toList.all okN with
    | true => rw [h.2 hb]; rfl
    | false =>
      have hn : Lib.trimS t.data.toList dg.data.toList ≠ [] := fun hh => by rw [h.1 hh] at hb; cases hb
      simpa using hn
def rhN (t : ByteArray) : ByteArray × Int := if t.size > 65536 then ((⟨#[]⟩ : ByteArray), 2) else if t.size = 64 ∧ allB t 32 0 = true then (strOfNums (outN t 32 0), 0) else ((⟨#[]⟩ : ByteArray), 3)
theorem spec_rh (t : ByteArray) (k : Nat) (hk : 40 < k) : spec_ReadHash.f k t = some (rhN t) := by
  unfold spec_ReadHash.f rhN
  by_cases h0 : t.size > 65536
  · rw [if_pos (by omega), if_pos h0]
  · rw [if_neg (by omega), if_neg h0]
    by_cases h1 : t.size = 64
    · have h := spec_l0 t h1 32 k 0 [] (by omega) (by simp) (by omega)
      rw [if_pos (by omega)]
      rw [show ((0 : Nat) : Int) = 0 from rfl, List.nil_append] at h
      rw [h]
      by_cases h2 : allB t 32 0 = true
      · rw [if_pos h2, if_pos ⟨h1, h2⟩]
      · rw [if_neg h2, if_neg (fun h => h2 h.2)]
    · rw [if_neg (by omega), if_neg (fun h => h1 h.1)]
theorem impl_rh (t : ByteArray) (k : Nat) (hk : 40 < k) : impl_ReadHash.f k t = some (rhN t) := by
  obtain ⟨k, rfl⟩ : ∃ m, k = m + 1 := ⟨k - 1, by omega⟩
  unfold impl_ReadHash.f rhN impl_isText.f
  simp only [List.any_cons, List.any_nil, Bool.or_false, Option.bind_some]
  by_cases h0 : t.size > 65536
  · rw [decide_eq_true (show 65536 < (t.size : Int) by omega), if_neg (by decide), if_pos h0]
  · rw [decide_eq_false (show ¬ 65536 < (t.size : Int) by omega), if_pos (by decide), if_neg h0]
    unfold impl_readHash.f
    by_cases h1 : t.size = 64
    · obtain ⟨r, e1, e2⟩ := impl_trim t h1
      unfold dg at e1
      have h := impl_l0 t h1 32 k 0 [] (by omega) (by simp) (by omega)
      rw [show ((0 : Nat) : Int) = 0 from rfl, List.nil_append] at h
      rw [if_pos (by omega), e1, Option.bind_some, e2]
      simp only [impl_readHash.j0]
      cases h2 : allB t 32 0 with
      | true => rw [if_neg (by decide), h, Option.bind_some, if_pos rfl, if_pos ⟨h1, rfl⟩]
      | false => rw [if_pos (by decide), Option.bind_some, if_neg (by decide), if_neg (fun h => by cases h.2)]
    · rw [if_neg (by omega)]
      simp only [impl_readHash.j0, if_true, Option.bind_some]
      rw [if_neg (by decide), if_neg (fun h => h1 h.1)]
theorem FnExactReadHash : laws_FnExactReadHash.PureF := by
  intro a ha
  refine ⟨50, ?_⟩
  unfold laws_FnExactReadHash.f
  by_cases h0 : (a.size : Int) > 1048576
  · rw [if_pos h0]
  · rw [if_neg h0, spec_rh a 50 (by omega), Option.bind_some, impl_rh a 50 (by omega), Option.bind_some, if_pos rfl, if_pos rfl]
end Go.Proofs.YtjmfkhjhhohnkaaDoor.Pure
