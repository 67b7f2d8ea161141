/- The pure statement of the law FnExactFieldsBytes: what its functions compute answers as the law says. -/
import Derived.Test.YtfgnhghadghdkaaG3
import Derived.Test.YtfgnhghadghdkaaGE13
import Derived.Test.YtfgnhghadghdkaaGE14
import Derived.Test.YtfgnhghadghdkaaGBy
import Derived.Lib.Strings
import Derived.WideShapes
namespace Go.Proofs.Ytfgnhghadghdkaa.Pure
open Go.RowKit Go.Proofs.Ytfgnhghadghdkaa.G Go.Proofs.YtfgnhghadghdkaaW.PrintWords Go.Proofs.YtfgnhghadghdkaaW.PrintLast
theorem fb_wrap (n : Int) (h0 : -9223372036854775808 ≤ n) (h1 : n ≤ 9223372036854775807) : wrap64 n = n := by unfold wrap64; omega
theorem fb_up (i : Nat) (h : i < 9223372036854775807) : wrap64 ((i : Int) + 1) = ((i + 1 : Nat) : Int) := by unfold wrap64; omega
theorem number1 (n : Int) (k : Nat) (hk : 2 ≤ k) : impl_number.f k n 1 = some (strOfNums [n % 256]) := by
  obtain ⟨k, rfl⟩ : ∃ m, k = m + 2 := ⟨k - 2, by omega⟩
  unfold impl_number.f
  rw [if_pos (by omega), if_pos (by decide), show wrap64 ((1 : Int) - 1) = 0 by rw [fb_wrap _ (by omega) (by omega)]; rfl]
  show impl_number.l0 (k + 1 + 1) n [0] 0 = _
  simp only [impl_number.l0]
  rw [if_pos (by omega), if_pos (by omega), if_pos (by simp), show wrap64 ((0 : Int) - 1) = -1 by rw [fb_wrap _ (by omega) (by omega)]; rfl, if_neg (by omega)]
  rfl
theorem number2 (n : Int) (k : Nat) (hk : 3 ≤ k) : impl_number.f k n 2 = some (strOfNums [n / 256 % 256, n % 256]) := by
  obtain ⟨k, rfl⟩ : ∃ m, k = m + 3 := ⟨k - 3, by omega⟩
  unfold impl_number.f
  rw [if_pos (by omega), if_pos (by decide), show wrap64 ((2 : Int) - 1) = 1 by rw [fb_wrap _ (by omega) (by omega)]; rfl]
  show impl_number.l0 (k + 2 + 1) n [0, 0] 1 = _
  simp only [impl_number.l0]
  rw [if_pos (by omega), if_pos (by omega), if_pos (by simp), show wrap64 ((1 : Int) - 1) = 0 by rw [fb_wrap _ (by omega) (by omega)]; rfl]
  rw [if_pos (by omega), if_pos (by omega), if_pos (by simp), show wrap64 ((0 : Int) - 1) = -1 by rw [fb_wrap _ (by omega) (by omega)]; rfl, if_neg (by omega)]
  rfl
theorem byte_val (n : Int) (h0 : 0 ≤ n) (h1 : n < 256) : ((UInt8.ofNat n.toNat).toNat : Int) = n := by
  rw [UInt8.toNat_ofNat']
  omega
theorem bytesOf_app (a b : ByteArray) : bytesOf (a ++ b) = bytesOf a ++ bytesOf b := by
  unfold bytesOf
  rw [ByteArray.data_append, Array.toList_append, List.map_append]
theorem bytesOf_nums (l : List Int) (h : ∀ x ∈ l, 0 ≤ x ∧ x < 256) : bytesOf (strOfNums l) = l := by
  unfold bytesOf strOfNums
  rw [List.toList_toArray, List.map_map]
  conv => rhs; rw [← List.map_id l]
  refine List.map_congr_left fun x hx => ?_
  exact byte_val x (h x hx).1 (h x hx).2
theorem enc_size (t : ByteArray) : (encF t).length = 2 + t.size := by
  unfold encF
  rw [List.length_append, bytesOf_length]; rfl
theorem flat_size (l : List ByteArray) (h : ∀ x ∈ l, x.size ≤ 1000) : (l.flatMap encF).length ≤ l.length * 1002 := by
  induction l with
  | nil => simp
  | cons a l ih =>
    rw [List.flatMap_cons, List.length_append, enc_size, List.length_cons]
    have h1 := h a (by simp)
    have h2 := ih (fun x hx => h x (by simp [hx]))
    omega
theorem spec_loop (l : List ByteArray) (hl : l.length ≤ 40) (d : Nat) : ∀ (k i : Nat), l.length - i = d → d < k → spec_FieldsBytes.l0 k l (i : Int) = if ((l.drop i).any fun x => decide (1000 < (x.size : Int))) = true then some ([], 4) else (spec_l02Fields.f l).bind fun t => some (t, 0) := by
  induction d with
  | zero =>
    intro k i hd hk
    obtain ⟨k, rfl⟩ : ∃ m, k = m + 1 := ⟨k - 1, by omega⟩
    simp only [spec_FieldsBytes.l0]
    rw [if_neg (by omega), List.drop_eq_nil_of_le (by omega)]
    rfl
  | succ d ih =>
    intro k i hd hk
    obtain ⟨k, rfl⟩ : ∃ m, k = m + 1 := ⟨k - 1, by omega⟩
    have hlt : i < l.length := by omega
    simp only [spec_FieldsBytes.l0]
    rw [if_pos (by omega), if_pos (by omega), rs_i l i hlt, List.drop_eq_getElem_cons hlt, List.any_cons]
    by_cases h : (l[i].size : Int) > 1000
    · rw [if_pos h, decide_eq_true (show 1000 < (l[i].size : Int) from h)]
      rfl
    · rw [if_neg h, decide_eq_false (show ¬ 1000 < (l[i].size : Int) from h), fb_up i (by omega), ih k (i + 1) (by omega) (by omega)]
      rfl
theorem fields_loop (l : List ByteArray) (hl : l.length ≤ 40) (hs : ∀ x ∈ l, x.size ≤ 1000) (d : Nat) : ∀ (k i : Nat) (acc : ByteArray), l.length - i = d → i ≤ l.length → d + 3 < k → acc.size + d * 1002 ≤ 1000000 →
    ∃ r, impl_fields.l0 k acc l (l.length : Int) (i : Int) = some r ∧ bytesOf r = bytesOf acc ++ (l.drop i).flatMap encF := by
  induction d with
  | zero =>
    intro k i acc hd hi hk _
    obtain ⟨k, rfl⟩ : ∃ m, k = m + 1 := ⟨k - 1, by omega⟩
    refine ⟨acc, ?_, ?_⟩
    · simp only [impl_fields.l0]
      rw [if_neg (by omega)]
    · rw [List.drop_eq_nil_of_le (by omega)]; simp
  | succ d ih =>
    intro k i acc hd hi hk ha
    obtain ⟨k, rfl⟩ : ∃ m, k = m + 1 := ⟨k - 1, by omega⟩
    have hlt : i < l.length := by omega
    have hsz := hs l[i] (List.getElem_mem hlt)
    have h2 : (strOfNums [(l[i].size : Int) / 256 % 256, (l[i].size : Int) % 256]).size = 2 := bySize _
    obtain ⟨r, hr, hb⟩ := ih k (i + 1) (acc ++ (strOfNums [(l[i].size : Int) / 256 % 256, (l[i].size : Int) % 256] ++ l[i])) (by omega) (by omega) (by omega) (by rw [ByteArray.size_append, ByteArray.size_append, h2]; omega)
    refine ⟨r, ?_, ?_⟩
    · simp only [impl_fields.l0]
      rw [if_pos (by omega), if_pos (by omega), if_pos (by omega), rs_i l i hlt, number2 _ k (by omega), Option.bind_some, if_pos (by rw [h2]; omega), if_pos (by rw [ByteArray.size_append, h2]; omega), fb_up i (by omega)]
      exact hr
    · rw [hb, List.drop_eq_getElem_cons hlt, List.flatMap_cons, bytesOf_app, bytesOf_app, bytesOf_nums _ (by simp; omega), List.append_assoc]
      rfl
theorem fields_eq (l : List ByteArray) (hl : l.length ≤ 40) (hs : ∀ x ∈ l, x.size ≤ 1000) (k : Nat) (hk : l.length + 3 < k) : ∃ r, impl_fields.f k l = some r ∧ bytesOf r = fieldsL l := by
  have h1 : (strOfNums [(l.length : Int) % 256]).size = 1 := bySize _
  obtain ⟨r, hr, hb⟩ := fields_loop l hl hs l.length k 0 (strOfNums [(l.length : Int) % 256]) (by omega) (by omega) hk (by rw [h1]; omega)
  refine ⟨r, ?_, ?_⟩
  · unfold impl_fields.f
    rw [number1 _ k (by omega), Option.bind_some]
    exact hr
  · rw [hb, bytesOf_nums _ (by simp; omega), List.drop_zero]
    rfl
theorem both_ok (l : List ByteArray) (h1 : l.length ≤ 40) (hsz : ∀ x ∈ l, x.size ≤ 1000) (k : Nat) (hk : l.length + 3 < k) : spec_FieldsBytes.f k l = some (fieldsL l, 0) ∧ impl_FieldsBytes.f k l = some (fieldsL l, 0) ∧ (fieldsL l).length ≤ 65536 := by
  unfold spec_FieldsBytes.f impl_FieldsBytes.f
  rw [if_neg (by omega), if_pos (show (l.length : Int) ≤ 4096 by omega), if_neg (by omega), if_neg (show ¬ 40 < (l.length : Int) by omega)]
  have hs := spec_loop l (by omega) l.length k 0 (by omega) (by omega)
  rw [Int.ofNat_zero] at hs
  have h3 : ¬ (l.any fun x => decide (1000 < (x.size : Int))) = true := by
    intro hh
    obtain ⟨x, hx, hp⟩ := List.any_eq_true.1 hh
    have := hsz x hx
    simp at hp
    omega
  rw [hs, List.drop_zero, if_neg h3, if_neg h3]
  obtain ⟨r, hr, hb⟩ := fields_eq l (by omega) hsz k hk
  have hlen : (fieldsL l).length ≤ 65536 := by
    have := flat_size l hsz
    unfold fieldsL
    rw [List.length_append]
    simp only [List.length_cons, List.length_nil]
    omega
  have hrs : r.size = (fieldsL l).length := by rw [← hb, bytesOf_length]
  refine ⟨?_, ?_, hlen⟩
  · unfold spec_l02Fields.f
    rw [if_pos (by omega), Option.bind_some]
  · rw [hr, Option.bind_some, if_pos (by omega), hb]
end Go.Proofs.Ytfgnhghadghdkaa.Pure
