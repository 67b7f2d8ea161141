/- The pure statement of the law FnStore: what its functions compute answers as the law says. -/
import Derived.Test.YtifkdlcalkccaaaSE17
import Derived.Test.YtifkdlcalkccaaaDefFnStore
import Derived.Test.YtifkdlcalkccaaaSScan
import Derived.Test.YtifkdlcalkccaaaSDraw
namespace Go.Proofs.Ytifkdlcalkccaaa.Pure
open Go.RowKit Go.Proofs.Ytifkdlcalkccaaa.S Go.Proofs.YtifkdlcalkccaaaW.PrintWords Go.Proofs.YtifkdlcalkccaaaW.PrintLast
theorem rdT (l : List S50) (i : Nat) (h : i < l.length) : rd_T50 l (i : Int) = l[i] := by
  simp only [rd_T50, Int.toNat_natCast]
  exact gd l i h
theorem samePairs_l0 (x : List S50) (hl : x.length ≤ 9223372036854775807) (d : Nat) : ∀ (k i : Nat), x.length - i = d → d < k → laws_samePairs.l0 k x x (i : Int) = some true := by
  induction d with
  | zero =>
    intro k i hd hk
    obtain ⟨k, rfl⟩ : ∃ m, k = m + 1 := ⟨k - 1, by omega⟩
    simp only [laws_samePairs.l0]
    rw [if_neg (by omega)]
  | succ d ih =>
    intro k i hd hk
    obtain ⟨k, rfl⟩ : ∃ m, k = m + 1 := ⟨k - 1, by omega⟩
    have hlt : i < x.length := by omega
    simp only [laws_samePairs.l0]
    rw [if_pos (by omega), if_pos (by omega), if_pos (by omega), if_neg (by simp), up64 hlt hl]
    exact ih k (i + 1) (by omega) (by omega)
theorem samePairs_self (x : List S50) (hl : x.length ≤ 9223372036854775807) (k : Nat) (hk : x.length < k) : laws_samePairs.f k x x = some true := by
  unfold laws_samePairs.f
  rw [if_pos rfl]
  exact samePairs_l0 x hl x.length k 0 (by omega) hk
theorem code0 {l : List S50} (h : Rt l) : codeN l false = 0 := by
  unfold codeN
  have := h.1
  rw [if_neg (by intro hh; rcases hh with hh | hh; omega; cases hh), if_pos (of_rt h)]
theorem key_short {a : ByteArray} (h : keyB a = true) : decide ((a.size : Int) > 65536) = false := by
  unfold keyB at h
  rw [Bool.and_eq_true] at h
  have := of_decide_eq_true h.2
  exact decide_eq_false (by omega)
theorem val_short {a : ByteArray} (h : valB a = true) : decide ((a.size : Int) > 65536) = false := by
  have := of_decide_eq_true h
  exact decide_eq_false (by omega)
theorem sget {l : List S50} (h : Rt l) {x : S50} (hx : x ∈ l) (k : Nat) (hk : 1 < k) : impl_StoreGet.f k l x.f0 = some (x.f1, 0) := by
  have hkey := (h.2.1 x hx).1
  rw [impl_storeGet l x.f0 k hk]
  unfold storeGetN
  rw [key_short hkey, code0 h, if_pos rfl, if_pos hkey, get_mem h hx, if_pos rfl]
theorem sget_none {l : List S50} (h : Rt l) {a : ByteArray} (ha : keyB a = true) (hn : ∀ x ∈ l, x.f0 ≠ a) (k : Nat) (hk : 1 < k) : impl_StoreGet.f k l a = some (⟨#[]⟩, 5) := by
  rw [impl_storeGet l a k hk]
  unfold storeGetN
  rw [key_short ha, code0 h, if_pos rfl, if_pos ha, get_none hn, if_neg (by simp)]
theorem begT_eq (a : ByteArray) (x : S50) : begT a x = begB a x := by
  have hpre := prefix_iff x.f0 a
  unfold begT begB
  rw [Bool.eq_iff_iff, Bool.and_eq_true, decide_eq_true_iff, beq_iff_eq, decide_eq_true_iff]
  exact hpre
theorem FnStore : laws_FnStore.PureF := by
  intro c m hc hm
  have hcb := bytesOK_of hc.1
  have hmb := bytesOK_of hm.1
  refine ⟨3000 + 1 + 1, ?_⟩
  unfold laws_FnStore.f
  by_cases h0 : 1048576 < (c.length : Int) ∨ 1048576 < (m.length : Int)
  · rw [if_pos h0]
  · rw [if_neg h0]
    obtain ⟨l, hL, hl20, hl⟩ := storeOf_ok hcb (by omega) (3000 + 1 + 1) (by omega)
    obtain ⟨a, hK, ha⟩ := keyOf_ok hmb (by omega)
    have hv : valB (⟨#[110, 101, 119, 32, 118, 97, 108, 117, 101]⟩ : ByteArray) = true := by decide
    rw [hL, Option.bind_some, hK, Option.bind_some]
    generalize (⟨#[110, 101, 119, 32, 118, 97, 108, 117, 101]⟩ : ByteArray) = v at hv ⊢
    obtain ⟨A, B, hp, hf⟩ := put_form hl a v (by omega)
    have hP := rt_ins v hl (by omega) hf ha hv
    have hD : Rt (A ++ B) := rt_sub hl hf.1
    have hsp : storePutN l a v = (A ++ ⟨a, v⟩ :: B, 0) := by
      unfold storePutN
      rw [key_short ha, val_short hv, Bool.or_false, code0 hl, if_pos rfl, if_pos ha, if_pos hv, hp]
    have hsd : storeDropN (A ++ ⟨a, v⟩ :: B) a = (A ++ B, 0) := by
      unfold storeDropN
      rw [key_short ha, code0 hP, if_pos rfl, if_pos ha]
      exact drop_at (x := ⟨a, v⟩) hP
    have hne : ∀ x ∈ A ++ B, x.f0 ≠ a := by
      intro x hx he
      rcases List.mem_append.1 hx with h | h
      · have := hf.2.1 x h
        rw [he, less_irrefl] at this
        cases this
      · have := hf.2.2.1 x h
        rw [he, less_irrefl] at this
        cases this
    have hin : (⟨a, v⟩ : S50) ∈ A ++ ⟨a, v⟩ :: B := by simp
    have hPl := hP.1
    have hsc : storeScanN l a = (l.filter (begT a), 0) := by
      unfold storeScanN
      rw [key_short ha, code0 hl, if_pos rfl]
      unfold scanN
      rw [show begT a = begB a from funext (begT_eq a)]
    rw [impl_storePut l a v (by omega) _ (by omega), hsp, Option.bind_some, spec_storePut l a v (by omega) _ (by omega), hsp, Option.bind_some]
    simp only []
    rw [sget hP hin _ (by omega), Option.bind_some, impl_storeDrop _ a (by omega) _ (by omega), hsd, Option.bind_some]
    simp only []
    rw [sget_none hD ha hne _ (by omega), Option.bind_some, samePairs_self _ (by omega) _ (by omega), Option.bind_some, impl_storeScan l a (by omega) _ (by omega), Option.bind_some, hsc]
    refine if_pos ⟨rfl, rfl, rfl, rfl, rfl, of_rt hP, ?_, rfl, hl.1⟩
    intro x hx hxa
    have hm := hf.2.2.2 x hx hxa
    have hm2 : x ∈ A ++ ⟨a, v⟩ :: B := by
      rcases List.mem_append.1 hm with h | h
      · exact List.mem_append_left _ h
      · exact List.mem_append_right _ (List.mem_cons_of_mem _ h)
    exact ⟨sget hP hm2 _ (by omega), sget hD hm _ (by omega)⟩
end Go.Proofs.Ytifkdlcalkccaaa.Pure
