/- What the StoreDrop and the StorePut functions compute: one and the same. -/
import Derived.Test.YtifkdlcalkccaaaS5
import Derived.Test.YtifkdlcalkccaaaS8
import Derived.Test.YtifkdlcalkccaaaSGet
import Derived.Test.YtifkdlcalkccaaaSE5
import Derived.Test.YtifkdlcalkccaaaSE6
namespace Go.Proofs.Ytifkdlcalkccaaa.Pure
open Go.RowKit Go.Proofs.Ytifkdlcalkccaaa.S Go.Proofs.YtifkdlcalkccaaaW.PrintWords Go.Proofs.YtifkdlcalkccaaaW.PrintLast
set_option linter.unusedVariables false
theorem fdB_cond (l : List S50) (a : ByteArray) : (lbN l a < l.length ∧ ((l.getD (lbN l a) z50).f0.toList == a.toList) = true) ↔ fdB l a = true := by
  unfold fdB
  rw [Bool.and_eq_true, decide_eq_true_iff, Lib.toList_data, Lib.toList_data]
theorem dropT_eq (l : List S50) (a : ByteArray) : dropT l (lbN l a) a = dropN l a := by
  unfold dropT dropN
  by_cases h : fdB l a = true
  · rw [if_pos h, if_pos ((fdB_cond l a).2 h)]
  · rw [if_neg h, if_neg (fun e => h ((fdB_cond l a).1 e))]
theorem putT_eq (l : List S50) (a v : ByteArray) : putT l (lbN l a) a v = putN l a v := by
  unfold putT putN
  by_cases h : fdB l a = true
  · rw [if_pos h, if_pos ((fdB_cond l a).2 h)]
  · rw [if_neg h, if_neg (fun e => h ((fdB_cond l a).1 e))]
theorem dropN_len (l : List S50) (a : ByteArray) : (dropN l a).1.length ≤ l.length := by rw [← dropT_eq]; exact dropT_len _ _ _
theorem putN_len (l : List S50) (a v : ByteArray) : (putN l a v).1.length ≤ l.length + 1 := by rw [← putT_eq]; exact putT_len _ _ _ _
def storeDropN (l : List S50) (a : ByteArray) : List S50 × Int :=
  if codeN l (decide ((a.size : Int) > 65536)) = 0 then (if keyB a = true then dropN l a else ([], 4)) else ([], codeN l (decide ((a.size : Int) > 65536)))
def storePutN (l : List S50) (a v : ByteArray) : List S50 × Int :=
  if codeN l (decide ((a.size : Int) > 65536) || decide ((v.size : Int) > 65536)) = 0 then (if keyB a = true then (if valB v = true then putN l a v else ([], 4)) else ([], 4)) else ([], codeN l (decide ((a.size : Int) > 65536) || decide ((v.size : Int) > 65536)))
theorem storeDropN_len (l : List S50) (a : ByteArray) : (storeDropN l a).1.length ≤ l.length := by
  unfold storeDropN
  split
  · split
    · exact dropN_len l a
    · simp
  · simp
theorem storePutN_len (l : List S50) (a v : ByteArray) : (storePutN l a v).1.length ≤ l.length + 1 := by
  unfold storePutN
  split
  · split
    · split
      · exact putN_len l a v
      · simp
    · simp
  · simp
theorem impl_val (s : ByteArray) : impl_isValue.f s = some (valB s) := by
  unfold impl_isValue.f valB
  congr 1
  rw [decide_eq_decide]
  omega
theorem impl_storeDrop (l : List S50) (a : ByteArray) (hl : l.length ≤ 1048576) (k : Nat) (hk : 1 < k) : impl_StoreDrop.f k l a = some (storeDropN l a) := by
  unfold impl_StoreDrop.f storeDropN impl_drop.f
  rw [impl_code l [a] k hk, impl_key, if_pos (by omega)]
  simp only [List.any_cons, List.any_nil, Bool.or_false, Option.bind_some, gt_iff_lt]
  by_cases h : codeN l (decide (65536 < (a.size : Int))) = 0
  · rw [if_pos h, if_pos h]
    cases keyB a <;> simp
  · rw [if_neg h, if_neg h]
theorem impl_storePut (l : List S50) (a v : ByteArray) (hl : l.length ≤ 1048576) (k : Nat) (hk : 1 < k) : impl_StorePut.f k l a v = some (storePutN l a v) := by
  unfold impl_StorePut.f storePutN impl_put.f
  rw [impl_code l [a, v] k hk, impl_key, impl_val, if_pos (by omega)]
  simp only [List.any_cons, List.any_nil, Bool.or_false, Option.bind_some, gt_iff_lt]
  by_cases h : codeN l (decide (65536 < (a.size : Int)) || decide (65536 < (v.size : Int))) = 0
  · rw [if_pos h, if_pos h]
    cases keyB a <;> cases valB v <;> simp
  · rw [if_neg h, if_neg h]
theorem spec_storeDrop (l : List S50) (a : ByteArray) (hl : l.length ≤ 1048576) (k : Nat) (hk : l.length + 2 < k) : spec_StoreDrop.f k l a = some (storeDropN l a) := by
  unfold spec_StoreDrop.f storeDropN
  by_cases h : (l.length : Int) > 4096 ∨ (a.size : Int) > 65536
  · have hc : codeN l (decide ((a.size : Int) > 65536)) = 2 := code_long l (h.imp (fun x => by omega) (fun x => decide_eq_true x))
    rw [if_pos h, hc]
    simp
  · have hb : decide ((a.size : Int) > 65536) = false := decide_eq_false (fun x => h (.inr x))
    have hle := lbN_le l a
    rw [if_neg h, spec_code l a (by omega) k (by omega), spec_at l a (by omega) k (by omega), hb]
    simp only [Option.bind_some]
    rw [if_pos (show 0 ≤ ((lbN l a : Nat) : Int) ∧ ((lbN l a : Nat) : Int) ≤ (l.length : Int) by omega), Int.toNat_natCast, dropT_eq]
    by_cases hz : codeN l false = 0
    · rw [if_pos hz, if_pos hz]
      cases keyB a <;> simp
    · rw [if_neg hz, if_neg hz, if_neg hz]
theorem spec_storePut (l : List S50) (a v : ByteArray) (hl : l.length ≤ 1048576) (k : Nat) (hk : l.length + 2 < k) : spec_StorePut.f k l a v = some (storePutN l a v) := by
  unfold spec_StorePut.f storePutN
  by_cases h : (l.length : Int) > 4096 ∨ (a.size : Int) > 65536 ∨ (v.size : Int) > 65536
  · have hc : codeN l (decide ((a.size : Int) > 65536) || decide ((v.size : Int) > 65536)) = 2 := code_long l (h.imp (fun x => by omega) (fun x => by rw [Bool.or_eq_true]; exact x.imp (fun y => decide_eq_true y) (fun y => decide_eq_true y)))
    rw [if_pos h, hc]
    simp
  · have hb : decide ((a.size : Int) > 65536) = false := decide_eq_false (fun x => h (.inr (.inl x)))
    have hb2 : decide ((v.size : Int) > 65536) = false := decide_eq_false (fun x => h (.inr (.inr x)))
    have hle := lbN_le l a
    have hv : ((v.size : Int) > 1000) ↔ ¬ valB v = true := by unfold valB; rw [decide_eq_true_iff]; omega
    rw [if_neg h, spec_code l a (by omega) k (by omega), spec_at l a (by omega) k (by omega), hb, hb2]
    simp only [Option.bind_some, Bool.or_false]
    rw [if_pos (show 0 ≤ ((lbN l a : Nat) : Int) ∧ ((lbN l a : Nat) : Int) ≤ (l.length : Int) by omega), Int.toNat_natCast, putT_eq]
    by_cases hz : codeN l false = 0
    · rw [if_pos hz, if_pos hz]
      by_cases hvv : (v.size : Int) > 1000
      · rw [if_pos hvv, Bool.eq_false_iff.2 (hv.1 hvv)]
        cases keyB a <;> simp
      · have hvt : valB v = true := by cases hx : valB v with
          | true => rfl
          | false => exact absurd (hv.2 (by rw [hx]; simp)) hvv
        rw [if_neg hvv, hvt]
        cases keyB a <;> simp
    · rw [if_neg hz, if_neg hz, if_neg hz]
end Go.Proofs.Ytifkdlcalkccaaa.Pure
