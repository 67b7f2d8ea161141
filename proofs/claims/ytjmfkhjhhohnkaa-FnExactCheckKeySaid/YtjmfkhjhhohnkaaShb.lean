/- The padded texts and the blocks of both hashes are the same; the hashes are. -/
import Derived.Test.YtjmfkhjhhohnkaaSha
namespace Go.Proofs.Ytjmfkhjhhohnkaa.Pure
open Go.RowKit Go.Proofs.Ytjmfkhjhhohnkaa.T Go.Proofs.YtjmfkhjhhohnkaaW.PrintWords Go.Proofs.YtjmfkhjhhohnkaaW.PrintLast Go.Proofs.YtjmfkhjhhohnkaaW.PrintMore
set_option linter.unusedVariables false
def okB (l : List Int) : Prop := ∀ x ∈ l, 0 ≤ x ∧ x < 256
theorem sz_nums (l : List Int) : (strOfNums l).size = l.length := by unfold strOfNums; simp [ByteArray.size]
theorem nums_append (a b : List Int) : strOfNums (a ++ b) = strOfNums a ++ strOfNums b := by
  apply Go.WideShapes.bytes_inj
  rw [ByteArray.data_append]
  simp [strOfNums]
theorem bt_of (l : List Int) (hl : okB l) (i : Int) (h0 : 0 ≤ i) (h1 : i < (l.length : Int)) : bt (strOfNums l) i = rd l i := by
  have h : i.toNat < l.length := by omega
  unfold bt
  rw [dif_pos (by rw [sz_nums]; exact h)]
  have h2 := hl l[i.toNat] (List.getElem_mem h)
  have h3 : (strOfNums l)[i.toNat]'(by rw [sz_nums]; exact h) = UInt8.ofNat l[i.toNat].toNat := by
    show (strOfNums l).data[i.toNat]'_ = _
    simp [strOfNums]
  rw [h3]
  simp only [rd, List.getD, List.getElem?_eq_getElem h, Option.getD_some, UInt8.toNat_ofNat']
  omega
theorem bt_cut (s : ByteArray) (a n : Nat) (h : a + n ≤ s.size) (j : Int) (h0 : 0 ≤ j) (h1 : j < (n : Int)) : bt (s.extract a (a + n)) j = bt s ((a : Int) + j) := by
  have hj : j.toNat < n := by omega
  have he : ((a : Int) + j).toNat = a + j.toNat := by omega
  unfold bt
  rw [dif_pos (by rw [ByteArray.size_extract]; omega), dif_pos (by rw [he]; omega)]
  congr 2
  rw [ByteArray.getElem_extract]
  congr 1
  exact he.symm
theorem zs_eq (l : List Int) : zs (strOfNums l) = zn l := by unfold zs zn; rw [sz_nums]
theorem zeros_eq : ∀ n, (⟨(Lib.repeatL [(0 : UInt8)] n).toArray⟩ : ByteArray) = strOfNums (List.replicate n 0) := by
  intro n
  apply Go.WideShapes.bytes_inj
  have : ∀ k, Lib.repeatL [(0 : UInt8)] k = List.replicate k 0 := by
    intro k
    induction k with
    | zero => rfl
    | succ k ih => rw [Lib.repeatL, ih]; rfl
  show (Lib.repeatL [(0 : UInt8)] n).toArray.toList = _
  rw [this]
  simp [strOfNums]
theorem eb8 (n : Int) : eb n 8 = [8 * n / 72057594037927936 % 256, 8 * n / 281474976710656 % 256, 8 * n / 1099511627776 % 256, 8 * n / 4294967296 % 256, 8 * n / 16777216 % 256, 8 * n / 65536 % 256, 8 * n / 256 % 256, 8 * n / 1 % 256] := rfl
theorem n8_eq (n : Int) : n8 (8 * n) = strOfNums (eb n 8) := by
  unfold n8
  rw [eb8]
  generalize 8 * n = m
  have e1 : m / 256 / 256 / 256 / 256 / 256 / 256 / 256 % 256 = m / 72057594037927936 % 256 := by omega
  have e2 : m / 256 / 256 / 256 / 256 / 256 / 256 % 256 = m / 281474976710656 % 256 := by omega
  have e3 : m / 256 / 256 / 256 / 256 / 256 % 256 = m / 1099511627776 % 256 := by omega
  have e4 : m / 256 / 256 / 256 / 256 % 256 = m / 4294967296 % 256 := by omega
  have e5 : m / 256 / 256 / 256 % 256 = m / 16777216 % 256 := by omega
  have e6 : m / 256 / 256 % 256 = m / 65536 % 256 := by omega
  have e7 : m % 256 = m / 1 % 256 := by omega
  rw [e1, e2, e3, e4, e5, e6, e7]
theorem pad_eq (l : List Int) : pad (strOfNums l) = strOfNums (pd l) := by
  unfold pad pd
  rw [nums_append, nums_append, nums_append, zs_eq, zeros_eq, sz_nums, n8_eq]
  rfl
theorem eb_ok (n : Int) : ∀ i, okB (eb n i)
  | 0 => fun x hx => by cases hx
  | i + 1 => by
    intro x hx
    rw [eb, List.mem_append] at hx
    rcases hx with h | h
    · exact eb_ok n i x h
    · rw [List.mem_singleton] at h
      omega
theorem pd_ok (l : List Int) (hl : okB l) : okB (pd l) := by
  intro x hx
  unfold pd at hx
  rw [List.mem_append, List.mem_append, List.mem_append] at hx
  rcases hx with ((h | h) | h) | h
  · exact hl x h
  · rw [List.mem_singleton] at h
    omega
  · have := (List.mem_replicate.1 h).2
    omega
  · exact eb_ok _ _ x h
theorem hv_sh (P : List Int) (hP : okB P) : ∀ j, 64 * j ≤ P.length → hv (strOfNums P) j = sh P j
  | 0, _ => rfl
  | j + 1, h => by
    rw [hv, sh, hv_sh P hP j (by omega)]
    refine blk_eq _ _ _ _ (sh_len P j) (fun i h0 h1 => ?_)
    rw [bt_cut _ _ _ (by rw [sz_nums]; omega) i h0 h1, bt_of P hP _ (by omega) (by omega)]
    obtain ⟨k, rfl⟩ := Int.eq_ofNat_of_zero_le h0
    rw [rd_cut _ _ _ (by omega)]
    congr 1
theorem tw_so (V : List Int) (hv : ∀ i : Nat, i < 8 → 0 ≤ rd V (i : Int) ∧ rd V (i : Int) < 4294967296) : ∀ i, i ≤ 8 → tw V i = strOfNums (so V i)
  | 0, _ => rfl
  | i + 1, h => by
    rw [tw, so, nums_append, tw_so V hv i (by omega)]
    congr 1
    have h1 := hv i (by omega)
    have h2 : wrap64 (rd V (i : Int)) = rd V (i : Int) := by unfold wrap64; omega
    rw [h2]
    unfold n4
    congr 1
    have e1 : rd V (i : Int) / 256 / 256 / 256 % 256 = rd V (i : Int) / 16777216 % 256 := by omega
    have e2 : rd V (i : Int) / 256 / 256 % 256 = rd V (i : Int) / 65536 % 256 := by omega
    rw [e1, e2]
theorem sha_eq (l : List Int) (hl : okB l) : sha (strOfNums l) = ssha l := by
  have hlen : (pd l).length = l.length + 1 + zn l + 8 := by
    unfold pd
    simp [eb_len]
    omega
  have hm : (pd l).length % 64 = 0 := by rw [hlen]; unfold zn; omega
  unfold sha ssha
  rw [pad_eq, sz_nums, hv_sh _ (pd_ok l hl) _ (by omega)]
  obtain ⟨j, hj⟩ : ∃ j, (pd l).length / 64 = j + 1 := ⟨(pd l).length / 64 - 1, by omega⟩
  rw [hj, sh]
  exact tw_so _ (fun i hi => sblk_range _ _ _ (sh_len _ j) i hi) 8 (by decide)
end Go.Proofs.Ytjmfkhjhhohnkaa.Pure
