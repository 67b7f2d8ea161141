/- The program's hash of a text is the reference's of its bytes: plain Lean. -/
import Derived.Test.YtjmfkhjhhohnkaaHa
import Derived.Test.YtjmfkhjhhohnkaaLh
import Derived.Laws.BitsLemmas
namespace Go.Proofs.Ytjmfkhjhhohnkaa.Pure
open Go.RowKit Go.Proofs.Ytjmfkhjhhohnkaa.T Go.Proofs.YtjmfkhjhhohnkaaW.PrintWords Go.Proofs.YtjmfkhjhhohnkaaW.PrintLast Go.Proofs.YtjmfkhjhhohnkaaW.PrintMore
set_option linter.unusedVariables false
theorem nat_mod (x : BitVec 32) : ((x.toNat : Nat) : Int) % 4294967296 = (x.toNat : Int) := by
  have h : x.toNat < 4294967296 := x.isLt
  omega
theorem b_or (a b : Int) : Go.bits .or .u32 a b = (((BitVec.ofInt 32 a) ||| (BitVec.ofInt 32 b)).toNat : Int) := by
  show IntKind.u32.wrap _ = _
  rw [IntKind.wrap_u32]
  exact nat_mod _
theorem b_and (a b : Int) : Go.bits .and .u32 a b = (((BitVec.ofInt 32 a) &&& (BitVec.ofInt 32 b)).toNat : Int) := by
  show IntKind.u32.wrap _ = _
  rw [IntKind.wrap_u32]
  exact nat_mod _
theorem b_xor (a b : Int) : Go.bits .xor .u32 a b = (((BitVec.ofInt 32 a) ^^^ (BitVec.ofInt 32 b)).toNat : Int) := by
  show IntKind.u32.wrap _ = _
  rw [IntKind.wrap_u32]
  exact nat_mod _
theorem back (x : BitVec 32) : BitVec.ofInt 32 (x.toNat : Int) = x := by
  rw [BitVec.ofInt_natCast]
  simp
theorem or_comm32 (a b : Int) : Go.bits .or .u32 a b = Go.bits .or .u32 b a := by rw [b_or, b_or, BitVec.or_comm]
theorem ch_eq (e f g : Int) : Go.bits .or .u32 (Go.bits .and .u32 e f) (Go.bits .and .u32 (Go.bits .xor .u32 IntKind.u32.max e) g) = Go.bits .xor .u32 (Go.bits .and .u32 e f) (Go.bits .and .u32 (Go.bits .xor .u32 IntKind.u32.max e) g) := by
  simp only [b_or, b_and, b_xor, back]
  congr 2
  rw [show BitVec.ofInt 32 IntKind.u32.max = BitVec.allOnes 32 by decide, BitVec.allOnes_xor]
  ext i hi
  simp
  cases (BitVec.ofInt 32 e)[i] <;> simp
theorem maj_eq (a b c : Int) : Go.bits .or .u32 (Go.bits .or .u32 (Go.bits .and .u32 a b) (Go.bits .and .u32 a c)) (Go.bits .and .u32 b c) = Go.bits .xor .u32 (Go.bits .xor .u32 (Go.bits .and .u32 a b) (Go.bits .and .u32 a c)) (Go.bits .and .u32 b c) := by
  simp only [b_or, b_and, b_xor, back]
  congr 2
  ext i hi
  simp
  cases (BitVec.ofInt 32 a)[i] <;> cases (BitVec.ofInt 32 b)[i] <;> cases (BitVec.ofInt 32 c)[i] <;> rfl
theorem rot_eq (x n : Int) (h0 : 1 ≤ n) (h1 : n ≤ 31) (hs : Go.bits .and .u64 (IntKind.u64.wrap (wrap64 (-n))) 31 = 32 - n) : (impl_turned.f x n).getD 0 = tu x n := by
  have hw : ∀ k : Int, 0 ≤ k → k ≤ 32 → IntKind.u64.wrap k = k := by
    intro k a b
    simp [IntKind.wrap, IntKind.bits, IntKind.signed]
    omega
  unfold tu impl_turned.f bits_RotateLeft32.f spec_l01Turn.f
  rw [hs, hw (32 - n) (by omega) (by omega), hw (32 - (32 - n)) (by omega) (by omega), if_pos (by omega), if_pos (by omega), if_pos (by omega), if_pos (by omega), show 32 - (32 - n) = n by omega]
  show Go.bits .or .u32 _ _ = Go.bits .or .u32 _ _
  rw [or_comm32]
theorem rot_7 (x : Int) : (impl_turned.f x 7).getD 0 = tu x 7 := rot_eq x 7 (by decide) (by decide) (by decide +kernel)
theorem rot_18 (x : Int) : (impl_turned.f x 18).getD 0 = tu x 18 := rot_eq x 18 (by decide) (by decide) (by decide +kernel)
theorem rot_17 (x : Int) : (impl_turned.f x 17).getD 0 = tu x 17 := rot_eq x 17 (by decide) (by decide) (by decide +kernel)
theorem rot_19 (x : Int) : (impl_turned.f x 19).getD 0 = tu x 19 := rot_eq x 19 (by decide) (by decide) (by decide +kernel)
theorem tn_6 (x : Int) : tn x 6 = tu x 6 := rot_eq x 6 (by decide) (by decide) (by decide +kernel)
theorem tn_11 (x : Int) : tn x 11 = tu x 11 := rot_eq x 11 (by decide) (by decide) (by decide +kernel)
theorem tn_25 (x : Int) : tn x 25 = tu x 25 := rot_eq x 25 (by decide) (by decide) (by decide +kernel)
theorem tn_2 (x : Int) : tn x 2 = tu x 2 := rot_eq x 2 (by decide) (by decide) (by decide +kernel)
theorem tn_13 (x : Int) : tn x 13 = tu x 13 := rot_eq x 13 (by decide) (by decide) (by decide +kernel)
theorem tn_22 (x : Int) : tn x 22 = tu x 22 := rot_eq x 22 (by decide) (by decide) (by decide +kernel)
theorem pp_sp (e f g h k w : Int) : pp e f g h k w = sp e f g h k w := by
  unfold pp sp
  rw [ch_eq, tn_6, tn_11, tn_25]
theorem qq_sq (a b c : Int) : qq a b c = sq a b c := by
  unfold qq sq
  rw [maj_eq, tn_2, tn_13, tn_22]
theorem rnd_eq (K W v : List Int) (x : Int) : rnd K W v x = srnd K W v x := by
  unfold rnd srnd
  rw [pp_sp, qq_sq]
theorem vl_eq (K W v : List Int) : ∀ i, vl K W v i = svl K W v i
  | 0 => rfl
  | i + 1 => by rw [vl, svl, vl_eq K W v i, rnd_eq]
theorem wl_eq (s : ByteArray) (B : List Int) (h : ∀ j : Int, 0 ≤ j → j < 64 → bt s j = rd B j) : ∀ i, wl s i = sw B i
  | 0 => rfl
  | i + 1 => by
    rw [wl, sw, wl_eq s B h i]
    by_cases hi : i < 16
    · rw [if_pos hi, if_pos hi]
      unfold w16 b16
      rw [h _ (by omega) (by omega), h _ (by omega) (by omega), h _ (by omega) (by omega), h _ (by omega) (by omega)]
    · rw [if_neg hi, if_neg hi]
      unfold wx w64 sig0 sig1
      rw [rot_7, rot_18, rot_17, rot_19]
theorem rd_set (L : List Int) (n i : Nat) (x : Int) (hn : n < L.length) : rd (L.set n x) (i : Int) = if i = n then x else rd L (i : Int) := by
  by_cases h : i = n
  · subst h
    simp [rd, List.getD, hn]
  · rw [if_neg h]
    simp [rd, List.getD, List.getElem?_set_ne (fun e => h e.symm)]
theorem al_rd (V0 V : List Int) (h : V.length = 8) : ∀ n, n ≤ 8 → ∀ i : Nat, rd (al V0 V n) (i : Int) = if i < n then (rd V (i : Int) + rd V0 (i : Int)) % 4294967296 else rd V (i : Int)
  | 0, _, i => by rw [if_neg (by omega)]; rfl
  | n + 1, hn, i => by
    rw [al, rd_set _ _ _ _ (by rw [al_len V0 V h]; omega), al_rd V0 V h n (by omega) n, al_rd V0 V h n (by omega) i]
    rw [if_neg (Nat.lt_irrefl n)]
    by_cases he : i = n
    · subst he
      rw [if_pos rfl, if_pos (by omega)]
    · rw [if_neg he]
      by_cases hl : i < n
      · rw [if_pos hl, if_pos (by omega)]
      · rw [if_neg hl, if_neg (by omega)]
theorem sal_rd (V H : List Int) (h : H.length = 8) : ∀ n, n ≤ 8 → ∀ i : Nat, rd (sal V H n) (i : Int) = if i < n then (rd H (i : Int) + rd V (i : Int)) % 4294967296 else rd H (i : Int)
  | 0, _, i => by rw [if_neg (by omega)]; rfl
  | n + 1, hn, i => by
    rw [sal, rd_set _ _ _ _ (by rw [sal_len V H h]; omega), sal_rd V H h n (by omega) n, sal_rd V H h n (by omega) i]
    rw [if_neg (Nat.lt_irrefl n)]
    by_cases he : i = n
    · subst he
      rw [if_pos rfl, if_pos (by omega)]
    · rw [if_neg he]
      by_cases hl : i < n
      · rw [if_pos hl, if_pos (by omega)]
      · rw [if_neg hl, if_neg (by omega)]
theorem rd_ext {A B : List Int} (h : A.length = B.length) (hr : ∀ i : Nat, i < A.length → rd A (i : Int) = rd B (i : Int)) : A = B := by
  refine List.ext_getElem h (fun i h1 h2 => ?_)
  have := hr i h1
  simpa [rd, List.getD, h1, h2] using this
theorem blk_eq (V K : List Int) (s : ByteArray) (B : List Int) (hv : V.length = 8) (h : ∀ j : Int, 0 ≤ j → j < 64 → bt s j = rd B j) : blk V K s = sblk V K B := by
  unfold blk sblk
  rw [wl_eq s B h, vl_eq]
  have hl := svl_len K (sw B 64) V hv 64
  refine rd_ext (by rw [al_len _ _ hl, sal_len _ _ hv]) (fun i hi => ?_)
  rw [al_len _ _ hl] at hi
  rw [al_rd _ _ hl 8 (by decide), sal_rd _ _ hv 8 (by decide), if_pos hi, if_pos hi, Int.add_comm]
theorem sblk_range (V K B : List Int) (hv : V.length = 8) (i : Nat) (hi : i < 8) : 0 ≤ rd (sblk V K B) (i : Int) ∧ rd (sblk V K B) (i : Int) < 4294967296 := by
  unfold sblk
  rw [sal_rd _ _ hv 8 (by decide), if_pos hi]
  omega
end Go.Proofs.Ytjmfkhjhhohnkaa.Pure
