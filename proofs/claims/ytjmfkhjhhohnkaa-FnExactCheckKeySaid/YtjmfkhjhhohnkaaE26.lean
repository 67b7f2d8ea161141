/- The contract of slices.Backward over the sides of a proof: a range over a function. -/
import Derived.Test.YtjmfkhjhhohnkaaE25
import Derived.RangeFuncNested
import Derived.RangeFuncBound
import Derived.RangeFuncCalls
import Derived.RangeFuncLeaves
import Derived.RangeFuncBox
import Derived.Shelf.Abstract
import Derived.Shelf.RegionOpen
import Derived.OwnWalkIn
import Derived.TacticsInMore
import Derived.LoopNIn
import Derived.LoopIn
namespace Go.Proofs.Ytjmfkhjhhohnkaa.Q
open Go.RowKit Go.Shelf Go.Proofs.YtjmfkhjhhohnkaaW.PrintWords Go.Proofs.YtjmfkhjhhohnkaaW.PrintLast Go.Proofs.YtjmfkhjhhohnkaaW.PrintMore
open Go.Proofs.Ytjmfkhjhhohnkaa.T (ssha sha)
attribute [local go_sem] Oper.semAt_some
set_option linter.unusedVariables false
set_option linter.unusedSimpArgs false
theorem ck_add_blk (a : Addr) (i : Nat) : (a.add i).block = a.block := by unfold Addr.add; split <;> rfl
/-- What a round is handed: a place below 256, and a hash. -/
abbrev SX := { x : Nat × ByteArray // x.1 < 256 ∧ x.2.size = 32 }
def bkF (l : List ByteArray) (n j : Nat) : SX :=
  if h : n - 1 - j < 256 ∧ (l.getD (n - 1 - j) ByteArray.empty).size = 32 then ⟨(n - 1 - j, l.getD (n - 1 - j) ByteArray.empty), h⟩ else ⟨(0, sha ByteArray.empty), ⟨by decide, sha_size _⟩⟩
theorem bkF_is (l : List ByteArray) (n j : Nat) (hn : n ≤ 256) (hl : l.length = n) (hs : ∀ s ∈ l, s.size = 32) (hj : j < n) : (bkF l n j).1 = (n - 1 - j, l.getD (n - 1 - j) ByteArray.empty) := by
  unfold bkF
  rw [dif_pos]
  refine ⟨by omega, ?_⟩
  have hm : n - 1 - j < l.length := by omega
  have e : l.getD (n - 1 - j) ByteArray.empty = l[n - 1 - j] := by simp [List.getD, List.getElem?_eq_getElem hm]
  rw [e]
  exact hs _ (List.getElem_mem hm)
/-- What has come when k rounds are over. -/
def bkU (l : List ByteArray) (n k : Nat) : List SX := (List.range k).map (bkF l n)
theorem bkU_succ (l : List ByteArray) (n k : Nat) : bkU l n (k + 1) = bkU l n k ++ [bkF l n k] := by simp [bkU, List.range_succ]
theorem bkU_length (l : List ByteArray) (n k : Nat) : (bkU l n k).length = k := by simp [bkU]
/-- What a round that goes on keeps: whatever lay when the function began, and the slice's box. -/
def KpB (n₀ Bs : Nat) (W W' : World) : Prop := Below n₀ W W' ∧ W'.heap[Bs]? = W.heap[Bs]?
theorem KpB.refl (n₀ Bs : Nat) (W : World) : KpB n₀ Bs W W := ⟨Below.refl _ _, rfl⟩
theorem KpB.trans {n₀ Bs : Nat} {A B C : World} (h : KpB n₀ Bs A B) (g : KpB n₀ Bs B C) : KpB n₀ Bs A C := ⟨h.1.trans g.1, g.2.trans h.2⟩
theorem KpB.cell {n₀ Bs : Nat} {A B : World} (h : KpB n₀ Bs A B) {v : Value} (hc : A.cell? ⟨Bs, 0, none⟩ = some v) : B.cell? ⟨Bs, 0, none⟩ = some v := by
  unfold World.cell? at hc ⊢
  rw [h.2]
  exact hc
set_option maxRecDepth 100000 in
set_option maxHeartbeats 4000000 in
/-- slices.Backward's closure: for every loop body that keeps what lay below n₀, and the slice's box. -/
theorem back1_in (F : Fence) (n : Nat) (h7 : F.fn 103) (hro : F.round = none) (hn : 1 ≤ n) (l Bs n₀ len cap : Nat) (a : Option Addr) (zs : List ByteArray) (hlen : len ≤ 256) (hzs : zs.length = len) (hsz : ∀ s ∈ zs, s.size = 32) (J Jx : List SX → World → Prop)
    (hY : ∀ pre x W, J pre W → pre.length < len → YieldAt F (n - 1) Try.prog l #[.int .i64 (x.1.1 : Int), .string x.1.2] W fun e W' =>
      (e = .returned (.bool true) ∧ J (pre ++ [x]) W' ∧ KpB n₀ Bs W W') ∨ (e = .returned (.bool false) ∧ Jx (pre ++ [x]) W'))
    (W : World) (hBs : W.cell? ⟨Bs, 0, none⟩ = some (.slice a len cap)) (hc : ∀ j, j < len → ∃ ad, a = some ad ∧ ad.block < n₀ ∧ W.cell? (ad.add j) = some (.string (zs.getD j ByteArray.empty))) (h0 : J [] W) :
    CallsIn F n Try.prog 103 #[.func (.yield l) #[] #[], .pointer (some ⟨Bs, 0, none⟩)] W fun e W' => (∃ v, e = .returned v) ∧
      ((∃ ys, ys = bkU zs len len ∧ J ys W') ∨ (∃ pre, (∃ k, k ≤ len ∧ pre = bkU zs len k) ∧ Jx pre W')) := by
  refine callsIn_of_wp Try.func103 rfl h7 ?_ hro
  simp only [Try.ntmps103, List.size_toArray, List.length_cons, List.length_nil, Nat.reduceAdd, Nat.reduceSub, Array.replicate_succ, Array.replicate_zero, List.push_toArray, List.append_toArray, List.nil_append, List.cons_append]
  have hw0 : wrap64 ((len : Int) - 1) = (len : Int) - 1 := by unfold wrap64; omega
  have HW0 := Aside0.mk hw0
  clear hw0
  gi_wp2
  gi_loopw [3] (fun i wr => ∃ k : Nat, k ≤ len ∧ i = .int .i64 ((len : Int) - 1 - k) ∧ J (bkU zs len k) wr ∧ KpB n₀ Bs W wr)
    (fun i _ => (intOf i + 1).toNat)
  case atStart => exact ⟨0, Nat.zero_le _, by first | (rw [HW0.out]; simp; done) | (simp [HW0.out]; done), h0, KpB.refl _ _ _⟩
  case round =>
    obtain ⟨k, hk, rfl, hJs, hnx⟩ := hrel
    have hbx := hnx.cell hBs
    by_cases hlt : k < len
    · obtain ⟨ad, rfl, hab, hcell0⟩ := hc (len - 1 - k) (by omega)
      have hcell := (hnx.1.cell (by rw [ck_add_blk]; exact hab)).trans hcell0
      have hx := bkF_is zs len k hlen hzs hsz hlt
      have hsucc := bkU_succ zs len k
      generalize bkF zs len k = x at *
      have e1 : (len : Int) - 1 - k = (x.1.1 : Int) := by rw [hx]; show (len : Int) - 1 - k = ((len - 1 - k : Nat) : Int); omega
      have e2 : zs.getD (len - 1 - k) ByteArray.empty = x.1.2 := by rw [hx]
      have e3 : len - 1 - k = x.1.1 := by rw [hx]
      rw [e2, e3] at hcell
      rw [e1]
      have hlt2 : (x.1.1 : Int) < (len : Int) := by omega
      have hge : (0 : Int) ≤ (x.1.1 : Int) := by omega
      have hlt3 : x.1.1 < len := by omega
      have hw1 : wrap64 ((x.1.1 : Int) - 1) = (x.1.1 : Int) - 1 := by unfold wrap64; omega
      have HW1 := Aside0.mk hw1
      have HE1 := Aside0.mk e1
      have HSU := Aside0.mk hsucc
      obtain ⟨fn, tmps, assign, body, hy, hR⟩ := hY _ x wr hJs (by rw [bkU_length]; exact hlt)
      try dsimp only at hy
      clear hx hw1 e1 e2 e3 hsucc hcell0 HW0
      gi_wp2
      refine hR.mono ?_
      rintro e W3 (⟨rfl, hJ3, hk3⟩ | ⟨rfl, hJx3⟩)
      · gi_wp2
        go_roundw
        case rel => exact ⟨k + 1, by omega, by first | (rw [HW1.out]; exact congrArg _ (by have h2 := HE1.out; omega)) | exact congrArg _ (by have h2 := HE1.out; omega), by rw [HSU.out]; exact hJ3, hnx.trans hk3⟩
        case measure => first | (simp [intOf, HW1.out]; done) | (simp [intOf, HW1.out]; have h2 := HE1.out; omega)
      · gi_wp2
        refine bodyPost_ret (results_none rfl _ _ _) rfl ?_
        exact ⟨⟨_, rfl⟩, .inr ⟨_, ⟨k + 1, by omega, HSU.out.symm⟩, hJx3⟩⟩
    · have hkl : k = len := by omega
      subst hkl
      have hneg : ¬ (0 : Int) ≤ (k : Int) - 1 - k := by omega
      gi_wp2
      go_end0
      first | exact ⟨⟨_, rfl⟩, .inl ⟨_, rfl, hJs⟩⟩ | exact ⟨⟨_, rfl⟩, .inl hJs⟩
set_option maxHeartbeats 1000000 in
/-- slices.Backward(s): the slice value is boxed; the function value captures the box. -/
theorem back_in (F : Fence) (n : Nat) (h5 : F.fn 91) (hro : F.round = none) (a : Option Addr) (len cap : Nat) (w : World) :
    CallsIn F n Try.prog 91 #[.slice a len cap] w fun e w' => e = .returned (.func (.func 103) #[] #[.pointer (some ⟨w.heap.size, 0, none⟩)]) ∧ w' = w.alloc (.cells #[.slice a len cap] 61) := by
  refine callsIn_of_wp Try.func91 rfl h5 ?_ hro
  simp only [Try.ntmps91, List.size_toArray, List.length_cons, List.length_nil, Nat.reduceAdd, Nat.reduceSub, Array.replicate_succ, Array.replicate_zero, List.push_toArray, List.append_toArray, List.nil_append, List.cons_append]
  gi_wp2
  go_ret
  exact ⟨rfl, rfl⟩
/-- slices.Backward(s) hands back a value that 'SeqStopsK': all of it from behind; or a part. -/
theorem back_stops (F : Fence) (n : Nat) (h7 : F.fn 103) (hro : F.round = none) (hn : 1 ≤ n) (Bs n₀ len cap : Nat) (a : Option Addr) (zs : List ByteArray) (hlen : len ≤ 256) (hzs : zs.length = len) (hsz : ∀ s ∈ zs, s.size = 32) (w : World) (hBs : Bs < w.heap.size) (hn₀ : n₀ ≤ w.heap.size)
    (hc : w.cell? ⟨Bs, 0, none⟩ = some (.slice a len cap)) (hI : ∀ j, j < len → ∃ ad, a = some ad ∧ ad.block < n₀ ∧ w.cell? (ad.add j) = some (.string (zs.getD j ByteArray.empty))) :
    SeqStopsK F n Try.prog 103 #[.pointer (some ⟨Bs, 0, none⟩)] (fun x : SX => #[Value.int .i64 (x.1.1 : Int), Value.string x.1.2]) (KpB n₀ Bs) (fun ys => ys = bkU zs len len) (fun pre => ∃ k, k ≤ len ∧ pre = bkU zs len k) len w := fun l J Jx W hW _ _ hY h0 => by
  have hc' := (hW.cell (p := ⟨Bs, 0, none⟩) hBs).trans hc
  exact back1_in F n h7 hro hn l Bs n₀ len cap a zs hlen hzs hsz J Jx hY W hc' (fun j hj => by
    obtain ⟨ad, h1, h2, h3⟩ := hI j hj
    exact ⟨ad, h1, h2, (hW.cell (by rw [ck_add_blk]; omega)).trans h3⟩) h0
/-- The folding of what has come is the way up. -/
theorem bkU_fold (path : ByteArray) (l : List ByteArray) (n : Nat) (hn : n ≤ 256) (hl : l.length = n) (hs : ∀ s ∈ l, s.size = 32) (h : ByteArray) : (bkU l n n).foldl (fun h x => stepT path h x.1) h = upT path l n h := by
  have key : ∀ k, k ≤ n → (bkU l n k).foldl (fun h x => stepT path h x.1) h = ((List.range k).map (fun j => (n - 1 - j, l.getD (n - 1 - j) ByteArray.empty))).foldl (stepT path) h := by
    intro k
    induction k with
    | zero => intro _; rfl
    | succ k ih =>
      intro hk
      rw [bkU_succ, List.foldl_append, ih (by omega), List.range_succ, List.map_append, List.foldl_append, List.foldl_cons, List.foldl_nil, bkF_is l n k hn hl hs (by omega)]
      rfl
  rw [key n (Nat.le_refl _)]
  have h1 := upT_fold path l n h n (Nat.le_refl _)
  rw [Nat.sub_self] at h1
  exact h1
end Go.Proofs.Ytjmfkhjhhohnkaa.Q
