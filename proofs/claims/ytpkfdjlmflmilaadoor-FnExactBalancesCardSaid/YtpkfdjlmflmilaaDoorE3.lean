/- The contract of impl.pairAt (a binary search by a comparison that is handed over). -/
import Derived.Test.YtpkfdjlmflmilaaDoorProg
import Derived.Test.YtpkfdjlmflmilaaDoorWMore
import Derived.Test.YtpkfdjlmflmilaaDoorQ0
import Derived.Test.YtpkfdjlmflmilaaDoorShelf
import Derived.WalkKit
import Derived.Lib.Walk
import Derived.Shelf.Abstract
import Derived.Deep.LoopGhost
import Derived.Deep.Draws
namespace Go.Proofs.YtpkfdjlmflmilaaDoor.Q
open Go.RowKit Go.Proofs.YtpkfdjlmflmilaaDoorW.PrintWords Go.Proofs.YtpkfdjlmflmilaaDoorW.PrintLast Go.Proofs.YtpkfdjlmflmilaaDoorW.PrintMore
set_option linter.unusedVariables false
set_option linter.unusedSimpArgs false

theorem cmp_lt : ∀ a b : List UInt8, decide (Lib.compareBytes a b < 0) = Op.bytesLess a b
  | [], [] => rfl
  | [], _ :: _ => rfl
  | _ :: _, [] => rfl
  | a :: x, b :: y => by
    unfold Lib.compareBytes Op.bytesLess
    by_cases h : a < b
    · simp [h]
    · by_cases h' : b < a
      · have hne : ¬ a = b := fun e => by subst e; exact h h'
        rw [if_neg h, if_pos h']
        simp [h, hne]
      · have e : a = b := by
          have h1 := UInt8.not_lt.1 h
          have h2 := UInt8.not_lt.1 h'
          exact UInt8.le_antisymm h2 h1
        subst e
        rw [if_neg h, if_neg h', cmp_lt x y]
        simp [h]
theorem cmp_eq0 : ∀ a b : List UInt8, (Lib.compareBytes a b == 0) = (a == b)
  | [], [] => rfl
  | [], _ :: _ => rfl
  | _ :: _, [] => rfl
  | a :: x, b :: y => by
    unfold Lib.compareBytes
    by_cases h : a < b
    · have hne : ¬ a = b := fun e => by subst e; exact UInt8.lt_irrefl a h
      rw [if_pos h]
      simp [hne]
    · by_cases h' : b < a
      · have hne : ¬ a = b := fun e => by subst e; exact h h'
        rw [if_neg h, if_pos h']
        simp [hne]
      · have e : a = b := by
          have h1 := UInt8.not_lt.1 h
          have h2 := UInt8.not_lt.1 h'
          exact UInt8.le_antisymm h2 h1
        subst e
        rw [if_neg h, if_neg h', cmp_eq0 x y]
        simp

/-- The search, as the text goes. -/
def lbF (l : List S45) (key : ByteArray) : Nat → Nat → Nat → Nat
  | 0, i, _ => i
  | k + 1, i, j => if i < j then (if Op.bytesLess (l.getD ((i + j) / 2) z45).f0.data.toList key.data.toList = true then lbF l key k ((i + j) / 2 + 1) j else lbF l key k i ((i + j) / 2)) else i
def lbN (l : List S45) (key : ByteArray) : Nat := lbF l key l.length 0 l.length
def fdB (l : List S45) (key : ByteArray) : Bool := decide (lbN l key < l.length) && ((l.getD (lbN l key) z45).f0.data.toList == key.data.toList)
theorem lbF_stop (l : List S45) (key : ByteArray) (k i j : Nat) (h : ¬ i < j) : lbF l key k i j = i := by
  cases k with
  | zero => rfl
  | succ k => simp [lbF, h]
theorem lbF_le (l : List S45) (key : ByteArray) : ∀ k i j, i ≤ j → lbF l key k i j ≤ j
  | 0, i, j, h => h
  | k + 1, i, j, h => by
    unfold lbF
    by_cases hlt : i < j
    · rw [if_pos hlt]
      split
      · exact lbF_le l key k _ _ (by omega)
      · exact Nat.le_trans (lbF_le l key k _ _ (by omega)) (by omega)
    · rw [if_neg hlt]; exact h

theorem half_wrap (i j h : Nat) (hi : i ≤ 9223372036854775807) (hj : j ≤ 9223372036854775807) (hh : (i + j) / 2 = h) : wrap64 (IntKind.u64.wrap (wrap64 ((i : Int) + (j : Int))) / 2) = (h : Int) := by
  rw [IntKind.wrap_u64]
  unfold wrap64
  omega

set_option maxHeartbeats 1000000 in
theorem pairAt1 (x : S45) (key : ByteArray) (W : World) : Calls Tryd.prog 68 #[.agg #[.string x.f0, .string x.f1], .string key] W fun e w' =>
    e = .returned (.int .i64 (Lib.compareBytes x.f0.data.toList key.data.toList)) ∧ Below W.heap.size W w' := by
  generalize x.f0 = s0
  generalize x.f1 = s1
  go_enter Tryd.func68, Tryd.ntmps68
  go_wp2_with (go_at_call 69; refine (Tryd.strings_Compare _ _ _).mono ?_; rintro e w' ⟨rfl, rfl⟩)
  go_ret
  exact ⟨rfl, (Below.refl _ _).alloc (Nat.le_refl _) _⟩

set_option maxHeartbeats 4000000 in
set_option maxRecDepth 100000 in
theorem search_calls (A0 : Option Addr) (c0 : Nat) (l0 : List S45) (a1 : ByteArray) (w : World) (hr0 : Kd.C k45 w A0 l0.length l0) :
    Calls Tryd.prog 67 #[.slice A0 l0.length c0, .string a1, .func (.func 68) #[] #[]] w fun e w' =>
      e = .returned (.tuple #[.int .i64 (lbN l0 a1 : Nat), .bool (fdB l0 a1)]) ∧ Below w.heap.size w w' := by
  have eg := enters_of Tryd.func68 (by kernel_rfl) rfl
  have hbig := hr0.2.1
  have HR := Aside0.mk hr0
  clear hr0
  have HB0 := Aside0.mk (Below.refl w.heap.size w)
  have hu := Tryd.underlying45
  have HF := Aside0.mk (show lbF l0 a1 l0.length 0 l0.length = lbN l0 a1 from rfl)
  have HLE := Aside0.mk (lbF_le l0 a1 l0.length 0 l0.length (Nat.zero_le _))
  have HFD := Aside0.mk (show fdB l0 a1 = (decide (lbN l0 a1 < l0.length) && ((l0.getD (lbN l0 a1) z45).f0.data.toList == a1.data.toList)) from rfl)
  generalize fdB l0 a1 = fd at HFD ⊢
  generalize lbN l0 a1 = res at HF HFD ⊢
  generalize hn : l0.length = n at hbig HR HF HLE HFD ⊢
  have HN := Aside0.mk hn
  clear hn
  go_enter Tryd.func67, Tryd.ntmps67
  go_wp2
  go_loopg [9, 10] n (fun gg s9 s10 wr => ∃ i j : Nat, i ≤ j ∧ j ≤ n ∧ j - i ≤ gg ∧ s9 = .int .i64 i ∧ s10 = .int .i64 j ∧ Aside0 (Below w.heap.size w wr) ∧ Aside0 (∃ f, j - i ≤ f ∧ lbF l0 a1 f i j = res))
  case atStart => exact ⟨0, n, Nat.zero_le _, Nat.le_refl _, by omega, rfl, rfl, HB0, ⟨n, by omega, HF.out⟩⟩
  case round =>
    obtain ⟨i, j, hij, hjn, hg, rfl, rfl, HB, HI⟩ := hrel
    by_cases hlt : i < j
    · have hltz : (i : Int) < (j : Int) := by omega
      obtain ⟨h, hh⟩ : ∃ h : Nat, (i + j) / 2 = h := ⟨_, rfl⟩
      have hih : i ≤ h := by omega
      have hhj : h < j := by omega
      obtain ⟨ad, hA, hx0, hx1⟩ := at_T45 HR.out (h : Int) (by omega) (by omega)
      subst hA
      simp only [Int.toNat_natCast, rd_T45] at hx0 hx1
      replace hx0 := (HB.out.cell (World.block_lt_of_cell? w _ hx0)).trans hx0
      replace hx1 := (HB.out.cell (World.block_lt_of_cell? w _ hx1)).trans hx1
      have hcall := pairAt1 (l0.getD h z45) a1
      have hc := cmp_lt (l0.getD h z45).f0.data.toList a1.data.toList
      have hstep : ∀ f, lbF l0 a1 (f + 1) i j = if Op.bytesLess (l0.getD h z45).f0.data.toList a1.data.toList = true then lbF l0 a1 f (h + 1) j else lbF l0 a1 f i h := fun f => by
        rw [lbF, if_pos hlt, hh]
      have HS := Aside0.mk hstep
      clear hstep
      generalize Op.bytesLess (l0.getD h z45).f0.data.toList a1.data.toList = b at hc HS
      generalize Lib.compareBytes (l0.getD h z45).f0.data.toList a1.data.toList = cmp at hc hcall
      generalize (l0.getD h z45).f0 = s0 at hx0 hcall
      generalize (l0.getD h z45).f1 = s1 at hx1 hcall
      have e1 : wrap64 (IntKind.u64.wrap (wrap64 ((i : Int) + (j : Int))) / 2) = (h : Int) := half_wrap i j h (by omega) (by omega) hh
      cases b with
      | true =>
        have hcm : decide (cmp < 0) = true := hc
        clear hc hh
        go_wp2_with (go_at_call 68; refine (hcall _).mono ?_; rintro e w' ⟨rfl, hb⟩)
        go_roundg (j - (h + 1))
        case measure => omega
        case rel =>
          refine ⟨h + 1, j, by omega, by omega, by omega, by go_num, by go_num, ⟨HB.out.trans (hb.mono HB.out.size)⟩, ?_⟩
          obtain ⟨f, hf, e⟩ := HI.out
          obtain ⟨f, rfl⟩ : ∃ m, f = m + 1 := ⟨f - 1, by omega⟩
          refine ⟨f, by omega, ?_⟩
          rw [HS.out f] at e
          simpa using e
      | false =>
        have hcm : decide (cmp < 0) = false := hc
        clear hc hh
        go_wp2_with (go_at_call 68; refine (hcall _).mono ?_; rintro e w' ⟨rfl, hb⟩)
        go_roundg (h - i)
        case measure => omega
        case rel =>
          refine ⟨i, h, by omega, by omega, by omega, by go_num, by go_num, ⟨HB.out.trans (hb.mono HB.out.size)⟩, ?_⟩
          obtain ⟨f, hf, e⟩ := HI.out
          obtain ⟨f, rfl⟩ : ∃ m, f = m + 1 := ⟨f - 1, by omega⟩
          refine ⟨f, by omega, ?_⟩
          rw [HS.out f] at e
          simpa using e
    · have : i = j := by omega
      subst this
      have hres : res = i := by
        obtain ⟨f, _, e⟩ := HI.out
        rw [lbF_stop l0 a1 f i i hlt] at e
        exact e.symm
      clear HI HF HLE
      subst hres
      by_cases hin : res < n
      · have hinz : (res : Int) < (n : Int) := by omega
        obtain ⟨ad, hA, hx0, hx1⟩ := at_T45 HR.out (res : Int) (by omega) (by omega)
        subst hA
        simp only [Int.toNat_natCast, rd_T45] at hx0 hx1
        replace hx0 := (HB.out.cell (World.block_lt_of_cell? w _ hx0)).trans hx0
        replace hx1 := (HB.out.cell (World.block_lt_of_cell? w _ hx1)).trans hx1
        have hcall := pairAt1 (l0.getD res z45) a1
        have hc := cmp_eq0 (l0.getD res z45).f0.data.toList a1.data.toList
        have hfd : fd = ((l0.getD res z45).f0.data.toList == a1.data.toList) := by rw [HFD.out, decide_eq_true hin, Bool.true_and]
        rw [← hc] at hfd
        clear hc HFD
        generalize Lib.compareBytes (l0.getD res z45).f0.data.toList a1.data.toList = cmp at hfd hcall
        generalize (l0.getD res z45).f0 = s0 at hx0 hcall
        generalize (l0.getD res z45).f1 = s1 at hx1 hcall
        have HFD := Aside0.mk hfd
        clear hfd
        go_wp2_with (go_at_call 68; refine (hcall _).mono ?_; rintro e w' ⟨rfl, hb⟩)
        go_ret2
        exact ⟨by rw [HFD.out]; rfl, HB.out.trans (hb.mono HB.out.size)⟩
      · have hinz : ¬ (res : Int) < (n : Int) := by omega
        have hfd : fd = false := by rw [HFD.out, decide_eq_false hin]; rfl
        clear HFD
        subst hfd
        go_wp2
        go_ret2
        exact ⟨rfl, HB.out⟩

-- EXT loop.example/g00298/impl.pairAt impl_pairAt 1 0
def impl_pairAt.f (l0 : List S45) (a1 : ByteArray) : Option (Int × Bool) := some ((lbN l0 a1 : Nat), fdB l0 a1)
set_option maxHeartbeats 1000000 in
theorem impl_pairAt.calls (A0 : Option Addr) (c0 : Nat) (l0 : List S45) (a1 : ByteArray) (r1 : Int) (r2 : Bool) (w : World) (hr0 : Kd.C k45 w A0 l0.length l0) (hc0 : l0.length ≤ c0) (h : impl_pairAt.f l0 a1 = some (r1, r2)) :
    Calls Tryd.prog 58 #[.slice A0 l0.length c0, .string a1] w fun e w' => e = .returned (.tuple #[.int .i64 r1, .bool r2]) ∧ Below w.heap.size w w' := by
  have HC := search_calls A0 c0 l0 a1 w hr0
  injection h with h
  injection h with h1 h2
  rw [h1, h2] at HC
  clear h1 h2 hr0 hc0
  go_enter Tryd.func58, Tryd.ntmps58
  go_wp2_with (go_at_call 67; refine HC.mono ?_; rintro e w' ⟨rfl, hb⟩)
  go_ret2
  exact ⟨rfl, hb⟩
end Go.Proofs.YtpkfdjlmflmilaaDoor.Q
