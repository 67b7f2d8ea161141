/- The contracts of slices.IndexFunc and slices.ContainsFunc over a list of texts, at a predicate that captures nothing and reads only; and of the functions of the program that call them. -/
import Derived.Test.YtjmfkhjhhohnkaaDoorProg
import Derived.Test.YtjmfkhjhhohnkaaDoorWMore
import Derived.WalkKit
import Derived.Lib.Walk
import Derived.Shelf.Abstract
import Derived.Deep.LoopGhost
import Derived.Deep.Draws
namespace Go.Proofs.YtjmfkhjhhohnkaaDoor.Q
open Go.RowKit Go.Proofs.YtjmfkhjhhohnkaaDoorW.PrintWords Go.Proofs.YtjmfkhjhhohnkaaDoorW.PrintLast Go.Proofs.YtjmfkhjhhohnkaaDoorW.PrintMore
set_option linter.unusedVariables false
set_option linter.unusedSimpArgs false

def idxB (p : ByteArray → Bool) (l : List ByteArray) : Int := if l.any p then (l.findIdx p : Int) else -1
theorem idxB_hit (p : ByteArray → Bool) (l : List ByteArray) (k : Nat) (hk : k < l.length) (h : p (l.getD k ByteArray.empty) = true) (hb : ∀ j, j < k → p (l.getD j ByteArray.empty) = false) : idxB p l = (k : Int) := by
  have e : ∀ j, (hj : j < l.length) → l.getD j ByteArray.empty = l[j] := fun j hj => by simp [List.getD, List.getElem?_eq_getElem hj]
  have h1 : p l[k] = true := by rw [← e k hk]; exact h
  have ha : l.any p = true := List.any_eq_true.2 ⟨l[k], List.getElem_mem hk, h1⟩
  unfold idxB
  rw [if_pos ha]
  congr 1
  rw [List.findIdx_eq hk]
  exact ⟨h1, fun j hj => by have := hb j hj; rw [e j (by omega)] at this; simpa using this⟩
theorem idxB_miss (p : ByteArray → Bool) (l : List ByteArray) (hb : ∀ j, j < l.length → p (l.getD j ByteArray.empty) = false) : idxB p l = -1 := by
  have ha : ¬ l.any p = true := by
    intro ha
    obtain ⟨x, hx, hp⟩ := List.any_eq_true.1 ha
    obtain ⟨j, hj, rfl⟩ := List.getElem_of_mem hx
    have := hb j hj
    simp [List.getD, List.getElem?_eq_getElem hj, hp] at this
  unfold idxB
  rw [if_neg ha]
theorem idxB_nonneg (p : ByteArray → Bool) (l : List ByteArray) : decide (0 ≤ idxB p l) = l.any p := by
  unfold idxB
  cases h : l.any p <;> simp

set_option maxHeartbeats 2000000 in
theorem indexFunc_calls (g : Nat) (p : ByteArray → Bool) (eg : ∀ args w, (callFunc g args).run Tryd.prog w = .ok (.enter g args) w)
    (hp : ∀ (x : ByteArray) (W : World), Calls Tryd.prog g #[.string x] W fun e w' => e = .returned (.bool (p x)) ∧ W = w')
    (A0 : Option Addr) (c0 : Nat) (l0 : List ByteArray) (w : World) (hr0 : Kd.C Kd.string w A0 l0.length l0) :
    Calls Tryd.prog 13 #[.slice A0 l0.length c0, .func (.func g) #[] #[]] w fun e w' => e = .returned (.int .i64 (idxB p l0)) ∧ w = w' := by
  have hr := (Kd.reads_of_C (d := ByteArray.empty) (h1 := fun _ => rfl) hr0)
  clear hr0
  have hbig := hr.2.1
  have HR := Aside0.mk hr
  clear hr
  generalize hn : l0.length = n at hbig HR ⊢
  have HN := Aside0.mk hn
  clear hn
  have HP := Aside0.mk hp
  clear hp
  go_enter Tryd.func13, Tryd.ntmps13
  go_wp2
  go_loopg [5, 8] n (fun gg _ s8 wr => ∃ kk : Nat, kk ≤ n ∧ n - kk ≤ gg ∧ s8 = .int .i64 kk ∧ w = wr ∧ Aside0 (∀ j, j < kk → p (l0.getD j ByteArray.empty) = false))
  case atStart => exact ⟨0, Nat.zero_le _, by omega, rfl, rfl, ⟨fun j hj => absurd hj (Nat.not_lt_zero _)⟩⟩
  case round =>
    obtain ⟨kk, hkk, hg, rfl, rfl, B⟩ := hrel
    by_cases hlt : kk < n
    · have hltz : (kk : Int) < (n : Int) := by omega
      obtain ⟨ad, hA, hcell⟩ := HR.out.at_ (kk : Int) (by omega) hltz
      subst hA
      simp only [Int.toNat_natCast] at hcell
      have hcall := HP.out (rdOf ByteArray.empty l0 kk)
      have hrd : rdOf ByteArray.empty l0 (kk : Int) = l0.getD kk ByteArray.empty := by simp [rdOf]
      generalize rdOf ByteArray.empty l0 (kk : Int) = y at hcell hcall hrd
      have Hy := Aside0.mk hrd
      clear hrd
      cases hq : p y with
      | true =>
        rw [hq] at hcall
        have HQ := Aside0.mk hq
        clear hq
        go_wp2_with (go_at_fn g; refine (hcall _).mono ?_; rintro e w' ⟨rfl, rfl⟩)
        go_ret
        refine ⟨?_, rfl⟩
        have : idxB p l0 = (kk : Int) := idxB_hit p l0 kk (by rw [HN.out]; exact hlt) (by rw [← Hy.out]; exact HQ.out) B.out
        rw [this]; rfl
      | false =>
        rw [hq] at hcall
        have HQ := Aside0.mk hq
        clear hq
        go_wp2_with (go_at_fn g; refine (hcall _).mono ?_; rintro e w' ⟨rfl, rfl⟩)
        go_roundg (n - (kk + 1))
        case measure => omega
        case rel =>
          refine ⟨kk + 1, by omega, by omega, by go_num, rfl, ⟨fun j hj => ?_⟩⟩
          by_cases e : j = kk
          · subst e
            rw [← Hy.out]; exact HQ.out
          · exact B.out j (by omega)
    · have hltz : ¬ (kk : Int) < (n : Int) := by omega
      have hk : kk = n := by omega
      subst hk
      go_wp2
      go_ret
      refine ⟨?_, rfl⟩
      have : idxB p l0 = -1 := idxB_miss p l0 (fun j hj => B.out j (by have := HN.out; omega))
      rw [this]; rfl

set_option maxHeartbeats 1000000 in
theorem containsFunc_calls (g : Nat) (p : ByteArray → Bool) (eg : ∀ args w, (callFunc g args).run Tryd.prog w = .ok (.enter g args) w)
    (hp : ∀ (x : ByteArray) (W : World), Calls Tryd.prog g #[.string x] W fun e w' => e = .returned (.bool (p x)) ∧ W = w')
    (A0 : Option Addr) (c0 : Nat) (l0 : List ByteArray) (w : World) (hr0 : Kd.C Kd.string w A0 l0.length l0) :
    Calls Tryd.prog 9 #[.slice A0 l0.length c0, .func (.func g) #[] #[]] w fun e w' => e = .returned (.bool (l0.any p)) ∧ w = w' := by
  have HC := (indexFunc_calls g p eg hp A0 c0 l0 w hr0)
  have HX := Aside0.mk (idxB_nonneg p l0)
  generalize l0.any p = b at HX ⊢
  generalize idxB p l0 = i at HX HC
  clear hp hr0
  go_enter Tryd.func9, Tryd.ntmps9
  go_wp2_with (go_at_call 13; refine HC.mono ?_; rintro e w' ⟨rfl, rfl⟩)
  go_ret
  exact ⟨by rw [HX.out]; rfl, rfl⟩

theorem isText1 (x : ByteArray) (W : World) : Calls Tryd.prog 10 #[.string x] W fun e w' => e = .returned (.bool (decide (65536 < (x.size : Int)))) ∧ W = w' := by
  go_enter Tryd.func10, Tryd.ntmps10
  go_wp2
  go_ret
  exact ⟨rfl, rfl⟩
-- EXT loop.example/g00298/impl.isText impl_isText 0 0
def impl_isText.f (l0 : List ByteArray) : Option Bool := some (!(l0.any fun x => decide (65536 < (x.size : Int))))
theorem impl_isText.calls (A0 : Option Addr) (c0 : Nat) (l0 : List ByteArray) (r : Bool) (w : World) (hr0 : Kd.C Kd.string w A0 l0.length l0) (hc0 : l0.length ≤ c0) (h : impl_isText.f l0 = some r) :
    Calls Tryd.prog 7 #[.slice A0 l0.length c0] w fun e w' => e = .returned (.bool r) ∧ Drawn0 w w' := by
  have HC := containsFunc_calls 10 (fun x => decide (65536 < (x.size : Int))) (enters_of Tryd.func10 (by kernel_rfl) rfl) isText1 A0 c0 l0 w hr0
  injection h with h
  generalize l0.any (fun x => decide (65536 < (x.size : Int))) = b at HC h
  subst h
  clear hr0 hc0
  go_enter Tryd.func7, Tryd.ntmps7
  go_wp2_with (go_at_call 9; refine HC.mono ?_; rintro e w' ⟨rfl, rfl⟩)
  go_ret
  exact ⟨rfl, Drawn0.refl _⟩
-- EXT loop.example/g00298/impl.isHash impl_isHash 0 0
end Go.Proofs.YtjmfkhjhhohnkaaDoor.Q
