/- The contract of spec.l02Fields. -/
import Derived.Test.YtfgnhghadghdkaaGStr
namespace Go.Proofs.Ytfgnhghadghdkaa.G
open Go.RowKit Go.Proofs.YtfgnhghadghdkaaW.PrintWords Go.Proofs.YtfgnhghadghdkaaW.PrintLast Go.Proofs.YtfgnhghadghdkaaW.PrintMore
set_option linter.unusedVariables false
set_option linter.unusedSimpArgs false
def encF (t : ByteArray) : List Int := [(t.size : Int) / 256 % 256, (t.size : Int) % 256] ++ bytesOf t
def fieldsL (l : List ByteArray) : List Int := [(l.length : Int) % 256] ++ l.flatMap encF
theorem R_lit1 (W : World) (b : Nat) (x0 : Int) (hb : b ≤ W.heap.size) : Kd.R (Kd.int .u8) 5 (W.alloc (.cells #[.int .u8 x0] 5)) b (fun _ => True) (.slice (some ⟨W.heap.size, 0, none⟩) 1 1) [x0] :=
  ⟨fun _ _ => trivial, nums .u8 [x0], by
    have h := World.ownsRow_lit (base := b) (e := 5) (size := 1) W #[.int .u8 x0] 1 hb (by simp [maxLen]) rfl
    exact h, nums_reps _ _ _ _⟩
theorem take_enc (l : List ByteArray) (i : Nat) (h : i < l.length) : (l.take (i + 1)).flatMap encF = (l.take i).flatMap encF ++ encF (l.getD i ByteArray.empty) := by
  rw [List.take_succ_eq_append_getElem h, List.flatMap_append]
  simp [List.getD, List.getElem?_eq_getElem h]
theorem enc_len (l : List ByteArray) (i : Nat) (h : i < l.length) : ((l.take i).flatMap encF).length + 2 + (l.getD i ByteArray.empty).size ≤ (l.flatMap encF).length := by
  have h1 := take_enc l i h
  have h2 : l.flatMap encF = (l.take (i + 1)).flatMap encF ++ (l.drop (i + 1)).flatMap encF := by rw [← List.flatMap_append, List.take_append_drop]
  rw [h2, h1]
  have h3 : (encF (l.getD i ByteArray.empty)).length = 2 + (l.getD i ByteArray.empty).size := by
    unfold encF
    rw [List.length_append, bytesOf_length]; rfl
  rw [List.length_append, List.length_append, h3]
  omega
-- EXT loop.example/g00298/spec.l02Fields spec_l02Fields 1 0
def spec_l02Fields.f (l0 : List ByteArray) : Option (List Int) := if (fieldsL l0).length ≤ 1073741824 then some (fieldsL l0) else none
set_option maxHeartbeats 8000000 in
set_option maxRecDepth 100000 in
theorem spec_l02Fields.calls (A0 : Option Addr) (c0 : Nat) (l0 : List ByteArray) (r : List Int) (w : World) (hr0 : Kd.C Kd.string w A0 l0.length l0) (hc0 : l0.length ≤ c0) (h : spec_l02Fields.f l0 = some r) :
    Calls Try.prog 48 #[.slice A0 l0.length c0] w fun e w' => ∃ v0_ : Value, e = .returned (v0_) ∧ Kd.R (Kd.int .u8) 5 w' w.heap.size (fun _ => True) v0_ r ∧ Below w.heap.size w w' := by
  unfold spec_l02Fields.f at h
  by_cases hlen : (fieldsL l0).length ≤ 1073741824
  · rw [if_pos hlen] at h
    injection h with h
    subst h
    have hlen2 : 1 + (l0.flatMap encF).length ≤ 1073741824 := by
      have : (fieldsL l0).length = 1 + (l0.flatMap encF).length := by unfold fieldsL; rw [List.length_append]; rfl
      omega
    clear hlen
    have HR0 := Aside0.mk hr0
    have HL := Aside0.mk (fun i hi => enc_len l0 i hi)
    have HT := Aside0.mk (fun i hi => take_enc l0 i hi)
    have HW : Aside0 ((l0.take l0.length).flatMap encF = l0.flatMap encF) := ⟨by rw [List.take_length]⟩
    have hbig := hr0.2.1
    clear hr0
    unfold fieldsL
    generalize hn : l0.length = n at *
    have HN := Aside0.mk hn
    clear hn
    go_enter Try.func48, Try.ntmps48
    go_wp2
    go_loopg [3, 4] n (fun gg s3 s4 wr => ∃ i : Nat, i ≤ n ∧ n - i ≤ gg ∧ s4 = .int .i64 i ∧ Aside0 (Kd.R (Kd.int .u8) 5 wr w.heap.size (fun _ => True) s3 ([(n : Int) % 256] ++ (l0.take i).flatMap encF)) ∧ Aside0 (Below w.heap.size w wr))
    case atStart => exact ⟨0, Nat.zero_le _, by omega, rfl, ⟨by first | exact R_lit1 w _ _ (Nat.le_refl _) | exact Kd.R_drew (R_lit1 w _ _ (Nat.le_refl _)) | exact Kd.R_drewN (R_lit1 w _ _ (Nat.le_refl _)) _⟩, ⟨by first | exact below_alloc (Below.refl _ w) _ | exact pw_below_drewN (below_alloc (Below.refl _ w) _) _⟩⟩
    case round =>
      obtain ⟨i, hin, hgg, rfl, HR, HB⟩ := hrel
      by_cases hlt : i < n
      · have h1 : (i : Int) < (n : Int) := by omega
        obtain ⟨ad, hA, hx0⟩ := Kd.at_string (i := (i : Int)) (show Kd.C Kd.string w A0 l0.length l0 by rw [HN.out]; exact HR0.out) (by omega) (by rw [HN.out]; exact h1)
        subst hA
        have hrd : rdOf ByteArray.empty l0 (i : Int) = l0.getD i ByteArray.empty := by simp [rdOf]
        rw [hrd] at hx0
        simp only [Int.toNat_natCast] at hx0
        have hx1 := (HB.out.cell (World.block_lt_of_cell? w _ hx0)).trans hx0
        have HX := Aside0.mk hx0
        have hsz := HL.out i hlt
        have htk := HT.out i hlt
        have HTK := Aside0.mk htk
        have HSZ := Aside0.mk hsz
        clear hx0 hrd hsz htk
        generalize hy : l0.getD i ByteArray.empty = y at *
        clear hy
        have HXL : Aside0 (([(n : Int) % 256] ++ (l0.take i).flatMap encF).length + 2 + y.size ≤ 1073741824) := ⟨by rw [List.length_append]; have := HSZ.out; simp only [List.length_cons, List.length_nil]; omega⟩
        have HXE : Aside0 ([(n : Int) % 256] ++ (l0.take (i + 1)).flatMap encF = ([(n : Int) % 256] ++ (l0.take i).flatMap encF) ++ [(y.size : Int) / 256 % 256, (y.size : Int) % 256] ++ bytesOf y) := ⟨by rw [HTK.out]; simp only [encF, List.append_assoc]⟩
        generalize [(n : Int) % 256] ++ (l0.take i).flatMap encF = xs at HR HXL HXE
        obtain ⟨A1, c1, rfl, hl1, _⟩ := Kd.R_reads HR.out
        have hys : y.size ≤ 1073741824 := by have := HXL.out; omega
        have e0 : IntKind.i64.wrap ((y.size : Int) / 256) = (y.size : Int) / 256 := by rw [IntKind.wrap_i64]; omega
        have hxa : ∀ c, (wr.alloc c).cell? (ad.add i) = some (.string y) := fun c => ((below_alloc HB.out c).cell (World.block_lt_of_cell? w _ HX.out)).trans HX.out
        clear HTK HSZ hl1
        go_wp2
        go_region_law (first
          | (refine step_bytes (w0 := w) (.tmp 15) (.tmp 29) (.slice A1 xs.length c1) xs [_, _] (some ⟨wr.drew.heap.size, 0, none⟩) 2 rfl rfl (by simp [Act.eval, Act.put]) (by simp [Act.eval, Act.put]) (Kd.R_alloc (Kd.R_drew HR.out) _) (C_two wr.drew _ _) (below_alloc (below_drew HB.out) _) (by have := HXL.out; simp; omega) ?_; intro v1 w1 hR1 hb1 hg1; have hx2 : w1.cell? (ad.add i) = some (.string y) := (hb1.cell (World.block_lt_of_cell? w _ HX.out)).trans HX.out; have HR1 := Aside0.mk hR1; have HB1 := Aside0.mk hb1; clear hR1 hb1 hg1)
          | (refine step_bytes (w0 := w) (.tmp 15) (.tmp 29) (.slice A1 xs.length c1) xs [_, _] (some ⟨wr.heap.size, 0, none⟩) 2 rfl rfl (by simp [Act.eval, Act.put]) (by simp [Act.eval, Act.put]) (Kd.R_alloc HR.out _) (C_two wr _ _) (below_alloc HB.out _) (by have := HXL.out; simp; omega) ?_; intro v1 w1 hR1 hb1 hg1; have hx2 : w1.cell? (ad.add i) = some (.string y) := (hb1.cell (World.block_lt_of_cell? w _ HX.out)).trans HX.out; have HR1 := Aside0.mk hR1; have HB1 := Aside0.mk hb1; clear hR1 hb1 hg1)
          | (refine step_str (w0 := w) (.tmp 30) (.tmp 34) v1 _ y rfl rfl (by simp [Act.eval, Act.put]) (by simp [Act.eval, Act.put]) HR1.out HB1.out (by have := HXL.out; simp; omega) ?_; intro v2 w2 hR2 hb2 hg2; have HR2 := Aside0.mk hR2; have HB2 := Aside0.mk hb2; clear hR2 hb2 hg2))
        all_goals
          go_wp2
          go_roundg (n - (i + 1))
          case measure => omega
          case rel => exact ⟨i + 1, by omega, by omega, by go_num, ⟨by rw [HXE.out]; first | exact HR2.out | (have z := HR2.out; simp only [IntKind.wrap_u8] at z; exact z)⟩, ⟨HB2.out⟩⟩
      · obtain rfl : i = n := by omega
        have h1 : ¬ ((i : Int) < (i : Int)) := by omega
        go_wp2
        go_ret
        exact ⟨_, rfl, by rw [HW.out] at HR; exact HR.out, HB.out⟩
  · rw [if_neg hlen] at h
    cases h
end Go.Proofs.Ytfgnhghadghdkaa.G
