/- The contract of spec.l04Check: the check of a key's proof. -/
import Derived.Test.YtjmfkhjhhohnkaaQ1
import Derived.Test.YtjmfkhjhhohnkaaCk
import Derived.Test.YtjmfkhjhhohnkaaE23
namespace Go.Proofs.Ytjmfkhjhhohnkaa.Q
open Go.RowKit Go.Proofs.YtjmfkhjhhohnkaaW.PrintWords Go.Proofs.YtjmfkhjhhohnkaaW.PrintLast Go.Proofs.YtjmfkhjhhohnkaaW.PrintMore
open Go.Proofs.Ytjmfkhjhhohnkaa.T (ssha sha)
set_option linter.unusedVariables false
set_option linter.unusedSimpArgs false
def kpB (w : World) (g : Nat) (found : Bool) (value other : ByteArray) (sl : Value) : Prop := w.heap[g]? = some (.cells #[.bool found, .string value, .string other, sl] 67 (0, 0))
theorem kpB_cells {w : World} {g : Nat} {found : Bool} {value other : ByteArray} {sl : Value} (h : kpB w g found value other sl) :
    w.cell? ⟨g, 0, none⟩ = some (.bool found) ∧ w.cell? ⟨g, 1, none⟩ = some (.string value) ∧ w.cell? ⟨g, 2, none⟩ = some (.string other) ∧ w.cell? ⟨g, 3, none⟩ = some sl :=
  ⟨(blk_cell h 0).trans rfl, (blk_cell h 1).trans rfl, (blk_cell h 2).trans rfl, (blk_cell h 3).trans rfl⟩
theorem kpB_below {w w' : World} {g : Nat} {found : Bool} {value other : ByteArray} {sl : Value} (h : kpB w g found value other sl) (hb : Below w.heap.size w w') : kpB w' g found value other sl := blk_below h hb
theorem ck_empty : ssha [101, 109, 112, 116, 121] = sha ⟨#[101, 109, 112, 116, 121]⟩ := by
  rw [← Pure.sha_eq [101, 109, 112, 116, 121] (by intro x hx; simp at hx; omega)]
  rfl
theorem ck_str (a b : ByteArray) : (a.toList == b.toList) = decide (a = b) := by
  rw [Bool.eq_iff_iff]
  simp only [beq_iff_eq, decide_eq_true_eq]
  exact ⟨fun e => Go.WideShapes.bytes_inj (by rw [← Lib.toList_data, ← Lib.toList_data]; exact e), fun e => by rw [e]⟩
theorem ck_nil (a : ByteArray) : (a.toList != ([] : List UInt8)) = !decide (a.size = 0) := by
  have h := Lib.toList_data a
  have hs : a.data.toList.length = a.size := by rw [Array.length_toList]; rfl
  rw [Bool.eq_iff_iff]
  simp only [bne_iff_ne, ne_eq, Bool.not_eq_true', decide_eq_false_iff_not]
  rw [h]
  constructor
  · intro e e0
    exact e (List.eq_nil_of_length_eq_zero (by omega))
  · intro e e0
    rw [e0] at hs
    simp at hs
    omega
theorem node_calls (a b : ByteArray) (ha : a.size ≤ 1000000000) (hb : b.size ≤ 1000000000) (W : World) : Calls Try.prog 86 #[.string a, .string b] W fun e w' => e = .returned (.string (nodeT a b)) ∧ Below W.heap.size W w' :=
  spec_l04Node.calls a b _ W (by unfold spec_l04Node.f nodeT; rw [if_pos ⟨ha, hb⟩])
theorem bit_calls (s : ByteArray) (i : Nat) (hi : i < 8 * s.size) (hs : s.size ≤ 65536) (W : World) : Calls Try.prog 85 #[.string s, .int .i64 (i : Int)] W fun e w' => e = .returned (.int .i64 (bitI s i)) ∧ Below W.heap.size W w' :=
  (spec_l04Bit.calls s i _ W (spec_bitI s i hi hs)).mono fun e w' ⟨he, hd⟩ => ⟨he, hd.below⟩
-- EXT loop.example/g00298/spec.l04Check spec_l04Check 1 0
def spec_l04Check.f (root key : ByteArray) (found : Bool) (value other : ByteArray) (l : List ByteArray) : Option Bool := if checkOK key found value other l then some (checkT root key found value other l) else none
set_option maxHeartbeats 16000000 in
set_option maxRecDepth 100000 in
theorem spec_l04Check.walk (root key : ByteArray) (found : Bool) (value other : ByteArray) (A : Option Addr) (c : Nat) (l : List ByteArray) (w : World) (hC : Kd.C Kd.string w A l.length l) (hok : checkOK key found value other l) :
    Calls Try.prog 61 #[.string root, .string key, .agg #[.bool found, .string value, .string other, .slice A l.length c]] w fun e w' => e = .returned (.bool (checkT root key found value other l)) ∧ Below w.heap.size w w' := by
  obtain ⟨hk, hv, ho, hl, hs⟩ := hok
  have hu := Try.underlying67
  have HP := Aside0.mk (fun W => spec_l04Path.calls key (pathT key) W (by unfold spec_l04Path.f pathT; rw [if_pos (by omega)]))
  have HE := Aside0.mk (fun W => spec_l04Empty.calls (sha ⟨#[101, 109, 112, 116, 121]⟩) W (by unfold spec_l04Empty.f; rw [ck_empty]))
  have hps := pathT_size key
  have HLF := Aside0.mk (fun W => spec_l04Leaf.calls (pathT key) value _ W (by unfold spec_l04Leaf.f; rw [if_pos (show (pathT key).size ≤ 1000000000 ∧ value.size ≤ 1000000000 by omega)]))
  have hR : checkT root key found value other l = (otherT (pathT key) found other l.length && decide (upT (pathT key) l l.length (startT (pathT key) found value other) = root)) := rfl
  generalize hrr : checkT root key found value other l = RR at hR ⊢
  have HRR := Aside0.mk hR
  clear hR hrr
  have HPS := Aside0.mk hps
  generalize pathT key = path at *
  have HS := Aside0.mk hs
  have HO := Aside0.mk ho
  have HV := Aside0.mk hv
  have hr := (Kd.reads_of_C (d := ByteArray.empty) (h1 := fun _ => rfl) hC)
  have hbig := hr.2.1
  have HR := Aside0.mk hr
  obtain ⟨n, hn⟩ : ∃ n, l.length = n := ⟨_, rfl⟩
  have HN := Aside0.mk hn
  rw [hn] at hbig hl HR HRR ⊢
  have HL := Aside0.mk hl
  clear hr hC hn hs hk hv ho hps
  go_enter Try.func61, Try.ntmps61
  go_upto_block 0 with (first
    | ((with_reducible refine gate_dst (N := 5) rfl ?_); refine box_event ?hg (N := 5) ?hd (cs := #[.bool found, .string value, .string other, .slice A n c]) (t := 67) ?hr ?_; (case hd => rfl); (case hg => rfl); (case hr => first | (go_simp; done) | (go_simp; rfl)); intro g hg w1 hbox hb; have BK := Aside0.mk (show kpB w1 g found value other (.slice A n c) from hbox); have HB := Aside0.mk hb; clear hb hbox hg)
    | (go_at_call 39; refine (HP.out _).mono ?_; rintro e w2 ⟨rfl, hb⟩; have BK2 := Aside0.mk (kpB_below BK.out hb); have HB2 := Aside0.mk (below_step HB.out hb); clear hb)
    | (go_at_call 83; refine (HE.out _).mono ?_; rintro e w3 ⟨rfl, hb⟩; have BK3 := Aside0.mk (kpB_below BK2.out hb); have HB3 := Aside0.mk (below_step HB2.out hb); clear hb))
  go_cut [8] (fun v8 wc => v8 = .string (startT path found value other) ∧ Aside0 (otherT path found other n = true) ∧ Aside0 (kpB wc g found value other (.slice A n c)) ∧ Aside0 (Below w.heap.size w wc))
  case first =>
    obtain ⟨k0, k1, k2, k3⟩ := kpB_cells BK3.out
    cases found with
    | true =>
      go_wp2_with (go_at_call 84; refine (HLF.out _).mono ?_; rintro e w4 ⟨rfl, hb⟩; have BK4 := Aside0.mk (kpB_below BK3.out hb); have HB4 := Aside0.mk (below_step HB3.out hb); clear hb)
      go_meet
      case rel => exact ⟨rfl, ⟨rfl⟩, BK4, HB4⟩
    | false =>
      have hnil := ck_nil other
      by_cases h0 : other.size = 0
      · rw [decide_eq_true h0] at hnil
        have hnil1 : (other.toList == ([] : List UInt8)) = true := by have := hnil; simpa [bne] using this
        have hst : startT path false value other = sha ⟨#[101, 109, 112, 116, 121]⟩ := by unfold startT; rw [if_neg (by decide), if_pos h0]
        have hot : otherT path false other n = true := by unfold otherT; rw [decide_eq_true h0]; rfl
        have HST := Aside0.mk hst
        have HOT := Aside0.mk hot
        clear hst hot h0
        go_wp2
        go_meet
        case rel => exact ⟨by rw [HST.out], HOT, BK3, HB3⟩
      · rw [decide_eq_false h0] at hnil
        have hnil1 : (other.toList == ([] : List UInt8)) = false := by have := hnil; simpa [bne] using this
        have h64 : other.size = 64 := by rcases HO.out with h | h | h; cases h; exact absurd h h0; exact h
        have hst : startT path false value other = sha (⟨#[108, 101, 97, 102]⟩ ++ other) := by unfold startT; rw [if_neg (by decide), if_neg h0]
        have HST := Aside0.mk hst
        have hot : otherT path false other n = (!(decide (other.extract 0 32 = path)) && sameT other path n) := by unfold otherT; rw [decide_eq_false h0]; rfl
        have HOT := Aside0.mk hot
        have hcs := ck_str (other.extract 0 32) path
        clear hst hot h0
        by_cases he : other.extract 0 32 = path
        · rw [decide_eq_true he] at hcs
          have HHE := Aside0.mk he
          clear he
          go_wp2
          go_ret
          refine ⟨?_, HB3.out⟩
          rw [HRR.out, HOT.out, decide_eq_true HHE.out]
          rfl
        · rw [decide_eq_false he] at hcs
          have HHE := Aside0.mk he
          clear he
          clear HO
          go_wp2
          go_loopg [9] n (fun gg s9 wr => ∃ i : Nat, i ≤ n ∧ n - i ≤ gg ∧ s9 = .int .i64 (i : Int) ∧ Aside0 (sameT other path i = true) ∧ Aside0 (kpB wr g false value other (.slice A n c)) ∧ Aside0 (Below w.heap.size w wr))
          case atStart => exact ⟨0, Nat.zero_le _, by omega, rfl, ⟨rfl⟩, BK3, HB3⟩
          case round =>
            obtain ⟨i, hi, hgg, rfl, HSM, BKr, HBr⟩ := hrel
            obtain ⟨r0, r1, r2, r3⟩ := kpB_cells BKr.out
            by_cases hlt : i < n
            · have hltz : (i : Int) < (n : Int) := by omega
              have HB1 := Aside0.mk (fun W => bit_calls other i (by omega) (by omega) W)
              have HB2' := Aside0.mk (fun W => bit_calls path i (by have := HPS.out; omega) (by have := HPS.out; omega) W)
              have HSS := Aside0.mk (sameT_succ other path i)
              by_cases hbe : bitI other i = bitI path i
              · have hbe1 : (bitI other i == bitI path i) = true := by rw [hbe]; exact beq_self_eq_true _
                have HBE := Aside0.mk hbe1
                clear hbe
                generalize bitI other i = x1 at *
                generalize bitI path i = x2 at *
                go_wp2_with (go_at_call 85; first
                  | (refine (HB1.out _).mono ?_; clear HB1; rintro e w5 ⟨rfl, hb⟩; have BK5 := Aside0.mk (kpB_below BKr.out hb); have HB5 := Aside0.mk (below_step HBr.out hb); clear hb)
                  | (refine (HB2'.out _).mono ?_; clear HB2'; rintro e w6 ⟨rfl, hb⟩; have BK6 := Aside0.mk (kpB_below BK5.out hb); have HB6 := Aside0.mk (below_step HB5.out hb); clear hb))
                go_roundg (n - (i + 1))
                case measure => omega
                case rel => exact ⟨i + 1, by omega, by omega, by go_num, ⟨by rw [HSS.out, HSM.out, HBE.out]; rfl⟩, BK6, HB6⟩
              · have hbe1 : (bitI other i == bitI path i) = false := beq_eq_false_iff_ne.2 hbe
                have HBE := Aside0.mk hbe1
                have HSF := Aside0.mk (sameT_false other path hlt hbe)
                clear hbe
                generalize bitI other i = x1 at *
                generalize bitI path i = x2 at *
                go_wp2_with (go_at_call 85; first
                  | (refine (HB1.out _).mono ?_; clear HB1; rintro e w5 ⟨rfl, hb⟩; have BK5 := Aside0.mk (kpB_below BKr.out hb); have HB5 := Aside0.mk (below_step HBr.out hb); clear hb)
                  | (refine (HB2'.out _).mono ?_; clear HB2'; rintro e w6 ⟨rfl, hb⟩; have BK6 := Aside0.mk (kpB_below BK5.out hb); have HB6 := Aside0.mk (below_step HB5.out hb); clear hb))
                go_ret
                refine ⟨?_, HB6.out⟩
                rw [HRR.out, HOT.out, HSF.out, Bool.and_false, Bool.false_and]
                rfl
            · have hltz : ¬ (i : Int) < (n : Int) := by omega
              obtain rfl : i = n := by omega
              have HZ := Aside0.mk (show (⟨#[108, 101, 97, 102]⟩ ++ other : ByteArray).size = 68 by rw [ByteArray.size_append, h64]; rfl)
              go_wp2_with (first
                | ((with_reducible refine gate_dst (N := 48) rfl ?_); refine conv_event rfl rfl (s := ⟨#[108, 101, 97, 102]⟩ ++ other) (n := 68) HZ.out rfl (by decide) ?_; intro A5 c5 w7 hc5 hC5 hb5; have HC5 := Aside0.mk hC5; have HL5 := Aside0.mk hc5; have BK7 := Aside0.mk (kpB_below BKr.out hb5); have HB7 := Aside0.mk (below_step HBr.out hb5); clear hC5 hc5 hb5)
                | (go_at_call 37; refine (hash_at _ (⟨#[108, 101, 97, 102]⟩ ++ other) 68 HZ.out (by decide) A5 c5 HL5.out HC5.out).mono ?_; rintro e w8 ⟨rfl, hb⟩; have BK8 := Aside0.mk (kpB_below BK7.out hb); have HB8 := Aside0.mk (below_step HB7.out hb); clear hb))
              go_meet
              case rel => exact ⟨by rw [HST.out], ⟨by rw [HOT.out, HSM.out, decide_eq_false HHE.out]; rfl⟩, BK8, HB8⟩
  case rest =>
    obtain ⟨rfl, HOT, BK4, HB4⟩ := hcut
    have HH0 := Aside0.mk (startT_size path found value other)
    generalize startT path found value other = h0 at *
    obtain ⟨k0, k1, k2, k3⟩ := kpB_cells BK4.out
    have hln : wrap64 ((n : Int) - 1) = (n : Int) - 1 := by unfold wrap64; omega
    have HLN := Aside0.mk hln
    clear hln
    go_wp2
    go_loopg [8, 10] n (fun gg s8 s10 wr => ∃ (i : Nat) (h : ByteArray), i ≤ n ∧ i ≤ gg ∧ s8 = .string h ∧ s10 = .int .i64 ((i : Int) - 1) ∧ Aside0 (h.size = 32) ∧ Aside0 (upT path l i h = upT path l n h0) ∧ Aside0 (kpB wr g found value other (.slice A n c)) ∧ Aside0 (Below w.heap.size w wr))
    case atStart => exact ⟨n, h0, Nat.le_refl _, Nat.le_refl _, rfl, by rw [← HLN.out], HH0, ⟨rfl⟩, BK4, HB4⟩
    case round =>
      obtain ⟨i, h, hi, hgg, rfl, rfl, HHS, HUP, BKr, HBr⟩ := hrel
      obtain ⟨r0, r1, r2, r3⟩ := kpB_cells BKr.out
      rcases i with _ | m
      · have hz : ¬ (0 : Int) ≤ ((0 : Nat) : Int) - 1 := by omega
        have HCS := Aside0.mk (ck_str h root)
        go_wp2
        go_ret
        refine ⟨?_, HBr.out⟩
        rw [HRR.out, HOT.out, ← HUP.out, ← ck_str]
        rfl
      · have e1 : ((m + 1 : Nat) : Int) - 1 = (m : Int) := by omega
        rw [e1]
        have hz : (0 : Int) ≤ (m : Int) := by omega
        have hmn : (m : Int) < (n : Int) := by omega
        have HWM := Aside0.mk (show wrap64 ((m : Int) - 1) = (m : Int) - 1 by unfold wrap64; omega)
        obtain ⟨ad, hA, hcell⟩ := HR.out.at_ (m : Int) (by omega) hmn
        subst hA
        simp only [Int.toNat_natCast] at hcell
        have hrd : rdOf ByteArray.empty l (m : Int) = l.getD m ByteArray.empty := by simp [rdOf]
        rw [hrd] at hcell
        have hy : (l.getD m ByteArray.empty).size = 32 := by
          have hm' : m < l.length := by rw [HN.out]; omega
          have e2 : l.getD m ByteArray.empty = l[m] := by simp [List.getD, List.getElem?_eq_getElem hm']
          rw [e2]
          exact HS.out _ (List.getElem_mem hm')
        have HBI := Aside0.mk (fun W => bit_calls path m (by have := HPS.out; omega) (by have := HPS.out; omega) W)
        have HN1 := Aside0.mk (fun W => node_calls h (l.getD m ByteArray.empty) (by have := HHS.out; omega) (by omega) W)
        have HN2 := Aside0.mk (fun W => node_calls (l.getD m ByteArray.empty) h (by omega) (by have := HHS.out; omega) W)
        have hup : upT path l (m + 1) h = upT path l m (stepT path h (m, l.getD m ByteArray.empty)) := rfl
        have HUQ := Aside0.mk (hup.symm.trans HUP.out)
        have HSZ := Aside0.mk (stepT_size path h (m, l.getD m ByteArray.empty))
        have hst : stepT path h (m, l.getD m ByteArray.empty) = if bitI path m = 0 then nodeT h (l.getD m ByteArray.empty) else nodeT (l.getD m ByteArray.empty) h := rfl
        have HST := Aside0.mk hst
        have HCE := Aside0.mk hcell
        clear hup hst hy hrd hcell HUP
        generalize stepT path h (m, l.getD m ByteArray.empty) = h' at *
        generalize l.getD m ByteArray.empty = y at *
        generalize nodeT h y = z1 at *
        generalize nodeT y h = z2 at *
        generalize bitI path m = b at *
        by_cases hb0 : b = 0
        · have hb1 : (b == 0) = true := beq_iff_eq.2 hb0
          have HZ1 := Aside0.mk (HST.out.trans (if_pos hb0))
          clear hb0
          go_wp2_with (first
            | (go_at_call 85; refine (HBI.out _).mono ?_; rintro e w5 ⟨rfl, hb⟩; have BK5 := Aside0.mk (kpB_below BKr.out hb); have HB5 := Aside0.mk (below_step HBr.out hb); clear hb; obtain ⟨q0, q1, q2, q3⟩ := kpB_cells BK5.out; have hc5 := (HB5.out.cell (World.block_lt_of_cell? w _ HCE.out)).trans HCE.out)
            | (go_at_call 86; refine (HN1.out _).mono ?_; rintro e w6 ⟨rfl, hb⟩; have BK6 := Aside0.mk (kpB_below BK5.out hb); have HB6 := Aside0.mk (below_step HB5.out hb); clear hb))
          go_roundg m
          case measure => omega
          case rel => exact ⟨m, h', by omega, by omega, by rw [HZ1.out], by first | rfl | (rw [HWM.out]; done) | go_num, HSZ, HUQ, BK6, HB6⟩
        · have hb1 : (b == 0) = false := beq_eq_false_iff_ne.2 hb0
          have HZ1 := Aside0.mk (HST.out.trans (if_neg hb0))
          clear hb0
          go_wp2_with (first
            | (go_at_call 85; refine (HBI.out _).mono ?_; rintro e w5 ⟨rfl, hb⟩; have BK5 := Aside0.mk (kpB_below BKr.out hb); have HB5 := Aside0.mk (below_step HBr.out hb); clear hb; obtain ⟨q0, q1, q2, q3⟩ := kpB_cells BK5.out; have hc5 := (HB5.out.cell (World.block_lt_of_cell? w _ HCE.out)).trans HCE.out)
            | (go_at_call 86; refine (HN2.out _).mono ?_; rintro e w6 ⟨rfl, hb⟩; have BK6 := Aside0.mk (kpB_below BK5.out hb); have HB6 := Aside0.mk (below_step HB5.out hb); clear hb))
          go_roundg m
          case measure => omega
          case rel => exact ⟨m, h', by omega, by omega, by rw [HZ1.out], by first | rfl | (rw [HWM.out]; done) | go_num, HSZ, HUQ, BK6, HB6⟩
theorem spec_l04Check.calls (root key : ByteArray) (found : Bool) (value other : ByteArray) (A0_3 : Option Addr) (c0_3 : Nat) (l0_3 : List ByteArray) (r : Bool) (w : World) (hr0_3 : Kd.C Kd.string w A0_3 l0_3.length l0_3) (hc0_3 : l0_3.length ≤ c0_3) (h : spec_l04Check.f root key found value other l0_3 = some r) :
    Calls Try.prog 61 #[.string root, .string key, .agg #[.bool found, .string value, .string other, .slice A0_3 l0_3.length c0_3]] w fun e w' => e = .returned (.bool r) ∧ Below w.heap.size w w' := by
  unfold spec_l04Check.f at h
  split at h
  · rename_i hok
    injection h with h
    subst h
    exact spec_l04Check.walk root key found value other A0_3 c0_3 l0_3 w hr0_3 hok
  · cases h
end Go.Proofs.Ytjmfkhjhhohnkaa.Q
