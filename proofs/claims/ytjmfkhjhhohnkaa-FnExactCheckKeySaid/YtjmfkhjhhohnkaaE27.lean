/- The contract of (KeyProof).leads: the way of a key's proof up to a root. -/
import Derived.Test.YtjmfkhjhhohnkaaQ4
import Derived.Test.YtjmfkhjhhohnkaaE28
namespace Go.Proofs.Ytjmfkhjhhohnkaa.Q
open Go.RowKit Go.Shelf Go.Proofs.YtjmfkhjhhohnkaaW.PrintWords Go.Proofs.YtjmfkhjhhohnkaaW.PrintLast Go.Proofs.YtjmfkhjhhohnkaaW.PrintMore
open Go.Proofs.Ytjmfkhjhhohnkaa.T (ssha sha)
attribute [local go_sem] Oper.semAt_some
set_option linter.unusedVariables false
set_option linter.unusedSimpArgs false
theorem bt_extract (s : ByteArray) (hs : 32 ≤ s.size) (i : Nat) (hi : i < 32) : bt (s.extract 0 32) (i : Int) = bt s (i : Int) := by
  have hz : (s.extract 0 32).size = 32 := by simp; omega
  have h1 : ((i : Int)).toNat < (s.extract 0 32).size := by rw [Int.toNat_natCast, hz]; exact hi
  have h2 : ((i : Int)).toNat < s.size := by rw [Int.toNat_natCast]; omega
  rw [← Go.Proofs.YtjmfkhjhhohnkaaW.PrintWords.bt_at _ _ h1, ← Go.Proofs.YtjmfkhjhhohnkaaW.PrintWords.bt_at _ _ h2]
  have e : (s.extract 0 32)[((i : Int)).toNat]'h1 = s[((i : Int)).toNat]'h2 := by
    show (s.extract 0 32).data[((i : Int)).toNat]'h1 = s.data[((i : Int)).toNat]'h2
    simp only [ByteArray.data_extract, Array.getElem_extract, Nat.zero_add]
  rw [e]
theorem bitI_extract (s : ByteArray) (hs : 32 ≤ s.size) (i : Nat) (hi : i < 256) : bitI (s.extract 0 32) i = bitI s i := by
  unfold bitI
  rw [bt_extract s hs (i / 8) (by omega)]
theorem sameT_extract (s b : ByteArray) (hs : 32 ≤ s.size) (n : Nat) (hn : n ≤ 256) : sameT (s.extract 0 32) b n = sameT s b n := by
  unfold sameT
  rw [Bool.eq_iff_iff, List.all_eq_true, List.all_eq_true]
  constructor
  · intro h i hi
    have := h i hi
    rw [bitI_extract s hs i (by have := List.mem_range.1 hi; omega)] at this
    exact this
  · intro h i hi
    rw [bitI_extract s hs i (by have := List.mem_range.1 hi; omega)]
    exact h i hi
theorem same_l0 (a b : ByteArray) (ha : a.size = 32) (hb : b.size = 32) (n : Nat) (hn : n ≤ 256) (d : Nat) : ∀ (k i : Nat), n - i = d → i ≤ n → d < k → sameT a b i = true → impl_sameBits.l0 k a b (n : Int) (i : Int) = some (sameT a b n) := by
  induction d with
  | zero =>
    intro k i hd hi hk hs
    obtain ⟨k, rfl⟩ : ∃ m, k = m + 1 := ⟨k - 1, by omega⟩
    have : i = n := by omega
    subst this
    simp only [impl_sameBits.l0]
    rw [if_neg (by omega), hs]
  | succ d ih =>
    intro k i hd hi hk hs
    obtain ⟨k, rfl⟩ : ∃ m, k = m + 1 := ⟨k - 1, by omega⟩
    simp only [impl_sameBits.l0]
    rw [if_pos (by omega), impl_bitI a i (by omega) (by omega), impl_bitI b i (by omega) (by omega), Option.bind_some, Option.bind_some]
    by_cases he : bitI a i = bitI b i
    · rw [if_pos he, show wrap64 ((i : Int) + 1) = ((i + 1 : Nat) : Int) by unfold wrap64; omega]
      exact ih k (i + 1) (by omega) (by omega) (by omega) (by rw [sameT_succ, hs, he]; simp)
    · rw [if_neg he, sameT_false a b (show i < n by omega) he]
theorem same_calls (a b : ByteArray) (ha : a.size = 32) (hb : b.size = 32) (n : Nat) (hn : n ≤ 256) (W : World) : Calls Try.prog 90 #[.string a, .string b, .int .i64 (n : Int)] W fun e w' => e = .returned (.bool (sameT a b n)) ∧ Below W.heap.size W w' :=
  (impl_sameBits.calls 300 a b n _ W (by
    unfold impl_sameBits.f
    have h := same_l0 a b ha hb n hn n 300 0 (by omega) (by omega) (by omega) rfl
    rw [show ((0 : Nat) : Int) = 0 from rfl] at h
    exact h)).mono fun e w' ⟨he, hd⟩ => ⟨he, hd.below⟩
theorem bitc_calls (s : ByteArray) (i : Nat) (hi : i < 8 * s.size) (hs : s.size ≤ 65536) (W : World) : Calls Try.prog 92 #[.string s, .int .i64 (i : Int)] W fun e w' => e = .returned (.int .i64 (bitI s i)) ∧ Below W.heap.size W w' :=
  (impl_bit.calls s i _ W (impl_bitI s i hi hs)).mono fun e w' ⟨he, hd⟩ => ⟨he, hd.below⟩
theorem hashc_calls (s : ByteArray) (hs : s.size ≤ 1099511627776) (W : World) : Calls Try.prog 38 #[.string s] W fun e w' => e = .returned (.string (sha s)) ∧ Below W.heap.size W w' :=
  impl_hash.calls s _ W (by unfold impl_hash.f; rw [if_pos hs])
theorem pathc_calls (s : ByteArray) (hs : s.size ≤ 1000000) (W : World) : Calls Try.prog 40 #[.string s] W fun e w' => e = .returned (.string (pathT s)) ∧ Below W.heap.size W w' :=
  impl_keyPath.calls s _ W (by
    have hz : ((⟨#[112, 97, 116, 104]⟩ : ByteArray) ++ s).size = 4 + s.size := by rw [ByteArray.size_append]; rfl
    unfold impl_keyPath.f impl_hash.f pathT
    rw [hz, if_pos (by omega), if_pos (by omega)]
    rfl)
theorem valc_calls (s : ByteArray) (hs : s.size ≤ 1000000) (W : World) : Calls Try.prog 89 #[.string s] W fun e w' => e = .returned (.string (sha (⟨#[118, 97, 108, 117, 101]⟩ ++ s))) ∧ Below W.heap.size W w' :=
  impl_valueHash.calls s _ W (by
    have hz : ((⟨#[118, 97, 108, 117, 101]⟩ : ByteArray) ++ s).size = 5 + s.size := by rw [ByteArray.size_append]; rfl
    unfold impl_valueHash.f impl_hash.f
    rw [hz, if_pos (by omega), if_pos (by omega)]
    rfl)
theorem wp_normal {P : Program} {c : Code} {Q : Exit → Act → World → Prop} {a : Act} {w : World} (h : c.wp P (fun e a' w' => e = .normal ∧ Q .normal a' w') a w) : c.wp P Q a w :=
  wp_mono h (by rintro e a' w' ⟨rfl, h⟩; exact h)
theorem bxS_set {w : World} {g : Nat} {s t : ByteArray} (h : bxS w g s) : bxS (w.setCell ⟨g, 0, none⟩ (.string t)) g t := blk_put (cs := #[.string s]) h 0 _ rfl
theorem bxS_other {w : World} {g g' : Nat} {s : ByteArray} {v : Value} (h : bxS w g s) (hne : g ≠ g') : bxS (w.setCell ⟨g', 0, none⟩ v) g s := (Below.heap_setCell w _ v g hne).trans h
theorem kpB_other {w : World} {g g' : Nat} {found : Bool} {value other : ByteArray} {sl v : Value} (h : kpB w g found value other sl) (hne : g ≠ g') : kpB (w.setCell ⟨g', 0, none⟩ v) g found value other sl := (Below.heap_setCell w _ v g hne).trans h
theorem ko_below {W W' : World} (h : Below W.heap.size W W') : KeepsOthers W W' :=
  ⟨h.size, fun k o hk _ => (h.block k (Array.getElem?_eq_some_iff.1 hk).1).trans hk⟩
theorem cells_grown {W W' : World} {row : Option Nat} {g : Nat} {cs : Array Value} {t : TypeId} (h : W.heap[g]? = some (.cells cs t (0, 0))) (hg : W.grownBy W' row) (hr : ∀ r, row = some r → ∃ o : Obj, W.heap[r]? = some o ∧ o.isCells = false) : W'.heap[g]? = some (.cells cs t (0, 0)) := by
  refine (hg.block g (blk_lt h) (fun e => ?_)).trans h
  obtain ⟨o, ho, hc⟩ := hr g e.symm
  rw [h] at ho
  injection ho with ho
  subst ho
  cases hc
def foldH (path h0 : ByteArray) (pre : List SX) : ByteArray := pre.foldl (fun h x => stepT path h x.1) h0
theorem foldH_snoc (path h0 : ByteArray) (pre : List SX) (x : SX) : foldH path h0 (pre ++ [x]) = stepT path (foldH path h0 pre) x.1 := by simp [foldH]
/-- What a round finds: the path's box, the box of what has been hashed so far, the slice's box. -/
def ldI (w : World) (gp gb : Nat) (sl : Value) (path h0 : ByteArray) (pre : List SX) (W : World) : Prop :=
  (bxS W gp path ∧ bxS W (gp + 1) (foldH path h0 pre) ∧ W.heap[gb]? = some (.cells #[sl] 61 (0, 0)) ∧ (foldH path h0 pre).size = 32) ∧ Below w.heap.size w W
theorem ldI_own (w : World) (gp gb B : Nat) (sl : Value) (path h0 : ByteArray) (hB : w.heap.size ≤ B) : OwnFrom B (ldI w gp gb sl path h0) :=
  OwnFrom.and (Own.from (fun s A C row hs hg hr => ⟨cells_grown hs.1 hg hr, cells_grown hs.2.1 hg hr, cells_grown hs.2.2.1 hg hr, hs.2.2.2⟩) _) (ownFrom_below (Nat.le_refl _) hB)
set_option maxHeartbeats 16000000 in
set_option maxRecDepth 100000 in
theorem leads.walk (root key : ByteArray) (found : Bool) (value other : ByteArray) (A : Option Addr) (c : Nat) (l : List ByteArray) (w : World) (hC : Kd.C Kd.string w A l.length l) (hok : checkOK key found value other l) :
    Calls Try.prog 66 #[.agg #[.bool found, .string value, .string other, .slice A l.length c], .string root, .string key] w fun e w' => e = .returned (.bool (checkT root key found value other l)) ∧ Below w.heap.size w w' := by
  obtain ⟨hk, hv, ho, hl, hs⟩ := hok
  have hu := Try.underlying67
  have HP := Aside0.mk (fun W => pathc_calls key hk W)
  have HE := Aside0.mk (fun W => hashc_calls ⟨#[101, 109, 112, 116, 121]⟩ (by decide) W)
  have hR : checkT root key found value other l = (otherT (pathT key) found other l.length && decide (upT (pathT key) l l.length (startT (pathT key) found value other) = root)) := rfl
  have hps := pathT_size key
  generalize hrr : checkT root key found value other l = RR at hR ⊢
  have HRR := Aside0.mk hR
  clear hR hrr
  have HPS := Aside0.mk hps
  generalize pathT key = path at *
  generalize hem : sha ⟨#[101, 109, 112, 116, 121]⟩ = emp at HE
  have HEM := Aside0.mk hem
  clear hem
  have HS := Aside0.mk hs
  have HO := Aside0.mk ho
  have HV := Aside0.mk hv
  have hr := (Kd.reads_of_C (d := ByteArray.empty) (h1 := fun _ => rfl) hC)
  have hbig := hr.2.1
  have HR := Aside0.mk hr
  obtain ⟨n, hn⟩ : ∃ n, l.length = n := ⟨_, rfl⟩
  have HN := Aside0.mk hn
  rw [hn] at hbig hl HR HRR ⊢
  have HL := Aside0.mk hl
  clear hr hC hn hs hk hv ho hps
  refine (callsIn_wide (n := 10)).1 ?_
  refine callsIn_of_wp_marks Try.func66 rfl trivial ?_ rfl
  simp only [Try.ntmps66, List.size_toArray, List.length_cons, List.length_nil, Nat.reduceAdd, Nat.reduceSub, Array.replicate_succ, Array.replicate_zero, List.push_toArray, List.append_toArray, List.nil_append, List.cons_append]
  refine wpIn_wide.2 ?_
  go_upto_block 0 with (first
    | ((with_reducible refine gate_dst (N := 3) rfl ?_); refine box_event ?hg (N := 3) ?hd (cs := #[.bool found, .string value, .string other, .slice A n c]) (t := 67) ?hr ?_; (case hd => rfl); (case hg => rfl); (case hr => first | (go_simp; done) | (go_simp; rfl)); intro g hg w1 hbox hb; have BK := Aside0.mk (show kpB w1 g found value other (.slice A n c) from hbox); have HB := Aside0.mk hb; clear hb hbox hg)
    | (go_at_call 40; refine (HP.out _).mono ?_; rintro e w2 ⟨rfl, hb⟩; have BK2 := Aside0.mk (kpB_below BK.out hb); have HB2 := Aside0.mk (below_step HB.out hb); clear hb)
    | (go_at_call 38; refine (HE.out _).mono ?_; clear HE; rintro e w3 ⟨rfl, hb⟩; have BK3 := Aside0.mk (kpB_below BK2.out hb); have HB3 := Aside0.mk (below_step HB2.out hb); clear hb))
  have BB := Aside0.mk (below_alloc (below_alloc (Below.refl w3.heap.size w3) (.cells #[.string path] 9)) (.cells #[.string emp] 9))
  have BK4 := Aside0.mk (kpB_below BK3.out BB.out)
  have HB4 := Aside0.mk (below_step HB3.out BB.out)
  have BP4 : Aside0 (bxS ((w3.alloc (.cells #[.string path] 9)).alloc (.cells #[.string emp] 9)) w3.heap.size path) := ⟨by unfold bxS; rw [heap_alloc_old _ _ (by simp)]; exact heap_alloc_new w3 _⟩
  have BO4 : Aside0 (bxS ((w3.alloc (.cells #[.string path] 9)).alloc (.cells #[.string emp] 9)) (w3.heap.size + 1) emp) := ⟨by
    have h := heap_alloc_new (w3.alloc (.cells #[.string path] 9)) (.cells #[.string emp] 9)
    rw [World.size_alloc] at h
    exact h⟩
  have HLT := Aside0.mk (show g < w3.heap.size ∧ w.heap.size ≤ w3.heap.size from ⟨blk_lt BK3.out, HB3.out.size⟩)
  clear BB BK BK2 BK3 HB HB2 HB3 HP
  generalize (w3.alloc (.cells #[.string path] 9)).alloc (.cells #[.string emp] 9) = w4 at *
  obtain ⟨gp, hgp⟩ : ∃ x, w3.heap.size = x := ⟨_, rfl⟩
  rw [hgp] at BP4 BO4 HLT ⊢
  clear hgp
  go_cut [8] from 12 to 70 (fun v8 wc => v8 = .pointer (some ⟨gp + 1, 0, none⟩) ∧ Aside0 (otherT path found other n = true) ∧ Aside0 (bxS wc gp path) ∧ Aside0 (bxS wc (gp + 1) (startT path found value other)) ∧ Aside0 (kpB wc g found value other (.slice A n c)) ∧ Aside0 (Below w.heap.size w wc))
  case first =>
    obtain ⟨k0, k1, k2, k3⟩ := kpB_cells BK4.out
    have cP := bxS_cell BP4.out
    have cO := bxS_cell BO4.out
    have fO := bxS_frozen BO4.out
    cases found with
    | true =>
      go_wp2
      have hv := sha_size (⟨#[118, 97, 108, 117, 101]⟩ ++ value)
      have HVC := valc_calls value HV.out
      have hst : startT path true value other = sha (⟨#[108, 101, 97, 102]⟩ ++ path ++ sha (⟨#[118, 97, 108, 117, 101]⟩ ++ value)) := by unfold startT; rw [if_pos rfl]
      generalize sha (⟨#[118, 97, 108, 117, 101]⟩ ++ value) = v at *
      have hz : (⟨#[108, 101, 97, 102]⟩ ++ path ++ v : ByteArray).size = 68 := by rw [ByteArray.size_append, ByteArray.size_append, hv, HPS.out]; rfl
      have HHC := hashc_calls (⟨#[108, 101, 97, 102]⟩ ++ path ++ v) (by rw [hz]; decide)
      generalize sha (⟨#[108, 101, 97, 102]⟩ ++ path ++ v) = hh at *
      refine wp_normal ?_
      refine leads_r3 _ _ _ _ _ _ _ _ _ _ _ _ _ _ _ _ _ _ _ _ _ _ _ _ _ _ _ _ _ _ _ _ _ _ _ _ _ _ _ _ _ _ _ _ _ _ _ _ _ _ _ _ _ _ _ _ _ _ _ _ _ _ _ _ _ _ _ g gp path value v hh emp w4 cP k1 BO4 (eq_false (by have := HPS.out; omega)) (eq_false (by have := HPS.out; omega)) ⟨HVC⟩ ⟨HHC⟩ (by rintro c a t u W ⟨h, _⟩; cases h) ⟨?_⟩
      intro v18 v19 v20 v21 v22 v23 v24 w5 ⟨w6, hb6, hw5⟩
      subst hw5
      refine ⟨rfl, ?_⟩
      have HST := Aside0.mk hst
      have BP6 := Aside0.mk (bxS_other (v := .string hh) (bxS_below BP4.out hb6) (show gp ≠ gp + 1 by omega))
      have BO6 := Aside0.mk (bxS_set (t := hh) (bxS_below BO4.out hb6))
      have BK6 := Aside0.mk (kpB_other (v := .string hh) (kpB_below BK4.out hb6) (show g ≠ gp + 1 by have := HLT.out.1; omega))
      have HB6 := Aside0.mk (show Below w.heap.size w (w6.setCell ⟨gp + 1, 0, none⟩ (.string hh)) from below_set (below_step HB4.out hb6) (by have := HLT.out.2; omega))
      clear hb6 hst hv hz HVC HHC
      generalize w6.setCell ⟨gp + 1, 0, none⟩ (.string hh) = w7 at *
      go_wp2
      go_meet
      case rel => exact ⟨rfl, ⟨rfl⟩, BP6, by rw [HST.out]; exact BO6, BK6, HB6⟩
    | false =>
      have hnil := ck_nil other
      by_cases h0 : other.size = 0
      · rw [decide_eq_true h0] at hnil
        have hnil1 : (other.toList == ([] : List UInt8)) = true := by have := hnil; simpa [bne] using this
        have hst : startT path false value other = emp := by unfold startT; rw [if_neg (by decide), if_pos h0, HEM.out]
        have hot : otherT path false other n = true := by unfold otherT; rw [decide_eq_true h0]; rfl
        have HST := Aside0.mk hst
        have HOT := Aside0.mk hot
        clear hst hot h0
        go_wp2
        go_meet
        case rel => exact ⟨rfl, HOT, BP4, by rw [HST.out]; exact BO4, BK4, HB4⟩
      · rw [decide_eq_false h0] at hnil
        have hnil1 : (other.toList == ([] : List UInt8)) = false := by have := hnil; simpa [bne] using this
        have h64 : other.size = 64 := by rcases HO.out with h | h | h; cases h; exact absurd h h0; exact h
        have hst : startT path false value other = sha (⟨#[108, 101, 97, 102]⟩ ++ other) := by unfold startT; rw [if_neg (by decide), if_neg h0]
        have hot : otherT path false other n = (!(decide (other.extract 0 32 = path)) && sameT other path n) := by unfold otherT; rw [decide_eq_false h0]; rfl
        have HOT := Aside0.mk hot
        have hcs := ck_str (other.extract 0 32) path
        have hz : (⟨#[108, 101, 97, 102]⟩ ++ other : ByteArray).size = 68 := by rw [ByteArray.size_append, h64]; rfl
        have HHC := Aside0.mk (fun W => hashc_calls (⟨#[108, 101, 97, 102]⟩ ++ other) (by rw [hz]; decide) W)
        generalize sha (⟨#[108, 101, 97, 102]⟩ ++ other) = hh at *
        have HST := Aside0.mk hst
        have hz1 : (9223372036854775807 < 4 + other.size) = False := eq_false (by omega)
        have HX := Aside0.mk (show (other.extract 0 32).size = 32 by simp; omega)
        have HSX := Aside0.mk (sameT_extract other path (by omega) n hl)
        clear hst hot h0 HO
        have HSM := Aside0.mk (fun W => same_calls (other.extract 0 32) path HX.out HPS.out n hl W)
        rw [HSX.out] at HSM
        by_cases he : other.extract 0 32 = path
        · rw [decide_eq_true he] at hcs
          have HHE := Aside0.mk he
          clear he
          go_wp2_with fail
          refine (HHC.out _).mono ?_
          rintro e w5 ⟨rfl, hb⟩
          have BK5 := Aside0.mk (kpB_below BK4.out hb)
          have BP5 := Aside0.mk (bxS_below BP4.out hb)
          have BO5 := Aside0.mk (bxS_below BO4.out hb)
          have HB5 := Aside0.mk (below_step HB4.out hb)
          clear hb
          obtain ⟨l0, l1, l2, l3⟩ := kpB_cells BK5.out
          have dP := bxS_cell BP5.out
          have dO := bxS_cell BO5.out
          have gO := bxS_frozen BO5.out
          have hne1 : gp ≠ gp + 1 := by omega
          have hne2 : g ≠ gp + 1 := (by have := HLT.out.1; omega)
          have BP6 := Aside0.mk (bxS_other (v := .string hh) BP5.out hne1)
          have BO6 := Aside0.mk (bxS_set (t := hh) BO5.out)
          have BK6 := Aside0.mk (kpB_other (v := .string hh) BK5.out hne2)
          have HB6 := Aside0.mk (show Below w.heap.size w (w5.setCell ⟨gp + 1, 0, none⟩ (.string hh)) from below_set HB5.out (by have := HLT.out.2; omega))
          go_wp2_with fail
          refine ⟨_, results_tmp rfl _ _ _, ?_, HB6.out⟩
          rw [HRR.out, HOT.out, decide_eq_true HHE.out]
          rfl
        · rw [decide_eq_false he] at hcs
          have HHE := Aside0.mk he
          clear he
          go_wp2_with fail
          refine (HHC.out _).mono ?_
          rintro e w5 ⟨rfl, hb⟩
          have BK5 := Aside0.mk (kpB_below BK4.out hb)
          have BP5 := Aside0.mk (bxS_below BP4.out hb)
          have BO5 := Aside0.mk (bxS_below BO4.out hb)
          have HB5 := Aside0.mk (below_step HB4.out hb)
          clear hb
          obtain ⟨l0, l1, l2, l3⟩ := kpB_cells BK5.out
          have dP := bxS_cell BP5.out
          have dO := bxS_cell BO5.out
          have gO := bxS_frozen BO5.out
          have hne1 : gp ≠ gp + 1 := by omega
          have hne2 : g ≠ gp + 1 := (by have := HLT.out.1; omega)
          have BP6 := Aside0.mk (bxS_other (v := .string hh) BP5.out hne1)
          have BO6 := Aside0.mk (bxS_set (t := hh) BO5.out)
          have BK6 := Aside0.mk (kpB_other (v := .string hh) BK5.out hne2)
          have HB6 := Aside0.mk (show Below w.heap.size w (w5.setCell ⟨gp + 1, 0, none⟩ (.string hh)) from below_set HB5.out (by have := HLT.out.2; omega))
          go_wp2_with fail
          refine (HSM.out _).mono ?_
          rintro e w7 ⟨rfl, hb⟩
          have BK7 := Aside0.mk (kpB_below BK6.out hb)
          have BP7 := Aside0.mk (bxS_below BP6.out hb)
          have BO7 := Aside0.mk (bxS_below BO6.out hb)
          have HB7 := Aside0.mk (below_step HB6.out hb)
          clear hb BK5 BP5 BO5 HB5 BK6 BP6 BO6 HB6 l0 l1 l2 l3 dP dO gO
          cases hsm : sameT other path n with
          | true =>
            rw [hsm] at HOT
            go_wp2_with fail
            go_meet
            case rel => exact ⟨rfl, ⟨by rw [HOT.out, decide_eq_false HHE.out]; rfl⟩, BP7, by rw [HST.out]; exact BO7, BK7, HB7⟩
          | false =>
            rw [hsm] at HOT
            go_wp2_with fail
            refine ⟨_, results_tmp rfl _ _ _, ?_, HB7.out⟩
            rw [HRR.out, HOT.out, Bool.and_false]
            rfl
  case rest =>
    obtain ⟨rfl, HOT, BP5, BO5, BK5, HB5⟩ := hcut
    have HH0 := Aside0.mk (startT_size path found value other)
    generalize startT path found value other = h0 at *
    obtain ⟨k0, k1, k2, k3⟩ := kpB_cells BK5.out
    go_upto_block 1 with (go_at_call 91; refine ((callsIn_wide (n := 9)).1 (back_in Fence.wide 9 trivial rfl A n c _)).mono ?_; rintro e w6 ⟨rfl, rfl⟩)
    refine (wpIn_wide (n := 10)).1 ?_
    gi_wp2
    have hlt5 : gp + 1 < wc.heap.size := bxS_lt BO5.out
    have hbA := below_alloc (Below.refl wc.heap.size wc) (.cells #[.slice A n c] 61)
    have hnew := heap_alloc_new wc (.cells #[.slice A n c] 61)
    have hI0 : ldI w gp wc.heap.size (.slice A n c) path h0 [] (wc.alloc (.cells #[.slice A n c] 61)) := ⟨⟨bxS_below BP5.out hbA, bxS_below BO5.out hbA, hnew, HH0.out⟩, below_step HB5.out hbA⟩
    have hcells : ∀ j, j < n → ∃ ad, A = some ad ∧ ad.block < w.heap.size ∧ (wc.alloc (.cells #[.slice A n c] 61)).cell? (ad.add j) = some (.string (l.getD j ByteArray.empty)) := by
      intro j hj
      obtain ⟨ad, hA, hcell⟩ := HR.out.at_ (j : Int) (by omega) (by omega)
      simp only [Int.toNat_natCast] at hcell
      have hrd : rdOf ByteArray.empty l (j : Int) = l.getD j ByteArray.empty := by simp [rdOf]
      rw [hrd] at hcell
      have hlt := World.block_lt_of_cell? w _ hcell
      refine ⟨ad, hA, by rw [ck_add_blk] at hlt; exact hlt, ?_⟩
      exact ((below_step HB5.out hbA).cell hlt).trans hcell
    have hsz : w.heap.size ≤ wc.heap.size := HB5.out.size
    refine wpIn_rangeFunc_ownG (F := Fence.wide) (n := 10) rfl (by decide) (gf := 103) (lb := #[.pointer (some ⟨wc.heap.size, 0, none⟩)]) rfl trivial (enters_of Try.func103 (by kernel_rfl) rfl)
      (back_stops Fence.wide 9 trivial rfl (by decide) wc.heap.size w.heap.size n c A l HL.out HN.out HS.out _ (by simp) (by simp; omega) ((blk_cell hnew 0).trans rfl) hcells)
      (fun h k => h.trans k)
      (fun W j o o' hj ho hc hw => ⟨belowK_b (w := wc.alloc (.cells #[.slice A n c] 61)) (by simp; omega) W j o o' hj ho hc hw, (grownBy_putObj' W j o').block wc.heap.size (by have := (Array.getElem?_eq_some_iff.1 ho).1; simp at hj; omega) (fun e => by injection e with e; simp at hj; omega)⟩)
      (Below.refl _ _) (fun _ => rfl)
      (ldI w gp wc.heap.size (.slice A n c) path h0) (fun _ _ _ => False)
      (ldI_own w gp wc.heap.size _ (.slice A n c) path h0 (by simp; omega)) (fun _ _ _ _ _ hs _ _ => hs) hI0
      (fun x : SX => { tmps := #[.agg #[.bool found, .string value, .string other, .slice A n c], .string root, .string key, .pointer (some ⟨g, 0, none⟩), undef, undef, u6, .pointer (some ⟨gp, 0, none⟩), .pointer (some ⟨gp + 1, 0, none⟩), u9, .int .i64 (x.1.1 : Int), .string x.1.2, u12, u13, u14, u15, u16, u17, u18, u19, u20, u21, u22, u23, u24, u25, u26, u27, u28, u29, u30, u31, u32, u33, u34, u35, u36, u37, u38, u39, u40, u41, u42, u43, u44, u45, u46, u47, .pointer (some ⟨g, 3, none⟩), .slice A n c, .func (.func 103) #[] #[.pointer (some ⟨wc.heap.size, 0, none⟩)], .int .i64 (x.1.1 : Int), .string x.1.2, u53, u54, u55, u56, u57, u58, u59, u60, u61, u62, u63, u64, u65, u66, u67, u68, u69], defers := [] }) ?assign ?body ?done ?stop
    case assign =>
      intro l x W K hK
      gi_wp2
      exact hK
    case body =>
      rintro l2 pre x W ⟨⟨hP, hO, hS, hz⟩, hB⟩ hlen
      have hsn := foldH_snoc path h0 pre x
      have HSN := Aside0.mk hsn
      have HSTS := Aside0.mk (stepT_size path (foldH path h0 pre) x.1)
      have HST := Aside0.mk (show stepT path (foldH path h0 pre) x.1 = if bitI path x.1.1 = 0 then nodeT (foldH path h0 pre) x.1.2 else nodeT x.1.2 (foldH path h0 pre) from rfl)
      clear hsn
      generalize foldH path h0 pre = hh at *
      have hx2 := x.2.2
      have HBI := Aside0.mk (fun W => bitc_calls path x.1.1 (by have := HPS.out; have := x.2.1; omega) (by have := HPS.out; omega) W)
      have hz1 : (⟨#[110, 111, 100, 101]⟩ ++ hh ++ x.1.2 : ByteArray).size = 68 := by rw [ByteArray.size_append, ByteArray.size_append, hz, hx2]; rfl
      have hz2 : (⟨#[110, 111, 100, 101]⟩ ++ x.1.2 ++ hh : ByteArray).size = 68 := by rw [ByteArray.size_append, ByteArray.size_append, hz, hx2]; rfl
      have HN1 := Aside0.mk (fun W => hashc_calls (⟨#[110, 111, 100, 101]⟩ ++ hh ++ x.1.2) (by rw [hz1]; decide) W)
      have HN2 := Aside0.mk (fun W => hashc_calls (⟨#[110, 111, 100, 101]⟩ ++ x.1.2 ++ hh) (by rw [hz2]; decide) W)
      have hnd1 : sha (⟨#[110, 111, 100, 101]⟩ ++ hh ++ x.1.2) = nodeT hh x.1.2 := rfl
      have hnd2 : sha (⟨#[110, 111, 100, 101]⟩ ++ x.1.2 ++ hh) = nodeT x.1.2 hh := rfl
      rw [hnd1] at HN1
      rw [hnd2] at HN2
      have hw1 : (9223372036854775807 < 4 + hh.size) = False := eq_false (by omega)
      have hw2 : (9223372036854775807 < 4 + hh.size + x.1.2.size) = False := eq_false (by omega)
      have hw3 : (9223372036854775807 < 4 + x.1.2.size) = False := eq_false (by omega)
      have hw4 : (9223372036854775807 < 4 + x.1.2.size + hh.size) = False := eq_false (by omega)
      clear hnd1 hnd2 hz1 hz2
      generalize nodeT hh x.1.2 = z1 at *
      generalize nodeT x.1.2 hh = z2 at *
      generalize bitI path x.1.1 = b at *
      have HPW := Aside0.mk hP
      have HOW := Aside0.mk hO
      have HSW := Aside0.mk hS
      have HBW := Aside0.mk hB
      have cP := bxS_cell hP
      have hgb : wc.heap.size < W.heap.size := blk_lt hS
      have HGB := Aside0.mk hgb
      clear hP hO hS hB hgb hz hx2
      have fin : ∀ (w5 w6 : World) (z : ByteArray), Below W.heap.size W w5 → Below w5.heap.size w5 w6 → z = stepT path hh x.1 →
          KeepsFrom (wc.alloc (.cells #[.slice A n c] 61)).heap.size W (w6.setCell ⟨gp + 1, 0, none⟩ (.string z)) ∧ KpB w.heap.size wc.heap.size W (w6.setCell ⟨gp + 1, 0, none⟩ (.string z)) ∧ ldI w gp wc.heap.size (.slice A n c) path h0 (pre ++ [x]) (w6.setCell ⟨gp + 1, 0, none⟩ (.string z)) := by
        intro w5 w6 z hb5 hb6 hzz
        have hb := below_step hb5 hb6
        have hle : w.heap.size ≤ gp + 1 := by have := HLT.out.2; omega
        refine ⟨((ko_below hb).trans (KeepsOthers.setCell _ _ _)).from _, ⟨(hb.mono HBW.out.size).setCell (p := ⟨gp + 1, 0, none⟩) hle _, ?_⟩, ⟨bxS_other (bxS_below HPW.out hb) (by omega), ?_, ?_, ?_⟩, below_set (below_step HBW.out hb) hle⟩
        · rw [Below.heap_setCell w6 _ _ wc.heap.size (by show wc.heap.size ≠ gp + 1; omega)]
          exact hb.block _ HGB.out
        · rw [HSN.out, ← hzz]
          exact bxS_set (bxS_below HOW.out hb)
        · exact (Below.heap_setCell w6 _ _ wc.heap.size (by show wc.heap.size ≠ gp + 1; omega)).trans ((hb.block _ HGB.out).trans HSW.out)
        · rw [HSN.out]
          exact HSTS.out
      by_cases hb0 : b = 0
      · have hb1 : (b == 0) = true := beq_iff_eq.2 hb0
        have HZ1 := Aside0.mk (HST.out.trans (if_pos hb0))
        clear hb0
        gi_wp2_with (first
          | (refine ⟨trivial, ?_⟩; gi_at_call 92; refine (CallsIn.inRound l2 (callsIn_wide.2 (HBI.out _))).mono ?_; rintro e w5 ⟨rfl, hb⟩; have cO := bxS_cell (bxS_below HOW.out hb); have HB5 := Aside0.mk hb; clear hb)
          | (refine ⟨trivial, ?_⟩; gi_at_call 38; refine (CallsIn.inRound l2 (callsIn_wide.2 (HN1.out _))).mono ?_; rintro e w6 ⟨rfl, hb⟩; have hO6 := bxS_below (bxS_below HOW.out HB5.out) hb; have cO6 := bxS_cell hO6; have fO6 := bxS_frozen hO6; have HB6 := Aside0.mk hb; clear hb hO6))
        exact fin w5 w6 z1 HB5.out HB6.out HZ1.out.symm
      · have hb1 : (b == 0) = false := beq_eq_false_iff_ne.2 hb0
        have HZ1 := Aside0.mk (HST.out.trans (if_neg hb0))
        clear hb0
        gi_wp2_with (first
          | (refine ⟨trivial, ?_⟩; gi_at_call 92; refine (CallsIn.inRound l2 (callsIn_wide.2 (HBI.out _))).mono ?_; rintro e w5 ⟨rfl, hb⟩; have cO := bxS_cell (bxS_below HOW.out hb); have HB5 := Aside0.mk hb; clear hb)
          | (refine ⟨trivial, ?_⟩; gi_at_call 38; refine (CallsIn.inRound l2 (callsIn_wide.2 (HN2.out _))).mono ?_; rintro e w6 ⟨rfl, hb⟩; have hO6 := bxS_below (bxS_below HOW.out HB5.out) hb; have cO6 := bxS_cell hO6; have fO6 := bxS_frozen hO6; have HB6 := Aside0.mk hb; clear hb hO6))
        exact fin w5 w6 z2 HB5.out HB6.out HZ1.out.symm
    case done =>
      rintro D ys W hD rfl ⟨⟨hP, hO, hS, hz⟩, hB⟩ hK
      have cO := bxS_cell hO
      have hf : foldH path h0 (bkU l n n) = upT path l n h0 := bkU_fold path l n HL.out HN.out HS.out h0
      go_wp2
      refine ⟨by simp, .inl ⟨_, _, rfl, run_takeDeferred hK, ?_⟩⟩
      refine ⟨_, results_tmp rfl _ _ _, ?_, hB.trans (belowK_b (w := w) (Nat.le_refl _) W D _ _ (by simp at hD; omega) hK rfl rfl)⟩
      rw [HRR.out, HOT.out, ← hf, ← ck_str]
      rfl
    case stop =>
      rintro D cc pre W _ _ h _
      exact h.elim
-- EXT (loop.example/g00298/impl.KeyProof).leads impl_KeyProof_leads 1 0
def impl_KeyProof_leads.f (found : Bool) (value other : ByteArray) (l : List ByteArray) (root key : ByteArray) : Option Bool := if checkOK key found value other l then some (checkT root key found value other l) else none
theorem impl_KeyProof_leads.calls (a0_0 : Bool) (a0_1 a0_2 : ByteArray) (A0_3 : Option Addr) (c0_3 : Nat) (l0_3 : List ByteArray) (a1 a2 : ByteArray) (r : Bool) (w : World) (hr0_3 : Kd.C Kd.string w A0_3 l0_3.length l0_3) (hc0_3 : l0_3.length ≤ c0_3) (h : impl_KeyProof_leads.f a0_0 a0_1 a0_2 l0_3 a1 a2 = some r) :
    Calls Try.prog 66 #[.agg #[.bool a0_0, .string a0_1, .string a0_2, .slice A0_3 l0_3.length c0_3], .string a1, .string a2] w fun e w' => e = .returned (.bool r) ∧ Below w.heap.size w w' := by
  unfold impl_KeyProof_leads.f at h
  split at h
  · rename_i hok
    injection h with h
    subst h
    exact leads.walk a1 a2 a0_0 a0_1 a0_2 A0_3 c0_3 l0_3 w hr0_3 hok
  · cases h
end Go.Proofs.Ytjmfkhjhhohnkaa.Q
