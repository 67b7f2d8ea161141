/- The pure statement of the law FnExactBalances: what its functions compute answers as the law says. -/
import Derived.Test.YtpkfdjlmflmilaaDoorDefFnExactBalances
import Derived.Test.YtpkfdjlmflmilaaDoorBkc
import Derived.Test.YtpkfdjlmflmilaaDoorScanb
import Derived.Test.YtpkfdjlmflmilaaDoorMkb
namespace Go.Proofs.YtpkfdjlmflmilaaDoor.Pure
open Go.RowKit Go.Proofs.YtpkfdjlmflmilaaDoor.Q Go.Proofs.YtpkfdjlmflmilaaDoorW.PrintWords Go.Proofs.YtpkfdjlmflmilaaDoorW.PrintLast
set_option linter.unusedVariables false
/-- The head of a denomination's keys. -/
def hdD (d : ByteArray) : ByteArray := ((⟨#[98, 47]⟩ : ByteArray) ++ d) ++ (⟨#[47]⟩ : ByteArray)
theorem sz2 (d : ByteArray) : ((⟨#[98, 47]⟩ : ByteArray) ++ d).size = 2 + d.size := by rw [ByteArray.size_append]; rfl
theorem sz3 (d : ByteArray) : (((⟨#[98, 47]⟩ : ByteArray) ++ d) ++ (⟨#[47]⟩ : ByteArray)).size = 3 + d.size := by rw [ByteArray.size_append, sz2, show (⟨#[47]⟩ : ByteArray).size = 1 from rfl]; omega
theorem impl_bkey (d : ByteArray) (hd : d.size ≤ 12) : impl_balanceKey.f d (⟨#[]⟩ : ByteArray) = some (hdD d) := by
  unfold impl_balanceKey.f hdD
  rw [sz2, sz3, if_pos (by omega), if_pos (by omega), if_pos (by rw [show (⟨#[]⟩ : ByteArray).size = 0 from rfl]; omega)]
  congr 1
  exact ByteArray.append_empty
/-- The balance that a pair tells. -/
def balT (d : ByteArray) (x : S45) : S55 := ⟨trimP x.f0 (hdD d), d, (raT x.f1).1⟩
theorem trim_beg {d : ByteArray} {x : S45} (h : begB (hdD d) x = true) : (hdD d).size ≤ x.f0.size ∧ x.f0.extract (hdD d).size x.f0.size = trimP x.f0 (hdD d) := by
  have hp : (hdD d).toList <+: x.f0.toList := of_decide_eq_true h
  have hi := (prefix_iff x.f0 (hdD d)).2 hp
  refine ⟨hi.1, list_inj ?_⟩
  unfold trimP Lib.trimPrefix
  rw [tp_has, decide_eq_true hp, if_pos rfl, Lib.toList_data, Lib.extract_data]
  simp
  rw [List.take_of_length_le]
  rw [List.length_drop]
  exact Nat.le_of_eq (by rw [show x.f0.data.toList.length = x.f0.size from rfl])
theorem spec_bals_l0 (d : ByteArray) (s : List S45) (hs : s.length ≤ 4096) (hb : ∀ x ∈ s, begB (hdD d) x = true ∧ x.f1.size ≤ 65536) (n : Nat) : ∀ (k i : Nat) (acc : List S55), s.length - i = n → acc.length ≤ i → i ≤ s.length → n + 140000 < k →
    spec_l05Balances.l0 k d acc (hdD d) s (i : Int) = some (acc ++ (s.drop i).map (balT d)) := by
  induction n with
  | zero =>
    intro k i acc hd ha hi hk
    obtain ⟨k, rfl⟩ : ∃ m, k = m + 1 := ⟨k - 1, by omega⟩
    simp only [spec_l05Balances.l0]
    rw [if_neg (by omega), List.drop_of_length_le (by omega)]
    simp
  | succ n ih =>
    intro k i acc hd ha hi hk
    obtain ⟨k, rfl⟩ : ∃ m, k = m + 1 := ⟨k - 1, by omega⟩
    have hlt : i < s.length := by omega
    have hr : rd_T45 s (i : Int) = s[i] := by simp [rd_T45, List.getD, List.getElem?_eq_getElem hlt]
    obtain ⟨hx, hv⟩ := hb _ (List.getElem_mem hlt)
    obtain ⟨ht, he⟩ := trim_beg hx
    obtain ⟨m, e1, e2⟩ := of_ra s[i].f1 hv k (by omega)
    have h2 := ih k (i + 1) (acc ++ [balT d s[i]]) (by omega) (by simp; omega) (by omega) (by omega)
    simp only [spec_l05Balances.l0]
    rw [if_pos (by omega), if_pos (by omega), if_pos (by omega), hr, if_pos (by omega), e1, Option.bind_some, if_pos (by omega), up64 hlt (by omega), he, e2, List.drop_eq_getElem_cons hlt, List.map_cons]
    rw [List.append_assoc, List.singleton_append] at h2
    exact h2
theorem impl_bals_l0 (d : ByteArray) (s : List S45) (hs : s.length ≤ 4096) (hb : ∀ x ∈ s, x.f1.size ≤ 65536) (n : Nat) : ∀ (k i : Nat) (acc : List S55), s.length - i = n → acc.length ≤ i → i ≤ s.length → n < k →
    impl_balances.l0 k d acc (hdD d) s (s.length : Int) (i : Int) = some (acc ++ (s.drop i).map (balT d)) := by
  induction n with
  | zero =>
    intro k i acc hd ha hi hk
    obtain ⟨k, rfl⟩ : ∃ m, k = m + 1 := ⟨k - 1, by omega⟩
    simp only [impl_balances.l0]
    rw [if_neg (by omega), List.drop_of_length_le (by omega)]
    simp
  | succ n ih =>
    intro k i acc hd ha hi hk
    obtain ⟨k, rfl⟩ : ∃ m, k = m + 1 := ⟨k - 1, by omega⟩
    have hlt : i < s.length := by omega
    have hr : rd_T45 s (i : Int) = s[i] := by simp [rd_T45, List.getD, List.getElem?_eq_getElem hlt]
    have hv := hb _ (List.getElem_mem hlt)
    have h2 := ih k (i + 1) (acc ++ [balT d s[i]]) (by omega) (by simp; omega) (by omega) (by omega)
    have hra : impl_readAmount.f s[i].f1 = some (raT s[i].f1) := by
      unfold impl_readAmount.f
      rw [if_pos (by omega)]
    have htp : strings_TrimPrefix.f s[i].f0 (hdD d) = some (trimP s[i].f0 (hdD d)) := rfl
    simp only [impl_balances.l0]
    rw [if_pos (by omega), if_pos (by omega), if_pos (by omega), hr, hra, Option.bind_some, htp, Option.bind_some, if_pos (by omega), up64 hlt (by omega), List.drop_eq_getElem_cons hlt, List.map_cons]
    rw [List.append_assoc, List.singleton_append] at h2
    exact h2
/-- The balances of a denomination in a store. -/
def balsN (l : List S45) (d : ByteArray) : List S55 := (scanN l (hdD d)).map (balT d)
theorem scanN_val {l : List S45} (hr : rightB l = true) (p : ByteArray) : ∀ x ∈ scanN l p, begB p x = true ∧ x.f1.size ≤ 65536 := by
  intro x hx
  unfold scanN at hx
  obtain ⟨h1, h2⟩ := List.mem_filter.1 hx
  refine ⟨h2, ?_⟩
  obtain ⟨i, hi, rfl⟩ := List.getElem_of_mem h1
  have h3 := (right_key hr i hi).2
  unfold valB at h3
  rw [show l.getD i z45 = l[i] by simp [List.getD, List.getElem?_eq_getElem hi]] at h3
  have := of_decide_eq_true h3
  omega
theorem spec_bals {l : List S45} (hr : rightB l = true) (d : ByteArray) (hd : d.size ≤ 12) (k : Nat) (hk : 150000 ≤ k) : spec_l05Balances.f k l d = some (balsN l d) := by
  have hl := right_len hr
  have hs := scanN_len l (hdD d)
  unfold spec_l05Balances.f
  rw [sz2, if_pos (by omega), if_pos (by omega)]
  show (spec_l03Scan.f k l (hdD d)).bind _ = _
  rw [spec_scan_eq l hr (hdD d) (by omega) k (by omega), Option.bind_some]
  have h := spec_bals_l0 d (scanN l (hdD d)) (by omega) (scanN_val hr _) (scanN l (hdD d)).length k 0 [] (by omega) (by simp) (by omega) (by omega)
  rw [List.drop_zero, List.nil_append] at h
  exact h
theorem impl_bals {l : List S45} (hr : rightB l = true) (d : ByteArray) (hd : d.size ≤ 12) (k : Nat) (hk : 150000 ≤ k) : impl_balances.f k l d = some (balsN l d) := by
  have hl := right_len hr
  have hs := scanN_len l (hdD d)
  unfold impl_balances.f
  rw [impl_bkey d hd, Option.bind_some, impl_scan_eq l (hdD d) (by omega) k (by omega), Option.bind_some]
  have h := impl_bals_l0 d (scanN l (hdD d)) (by omega) (fun x hx => (scanN_val hr _ x hx).2) (scanN l (hdD d)).length k 0 [] (by omega) (by simp) (by omega) (by omega)
  rw [List.drop_zero, List.nil_append] at h
  exact h
def balancesN (l : List S45) (d : ByteArray) : List S55 × Int :=
  if l.length > 4096 ∨ d.size > 65536 then ([], 2) else if bkCode l [d] = 0 then (balsN l d, 0) else ([], bkCode l [d])
theorem impl_Bals (l : List S45) (d : ByteArray) (k : Nat) (hk : 150000 ≤ k) : impl_Balances.f k l d = some (balancesN l d) := by
  unfold impl_Balances.f balancesN
  rw [impl_code l [d] k (by omega), Option.bind_some]
  have hany : ([d].any fun x => decide (65536 < (x.size : Int))) = decide (d.size > 65536) := by
    simp only [List.any_cons, List.any_nil, Bool.or_false]
    rw [Bool.eq_iff_iff]
    simp
    omega
  rw [hany]
  by_cases h1 : l.length > 4096 ∨ d.size > 65536
  · have hc : codeN l (decide (d.size > 65536)) = 2 := by
      unfold codeN
      rw [if_pos]
      rcases h1 with h1 | h1
      · exact .inl h1
      · exact .inr (decide_eq_true h1)
    rw [hc, if_neg (by decide), if_pos h1]
  · rw [decide_eq_false (fun h => h1 (.inr h)), if_neg h1]
    have hc : codeN l false = if rightB l = true then 0 else 1 := by
      unfold codeN
      rw [if_neg]
      rintro (h | h)
      · exact h1 (.inl h)
      · cases h
    have hb2 : bkCode l [d] = if rightB l = true then (if [d].all nmB = true then 0 else 4) else 1 := by
      unfold bkCode
      rw [if_neg (fun h => h1 (.inl h))]
    rw [hc, hb2]
    have hd : d.size ≤ 65536 := by omega
    cases hr : rightB l with
    | false => simp
    | true =>
      simp only [if_true, List.all_cons, List.all_nil, Bool.and_true]
      rw [impl_nm d hd k (by omega), Option.bind_some]
      cases hn : nmB d with
      | false => simp
      | true =>
        simp only [if_true]
        rw [impl_bals hr d (nm_size hn) k (by omega), Option.bind_some]
theorem spec_Bals (l : List S45) (d : ByteArray) (k : Nat) (hk : 150001 ≤ k) : spec_Balances.f k l d = some (balancesN l d) := by
  obtain ⟨k, rfl⟩ : ∃ m, k = m + 1 := ⟨k - 1, by omega⟩
  unfold spec_Balances.f balancesN
  simp only [spec_Balances.j0]
  by_cases h0 : l.length > 4096
  · rw [if_pos (by omega), if_pos trivial, if_pos (.inl h0)]
  · rw [if_neg (by omega)]
    by_cases h2 : d.size > 65536
    · rw [if_pos (decide_eq_true (by omega)), if_pos (.inr h2)]
    · rw [if_neg (by rw [decide_eq_false (by omega)]; decide), if_neg (by omega), spec_bk l [d] (by simp) (by simp; omega) k (by omega), Option.bind_some]
      by_cases h3 : bkCode l [d] = 0
      · obtain ⟨hr, hn⟩ := bk_zero h3
        simp only [List.all_cons, List.all_nil, Bool.and_true] at hn
        rw [if_pos h3, if_pos h3, spec_bals hr d (nm_size hn) k (by omega), Option.bind_some]
      · rw [if_neg h3, if_neg h3]
theorem balancesN_len (l : List S45) (d : ByteArray) : (balancesN l d).1.length ≤ l.length := by
  unfold balancesN
  split
  · simp
  · split
    · show (balsN l d).length ≤ _
      unfold balsN
      rw [List.length_map]
      exact scanN_len _ _
    · simp
theorem FnExactBalances : laws_FnExactBalances.PureF := by
  intro l a ⟨hw, hl⟩ ha
  obtain ⟨r, hr, hr'⟩ := szPairS_eq l hw hl
  refine ⟨l.length + 150030 + 1 + 1 + 1, ?_⟩
  unfold laws_FnExactBalances.f
  by_cases h0 : (a.size : Int) > 1048576
  · rw [if_pos h0]
  · rw [if_neg h0, hr _ (by omega), Option.bind_some]
    by_cases h : r < 0
    · rw [if_pos h]
    · have h20 := hr' (by omega)
      have hlm : (l.map cv).length = l.length := List.length_map ..
      have e1 := spec_Bals (l.map cv) a
      have e2 := impl_Bals (l.map cv) a
      have hG := balancesN_len (l.map cv) a
      rw [hlm] at hG
      rw [if_neg h, toPairS_eq l h20 _ (by omega), Option.bind_some, e1 _ (by omega), Option.bind_some, Option.bind_some, e2 _ (by omega), Option.bind_some]
      generalize balancesN (l.map cv) a = p at hG e1 e2 ⊢
      obtain ⟨G, c⟩ := p
      simp only at hG
      have hq : ∀ k, l.length < k → laws_eqBalanceS.f k G G = some true := fun k hk => eqBalanceS_refl G (by omega) k (by omega)
      rw [hq _ (by omega), Option.bind_some, if_pos rfl, bne_self_eq_false]
      simp only [laws_FnExactBalances.j0]
      rw [if_neg (by simp), toPairS_eq l h20 _ (by omega), Option.bind_some, eqPairS_eq _ _ (by omega) _ (by omega), Option.bind_some, if_pos (by simp), markPairS_eq _ (by omega) _ (by omega), Option.bind_some, if_neg (by omega),
        hq _ (by omega), Option.bind_some, if_pos rfl, bne_self_eq_false]
      simp only [laws_FnExactBalances.j1]
      rw [if_neg (by simp), markBalanceS_eq G (by omega) _ (by omega), Option.bind_some, heldBalanceS_eq G.length (by omega) _ (by omega), Option.bind_some, if_neg (by omega), if_pos rfl, toPairS_eq l h20 _ (by omega), Option.bind_some, e2 _ (by omega), Option.bind_some,
        hq _ (by omega), Option.bind_some, if_pos rfl, bne_self_eq_false]
      simp only [laws_FnExactBalances.j2]
      rw [if_neg (by simp), heldBalanceS_eq G.length (by omega) _ (by omega), Option.bind_some, if_neg (by omega), if_pos rfl]
end Go.Proofs.YtpkfdjlmflmilaaDoor.Pure
